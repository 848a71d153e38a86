/- TD, part Z: regions of drawn order, sound. Conditions: none. -/
import Derived.Test.YtmkpmgfieagphaaGreatDoorQTDy
namespace Go.aL
open Go
def w9(v:ab):Bool:=
 match v.rt with
 |some (.int _)=>true
 |some .bool=>true
 |some .str=>true
 |_=>false
def J9(P:Program)(S:ar)(t:TypeId)(id:Nat)(i:ab):Option dK:=
 match i.rt,jP P t,dm S.h id with
 |some (.int k),some n,some (.rw _ c y)=>match Nat.beq n (c5 c)with
  |true=>some ⟨[],oM S.g (.iA c) (.jX c k) y i,.gu id i 0⟩
  |false=>none
 |_,_,_=>none
def Ka(P:Program)(S:ar)(t:TypeId)(x i:ab):Option dK:=
 match i.rt,jP P t,uC x with
 |some (.int k),some n,some c=>match Nat.beq n (c5 c)with
  |true=>some ⟨[.f2 (.jX c k) x i],oM S.g (.iA c) (.jX c k) x i,.ip c S.k 0⟩
  |false=>none
 |_,_,_=>none
def Kb(P:Program)(S:ar)(t:TypeId)(id off:Nat)(i:ab):Option dK:=
 match i.rt,tY P t,uz S (.dz id off)with
 |some (.int _),some (len,n),some _=>match i with
  | .cs (.int _ (.ofNat j))=>match Nat.blt j len,wB (j*n) (.dz id off)with
   |true,some p=>some ⟨[],[],p⟩
   |_,_=>none
  |i=>some ⟨[],wz S.g len i,.gB id off i n⟩
 |_,_,_=>none
def Dt(P:Program)(N:Nat)(S:ar)(t:TypeId)(x:ab)(lo hi:Option Operand):Option dK:=
 match wD N S lo,wD N S hi,x.rt,jP P t with
 |some l,some h,some (.li c),some n=>match Nat.beq n (c5 c)with
  |true=>some ⟨[.eR c x l h],[.eR c x l h],.bg (.li c) S.k⟩
  |false=>none
 |_,_,_,_=>none
def rk(P:Program)(N:Nat)(S:ar)(o:Oper):Option dK:=
 match o.op with
 | .move x=>some ⟨[],[],S.aX N x⟩
 | .assign x=>some ⟨[],[],S.aX N x⟩
 | .nilCheck x=>match so S (S.aX N x)with
  |true=>some ⟨[],[],S.aX N x⟩
  |false=>none
 | .fieldAddr t x f=>match rX P t f,so S (S.aX N x)with
  |some k,true=>match wB k (S.aX N x)with
   |some p=>some ⟨[],[],p⟩
   |none=>none
  |_,_=>none
 | .load t x=>match uz S (S.aX N x)with
  |some l=>match q5 P t l with
   |some v=>some ⟨[],[],v⟩
   |none=>none
  |none=>match pN P N S o with
   |some r=>match w9 r.v with
    |true=>some r
    |false=>none
   |none=>none
 | .indexAddr t x i=>match S.aX N x with
  | .aN id=>J9 P S t id (S.aX N i)
  | .dz id off=>Kb P S t id off (S.aX N i)
  |y=>Ka P S t y (S.aX N i)
 | .slice t x lo hi none=>match Dt P N S t (S.aX N x) lo hi with
  |some r=>some r
  |none=>match pN P N S o with
   |some r=>match w9 r.v with
    |true=>some r
    |false=>none
   |none=>none
 |_=>match pN P N S o with
  |some r=>match w9 r.v with
   |true=>some r
   |false=>none
  |none=>none
def nk(o:Oper):Bool:=
 match o.op with
 | .store _ _ _=>true
 | .alloc _=>true
 | .box _ _=>true
 | .buildSlice _ _ _=>true
 | .mapUpdate _ _ _ _=>true
 | .call c=>match c.callee with
  | .builtin .append=>true
  | .builtin .copy=>true
  |_=>false
 |_=>false
mutual
def ab.pure:ab→Bool
 | .bg _ _=>true
 | .fd _ _ _ _=>true
 | .cs _=>true
 | .ip _ _ _=>true
 | .cD l=>ab.eL l
 | .tp l=>ab.eL l
 | .fn _ a b=>ab.eL a&&ab.eL b
 |_=>false
def ab.eL:List ab→Bool
 |[]=>true
 |x::r=>ab.pure x&&ab.eL r
end
def Kc(S:ar)(dst:Option Nat)(C:ar):az:=
 match ab.pure (C.at 0)with
 |true=>.cr .b5 ((⟨S.l,S.h,S.n,C.k,C.g⟩:ar).put dst (C.at 0))
 |false=>.bad 74
def rm(P:Program)(N B:Nat)(T:List (Nat × bN))(inl:Nat→List ab→ar→az)(o:Oper)(S:ar):az:=
 match nk o with
 |true=>match CQ P N B T S o with
  |some r=>match gR S.k r.xs&&(r.v.lt (S.k+r.xs.length)&&eF (S.k+r.xs.length) r.h)with
   |true=>emit S.k r.xs r.ns (.cr .b5 ((r.st S o.dst).eG S.k r.xs))
   |false=>.bad 31
  |none=>.bad (100+Jp o)
 |false=>match pN P N S o with
  |some r=>match gR S.k r.xs&&r.v.lt (S.k+r.xs.length)with
   |true=>emit S.k r.xs r.ns (.cr .b5 ((S.eG S.k r.xs).put o.dst r.v))
   |false=>.bad 30
  |none=>match CT N S o with
   |some (f,as)=>match mT P f&&ab.eL as with
    |true=>(inl f as ⟨.emp,[],0,S.k,S.g⟩).ez (Kc S o.dst) none
    |false=>.bad 32
   |none=>.bad (100+Jp o)
def pY(P:Program)(N B:Nat)(T:List (Nat × bN))(inl:Nat→List ab→ar→az)(ops:Array Oper)(o:Oper)(S:ar):az:=
 match guardOf N ops S o with
 | .yes=>rm P N B T inl o S
 | .no=>match nk o with
  |false=>.cr .b5 (S.put o.dst (.tp []))
  |true=>.bad 73
 | .on gs=>match lO S.k gs&& !(nk o)with
  |true=>match pN P N {S with g:=gT gs S.g} o with
   |some r=>match gR S.k r.xs&&r.v.lt (S.k+r.xs.length)with
    |true=>emit S.k r.xs (r.ns.map (pR gs)) (.cr .b5 ((S.eG S.k r.xs).put o.dst (j3 gs r.v)))
    |false=>.bad 35
   |none=>sz (rb S o.dst) gs (rm P N B T inl o {S with g:=gT gs S.g}) S.g
  |false=>.bad 36
 | .bad=>.bad 37
def sI(P:Program)(N:Nat)(ops:Array Oper)(o:Oper)(S:ar)(k:ar→az):az:=
 match guardOf N ops S o with
 | .yes=>match rk P N S o with
  |some r=>match gR S.k r.xs&&r.v.lt (S.k+r.xs.length)with
   |true=>emit S.k r.xs r.ns (k ((S.eG S.k r.xs).put o.dst r.v))
   |false=>.bad 30
  |none=>.bad 76
 | .no=>k (S.put o.dst (.tp []))
 | .on gs=>match lO S.k gs with
  |true=>match rk P N {S with g:=gT gs S.g} o with
   |some r=>match gR S.k r.xs&&r.v.lt (S.k+r.xs.length)with
    |true=>emit S.k r.xs (r.ns.map (pR gs)) (k ((S.eG S.k r.xs).put o.dst (j3 gs r.v)))
    |false=>.bad 35
   |none=>.bad 76
  |false=>.bad 36
 | .bad=>.bad 37
def pop(P:Program)(N:Nat)(S:ar)(o:Oper):Bool:=
 match o.op with
 | .move _=>true
 | .assign _=>true
 | .nilCheck _=>true
 | .fieldAddr _ _ _=>true
 | .indexAddr _ _ _=>true
 | .slice t x lo hi none=>(Dt P N S t (S.aX N x) lo hi).isSome
 |_=>false
def xa(P:Program)(N:Nat)(ops:Array Oper)(S:ar)(o:Oper):Bool:=
 match guardOf N ops S o with
 | .yes=>pop P N S o
 | .no=>true
 | .on gs=>pop P N {S with g:=gT gs S.g} o
 | .bad=>false
def zbe(P:Program)(N:Nat)(ops:Array Oper)(wr m:List Bool)(S:ar)(i:Nat):Bool:=
 match ops[i]? with
 |some o=>(Region.free .any ops m.toArray i&&(!(wr.getD i false)&&(xa P N ops S o||Ds ops wr m i)))&&(match guardOf N ops S o with
  | .yes=>(rk P N S o).isSome
  | .no=>true
  | .on gs=>(rk P N {S with g:=gT gs S.g} o).isSome
  | .bad=>false)
 |none=>false
def Rh(P:Program)(N:Nat)(ops:Array Oper)(wr m:List Bool)(S:ar):List Nat→Option Nat
 |[]=>none
 |i::r=>match zbe P N ops wr m S i with
  |true=>some i
  |false=>Rh P N ops wr m S r
def Du(N:Nat)(ops:Array Oper)(S:ar)(o:Oper):List (ab × Bool):=
 match guardOf N ops S o with
 | .on gs=>gs
 |_=>[]
def Kd:bU→bU→Bool
 | .d1 i f x,.d1 j g y=>Nat.beq i j&&(decide (f=g)&&fx x y)
 | .d2 i f x y,.d2 j g u v=>(Nat.beq i j&&decide (f=g))&&(fx x u&&fx y v)
 | .rg i b,.rg j c=>Nat.beq i j&&fx b c
 | .dJ g b,.dJ h c=>fx g h&&decide (b=c)
 |_,_=>false
def Dv:List bU→List bU→Bool
 |[],[]=>true
 |x::l,y::m=>Kd x y&&Dv l m
 |_,_=>false
def Ke:bC→bC→Bool
 | .c8 t l,.c8 u m=>Nat.beq t u&&sw l m
 | .rw t c x,.rw u d y=>Nat.beq t u&&(decide (c=d)&&fx x y)
 | .it x p,.it y q=>fx x y&&fx p q
 |_,_=>false
def Dw:List (Nat × bC)→List (Nat × bC)→Bool
 |[],[]=>true
 |(i,x)::l,(j,y)::m=>Nat.beq i j&&(Ke x y&&Dw l m)
 |_,_=>false
def zX:a1 ab→a1 ab→Bool
 | .emp,.emp=>true
 | .n v l r,.n w m s=>(match v,w with
  |some x,some y=>fx x y
  |none,none=>true
  |_,_=>false)&&(zX l m&&zX r s)
 |_,_=>false
def Kf(S U:ar):Bool:=(zX S.l U.l&&Dw S.h U.h)&&((Nat.beq S.n U.n&&Nat.beq S.k U.k)&&Dv S.g U.g)
def Dx(S:ar):List az→Bool
 |[]=>true
 | .cr .b5 U::r=>Kf U S&&Dx S r
 |_=>false
def zY:List az→az
 | .cr .b5 S::r=>match Dx S r with
  |true=>.cr .b5 S
  |false=>.bad 72
 |_=>.bad 71
def pZ(P:Program)(N B:Nat)(T:List (Nat × bN))(inl:Nat→List ab→ar→az)(ops:Array Oper)(wr:List Bool):Nat→List Bool→ar→az
 |0,m,S=>match Region.ready .any ops m.toArray with
  |[]=>.cr .b5 S
  |_=>.bad 70
 |n+1,m,S=>match Region.ready .any ops m.toArray with
  |[]=>.cr .b5 S
  |i::rd=>match Rh P N ops wr m S (i::rd)with
   |some j=>match ops[j]?,(Region.ready .any ops m.toArray).contains j&&(Region.free .any ops m.toArray j&& !(wr.getD j false))with
    |some o,true=>match xa P N ops S o||Ds ops wr m j with
     |true=>sI P N ops o S (pZ P N B T inl ops wr n (m.set j true))
     |false=>.bad 79
    |_,_=>.bad 77
   |none=>match rd,ops[i]? with
    |[],some o=>match decide (wr.getD i false=nk o)with
     |true=>pP N S o.dst (Du N ops S o) (pY P N B T inl ops o S) (pZ P N B T inl ops wr n (m.set i true))
     |false=>.bad 78
    |_,_=>zY ((i::rd).map fun j=>match ops[j]? with
     |some o=>match decide (wr.getD j false=nk o)with
      |true=>pP N S o.dst (Du N ops S o) (pY P N B T inl ops o S) (pZ P N B T inl ops wr n (m.set j true))
      |false=>.bad 78
     |none=>.bad 77)
def Kg(P:Program)(N B:Nat)(T:List (Nat × bN))(inl:Nat→List ab→ar→az)(ops:Array Oper)(S:ar):az:=
 match P.follows .mixedOrders&&Region.noSelect ops with
 |true=>pZ P N B T inl ops (ops.toList.map nk) ops.size (List.replicate ops.size false) S
 |false=>.bad 75
section
variable {P:Program} {G:aY} {N B:Nat} {M:List aW} {T:List (Nat × bN)} {inl:Nat→List ab→ar→az}
theorem zbf{v:ab}{e:Env}(h:w9 v=true): ∃c,v.den G e= .au (.v c):=by
 unfold w9 at h
 split at h
 ·rename_i af;exact⟨_,gG af⟩
 ·rename_i af;exact⟨_,gG af⟩
 ·rename_i af;exact⟨_,gG af⟩
 ·cases h
theorem zbg{t:TypeId}{n:Nat}(h:l2 P t=some n):scalar P t=false:=by
 unfold l2 at h
 unfold scalar
 split at h<;>simp_all
theorem jq.rn{ops:Array Oper}{o:Oper}{s:aM}{v:aD}(h:me P G o s v)(ag:dT ops s o=some true):jq P G ops o s (s.put o.dst v):=by
 intro E a w ⟨β,ro,af⟩
 have hw:=nJ (ops:=ops) ⟨β,ro,af⟩ ag
 obtain⟨c,aa,ae⟩:=h E a w β ro af
 exact⟨c,.inl ⟨hw,fun cn _=>aa cn⟩,β,ro,af.put _ _ _ ae⟩
theorem Ri{o:Oper}{S:ar}{t:TypeId}{x i:Operand}{r:dK}{e:Env}(an:o.op= .indexAddr t x i)(h:Ka P S t (S.aX N x) (S.aX N i)=some r)(hf:S.cw e)(hx: ∀(j:Nat) (x:bQ),r.xs[j]? =some x→Env.at e (S.k+j)=x.den M e)(hn: ∀n∈r.ns,n.ok M e):me P G o (S.den G N B e) (r.v.den G e):=by
 unfold Ka at h
 split at h
 ·rename_i k n c hi lM hc
  split at h
  ·rename_i ad
   cases h
   have ad:=Nat.eq_of_beq_eq_true ad
   rw[ad]at lM
   have gA:aI G (S.den G N B e) i=_:=(bI hf i).trans (jv hi)
   obtain⟨hd,Iy⟩:=Ix (G:=G) (e:=e) hc;obtain⟨g1,g2⟩:=wA hf hi hn
   have:=O8 c _ k _ an lM gA ((bI hf x).trans hd) g1 g2
   have aS:Env.at e S.k=_:=hx 0 _ rfl
   have aa:=PB (G:=G) (x:=List.getD ((S.aX N x).aH e (.li c)) (Int.toNat ((S.aX N i).aH e (.int k))) (fJ c)) aS
   show me P G o _ ((ab.ip c S.k 0).den G e);rw[aa];exact this
  ·cases h
 ·cases h
theorem zbh{o:Oper}{s:aM}(t:TypeId)(x i:Operand)(an:o.op= .indexAddr t x i){n:Nat}(aG:jP P t=some n){k:IntKind}{j:Nat}(hi:aI G s i= .au (.v (.int k (j:Int)))){p:aD}(ak:mU s.heap n j (aI G s x)=some p):
 me P G o s p:=
 fun _ a w β ro af=>by
  obtain⟨cP,len,cap,hc,ai,dk⟩:=Oe af.heap (af.eval x) ak;obtain⟨e,hu,bJ⟩:=yu aG;refine⟨_,fun cn=>?_,dk⟩
  have tX:(0:Int)≤j∧(j:Int)<len:=⟨by omega,by omega⟩
  simp[execOp,an,hc,af.en hi,Instr.indexAt,asIntOf,run_underlying hu,ai,bJ]
theorem Rj{o:Oper}{S:ar}{t:TypeId}{x i:Operand}{id:Nat}{r:dK}{e:Env}(an:o.op= .indexAddr t x i)(hid:S.aX N x= .aN id)(h:J9 P S t id (S.aX N i)=some r)(hf:S.cw e)(hx: ∀(j:Nat) (x:bQ),r.xs[j]? =some x→Env.at e (S.k+j)=x.den M e)(hn: ∀n∈r.ns,n.ok M e):me P G o (S.den G N B e) (r.v.den G e):=by
 unfold J9 at h
 split at h
 ·rename_i k n bs c y hi lM ag
  split at h
  ·rename_i ad
   cases h
   have ad:=Nat.eq_of_beq_eq_true ad
   have gA:aI G (S.den G N B e) i=_:=(bI hf i).trans (jv hi)
   obtain⟨g1,g2⟩:=wA hf hi hn;obtain⟨j,ai⟩: ∃j:Nat,(S.aX N i).aH e (.int k)=(j:Int):=⟨_,(Int.toNat_of_nonneg g1).symm⟩;rw[ai]at gA g2
   have g2:(j:Int)<((List.length (y.aH e (.li c)):Nat):Int):=g2
   have:=zbh (P:=P) (o:=o) t x i an lM gA (p:=.cE id j 0) (by
    rw[bI hf,hid];simp only[ab.den,mU,ar.den,eN,ag,Option.map_some,bC.den]
    rw[if_pos ⟨ad.symm,by rw[List.length_map];omega⟩])
   simp only[ab.den,mh hi,ai,Int.toNat_natCast];exact this
  ·cases h
 ·cases h
theorem Rk{o:Oper}{s:aM}(t:TypeId)(x i:Operand)(an:o.op= .indexAddr t x i){len n:Nat}(aG:tY P t=some (len,n)){k:IntKind}{j:Nat}(hi:aI G s i= .au (.v (.int k (j:Int))))(ai:j<len)
 {cs:List aD}(fu:fc s.heap (aI G s x)=some cs){p:aD}(ak:iO (j*n) (aI G s x)=some p):
 me P G o s p:=
 fun _ a w β ro af=>by
  obtain⟨cP,hc,dk⟩:=Nx ak fu (af.eval x);unfold tY at aG
  split at aG
  ·rename_i m e hu
   cases tZ:P.info? e with
   |none=>simp[tZ]at aG
   |some Xp=>
    simp[tZ]at aG;obtain⟨rfl,rfl⟩:=aG;refine⟨_,fun cn=>?_,dk⟩
    simp[execOp,an,hc,af.en hi,Instr.indexAt,asIntOf,run_underlying hu,Instr.sureAddr,ai,sizeOf,typeInfo,tZ]
  ·cases aG
theorem Rl{o:Oper}{S:ar}{t:TypeId}{x i:Operand}{id off:Nat}{r:dK}{e:Env}(an:o.op= .indexAddr t x i)(hid:S.aX N x= .dz id off)(h:Kb P S t id off (S.aX N i)=some r)(hf:S.cw e)(hn: ∀n∈r.ns,n.ok M e):me P G o (S.den G N B e) (r.v.den G e):=by
 unfold Kb at h
 split at h
 ·rename_i k len n l hi aK ao
  have gA:aI G (S.den G N B e) i=_:=(bI hf i).trans (jv hi)
  have fu:=za (G:=G) (N:=N) (B:=B) (e:=e) ao
  have sA:aI G (S.den G N B e) x=(ab.dz id off).den G e:=by rw[bI hf,hid]
  rw[←sA]at fu
  split at h
  ·rename_i bo j ai
   split at h
   ·rename_i p dP ak
    cases h;refine Rk t x i an aK (k:=bo) (j:=j) (by rw[bI hf,ai];rfl) (eT dP) fu ?_
    have ah:=zb (G:=G) (e:=e) ak
    rw[←ah,sA];rfl
   ·cases h
  ·cases h
   have kA:0≤cc ((S.aX N i).dyn e)∧cc ((S.aX N i).dyn e)<(len:Int):=Cj hf hn
   obtain⟨j,ai⟩: ∃j:Nat,cc ((S.aX N i).dyn e)=(j:Int):=⟨_,(Int.toNat_of_nonneg kA.1).symm⟩;rw[←mh hi,ai]at gA;refine Rk t x i an aK gA (by omega) fu ?_
   rw[sA];simp only[ab.den,iO,ai,Int.toNat_natCast]
 ·cases h
theorem Rm{o:Oper}{S:ar}{t:TypeId}{x:Operand}{lo hi:Option Operand}{r:dK}{e:Env}(an:o.op= .slice t x lo hi none)(h:Dt P N S t (S.aX N x) lo hi=some r)(hf:S.cw e)(hx: ∀(j:Nat) (x:bQ),r.xs[j]? =some x→Env.at e (S.k+j)=x.den M e)(hn: ∀n∈r.ns,n.ok M e):me P G o (S.den G N B e) (r.v.den G e):=by
 unfold Dt at h
 split at h
 ·rename_i l h' c n ao a8 af lM
  split at h
  ·rename_i ad
   cases h;rw[Nat.eq_of_beq_eq_true ad]at lM
   have aS:Env.at e S.k=_:=hx 0 _ rfl
   simp only[ab.den,aS,bQ.den,cQ];exact Pp c _ an lM ((bI hf x).trans (gG af)) (wF hf ao) (wF hf a8) (hn _ (List.mem_singleton.2 rfl))
  ·cases h
 ·cases h
theorem zbi{ops:Array Oper}{o:Oper}{S:ar}{r:dK}{e:Env}(h:rk P N S o=some r)(hf:S.cw e)(hx: ∀(j:Nat) (x:bQ),r.xs[j]? =some x→Env.at e (S.k+j)=x.den M e)(hn: ∀n∈r.ns,n.ok M e)(ag:dT ops (S.den G N B e) o=some true):
 jq P G ops o (S.den G N B e) ((S.den G N B e).put o.dst (r.v.den G e)):=by
 have key:(match pN P N S o with
  |some r=>match w9 r.v with
   |true=>some r
   |false=>none
  |none=>none)=some r→jq P G ops o (S.den G N B e) ((S.den G N B e).put o.dst (r.v.den G e)):=fun h=>by
  split at h
  ·rename_i er av
   split at h
   ·rename_i hc
    cases h
    have dH:=uG (G:=G) (B:=B) (M:=M) av e hf hx hn
    obtain⟨c,zbj⟩:=zbf (G:=G) (e:=e) hc;rw[zbj]at dH⊢;exact jq.qS dH ag
   ·cases h
  ·cases h
 unfold rk at h
 split at h
 ·rename_i x an
  cases h
  have:jT P G o (S.den G N B e)=some ((S.aX N x).den G e):=by unfold jT;rw[an,←bI hf]
  exact(gP.val this ag).l
 ·rename_i x an
  cases h
  have:jT P G o (S.den G N B e)=some ((S.aX N x).den G e):=by unfold jT;rw[an,←bI hf]
  exact(gP.val this ag).l
 ·rename_i x an
  split at h
  ·rename_i ak
   cases h
   have:jT P G o (S.den G N B e)=some ((S.aX N x).den G e):=by
    unfold jT;rw[an];simp only[bI hf,uB ak]
   exact(gP.val this ag).l
  ·cases h
 ·rename_i t x f an
  split at h
  ·rename_i k aj ak
   split at h
   ·rename_i p ah
    cases h
    have:jT P G o (S.den G N B e)=some (p.den G e):=by
     unfold jT;rw[an];simp only[aj,bI hf,uB ak,zb ah]
    exact(gP.val this ag).l
   ·cases h
  ·cases h
 ·rename_i t x an
  split at h
  ·rename_i l ao
   split at h
   ·rename_i v av
    cases h
    have hc:=za (G:=G) (N:=N) (B:=B) (e:=e) ao
    have:B5 P G o (S.den G N B e)=some (v.den G e):=by
     unfold B5;rw[an];simp only[bI hf,hc]
     rcases QD (G:=G) (e:=e) av with⟨n,g1,g2,g3,g4⟩|⟨g1,g2,er,g3⟩
     ·cases l with
      |nil=>simp at g2;omega
      |cons y l=>
       have ah:scalar P t=false:=zbg g1
       rw[g4];simp only[ab.bP,ah,g1];rw[if_pos ⟨by simpa[ng]using g2,g3⟩]
     ·subst g3
      simp only[ab.bP,g2]
    exact jq.load this ag
   ·cases h
  ·exact key h
 ·rename_i t x i an
  split at h
  ·rename_i id hid
   exact jq.rn (Rj an hid h hf hx hn) ag
  ·rename_i id off hid
   exact jq.rn (Rl an hid h hf hn) ag
  ·exact jq.rn (Ri an h hf hx hn) ag
 ·rename_i t x lo hi an
  split at h
  ·rename_i er ah
   cases h;exact jq.rn (Rm an ah hf hx hn) ag
  ·exact key h
 ·exact key h
mutual
theorem Rn{e:Env}: ∀{x:ab},ab.pure x=true→ff (x.den G e)=true:=fun {x} h=>by
 cases x with
 |cD l=>simp only[ab.den,ff];exact xb (l:=l) h
 |tp l=>simp only[ab.den,ff];exact xb (l:=l) h
 |fn f a b=>
  simp only[ab.pure,Bool.and_eq_true]at h;simp only[ab.den,ff,xb h.1,xb h.2,Bool.and_self]
 |dz k o=>cases h
 |gu k x o=>cases h
 |gB k o x n=>cases h
 |cx k n=>cases h
 |eV g i o=>cases h
 |aN k=>cases h
 |iS k=>cases h
 |fk g b x=>cases h
 |lJ g o=>cases h
 |top=>cases h
 |_=>rfl
theorem xb{e:Env}: ∀{l:List ab},ab.eL l=true→eL (ab.bP G e l)=true:=fun {l} h=>by
 match l with
 |[]=>rfl
 |x::r=>
  simp only[ab.eL,Bool.and_eq_true]at h;simp only[ab.bP,eL,Rn h.1,xb h.2,Bool.and_self]
end
def sJ(G:aY)(N B:Nat)(M:List aW)(t:az)(e:Env)(aR:Nat):aM→Prop:=fun st=>
 ∃aP ay,run M t e=some (.b5,aP,ay)∧aP.cv∧aP.cw ay∧bX aR e ay∧aR≤aP.k∧st=aP.den G N B ay
theorem Ro(ch:gI P G M inl){ops:Array Oper}{o:Oper}{S:ar}{e:Env}(ad:S.cv)(hf:S.cw e)(ah:(rm P N B T inl o S).safe M e)(ag:dT ops (S.den G N B e) o=some true):
 (nk o=true→J8 P G ops o (S.den G N B e) (sJ G N B M (rm P N B T inl o S) e S.k))∧(nk o=false→j8 P G ops o (S.den G N B e) (sJ G N B M (rm P N B T inl o S) e S.k)):=by
 refine⟨fun hw=>?_,fun hw=>?_⟩
 ·unfold rm at ah⊢
  rw[hw]at ah⊢;simp only at ah⊢
  split at ah
  ·rename_i r aJ
   split at ah
   ·rename_i hc
    simp only[Bool.and_eq_true]at hc;obtain⟨gj,fy⟩:=mj ah
    have bF:bX S.k e (c1 M e S.k r.xs):=jx (Nat.le_refl _)
    have dH:=Ql (G:=G) (M:=M) aJ (c1 M e S.k r.xs) (ie bF ad.g hf) (iY hc.1) gj
    rw[lg bF ad]at dH;obtain⟨cn,cH⟩:=Qr (M:=M) (o:=o) ad hf hc.1 hc.2.1 hc.2.2;exact fun E a w af=>⟨nJ af ag,fun K Q hK=>dH E a w af K Q fun a6 w' dS=>hK _ ⟨(r.st S o.dst).eG S.k r.xs,_,lN,cn,cH,bF,Nat.le_add_right _ _,rfl⟩ a6 w' dS⟩
   ·exact ah.elim
  ·exact ah.elim
 ·unfold rm at ah⊢
  rw[hw]at ah⊢;simp only at ah⊢
  split at ah
  ·rename_i r av
   split at ah
   ·rename_i hc
    simp only[Bool.and_eq_true]at hc;obtain⟨gj,fy⟩:=mj ah;obtain⟨bB,a2,a3⟩:=re (M:=M) (G:=G) (N:=N) (B:=B) ad hf hc.1
    have bF:bX S.k e (c1 M e S.k r.xs):=jx (Nat.le_refl _)
    have dH:=uG (G:=G) (B:=B) (M:=M) av (c1 M e S.k r.xs) (ie bF ad.g hf) (iY hc.1) gj
    rw[lg bF ad]at dH;exact j8.v dH ag ⟨(S.eG S.k r.xs).put o.dst r.v,_,lN,j4 bB hc.2,j5 a2,bF,by rw[j6];exact Nat.le_add_right _ _,by rw[fw,a3]⟩
   ·exact ah.elim
  ·split at ah
   ·rename_i f as iy
    split at ah
    ·rename_i gf
     simp only[Bool.and_eq_true]at gf;obtain⟨gf,Kh⟩:=gf;obtain⟨g1,g2,g3⟩:=jt (inl f as ⟨.emp,[],0,S.k,S.g⟩) none ah;unfold CT at iy
     split at iy
     ·rename_i c wx
      split at iy
      ·rename_i x hx
       split at iy
       ·rename_i zal p gx uD
        cases iy;obtain⟨callee,args,ts⟩:=c;simp only at hx;subst hx
        have bA:ab.cB S.k (p++args.toList.map (S.aX N)++gx)=true:=by
         have gF:=y4 (N:=N) ad x
         rw[uD]at gF;simp only[ab.lt,Bool.and_eq_true]at gF;refine zy (zy gF.1 ?_) gF.2
         generalize args.toList=l
         induction l with
         |nil=>rfl
         |cons y r aQ=>simp only[List.map_cons,ab.cB,y4 ad y,aQ,Bool.and_self]
        have oT:ab.bP G e (p++args.toList.map (S.aX N)++gx)=ab.bP G e p++args.toList.map (aI G (S.den G N B e))++ab.bP G e gx:=by
         rw[eD,eD,eD,List.map_append,List.map_append,List.map_map]
         congr 2
         exact List.map_congr_left fun y _=>(bI hf y).symm
        have zbk:(⟨.emp,[],0,S.k,S.g⟩:ar).cv:=⟨fun i x hx=>by simp[a1.get]at hx,rfl,ad.g⟩
        have gO:=ch f _ ⟨.emp,[],0,S.k,S.g⟩ e zbk bA hf g1
        have xc:=xb (G:=G) (e:=e) Kh
        rw[oT]at gO xc;refine j8.call wx (by rw[bI hf,uD];rfl) gf ag xc gO fun r bO ⟨C,aw,aA,et,gQ,lj,rf,pU,nS⟩=>?_
        have ak:=(g3 C aw aA).1
        have lh:ab.pure (C.at 0)=true:=by
         unfold Kc at ak
         split at ak
         ·assumption
         ·exact ak.elim
        refine⟨by rw[et];exact Rn lh,(⟨S.l,S.h,S.n,C.k,C.g⟩:ar).put o.dst (C.at 0),aw,?_,?_,j5 rf,pU,by rw[j6];exact nS,?_⟩
        ·rw[g2,aA]
         simp only[ic,Kc,lh];rfl
        ·refine j4 ⟨fun i x hx=>gh nS (ad.l i x hx),uy nS ad.h,lj.g⟩ ?_
         show(C.at 0).lt C.k=true;unfold ar.at
         cases h3:C.l.get 0 with
         |none=>rfl
         |some y=>exact lj.l 0 y h3
        ·rw[fw,et]
         have:=lg (G:=G) (N:=N) (B:=B) (S:=S) pU ad
         have ae:(ar.mk S.l S.h S.n C.k C.g).den G N B aw=S.den G N B e:=this
         rw[ae]
       ·cases iy
      ·cases iy
     ·cases iy
    ·exact ah.elim
   ·exact ah.elim
theorem zbl{o:Oper}{S:ar}{e:Env}(ad:S.cv)(hf:S.cw e):sJ G N B M (.cr .b5 (S.put o.dst (.tp []))) e S.k ((S.den G N B e).put o.dst (.tuple [])):=
 ⟨S.put o.dst (.tp []),e,rfl,j4 ad rfl,j5 hf,bX.refl _ _,by rw[j6];exact Nat.le_refl _,by rw[fw];rfl⟩
theorem j8.mono{ops:Array Oper}{o:Oper}{s:aM}{A Rp:aM→Prop}(h:j8 P G ops o s A)(cV: ∀t,A t→Rp t):j8 P G ops o s Rp:=fun E a w af=>by
 rcases h E a w af with⟨aa,ae⟩|⟨aa,t,ae,aq⟩
 ·exact .inl ⟨aa,fun K Q hK=>ae K Q fun t aG=>hK t (cV t aG)⟩
 ·exact .inr ⟨aa,t,cV t ae,aq⟩
theorem Rq(ch:gI P G M inl){ops:Array Oper}{o:Oper}{S:ar}{e:Env}(ad:S.cv)(hf:S.cw e)(ah:(pY P N B T inl ops o S).safe M e):
 (nk o=true→J8 P G ops o (S.den G N B e) (sJ G N B M (pY P N B T inl ops o S) e S.k))∧(nk o=false→j8 P G ops o (S.den G N B e) (sJ G N B M (pY P N B T inl ops o S) e S.k)):=by
 have ag:=Jt (G:=G) (N:=N) (B:=B) (ops:=ops) (o:=o) hf
 unfold pY at ah⊢
 cases jc:guardOf N ops S o with
 |yes=>
  rw[jc]at ag ah;exact Ro ch ad hf ah ag
 |no=>
  rw[jc]at ag ah;simp only at ah⊢
  split at ah
  ·rename_i hw
   exact⟨fun h=>(by rw[hw]at h;cases h),fun _=>.no ag (zbl ad hf)⟩
  ·exact ah.elim
 |bad=>rw[jc]at ah;exact ah.elim
 |on gs=>
  rw[jc]at ag ah;simp only at ah⊢;obtain⟨g1,g2⟩:=ag
  split at ah
  ·rename_i Rr
   simp only[Bool.and_eq_true,Bool.not_eq_true']at Rr;obtain⟨kH,hw⟩:=Rr;refine⟨fun h=>(by rw[hw]at h;cases h),fun _=>?_⟩
   split at ah
   ·rename_i q av
    split at ah
    ·rename_i hc
     simp only[Bool.and_eq_true]at hc;obtain⟨gj,fy⟩:=mj ah;obtain⟨bB,a2,a3⟩:=re (M:=M) (G:=G) (N:=N) (B:=B) ad hf hc.1
     have bF:bX S.k e (c1 M e S.k q.xs):=jx (Nat.le_refl _)
     have hW:fq (c1 M e S.k q.xs) gs=fq e gs:=C2 bF kH
     have aj:S.k≤S.k+q.xs.length:=Nat.le_add_right _ _
     have oP:(j3 gs q.v).lt (S.k+q.xs.length)=true:=C0 (C1 aj kH) hc.2
     have hr: ∀t,t=(S.den G N B e).put o.dst ((j3 gs q.v).den G (c1 M e S.k q.xs))→sJ G N B M (emit S.k q.xs (q.ns.map (pR gs)) (.cr .b5 ((S.eG S.k q.xs).put o.dst (j3 gs q.v)))) e S.k t:=fun t aG=>
      ⟨(S.eG S.k q.xs).put o.dst (j3 gs q.v),_,lN,j4 bB oP,j5 a2,bF,by rw[j6];exact Nat.le_add_right _ _,by rw[fw,a3,aG]⟩
     cases e4:fq e gs with
     |true=>
      have jR:=wW hf e4
      have ix:=wV ad kH
      have dH:=uG (G:=G) (B:=B) (M:=M) av (c1 M e S.k q.xs) (ie bF ix.g jR) (iY hc.1) fun n hn=>C5 (gj (pR gs n) (List.mem_map.2 ⟨n,hn,rfl⟩)) (hW.trans e4)
      have wX:({S with g:=gT gs S.g}:ar).den G N B (c1 M e S.k q.xs)=S.den G N B e:=lg (S:={S with g:=gT gs S.g}) bF ix
      rw[wX]at dH;exact j8.v dH (g1 e4) (hr _ (by rw[C3 (hW.trans e4)]))
     |false=>exact j8.no (g2 e4) (hr _ (by rw[C4 (hW.trans e4)]))
    ·exact ah.elim
   ·cases e4:fq e gs with
    |false=>
     obtain⟨hG,dh,dv,kq⟩:=Jv (M:=M) (x:=rm P N B T inl o {S with g:=gT gs S.g}) (y:=rb S o.dst) (l:=S.g) e4 kH ad.g hf
     obtain⟨aP,cN,dA,Jx,u0,Jy⟩:=Qz (G:=G) (N:=N) (B:=B) (dst:=o.dst) ad dv kq;exact j8.no (g2 e4) ⟨aP,e,by rw[dh,cN];rfl,dA,Jx,bX.refl _ _,u0,Jy.symm⟩
    |true=>
     have jR:=wW hf e4
     have ix:=wV ad kH
     obtain⟨f1,f2⟩:=Ju (M:=M) (x:=rm P N B T inl o {S with g:=gT gs S.g}) (y:=rb S o.dst) (l:=S.g) e4
     refine j8.mono ((Ro ch (S:={S with g:=gT gs S.g}) ix jR (f2 ah) (g1 e4)).2 hw) fun t ⟨aP,ay,aa,ae⟩=>⟨aP,ay,?_,ae⟩
     rw[f1];exact aa
  ·exact ah.elim
theorem Rs{ops:Array Oper}{o:Oper}{S:ar}{e:Env}{k:ar→az}(X:aM→aM→Prop)(c:ar→Prop)
 (ao: ∀(S:ar) (r:dK) (e:Env),c S→rk P N S o=some r→S.cw e→(∀(j:Nat) (x:bQ),r.xs[j]? =some x→Env.at e (S.k+j)=x.den M e)→(∀n∈r.ns,n.ok M e)→dT ops (S.den G N B e) o=some true→X (S.den G N B e) ((S.den G N B e).put o.dst (r.v.den G e)))
 (aj: ∀s,dT ops s o=some false→X s (s.put o.dst (.tuple [])))(h3:guardOf N ops S o= .yes→c S)(BM: ∀gs,guardOf N ops S o= .on gs→c {S with g:=gT gs S.g})(ad:S.cv)(hf:S.cw e)(ah:(sI P N ops o S k).safe M e):
 ∃aP ay,aP.cv∧aP.cw ay∧bX S.k e ay∧S.k≤aP.k∧(k aP).safe M ay∧run M (sI P N ops o S k) e=run M (k aP) ay∧X (S.den G N B e) (aP.den G N B ay):=by
 have ag:=Jt (G:=G) (N:=N) (B:=B) (ops:=ops) (o:=o) hf
 unfold sI at ah⊢
 cases jc:guardOf N ops S o with
 |bad=>rw[jc]at ah;exact ah.elim
 |no=>
  rw[jc]at ag ah
  have:=aj _ ag
  exact⟨S.put o.dst (.tp []),e,j4 ad rfl,j5 hf,bX.refl _ _,by rw[j6];exact Nat.le_refl _,ah,rfl,by rw[fw];exact this⟩
 |yes=>
  rw[jc]at ag ah;simp only at ah⊢
  split at ah
  ·rename_i q av
   split at ah
   ·rename_i hc
    simp only[Bool.and_eq_true]at hc;obtain⟨gj,fy⟩:=mj ah;obtain⟨bB,a2,a3⟩:=re (M:=M) (G:=G) (N:=N) (B:=B) ad hf hc.1
    have bF:bX S.k e (c1 M e S.k q.xs):=jx (Nat.le_refl _)
    have hd:=lg (G:=G) (N:=N) (B:=B) bF ad
    have dH:=ao _ _ _ (h3 jc) av (ie bF ad.g hf) (iY hc.1) gj (by rw[hd];exact ag)
    rw[hd]at dH;exact⟨(S.eG S.k q.xs).put o.dst q.v,_,j4 bB hc.2,j5 a2,bF,by rw[j6];exact Nat.le_add_right _ _,fy,lN,by rw[fw,a3];exact dH⟩
   ·exact ah.elim
  ·exact ah.elim
 |on gs=>
  rw[jc]at ag ah;simp only at ah⊢;obtain⟨g1,g2⟩:=ag
  split at ah
  ·rename_i kH
   split at ah
   ·rename_i q av
    split at ah
    ·rename_i hc
     simp only[Bool.and_eq_true]at hc;obtain⟨gj,fy⟩:=mj ah;obtain⟨bB,a2,a3⟩:=re (M:=M) (G:=G) (N:=N) (B:=B) ad hf hc.1
     have bF:bX S.k e (c1 M e S.k q.xs):=jx (Nat.le_refl _)
     have hW:fq (c1 M e S.k q.xs) gs=fq e gs:=C2 bF kH
     have CY:S.k≤S.k+q.xs.length:=Nat.le_add_right _ _
     have oP:(j3 gs q.v).lt (S.k+q.xs.length)=true:=C0 (C1 CY kH) hc.2
     refine⟨(S.eG S.k q.xs).put o.dst (j3 gs q.v),_,j4 bB oP,j5 a2,bF,by rw[j6];exact Nat.le_add_right _ _,fy,lN,?_⟩
     rw[fw,a3]
     cases e4:fq e gs with
     |true=>
      have jR:=wW hf e4
      have ix:=wV ad kH
      have wX:({S with g:=gT gs S.g}:ar).den G N B (c1 M e S.k q.xs)=S.den G N B e:=lg (S:={S with g:=gT gs S.g}) bF ix
      have dH:=ao _ _ _ (BM gs jc) av (ie bF ix.g jR) (iY hc.1) (fun n hn=>C5 (gj (pR gs n) (List.mem_map.2 ⟨n,hn,rfl⟩)) (hW.trans e4)) (by rw[wX];exact g1 e4)
      rw[wX]at dH;rw[C3 (hW.trans e4)];exact dH
     |false=>
      rw[C4 (hW.trans e4)];exact aj _ (g2 e4)
    ·exact ah.elim
   ·exact ah.elim
  ·exact ah.elim
theorem zbm{ops:Array Oper}{o:Oper}{S:ar}{e:Env}{k:ar→az}(ad:S.cv)(hf:S.cw e)(ah:(sI P N ops o S k).safe M e):
 ∃aP ay,aP.cv∧aP.cw ay∧bX S.k e ay∧S.k≤aP.k∧(k aP).safe M ay∧run M (sI P N ops o S k) e=run M (k aP) ay∧jq P G ops o (S.den G N B e) (aP.den G N B ay):=
 Rs (jq P G ops o) (fun _=>True) (fun _ _ _ _ av hf hx hn ag=>zbi av hf hx hn ag) (fun _ h=>(gP.skip h).l) (fun _=>trivial) (fun _ _=>trivial) ad hf ah
theorem gP.rn{ops:Array Oper}{o:Oper}{s:aM}{v:aD}(h:me P G o s v)(ag:dT ops s o=some true):gP P G ops o s (s.put o.dst v):=by
 intro E a w ⟨β,ro,af⟩
 have hw:=nJ (ops:=ops) ⟨β,ro,af⟩ ag
 obtain⟨c,aa,ae⟩:=h E a w β ro af
 exact⟨c,.inl ⟨hw,aa⟩,β,ro,af.put _ _ _ ae⟩
theorem zbn{ops:Array Oper}{o:Oper}{S:ar}{r:dK}{e:Env}(ak:pop P N S o=true)(h:rk P N S o=some r)(hf:S.cw e)(hx: ∀(j:Nat) (x:bQ),r.xs[j]? =some x→Env.at e (S.k+j)=x.den M e)(hn: ∀n∈r.ns,n.ok M e)(ag:dT ops (S.den G N B e) o=some true):
 gP P G ops o (S.den G N B e) ((S.den G N B e).put o.dst (r.v.den G e)):=by
 unfold rk at h
 unfold pop at ak
 split at h
 ·rename_i x an
  cases h
  have:jT P G o (S.den G N B e)=some ((S.aX N x).den G e):=by unfold jT;rw[an,←bI hf]
  exact gP.val this ag
 ·rename_i x an
  cases h
  have:jT P G o (S.den G N B e)=some ((S.aX N x).den G e):=by unfold jT;rw[an,←bI hf]
  exact gP.val this ag
 ·rename_i x an
  split at h
  ·rename_i aJ
   cases h
   have:jT P G o (S.den G N B e)=some ((S.aX N x).den G e):=by
    unfold jT;rw[an];simp only[bI hf,uB aJ]
   exact gP.val this ag
  ·cases h
 ·rename_i t x f an
  split at h
  ·rename_i k aj aJ
   split at h
   ·rename_i p ah
    cases h
    have:jT P G o (S.den G N B e)=some (p.den G e):=by
     unfold jT;rw[an];simp only[aj,bI hf,uB aJ,zb ah]
    exact gP.val this ag
   ·cases h
  ·cases h
 ·rename_i t x an
  rw[an]at ak;cases ak
 ·rename_i t x i an
  split at h
  ·rename_i id hid
   exact gP.rn (Rj an hid h hf hx hn) ag
  ·rename_i id off hid
   exact gP.rn (Rl an hid h hf hn) ag
  ·exact gP.rn (Ri an h hf hx hn) ag
 ·rename_i t x lo hi an
  split at h
  ·rename_i er ah
   cases h;exact gP.rn (Rm an ah hf hx hn) ag
  ·rename_i ah
   rw[an]at ak;simp only[ah,Option.isSome_none]at ak;cases ak
 ·rename_i aa ae aq aT bD cA dx
  split at ak
  ·rename_i x an;exact absurd an (aa x)
  ·rename_i x an;exact absurd an (ae x)
  ·rename_i x an;exact absurd an (aq x)
  ·rename_i t x f an;exact absurd an (aT t x f)
  ·rename_i t x i an;exact absurd an (cA t x i)
  ·rename_i t x lo hi an;exact absurd an (dx t x lo hi)
  ·cases ak
theorem zbo{ops:Array Oper}{o:Oper}{S:ar}{e:Env}{k:ar→az}(ak:xa P N ops S o=true)(ad:S.cv)(hf:S.cw e)(ah:(sI P N ops o S k).safe M e):
 ∃aP ay,aP.cv∧aP.cw ay∧bX S.k e ay∧S.k≤aP.k∧(k aP).safe M ay∧run M (sI P N ops o S k) e=run M (k aP) ay∧gP P G ops o (S.den G N B e) (aP.den G N B ay):=
 Rs (gP P G ops o) (fun S=>pop P N S o=true) (fun _ _ _ hc av hf hx hn ag=>zbn hc av hf hx hn ag) (fun _ h=>gP.skip h)
  (fun ag=>by unfold xa at ak;rw[ag]at ak;exact ak) (fun gs ag=>by unfold xa at ak;rw[ag]at ak;exact ak) ad hf ah
theorem zbp{x y:bU}(h:Kd x y=true):x=y:=by
 unfold Kd at h
 split at h
 ·simp only[Bool.and_eq_true,decide_eq_true_eq]at h;rw[Nat.eq_of_beq_eq_true h.1,h.2.1,fN h.2.2]
 ·simp only[Bool.and_eq_true,decide_eq_true_eq]at h
  obtain⟨⟨aa,ae⟩,aq,aT⟩:=h
  cases Nat.eq_of_beq_eq_true aa;cases ae;rw[fN aq,fN aT]
 ·simp only[Bool.and_eq_true]at h;rw[Nat.eq_of_beq_eq_true h.1,fN h.2]
 ·simp only[Bool.and_eq_true,decide_eq_true_eq]at h;rw[fN h.1,h.2]
 ·cases h
theorem Rt: ∀{l m:List bU},Dv l m=true→l=m
 |[],[],_=>rfl
 |[],_::_,h=>by cases h
 |_::_,[],h=>by cases h
 |x::l,y::m,h=>by
  simp only[Dv,Bool.and_eq_true]at h;rw[zbp h.1,Rt h.2]
theorem zbq{x y:bC}(h:Ke x y=true):x=y:=by
 unfold Ke at h
 split at h
 ·simp only[Bool.and_eq_true]at h;rw[Nat.eq_of_beq_eq_true h.1,wL h.2]
 ·simp only[Bool.and_eq_true,decide_eq_true_eq]at h;rw[Nat.eq_of_beq_eq_true h.1,h.2.1,fN h.2.2]
 ·simp only[Bool.and_eq_true]at h;rw[fN h.1,fN h.2]
 ·cases h
theorem Ru: ∀{l m:List (Nat × bC)},Dw l m=true→l=m
 |[],[],_=>rfl
 |[],_::_,h=>by cases h
 |_::_,[],h=>by cases h
 |(i,x)::l,(j,y)::m,h=>by
  simp only[Dw,Bool.and_eq_true]at h;rw[Nat.eq_of_beq_eq_true h.1,zbq h.2.1,Ru h.2.2]
theorem Ki: ∀{l m:a1 ab},zX l m=true→l=m
 | .emp,.emp,_=>rfl
 | .emp,.n _ _ _,h=>by cases h
 | .n _ _ _,.emp,h=>by cases h
 | .n v l r,.n w m s,h=>by
  simp only[zX,Bool.and_eq_true]at h;rw[Ki h.2.1,Ki h.2.2]
  have aa:=h.1
  cases v<;>cases w<;>first|rfl|(cases aa;done)|(rw[fN aa])
theorem zbr{S U:ar}(h:Kf S U=true):S=U:=by
 obtain⟨bB,a2,a3,a4,a5⟩:=S
 obtain⟨eY,gH,fX,qm,wI⟩:=U
 simp only[Kf,Bool.and_eq_true]at h
 obtain⟨⟨aa,ae⟩,⟨aq,aT⟩,bD⟩:=h
 rw[Ki aa,Ru ae,Nat.eq_of_beq_eq_true aq,Nat.eq_of_beq_eq_true aT,Rt bD]
theorem Rv{S:ar}: ∀{l:List az},Dx S l=true→∀t∈l,t= .cr .b5 S
 |[],_,_,aG=>by cases aG
 |u::r,h,t,aG=>by
  unfold Dx at h
  split at h
  ·rename_i heq;cases heq
  ·rename_i U er heq
   cases heq;simp only[Bool.and_eq_true]at h
   rcases List.mem_cons.1 aG with rfl|aG
   ·rw[zbr h.1]
   ·exact Rv h.2 t aG
  ·cases h
theorem zbs{l:List az}{e:Env}(h:(zY l).safe M e): ∃S,zY l= .cr .b5 S∧∀t∈l,t= .cr .b5 S:=by
 unfold zY at h⊢
 split at h
 ·rename_i S r
  split at h
  ·rename_i ah
   refine⟨S,by simp only[ah],fun t aG=>?_⟩
   rcases List.mem_cons.1 aG with rfl|aG
   ·rfl
   ·exact Rv ah t aG
  ·exact h.elim
 ·exact h.elim
theorem zZ(ch:gI P G M inl){L:List Oper}{wr:List Bool}(la:Region.noSelect L.toArray=true){Q:Exit→aM→Prop}: ∀(n:Nat) (m:List Bool) {S:ar} {e:Env},S.cv→S.cw e→(pZ P N B T inl L.toArray wr n m S).safe M e→(∀st,jb G N B M (pZ P N B T inl L.toArray wr n m S) e S.k .normal st→Q .normal st)→fi P G L Q wr n m (S.den G N B e)
 |0,m,S,e,ad,hf,ah,ef=>by
  unfold pZ at ah ef
  split at ah
  ·rename_i af
   rw[af]at ef;exact fi.done (ef _ ⟨.b5,S,e,rfl,trivial,cL.refl _,ad,hf,bX.refl _ _,Nat.le_refl _⟩) af
  ·exact ah.elim
 |n+1,m,S,e,ad,hf,ah,ef=>by
  unfold pZ at ah ef
  cases af:Region.ready .any L.toArray m.toArray with
  |nil=>
   rw[af]at ef;exact fi.done (ef _ ⟨.b5,S,e,rfl,trivial,cL.refl _,ad,hf,bX.refl _ _,Nat.le_refl _⟩) af
  |cons i rd=>
   rw[af]at ah ef;simp only at ah ef
   split at ah
   ·rename_i j jo
    rw[jo]at ef;simp only at ef
    split at ah
    ·rename_i o an hc
     rw[an,hc]at ef;simp only[Bool.and_eq_true,Bool.not_eq_true']at hc;simp only at ef
     split at ah
     ·rename_i xc
      rw[xc]at ef;simp only at ef
      cases Rw:xa P N L.toArray S o with
      |true=>
       obtain⟨aP,ay,s1,s2,hb,kj,kk,kl,kQ⟩:=zbo (G:=G) (B:=B) Rw ad hf ah;exact fi.zba j (by simpa using an) kQ (zZ ch la n (m.set j true) s1 s2 kk fun st ak=>ef st (ak.sub kl hb kj)) la hc.2.1 (by rw[af];exact hc.1) hc.2.2
      |false=>
       rw[Rw,Bool.false_or]at xc;obtain⟨aP,ay,s1,s2,hb,kj,kk,kl,kQ⟩:=zbm (G:=G) (B:=B) ad hf ah;exact fi.za9 j (by simpa using an) kQ (zZ ch la n (m.set j true) s1 s2 kk fun st ak=>ef st (ak.sub kl hb kj)) la hc.2.1 (by rw[af];exact hc.1) xc
     ·exact ah.elim
    ·exact ah.elim
   ·rename_i jo
    rw[jo]at ef;simp only at ef
    split at ah
    ·rename_i o an
     rw[an]at ef;simp only at ef
     split at ah
     ·rename_i p0
      rw[p0]at ef
      have p0:=of_decide_eq_true p0
      simp only at ef;obtain⟨t1,_,t3⟩:=Jj (G:=G) (B:=B) ad hf ah
      have next: ∀t,sJ G N B M (pY P N B T inl L.toArray o S) e S.k t→fi P G L Q wr n (m.set i true) t:=fun t ⟨aP,ay,aa,ae,aq,aT,bD,cA⟩=>by
       subst cA;obtain⟨dO,aV,dh,dv,kq,qy,Kj,Kk,Kl⟩:=t3 aP ay aa ae aq aT bD
       have:=zZ ch la n (m.set i true) dv kq Kk fun st ak=>ef st (ak.sub Kl qy Kj)
       exact fun E a w af=>this E a w (dh E G a w af)
      obtain⟨cj,kr⟩:=Rq (G:=G) (B:=B) (T:=T) ch ad hf t1
      cases hw:nk o with
      |true=>exact fi.zbb (by simpa using an) af (p0.trans hw) (cj hw) next
      |false=>exact fi.one (by simpa using an) af (p0.trans hw) (kr hw) next
     ·exact ah.elim
    ·rename_i _ rd _ _ hq
     have Rx: ∀st,jb G N B M (zY ((i::rd).map fun j=>match L.toArray[j]? with
      |some o=>match decide (wr.getD j false=nk o)with
       |true=>pP N S o.dst (Du N L.toArray S o) (pY P N B T inl L.toArray o S) (pZ P N B T inl L.toArray wr n (m.set j true))
       |false=>.bad 78
      |none=>.bad 77)) e S.k .normal st→Q .normal st:=fun st ak=>ef st (by
      split
      ·rename_i cl lr;exact(hq cl rfl lr).elim
      ·exact ak)
     clear ef;obtain⟨U,rD,dQ⟩:=zbs ah;rw[rD]at Rx ah;refine fi.any (by rw[af];simp) fun j ai=>?_
     rw[af]at ai
     have xd:=dQ _ (List.mem_map.2 ⟨j,ai,rfl⟩)
     split at xd
     ·rename_i o an
      split at xd
      ·rename_i p0
       have p0:=of_decide_eq_true p0
       have e1:(pP N S o.dst (Du N L.toArray S o) (pY P N B T inl L.toArray o S) (pZ P N B T inl L.toArray wr n (m.set j true))).safe M e:=by rw[xd];trivial
       obtain⟨t1,_,t3⟩:=Jj (G:=G) (B:=B) ad hf e1;refine⟨o,by simpa using an,sJ G N B M (pY P N B T inl L.toArray o S) e S.k,fun t ⟨aP,ay,aa,ae,aq,aT,bD,cA⟩=>?_,fun E a w dk=>?_⟩
       ·subst cA
        obtain⟨dO,aV,dh,dv,kq,qy,Kj,Kk,Kl⟩:=t3 aP ay aa ae aq aT bD
        have:=zZ ch la n (m.set j true) dv kq Kk fun st ak=>Rx st (by rw[←xd];exact ak.sub Kl qy Kj)
        exact fun E a w af=>this E a w (dh E G a w af)
       ·obtain⟨cj,kr⟩:=Rq (G:=G) (B:=B) (T:=T) ch ad hf t1
        cases hw:nk o with
        |true=>
         obtain⟨y1,q4⟩:=cj hw E a w dk;exact .inl ⟨y1,fun K Q hK=>q4 K Q fun t aG a6 w' dS=>hK t aG a6 w' dS (.inl (p0.trans hw))⟩
        |false=>
         rcases kr hw E a w dk with⟨y1,q4⟩|⟨y1,q4⟩
         ·exact .inl ⟨y1,fun K Q hK=>q4 K Q fun t aG a6 w' dS aj=>hK t aG a6 w' dS (.inr aj)⟩
         ·exact .inr ⟨p0.trans hw,y1,q4⟩
      ·cases xd
     ·cases xd
theorem zbt(ch:gI P G M inl):JE P G N B M (Kg P N B T inl):=by
 intro id ops S e ad hf ah
 have lV:ops=ops.toList.toArray:=by simp
 rw[lV]at ah⊢
 generalize ops.toList=L at ah⊢
 unfold Kg at ah⊢
 split at ah
 ·rename_i hc
  simp only[Bool.and_eq_true]at hc;refine bW.zbd _ (zZ ch hc.2 _ _ ad hf ah fun st ak=>ak) hc.1 (by simp)
 ·exact ah.elim
def oc.all(P:Program)(T:List (Nat × bN)):oc:=⟨fun N B _=>J4 N B,fun N B inl=>Kg P N B T inl⟩
theorem Nn:JI P G M (oc.all P T):=fun _ ch _ _=>⟨za5,zbt ch⟩
end
end Go.aL
namespace Go.aL
open Go
section
variable {P:Program} {G:aY} {f:FuncId} {args:List aD} {σ:bz} {n:Nat} {R:aD→bz→Prop}
theorem dI.arg{qW:List aD}(h:dI P G f args σ n R)(aK:fS qW args):dI P G f qW σ n R:=by
 intro w β ro eI aa ae aq aT bD
 refine h w β ro eI (by rw[aa,aK.at.1]) (fun i x hx=>?_) aq aT bD
 obtain⟨y,ax,ah⟩:=aK.at.2 i x hx
 exact ah _ _ _ _ _ _ (ae i y ax)
theorem dI.res{rW:aD→bz→Prop}(h:dI P G f args σ n R)(aJ: ∀r bO,R r bO→rW r bO):dI P G f args σ n rW:=by
 intro w β ro eI aa ae aq aT bD
 refine Calls.mono (h w β ro eI aa ae aq aT bD) fun e w' ⟨v,hN,e8,dR,ro',cO,he,cA,mr⟩=>?_
 exact⟨v,hN,e8,dR,ro',cO,he,aJ _ _ cA,mr⟩
theorem jH(β:Nat→Value)(b:Nat): ¬Own ([]:bz) β b:=fun⟨_,_,ag,_⟩=>by simp[aE]at ag
theorem dI.frame(h:dI P G f args [] 0 R)(ak:eL args=true)(gC: ∀r bO,R r bO→ff r=true):dI P G f args σ n fun r bO=>bO=σ∧∃fg,R r fg:=by
 intro w β ro eI aa ae aq aT bD
 refine Calls.mono (h w β ro eI aa (fun i x hx=>nG (ae i x hx) (mS ak hx)) ⟨by simp[aE],by simp[aE],fun b _=>jH β b,aq.lt⟩ aT (by simp[aE])) fun e w' ⟨v,r,fg,dR,ro',cO,he,af,dk,hs,cq⟩=>?_
 have lE: ∀b,b<w.heap.size→w'.heap[b]? =w.heap[b]? :=fun b ad=>cq.frame b ad (jH β b)
 have fW:c6 ⟨w,ro,σ,β,n⟩ G ⟨[],σ,n,n⟩ ⟨#[],[]⟩ w β ro:=⟨rfl,rfl,by simp,aq,aT,⟨rfl,rfl,rfl,Nat.le_refl _,fun _ _ _=>rfl,fun _ h=>.inl h,fun _ h=>h,fun _ h=>.inl h,fun id _ o ag=>⟨by simp[ag],rfl⟩,bD,Nat.le_refl _⟩,Nat.le_refl _⟩
 have cZ:=fW.grow (w':=w') (ro':=ro') cq.os cq.tape cq.output cq.size lE cq.jL (fun b ad=>by
  rcases cq.iM b ad with q|q|q
  ·exact .inl q
  ·exact absurd q (jH β b)
  ·exact .inr ⟨q,hs.lt b ad⟩)
 exact⟨v,r,σ,β,ro',n,he,⟨rfl,fg,af⟩,nG dk (gC r fg af),cZ.heap,cZ.trans⟩
theorem dI.zbu{qW:List aD}(h:dI P G f args [] 0 R)(aK:fS (hI σ qW) args)(ak:eL (hI σ qW)=true)(gC: ∀r bO,R r bO→jS r=true):dI P G f qW σ n fun r bO=>bO=σ∧∃fg,R r fg:=by
 have h:=h.arg aK
 intro w β ro eI aa ae aq aT bD
 have nE: ∀b,Own σ β b→b<w.heap.size:=fun b ⟨k,p,aj,ak,a7⟩=>(aq.c4 k p aj).hk ak a7
 refine Calls.mono (h w β (uh ro σ β) eI (by rw[uf];exact aa) (fun i x hx=>?_) ⟨by simp[aE],by simp[aE],fun b _=>jH β b,fun b ad=>ad.elim (aq.lt b) (nE b)⟩
  (aT.keep (fun _ _=>rfl) fun _ h=>.inl h) (by simp[aE])) fun e w' ⟨v,r,fg,dR,ro',cO,he,af,dk,hs,cq⟩=>?_
 ·obtain⟨z,br,rfl⟩:=ug _ hx
  exact nG (HB aq (ae i z br)) (mS ak hx)
 have lE: ∀b,b<w.heap.size→w'.heap[b]? =w.heap[b]? :=fun b ad=>cq.frame b ad (jH β b)
 have fW:c6 ⟨w,ro,σ,β,n⟩ G ⟨[],σ,n,n⟩ ⟨#[],[]⟩ w β ro:=⟨rfl,rfl,by simp,aq,aT,⟨rfl,rfl,rfl,Nat.le_refl _,fun _ _ _=>rfl,fun _ h=>.inl h,fun _ h=>h,fun _ h=>.inl h,fun id _ o ag=>⟨by simp[ag],rfl⟩,bD,Nat.le_refl _⟩,Nat.le_refl _⟩
 have cZ:=fW.grow (w':=w') (ro':=ro) cq.os cq.tape cq.output cq.size lE (fun _ h=>h) (fun _ h=>.inl h)
 exact⟨v,r,σ,β,ro,n,he,⟨rfl,fg,af⟩,BU dk (gC r fg af),cZ.heap,cZ.trans⟩
end
def aB.fj(d:aB):aD:=
 match d with
 |⟨.st c,x⟩=>.agg ((cX c x).map .au)
 |⟨r,x⟩=>.au (fM r x)
def nn(rs:List aU)(x:(e2 rs).den):List aD:=(dj rs x).map aB.fj
def ll(rs:List aU)(x:(e2 rs).den):aD:=
 match nn rs x with
 |[v]=>v
 |l=>.tuple l
structure hR where
 f:Nat
 j:Nat
 ps:List aU
 rs:List aU
 eK:Bool
def cp(P:Program)(G:aY)(f:Nat)(m:aW):Prop:=
 ∀x:(e2 m.ps).den,mn m.pre x→dI P G f (nn m.ps x) [] 0 fun v _=>v=ll m.rs (m.m x)
def Ry(P:Program)(G:aY)(M:List aW)(c:hR):Prop:=
 (eJ aW.d M c.j).ps=c.ps∧(eJ aW.d M c.j).rs=c.rs∧cp P G c.f (eJ aW.d M c.j)∧(c.eK=true→(eJ aW.d M c.j).pre=none)
def po(P:Program)(G:aY)(M:List aW)(C:List hR):Prop:=∀c∈C,Ry P G M c
def z1(f:Nat):List hR→Option hR
 |[]=>none
 |c::r=>match Nat.beq c.f f with
  |true=>some c
  |false=>z1 f r
def z6(r:aU)(i:Nat):ab:=
 match r with
 | .st c=>.cD (iT c i 0 (fh c))
 |r=>.bg r i
def hj:Nat→List aU→List ab
 |_,[]=>[]
 |i,r::rs=>z6 r i::hj (i+1) rs
def nU(rs:List aU)(p:Nat):Nat→List aU→List bQ
 |_,[]=>[]
 |i,_::r=>.uv rs p i::nU rs p (i+1) r
def aU.ib:aU→Bool
 | .st _=>true
 |r=>r.one
def aU.sK:aU→Bool
 | .int _=>true
 | .bool=>true
 | .str=>true
 | .st c=>(fh c).all aU.cmp
 |_=>false
def Km(S:ar)(r:aU)(a:ab):Option ab:=
 match r,a with
 | .st c,.cD l=>match hJ (fh c) l with
  |true=>some a
  |false=>none
 | .li c,.aN id=>match dm S.h id with
  |some (.rw _ d x)=>match decide (c=d)&&x.fz (.li c)with
   |true=>some x
   |false=>none
  |_=>none
 |r,a=>match r.one&&a.fz r with
  |true=>some a
  |false=>none
def rp(S:ar):List aU→List ab→Option (List ab)
 |[],[]=>some []
 |r::rs,a::as=>match Km S r a,rp S rs as with
  |some x,some l=>some (x::l)
  |_,_=>none
 |_,_=>none
def sL:List ab→Bool
 |[]=>true
 | .aN _::_=>false
 |_::r=>sL r
def ih(c:hR)(as:List ab)(k:Nat):List bQ:=
 match c.rs with
 |[_]=>[.ca c.j as]
 |rs=>.ca c.j as::nU rs k 0 rs
def xe(c:hR)(k:Nat):ab:=
 match c.rs with
 |[r]=>z6 r k
 |rs=>.tp (hj (k+1) rs)
def Dy(S:ar)(xs:List bQ)(v:ab):ar:={S with l:=a1.put .emp 0 v,k:=S.k+xs.length}
def Dz(c:hR)(xs:List ab):List fE:=
 match c.eK with
 |true=>[]
 |false=>[.ca c.j xs]
def Kn(C:List hR)(inl:Nat→List ab→ar→az)(f:Nat)(as:List ab)(S:ar):az:=
 match z1 f C with
 |none=>inl f as S
 |some c=>match rp S c.ps as with
  |none=>inl f as S
  |some xs=>match c.rs.all aU.ib&&(sL as||c.rs.all aU.sK)&&(ab.cB S.k xs&&ab.ra S.n (xe c S.k))with
   |true=>emit S.k (ih c xs S.k) (Dz c xs) (.cr .b5 (Dy S (ih c xs S.k) (xe c S.k)))
   |false=>.bad 51
theorem xf: ∀{rs:List aU} {ds:List aB},ds.map aB.r=rs→dj rs (bZ rs ds)=ds
 |[],[],_=>rfl
 |[],_::_,h=>by cases h
 |[r],ds,h=>by
  obtain⟨d,oD,rfl,aa,ae⟩:=lI h
  cases mb ae
  subst aa;show[⟨d.r,d.as d.r⟩]=[d];rw[yO]
 |r::s::l,ds,h=>by
  obtain⟨d,oD,rfl,aa,ae⟩:=lI h;subst aa;show(⟨d.r,d.as d.r⟩:aB)::dj (s::l) (bZ (s::l) oD)=d::oD;rw[yO,xf ae]
theorem sM: ∀{rs:List aU} {x:(e2 rs).den},(dj rs x).map aB.r=rs
 |[],_=>rfl
 |[_],_=>rfl
 |r::s::l,x=>by
  show r::(dj (s::l) x.2).map aB.r=_;rw[sM]
section
variable {G:aY} {e:Env} {S:ar}
theorem Rz{r:aU}{x:r.den}(h: ∀c,r≠ .st c):(⟨r,x⟩:aB).fj= .au (fM r x):=by
 cases r with
 |st c=>exact absurd rfl (h c)
 |_=>rfl
theorem RA{r:aU}(h:r.one=true): ∀c,r≠ .st c:=fun c hc=>by subst hc;cases h
theorem RB{r:aU}{a:ab}(h:a.fz r=true): ∃y,a.den G e= .au y:=by
 unfold ab.fz at h
 split at h<;>first|exact⟨_,rfl⟩|cases h
theorem RD: ∀{rs:List aU} {l:List ab},hJ rs l=true→∃ys:List bd,ab.bP G e l=ys.map .au
 |[],[],_=>⟨[],rfl⟩
 |[],_::_,h=>by cases h
 |_::_,[],h=>by cases h
 |r::rs,x::xs,h=>by
  simp only[hJ,Bool.and_eq_true]at h;obtain⟨y,ax⟩:=RB (G:=G) (e:=e) h.1;obtain⟨ys,l4⟩:=RD (rs:=rs) h.2;exact⟨y::ys,by simp only[ab.bP,ax,l4,List.map_cons]⟩
theorem RE{σ:bz}: ∀{ys:List bd},hI σ (ys.map .au)=ys.map .au
 |[]=>rfl
 |y::ys=>by simp only[List.map_cons,hI,kB,RE]
theorem zbv{r:aU}{a x:ab}(h:Km S r a=some x):
 Sub (kB (cK G e S.h) (a.den G e)) (aB.fj ⟨r,x.get e r⟩)∧ff (kB (cK G e S.h) (a.den G e))=true∧((∀id,a≠ .aN id)→kB (cK G e S.h) (a.den G e)=a.den G e):=by
 unfold Km at h
 split at h
 ·rename_i c l
  split at h
  ·rename_i ao
   cases h;obtain⟨ys,ax⟩:=RD (G:=G) (e:=e) ao
   have ah:=yU (G:=G) (e:=e) ao
   have hd:kB (cK G e S.h) ((ab.cD l).den G e)=(ab.cD l).den G e:=by simp only[ab.den,kB,ax,RE]
   rw[hd];refine⟨?_,by simp only[ab.den,ax,ff,BF],fun _=>rfl⟩
   simp only[ab.den];exact ah.agg
  ·cases h
 ·rename_i c id
  split at h
  ·rename_i t d y ag
   split at h
   ·rename_i hc
    cases h;simp only[Bool.and_eq_true,decide_eq_true_eq]at hc;obtain⟨rfl,hx⟩:=hc
    have a8:aE (cK G e S.h) id=some (.row false t (c5 c) (List.map (cX c) (x.aH e (.li c)))):=by rw[eN,ag];rfl
    have hd:kB (cK G e S.h) ((ab.aN id).den G e)= .au (.aN (c5 c) (List.map (cX c) (x.aH e (.li c)))):=by simp only[ab.den,kB,a8]
    rw[hd];exact⟨mc.fj fun _ _ _ h=>.li _ _ _ h,rfl,fun h=>absurd rfl (h id)⟩
   ·cases h
  ·cases h
 ·split at h
  ·rename_i hc
   cases h;simp only[Bool.and_eq_true]at hc;obtain⟨y,ax⟩:=RB (G:=G) (e:=e) hc.2
   have hd:kB (cK G e S.h) (a.den G e)=a.den G e:=by rw[ax];rfl
   rw[hd];refine⟨?_,by rw[ax];rfl,fun _=>rfl⟩
   rw[Rz (RA hc.1),Cp hc.1];exact ur hc.2
  ·cases h
theorem xg: ∀{rs:List aU} {as xs:List ab},rp S rs as=some xs→
 fS (hI (cK G e S.h) (ab.bP G e as)) ((gg e rs xs).map aB.fj)∧eL (hI (cK G e S.h) (ab.bP G e as))=true∧(sL as=true→hI (cK G e S.h) (ab.bP G e as)=ab.bP G e as)∧(gg e rs xs).map aB.r=rs
 |[],[],_,h=>by cases h;exact⟨.nil,rfl,fun _=>rfl,rfl⟩
 |[],_::_,_,h=>by cases h
 |_::_,[],_,h=>by cases h
 |r::rs,a::as,xs,h=>by
  simp only[rp]at h
  split at h
  ·rename_i x l aa ae
   cases h;obtain⟨bB,a2,a3⟩:=zbv (G:=G) (e:=e) aa;obtain⟨eY,gH,fX,qm⟩:=xg ae;refine⟨.cons bB eY,by simp only[ab.bP,hI,eL,a2,gH,Bool.and_self],fun hn=>?_,by simp only[gg,List.map_cons,qm]⟩
   have:(∀id,a≠ .aN id)∧sL as=true:=by
    cases a<;>first|(cases hn;done)|exact⟨fun id hid=>(by cases hid),hn⟩
   simp only[ab.bP,hI,a3 this.1,fX this.2]
  ·cases h
end
section
variable {G:aY} {e:Env}
theorem zbw(d:aB):ff d.fj=true:=by
 unfold aB.fj
 split
 ·simp only[ff,BF]
 ·rfl
theorem DA: ∀l:List aB,eL (l.map aB.fj)=true
 |[]=>rfl
 |d::l=>by simp only[List.map_cons,eL,zbw,DA l,Bool.and_self]
theorem Ko{rs:List aU}{x:(e2 rs).den}:ff (ll rs x)=true:=by
 have h:=DA (dj rs x)
 unfold ll nn
 split
 ·rename_i v av
  rw[av]at h;simpa[eL]using h
 ·exact h
theorem RF: ∀{ds:List aB},(∀d∈ds,d.r.sK=true∧∀c,d.r≠ .st c)→mX (ds.map fun d=>.au d.au)=true
 |[],_=>rfl
 |d::ds,h=>by
  have aa:=h d (List.mem_cons_self ..)
  have ae:=RF (ds:=ds) fun x hx=>h x (List.mem_cons_of_mem _ hx)
  obtain⟨r,x⟩:=d
  cases r<;>first|(exact absurd rfl (aa.2 _))|(cases aa.1;done)|exact ae
theorem RG{d:aB}(h:d.r.sK=true):jS d.fj=true:=by
 obtain⟨r,x⟩:=d
 cases r with
 |st c=>
  show jS (.agg ((cX c x).map .au))=true
  have hc:cX c x=(mY c x).map aB.au:=by unfold cX;rfl
  rw[hc,List.map_map];simp only[jS];refine RF fun d hd=>?_
  have af:d.r∈fh c:=by
   have:=O0 c x
   rw[←this];exact List.mem_map_of_mem hd
  have aK:d.r.cmp=true:=List.all_eq_true.1 (show(fh c).all _=true from h) d.r af
  cases hd:d.r<;>rw[hd]at aK<;>first|(cases aK;done)|exact⟨rfl,fun c hc=>by cases hc⟩
 |_=>first|rfl|cases h
theorem Kp: ∀{l:List aB},(∀d∈l,d.r.sK=true)→mX (l.map aB.fj)=true
 |[],_=>rfl
 |d::l,h=>by
  simp only[List.map_cons,mX,RG (h d (List.mem_cons_self ..)),Kp (l:=l) fun x hx=>h x (List.mem_cons_of_mem _ hx),Bool.and_self]
theorem zbx{rs:List aU}{x:(e2 rs).den}(h:rs.all aU.sK=true):jS (ll rs x)=true:=by
 have h:=Kp (l:=dj rs x) fun d hd=>by
  have af:d.r∈rs:=by
   have:=sM (rs:=rs) (x:=x)
   rw[←this];exact List.mem_map_of_mem hd
  exact List.all_eq_true.1 h d.r af
 unfold ll nn
 split
 ·rename_i v av
  rw[av]at h;simpa[mX]using h
 ·exact h
end
section
variable {P:Program} {G:aY} {M:List aW} {C:List hR} {inl:Nat→List ab→ar→az}
theorem RH{f:Nat}{c:hR}: ∀{C:List hR},z1 f C=some c→c∈C∧c.f=f
 |[],h=>by cases h
 |d::r,h=>by
  unfold z1 at h
  split at h
  ·rename_i hd;cases h;exact⟨List.mem_cons_self ..,Nat.eq_of_beq_eq_true hd⟩
  ·obtain⟨aa,ae⟩:=RH h;exact⟨List.mem_cons_of_mem _ aa,ae⟩
theorem Kq(rs:List aU)(p:Nat): ∀(l:List aU) (i j:Nat),(nU rs p i l)[j]? =if j<l.length then some (.uv rs p (i+j))else none
 |[],i,j=>by simp[nU]
 |_::l,i,0=>by simp[nU]
 |_::l,i,j+1=>by
  simp only[nU,List.getElem?_cons_succ,Kq rs p l (i+1) j,List.length_cons,Nat.add_lt_add_iff_right]
  have:i+1+j=i+(j+1):=by omega
  rw[this]
theorem RI(rs:List aU)(p:Nat): ∀(l:List aU) (i k:Nat),p<k→gR k (nU rs p i l)=true
 |[],_,_,_=>rfl
 |_::l,i,k,h=>by
  simp only[nU,gR,bQ.lt,jG h,Bool.true_and];exact RI rs p l (i+1) (k+1) (by omega)
theorem DB{c:hR}{xs:List ab}{k:Nat}(h:ab.cB k xs=true):gR k (ih c xs k)=true:=by
 unfold ih
 split
 ·simp only[gR,bQ.lt,h,Bool.and_self]
 ·simp only[gR,bQ.lt,h,Bool.true_and]
  exact RI _ _ _ _ _ (Nat.lt_succ_self k)
theorem Kr(rs:List aU)(p:Nat): ∀(l:List aU) (i:Nat),(nU rs p i l).length=l.length
 |[],_=>rfl
 |_::l,i=>by simp[nU,Kr rs p l (i+1)]
theorem Ks{e:Env}{r:aU}{i:Nat}{x:r.den}(h:Env.at e i=⟨r,x⟩):(z6 r i).den G e=aB.fj ⟨r,x⟩:=by
 have aK:(Env.at e i).as r=x:=by rw[h,cQ]
 cases r with
 |st c=>
  show aD.agg (ab.bP G e (iT c i 0 (fh c)))= .agg ((cX c x).map .au);rw[wc,aK]
 |_=>show aD.au (fM _ ((Env.at e i).as _))= .au (fM _ x);rw[aK]
theorem z7{e:Env}: ∀{rs:List aU} {i:Nat} {ds:List aB},ds.map aB.r=rs→(∀j d,ds[j]? =some d→Env.at e (i+j)=d)→ab.bP G e (hj i rs)=ds.map aB.fj
 |[],i,ds,h,_=>by cases mb h;rfl
 |r::rs,i,ds,h,hd=>by
  obtain⟨d,oD,rfl,aa,ae⟩:=lI h;subst aa
  have aS:=hd 0 d rfl
  simp only[hj,ab.bP,List.map_cons,List.cons.injEq];refine⟨Ks (x:=d.v) aS,z7 ae fun j zby ai=>?_⟩
  have:=hd (j+1) zby (by simpa using ai)
  rw[←this];congr 1;omega
theorem DC{c:bN}{i k:Nat}(h:i<k): ∀{rs:List aU} {j:Nat},ab.cB k (iT c i j rs)=true
 |[],_=>rfl
 |r::rs,j=>by simp only[iT,ab.cB,ab.lt,jG h,DC h (rs:=rs),Bool.and_self]
theorem Kt{r:aU}{i k:Nat}(h:i<k):(z6 r i).lt k=true:=by
 cases r with
 |st c=>exact DC h
 |_=>exact jG h
theorem z8: ∀{rs:List aU} {i k:Nat},i+rs.length≤k→ab.cB k (hj i rs)=true
 |[],_,_,_=>rfl
 |r::rs,i,k,h=>by
  simp only[List.length_cons]at h;simp only[hj,ab.cB,Kt (r:=r) (show i<k by omega),z8 (rs:=rs) (show i+1+rs.length≤k by omega),Bool.and_self]
theorem Ku{α:Type}{d:α}: ∀{l:List α} {i:Nat} {x:α},l[i]? =some x→eJ d l i=x
 |[],_,_,h=>by cases h
 |y::l,0,x,h=>by simpa[eJ]using h
 |y::l,i+1,x,h=>by
  simp only[eJ];exact Ku (by simpa using h)
theorem zbz{c:hR}{xs:List ab}{k:Nat}{e:Env}{y:(e2 c.rs).den}(ao:ab.cB k xs=true)(aS:Env.at (c1 M e k (ih c xs k)) k=⟨e2 c.rs,y⟩):
 (xe c k).den G (c1 M e k (ih c xs k))=ll c.rs y:=by
 have eC:=iY (M:=M) (e:=e) (DB (c:=c) ao)
 obtain⟨f,dZ,ps,rs,eK⟩:=c
 show(xe ⟨f,dZ,ps,rs,eK⟩ k).den G _=ll rs y
 match rs,y,aS,eC with
 |[],y,aS,eC=>rfl
 |[r],y,aS,eC=>exact Ks aS
 |r::s::l,y,aS,eC=>
  have mV:(dj (r::s::l) y).map aB.r=r::s::l:=sM
  have qJ:ll (r::s::l) y= .tuple ((dj (r::s::l) y).map aB.fj):=by
   unfold ll nn
   split
   ·rename_i v av
    have:=congrArg List.length mV
    have ae:=congrArg List.length av
    simp only[List.length_map,List.length_cons]at this ae;simp only[List.length_nil]at ae;omega
   ·rfl
  rw[qJ];show aD.tuple (ab.bP G _ (hj (k+1) (r::s::l)))=_
  congr 1
  refine z7 mV fun j d ai=>?_
  have hlen:j<(r::s::l).length:=by
   have aa:=(List.getElem?_eq_some_iff.1 ai).1
   have:=congrArg List.length mV
   rw[List.length_map]at this;omega
  have aa:=eC (j+1) (.uv (r::s::l) k j) (by
   show(bQ.ca dZ xs::nU (r::s::l) k 0 (r::s::l))[j+1]? =_
   rw[List.getElem?_cons_succ,Kq,if_pos hlen,Nat.zero_add])
  rw[show k+1+j=k+(j+1)by omega,aa]
  simp only[bQ.den,aS,cQ];exact Ku ai
theorem zbA(mw:po P G M C)(ch:gI P G M inl):gI P G M (Kn C inl):=fun f as S e ad ao hf ah=>by
 unfold Kn at ah⊢
 cases hc:z1 f C with
 |none=>simp only[hc]at ah⊢;exact ch f as S e ad ao hf ah
 |some c=>
  simp only[hc]at ah⊢
  cases hx:rp S c.ps as with
  |none=>simp only[hx]at ah⊢;exact ch f as S e ad ao hf ah
  |some xs=>
   simp only[hx]at ah⊢
   split at ah
   rotate_left
   ·exact ah.elim
   rename_i aj;simp only[Bool.and_eq_true]at aj;obtain⟨⟨zbB,tJ⟩,Aa,zbC⟩:=aj;obtain⟨hm,Ab⟩:=RH hc;obtain⟨g1,g2,g3,g4⟩:=mw c hm;obtain⟨hn,_⟩:=mj ah
   have uV:=DB (c:=c) Aa
   have bF:bX S.k e (c1 M e S.k (ih c xs S.k)):=jx (Nat.le_refl _)
   have cf:c.eK=false→fE.ok M (c1 M e S.k (ih c xs S.k)) (.ca c.j xs):=fun qF=>hn _ (by unfold Dz;rw[qF];exact List.mem_singleton.2 rfl)
   obtain⟨bB,a2,a3,a4⟩:=xg (G:=G) (e:=e) hx
   have eC:=iY (M:=M) (e:=e) uV 0 (.ca c.j xs) (by unfold ih;split<;>rfl)
   obtain⟨RJ,oW,zc3,zc4,RK⟩:=c;simp only at g1 g2 g3 g4 Ab zbB tJ Aa zbC uV bF cf bB a2 a3 a4 eC hx;subst g1 g2 Ab;simp only[Nat.add_zero,bQ.den]at eC;simp only[fE.ok]at cf;rw[wu bF Aa]at eC
   have gO:=g3 (bZ _ (gg e (eJ aW.d M oW).ps xs)) (by
    cases RK with
    |true=>rw[g4 rfl];trivial
    |false=>
     have:=cf rfl
     rw[wu bF Aa]at this
     exact this)
   have uS:nn (eJ aW.d M oW).ps (bZ (eJ aW.d M oW).ps (gg e (eJ aW.d M oW).ps xs))=(gg e (eJ aW.d M oW).ps xs).map aB.fj:=by
    unfold nn;rw[xf a4]
   rw[uS]at gO
   have av:=zbz (G:=G) (c:=⟨RJ,oW,(eJ aW.d M oW).ps,(eJ aW.d M oW).rs,RK⟩) Aa eC
   have pX:dI P G RJ (ab.bP G e as) (cK G e S.h) S.n fun r bO=>bO=cK G e S.h∧∃_:bz,r=ll (eJ aW.d M oW).rs ((eJ aW.d M oW).m (bZ _ (gg e (eJ aW.d M oW).ps xs))):=by
    cases IA:sL as with
    |true=>
     rw[a3 IA]at bB a2;exact((gO.arg bB).frame a2 fun r bO af=>by rw[af];exact Ko).res fun r bO ⟨aa,fg,ae⟩=>⟨aa,fg,ae⟩
    |false=>
     rw[IA,Bool.false_or]at tJ;exact(gO.zbu bB a2 fun r bO af=>by rw[af];exact zbx tJ).res fun r bO ⟨aa,fg,ae⟩=>⟨aa,fg,ae⟩
   refine pX.res fun r bO ⟨aa,_,ae⟩=>⟨_,_,by rw[lN];rfl,?_,?_,?_,?_,bF,Nat.le_add_right _ _⟩
   ·rw[ae,←av]
    show _=ab.den G _ (ar.at (Dy S _ _) 0);unfold Dy ar.at
    simp only[a1.jV,if_true]
   ·rw[aa];exact(y3 bF ad.h).symm
   ·refine⟨fun i x hi=>?_,uy (Nat.le_add_right _ _) ad.h,oJ (Nat.le_add_right _ _) ad.g⟩
    simp only[Dy,a1.jV]at hi
    split at hi
    ·cases hi
     show(xe _ S.k).lt (S.k+_)=true;unfold xe ih
     split
     ·exact Kt (Nat.lt_succ_self _)
     ·simp only[ab.lt]
      refine z8 ?_
      simp only[List.length_cons,Kr];omega
    ·simp[a1.get]at hi
   ·exact ie bF ad.g hf
end
end Go.aL
namespace Go.aL
open Go
section
variable {P:Program} {G:aY} {f:FuncId} {args:List aD} {R:aD→bz→Prop}
theorem dI.ret(er:Prop→aD→Prop)(h:dI P G f args [] 0 R){Q:aD→Prop}(gC: ∀r bO,R r bO→∃v,Sub (kB bO r) v∧ff v=true∧Q v):dI P G f args [] 0 fun v _=>Q v:=by
 intro w β ro eI aa ae aq aT bD
 refine Calls.mono (h w β ro eI aa ae aq aT bD) fun e w' ⟨v,r,bO,dR,ro',cO,he,af,dk,hs,cq⟩=>?_
 obtain⟨u,hu,ak,aJ⟩:=gC r bO af
 have nE: ∀b,Own bO dR b→b<w'.heap.size:=fun b ⟨k,p,aj,ak,a7⟩=>(hs.c4 k p aj).hk ak a7
 refine⟨v,u,[],dR,uh ro' bO dR,cO,he,aJ,nG (hu _ _ _ _ _ _ (HB hs dk)) ak,⟨by simp[aE],by simp[aE],fun b _=>jH dR b,fun b ad=>ad.elim (hs.lt b) (nE b)⟩,
  ⟨cq.os,cq.tape,cq.output,cq.size,cq.frame,fun b ad=>?_,fun b ad=>.inl (cq.jL b ad),fun b ad=>absurd ad (jH dR b),by simp[aE],by simp[aE],cq.le⟩⟩
 rcases ad with ad|ad
 ·exact cq.iM b ad
 ·exact .inr (cq.gK b ad)
end
def fY:Nat→List aB→Env
 |_,[]=>.emp
 |i,d::ds=>a1.put (fY (i+1) ds) i d
theorem Kv: ∀{ds:List aB} {i j:Nat} {d:aB},ds[j]? =some d→Env.at (fY i ds) (i+j)=d
 |[],_,_,_,h=>by cases h
 |x::ds,i,0,d,h=>by
  have h:x=d:=by simpa using h
  simp only[fY,Env.jW,Nat.add_zero,if_true,h]
 |x::ds,i,j+1,d,h=>by
  have:=Kv (i:=i+1) (show ds[j]? =some d by simpa using h)
  simp only[fY,Env.jW];rw[if_neg (by omega),←this]
  congr 1
  omega
def uW(rs:List aU)(v:ab):List ab:=
 match rs,v with
 |[_],v=>[v]
 |_,.tp l=>l
 |_,x=>[x]
def Kw(rs:List aU)(v:ab):Bool:=
 match rs,v with
 |[_],_=>true
 |_,.tp _=>true
 |_,_=>false
def DD(rs:List aU)(C:ar):Option (List ab):=
 match Kw rs (C.at 0)with
 |true=>rp C rs (uW rs (C.at 0))
 |false=>none
def xh(rs:List aU)(C:ar):Bool:=(DD rs C).isSome
def Kx(rs:List aU)(C:ar)(e:Env):(e2 rs).den:=
 match DD rs C with
 |some l=>bZ rs (gg e rs l)
 |none=>(e2 rs).gD
def Ky(M:List aW)(t:az)(rs:List aU)(e:Env):(e2 rs).den:=t.fold M e (fun _ C aw=>Kx rs C aw) (e2 rs).gD
def qz(n:Nat):ar:=⟨.emp,[],0,n,[]⟩
section
variable {P:Program} {G:aY} {M:List aW} {C:List hR} {inl:Nat→List ab→ar→az}
theorem zbD{rs:List aU}{S:ar}{e:Env}{l:List ab}(h:DD rs S=some l):Sub (kB (cK G e S.h) ((S.at 0).den G e)) (ll rs (bZ rs (gg e rs l))):=by
 unfold DD at h
 split at h
 rotate_left
 ·cases h
 rename_i aG
 obtain⟨bB,_,_,a4⟩:=xg (G:=G) (e:=e) h
 have uS:nn rs (bZ rs (gg e rs l))=(gg e rs l).map aB.fj:=by unfold nn;rw[xf a4]
 unfold ll
 rw[uS]
 match rs,bB,a4,aG with
 |[r],bB,a4,aG=>
  obtain⟨d,oD,av,aa,ae⟩:=lI a4
  cases mb ae
  rw[av]at bB⊢;simp only[uW,ab.bP,hI,List.map_cons,List.map_nil]at bB⊢
  cases bB with
  |cons h _=>exact h
 |[],bB,a4,aG=>
  cases av:S.at 0 with
  |tp m=>
   rw[av]at bB;rw[mb a4];rw[mb a4]at bB;exact bB.tuple
  |_=>rw[av]at aG;cases aG
 |r::s::q,bB,a4,aG=>
  cases av:S.at 0 with
  |tp m=>
   rw[av]at bB
   have ao:=congrArg List.length a4
   simp only[List.length_map,List.length_cons]at ao;generalize gg e (r::s::q) l=ds at bB ao⊢
   match ds,ao with
   |d::d2::ds,_=>exact bB.tuple
  |_=>rw[av]at aG;cases aG
theorem RL{t:az}{p:ar→Bool}(h:t.gv.all p=true){e aw:Env}{S:ar}(af:run M t e=some (.b5,S,aw)):p S=true:=List.all_eq_true.1 h S (nh af)
theorem Kz(ch:gI P G M inl){f:Nat}{m:aW}(t:az)(aG:inl f (hj 0 m.ps) (qz m.ps.length)=t)(he:t.gv.all (xh m.rs)=true)
 (ah: ∀x,mn m.pre x→t.safe M (fY 0 (dj m.ps x)))(hm: ∀x,mn m.pre x→Ky M t m.rs (fY 0 (dj m.ps x))=m.m x):cp P G f m:=fun x hx=>by
 subst aG
 have ao:m.ps.length=(dj m.ps x).length:=by have:=congrArg List.length (sM (rs:=m.ps) (x:=x));rw[List.length_map]at this;exact this.symm
 have h:=ch f (hj 0 m.ps) (qz m.ps.length) (fY 0 (dj m.ps x)) ⟨fun i x hi=>by simp[qz,a1.get]at hi,rfl,rfl⟩ (z8 (by show 0+_≤m.ps.length;omega)) (fun c hc=>by cases hc) (ah x hx)
 have hd:ab.bP G (fY 0 (dj m.ps x)) (hj 0 m.ps)=nn m.ps x:=z7 sM fun j d ai=>Kv ai
 rw[hd]at h
 refine(dI.ret (fun _ _=>True) h (Q:=fun v=>v=ll m.rs (m.m x)) fun r bO af=>?_)
 obtain⟨aP,aw,cS,rfl,rfl,_⟩:=af
 have kS:=RL he cS
 obtain⟨l,l7⟩:=Option.isSome_iff_exists.1 kS
 refine⟨_,zbD l7,Ko,?_⟩
 have:=hm x hx
 unfold Ky at this
 rw[j0 cS]at this
 unfold Kx at this
 rw[l7]at this
 rw[←this]
theorem zbE(ch:gI P G M inl){f:Nat}{m:aW}(t:az)(aG:inl f (hj 0 m.ps) (qz m.ps.length)=t)(he:(t.clean&&t.gv.all (xh m.rs))=true)
 (hm: ∀x,Ky M t m.rs (fY 0 (dj m.ps x))=m.m x):cp P G f m:=by
 simp only[Bool.and_eq_true]at he
 exact Kz ch t aG he.2 (fun _ _=>q2 M he.1) fun x _=>hm x
theorem po.nil:po P G M []:=fun _ h=>by cases h
theorem po.cons{c:hR}(h:Ry P G M c)(mw:po P G M C):po P G M (c::C):=fun d hd=>by
 rcases List.mem_cons.1 hd with rfl|hd
 ·exact h
 ·exact mw d hd
end
end Go.aL
namespace Go.aL
open Go
def az.j9(M:List aW):az→{X:Type}→Env→(bR→ar→Env→X)→X→X
 | .cr x S,_,e,K,_=>K x S e
 | .lt i x t,_,e,K,d=>t.j9 M (a1.put e i (x.den M e)) K d
 | .eH _ t,_,e,K,d=>t.j9 M e K d
 | .it g a b,_,e,K,d=>bif g.aH e .bool then a.j9 M e K d else b.j9 M e K d
 | .dn n a ps k,_,e,K,d=>a.j9 M e (fun x S aw=>bif x.bG n then k.j9 M (fv e (fun r p=>⟨r,(p.c0 S).get aw r⟩) ps) K d else K x S aw) d
 | .dY m xid c7 bS ca a k,X,e,K,d=>Sum.elim (fun r=>r) (fun v=>k.j9 M (ba e ca v) K d)
  (bV (fun i (v:bL ca)=>(a.j9 M (ba (a1.put e bS ⟨.int .i64,(i:Int)⟩) ca v) (dU m xid ca K) (.b7 v):Step X (bL ca))) 0 (cc (c7.den M e)).toNat (bZ _ (dt e ca)))
 | .eE m xid ca a k,X,e,K,d=>Sum.elim (fun r=>r) (fun v=>k.j9 M (ba e ca v) K d)
  (b9 (fun v=>(a.j9 M (ba e ca v) (dU m xid ca K) (.b7 v):Step X (bL ca))) cu (bZ _ (dt e ca)))
 | .bad _,_,_,_,d=>d
section
variable {M:List aW}
theorem mm: ∀(t:az) {X:Type} (e:Env) (K:bR→ar→Env→X) (d:X),t.j9 M e K d=t.fold M e K d
 | .cr _ _,_,_,_,_=>rfl
 | .lt i x t,_,e,K,d=>mm t _ K d
 | .eH _ t,_,e,K,d=>mm t _ K d
 | .it g a b,_,e,K,d=>by simp only[az.j9,az.fold,mm a,mm b]
 | .dn n a ps k,X,e,K,d=>by
  show a.j9 M e (fun x S aw=>bif x.bG n then k.j9 M (fv e (fun r p=>⟨r,(p.c0 S).get aw r⟩) ps) K d else K x S aw) d=(az.dn n a ps k).fold M e K d
  rw[mm a]
  cases af:run M a e with
  |none=>rw[yY af,sk af]
  |some l=>
   obtain⟨x,S,aw⟩:=l;rw[j0 af]
   cases hx:x.bG n with
   |true=>rw[cond_true,pI af hx,mm k]
   |false=>rw[cond_false,nb af hx]
 | .dY m xid c7 bS ca a k,X,e,K,d=>by
  rw[wm];simp only[az.j9,mm a,mm k]
 | .eE m xid ca a k,X,e,K,d=>by
  simp only[az.j9,az.fold,mm a,mm k]
 | .bad _,_,_,_,_=>rfl
def az.wp(M:List aW):az→Env→(bR→ar→Env→Prop)→Prop
 | .cr x S,e,Q=>Q x S e
 | .lt i x t,e,Q=>t.wp M (a1.put e i (x.den M e)) Q
 | .eH n t,e,Q=>n.ok M e∧t.wp M e Q
 | .it g a b,e,Q=>(g.aH e .bool=true→a.wp M e Q)∧(g.aH e .bool=false→b.wp M e Q)
 | .dn n a ps k,e,Q=>a.wp M e fun x S aw=>bif x.bG n then k.wp M (fv e (fun r p=>⟨r,(p.c0 S).get aw r⟩) ps) Q else Q x S aw
 | .dY m xid c7 bS ca a k,e,Q=>∃I:Nat→bL ca→Prop,I 0 (bZ _ (dt e ca))∧(∀(i:Nat) (v:bL ca),i<(cc (c7.den M e)).toNat→I i v→
  a.wp M (ba (a1.put e bS ⟨.int .i64,(i:Int)⟩) ca v) fun x S aw=>bif x.bG m then I (i+1) (bZ _ (fa S aw ca))else bif x.cF xid then k.wp M (ba e ca (bZ _ (fa S aw ca))) Q else Q x S aw)∧
  ∀v,I (cc (c7.den M e)).toNat v→k.wp M (ba e ca v) Q
 | .eE m xid ca a k,e,Q=>∃(I:bL ca→Prop) (jd:bL ca→Nat),I (bZ _ (dt e ca))∧jd (bZ _ (dt e ca))<cu∧∀(v:bL ca),I v→
  a.wp M (ba e ca v) fun x S aw=>bif x.bG m then I (bZ _ (fa S aw ca))∧jd (bZ _ (fa S aw ca))<jd v else bif x.cF xid then k.wp M (ba e ca (bZ _ (fa S aw ca))) Q else Q x S aw
 | .bad _,_,_=>False
theorem RM{R A:Type}{b:Nat→A→Step R A}(I:Nat→A→Prop)(uX:R→Prop)(sN:A→Prop)(n:Nat)(h: ∀i v,i<n→I i v→(∀r,b i v= .ret r→uX r)∧(∀bu,b i v= .b7 bu→sN bu)∧∀bu,b i v= .bx bu→I (i+1) bu)
 (he: ∀v,I n v→sN v): ∀(m k:Nat) (a:A),k+m=n→I k a→(∀r,bV b k m a= .inl r→uX r)∧∀v,bV b k m a= .inr v→sN v
 |0,k,a,hn,hi=>by
  have:k=n:=by omega
  subst this;exact⟨fun r af=>(by cases af),fun v av=>(by cases av;exact he a hi)⟩
 |m+1,k,a,hn,hi=>by
  obtain⟨aa,ae,aq⟩:=h k a (by omega) hi
  simp only[bV]
  cases ad:b k a with
  |ret r=>exact⟨fun er af=>(by cases af;exact aa r ad),fun v av=>(by cases av)⟩
  |b7 v=>exact⟨fun er af=>(by cases af),fun bu av=>(by cases av;exact ae v ad)⟩
  |bx v=>exact RM I uX sN n h he m (k+1) v (by omega) (aq v ad)
theorem RN{R A:Type}{b:A→Step R A}(I:A→Prop)(jd:A→Nat)(uX:R→Prop)(sN:A→Prop)(h: ∀v,I v→(∀r,b v= .ret r→uX r)∧(∀bu,b v= .b7 bu→sN bu)∧∀bu,b v= .bx bu→I bu∧jd bu<jd v):
 ∀(m:Nat) (a:A),jd a<m→I a→jU b m a∧(∀r,b9 b m a= .inl r→uX r)∧∀v,b9 b m a= .inr v→sN v
 |0,a,hm,_=>absurd hm (Nat.not_lt_zero _)
 |m+1,a,hm,hi=>by
  obtain⟨aa,ae,aq⟩:=h a hi;simp only[b9,jU]
  cases ad:b a with
  |ret r=>exact⟨trivial,fun er af=>(by cases af;exact aa r ad),fun v av=>(by cases av)⟩
  |b7 v=>exact⟨trivial,fun er af=>(by cases af),fun bu av=>(by cases av;exact ae v ad)⟩
  |bx v=>
   obtain⟨g1,g2⟩:=aq v ad;exact RN I jd uX sN h m v (by omega) g1
def DE(M:List aW)(t:az)(e:Env)(Q:bR→ar→Env→Prop):Prop:=∃x S aw,run M t e=some (x,S,aw)∧Q x S aw
theorem RO{m xid:Nat}{ca:List gZ}{a:az}{e:Env}{v:bL ca}{J:bL ca→Prop}{B:bL ca→Prop}{Q:bR→ar→Env→Prop}
 (h:DE M a e fun x S aw=>bif x.bG m then J (bZ _ (fa S aw ca))else bif x.cF xid then B (bZ _ (fa S aw ca))else Q x S aw):
 (∀r,cM M m xid ca a e v= .ret r→∃x S aw,r=some (x,S,aw)∧Q x S aw)∧(∀bu,cM M m xid ca a e v= .b7 bu→B bu)∧∀bu,cM M m xid ca a e v= .bx bu→J bu:=by
 obtain⟨x,S,aw,af,aJ⟩:=h
 unfold cM
 rw[af]
 simp only
 cases hx:x.bG m with
 |true=>
  rw[hx,cond_true]at aJ;rw[nO hx];exact⟨fun r a8=>(by cases a8),fun bu a8=>(by cases a8),fun bu a8=>(by cases a8;exact aJ)⟩
 |false=>
  rw[hx,cond_false]at aJ
  cases ax:x.cF xid with
  |true=>
   rw[ax,cond_true]at aJ;rw[nP hx ax];exact⟨fun r a8=>(by cases a8),fun bu a8=>(by cases a8;exact aJ),fun bu a8=>(by cases a8)⟩
  |false=>
   rw[ax,cond_false]at aJ;rw[jZ hx ax];exact⟨fun r a8=>(by cases a8;exact⟨_,_,_,rfl,aJ⟩),fun bu a8=>(by cases a8),fun bu a8=>(by cases a8)⟩
theorem ka: ∀(t:az) {e:Env} {Q:bR→ar→Env→Prop},t.wp M e Q→t.safe M e∧DE M t e Q
 | .cr x S,e,Q,h=>⟨trivial,x,S,e,rfl,h⟩
 | .lt i x t,e,Q,h=>ka t (e:=a1.put e i (x.den M e)) h
 | .eH n t,e,Q,h=>⟨⟨h.1,(ka t h.2).1⟩,(ka t h.2).2⟩
 | .it g a b,e,Q,h=>by
  refine⟨⟨fun ag=>(ka a (h.1 ag)).1,fun ag=>(ka b (h.2 ag)).1⟩,?_⟩
  cases ag:g.aH e .bool with
  |true=>
   obtain⟨x,S,aw,aa,ae⟩:=(ka a (h.1 ag)).2;exact⟨x,S,aw,by rw[sB ag];exact aa,ae⟩
  |false=>
   obtain⟨x,S,aw,aa,ae⟩:=(ka b (h.2 ag)).2;exact⟨x,S,aw,by rw[sB ag];exact aa,ae⟩
 | .dn n a ps k,e,Q,h=>by
  obtain⟨aa,x,aP,ay,af,aq⟩:=ka a h
  cases hx:x.bG n with
  |true=>
   rw[hx,cond_true]at aq;obtain⟨fD,k8,di,aw,iv,wo⟩:=ka k aq;refine⟨⟨aa,fun _=>?_⟩,k8,di,aw,by unfold run;rw[pI af hx];exact iv,wo⟩
   have:(fun(r:aU) (p:ec)=>(⟨r,bif a.iV n
    then a.fold M e (fun _ S aw=>(p.c0 S).get aw r) r.gD
    else a.fold M e (fun x S aw=>bif x.bG n then(p.c0 S).get aw r else r.gD) r.gD⟩:aB))=fun r p=>⟨r,(p.c0 aP).get ay r⟩:=by
    funext r p
    simp only[j0 af,hx]
    cases a.iV n<;>rfl
   rw[this];exact fD
  |false=>
   rw[hx,cond_false]at aq;exact⟨⟨aa,fun ai=>by rw[j0 af,hx]at ai;cases ai⟩,x,aP,ay,by unfold run;rw[nb af hx],aq⟩
 | .dY m xid c7 bS ca a k,e,Q,h=>by
  obtain⟨I,aS,ad,he⟩:=h
  have pD:=fun(i:Nat) (v:bL ca) hi av=>ka a (ad i v hi av)
  have Ac:=fun(i:Nat) (v:bL ca) hi av=>RO (v:=v) (J:=I (i+1)) (B:=fun bu=>k.wp M (ba e ca bu) Q) (Q:=Q) (pD i v hi av).2
  obtain⟨cn,cH⟩:=RM I (fun r=>∃x S aw,r=some (x,S,aw)∧Q x S aw) (fun v=>k.wp M (ba e ca v) Q) (cc (c7.den M e)).toNat Ac (fun v av=>he v av) (cc (c7.den M e)).toNat 0 _ (Nat.zero_add _) aS
  have hv:(fun(i:Nat) (v:bL ca)=>(a.fold M (ba (a1.put e bS ⟨.int .i64,(i:Int)⟩) ca v) (dU m xid ca fun _ _ _=>()) (.b7 v):Step Unit (bL ca)))=fun(i:Nat) v=>hM (fun _=>()) (cM M m xid ca a (ba (a1.put e bS ⟨.int .i64,(i:Int)⟩) ca v) v):=by
   funext i v
   exact iB ..
  have KA:=s6 (fun _:Option na=>()) (b:=fun(i:Nat) v=>cM M m xid ca a (ba (a1.put e bS ⟨.int .i64,(i:Int)⟩) ca v) v) (c:=fun(i:Nat) v=>hM (fun _=>()) (cM M m xid ca a (ba (a1.put e bS ⟨.int .i64,(i:Int)⟩) ca v) v)) (fun _ _=>rfl) (cc (c7.den M e)).toNat 0 (bZ _ (dt e ca))
  refine⟨⟨⟨I,aS,fun i v hi av=>⟨(pD i v hi av).1,fun bu hn=>(Ac i v hi av).2.2 bu ?_⟩⟩,?_⟩,?_⟩
  ·rw[iB]at hn
   exact sl hn
  ·rw[hv,KA]
   cases ao:bV (fun(i:Nat) v=>cM M m xid ca a (ba (a1.put e bS ⟨.int .i64,(i:Int)⟩) ca v) v) 0 (cc (c7.den M e)).toNat (bZ _ (dt e ca))with
   |inl r=>trivial
   |inr v=>exact(ka k (cH v ao)).1
  ·unfold DE
   rw[CB]
   cases ao:bV (fun(i:Nat) v=>cM M m xid ca a (ba (a1.put e bS ⟨.int .i64,(i:Int)⟩) ca v) v) 0 (cc (c7.den M e)).toNat (bZ _ (dt e ca))with
   |inl r=>exact cn r ao
   |inr v=>exact(ka k (cH v ao)).2
 | .eE m xid ca a k,e,Q,h=>by
  obtain⟨I,jd,aS,hm,ad⟩:=h
  have pD:=fun(v:bL ca) av=>ka a (ad v av)
  have Ac:=fun(v:bL ca) av=>RO (v:=v) (J:=fun bu=>I bu∧jd bu<jd v) (B:=fun bu=>k.wp M (ba e ca bu) Q) (Q:=Q) (pD v av).2
  obtain⟨zbF,cn,cH⟩:=RN I jd (fun r=>∃x S aw,r=some (x,S,aw)∧Q x S aw) (fun v=>k.wp M (ba e ca v) Q) Ac cu _ hm aS
  have hv:(fun(v:bL ca)=>(a.fold M (ba e ca v) (dU m xid ca fun _ _ _=>()) (.b7 v):Step Unit (bL ca)))=fun v=>hM (fun _=>()) (cM M m xid ca a (ba e ca v) v):=by
   funext v
   exact iB ..
  have KA:=wi (fun _:Option na=>()) (b:=fun v=>cM M m xid ca a (ba e ca v) v) (c:=fun v=>hM (fun _=>()) (cM M m xid ca a (ba e ca v) v)) (fun _=>rfl) cu (bZ _ (dt e ca))
  have zbG:=HU (fun _:Option na=>()) (b:=fun v=>cM M m xid ca a (ba e ca v) v) (c:=fun v=>hM (fun _=>()) (cM M m xid ca a (ba e ca v) v)) (fun _=>rfl) cu (bZ _ (dt e ca))
  refine⟨⟨⟨I,aS,fun v av=>⟨(pD v av).1,fun bu hn=>((Ac v av).2.2 bu ?_).1⟩⟩,?_,?_⟩,?_⟩
  ·rw[iB]at hn
   exact sl hn
  ·rw[hv]
   exact zbG.2 zbF
  ·rw[hv,KA]
   cases ao:b9 (fun v=>cM M m xid ca a (ba e ca v) v) cu (bZ _ (dt e ca))with
   |inl r=>trivial
   |inr v=>exact(ka k (cH v ao)).1
  ·unfold DE
   rw[CC]
   cases ao:b9 (fun v=>cM M m xid ca a (ba e ca v) v) cu (bZ _ (dt e ca))with
   |inl r=>exact cn r ao
   |inr v=>exact(ka k (cH v ao)).2
 | .bad _,_,_,h=>h.elim
end
def vA(M:List aW)(t:az)(rs:List aU)(e:Env):(e2 rs).den:=t.j9 M e (fun _ C aw=>Kx rs C aw) (e2 rs).gD
section
variable {P:Program} {G:aY} {M:List aW} {inl:Nat→List ab→ar→az}
theorem k1(ch:gI P G M inl){f:Nat}{m:aW}(t:az)(aG:inl f (hj 0 m.ps) (qz m.ps.length)=t)(he:(t.clean&&t.gv.all (xh m.rs))=true)
 (hm: ∀x,vA M t m.rs (fY 0 (dj m.ps x))=m.m x):cp P G f m:=
 zbE ch t aG he fun x=>by rw[←hm x];exact(mm t _ _ _).symm
theorem zbH(ch:gI P G M inl){f:Nat}{m:aW}(t:az)(aG:inl f (hj 0 m.ps) (qz m.ps.length)=t)(he:t.gv.all (xh m.rs)=true)
 (ah: ∀x,mn m.pre x→t.wp M (fY 0 (dj m.ps x)) fun _ _ _=>True)(hm: ∀x,vA M t m.rs (fY 0 (dj m.ps x))=m.m x):cp P G f m:=
 Kz ch t aG he (fun x hx=>(ka t (ah x hx)).1) fun x _=>by rw[←hm x];exact(mm t _ _ _).symm
end
end Go.aL
namespace Go.aL
open Go
section
variable {P:Program} {G:aY} {f:FuncId} {args:List aD} {σ:bz} {n:Nat}
theorem dI.zbI{t:TypeId}{cs sO:List aD}{R:aD→List aD→Prop}(h:dI P G f (.ptr 0 0::args) [(0,.box t cs)] 1 fun r bO=>∃cs',bO=[(0,.box t cs')]∧R r cs')(ak:eL args=true)(fu:eL cs=true)
 (gC: ∀r cs',R r cs'→jS r=true∧mX cs'=true){id:Nat}(hid:aE σ id=some (.box t sO))(gb:fS sO cs):
 dI P G f (.ptr id 0::args) σ n fun r bO=>∃cs',bO=eU σ id (.box t cs')∧R r cs':=by
 intro w β ro eI aa ae aq aT bD
 have dq:=aq.c4 id _ hid
 cases dq with
 |box _ _ b arr ay aV ct eA=>
  have RP: ∀k,Own [(0,ej.box t cs)] (fun _=>β id) k→cb (β id)=some k:=fun k ⟨i,o,ag,_,ad⟩=>ad
  have uQ:hl w ro [(0,.box t cs)] (fun _=>β id) 1:=by
   refine⟨fun i o ag=>?_,fun i yv o cl k ag dN _ _ _ _=>?_,fun k aj an=>aq.ft k aj ⟨id,_,hid,rfl,RP k an⟩,aq.lt⟩
   ·simp only[aE]at ag
    split at ag
    ·rename_i hi
     subst hi;cases ag;refine .box t cs b arr ay aV (by rw[ct,gb.at.1]) fun j x ai=>?_
     obtain⟨y,ax,ah⟩:=gb.at.2 j x ai;exact nG (ah _ _ _ _ _ _ (eA j y ax)) (mS fu ai)
    ·cases ag
   ·simp only[aE]at ag dN
    split at ag
    ·split at dN
     ·rename_i bB a2;rw[←bB,←a2]
     ·cases dN
    ·cases ag
  refine Calls.mono (h w (fun _=>β id) ro eI aa (fun i x hx=>?_) uQ aT (fun i o ag=>?_)) fun e w' ⟨v,r,fg,dR,ro',cO,he,⟨cs',G7,af⟩,dk,hs,cq⟩=>?_
  ·cases i with
   |zero=>
    simp only[List.getElem?_cons_zero,Option.some.injEq]at hx
    subst hx
    have:=ae 0 _ rfl
    generalize eI.getD 0 undef=bj at this⊢
    cases this with
    |ptr _ _ _ ao lh=>
     refine .ptr 0 0 bj Nat.one_pos fun bs cs' ag=>?_
     exact lh t sO hid
   |succ i=>exact nG (ae (i+1) x (by simpa using hx)) (mS ak (by simpa using hx))
  ·simp only[aE]at ag
   split at ag
   ·rename_i hi;rw[←hi];exact Nat.one_pos
   ·cases ag
  ·subst G7
   obtain⟨M9,E6⟩:=gC r cs' af
   have fW:c6 ⟨w,ro,σ,β,n⟩ G ⟨[],σ,n,n⟩ ⟨#[],[]⟩ w β ro:=⟨rfl,rfl,by simp,aq,aT,⟨rfl,rfl,rfl,Nat.le_refl _,fun _ _ _=>rfl,fun _ h=>.inl h,fun _ h=>h,fun _ h=>.inl h,fun id _ o ag=>⟨by simp[ag],rfl⟩,bD,Nat.le_refl _⟩,Nat.le_refl _⟩
   have zbJ:dR 0=β id:=(cq.dE 0 Nat.one_pos (.box t cs') (by simp[aE])).2
   have hw:=fW.write (w':=w') id _ (.box t cs') hid rfl rfl (.inl ⟨t,sO,cs',rfl,rfl⟩) cq.os cq.tape cq.output cq.size (fun k aj cf=>cq.frame k aj fun an=>cf (RP k an)) (by
    have zbK:=hs.c4 0 (.box t cs') (by simp[aE])
    cases zbK with
    |box _ _ gm zbL g1 g2 g3 g4=>
     exact .box t cs' gm zbL (by rw[←zbJ];exact g1) g2 g3 fun j x ai=>BU (g4 j x ai) (BT E6 ai))
   exact⟨v,r,eU σ id (.box t cs'),β,ro,n,he,⟨cs',rfl,af⟩,BU dk M9,hw.heap,hw.trans⟩
end
def xi(ds:List aB):List aD:=
 match ds with
 |⟨.st c,x⟩::_=>(cX c x).map .au
 |_=>[]
def DF(ds:List aB):aD:=
 match ds.tail.map aB.fj with
 |[v]=>v
 |l=>.tuple l
def iL(P:Program)(G:aY)(f:Nat)(t:TypeId)(m:aW):Prop:=
 ∀x:(e2 m.ps).den,mn m.pre x→dI P G f (.ptr 0 0::(dj m.ps x).tail.map aB.fj) [(0,.box t (xi (dj m.ps x)))] 1 fun v bO=>∃cs',bO=[(0,.box t cs')]∧v=DF (dj m.rs (m.m x))∧cs'=xi (dj m.rs (m.m x))
structure jK where
 f:Nat
 j:Nat
 t:TypeId
 c:bN
 ps:List aU
 rs:List aU
 eK:Bool
def jK.oX(b:jK):hR:=⟨b.f,b.j,.st b.c::b.ps,.st b.c::b.rs,b.eK⟩
def zbM(P:Program)(G:aY)(M:List aW)(b:jK):Prop:=
 (eJ aW.d M b.j).ps= .st b.c::b.ps∧(eJ aW.d M b.j).rs= .st b.c::b.rs∧iL P G b.f b.t (eJ aW.d M b.j)∧(b.eK=true→(eJ aW.d M b.j).pre=none)
def GM(P:Program)(G:aY)(M:List aW)(C:List jK):Prop:=∀b∈C,zbM P G M b
def DG(f:Nat):List jK→Option jK
 |[]=>none
 |c::r=>match Nat.beq c.f f with
  |true=>some c
  |false=>DG f r
theorem RQ{f:Nat}{c:jK}: ∀{C:List jK},DG f C=some c→c∈C∧c.f=f
 |[],h=>by cases h
 |d::r,h=>by
  unfold DG at h
  split at h
  ·rename_i hd;cases h;exact⟨List.mem_cons_self ..,Nat.eq_of_beq_eq_true hd⟩
  ·obtain⟨aa,ae⟩:=RQ h;exact⟨List.mem_cons_of_mem _ aa,ae⟩
def oY(rs:List aU)(k:Nat):Nat:=
 match rs with
 |[_]=>k
 |_=>k+1
def DH(rs:List aU)(k:Nat):ab:=
 match rs with
 |[r]=>z6 r k
 |rs=>.tp (hj k rs)
def DI(b:jK)(S:ar)(id:Nat)(xs:List ab):ar:=
 ⟨a1.put .emp 0 (DH b.rs (oY b.oX.rs S.k+1)),kD S.h id (.c8 b.t (iT b.c (oY b.oX.rs S.k) 0 (fh b.c))),S.n,S.k+(ih b.oX xs S.k).length,S.g⟩
def RR(b:jK)(S:ar)(t:TypeId)(l rest xs:List ab):Bool:=
 (Nat.beq t b.t&&(hJ (fh b.c) l&&ab.cB S.k l))&&((sL rest&&ab.cB S.k xs)&&((aU.st b.c).sK&&(b.rs.all aU.sK&&b.rs.all aU.ib)))
def KB(C:List jK)(inl:Nat→List ab→ar→az)(f:Nat)(as:List ab)(S:ar):az:=
 match DG f C,as with
 |some b,.dz id 0::rest=>match dm S.h id,rp S b.ps rest with
  |some (.c8 t l),some xs=>match RR b S t l rest xs with
   |true=>emit S.k (ih b.oX (.cD l::xs) S.k) (Dz b.oX (.cD l::xs)) (.cr .b5 (DI b S id (.cD l::xs)))
   |false=>inl f as S
  |_,_=>inl f as S
 |_,_=>inl f as S
section
variable {P:Program} {G:aY} {M:List aW} {C:List jK} {inl:Nat→List ab→ar→az}
theorem zbN{c:hR}{xs:List ab}{k:Nat}{e:Env}{y:(e2 c.rs).den}(ao:ab.cB k xs=true)(aS:Env.at (c1 M e k (ih c xs k)) k=⟨e2 c.rs,y⟩):
 ∀(j:Nat) (d:aB),(dj c.rs y)[j]? =some d→Env.at (c1 M e k (ih c xs k)) (oY c.rs k+j)=d:=by
 have eC:=iY (M:=M) (e:=e) (DB (c:=c) ao)
 obtain⟨f,dZ,ps,rs,eK⟩:=c
 simp only at y aS eC⊢
 match rs,y,aS,eC with
 |[],y,aS,eC=>intro j d ai;cases ai
 |[r],y,aS,eC=>
  intro j d ai
  cases j with
  |zero=>
   have ai:(⟨r,y⟩:aB)=d:=by simpa[dj]using ai
   rw[←ai];exact aS
  |succ j=>simp[dj]at ai
 |r::s::l,y,aS,eC=>
  intro j d ai
  have hlen:j<(r::s::l).length:=by
   have aa:=(List.getElem?_eq_some_iff.1 ai).1
   have:=congrArg List.length (sM (rs:=r::s::l) (x:=y))
   rw[List.length_map]at this;omega
  have aa:=eC (j+1) (.uv (r::s::l) k j) (by
   show(bQ.ca dZ xs::nU (r::s::l) k 0 (r::s::l))[j+1]? =_
   rw[List.getElem?_cons_succ,Kq,if_pos hlen,Nat.zero_add])
  show Env.at _ (k+1+j)=d;rw[show k+1+j=k+(j+1)by omega,aa]
  simp only[bQ.den,aS,cQ];exact Ku ai
theorem zbO{e:Env}{rs:List aU}{k:Nat}{ds:List aB}(af:ds.map aB.r=rs)(h: ∀j d,ds[j]? =some d→Env.at e (k+j)=d):(DH rs k).den G e=(match ds.map aB.fj with|[v]=>v|l=>.tuple l):=by
 match rs,ds,af,h with
 |[],ds,af,h=>cases mb af;rfl
 |[r],ds,af,h=>
  obtain⟨d,oD,rfl,aa,ae⟩:=lI af
  cases mb ae
  subst aa;exact Ks (x:=d.v) (h 0 d rfl)
 |r::s::l,ds,af,h=>
  have:=z7 (G:=G) (i:=k) af h
  obtain⟨d,oD,rfl,aa,ae⟩:=lI af;obtain⟨d2,zc5,rfl,aq,aT⟩:=lI ae;show aD.tuple (ab.bP G e (hj k (r::s::l)))=_;rw[this];rfl
theorem zbP{ds:List aB}{c:bN}{x:fZ c}{r:List aB}(h:ds=⟨.st c,x⟩::r)(hc:(aU.st c).sK=true):mX (xi ds)=true:=by
 subst h
 have:=RG (d:=⟨.st c,x⟩) hc
 exact this
theorem zbQ(mw:GM P G M C)(ch:gI P G M inl):gI P G M (KB C inl):=fun f as S e ad ao hf ah=>by
 unfold KB at ah⊢
 split at ah
 rotate_left
 ·exact ch _ _ S e ad ao hf ah
 rename_i b id rest hc
 split at ah
 rotate_left
 ·exact ch _ _ S e ad ao hf ah
 rename_i t l xs ag hx
 split at ah
 rotate_left
 ·exact ch _ _ S e ad ao hf ah
 rename_i aj
 simp only[RR,Bool.and_eq_true]at aj
 obtain⟨⟨fD,iv,wo⟩,⟨DJ,zbR⟩,RS,RT,zbS⟩:=aj
 have fD:=Nat.eq_of_beq_eq_true fD
 subst fD
 obtain⟨hm,Ab⟩:=RQ hc
 obtain⟨g1,g2,g3,g4⟩:=mw b hm
 have zbT:ab.lt S.k (.cD l)=true:=wo
 have DK:ab.cB S.k (.cD l::xs)=true:=by simp only[ab.cB,zbT,zbR,Bool.and_self]
 obtain⟨hn,_⟩:=mj ah
 have uV:=DB (c:=b.oX) DK
 have bF:bX S.k e (c1 M e S.k (ih b.oX (.cD l::xs) S.k)):=jx (Nat.le_refl _)
 have cf:b.eK=false→fE.ok M (c1 M e S.k (ih b.oX (.cD l::xs) S.k)) (.ca b.j (.cD l::xs)):=fun qF=>hn _ (by unfold Dz;rw[show b.oX.eK=b.eK from rfl,qF];exact List.mem_singleton.2 rfl)
 obtain⟨bB,a2,a3,a4⟩:=xg (G:=G) (e:=e) hx
 have eC:=iY (M:=M) (e:=e) uV 0 (.ca b.j (.cD l::xs)) (by unfold ih;split<;>rfl)
 have dH:=yU (G:=G) (e:=e) iv
 obtain⟨DL,Ad,bt,hy,rq,np,Ae⟩:=b
 simp only[jK.oX]at g1 g2 g3 g4 Ab uV bF cf bB a2 a3 a4 eC iv RS RT zbS dH hx⊢
 subst Ab
 simp only[Nat.add_zero,bQ.den]at eC
 simp only[fE.ok]at cf
 clear ah hn
 generalize eJ aW.d M Ad=m at g1 g2 g3 g4 eC cf
 obtain⟨zc6,zc7,zc8,nV⟩:=m
 simp only at g1 g2 g3 g4 eC cf
 subst g1 g2
 rw[wu bF DK]at eC
 have uU:(gg e (.st hy::rq) (.cD l::xs)).map aB.r= .st hy::rq:=by simp only[gg,List.map_cons,a4]
 have Af:=xf uU
 have gO:=g3 (bZ _ (gg e (.st hy::rq) (.cD l::xs))) (by
  cases Ae with
  |true=>rw[g4 rfl];trivial
  |false=>
   have:=cf rfl
   rw[wu bF DK]at this
   exact this)
 simp only at gO
 rw[Af]at gO
 generalize ax:nV (bZ (.st hy::rq) (gg e (.st hy::rq) (.cD l::xs)))=y at gO eC
 have KC:=zbN (M:=M) (c:=⟨DL,Ad,.st hy::rq,.st hy::np,Ae⟩) DK eC
 obtain⟨d0,sP,mV,qM,hdr⟩:=lI (sM (rs:=.st hy::np) (x:=y))
 obtain⟨zbU,dX⟩:=d0
 simp only at qM
 subst qM
 simp only[mV]at gO KC
 rw[a3 DJ]at bB a2
 have gO:=gO.arg (.cons (Sub.refl _) bB)
 have hid:aE (cK G e S.h) id=some (.box bt (ab.bP G e l)):=by rw[eN,ag];rfl
 have pX:=dI.zbI (R:=fun r cs'=>r=DF (⟨.st hy,dX⟩::sP)∧cs'=xi (⟨.st hy,dX⟩::sP)) (σ:=cK G e S.h) (n:=S.n) gO a2 (BF _) (fun r cs' ⟨dh,dv⟩=>⟨by
  rw[dh]
  have hsc:mX (sP.map aB.fj)=true:=Kp fun d hd=>by
   have:d.r∈np:=by rw[←hdr];exact List.mem_map_of_mem hd
   exact List.all_eq_true.1 RT d.r this
  unfold DF;simp only[List.tail_cons]
  split
  ·rename_i v av
   rw[av]at hsc;simpa[mX]using hsc
  ·exact hsc,by rw[dv];exact zbP rfl RS⟩) hid dH
 have aS:=KC 0 ⟨.st hy,dX⟩ rfl
 rw[Nat.add_zero]at aS
 have hlen:oY (.st hy::np) S.k+1+np.length≤S.k+(ih ⟨DL,Ad,.st hy::rq,.st hy::np,Ae⟩ (.cD l::xs) S.k).length:=by
  cases np with
  |nil=>simp[oY,ih]
  |cons r q=>simp only[oY,ih,List.length_cons,Kr];omega
 have zbV:oY (.st hy::np) S.k<S.k+(ih ⟨DL,Ad,.st hy::rq,.st hy::np,Ae⟩ (.cD l::xs) S.k).length:=by omega
 refine pX.res fun r bO ⟨cs',aa,ae,aq⟩=>⟨_,_,by rw[lN];rfl,?_,?_,?_,?_,bF,Nat.le_add_right _ _⟩
 ·rw[ae]
  have:=zbO (G:=G) (k:=oY (.st hy::np) S.k+1) hdr fun j d ai=>by
   have:=KC (j+1) d (by simpa using ai)
   rw[←this]
   congr 1
   omega
  show _=ab.den G _ (ar.at (DI _ S id _) 0);unfold DI ar.at
  simp only[a1.jV,if_true];exact this.symm
 ·rw[aa,aq]
  show _=cK G _ (kD S.h id _);rw[ux,y3 bF ad.h];simp only[bC.den,jK.oX];rw[wc,aS,cQ];rfl
 ·refine⟨fun i x hi=>?_,CW (o:=.c8 bt (iT hy (oY (.st hy::np) S.k) 0 (fh hy))) (DC zbV) (uy (Nat.le_add_right _ _) ad.h),oJ (Nat.le_add_right _ _) ad.g⟩
  simp only[DI,a1.jV]at hi
  split at hi
  ·cases hi
   show(DH np (oY (.st hy::np) S.k+1)).lt (S.k+_)=true;unfold DH
   split
   ·have Hc:oY (.st hy::[_]) S.k+1<S.k+(ih ⟨DL,Ad,.st hy::rq,.st hy::[_],Ae⟩ (.cD l::xs) S.k).length:=hlen
    exact Kt Hc
   ·simp only[ab.lt]
    exact z8 hlen
  ·simp[a1.get]at hi
 ·exact ie bF ad.g hf
end
end Go.aL
