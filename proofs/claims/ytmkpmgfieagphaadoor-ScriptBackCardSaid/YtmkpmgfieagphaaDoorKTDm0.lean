/- TD, part J: more operations that give values; all of them. Conditions: none. -/
import Derived.Test.YtmkpmgfieagphaaDoorKTDi
import Derived.Laws.Externs
import Derived.Laws.LoneSync
import Derived.LaidEqlPtr
import Derived.Test.YtmkpmgfieagphaaDoorKSMu
import Derived.Test.YtmkpmgfieagphaaDoorKTDb
import Derived.Lib.AppendStr
namespace Go.aG
open Go
def ab.qD(x g:ab)(b:Bool):ab:=
 match x with
 | .e6 h c v=>match wO g h&&(decide (c=b))with
  |true=>v
  |false=>x
 |x=>x
def EH(S:aq)(c x y:ab):Option dq:=
 match c,kh c S.g with
 | .cs (.bool b),_=>some ⟨[],[],match b with|true=>x|false=>y⟩
 |c,some b=>match c.rt with
  |some .bool=>some ⟨[],[],match b with|true=>x|false=>y⟩
  |_=>none
 |c,none=>match c.rt with
  |some .bool=>match(match(x.qD c true).rt with|some r=>some r|none=>(y.qD c false).rt)with
   |some r=>match(x.qD c true).fl r&&((y.qD c false).fl r&&r.one)with
    |true=>some ⟨[.zK r c (x.qD c true) (y.qD c false)],[],.bb r S.k⟩
    |false=>none
   |none=>none
  |_=>none
def qE(r:aU):List ab→Bool
 |[]=>true
 |x::l=>x.fl r&&qE r l
def K5:List ab→Option aU
 |[]=>none
 |x::_=>x.rt
def EI(P:Program)(S:aq)(t:TypeId)(x i:ab):Option dq:=
 match x with
 | .cm l=>match P.underlying t with
  |some (.array len el)=>match scalar P el&&Nat.beq l.length len,(P.info? el).map (·.size)with
   |true,some 1=>match i with
    | .cs (.int .i64 (.ofNat j))=>match l[j]? with
     |some v=>some ⟨[],[],v⟩
     |none=>none
    |i=>match i.rt,K5 l with
     |some (.int .i64),some r=>match qE r l&&r.one with
      |true=>some ⟨[.nth r l i],tX S.g l.length i,.bb r S.k⟩
      |false=>none
     |_,_=>none
   |_,_=>none
  |_=>none
 |x=>match x.rt,i.rt,isStr P t with
  |some .str,some (.int k),true=>some ⟨[.f2 (.ph k) x i],nB S.g .mm (.ph k) x i,.bb (.int .u8) S.k⟩
  |_,_,_=>none
def sh(x:ab):Option bC:=
 match x.rt with
 |some (.li c)=>some c
 |_=>none
def TH(P:Program)(t:TypeId)(n:Nat):Option bC:=
 match P.underlying t with
 |some (.slice el)=>SW.find? fun c=>Nat.beq n (cO c)&&(pv P el (ib c 0 0 (e3 c))).isSome
 |_=>none
def EJ(P:Program)(f:Nat):Nat:=
 match P.funcs[f]? with
 |some fn=>match fn.body.isNone&&fn.origin== "",fn.name== "internal/abi.NoEscape",fn.name== "internal/bytealg.IndexByteString" with
  |true,true,_=>1
  |true,false,true=>2
  |_,_,_=>0
 |none=>0
def EK(P:Program)(S:aq)(f:ab)(as:List ab):Option dq:=
 match f with
 | .fn (.func f) [] []=>match EJ P f,as with
  |1,[x]=>some ⟨[],[],x⟩
  |2,[x,y]=>match x.rt,y.rt with
   |some .str,some (.int .u8)=>some ⟨[.f2 .rJ x y],[],.bb (.int .i64) S.k⟩
   |_,_=>none
  |_,_=>none
 |_=>none
def EL(P:Program)(S:aq)(t:TypeId)(x i:ab):Option dq:=
 match i.rt with
 |some (.int k)=>match iZ P t with
  |some n=>match x with
   | .aL id=>match c2 S.h id with
    |some (.rw _ c y)=>match Nat.beq n (cO c)with
     |true=>some ⟨[],nB S.g (.hU c) (.jh c k) y i,.fY id i 0⟩
     |false=>none
    |_=>none
   | .cC id m=>match c2 S.h id,i with
    |some (.cT _ _),.cs (.int _ (.ofNat j))=>match Nat.blt j m with
     |true=>some ⟨[],[],.de id (j*n)⟩
     |false=>none
    |_,_=>none
   |x=>match sh x with
    |some c=>match Nat.beq n (cO c)with
     |true=>some ⟨[.f2 (.jh c k) x i],nB S.g (.hU c) (.jh c k) x i,.ip c S.k 0⟩
     |false=>none
    |none=>match x.isNil,TH P t n with
     |true,some c=>some ⟨[.f2 (.jh c k) x i],[.f2 0 (.jh c k) x i],.ip c S.k 0⟩
     |_,_=>none
  |none=>match rS P t,se S x with
   |some (len,n),some _=>match i,x with
    | .cs (.int _ (.ofNat j)),x=>match Nat.blt j len,tZ (j*n) x with
     |true,some p=>some ⟨[],[],p⟩
     |_,_=>none
    |i,.de id off=>some ⟨[],tX S.g len i,.ga id off i n⟩
    |_,_=>none
   |_,_=>none
 |_=>none
def EM(P:Program)(S:aq)(t:TypeId)(x:ab):Option dq:=
 match x with
 | .fY id i off=>match c2 S.h id,i.rt with
  |some (.rw _ c y),some (.int k)=>match pv P t ((ib c S.k 0 (e3 c)).drop off),y.fl (.li c)with
   |some v,true=>some ⟨[.f2 (.jh c k) y i],nB S.g (.hU c) (.jh c k) y i,v⟩
   |_,_=>none
  |_,_=>none
 | .ga id off i 1=>match c2 S.h id,i.rt with
  |some (.cT _ l),some (.int _)=>match K5 (l.drop off)with
   |some r=>match qE r (l.drop off)&&(r.one&&scalar P t)with
    |true=>some ⟨[.nth r (l.drop off) i],tX S.g (l.drop off).length i,.bb r S.k⟩
    |false=>none
   |none=>none
  |_,_=>none
 |x=>match se S x with
  |some l=>match pv P t l with
   |some v=>some ⟨[],[],v⟩
   |none=>none
  |none=>none
def EN(P:Program)(S:aq)(t:TypeId)(x:ab):Option dq:=
 match x with
 | .cs (.slice none 0 0)=>match isSlice P t with
  |true=>some ⟨[],[],.cs (.int .i64 0)⟩
  |false=>none
 | .cs (.string s)=>match isStr P t with
  |true=>some ⟨[],[],.cs (.int .i64 (ByteArray.size s:Int))⟩
  |false=>none
 | .cC id n=>match c2 S.h id,isSlice P t with
  |some (.cT _ _),true=>some ⟨[],[],.cs (.int .i64 (n:Int))⟩
  |_,_=>none
 | .aL id=>match c2 S.h id with
  |some (.rw _ c y)=>match isSlice P t with
   |true=>some ⟨[.f1 (.hU c) y],[],.bb (.int .i64) S.k⟩
   |false=>none
  |_=>none
 |x=>match x.rt with
  |some .str=>match isStr P t with
   |true=>some ⟨[.f1 .mm x],[],.bb (.int .i64) S.k⟩
   |false=>none
  |some (.li c)=>match isSlice P t with
   |true=>some ⟨[.f1 (.hU c) x],[],.bb (.int .i64) S.k⟩
   |false=>none
  |_=>match zi P t with
   |some n=>some ⟨[],[],.cs (.int .i64 (n:Int))⟩
   |none=>none
def ub(N:Nat)(S:aq):Option Operand→Option (Option ab)
 |none=>some none
 |some y=>match(S.aX N y).rt with
  |some (.int _)=>some (some (S.aX N y))
  |_=>none
def EO(P:Program)(N:Nat)(S:aq)(t:TypeId)(x:ab)(lo hi:Option Operand):Option dq:=
 match ub N S lo,ub N S hi with
 |some l,some h=>match x.rt with
  |some .str=>match isStr P t with
   |true=>some ⟨[.r9 x l h],(match l,h with|none,none=>[]|_,_=>[.r9 x l h]),.bb .str S.k⟩
   |false=>none
  |some (.li c)=>match iZ P t with
   |some n=>match Nat.beq n (cO c)with
    |true=>some ⟨[.eC c x l h],(match l,h with|none,none=>[]|_,_=>[.eC c x l h]),.bb (.li c) S.k⟩
    |false=>none
   |none=>none
  |_=>none
 |_,_=>none
def K6(P:Program)(S:aq)(src dst:TypeId)(id:Nat):Option dq:=
 match c2 S.h id,P.underlying src with
 |some (.rw _ .u8 y),some (.slice el)=>match P.underlying el,P.underlying dst with
  |some (.int .u8),some .string=>some ⟨[.f1 .cC y],[],.bb .str S.k⟩
  |_,_=>none
 |_,_=>none
def EP(P:Program)(S:aq)(src dst:TypeId)(x:ab):Option dq:=
 match x with
 | .aL id=>K6 P S src dst id
 |x=>match x.rt with
  |some (.int k)=>match P.underlying src,P.underlying dst with
   |some _,some (.int bj)=>some ⟨[.f1 (.pe k bj) x],[],.bb (.int bj) S.k⟩
   |_,_=>none
  |some (.li .u8)=>match P.underlying src with
   |some (.slice el)=>match P.underlying el,P.underlying dst with
    |some (.int .u8),some .string=>some ⟨[.f1 .cC x],[],.bb .str S.k⟩
    |_,_=>none
   |_=>none
  |_=>none
def ER(S:aq)(op:UnOp)(x:ab):Option dq:=
 match op,x.rt with
 | .not,some .bool=>some ⟨[.f1 .lN x],[],.bb .bool S.k⟩
 | .neg,some (.int k)=>some ⟨[.f1 (.wH k) x],[],.bb (.int k) S.k⟩
 | .xor,some (.int k)=>some ⟨[.f1 (.wI k) x],[],.bb (.int k) S.k⟩
 |_,_=>none
def ES(P:Program)(N:Nat)(S:aq)(t:TypeId)(ps:List (Nat × Operand)):Option dq:=
 match places P t,zeroCells P t with
 |some pl,some zs=>match zs.all Value.oneCell'&&(ps.map fun p=>(p.1,S.aX N p.2)).all fun p=>p.2.cells.all (jQ S.h)with
  |true=>match pw pl (zs.map .cs) (ps.map fun p=>(p.1,S.aX N p.2))with
   |some ds=>some ⟨[],[],.cm ds⟩
   |none=>none
  |false=>none
 |_,_=>none
def ET(P:Program)(t:TypeId)(x:ab)(f:Nat):Option dq:=
 match x,tk P t f with
 | .cm l,some (off,none)=>match l[off]? with
  |some v=>some ⟨[],[],v⟩
  |none=>none
 | .cm l,some (off,some n)=>match Nat.ble (off+n) l.length with
  |true=>some ⟨[],[],.cm ((l.drop off).take n)⟩
  |false=>none
 |_,_=>none
def EU(S:aq)(b:Builtin)(x y:ab):Option dq:=
 match x.rt,y.rt,b with
 |some (.int k),some (.int bj),.min=>match decide (k=bj)with
  |true=>some ⟨[.f2 (.rK k) x y],[],.bb (.int k) S.k⟩
  |false=>none
 |some (.int k),some (.int bj),.max=>match decide (k=bj)with
  |true=>some ⟨[.f2 (.mx k) x y],[],.bb (.int k) S.k⟩
  |false=>none
 |_,_,_=>none
def zW(P:Program)(t:TypeId):Bool:=
 match P.underlying t with
 |some (.pointer e)=>(P.info? e).isSome&&match(P.info? e).map (fun i=>decide (i.size=0))with
  |some false=>true
  |_=>false
 |_=>false
def wY(S:aq)(id:Nat):Bool:=
 match c2 S.h id with
 |some (.cT _ _)=>true
 |_=>false
def zX(S:aq)(b:Bool)(g:ab):Option dq:=
 match g.rt,b with
 |some .bool,true=>some ⟨[],[],g⟩
 |some .bool,false=>some ⟨[.f1 .lN g],[],.bb .bool S.k⟩
 |_,_=>none
def EV:BinOp→Option Bool
 | .eql=>some true
 | .neq=>some false
 |_=>none
def EW(P:Program)(S:aq)(op:BinOp)(b4:TypeId)(x y:ab):Option dq:=
 match zW P b4,EV op with
 |true,some b=>match x,y with
  | .cs (.pointer none),.cs (.pointer none)=>some ⟨[],[],.cs (.bool b)⟩
  | .de i o,.de j q=>match(Nat.beq i j&&Nat.beq o q)&&wY S i with
   |true=>some ⟨[],[],.cs (.bool b)⟩
   |false=>none
  | .eH g (some i) _,.cs (.pointer none)=>match wY S i with
   |true=>zX S (!b) g
   |false=>none
  | .eH g (some i) o,.de j q=>match(Nat.beq i j&&Nat.beq o q)&&wY S i with
   |true=>zX S b g
   |false=>none
  |_,_=>none
 |_,_=>none
def EX(P:Program)(S:aq)(src dst:TypeId)(x:ab):Option dq:=
 match x with
 | .de id off=>match c2 S.h id,P.underlying src,P.underlying dst with
  |some (.cT _ l),some (.pointer t),some .unsafePointer=>match(P.info? t).map (fun i=>decide (i.size=0)),Nat.blt off l.length with
   |some false,true=>some ⟨[],[],x⟩
   |_,_=>none
  |some (.cT bt l),some .unsafePointer,some (.pointer u)=>match liesAt P P.depth bt (l.length/ P.cellsOf bt) off u 1&&(P.info? u).isSome,Nat.blt off l.length with
   |true,true=>some ⟨[],[],x⟩
   |_,_=>none
  |_,_,_=>none
 |_=>none
def ox(P:Program)(N:Nat)(S:aq)(o:Oper):Option dq:=
 match o.op with
 | .move x=>some ⟨[],[],S.aX N x⟩
 | .assign x=>some ⟨[],[],S.aX N x⟩
 | .pick c x y=>EH S (S.aX N c) (S.aX N x) (S.aX N y)
 | .extract x i=>match S.aX N x with
  | .tp l=>match l[i]? with
   |some v=>some ⟨[],[],v⟩
   |none=>none
  |_=>none
 | .nilCheck x=>match qC S (S.aX N x)with
  |true=>some ⟨[],[],S.aX N x⟩
  |false=>none
 | .fieldAddr t x f=>match qb P t f,qC S (S.aX N x)with
  |some k,true=>match tZ k (S.aX N x)with
   |some p=>some ⟨[],[],p⟩
   |none=>none
  |_,_=>none
 | .load t x=>EM P S t (S.aX N x)
 | .field t x f=>ET P t (S.aX N x) f
 | .indexAddr t x i=>EL P S t (S.aX N x) (S.aX N i)
 | .index t x i=>EI P S t (S.aX N x) (S.aX N i)
 | .binOp op b4 x y _=>match EG P S op b4 (S.aX N x) (S.aX N y)with
  |some r=>some r
  |none=>EW P S op b4 (S.aX N x) (S.aX N y)
 | .unOp op _ x=>ER S op (S.aX N x)
 | .convert src dst x=>match EP P S src dst (S.aX N x)with
  |some r=>some r
  |none=>EX P S src dst (S.aX N x)
 | .build t ps=>ES P N S t ps.toList
 | .makeFunc (.func f) p q=>some ⟨[],[],.fn (.func f) (p.toList.map (S.aX N)) (q.toList.map (S.aX N))⟩
 | .slice t x lo hi none=>EO P N S t (S.aX N x) lo hi
 | .call c=>match c.callee,c.args.toList,c.argTypes.toList with
  | .builtin .len,[x],[t]=>EN P S t (S.aX N x)
  | .builtin b,[x,y],_=>EU S b (S.aX N x) (S.aX N y)
  | .value f,l,_=>EK P S (S.aX N f) (l.map (S.aX N))
  |_,_,_=>none
 |_=>none
section
variable {P:Program} {G:aY} {o:Oper} {N B:Nat} {S:aq} {M:List bc}
theorem K7{e:Env}{g:ab}{b:Bool}{x:ab}(h:g.aD e .bool=b):(x.qD g b).den G e=x.den G e:=by
 unfold ab.qD
 split
 ·rename_i h' c v
  split
  ·rename_i ad
   simp only[Bool.and_eq_true,decide_eq_true_eq]at ad
   have:=Ev ad.1
   subst this;obtain⟨_,rfl⟩:=ad;simp only[ab.den,h]
   cases c<;>rfl
  ·rfl
 ·rfl
theorem zY{e:Env}{r:aU}(h:r.one=true)(x:ab):x.get e r=x.aD e r:=by
 cases r<;>first|rfl|cases h
theorem jl.nil{v:ab}(h: ∀e,(∀c∈S.g,c.ok e)→cE P G o (S.den G N B e) (v.den G e)):jl P G N B M o S ⟨[],[],v⟩:=fun e hf _ _=>h e hf
theorem TI{c x y:Operand}{r:dq}(ao:o.op= .pick c x y)(h:EH S (S.aX N c) (S.aX N x) (S.aX N y)=some r):jl P G N B M o S r:=fun e hf hx hn=>by
 unfold EH at h
 split at h
 ·rename_i b ad
  cases h
  have hc:aE G (S.den G N B e) c= .au (.v (.bool b)):=by rw[bw hf,ad];rfl
  refine vS c x y ao hc ?_
  cases b<;>simp[bw hf]
 ·rename_i b ad _
  split at h
  ·rename_i ae
   cases h
   have aj:=ot ad hf
   have hc:aE G (S.den G N B e) c= .au (.v (.bool b)):=by rw[bw hf,gg ae,aj];rfl
   refine vS c x y ao hc ?_
   cases b<;>simp[bw hf]
  ·cases h
 ·split at h
  ·rename_i hc
   split at h
   ·rename_i q _
    split at h
    ·rename_i ad
     cases h;simp only[Bool.and_eq_true]at ad
     have vK:aE G (S.den G N B e) c= .au (.v (.bool ((S.aX N c).aD e .bool))):=(bw hf c).trans (gg hc)
     refine(vS c x y ao vK rfl).sub ?_
     have aP:Env.at e S.k=_:=hx 0 _ rfl
     simp only[ab.den,aP,bG.den,cA,bw hf,zY ad.2.2]
     cases fR:(S.aX N c).aD e .bool with
     |true=>
      simp only[cond_true,if_true];rw[←K7 (G:=G) (x:=S.aX N x) fR];exact r8 ad.1
     |false=>
      simp only[cond_false,Bool.false_eq_true,if_false];rw[←K7 (G:=G) (x:=S.aX N y) fR];exact r8 ad.2.1
    ·cases h
   ·cases h
  ·cases h
theorem EY{e:Env}{r:aU}: ∀{l:List ab} {j:Nat} {x:ab},qE r l=true→l[j]? =some x→Sub (x.den G e) (.au (fz r (qy e r l j)))
 |[],_,_,_,h=>by simp at h
 |[y],j,x,aI,h=>by
  have ai:j=0:=by
   have:=(List.getElem?_eq_some_iff.1 h).1
   simp at this;exact this
  subst ai;simp only[List.getElem?_cons_zero,Option.some.injEq]at h
  subst h;simp only[qE,Bool.and_eq_true]at aI;exact r8 aI.1
 |y::z::l,0,x,aI,h=>by
  simp only[List.getElem?_cons_zero,Option.some.injEq]at h
  subst h;simp only[qE,Bool.and_eq_true]at aI;exact r8 aI.1
 |y::z::l,j+1,x,aI,h=>by
  simp only[List.getElem?_cons_succ]at h
  simp only[qE,Bool.and_eq_true]at aI
  have:=EY (e:=e) (r:=r) (l:=z::l) (j:=j) (x:=x) (by simp only[qE,Bool.and_eq_true];exact aI.2) h
  have ad:Nat.beq (j+1) 0=false:=rfl
  simp only[qy,ad,cond_false,Nat.add_sub_cancel];exact this
theorem zZ{e:Env}{l:List ab}{j:Nat}{x:ab}(h:l[j]? =some x):(ab.bF G e l)[j]? =some (x.den G e):=by rw[eg,List.getElem?_map,h];rfl
theorem TJ{t:TypeId}{x i:Operand}{r:dq}(ao:o.op= .index t x i)(h:EI P S t (S.aX N x) (S.aX N i)=some r):jl P G N B M o S r:=fun e hf hx hn=>by
 unfold EI at h
 split at h
 ·rename_i l an
  have gf:aE G (S.den G N B e) x= .agg (ab.bF G e l):=by rw[bw hf,an];rfl
  split at h
  ·rename_i len el hu
   split at h
   ·rename_i ad bA
    simp only[Bool.and_eq_true]at ad
    have hlen:=Nat.eq_of_beq_eq_true ad.2
    split at h
    ·rename_i j hi
     split at h
     ·rename_i v av
      cases h
      have ai:=(List.getElem?_eq_some_iff.1 av).1
      exact Kw j ao hu ad.1 bA (by rw[bw hf,hi];rfl) gf (zZ av) (by omega)
     ·cases h
    ·split at h
     ·rename_i dW hi ae
      split at h
      ·rename_i aI
       cases h;simp only[Bool.and_eq_true]at aI
       have jL:0≤b1 ((S.aX N i).dyn e)∧b1 ((S.aX N i).dyn e)<(l.length:Int):=zS hf hn
       obtain⟨j,ai⟩: ∃j:Nat,b1 ((S.aX N i).dyn e)=(j:Int):=⟨_,(Int.toNat_of_nonneg jL.1).symm⟩
       have dv:j<l.length:=by omega
       have fZ:aE G (S.den G N B e) i=hP (j:Int):=by
        rw[bw hf,iL hi,←lh hi,ai]
       have av:l[j]? =some l[j]:=List.getElem?_eq_getElem dv
       refine(Kw j ao hu ad.1 bA fZ gf (zZ av) (by omega)).sub ?_
       have aP:Env.at e S.k=_:=hx 0 _ rfl
       simp only[ab.den,aP,bG.den,cA,ai,Int.toNat_natCast];exact EY aI.1 av
      ·cases h
     ·cases h
   ·cases h
  ·cases h
 ·split at h
  ·rename_i k aa af aB
   cases h
   have gf:aE G (S.den G N B e) x=_:=(bw hf x).trans (gg aa)
   have fZ:aE G (S.den G N B e) i=_:=(bw hf i).trans (iL af)
   obtain⟨g1,g2⟩:=TC hf af hn;exact ou (f:=.ph k) (hx 0 _ rfl) (Th _ k _ ao (rW aB) fZ gf g1 g2)
  ·cases h
theorem K8{e:Env}{c:bC}{i:Nat}{x:fN c}(h:Env.at e i=⟨.st c,x⟩):(ab.ip c i 0).den G e= .au (.ptr (cF c x)):=by
 simp only[ab.den,h,cA,List.drop_zero]
theorem getD_at{c:bC}{l:List (fN c)}{z:Int}(aP:0≤z)(aa:z<(l.length:Int)):l[z.toNat]? =some (l.getD z.toNat (ed c)):=by
 have:z.toNat<l.length:=by omega
 rw[List.getD_eq_getElem?_getD,List.getElem?_eq_getElem this]
 rfl
theorem EZ{e:Env}{x:ab}{c:bC}(h:sh x=some c):x.den G e= .au (.li c (x.aD e (.li c)))∧x.rt=some (.li c):=by
 unfold sh at h
 split at h
 ·rename_i kb ae
  cases h;exact⟨gg ae,ae⟩
 ·cases h
theorem TK{s:aJ}{x:Operand}{t:TypeId}(ao:o.op= .call {callee:=.builtin .len,args:=#[x],argTypes:=#[t]})(aB:isSlice P t=true){id n:Nat}(hx:aE G s x= .dh id n){bt:TypeId}{cs:List az}(hid:aA s.heap id=some (.box bt cs)):cE P G o s (.au (.v (.int .i64 (n:Int)))):=
 fun E a w β ro ae=>by
  have h:=ae.eval x
  rw[hx]at h;generalize hc:a.eval x=c at h
  cases h with
  |dh _ _ _ an ak=>
   obtain⟨b,_,rfl⟩:=ak _ _ hid;unfold isSlice at aB
   split at aB
   ·rename_i e hu
    refine⟨.int .i64 n,?_,.fw rfl⟩
    simp[execOp,ao,resolve,invoke,builtin,hc,Builtin.len_,run_underlying hu,goInt]
   ·cases aB
theorem TL{s:aJ}{x y:Operand}{t:TypeId}(ao:o.op= .indexAddr t x y){z1:Nat}(aB:iZ P t=some z1){k:IntKind}{j n:Nat}(ax:aE G s y= .au (.v (.int k (j:Int))))(ai:j<n){id:Nat}(hx:aE G s x= .dh id n){bt:TypeId}{cs:List az}(hid:aA s.heap id=some (.box bt cs)):cE P G o s (.ptr id (j*z1)):=
 fun E a w β ro ae=>by
  have h:=ae.eval x
  rw[hx]at h;generalize hc:a.eval x=c at h
  cases h with
  |dh _ _ _ an ak=>
   obtain⟨b,ad,rfl⟩:=ak _ _ hid;obtain⟨e,hu,bA⟩:=vY aB;refine⟨.pointer (some ⟨b,j*z1,none⟩),?_,.ptr _ _ _ an fun bn cs' _=>⟨b,ad,rfl⟩⟩
   by_cases bl:j*z1=0<;>simp[execOp,ao,hc,ae.dU ax,Instr.indexAt,asIntOf,run_underlying hu,ai,bA,Addr.add,bl]
theorem TM(cC:ByteArray)(c:Int):Extern.BytealgIndexByte.indexByte #[.string cC,.int .u8 c]=pure (.int .i64 (ry cC c)):=by
 have hi:Extern.BytealgIndexByte.indexByte #[.string cC,.int .u8 c]=(match(List.range cC.size).find? fun i=>cC[i]! ==c.toNat.toUInt8 with
  |some i=>pure (goInt i)
  |none=>pure (goInt (-1))):=rfl
 rw[hi]
 unfold ry
 cases List.find? (fun i=>cC[i]! ==c.toNat.toUInt8) (List.range cC.size)<;>rfl
theorem z6{a b:String}(h:(a==b)=true):a=b:=by simpa using h
theorem TN{f:Operand}{as:List Operand}{args:Array Operand}{ts:Array TypeId}{r:dq}(ao:o.op= .call {callee:=.value f,args:=args,argTypes:=ts})(aI:args.toList=as)(h:EK P S (S.aX N f) (as.map (S.aX N))=some r):jl P G N B M o S r:=fun e hf hx hn=>by
 unfold EK at h
 split at h
 rotate_left
 ·cases h
 rename_i K9 si
 have uc:aE G (S.den G N B e) f= .fn (.func K9) [] []:=by rw[bw hf,si];rfl
 have start: ∀{ev:Array Value→Sem Value} {fn:Func},P.funcs[K9]? =some fn→fn.body.isNone=true→(fn.name== "runtime.NumGoroutine")=false→Extern.findNext fn=none→Extern.find fn=some ev→∀E a w β ro,cP E G (S.den G N B e) a w β ro→(execOp a.eval o).run P w=((ev (args.map a.eval)).run P w).andThen fun v w'=>.ok (.value v) w':=fun {ev fn} aa af ar aQ bx E a w β ro ae=>by
  have hc:=ae.eval f
  rw[uc]at hc;generalize he:a.eval f=zg at hc
  cases hc with
  |fn _ _ _ c d g1 g2 _ _=>
   have hr:c= #[]:=by simpa using g1
   have o7:d= #[]:=by simpa using g2
   subst hr o7;simp only[execOp,ao,resolve,he,Deferred.ofValue,Sem.run_bind,Sem.run_pure,Result.andThen_ok,invoke,Array.empty_append,Array.append_empty];exact run_callFunc_extern aa ar af aQ bx _ w
 split at h
 ·rename_i x aj an
  cases h;unfold EJ at aj
  split at aj
  rotate_left
  ·cases aj
  rename_i fn sj
  split at aj
  ·rename_i _ wZ tf
   simp only[Bool.and_eq_true]at wZ;obtain⟨ad,fW⟩:=wZ
   have hn:=z6 tf
   have fW:=z6 fW
   obtain⟨y,rfl⟩: ∃y,as=[y]:=by
    match as,an with
    |[y],_=>exact⟨y,rfl⟩
   simp only[List.map_cons,List.map_nil,List.cons.injEq,and_true]at an
   have hy:args= #[y]:=by rw[←Array.toList_inj];exact aI
   intro E a w β ro ae;refine⟨a.eval y,?_,by have:=ae.eval y;rw[bw hf,an]at this;exact this⟩
   rw[start (ev:=Extern.AbiNoEscape.same) sj ad (by rw[hn];rfl) (by unfold Extern.findNext;simp only[hn,fW];rfl) (by unfold Extern.find;simp only[hn,fW];rfl) E a w β ro ae,hy]
   have hm:(#[y]:Array Operand).map a.eval= #[a.eval y]:=by simp
   rw[hm];rfl
  ·cases aj
  ·cases aj
 ·rename_i x z aj an
  split at h
  ·rename_i g1 g2
   cases h;unfold EJ at aj
   split at aj
   rotate_left
   ·cases aj
   rename_i fn sj
   split at aj
   ·cases aj
   ·rename_i wZ _ tf
    simp only[Bool.and_eq_true]at wZ;obtain⟨ad,fW⟩:=wZ
    have hn:=z6 tf
    have fW:=z6 fW
    obtain⟨y,u,rfl⟩: ∃y u,as=[y,u]:=by
     match as,an with
     |[y,u],_=>exact⟨y,u,rfl⟩
    simp only[List.map_cons,List.map_nil,List.cons.injEq,and_true]at an
    have hy:args= #[y,u]:=by rw[←Array.toList_inj];exact aI
    have ax:aE G (S.den G N B e) y= .au (.v (.string (x.aD e .str))):=by rw[bw hf,an.1];exact gg g1
    have hu:aE G (S.den G N B e) u= .au (.v (.int .u8 (z.aD e (.int .u8)))):=by rw[bw hf,an.2];exact gg g2
    refine ou (f:=.rJ) (hx 0 _ rfl) fun E a w β ro ae=>?_
    refine⟨.int .i64 (ry (x.aD e .str) (z.aD e (.int .u8))),?_,.fw rfl⟩
    rw[start (ev:=Extern.BytealgIndexByte.indexByte) sj ad (by rw[hn];rfl) (by unfold Extern.findNext;simp only[hn,fW];rfl) (by unfold Extern.find;simp only[hn,fW];rfl) E a w β ro ae,hy]
    have hm:(#[y,u]:Array Operand).map a.eval= #[.string (x.aD e .str),.int .u8 (z.aD e (.int .u8))]:=by simp[ae.dU ax,ae.dU hu]
    rw[hm];rw[TM];rfl
   ·cases aj
  ·cases h
 ·cases h
theorem TO{t:TypeId}{x i:Operand}{r:dq}(ao:o.op= .indexAddr t x i)(h:EL P S t (S.aX N x) (S.aX N i)=some r):jl P G N B M o S r:=fun e hf hx hn=>by
 unfold EL at h
 split at h
 ·rename_i k hi
  have fZ:aE G (S.den G N B e) i=_:=(bw hf i).trans (iL hi)
  split at h
  ·rename_i n kI
   split at h
   ·rename_i id hid
    split at h
    ·rename_i bn c y ag
     split at h
     ·rename_i ad
      cases h
      have ad:=Nat.eq_of_beq_eq_true ad
      obtain⟨g1,g2⟩:=tY hf hi hn;obtain⟨j,ai⟩: ∃j:Nat,(S.aX N i).aD e (.int k)=(j:Int):=⟨_,(Int.toNat_of_nonneg g1).symm⟩;rw[ai]at fZ g2
      have g2:(j:Int)<((List.length (y.aD e (.li c)):Nat):Int):=g2
      have:=JR t x i ao kI fZ (p:=.cn id j 0) (by
       rw[bw hf,hid];simp only[ab.den,lI,aq.den,et,ag,Option.map_some,bq.den]
       rw[if_pos ⟨ad.symm,by rw[List.length_map];omega⟩])
      simp only[ab.den,lh hi,ai,Int.toNat_natCast];exact this
     ·cases h
    ·cases h
   ·rename_i id m hid
    split at h
    ·rename_i bt l bj j ag rR
     split at h
     ·rename_i JV
      cases h;exact TL ao kI (k:=bj) (j:=j) (by rw[bw hf,rR];rfl) (eF JV) (id:=id) (bt:=bt) (cs:=ab.bF G e l) (by rw[bw hf,hid];rfl) (by simp only[aq.den,et,ag,Option.map_some,bq.den])
     ·cases h
    ·cases h
   ·split at h
    ·rename_i c hc
     split at h
     ·rename_i ad
      cases h
      have ad:=Nat.eq_of_beq_eq_true ad
      rw[ad]at kI;obtain⟨hd,E0⟩:=EZ (G:=G) (e:=e) hc;obtain⟨g1,g2⟩:=tY hf hi hn
      have:=(KG c _ k _ ao kI fZ ((bw hf x).trans hd) g1 g2).v
      have aP:Env.at e S.k=_:=hx 0 _ rfl
      have aa:=K8 (G:=G) (x:=List.getD ((S.aX N x).aD e (.li c)) (Int.toNat ((S.aX N i).aD e (.int k))) (ed c)) aP
      show cE P G o _ ((ab.ip c S.k 0).den G e);rw[aa];exact this
     ·cases h
    ·split at h
     ·rename_i c qf _
      cases h
      have jL:=hn _ (List.mem_singleton.2 rfl)
      have bl:(S.aX N x).aD e (.li c)=[]:=by
       unfold ab.isNil at qf
       split at qf
       ·rename_i aH
        simp only[aH,ab.aD,ab.fu,cA]
       ·cases qf
      simp only[fA.ok,bW.tJ,bl]at jL
      have af:(S.aX N i).aD e (.int k)<((List.length ([]:List (fN c)):Nat):Int):=jL.2
      have ar:0≤(S.aX N i).aD e (.int k):=jL.1
      exact absurd (Int.lt_of_le_of_lt ar af) (Int.lt_irrefl _)
     ·cases h
  ·split at h
   ·rename_i len n l aI an
    have ff:=wW (G:=G) (N:=N) (B:=B) (e:=e) an
    rw[←bw (B:=B) hf]at ff
    split at h
    ·rename_i bj j ai
     split at h
     ·rename_i p dv ak
      cases h
      have dv:=eF dv
      refine DK t x i ao aI (k:=bj) (j:=j) (by rw[bw hf,ai];rfl) dv ff ?_
      have ah:=wX (G:=G) (e:=e) ak
      rw[←ah,←bw (N:=N) (B:=B) hf];revert ff
      cases aE G (S.den G N B e) x<;>intro ff<;>first|(simp[eZ]at ff;done)|skip
      all_goals rename_i y
      ·cases y<;>first|(simp[eZ]at ff;done)|rfl
      ·rfl
      ·rfl
     ·cases h
    ·rename_i id off hid _
     cases h
     have jL:0≤b1 ((S.aX N i).dyn e)∧b1 ((S.aX N i).dyn e)<(len:Int):=zS hf hn
     obtain⟨j,ai⟩: ∃j:Nat,b1 ((S.aX N i).dyn e)=(j:Int):=⟨_,(Int.toNat_of_nonneg jL.1).symm⟩;rw[←lh hi,ai]at fZ;refine DK t x i ao aI fZ (by omega) ff ?_
     rw[bw hf,hid];simp only[ab.den,h5,ai,Int.toNat_natCast]
    ·cases h
   ·cases h
 ·cases h
theorem TP{t:TypeId}{x:Operand}{r:dq}(ao:o.op= .load t x)(h:EM P S t (S.aX N x)=some r):jl P G N B M o S r:=fun e hf hx hn=>by
 unfold EM at h
 split at h
 ·rename_i id i off ak
  split at h
  ·rename_i bn c y k ag hi
   split at h
   ·rename_i v av ax
    cases h;obtain⟨g1,g2⟩:=tY hf hi hn
    have aP:Env.at e S.k=⟨.st c,List.getD (y.aD e (.li c)) (i.aD e (.int k)).toNat (ed c)⟩:=hx 0 _ rfl
    refine K4 ao ?_ av
    rw[bw hf,ak];simp only[ab.den,eZ,aq.den,et,ag,Option.map_some,bq.den,lh hi];rw[List.getElem?_map,getD_at g1 g2]
    simp only[Option.map_some,Option.some.injEq];rw[EE,tH,aP,cA,List.map_drop]
   ·cases h
  ·cases h
 ·rename_i id off i ak
  split at h
  ·rename_i bn l k ag hi
   split at h
   ·rename_i q aH
    split at h
    ·rename_i aI
     cases h;simp only[Bool.and_eq_true]at aI
     have jL:0≤b1 (i.dyn e)∧b1 (i.dyn e)<((l.drop off).length:Int):=zS hf hn
     obtain⟨j,ai⟩: ∃j:Nat,b1 (i.dyn e)=(j:Int):=⟨_,(Int.toNat_of_nonneg jL.1).symm⟩
     have dv:j<(l.drop off).length:=by omega
     have av:(l.drop off)[j]? =some (l.drop off)[j]:=List.getElem?_eq_getElem dv
     have hd:(l.drop off).drop j=(l.drop off)[j]::(l.drop off).drop (j+1):=List.drop_eq_getElem_cons dv
     have:=Dm t x ao aI.2.2 (y:=((l.drop off)[j]).den G e) (cs:=ab.bF G e ((l.drop off).drop (j+1))) (s:=S.den G N B e) (G:=G) (by
      rw[bw hf,ak];simp only[ab.den,eZ,aq.den,et,ag,Option.map_some,bq.den,ai,Int.toNat_natCast,Nat.mul_one,Option.some.injEq];rw[←EE,←List.drop_drop,hd]
      rfl)
     refine this.sub ?_
     have aP:Env.at e S.k=_:=hx 0 _ rfl
     simp only[ab.den,aP,bG.den,cA,ai,Int.toNat_natCast];exact EY aI.1 av
    ·cases h
   ·cases h
  ·cases h
 ·split at h
  ·rename_i l an
   split at h
   ·rename_i v av
    cases h;refine K4 ao ?_ av
    rw[bw hf];exact wW an
   ·cases h
  ·cases h
theorem TQ{t:TypeId}{x:Operand}{r:dq}(ao:o.op= .call {callee:=.builtin .len,args:=#[x],argTypes:=#[t]})(h:EN P S t (S.aX N x)=some r):jl P G N B M o S r:=fun e hf hx hn=>by
 unfold EN at h
 split at h
 ·rename_i ak
  split at h
  ·rename_i aB
   cases h;exact DI x t ao aB (m:=0) (by rw[bw hf,ak];rfl)
  ·cases h
 ·rename_i b ak
  split at h
  ·rename_i aB
   cases h;exact DJ x t ao (rW aB) (by rw[bw hf,ak];rfl)
  ·cases h
 ·rename_i id n ak
  split at h
  ·rename_i bt l ag aB
   cases h;exact TK ao aB (id:=id) (bt:=bt) (cs:=ab.bF G e l) (by rw[bw hf,ak];rfl) (by simp only[aq.den,et,ag,Option.map_some,bq.den])
  ·cases h
 ·rename_i id ak
  split at h
  ·rename_i bn c y ag
   split at h
   ·rename_i aB
    cases h;refine ov (f:=.hU c) (hx 0 _ rfl) (DI x t ao aB (m:=List.length (y.aD e (.li c))) ?_)
    rw[bw hf,ak];simp only[ab.den,kB,aq.den,et,ag,Option.map_some,bq.den,List.length_map]
   ·cases h
  ·cases h
 ·split at h
  ·rename_i ae
   split at h
   ·rename_i aB
    cases h;exact ov (f:=.mm) (hx 0 _ rfl) (DJ x t ao (rW aB) ((bw hf x).trans (gg ae)))
   ·cases h
  ·rename_i c ae
   split at h
   ·rename_i aB
    cases h;exact ov (f:=.hU c) (hx 0 _ rfl) (Ti c _ ao aB ((bw hf x).trans (gg ae)))
   ·cases h
  ·split at h
   ·rename_i n E1
    cases h;exact JP x t ao E1
   ·cases h
theorem ud{e:Env}(hf: ∀c∈S.g,c.ok e){lo:Option Operand}{l:Option ab}(h:ub N S lo=some l):wR G (S.den G N B e) lo (mn e l):=by
 unfold ub at h
 split at h
 ·cases h;trivial
 ·split at h
  ·rename_i y k ae
   cases h;exact⟨k,by rw[bw hf,iL ae,lh ae]⟩
  ·cases h
theorem TR{t:TypeId}{x:Operand}{lo hi:Option Operand}{r:dq}(ao:o.op= .slice t x lo hi none)(h:EO P N S t (S.aX N x) lo hi=some r):jl P G N B M o S r:=fun e hf hx hn=>by
 unfold EO at h
 split at h
 ·rename_i l h' an aV
  split at h
  ·rename_i ae
   split at h
   ·rename_i aB
    cases h
    have aP:Env.at e S.k=_:=hx 0 _ rfl
    simp only[ab.den,aP,bG.den,cA];refine Tx _ ao (rW aB) ((bw hf x).trans (gg ae)) (ud hf an) (ud hf aV) ?_
    cases l<;>cases h'<;>first|trivial|exact hn _ (List.mem_singleton.2 rfl)
   ·cases h
  ·rename_i c ae
   split at h
   ·rename_i n kI
    split at h
    ·rename_i ad
     cases h;rw[Nat.eq_of_beq_eq_true ad]at kI
     have aP:Env.at e S.k=_:=hx 0 _ rfl
     simp only[ab.den,aP,bG.den,cA];refine(KW c _ ao kI ((bw hf x).trans (gg ae)) (ud hf an) (ud hf aV) ?_).v
     cases l<;>cases h'<;>first|trivial|exact hn _ (List.mem_singleton.2 rfl)
    ·cases h
   ·cases h
  ·cases h
 ·cases h
theorem TS{src dst:TypeId}{x:Operand}{r:dq}(ao:o.op= .convert src dst x)(h:EP P S src dst (S.aX N x)=some r):jl P G N B M o S r:=fun e hf hx hn=>by
 unfold EP at h
 split at h
 ·rename_i id hid
  unfold K6 at h
  split at h
  ·rename_i bn y el ag ah
   split at h
   ·rename_i hu hd
    cases h;refine ov (f:=.cC) (hx 0 _ rfl) (Ei src dst el x ao ah hu hd (l:=y.aD e (.li .u8)) ?_)
    rw[bw hf,hid];simp only[ab.den,hz,aq.den,et,ag,Option.map_some,bq.den];rfl
   ·cases h
  ·cases h
 rename_i E2
 split at h
 ·rename_i k ae
  split at h
  ·rename_i ah hd
   cases h;exact ov (f:=.pe k _) (hx 0 _ rfl) (J5 src dst x ao (by rw[ah];rfl) hd ((bw hf x).trans (iL ae)))
  ·cases h
 ·rename_i ae
  split at h
  ·rename_i el ah
   split at h
   ·rename_i hu hd
    cases h;refine ov (f:=.cC) (hx 0 _ rfl) (Ei src dst el x ao ah hu hd (l:=(S.aX N x).aD e (.li .u8)) ?_)
    rw[bw hf,gg ae];rfl
   ·cases h
  ·cases h
 ·cases h
theorem TT{op:UnOp}{t:TypeId}{x:Operand}{r:dq}(ao:o.op= .unOp op t x)(h:ER S op (S.aX N x)=some r):jl P G N B M o S r:=fun e hf hx hn=>by
 unfold ER at h
 split at h
 ·rename_i ae
  cases h;exact ov (f:=.lN) (hx 0 _ rfl) (JE t x ao ((bw hf x).trans (gg ae)))
 ·rename_i k ae
  cases h;exact ov (f:=.wH k) (hx 0 _ rfl) (JF t x ao ((bw hf x).trans (iL ae)))
 ·rename_i k ae
  cases h
  have gf:aE G (S.den G N B e) x=_:=(bw hf x).trans (iL ae)
  exact ov (f:=.wI k) (hx 0 _ rfl) fun _ aW w β ro h=>⟨_,by simp[execOp,ao,h.dU gf,Op.unary,Op.intBits,dc.den,aG.nU],.fw rfl⟩
 ·cases h
theorem TU{t:TypeId}{ps:Array (Nat × Operand)}{r:dq}(ao:o.op= .build t ps)(h:ES P N S t ps.toList=some r):jl P G N B M o S r:=fun e hf hx hn=>by
 unfold ES at h
 split at h
 ·rename_i pl zs n9 bl
  split at h
  ·rename_i ad
   simp only[Bool.and_eq_true]at ad
   split at h
   ·rename_i ds hd
    cases h
    have aa:=zU (G:=G) (e:=e) ad.2 hd
    have af:ab.bF G e (zs.map .cs)=zs.map fun z=>.au (.v z):=by rw[eg,List.map_map];rfl
    rw[af]at aa
    have ar:(ps.toList.map fun p=>(p.1,aE G (S.den G N B e) p.2))=(ps.toList.map fun p=>(p.1,S.aX N p.2)).map fun p=>(p.1,p.2.den G e):=by
     rw[List.map_map];exact List.map_congr_left fun p _=>by simp[bw hf]
    refine JY t ps ao n9 bl ad.1 ar ?_ aa
    rw[List.all_map];refine List.all_eq_true.2 fun p ak=>?_
    have:=List.all_eq_true.1 ad.2 p ak
    simp only[Function.comp];rw[sf this];exact ua this
   ·cases h
  ·cases h
 ·cases h
theorem TV{t:TypeId}{x:Operand}{f:Nat}{r:dq}(ao:o.op= .field t x f)(h:ET P t (S.aX N x) f=some r):jl P G N B M o S r:=fun e hf hx hn=>by
 unfold ET at h
 split at h
 ·rename_i l off an ak
  split at h
  ·rename_i v av
   cases h;exact JT t x f ao ak (by rw[bw hf,an];rfl) (zZ av)
  ·cases h
 ·rename_i l off n an ak
  split at h
  ·rename_i ad
   cases h
   have:=JU t x f ao ak (s:=S.den G N B e) (G:=G) (cs:=ab.bF G e l) (by rw[bw hf,an];rfl) (by rw[lT];exact Nat.le_of_ble_eq_true ad)
   simp only[ab.den];rw[eg,List.map_take,List.map_drop,←eg];exact this
  ·cases h
 ·cases h
theorem TW{b:Builtin}{x y:Operand}{ts:Array TypeId}{r:dq}(ao:o.op= .call {callee:=.builtin b,args:=#[x,y],argTypes:=ts})(h:EU S b (S.aX N x) (S.aX N y)=some r):jl P G N B M o S r:=fun e hf hx hn=>by
 unfold EU at h
 split at h
 ·rename_i k bj aa af
  split at h
  ·rename_i aj
   cases h
   have aj:=of_decide_eq_true aj
   subst aj;exact ou (f:=.rK k) (hx 0 _ rfl) (J6 x y ts ao ((bw hf x).trans (iL aa)) ((bw hf y).trans (iL af)))
  ·cases h
 ·rename_i k bj aa af
  split at h
  ·rename_i aj
   cases h
   have aj:=of_decide_eq_true aj
   subst aj;exact ou (f:=.mx k) (hx 0 _ rfl) (J7 x y ts ao ((bw hf x).trans (iL aa)) ((bw hf y).trans (iL af)))
  ·cases h
 ·cases h
theorem TX{t:TypeId}(h:zW P t=true): ∃iM i,P.underlying t=some (.pointer iM)∧P.info? iM=some i∧i.size≠0:=by
 unfold zW at h
 split at h
 ·rename_i e hu
  cases hi:P.info? e with
  |none=>rw[hi]at h;cases h
  |some i=>
   rw[hi]at h;simp only[Option.isSome_some,Bool.true_and,Option.map_some]at h;refine⟨e,i,hu,hi,fun bl=>?_⟩
   rw[bl]at h;cases h
 ·cases h
theorem E3{id:Nat}{e:Env}(h:wY S id=true): ∃t cs,aA (S.den G N B e).heap id=some (.box t cs):=by
 unfold wY at h
 split at h
 ·rename_i t l ag
  exact⟨t,ab.bF G e l,by simp only[aq.den,et,ag,Option.map_some,bq.den]⟩
 ·cases h
theorem La{s:aJ}{b:Bool}{g:ab}{r:dq}{e:Env}(h:zX S b g=some r)(hx: ∀(j:Nat) (x:bG),r.xs[j]? =some x→Env.at e (S.k+j)=x.den M e)(ah:cE P G o s (.au (.v (.bool (bif b then g.aD e .bool else !(g.aD e .bool)))))):cE P G o s (r.v.den G e):=by
 unfold zX at h
 split at h
 ·rename_i ae
  cases h
  have:=gg (G:=G) (e:=e) ae
  show cE P G o s (g.den G e);rw[this];exact ah
 ·rename_i ae
  cases h;exact ov (f:=.lN) (hx 0 _ rfl) ah
 ·cases h
theorem TY{tp iM:TypeId}{j:TypeInfo}(w:World)(a:Addr)(ak:P.underlying tp=some (.pointer iM))(TZ:P.info? iM=some j):(Op.equal tp (.pointer (some a)) (.pointer (some a))).run P w= .ok true w:=by
 have h: ∀d:Nat,(Op.equalIn (d+1) tp (.pointer (some a)) (.pointer (some a))).run P w= .ok true w:=fun d=>by
  simp[Op.equalIn,run_underlying ak,sizeOf,typeInfo,TZ,run_sameAddr_same]
 exact h 9999
theorem eq_nil{tp iM:TypeId}(w:World)(q:Option Addr)(ak:P.underlying tp=some (.pointer iM)):(Op.equal tp (.pointer none) (.pointer q)).run P w= .ok q.isNone w:=by
 have h: ∀d:Nat,(Op.equalIn (d+1) tp (.pointer none) (.pointer q)).run P w= .ok q.isNone w:=fun d=>by
  cases q<;>simp[Op.equalIn,run_underlying ak]
 exact h 9999
theorem z7{s:aJ}{op:BinOp}{b4 ty:TypeId}{x y:Operand}{b c:Bool}(ao:o.op= .binOp op b4 x y ty)(aB:zW P b4=true)(ad:EV op=some b)
 (h: ∀E a w β ro,cP E G s a w β ro→∃p q,a.eval x= .pointer p∧a.eval y= .pointer q∧((q=none∧c=p.isNone)∨(p=none∧c=q.isNone)∨(∃cz,p=some cz∧q=some cz∧c=true))):cE P G o s (.au (.v (.bool (bif b then c else !c)))):=
 fun E a w β ro ae=>by
  obtain⟨iM,i,hu,hi,bA⟩:=TX aB;obtain⟨p,q,aa,af,ar⟩:=h E a w β ro ae;refine⟨.bool (bif b then c else !c),?_,.fw rfl⟩
  have T0:P.underlying b4=some (.pointer (P.pointee b4)):=by rw[hu];simp[Program.pointee,hu]
  have heq:(Op.equal b4 (.pointer p) (.pointer q)).run P w= .ok c w:=by
   rcases ar with⟨rfl,rfl⟩|⟨rfl,rfl⟩|⟨cz,rfl,rfl,rfl⟩
   ·exact run_equal_pointer_nil w b4 p T0
   ·exact eq_nil w q hu
   ·exact TY w cz hu hi
  unfold EV at ad
  split at ad
  ·cases ad
   have:(binOp .eql b4 (.pointer p) (.pointer q)).run P w= .ok (.bool c) w:=by
    simp only[binOp];simp[heq]
   simp[execOp,ao,aa,af,eqGuard_at_pointer,this]
  ·cases ad
   have:(binOp .neq b4 (.pointer p) (.pointer q)).run P w= .ok (.bool (!c)) w:=by
    simp only[binOp];simp[heq]
   simp[execOp,ao,aa,af,eqGuard_at_pointer,this]
  ·cases ad
theorem w0{E:Entry}{s:aJ}{a:Act}{w:World}{β:Nat→Value}{ro:Nat→Prop}{x:Operand}(ae:cP E G s a w β ro)(hx:aE G s x= .au (.v (.pointer none))):a.eval x= .pointer none:=ae.dU hx
theorem sk{E:Entry}{s:aJ}{a:Act}{w:World}{β:Nat→Value}{ro:Nat→Prop}{x:Operand}{id off:Nat}{t:TypeId}{cs:List az}(ae:cP E G s a w β ro)(hx:aE G s x= .ptr id off)(ag:aA s.heap id=some (.box t cs)):
 ∃b,β id= .pointer (some ⟨b,0,none⟩)∧a.eval x= .pointer (some ⟨b,off,none⟩):=by
 have h:=ae.eval x
 rw[hx]at h
 generalize hc:a.eval x=c at h
 cases h with
 |ptr _ _ _ an ak=>exact ak _ _ ag
theorem T1{op:BinOp}{b4 ty:TypeId}{x y:Operand}{r:dq}(ao:o.op= .binOp op b4 x y ty)(h:EW P S op b4 (S.aX N x) (S.aX N y)=some r):jl P G N B M o S r:=fun e hf hx hn=>by
 unfold EW at h
 split at h
 rotate_left
 ·cases h
 rename_i b aB ad
 split at h
 ·rename_i aa af
  cases h
  have:=z7 (G:=G) (s:=S.den G N B e) (c:=true) ao aB ad fun E a w β ro ae=>⟨none,none,w0 ae (by rw[bw hf,aa];rfl),w0 ae (by rw[bw hf,af];rfl),.inl ⟨rfl,rfl⟩⟩
  cases b<;>exact this
 ·rename_i i q j gu aa af
  split at h
  ·rename_i hc
   cases h;simp only[Bool.and_eq_true]at hc;obtain⟨⟨aF,ea⟩,fU⟩:=hc
   have aF:=Nat.eq_of_beq_eq_true aF
   have ea:=Nat.eq_of_beq_eq_true ea
   subst aF ea;obtain⟨bt,cs,ag⟩:=E3 (G:=G) (N:=N) (B:=B) (e:=e) fU
   have:=z7 (G:=G) (s:=S.den G N B e) (c:=true) ao aB ad fun E a w β ro ae=>by
    obtain⟨ez,g1,g2⟩:=sk ae (by rw[bw hf,aa];rfl) ag
    obtain⟨gB,g3,g4⟩:=sk ae (by rw[bw hf,af];rfl) ag
    rw[g1]at g3
    cases g3
    exact⟨_,_,g2,g4,.inr (.inr ⟨_,rfl,rfl,rfl⟩)⟩
   cases b<;>exact this
  ·cases h
 ·rename_i g i off aa af
  split at h
  ·rename_i hc
   obtain⟨bt,cs,ag⟩:=E3 (G:=G) (N:=N) (B:=B) (e:=e) hc;refine La h hx ?_
   have:=z7 (G:=G) (s:=S.den G N B e) (c:=!(g.aD e .bool)) ao aB ad fun E a w β ro ae=>by
    have Lb:a.eval y= .pointer none:=w0 ae (by rw[bw hf,af];rfl)
    have hd:aE G (S.den G N B e) x=(ab.eH g (some i) off).den G e:=by rw[bw hf,aa]
    simp only[ab.den]at hd
    cases qF:g.aD e .bool with
    |true=>
     rw[qF]at hd;obtain⟨ez,g1,g2⟩:=sk ae hd ag;exact⟨_,_,g2,Lb,.inl ⟨rfl,rfl⟩⟩
    |false=>
     rw[qF]at hd;exact⟨_,_,w0 ae hd,Lb,.inl ⟨rfl,rfl⟩⟩
   cases b<;>simpa using this
  ·cases h
 ·rename_i g i q j gu aa af
  split at h
  ·rename_i hc
   simp only[Bool.and_eq_true]at hc;obtain⟨⟨aF,ea⟩,fU⟩:=hc
   have aF:=Nat.eq_of_beq_eq_true aF
   have ea:=Nat.eq_of_beq_eq_true ea
   subst aF ea;obtain⟨bt,cs,ag⟩:=E3 (G:=G) (N:=N) (B:=B) (e:=e) fU;refine La h hx ?_
   refine z7 (G:=G) (s:=S.den G N B e) (c:=g.aD e .bool) ao aB ad fun E a w β ro ae=>?_
   obtain⟨gB,g3,g4⟩:=sk ae (by rw[bw hf,af];rfl) ag
   have hd:aE G (S.den G N B e) x=(ab.eH g (some i) q).den G e:=by rw[bw hf,aa]
   simp only[ab.den]at hd
   cases qF:g.aD e .bool with
   |true=>
    rw[qF]at hd;obtain⟨ez,g1,g2⟩:=sk ae hd ag;rw[g1]at g3
    cases g3
    exact⟨_,_,g2,g4,.inr (.inr ⟨_,rfl,rfl,rfl⟩)⟩
   |false=>
    rw[qF]at hd;exact⟨_,_,w0 ae hd,g4,.inr (.inl ⟨rfl,rfl⟩)⟩
  ·cases h
 ·cases h
theorem Lc{E:Entry}{s:aJ}{a:Act}{w:World}{β:Nat→Value}{ro:Nat→Prop}{id off b:Nat}{t:TypeId}{cs:List az}(ae:cP E G s a w β ro)(ag:aA s.heap id=some (.box t cs))(ad:β id= .pointer (some ⟨b,0,none⟩))(an:off<cs.length):
 ∃arr v,w.heap[b]? =some (.cells arr t (0,0))∧arr.size=cs.length∧w.cell? ⟨b,off,none⟩=some v:=by
 have c7:=ae.heap.cL id _ ag
 cases c7 with
 |box _ _ b' arr aa af ar aQ=>
  rw[ad]at aa;simp only[Value.pointer.injEq,Option.some.injEq,Addr.mk.injEq,and_true]at aa;subst aa;refine⟨arr,arr[off]'(by omega),af,ar,?_⟩
  have bz:off<arr.size:=by omega
  simp[World.cell?,af,bz]
theorem T2{src dst:TypeId}{x:Operand}{r:dq}(ao:o.op= .convert src dst x)(h:EX P S src dst (S.aX N x)=some r):jl P G N B M o S r:=fun e hf hx hn=>by
 unfold EX at h
 split at h
 rotate_left
 ·cases h
 rename_i id off av
 have hd:aE G (S.den G N B e) x= .ptr id off:=by rw[bw hf,av];rfl
 split at h
 ·rename_i bt l t ag ah ql
  split at h
  ·rename_i bl bz
   cases h;rw[av]
   have aV:aA (S.den G N B e).heap id=some (.box bt (ab.bF G e l)):=by simp only[aq.den,et,ag,Option.map_some,bq.den]
   intro E a w β ro ae;obtain⟨b,ad,he⟩:=sk ae hd aV;obtain⟨arr,v,_,_,hc⟩:=Lc (off:=off) ae aV ad (by rw[lT];exact eF bz)
   refine⟨.pointer (some ⟨b,off,none⟩),?_,by have:=ae.eval x;rw[hd,he]at this;exact this⟩
   simp only[execOp,ao,he,Sem.run_bind,run_convert_to_unsafe ah ql bl hc,Result.andThen_ok,Sem.run_pure]
  ·cases h
 ·rename_i bt l u ag ah ql
  split at h
  ·rename_i ue bz
   cases h;rw[av]
   have aV:aA (S.den G N B e).heap id=some (.box bt (ab.bF G e l)):=by simp only[aq.den,et,ag,Option.map_some,bq.den]
   intro E a w β ro ae;obtain⟨b,ad,he⟩:=sk ae hd aV;obtain⟨arr,v,e0,bA,hc⟩:=Lc (off:=off) ae aV ad (by rw[lT];exact eF bz)
   refine⟨.pointer (some ⟨b,off,none⟩),?_,by have:=ae.eval x;rw[hd,he]at this;exact this⟩
   rw[lT]at bA
   have Ld:w.shape? b=some (bt,l.length):=by simp[World.shape?,e0,bA]
   have T3:(convert src dst (.pointer (some ⟨b,off,none⟩))).run P w= .ok (.pointer (some ⟨b,off,none⟩)) w:=by
    rw[Bool.and_eq_true]at ue;obtain⟨i,hi⟩:=Option.isSome_iff_exists.1 ue.2
    have ue:=ue.1
    by_cases bl:i.size=0
    ·simp[convert,Conv.unsafePointer,Conv.seenAt,viewAt,variablesAt,sizeOf,typeInfo,run_underlying ah,run_underlying ql,hi,bl,Ld,ue,Result.andThen]
    ·simp[convert,Conv.unsafePointer,Conv.seenAt,viewAt,variablesAt,sizeOf,typeInfo,run_underlying ah,run_underlying ql,hi,bl,Ld,ue,Result.andThen]
   simp only[execOp,ao,he,Sem.run_bind,T3,Result.andThen_ok,Sem.run_pure]
  ·cases h
 ·cases h
theorem sl{r:dq}(h:ox P N S o=some r):jl P G N B M o S r:=by
 unfold ox at h
 split at h
 ·rename_i x ao
  cases h;exact .nil fun e hf=>by have:=I9 (P:=P) (G:=G) (s:=S.den G N B e) x ao;rw[bw hf]at this;exact this
 ·rename_i x ao
  cases h;exact .nil fun e hf=>by have:=Ja (P:=P) (G:=G) (s:=S.den G N B e) x ao;rw[bw hf]at this;exact this
 ·exact TI (by assumption) h
 ·rename_i x i ao
  split at h
  ·rename_i l an
   split at h
   ·rename_i v av
    cases h;exact .nil fun e hf=>JG x i ao (by rw[bw hf,an];rfl) (zZ av)
   ·cases h
  ·cases h
 ·rename_i x ao
  split at h
  ·rename_i ak
   cases h
   exact .nil fun e hf=>by
    have:=Jf (P:=P) (G:=G) (s:=S.den G N B e) x ao (by rw[bw hf];exact sg ak)
    rw[bw hf]at this;exact this
  ·cases h
 ·rename_i t x f ao
  split at h
  ·rename_i k aj ak
   split at h
   ·rename_i p ah
    cases h
    exact .nil fun e hf=>by
     have:=Je (P:=P) (G:=G) (s:=S.den G N B e) t x f ao aj (by rw[bw hf];exact sg ak)
     rw[bw hf,wX ah]at this;exact this
   ·cases h
  ·cases h
 ·exact TP (by assumption) h
 ·exact TV (by assumption) h
 ·exact TO (by assumption) h
 ·exact TJ (by assumption) h
 ·split at h
  ·rename_i aH
   cases h;exact TG (by assumption) aH
  ·exact T1 (by assumption) h
 ·exact TT (by assumption) h
 ·split at h
  ·rename_i aH
   cases h;exact TS (by assumption) aH
  ·exact T2 (by assumption) h
 ·exact TU (by assumption) h
 ·rename_i f p q ao
  cases h
  exact .nil fun e hf=>by
   have:=SQ (P:=P) (G:=G) (s:=S.den G N B e) ao
   simp only[ab.den];rw[eg,eg,List.map_map,List.map_map]
   have aa: ∀l:List Operand,l.map (aE G (S.den G N B e))=l.map (ab.den G e∘S.aX N):=fun l=>List.map_congr_left fun x _=>bw hf x
   rw[aa,aa]at this;exact this
 ·exact TR (by assumption) h
 ·rename_i c ao
  split at h
  ·rename_i x t hc hx aB
   obtain⟨callee,args,ts⟩:=c;simp only at hc hx aB;rw[hc,Kx hx,Kx aB]at ao;exact TQ ao h
  ·rename_i b x y hc hx
   obtain⟨callee,args,ts⟩:=c;simp only at hc hx;rw[hc,wz hx]at ao;exact TW ao h
  ·rename_i f hc
   obtain⟨callee,args,ts⟩:=c;simp only at hc;rw[hc]at ao;exact TN ao rfl h
  ·cases h
 ·cases h
end
end Go.aG
namespace Go.aG
open Go
def z8:dS→dS→Prop
 | .box _ _,.box _ _=>True
 | .row _ _ n _,.row _ _ m _=>n=m
 | .bO _,.bO _=>True
 |_,_=>False
section
variable {w w':World} {ro ro':Nat→Prop} {σ eU:bp} {β dB:Nat→Value} {N mT:Nat}
theorem bk.move{x:az}{c:Value}(h:bk w ro σ β N x c)(hw: ∀b,ro b→w'.heap[b]? =w.heap[b]?)(bZ: ∀b,ro b→ro' b)(jB:N≤mT)
 (aj: ∀id o,id<N→aA eU id=some o→dB id=β id∧∃b6,aA σ id=some b6∧z8 b6 o):bk w' ro' eU dB mT x c:=by
 induction h with
 |au x c hx=>exact .au x c (hx.keep hw bZ)
 |agg cs c ah _ aO=>exact .agg cs c ah aO
 |tuple cs c ah _ aO=>exact .tuple cs c ah aO
 |ptr id off c an ak=>
  refine .ptr id off c (by omega) fun t cs ag=>?_
  obtain⟨ad,b6,dr,ah⟩:=aj id _ an ag
  cases b6 with
  |box bn cs'=>
   obtain⟨b,aa,af⟩:=ak bn cs' dr;exact⟨b,ad.trans aa,af⟩
  |_=>exact ah.elim
 |dh id off c an ak=>
  refine .dh id off c (by omega) fun t cs ag=>?_
  obtain⟨ad,b6,dr,ah⟩:=aj id _ an ag
  cases b6 with
  |box bn cs'=>
   obtain⟨b,aa,af⟩:=ak bn cs' dr;exact⟨b,ad.trans aa,af⟩
  |_=>exact ah.elim
 |cn id i off c an ak=>
  refine .cn id i off c (by omega) fun z t n es ag=>?_
  obtain⟨ad,b6,dr,ah⟩:=aj id _ an ag
  cases b6 with
  |row ht bn cy dX=>
   have ah:cy=n:=ah
   subst ah;obtain⟨b,l,hL,aa,af⟩:=ak ht bn cy dX dr;exact⟨b,l,hL,ad.trans aa,af⟩
  |_=>exact ah.elim
 |aL id c an ak=>
  refine .aL id c (by omega) fun z t n es ag=>?_
  obtain⟨ad,b6,dr,ah⟩:=aj id _ an ag
  cases b6 with
  |row ht bn cy dX=>rw[ad];exact ak ht bn cy dX dr
  |_=>exact ah.elim
 |fn f p q c d aa af _ _ gp gq=>exact .fn f p q c d aa af gp gq
 |ref id c an ak=>
  refine .ref id c (by omega) fun br ag=>?_
  obtain⟨ad,b6,dr,ah⟩:=aj id _ an ag
  cases b6 with
  |bO ku=>rw[ad];exact ak ku dr
  |_=>exact ah.elim
 |top c=>exact .top c
end
section
variable {P:Program} {G:aY} {s:aJ} {E:Entry} {a:Act} {w w':World} {β:Nat→Value} {ro:Nat→Prop}
variable {o:Oper}
theorem Le{x:Operand}{xs:Array Operand}{f:Fn}{p q:List az}{c d:Array Value}(h:cP E G s a w β ro)(aa:c.size=p.length)(af:d.size=q.length)(kj: ∀(j:Nat) (x:az),p[j]? =some x→bk w ro s.heap β s.next x (c.getD j undef))(w1: ∀(j:Nat) (x:az),q[j]? =some x→bk w ro s.heap β s.next x (d.getD j undef)):
 ∀(i:Nat) (y:az),(p++xs.toList.map (aE G s)++q)[i]? =some y→bk w ro s.heap β s.next y ((c++xs.map a.eval++d).getD i undef):=fun i y ax=>by
 rw[Array.getD_eq_getD_getElem?]
 rcases Nat.lt_or_ge i (p.length+xs.size)with hi|hi
 ·rw[List.getElem?_append_left (by simpa using hi)]at ax
  rw[Array.getElem?_append_left (by simpa[aa]using hi)]
  rcases Nat.lt_or_ge i p.length with h1|h1
  ·rw[List.getElem?_append_left h1]at ax
   rw[Array.getElem?_append_left (by omega),←Array.getD_eq_getD_getElem?]
   exact kj i y ax
  ·rw[List.getElem?_append_right h1,List.getElem?_map]at ax
   rw[Array.getElem?_append_right (by omega),aa]
   cases bl:xs.toList[i-p.length]? with
   |none=>simp[bl]at ax
   |some z=>
    simp only[bl,Option.map_some,Option.some.injEq]at ax;subst ax
    have r3:xs[i-p.length]? =some z:=by simpa using bl
    simp only[Array.getElem?_map,r3,Option.map_some,Option.getD_some]
    exact h.eval z
 ·rw[List.getElem?_append_right (by simpa using hi)]at ax
  rw[Array.getElem?_append_right (by simpa[aa]using hi),←Array.getD_eq_getD_getElem?]
  have:=w1 _ y ax
  simpa[aa]using this
theorem T4{x:Operand}{xs:Array Operand}{ts:Array TypeId}(ao:o.op= .call {callee:=.value x,args:=xs,argTypes:=ts}){f:FuncId}{p q:List az}(hx:aE G s x= .fn (.func f) p q)(fR:lH P f=true)
 {R:az→bp→Prop}(hc:dn P G f (p++xs.toList.map (aE G s)++q) s.heap s.next R){bd:aJ→Prop}
 (fk: ∀r bE,R r bE→∃m,s.next≤m∧fQ m r=true∧j8 m bE=true∧(∀id o,id<s.next→aA bE id=some o→∃b6,aA s.heap id=some b6∧z8 b6 o)∧bd (aJ.put ⟨s.cl,bE,m,s.base⟩ o.dst r)):
 ∀(E:Entry) (a:Act) (w:World),Rel E G s a w→∀(K:Act→World→Prop) (Q:Exit→Act→World→Prop),(∀t,bd t→∀aW w',Rel E G t aW w'→K aW w')→o.wp P a w K Q:=by
 intro E a w ⟨β,ro,h⟩ K Q hK
 have iF:=h.eval x
 rw[hx]at iF
 generalize he:a.eval x=zg at iF
 cases iF with
 |fn _ _ _ c d aa af kj w1=>
  unfold Oper.wp;simp only[execOp,ao,resolve,he,Deferred.ofValue,Sem.run_bind,Sem.run_pure,Result.andThen_ok,invoke];rw[ze fR]
  have gv:=hc w β ro (c++xs.map a.eval++d) (by simp[aa,af,Nat.add_assoc]) (Le (x:=x) (f:=.func f) h aa af kj w1) h.heap h.ha h.trans.new
  refine Calls.mono gv fun e w' aH=>?_
  obtain⟨v,r,bE,dB,ro',cy,rfl,ae,c1,gO,cb⟩:=aH;obtain⟨m,hm,T5,Lf,vL,eP⟩:=fk r bE ae
  have hw: ∀b,ro b→w'.heap[b]? =w.heap[b]? :=fun b ad=>cb.frame b (h.heap.lt b ad) (h.heap.fe b ad)
  have bZ: ∀b,ro b→ro' b:=cb.iV
  have aj: ∀id o,id<s.next→aA bE id=some o→dB id=β id∧∃b6,aA s.heap id=some b6∧z8 b6 o:=fun id o bz ag=>⟨(cb.dj id bz o ag).2,vL id o bz ag⟩
  have fO:cP E G ⟨s.cl,bE,m,s.base⟩ a w' dB ro':=by
   refine⟨h.defers,h.size,fun i x hx=>(h.slot i x hx).move hw bZ hm aj,⟨fun id o ag=>?_,gO.inj,gO.fe,gO.lt⟩,h.ha.keep hw bZ,?_,h.base⟩
   ·obtain⟨_,vX⟩:=o6 Lf ag
    cases gO.cL id o ag with
    |box t cs b arr aC a6 ck eT=>exact .box t cs b arr aC a6 ck fun j x ai=>(eT j x ai).lower (o5 (vX t cs rfl) ai)
    |row t n es xs aC a6 ck=>exact .row t n es xs aC a6 ck
    |fG t n es aC=>exact .fG t n es aC
    |bO br b o aC a6 ck=>exact .bO br b o aC a6 ck
   ·have t:=h.trans
    refine⟨cb.os.trans t.os,cb.tape.trans t.tape,cb.output.trans t.output,Nat.le_trans t.size cb.size,fun b ad hn=>?_,fun b ad=>?_,fun b ad=>bZ b (t.iV b ad),fun b ad=>?_,fun id bz o ag=>?_,fun id o ag=>(o6 Lf ag).1,Nat.le_trans t.le hm⟩
    ·rw[←t.frame b ad hn]
     refine cb.frame b (Nat.lt_of_lt_of_le ad t.size) fun iC=>?_
     rcases t.gm b iC with q|q
     ·exact hn q
     ·omega
    ·rcases cb.h3 b ad with q|q|q
     ·exact t.h3 b q
     ·rcases t.gm b q with q|q
      ·exact .inr (.inl q)
      ·exact .inr (.inr q)
     ·exact .inr (.inr (Nat.le_trans t.size q))
    ·rcases cb.gm b ad with q|q
     ·exact t.gm b q
     ·exact .inr (Nat.le_trans t.size q)
    ·have DA:id<s.next:=Nat.lt_of_lt_of_le bz t.le
     obtain⟨aa,af⟩:=aj id o DA ag;obtain⟨b6,ar,_⟩:=af;obtain⟨dx,dG⟩:=t.dj id bz b6 ar;exact⟨dx,aa.trans dG⟩
  exact hK _ eP _ _ ⟨dB,ro',fO.put o.dst r v (c1.lower T5)⟩
end
end Go.aG
namespace Go.aG
open Go
inductive sn:dS→dS→Prop where
 |same (o:dS):sn o o
 |box (t:TypeId) {cs ds:List az}:fI cs ds→sn (.box t cs) (.box t ds)
 |row (t:TypeId) (n:Nat) {es fs:List (List ba)}:es.length=fs.length→(∀e∈fs,e.length=n)→fH es.flatten fs.flatten→sn (.row false t n es) (.row false t n fs)
def oy(s t:aJ):Prop:=∀E (G:aY) a w β ro,cP E G s a w β ro→cP E G t a w β ro
theorem oy.le{s t:aJ}(h:oy s t):cw s t:=fun E G a w ⟨β,ro,ae⟩=>⟨β,ro,h E G a w β ro ae⟩
theorem oy.of{s t:aJ}(ad:t.base=s.base)(hn:s.next≤t.next)(an:t.cl.length=s.cl.length)(ah: ∀(i:Nat) (v:az),t.cl[i]? =some v→∃u,s.cl[i]? =some u∧Sub u v)
 (aV: ∀(id:Nat) (o:dS),aA t.heap id=some o→∃b6,aA s.heap id=some b6∧sn b6 o):oy s t:=by
 intro E G a w β ro h
 have ma: ∀id ty cs,aA t.heap id=some (.box ty cs)→β id=β id∧∃ty cs,aA s.heap id=some (.box ty cs):=fun id ty cs ag=>by
  obtain⟨b6,aa,af⟩:=aV id _ ag
  cases af with
  |same=>exact⟨rfl,ty,cs,aa⟩
  |box _ h=>exact⟨rfl,_,_,aa⟩
 have dk: ∀id z ty n es,aA t.heap id=some (.row z ty n es)→β id=β id∧∃z ty es,aA s.heap id=some (.row z ty n es):=fun id z ty n es ag=>by
  obtain⟨b6,aa,af⟩:=aV id _ ag
  cases af with
  |same=>exact⟨rfl,z,ty,es,aa⟩
  |row _ _=>exact⟨rfl,_,_,_,aa⟩
 have mb: ∀id br,aA t.heap id=some (.bO br)→β id=β id∧∃br,aA s.heap id=some (.bO br):=fun id br ag=>by
  obtain⟨b6,aa,af⟩:=aV id _ ag
  cases af with
  |same=>exact⟨rfl,br,aa⟩
 have hex: ∀id o,aA t.heap id=some o→∃b6,aA s.heap id=some b6∧b6.live=o.live:=fun id o ag=>by
  obtain⟨b6,aa,af⟩:=aV id o ag
  cases af<;>exact⟨_,aa,rfl⟩
 have own: ∀b,Own t.heap β b→Own s.heap β b:=fun b ⟨id,o,ag,D8,a1⟩=>by
  obtain⟨b6,aa,af⟩:=hex id o ag;exact⟨id,b6,aa,by rw[af];exact D8,a1⟩
 refine⟨h.defers,by rw[an];exact h.size,fun i x hx=>?_,⟨fun id o ag=>?_,fun id gl o b6 b aa af ar aQ bx ct=>?_,fun b ad ao=>h.heap.fe b ad (own b ao),h.heap.lt⟩,h.ha,?_,by rw[ad];exact h.base⟩
 ·obtain⟨u,hu,fP⟩:=ah i x hx
  exact(fP _ _ _ _ _ _ (h.slot i u hu)).keep (fun _ _=>rfl) (fun _ h=>h) hn ma dk mb
 ·obtain⟨b6,aa,T6⟩:=aV id o ag
  have c7:=(h.heap.cL id b6 aa).keep (fun _ _=>rfl) (fun _ h=>h) hn (Nat.le_refl _) rfl (fun _ _ _=>rfl) ma dk mb
  cases T6 with
  |same=>exact c7
  |box ty fP=>
   cases c7 with
   |box _ _ b arr aC a6 ck eT=>
    refine .box ty _ b arr aC a6 (by rw[ck,fP.at.1]) fun j x ai=>?_
    obtain⟨u,hu,E4⟩:=fP.at.2 j x ai;exact E4 _ _ _ _ _ _ (eT j u hu)
  |row ty n an hn fP=>
   cases c7 with
   |row _ _ _ xs aC a6 ck=>
    refine .row ty n _ xs (by rw[←an];exact aC) hn fun j x ai=>?_
    obtain⟨u,hu,E4⟩:=fP.at.2 j x ai;exact E4 _ _ _ (ck j u hu)
 ·obtain⟨p,g1,g2⟩:=hex id o aa
  obtain⟨ft,g3,g4⟩:=hex gl b6 af;exact h.heap.inj id gl p ft b g1 g3 (by rw[g2];exact ar) (by rw[g4];exact aQ) bx ct
 ·have nC:=h.trans
  refine⟨nC.os,nC.tape,nC.output,nC.size,nC.frame,nC.h3,nC.iV,fun b ad=>nC.gm b (own b ad),fun id hi o ag=>?_,fun id o ag=>?_,Nat.le_trans nC.le hn⟩
  ·obtain⟨p,g1,_⟩:=hex id o ag
   exact nC.dj id hi p g1
  ·obtain⟨p,g1,_⟩:=hex id o ag
   exact Nat.lt_of_lt_of_le (nC.new id p g1) hn
theorem cw.of{s t:aJ}(ad:t.base=s.base)(hn:s.next≤t.next)(an:t.cl.length=s.cl.length)(ah: ∀(i:Nat) (v:az),t.cl[i]? =some v→∃u,s.cl[i]? =some u∧Sub u v)
 (aV: ∀(id:Nat) (o:dS),aA t.heap id=some o→∃b6,aA s.heap id=some b6∧sn b6 o):cw s t:=(oy.of ad hn an ah aV).le
theorem oy.put{s t:aJ}{i:Nat}{x:ba}(h:oy s t)(ah:s.cl[i]? =some (.au x)):oy s (t.put (some i) (.au x)):=by
 intro E G a w β ro ae
 have aB:=h E G a w β ro ae
 refine⟨aB.defers,by simp only[aJ.put,List.length_set];exact aB.size,fun j y ax=>?_,aB.heap,aB.ha,aB.trans,aB.base⟩
 simp only[aJ.put,List.getElem?_set]at ax
 split at ax
 ·rename_i e
  subst e
  split at ax
  ·cases ax
   cases ae.slot i (.au x) ah with
   |au _ _ av=>exact .au _ _ av
  ·cases ax
 ·exact aB.slot j y ax
section
variable {P:Program} {G:aY}
theorem dO.uf{o:Oper}{s t bn:aJ}(h:dO P G o s t)(an:cw t bn):dO P G o s bn:=
 fun E a w ae K Q hK=>h E a w ae K Q fun aW w' dC=>hK aW w' (an E G aW w' dC)
theorem Lg{s:aJ}{dst:Option Nat}{v bo:az}(h:Sub v bo):cw (s.put dst v) (s.put dst bo):=by
 cases dst with
 |none=>exact cw.refl _
 |some d=>
  refine cw.of rfl (Nat.le_refl _) (by simp[aJ.put]) (fun i u hu=>?_) (fun id o ao=>⟨o,ao,.same o⟩)
  simp only[aJ.put,List.getElem?_set]at hu⊢
  split at hu
  ·rename_i e
   rw[if_pos e]
   split at hu
   ·rename_i bz
    cases hu;rw[if_pos bz];exact⟨_,rfl,h⟩
   ·cases hu
  ·rename_i e
   rw[if_neg e];exact⟨u,hu,Sub.refl _⟩
theorem Lh{s:aJ}{h':bp}{dst:Option Nat}{v:az}(aV: ∀id o,aA h' id=some o→∃b6,aA s.heap id=some b6∧sn b6 o):cw (s.put dst v) (aJ.put {s with heap:=h'} dst v):=by
 cases dst with
 |none=>exact cw.of rfl (Nat.le_refl _) rfl (fun i u hu=>⟨u,hu,Sub.refl _⟩) aV
 |some d=>exact cw.of rfl (Nat.le_refl _) rfl (fun i u hu=>⟨u,hu,Sub.refl _⟩) aV
theorem E5: ∀{l m:List ba},fI (l.map .au) (m.map .au)→fH l m
 |[],[],_=>.nil
 |[],_::_,h=>by cases h
 |_::_,[],h=>by cases h
 |x::l,y::m,h=>by
  cases h with
  |cons aa af=>
   refine .cons (fun w ro c hc=>?_) (E5 af)
   have:=aa w ro [] (fun _=>undef) 0 c (.au x c hc)
   cases this with
   |au _ _ h=>exact h
theorem fH.refl: ∀(l:List ba),fH l l
 |[]=>.nil
 |x::r=>.cons (lb.refl x) (fH.refl r)
theorem fH.append{a b c d:List ba}(h:fH a b)(k:fH c d):fH (a++c) (b++d):=by
 induction h with
 |nil=>exact k
 |cons h _ aO=>exact .cons h aO
end
section
variable {P:Program} {G:aY} {s:aJ}
theorem T7{o:Oper}(t:TypeId)(len:Nat)(parts:Array (Nat × Operand))(ao:o.op= .buildSlice t len parts){e n:Nat}(hu:P.underlying t=some (.slice e))(bA:(P.info? e).map (·.size)=some n)
 {zs:List Value}(bl:zeroCells P e=some zs)(qd:zs.all Value.oneCell'=true)(k7:zs.length=n)(hlen:0<len*n∧len*n≤16777216)
 {ps:List (Nat × az)}(o9:parts.toList.map (fun p=>(p.1,aE G s p.2))=ps)(dz:ps.all (fun p=>(ch p.2).all (dT s.heap))=true)
 {ds:List az}(hf:ja (fun i=>some (i*n,n)) ((List.replicate len (zs.map fun z=>az.au (.v z))).flatten) ps=some ds)(ad:s.base≤s.next):
 dO P G o s ({s with heap:=(s.next,.box e ds)::s.heap,next:=s.next+1}.put o.dst (.dh s.next len)):=by
 have lJ:ds.length=len*n:=by
  have: ∀(ps:List (Nat × az)) (cs ds:List az),ja (fun i=>some (i*n,n)) cs ps=some ds→ds.length=cs.length:=by
   intro ps
   induction ps with
   |nil=>intro cs ds h;simp[ja]at h;rw[h]
   |cons p r aO=>
    intro cs ds h;obtain⟨i,v⟩:=p;simp only[ja]at h
    split at h
    ·rename_i hc
     rw[aO _ _ h,n5 _ _ _ (by omega)]
    ·cases h
  rw[this ps _ _ hf,iW (n:=n) (fun e he=>by rw[List.mem_replicate]at he;rw[he.2];simpa using k7)]
  simp
 intro E a w ⟨β,ro,ae⟩ K Q hK
 obtain⟨aa,af⟩:=DN ae o9 dz
 obtain⟨z,k4,nc,_⟩:=vO bl w
 have e0:(List.replicate len (zs.map fun z=>az.au (.v z))).flatten.length=len*n:=by
  rw[iW (n:=n) (fun e he=>by rw[List.mem_replicate]at he;rw[he.2];simpa using k7)];simp
 have Sn:zs.toArray.size=n:=by simpa using k7
 have pb:0<n:=by
  rcases Nat.eq_zero_or_pos n with h|h
  ·rw[h]at hlen;simp at hlen
  ·exact h
 obtain⟨ys,g1,g2,g3⟩:=zj (place':=fun i=>some (i*n,n)) (fun _ _ h=>h) ae.heap hf aa af (xs:=(Array.range (len*n)).map fun x=>zs.toArray[x%zs.toArray.size]!) (by rw[e0];simp) (fun j x ai=>by
  have dv:j<len*n:=by rw[←e0];exact(List.getElem?_eq_some_iff.1 ai).1
  have hm:j=(j/ n)*n+j%n:=by rw[Nat.mul_comm];exact(Nat.div_add_mod j n).symm
  have mh:j%n<n:=Nat.mod_lt _ pb
  have mi:j/ n<len:=by rw[Nat.div_lt_iff_lt_mul pb];exact dv
  rw[hm,oV (n:=n) (fun e he=>by rw[List.mem_replicate]at he;rw[he.2];simpa using k7) (i:=j/ n) (e:=zs.map fun z=>az.au (.v z)) (by simp[mi]) (j%n) mh]at ai
  have:=DM (w:=w) (ro:=ro) (σ:=s.heap) (β:=β) (N:=s.next) qd (j%n) x ai
  have aC:(Array.map (fun x=>zs.toArray[x%zs.toArray.size]!) (Array.range (len*n))).getD j undef=zs.toArray.getD (j%n) undef:=by
   have ar:j%n<zs.length:=by omega
   simp[dv,k7,List.getElem?_eq_getElem ar]
  rw[aC]
  exact this)
 have cD:(execOp a.eval o).run P w= .ok (.value (.slice (some ⟨w.heap.size,0,none⟩) len len)) (w.alloc (.cells ys e)):=by
  have wa:(sizeOf e).run P w= .ok n w:=by
   cases hi:P.info? e with
   |none=>simp[hi]at bA
   |some i=>simp[hi]at bA;simp[sizeOf,typeInfo,hi,bA]
  have bX: ¬len*n>2^24:=by omega
  have jL: ¬len*n=0:=by omega
  simp only[execOp,ao,Sem.run_bind,Instr.buildSlice,run_underlying hu,Result.andThen_ok,wa,if_neg bX,if_neg jL,k4,Sem.run_pure,nc]
  erw [g1]
  simp[newRow]
 have j6:aA s.heap s.next=none:=by
  cases ag:aA s.heap s.next with
  |none=>rfl
  |some p=>have:=ae.trans.new _ _ ag;omega
 have up: ∀(x:az) (c:Value),bk w ro s.heap β s.next x c→bk (w.alloc (.cells ys e)) ro ((s.next,.box e ds)::s.heap) (gL β s.next (.pointer (some ⟨w.heap.size,0,none⟩))) (s.next+1) x c:=fun x c hx=>
  hx.move (fun b ad=>(Go.RowKit.Below.heap_alloc w _ b (ae.heap.lt b ad))) (fun _ h=>h) (Nat.le_succ _) fun id o bz ag=>by
   have bX: ¬s.next=id:=by omega
   simp only[aA,if_neg bX]at ag;refine⟨cu _ _ (fun aV=>bX aV.symm),o,ag,?_⟩
   cases o with
   |box=>trivial
   |row=>rfl
   |bO=>trivial
 have fO:=ae.new (w':=w.alloc (.cells ys e)) s.next j6 ad (Nat.le_refl _) (.box e ds) (.pointer (some ⟨w.heap.size,0,none⟩)) rfl rfl rfl (by simp) (fun b ad=>Go.RowKit.Below.heap_alloc w _ b ad) (fun b ad=>by simp[b0]at ad;omega) rfl
  (.box e ds w.heap.size ys (by rw[dY]) (heap_alloc_new w _) g2 fun j x ai=>up _ _ (g3 j x ai))
 unfold Oper.wp
 rw[cD]
 exact hK _ _ ⟨_,ro,fO.put o.dst (.dh s.next len) (.slice (some ⟨w.heap.size,0,none⟩) len len) (.dh _ _ _ (Nat.lt_succ_self _) fun t cs _=>⟨_,dY _ _ _,rfl⟩)⟩
end
def ab.w2:ab→Bool
 | .bb _ _=>true
 | .fd _ _ _ _=>true
 | .cs _=>true
 | .ip _ _ _=>true
 |_=>false
theorem Aa{G:aY}{e:Env}: ∀{l:List ab},l.all ab.w2=true→∃vs,hN (ab.bF G e l)=some vs∧ab.bF G e l=vs.map .au
 |[],_=>⟨[],rfl,rfl⟩
 |x::r,h=>by
  simp only[List.all_cons,Bool.and_eq_true]at h;obtain⟨vs,aa,af⟩:=Aa (G:=G) (e:=e) h.2
  have: ∃y,x.den G e= .au y:=by
   cases x<;>first|exact⟨_,rfl⟩|(simp[ab.w2]at h)
  obtain⟨y,ax⟩:=this;refine⟨y::vs,?_,?_⟩
  ·simp only[ab.bF,ax,hN,aa]
  ·simp only[ab.bF,ax,af,List.map_cons]
mutual
def ab.kill(id:Nat):ab→ab
 | .cm l=>.cm (ab.dQ id l)
 | .tp l=>.tp (ab.dQ id l)
 | .de k o=>match decide (k=id)with
  |true=>.top
  |false=>.de k o
 | .fY k x o=>match decide (k=id)with
  |true=>.top
  |false=>.fY k x o
 | .ga k o x n=>match decide (k=id)with
  |true=>.top
  |false=>.ga k o x n
 | .aL k=>match decide (k=id)with
  |true=>.top
  |false=>.aL k
 | .cC k n=>match decide (k=id)with
  |true=>.top
  |false=>.cC k n
 | .eH g (some k) o=>match decide (k=id)with
  |true=>.eH g none o
  |false=>.eH g (some k) o
 | .fn f a b=>.fn f (ab.dQ id a) (ab.dQ id b)
 | .ia k=>match decide (k=id)with
  |true=>.top
  |false=>.ia k
 | .e6 g b x=>.e6 g b (ab.kill id x)
 |x=>x
def ab.dQ(id:Nat):List ab→List ab
 |[]=>[]
 |x::r=>ab.kill id x::ab.dQ id r
end
def aZ.map{α:Type}(f:α→α):aZ α→aZ α
 | .emp=>.emp
 | .n v l r=>.n (match v with|some x=>some (f x)|none=>none) (l.map f) (r.map f)
theorem aZ.get_map{α:Type}(f:α→α): ∀(t:aZ α) (k:Nat),(t.map f).get k=(t.get k).map f
 | .emp,_=>rfl
 | .n v l r,k=>by
  simp only[aZ.map,aZ.get]
  split
  ·cases v<;>rfl
  ·split
   ·exact aZ.get_map f l _
   ·exact aZ.get_map f r _
structure da where
 xs:List bG
 ns:List fA
 J4:Option Nat
 h:List (Nat × bq)
 n:Nat
 v:ab
def da.l(r:da)(l:aZ ab):aZ ab:=
 match r.J4 with
 |none=>l
 |some id=>l.map (ab.kill id)
def da.st(r:da)(S:aq)(dst:Option Nat):aq:=({S with l:=r.l S.l,h:=r.h,n:=r.n}:aq).put dst r.v
def nD(P:Program)(G:aY)(N B:Nat)(M:List bc)(o:Oper)(S:aq)(r:da):Prop:=
 ∀e,(∀c∈S.g,c.ok e)→(∀(j:Nat) (x:bG),r.xs[j]? =some x→Env.at e (S.k+j)=x.den M e)→(∀n∈r.ns,n.ok M e)→dO P G o (S.den G N B e) ((r.st S o.dst).den G N B e)
def E6(P:Program)(B:Nat)(S:aq)(t:TypeId):Option da:=
 match zeroCells P t with
 |some zs=>match zs.all Value.oneCell'&&Nat.ble B S.n with
  |true=>some ⟨[],[],none,(S.n,.cT t (zs.map .cs))::S.h,S.n+1,.de S.n 0⟩
  |false=>none
 |none=>none
def E7(B:Nat)(S:aq)(t:TypeId)(x:ab):Option da:=
 match x.cells.all (jQ S.h)&&Nat.ble B S.n with
 |true=>some ⟨[],[],none,(S.n,.cT t x.cells)::S.h,S.n+1,.de S.n 0⟩
 |false=>none
def E8(P:Program)(S:aq)(t:TypeId)(p x:ab):Option da:=
 match p with
 | .de id off=>match c2 S.h id,(P.info? t).map (·.size)with
  |some (.cT bt l),some n=>match x.cells.all (jQ S.h)&&(Nat.beq n x.cells.length&&Nat.ble (off+n) l.length)with
   |true=>some ⟨[],[],none,jO S.h id (.cT bt (dH l off x.cells)),S.n,.top⟩
   |false=>none
  |_,_=>none
 | .fY id i off=>match c2 S.h id,(P.info? t).map (·.size),i.rt with
  |some (.rw bt c y),some n,some (.int k)=>match x.cells.all ab.w2&&((x.cells.all (jQ S.h)&&y.fl (.li c))&&(Nat.beq n x.cells.length&&(Nat.ble (off+n) (cO c)&&gX (e3 c) (dH (ib c S.k 0 (e3 c)) off x.cells))))with
   |true=>some ⟨[.f2 (.jh c k) y i,.up c y i (.cm (dH (ib c S.k 0 (e3 c)) off x.cells))],nB S.g (.hU c) (.jh c k) y i,
    none,jO S.h id (.rw bt c (.bb (.li c) (S.k+1))),S.n,.top⟩
   |false=>none
  |_,_,_=>none
 |_=>none
section
variable {P:Program} {G:aY} {o:Oper} {N B:Nat} {S:aq} {M:List bc}
theorem T8{t:TypeId}{r:da}(ao:o.op= .alloc t)(h:E6 P B S t=some r):nD P G N B M o S r:=fun e hf hx hn=>by
 unfold E6 at h
 split at h
 ·rename_i zs bl
  split at h
  ·rename_i ad
   cases h;simp only[Bool.and_eq_true]at ad
   have:=Jm (G:=G) (s:=S.den G N B e) t ao (Nat.le_of_ble_eq_true ad.2) bl ad.1
   rw[da.st,fh];simp only[aq.den,cv,bq.den,ab.den,da.l]at this⊢;rw[eg,List.map_map];exact this
  ·cases h
 ·cases h
theorem T9{t:TypeId}{x:Operand}{r:da}(ao:o.op= .box t x)(h:E7 B S t (S.aX N x)=some r):nD P G N B M o S r:=fun e hf hx hn=>by
 unfold E7 at h
 split at h
 ·rename_i ad
  cases h;simp only[Bool.and_eq_true]at ad
  have av:=sf (G:=G) (e:=e) ad.1
  have:=Jk (P:=P) (G:=G) (s:=S.den G N B e) t x ao (Nat.le_of_ble_eq_true ad.2) (by rw[bw hf,av];exact ua ad.1)
  rw[bw hf,av]at this;rw[da.st,fh];exact this
 ·cases h
theorem Ua{c:bC}{l:List (fN c)}{j:Nat}{ug aC:fN c}{vs:List ba}(aP:l[j]? =some ug)(ah:fH vs (cF c aC)):fH ((l.map (cF c)).set j vs).flatten ((l.set j aC).map (cF c)).flatten:=by
 induction l generalizing j with
 |nil=>simp at aP
 |cons x l aO=>
  cases j with
  |zero=>
   simp only[List.map_cons,List.set_cons_zero,List.flatten_cons];exact ah.append (fH.refl _)
  |succ j=>
   simp only[List.map_cons,List.set_cons_succ,List.flatten_cons];exact(fH.refl _).append (aO (by simpa using aP))
theorem Ub{t:TypeId}{p x:Operand}{r:da}(ao:o.op= .store t p x)(h:E8 P S t (S.aX N p) (S.aX N x)=some r):nD P G N B M o S r:=fun e hf hx hn=>by
 unfold E8 at h
 split at h
 ·rename_i id off ak
  split at h
  ·rename_i bt l n ag bA
   split at h
   ·rename_i ad
    cases h;simp only[Bool.and_eq_true]at ad
    have av:=sf (G:=G) (e:=e) ad.1
    have hlen:=Nat.eq_of_beq_eq_true ad.2.1
    have kC:ch (aE G (S.den G N B e) x)=ab.bF G e (S.aX N x).cells:=by rw[bw hf,av]
    have:=Jo (P:=P) (G:=G) (s:=S.den G N B e) t p x ao (id:=id) (off:=off) (by rw[bw hf,ak];rfl) (bt:=bt) (cs:=ab.bF G e l) (by simp only[aq.den,et,ag,Option.map_some,bq.den])
     (vs:=ab.bF G e (S.aX N x).cells) kC (ua ad.1) (by rw[lT,bA,hlen]) (by rw[lT,lT,←hlen];exact Nat.le_of_ble_eq_true ad.2.2)
    rw[da.st,fh];simp only[aq.den,sc,bq.den,ab.den,da.l]at this⊢;rw[eg,zT,←eg,←eg];exact this
   ·cases h
  ·cases h
 ·rename_i id i off ak
  split at h
  ·rename_i bt c y n k ag bA hi
   split at h
   ·rename_i ad
    cases h;simp only[Bool.and_eq_true]at ad;obtain⟨ez,⟨gB,fE⟩,l9,px,qG⟩:=ad
    have hlen:=Nat.eq_of_beq_eq_true l9
    obtain⟨g1,g2⟩:=tY hf hi hn;obtain⟨vs,v1,v2⟩:=Aa (G:=G) (e:=e) ez
    have nE:vs.length=n:=by
     have:=congrArg List.length v2
     rw[lT,List.length_map]at this;omega
    have kC:ch (aE G (S.den G N B e) x)=ab.bF G e (S.aX N x).cells:=by rw[bw hf,sf gB]
    have aP:Env.at e S.k=⟨.st c,List.getD (y.aD e (.li c)) (Int.toNat (i.aD e (.int k))) (ed c)⟩:=hx 0 _ rfl
    have aa:Env.at e (S.k+1)=_:=hx 1 _ rfl
    have ef:=getD_at g1 g2
    have di:=Jq (P:=P) (G:=G) (s:=S.den G N B e) t p x ao (id:=id) (i:=(b1 (i.dyn e)).toNat) (off:=off) (by rw[bw hf,ak];rfl) (bt:=bt) (n:=cO c) (es:=List.map (cF c) (y.aD e (.li c))) (by simp only[aq.den,et,ag,Option.map_some,bq.den])
     (e:=cF c (List.getD (y.aD e (.li c)) (Int.toNat (i.aD e (.int k))) (ed c))) (by rw[List.getElem?_map,lh hi,ef];rfl) (by rw[kC];exact v1) (by rw[bA,nE]) (by rw[nE];exact Nat.le_of_ble_eq_true px)
    refine di.uf ?_
    rw[da.st,fh]
    have j5:fH (dH (cF c (List.getD (y.aD e (.li c)) (Int.toNat (i.aD e (.int k))) (ed c))) off vs) (cF c (np c (hg e (e3 c) (dH (ib c S.k 0 (e3 c)) off (S.aX N x).cells)))):=by
     have:=wG (G:=G) (e:=e) qG
     rw[eg,zT,←eg,←eg,tH,aP,cA,v2,←zT]at this;exact E5 this
    have fO:(ab.bb (.li c) (S.k+1)).aD e (.li c)=List.set (y.aD e (.li c)) (b1 (i.dyn e)).toNat (np c (hg e (e3 c) (dH (ib c S.k 0 (e3 c)) off (S.aX N x).cells))):=by
     simp only[ab.aD,ab.fu,ab.dyn,cA,aa,bG.den,ab.get,ab.cells]
    refine Lh (s:={S.den G N B e with heap:=eG (S.den G N B e).heap id _}) (h':=cv G e (jO S.h id (.rw bt c (.bb (.li c) (S.k+1))))) fun gl hv w3=>?_
    rw[sc,s9]at w3;simp only[s9]
    by_cases hid:id=gl
    ·rw[if_pos hid]at w3⊢
     cases w3;refine⟨_,rfl,?_⟩
     simp only[bq.den];rw[fO];refine .row bt (cO c) (by simp) (fun q aH=>?_) (Ua (by rw[lh hi];exact ef) j5)
     obtain⟨z,_,rfl⟩:=List.mem_map.1 aH;exact zv c z
    ·rw[if_neg hid]at w3⊢
     exact⟨hv,w3,.same hv⟩
   ·cases h
  ·cases h
 ·cases h
end
end Go.aG
namespace Go.aG
open Go Go.Lib
section
variable {P:Program}
theorem E9{w:World}(t u ty e:TypeId){i:TypeInfo}(aB:P.underlying t=some (.slice e))(hu:P.underlying u=some .string)(hi:P.info? e=some i)(bl:i.zero=some (.int .u8 0))(hA:i.size=1)(h7:i.bytes=1)
 {v:Value}{n:Nat}{xs:List Value}(dk:jG w e 1 v n xs)(s:ByteArray)(qe:n+s.size≤maxLen)(wb:n+s.size≤140737488355328):
 ∃bo w',(Builtin.append_ #[t,u] ty #[v,.string s]).run P w= .ok bo w'∧jG w' e 1 bo (n+s.size) (xs++strCells s)∧w.grownBy w' (b0 v)∧(∀k,b0 bo=some k→b0 v=some k∨w.heap.size≤k):=by
 have Yy:n+s.size≤9223372036854775807:=by simp only[maxLen]at qe;omega
 have iD:xs.length=n:=by simpa using dk.1
 have hlen:(xs++strCells s).length=(n+s.size)*1:=by rw[List.length_append,iD,strCells_length,Nat.mul_one]
 have grown: ∀(dj:Nat),dj<n+s.size→∀(row:Option Nat),
  jG (w.drew.alloc (.cells (xs.toArray++(strCells s).toArray++Builtin.zeroCells (Value.int .u8 0).cells (grownCap w (n+s.size) dj e-(n+s.size))) e)) e 1
   (.slice (some ⟨w.heap.size,0,none⟩) (n+s.size) (grownCap w (n+s.size) dj e)) (n+s.size) (xs++strCells s)∧
  w.grownBy (w.drew.alloc (.cells (xs.toArray++(strCells s).toArray++Builtin.zeroCells (Value.int .u8 0).cells (grownCap w (n+s.size) dj e-(n+s.size))) e)) row:=by
  intro dj ao row
  have hO:=grownCap_ge w (n+s.size) dj e
  have h4:grownCap w (n+s.size) dj e≤maxLen:=grownCap_le_maxLen w (n+s.size) dj e qe
  refine⟨⟨hlen,.inr ⟨w.heap.size,_,_,rfl,by omega,heap_alloc_new w.drew _,hO,h4,?_,?_⟩⟩,⟨rfl,rfl,rfl,by simp,fun k aj _=>Go.RowKit.Below.heap_alloc w.drew _ k aj⟩⟩
  ·have Uc:(Value.int IntKind.u8 0).cells.size=1:=rfl
   simp only[Array.size_append,List.size_toArray,size_zeroCells,Uc,iD,strCells_length];omega
  ·simp only[Array.toList_append,List.append_assoc]
   rw[←List.append_assoc,←hlen];exact List.take_left
 have Fa: ∀(m c k:Nat),b0 (.slice (some ⟨w.heap.size,0,none⟩) m c)=some k→b0 v=some k∨w.heap.size≤k:=fun m c k aj=>by
  simp only[b0]at aj
  split at aj
  ·cases aj
  ·simp at aj;exact .inr (by omega)
 rcases dk.2 with⟨⟨c,rfl,rQ⟩,jL⟩|⟨g,cap,cur,rfl,wc,ag,Li,h4,ff,kv⟩
 ·subst jL
  have hx:xs=[]:=List.eq_nil_of_length_eq_zero iD
  subst hx
  by_cases hm:s.size=0
  ·have qf:strCells s=[]:=List.eq_nil_of_length_eq_zero (by rw[strCells_length];exact hm)
   have hf:=run_firstCells_string (P:=P) w 1 s
   rw[hm]at hf;refine⟨.slice c 0 0,w,?_,by rw[hm,qf];exact⟨rfl,.inl ⟨⟨c,rfl,rQ⟩,rfl⟩⟩,World.grownBy.refl w _,fun k aj=>.inl aj⟩
   cases c<;>simp[Builtin.append_,run_underlying aB,run_underlying hu,sizeOf,typeInfo,hi,hA,Builtin.lenOf,hm,hf,qf,storeCells]
  ·have cJ:=grown 0 (by omega) (b0 (.slice c 0 0))
   cases c with
   |none=>
    have ae:=run_append_nil_string (P:=P) w t u ty e i (.int .u8 0) aB hu hi bl s (by omega) (by omega) (by rw[h7];omega)
    simp only[Nat.zero_add,List.nil_append,Array.empty_append]at cJ⊢
    have aC:(s.data.map fun b=>Value.int .u8 b.toNat)=(strCells s).toArray:=by
     apply Array.ext';simp[strCells]
    rw[aC]at ae;exact⟨_,_,ae,cJ.1,cJ.2,Fa _ _⟩
   |some a=>
    have ae:=run_append_grow_string (P:=P) w t u ty e i (.int .u8 0) aB hu hi bl a 0 0 [] (by simp) (by simp) s (by omega) (by omega) (by rw[h7];exact growslice_fits (by omega) (by omega))
    exact⟨_,_,ae,cJ.1,cJ.2,Fa _ _⟩
 ·by_cases Lj:n+s.size≤cap
  ·have ae:=run_append_room_string (P:=P) w t u ty e i aB hu hi hA g n cap cur ag s Lj (by omega)
   refine⟨_,_,ae,⟨hlen,.inr ⟨g,cap,_,rfl,wc,setRow_heap w g cur _ e _ ag,Lj,h4,?_,?_⟩⟩,⟨rfl,rfl,rfl,by simp,fun k _ aj=>setRow_other w g k _ (fun e=>aj (by simp[b0,e,Nat.ne_of_gt wc]))⟩,fun k aj=>.inl ?_⟩
   ·simp only[List.size_toArray,List.length_append,List.length_take,List.length_drop,Array.length_toList,strCells_length]
    omega
   ·have cb:cur.toList.take n=xs:=by simpa using kv
    rw[cb,←hlen];exact List.take_left
   ·simpa[b0,Nat.ne_of_gt wc]using aj
  ·have holds: ∀j u,xs[j]? =some u→w.cell? ((⟨g,0,none⟩:Addr).add j)=some u:=by
    have iC:w.ownsRow 0 e 1 (.slice (some ⟨g,0,none⟩) n cap) n xs:=⟨dk.1,.inr ⟨g,cap,cur,rfl,Nat.zero_le _,ag,Li,h4,ff,kv⟩⟩
    exact iC.cells (g:=g) rfl
   have ae:=run_append_grow_string (P:=P) w t u ty e i (.int .u8 0) aB hu hi bl ⟨g,0,none⟩ n cap xs (by rw[hA];simpa using iD) holds s (by omega) (by omega) (by rw[h7];exact growslice_fits (by omega) (by omega))
   have cJ:=grown cap (by omega) (b0 (.slice (some ⟨g,0,none⟩) n cap))
   exact⟨_,_,ae,cJ.1,cJ.2,Fa _ _⟩
def eC(b:ByteArray):List Int:=b.data.toList.map fun u=>(u.toNat:Int)
theorem Fb{w:World}{ro:Nat→Prop}(b:ByteArray):((eC b).map fun z=>[ba.v (.int .u8 z)]).length=b.size∧∀(j:Nat) (x:ba),((eC b).map fun z=>[ba.v (.int .u8 z)]).flatten[j]? =some x→c6 w ro x ((strCells b).getD j undef):=by
 refine⟨by rw[List.length_map];unfold eC;rw[List.length_map,Array.length_toList];rfl,fun j x ai=>?_⟩
 have mZ:((eC b).map fun z=>[ba.v (.int .u8 z)]).flatten=(eC b).map fun z=>ba.v (.int .u8 z):=by
  generalize eC b=l
  induction l with
  |nil=>rfl
  |cons y r aO=>simp only[List.map_cons,List.flatten_cons,aO,List.singleton_append]
 rw[mZ]at ai
 unfold eC at ai
 simp only[List.map_map,List.getElem?_map]at ai
 obtain⟨u,hu,rfl⟩:=Option.map_eq_some_iff.1 ai
 have:(strCells b).getD j undef= .int .u8 (u.toNat:Int):=by
  unfold strCells;simp[List.getD,hu]
 rw[this]
 exact .v _ rfl
variable {G:aY} {s:aJ} {o:Oper}
def uh(P:Program)(t u:TypeId):Option TypeId:=
 match P.underlying t,P.underlying u with
 |some (.slice e),some .string=>match P.info? e with
  |some i=>match i.zero with
   |some (.int .u8 0)=>match Nat.beq i.size 1&&Nat.beq i.bytes 1 with
    |true=>some e
    |false=>none
   |_=>none
  |none=>none
 |_,_=>none
theorem Fc{t u e:TypeId}(h:uh P t u=some e): ∃i,P.underlying t=some (.slice e)∧P.underlying u=some .string∧P.info? e=some i∧i.zero=some (.int .u8 0)∧i.size=1∧i.bytes=1:=by
 unfold uh at h
 split at h
 ·rename_i aw hu ah
  split at h
  ·rename_i i hi
   split at h
   ·rename_i bl
    split at h
    ·rename_i hc
     cases h;simp only[Bool.and_eq_true]at hc;exact⟨i,hu,ah,hi,bl,Nat.eq_of_beq_eq_true hc.1,Nat.eq_of_beq_eq_true hc.2⟩
    ·cases h
   ·cases h
  ·cases h
 ·cases h
theorem Ud(x y:Operand)(t u:TypeId)(ao:o.op= .call {callee:=.builtin .append,args:=#[x,y],argTypes:=#[t,u]}){e:TypeId}(aB:uh P t u=some e)
 {id:Nat}(hx:aE G s x= .aL id){es:List (List ba)}(hid:aA s.heap id=some (.row false e 1 es))(ad:s.base≤id)(bz:id<s.next)
 {b:ByteArray}(ax:aE G s y= .au (.v (.string b)))(bA:es.length+b.size≤maxLen∧es.length+b.size≤140737488355328):
 dO P G o s (aJ.put ⟨dQ id s.cl,(id,.row false e 1 (es++(eC b).map fun z=>[ba.v (.int .u8 z)]))::c8 id s.heap,s.next,s.base⟩ o.dst (.aL id)):=by
 intro E a w ⟨β,ro,ae⟩ K Q hK
 obtain⟨i,hu,ah,hi,bl,hA,h7⟩:=Fc aB
 have c7:=ae.heap.cL id _ hid
 cases c7 with
 |row _ _ _ xs dk bX e0=>
  have kC:a.eval x=β id:=by
   have h:=ae.eval x
   rw[hx]at h;generalize a.eval x=c at h
   cases h with
   |aL _ _ _ ak=>exact ak _ _ _ _ hid
  obtain⟨bo,w',cD,nn,cJ,a1⟩:=E9 (P:=P) t u o.type e hu ah hi bl hA h7 dk b bA.1 bA.2;obtain⟨dx,dG⟩:=Fb (w:=w) (ro:=ro) b;unfold Oper.wp;simp only[execOp,ao,resolve,invoke,builtin,Sem.run_bind,Sem.run_pure,Result.andThen_ok,List.map_toArray,List.map_cons,List.map_nil,kC,ae.dU ax,cD]
  have jI: ∀k,k<w.heap.size→b0 (β id)≠some k→w'.heap[k]? =w.heap[k]? :=fun k aj bX=>cJ.block k aj (fun e=>bX e.symm)
  have bZ: ∀k,ro k→w'.heap[k]? =w.heap[k]? :=fun k aj=>jI k (ae.heap.lt k aj) fun a1=>ae.heap.fe k aj ⟨id,_,hid,rfl,a1⟩
  refine hK _ _ ⟨gL β id bo,ro,cP.put (ae.renew (w':=w') id ad bz hid (.row false e 1 (es++(eC b).map fun z=>[ba.v (.int .u8 z)])) bo cJ.os cJ.tape cJ.output cJ.size jI a1 rfl ?_) o.dst _ _ ?_⟩
  ·refine .row e 1 _ _ (by rw[dY,List.length_append,dx];exact nn) (fun aw ky=>?_) (fun j x ai=>?_)
   ·rw[List.mem_append]at ky
    rcases ky with h|h
    ·exact bX _ h
    ·obtain⟨z,_,rfl⟩:=List.mem_map.1 h
     rfl
   ·exact(zn bX dk.1 e0 dG j x ai).keep bZ fun _ h=>h
  ·exact .aL _ _ bz fun z bn cy dX _=>(dY _ _ _).symm
theorem Ue(x y:Operand)(t u:TypeId)(ao:o.op= .call {callee:=.builtin .append,args:=#[x,y],argTypes:=#[t,u]}){e:TypeId}(aB:uh P t u=some e)
 (hx:aE G s x= .au (.v (.slice none 0 0)))(ad:s.base≤s.next){b:ByteArray}(ax:aE G s y= .au (.v (.string b)))(bA:b.size≤maxLen∧b.size≤140737488355328):
 dO P G o s ({s with heap:=(s.next,.row false e 1 ((eC b).map fun z=>[ba.v (.int .u8 z)]))::s.heap,next:=s.next+1}.put o.dst (.aL s.next)):=by
 intro E a w ⟨β,ro,ae⟩ K Q hK
 obtain⟨i,hu,ah,hi,bl,hA,h7⟩:=Fc aB
 obtain⟨bo,w',cD,nn,cJ,a1⟩:=E9 (P:=P) (w:=w) t u o.type e hu ah hi bl hA h7 (v:=.slice none 0 0) (n:=0) (xs:=[]) ⟨by simp,.inl ⟨⟨none,rfl,fun _ h=>(by cases h)⟩,rfl⟩⟩ b (by omega) (by omega)
 obtain⟨dx,dG⟩:=Fb (w:=w) (ro:=ro) b
 unfold Oper.wp
 simp only[execOp,ao,resolve,invoke,builtin,Sem.run_bind,Sem.run_pure,Result.andThen_ok,List.map_toArray,List.map_cons,List.map_nil,ae.dU hx,ae.dU ax,cD]
 have j6:aA s.heap s.next=none:=by
  cases ag:aA s.heap s.next with
  |none=>rfl
  |some p=>have:=ae.trans.new _ _ ag;omega
 have hw: ∀b,b<w.heap.size→w'.heap[b]? =w.heap[b]? :=fun b ad=>cJ.block b ad (by simp[b0])
 have bZ: ∀b,ro b→w'.heap[b]? =w.heap[b]? :=fun b ad=>hw b (ae.heap.lt b ad)
 refine hK _ _ ⟨gL β s.next bo,ro,cP.put (ae.new (w':=w') s.next j6 ad (Nat.le_refl _) (.row false e 1 ((eC b).map fun z=>[ba.v (.int .u8 z)])) bo cJ.os cJ.tape cJ.output cJ.size hw (fun b ad=>?_) rfl ?_) o.dst _ _ ?_⟩
 ·rcases a1 b ad with h|h
  ·simp[b0]at h
  ·exact h
 ·refine .row e 1 _ _ (by rw[dY,dx];simpa using nn) (fun aw ky=>?_) (fun j x ai=>(dG j x ai).keep bZ fun _ h=>h)
  obtain⟨z,_,rfl⟩:=List.mem_map.1 ky;rfl
 ·exact .aL _ _ (Nat.lt_succ_self _) fun z bn cy dX _=>(dY _ _ _).symm
end
end Go.aG
