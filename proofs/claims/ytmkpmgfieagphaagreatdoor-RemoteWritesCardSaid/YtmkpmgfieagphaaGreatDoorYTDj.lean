/- TD, part H: operations that give values, computed. Conditions: none. -/
import Derived.Test.YtmkpmgfieagphaaGreatDoorYTDg
import Derived.Laws.Externs
import Derived.Laws.LoneSync
import Derived.LaidEqlPtr
namespace Go.aO
open Go
structure dy where
 xs:List bQ
 ns:List fi
 v:ab
def ab.rt:ab→Option a6
 | .aQ r _=>match r.one with
  |true=>some r
  |false=>none
 | .fd _ _ _ r=>match r.one with
  |true=>some r
  |false=>none
 | .cs (.int k _)=>some (.int k)
 | .cs (.bool _)=>some .bool
 | .cs (.string _)=>some .str
 |_=>none
theorem Ad(r:a6):hO r r=true:=decide_eq_true rfl
theorem Lr{x:ab}{r:a6}(h:x.rt=some r):x.ew r=true∧x.isNil=false:=by
 unfold ab.rt at h
 split at h
 ·split at h
  ·rename_i aa;cases h;exact⟨by simp[ab.ew,Ad,aa],rfl⟩
  ·cases h
 ·split at h
  ·rename_i aa;cases h;exact⟨by simp[ab.ew,Ad,aa],rfl⟩
  ·cases h
 ·cases h;exact⟨by simp[ab.ew,Ad],rfl⟩
 ·cases h;exact⟨by simp[ab.ew,Ad],rfl⟩
 ·cases h;exact⟨by simp[ab.ew,Ad],rfl⟩
 ·cases h
theorem gd{G:bd}{e:Env}{x:ab}{r:a6}(h:x.rt=some r):x.den G e= .aw (fJ r (x.aC e r)):=DI (Lr h).1 (Lr h).2
theorem jw{G:bd}{e:Env}{x:ab}{k:IntKind}(h:x.rt=some (.int k)):x.den G e= .aw (.v (.int k (x.aC e (.int k)))):=gd h
theorem lD{e:Env}{x:ab}{k:IntKind}(h:x.rt=some (.int k)):cr (x.dyn e)=x.aC e (.int k):=by
 obtain⟨aa,ae⟩:=Lr h
 unfold ab.aC
 rw[SH ae]
 cases x with
 |aQ q i=>
  simp only[ab.ew,Bool.and_eq_true]at aa
  cases hk aa.1
  simp only[ab.dyn,cI,cr]
 |fd c i j q=>
  simp only[ab.ew,Bool.and_eq_true]at aa
  cases hk aa.1
  simp only[ab.dyn,cI,cr]
 |cs v=>
  cases v with
  |int bu n=>
   cases hk aa
   simp only[ab.dyn,cI,cr]
  |bool b=>cases hk aa
  |string s=>cases hk aa
  |slice a n c=>unfold ab.ew at aa;split at aa<;>first|cases aa|simp_all
  |_=>cases aa
 |_=>cases aa
def isLen(f:gI)(x:ab)(n:Nat):List cc→Bool
 |[]=>false
 | .d1 i g y::r=>match Nat.beq i n&&(decide (g=f)&&z7 y x)with
  |true=>true
  |false=>isLen f x n r
 |_::r=>isLen f x n r
theorem w3{f:gI}{x:ab}{n:Nat}{e:Env}: ∀{l:List cc},isLen f x n l=true→(∀c∈l,c.ok e)→Env.at e n=⟨f.c,f.den (x.aC e f.a)⟩
 | .d1 i g y::r,h,hc=>by
  simp only[isLen]at h
  split at h
  ·rename_i ad
   simp only[Bool.and_eq_true,decide_eq_true_eq]at ad
   have:=hc (.d1 i g y) (by simp)
   simp only[cc.ok]at this;rw[←Nat.eq_of_beq_eq_true ad.1,this,ad.2.1,Ll ad.2.2]
  ·exact w3 h fun c hm=>hc c (by simp[hm])
 | .d2 _ _ _ _::r,h,hc=>w3 (l:=r) h fun c hm=>hc c (by simp[hm])
 | .rg _ _::r,h,hc=>w3 (l:=r) h fun c hm=>hc c (by simp[hm])
 | .dV _ _::r,h,hc=>w3 (l:=r) h fun c hm=>hc c (by simp[hm])
def S1(f:gI)(x:ab)(i:Nat)(all:List cc):cc→Bool
 | .rg j (.aQ (.int .i64) n)=>Nat.beq i j&&isLen f x n all
 |_=>false
def DX(f:gI)(x:ab)(i:Nat)(all:List cc):List cc→Bool
 |[]=>false
 |c::r=>match S1 f x i all c with
  |true=>true
  |false=>DX f x i all r
theorem Ls{f:gI}{x:ab}{i:Nat}{e:Env}{all:List cc}{L:Int}(fD: ∀n,isLen f x n all=true→Env.at e n=⟨.int .i64,L⟩): ∀{l:List cc},DX f x i all l=true→(∀c∈l,c.ok e)→0≤cr (Env.at e i)∧cr (Env.at e i)<L
 |c::r,h,hc=>by
  simp only[DX]at h
  split at h
  ·rename_i ad
   unfold S1 at ad
   split at ad
   ·rename_i j n
    simp only[Bool.and_eq_true]at ad
    have aa:=hc (.rg j (.aQ (.int .i64) n)) (by simp)
    simp only[cc.ok,ab.dyn,fD n ad.2,cI,cr]at aa;rw[←Nat.eq_of_beq_eq_true ad.1]at aa;exact aa
   ·cases ad
  ·exact Ls fD h fun c hm=>hc c (by simp[hm])
def Ae(len j:Nat):List cc→Bool
 | .rg i (.cs (.int _ (.ofNat m)))::r=>(Nat.beq i j&&Nat.ble m len)||Ae len j r
 |_::r=>Ae len j r
 |[]=>false
theorem Lt{len j:Nat}{e:Env}: ∀{l:List cc},Ae len j l=true→(∀c∈l,c.ok e)→0≤cr (Env.at e j)∧cr (Env.at e j)<(len:Int)
 |[],h,_=>by cases h
 |c::r,h,hc=>by
  unfold Ae at h
  split at h
  ·rename_i i k m _ heq
   cases heq;simp only[Bool.or_eq_true,Bool.and_eq_true]at h
   rcases h with⟨aa,ae⟩|h
   ·have au:0≤cr (Env.at e i)∧cr (Env.at e i)<(m:Int):=hc (.rg i (.cs (.int k (.ofNat m)))) (by simp)
    rw[←Nat.eq_of_beq_eq_true aa]
    have:=Nat.le_of_ble_eq_true ae
    omega
   ·exact Lt h fun c hm=>hc c (by simp[hm])
  ·rename_i eV _ heq
   cases heq;exact Lt h fun c hm=>hc c (by simp[hm])
  ·rename_i heq;cases heq
def w4(g:List cc)(len:Nat)(i:ab):List fi:=
 match i with
 | .aQ (.int _) j=>match Ae len j g with
  |true=>[]
  |false=>[.nth len i]
 |_=>[.nth len i]
theorem DY{M:List aV}{g:List cc}{len:Nat}{i:ab}{e:Env}(ah: ∀c∈g,c.ok e)(h: ∀n∈w4 g len i,n.ok M e):0≤cr (i.dyn e)∧cr (i.dyn e)<(len:Int):=by
 unfold w4 at h
 split at h
 ·rename_i k j
  split at h
  ·rename_i ad
   have:=Lt ad ah
   simp only[ab.dyn]
   by_cases ag:(Env.at e j).r= .int k
   ·rw[Dw ag];exact this
   ·have aP:cr ⟨.int k,(Env.at e j).aJ (.int k)⟩=0:=by
     unfold aI.aJ
     split
     ·rename_i bk _;exact absurd bk ag
     ·rfl
    rw[aP];omega
  ·exact h _ (List.mem_singleton.2 rfl)
 ·exact h _ (List.mem_singleton.2 rfl)
def o2(g:List cc)(f:gI)(q:cD)(x i:ab):List fi:=
 match i with
 | .aQ (.int _) j=>match DX f x j g g with
  |true=>[]
  |false=>[.f2 0 q x i]
 |_=>[.f2 0 q x i]
theorem w5{M:List aV}{g:List cc}{c:bJ}{k:IntKind}{x i:ab}{e:Env}(ah: ∀c∈g,c.ok e)(hi:i.rt=some (.int k))(h: ∀n∈o2 g (.iz c) (.j8 c k) x i,n.ok M e):
 0≤i.aC e (.int k)∧i.aC e (.int k)<(List.length (x.aC e (.li c)):Int):=by
 unfold o2 at h
 split at h
 ·rename_i bu j
  split at h
  ·rename_i ad
   have:=Ls (f:=.iz c) (fun n hn=>w3 hn ah) ad ah
   rw[←lD hi];simp only[ab.dyn]
   have aj:bu=k:=by simp only[ab.rt,a6.one]at hi;cases hi;rfl
   subst aj
   by_cases ag:(Env.at e j).r= .int bu
   ·rw[Dw ag];exact this
   ·have aP:cr ⟨.int bu,(Env.at e j).aJ (.int bu)⟩=0:=by
     unfold aI.aJ
     split
     ·rename_i bk _;exact absurd bk ag
     ·rfl
    rw[aP];exact⟨Int.le_refl _,Int.lt_of_le_of_lt this.1 this.2⟩
  ·exact h _ (List.mem_singleton.2 rfl)
 ·exact h _ (List.mem_singleton.2 rfl)
theorem zeN{M:List aV}{g:List cc}{k:IntKind}{x i:ab}{e:Env}(ah: ∀c∈g,c.ok e)(hi:i.rt=some (.int k))(h: ∀n∈o2 g .nL (.rb k) x i,n.ok M e):
 0≤i.aC e (.int k)∧i.aC e (.int k)<(ByteArray.size (x.aC e .str):Int):=by
 unfold o2 at h
 split at h
 ·rename_i bu j
  split at h
  ·rename_i ad
   have:=Ls (f:=.nL) (fun n hn=>w3 hn ah) ad ah
   rw[←lD hi];simp only[ab.dyn]
   have aj:bu=k:=by simp only[ab.rt,a6.one]at hi;cases hi;rfl
   subst aj
   by_cases ag:(Env.at e j).r= .int bu
   ·rw[Dw ag];exact this
   ·have aP:cr ⟨.int bu,(Env.at e j).aJ (.int bu)⟩=0:=by
     unfold aI.aJ
     split
     ·rename_i bk _;exact absurd bk ag
     ·rfl
    rw[aP];exact⟨Int.le_refl _,Int.lt_of_le_of_lt this.1 this.2⟩
  ·exact h _ (List.mem_singleton.2 rfl)
 ·exact h _ (List.mem_singleton.2 rfl)
end Go.aO
namespace Go.aO
open Go
def kA(h:List (Nat × bK)):ab→Bool
 | .aQ _ _=>true
 | .fd _ _ _ _=>true
 | .cs _=>true
 | .ip _ _ _=>true
 | .fn _ _ _=>true
 | .cq id _=>match dj h id with
  |some (.cQ _ _)=>true
  |_=>false
 | .gq id _ _ _=>match dj h id with
  |some (.cQ _ _)=>true
  |_=>false
 | .fl _ (some id) _=>match dj h id with
  |some (.cQ _ _)=>true
  |_=>false
 | .aR id=>match dj h id with
  |some (.rw _ _ _)=>true
  |_=>false
 | .gr id _ _=>match dj h id with
  |some (.rw _ _ _)=>true
  |_=>false
 |_=>false
def uK(S:aq):ab→Option (List ab)
 | .cq id off=>match dj S.h id with
  |some (.cQ _ l)=>some (l.drop off)
  |_=>none
 | .ip c i k=>some ((iV c i 0 (eR c)).drop k)
 |_=>none
def pL(P:Program)(t:TypeId)(l:List ab):Option ab:=
 match l3 P t with
 |some n=>match Nat.ble n l.length&&Nat.ble 1 n with
  |true=>some (.bO (l.take n))
  |false=>none
 |none=>match scalar P t,l with
  |true,y::_=>some y
  |_,_=>none
def sL(S:aq):ab→Bool
 | .cq id _=>match dj S.h id with
  |some (.cQ _ _)=>true
  |_=>false
 | .gq id _ _ _=>match dj S.h id with
  |some (.cQ _ _)=>true
  |_=>false
 | .ip _ _ _=>true
 | .gr id _ _=>match dj S.h id with
  |some (.rw _ _ _)=>true
  |_=>false
 |_=>false
def w6(k:Nat):ab→Option ab
 | .cq id off=>some (.cq id (off+k))
 | .ip c i j=>some (.ip c i (j+k))
 | .gr id x off=>some (.gr id x (off+k))
 | .gq id off x n=>some (.gq id (off+k) x n)
 |_=>none
def rn(place:Nat→Option (Nat × Nat)):List ab→List (Nat × ab)→Option (List ab)
 |l,[]=>some l
 |l,(i,v)::rest=>match place i with
  |some (off,size)=>match Nat.beq v.cells.length size&&Nat.ble (off+size) l.length with
   |true=>rn place (ej l off v.cells) rest
   |false=>none
  |none=>none
section
variable {P:Program} {G:bd} {o:Oper} {N B:Nat} {e:Env} {S:aq} {M:List aV}
theorem S2{h:List (Nat × bK)}{x:ab}(hx:kA h x=true):eF (cH G e h) (x.den G e)=true∧c1 (x.den G e)=[x.den G e]:=by
 cases x with
 |cq id off=>
  simp only[kA]at hx
  split at hx
  ·rename_i t l ah
   simp[ab.den,eF,eh,ah,bK.den,c1]
  ·cases hx
 |gq id off x n=>
  simp only[kA]at hx
  split at hx
  ·rename_i t l ah
   simp[ab.den,eF,eh,ah,bK.den,c1]
  ·cases hx
 |aR id=>
  simp only[kA]at hx
  split at hx
  ·rename_i t c y ah
   simp[ab.den,eF,eh,ah,bK.den,c1]
  ·cases hx
 |gr id x off=>
  simp only[kA]at hx
  split at hx
  ·rename_i t c y ah
   simp[ab.den,eF,eh,ah,bK.den,c1]
  ·cases hx
 |bO l=>cases hx
 |tp l=>cases hx
 |gR id=>cases hx
 |fL g b x=>cases hx
 |lB g off=>cases hx
 |top=>cases hx
 |cY k n=>cases hx
 |fl g id off=>
  cases id with
  |none=>cases hx
  |some id=>
   simp only[kA]at hx
   split at hx
   ·rename_i t l ah
    simp only[ab.den]
    cases g.aC e .bool<;>simp[eF,eh,ah,bK.den,c1]
   ·cases hx
 |_=>exact⟨rfl,rfl⟩
theorem w7{h:List (Nat × bK)}: ∀{l:List ab},l.all (kA h)=true→(ab.bX G e l).all (eF (cH G e h))=true
 |[],_=>rfl
 |x::r,hx=>by
  simp only[List.all_cons,Bool.and_eq_true]at hx;simp only[ab.bX,List.all_cons,(S2 hx.1).1,w7 hx.2,Bool.and_self]
theorem uL{h:List (Nat × bK)}{x:ab}(hx:x.cells.all (kA h)=true):c1 (x.den G e)=ab.bX G e x.cells:=by
 cases x with
 |bO l=>rfl
 |_=>
  simp only[ab.cells,List.all_cons,List.all_nil,Bool.and_true]at hx;simp only[(S2 hx).2,ab.cells,ab.bX]
theorem Lu(k:Nat)(l:List ab):ab.bX G e (l.drop k)=(ab.bX G e l).drop k:=by rw[fa,fa,List.map_drop]
theorem lZ(l:List ab):(ab.bX G e l).length=l.length:=by rw[fa,List.length_map]
theorem Af{p:ab}{l:List ab}(h:uK S p=some l):fr (S.den G N B e).heap (p.den G e)=some (ab.bX G e l):=by
 unfold uK at h
 split at h
 ·split at h
  ·rename_i id off t gz ah
   cases h;simp only[aq.den,ab.den,fr,eh,ah,Option.map_some,bK.den];rw[fa,fa,List.map_drop]
  ·cases h
 ·rename_i c i k
  cases h;simp only[ab.den,fr,Option.some.injEq];rw[Lu,sC,List.map_drop]
 ·cases h
theorem Hr{t:TypeId}{x:Operand}{l:List ab}{v:ab}(ao:o.op= .load t x)(hc:fr (S.den G N B e).heap (aM G (S.den G N B e) x)=some (ab.bX G e l))(ax:pL P t l=some v):cX P G o (S.den G N B e) (v.den G e):=by
 unfold pL at ax
 split at ax
 ·rename_i n hn
  split at ax
  ·rename_i ad
   simp only[Bool.and_eq_true]at ad;cases ax
   have:=QX t x ao hn hc (by rw[lZ];exact Nat.le_of_ble_eq_true ad.1) (Nat.le_of_ble_eq_true ad.2)
   simp only[ab.den];rw[fa]at this;rw[fa,List.map_take];exact this
  ·cases ax
 ·split at ax
  ·rename_i y r ai
   cases ax;exact Kb t x ao ai hc
  ·cases ax
theorem uM{p:ab}(h:sL S p=true):jJ (S.den G N B e).heap (p.den G e)=true:=by
 unfold sL at h
 split at h
 ·split at h
  ·rename_i ah;simp[aq.den,ab.den,jJ,eh,ah,bK.den]
  ·cases h
 ·split at h
  ·rename_i ah;simp[aq.den,ab.den,jJ,eh,ah,bK.den]
  ·cases h
 ·rfl
 ·split at h
  ·rename_i ah;simp[aq.den,ab.den,jJ,eh,ah,bK.den]
  ·cases h
 ·cases h
theorem Ag{k:Nat}{p q:ab}(h:w6 k p=some q):qQ k (p.den G e)=q.den G e:=by
 unfold w6 at h
 split at h
 ·cases h;simp[ab.den,qQ]
 ·cases h;simp[ab.den,qQ,List.drop_drop,Nat.add_comm]
 ·cases h;simp[ab.den,qQ]
 ·cases h;simp only[ab.den,qQ,aF.ptr.injEq,true_and];omega
 ·cases h
theorem DZ{α β:Type}(f:α→β)(l:List α)(off:Nat)(vs:List α):(ej l off vs).map f=ej (l.map f) off (vs.map f):=by
 simp[ej,List.map_take,List.map_drop]
theorem D0{pl:Nat→Option (Nat × Nat)}{h:List (Nat × bK)}: ∀{ps:List (Nat × ab)} {l ds:List ab},(ps.all fun p=>p.2.cells.all (kA h))=true→rn pl l ps=some ds→j4 pl (ab.bX G e l) (ps.map fun p=>(p.1,p.2.den G e))=some (ab.bX G e ds)
 |[],l,ds,_,hf=>by
  simp only[rn,Option.some.injEq]at hf;subst hf;rfl
 |(i,v)::rest,l,ds,ba,hf=>by
  simp only[List.all_cons,Bool.and_eq_true]at ba;simp only[rn]at hf;simp only[List.map_cons,j4]
  split at hf
  ·rename_i off size ak
   split at hf
   ·rename_i ad
    simp only[Bool.and_eq_true]at ad
    have aa:=Nat.eq_of_beq_eq_true ad.1
    have ae:=Nat.le_of_ble_eq_true ad.2
    have ax:=uL (G:=G) (e:=e) ba.1
    simp only[ak,ax,lZ];rw[if_pos ⟨aa,ae⟩]
    have:=D0 ba.2 hf
    rw[fa]at this⊢;rw[DZ]at this;rw[fa];exact this
   ·cases hf
  ·cases hf
def ie(P:Program)(G:bd)(N B:Nat)(M:List aV)(o:Oper)(S:aq)(r:dy):Prop:=
 ∀e,(∀c∈S.g,c.ok e)→(∀(j:Nat) (x:bQ),r.xs[j]? =some x→Env.at e (S.k+j)=x.den M e)→(∀n∈r.ns,n.ok M e)→cX P G o (S.den G N B e) (r.v.den G e)
end
def Lv(op:BinOp)(k bu:IntKind)(x y:ab):List fi:=
 match op with
 | .add=>[]
 | .sub=>[]
 | .mul=>[]
 | .and=>[]
 | .or=>[]
 | .xor=>[]
 | .quo=>match y with
  | .cs (.int _ n)=>match decide (n=0)with
   |false=>[]
   |true=>[.f2 0 (.jt op k bu) x y]
  |_=>[.f2 0 (.jt op k bu) x y]
 | .rem=>match y with
  | .cs (.int _ n)=>match decide (n=0)with
   |false=>[]
   |true=>[.f2 0 (.jt op k bu) x y]
  |_=>[.f2 0 (.jt op k bu) x y]
 |op=>match y with
  | .cs (.int _ n)=>match decide (0≤n)with
   |true=>[]
   |false=>[.f2 0 (.jt op k bu) x y]
  |_=>[.f2 0 (.jt op k bu) x y]
def Lx(P:Program)(S:aq)(op:BinOp)(cF:TypeId)(x y:ab):Option dy:=
 match x.rt,y.rt with
 |some (.int k),some (.int bu)=>match Lp op k bu with
  |true=>some ⟨[.f2 (.jt op k bu) x y],Lv op k bu x y,.aQ (.int k) S.k⟩
  |false=>match w2 op&&decide (bu=k)with
   |true=>some ⟨[.f2 (.oV op k) x y],[],.aQ .bool S.k⟩
   |false=>none
 |some .str,some .str=>match w2 op with
  |true=>some ⟨[.f2 (.mg op) x y],[],.aQ .bool S.k⟩
  |false=>match op with
   | .add=>some ⟨[.f2 .sD x y],[.f2 0 .sD x y],.aQ .str S.k⟩
   |_=>none
 |some .bool,some .bool=>match op,Dm P cF with
  | .eql,true=>some ⟨[.f2 (.kI false) x y],[],.aQ .bool S.k⟩
  | .neq,true=>some ⟨[.f2 (.kI true) x y],[],.aQ .bool S.k⟩
  |_,_=>none
 |_,_=>match x,y with
  | .bO l,.bO m=>match mM P cF with
   |some fs=>match o1 P 64 0 fs with
    |some rs=>match hl rs l&&hl rs m,op with
     |true,.eql=>some ⟨[.zZ false rs l m],[],.aQ .bool S.k⟩
     |true,.neq=>some ⟨[.zZ true rs l m],[],.aQ .bool S.k⟩
     |_,_=>none
    |none=>none
   |none=>none
  |p,.cs (.pointer none)=>match P.underlying cF,sL S p,op with
   |some (.pointer _),true,.eql=>some ⟨[],[],.cs (.bool false)⟩
   |some (.pointer _),true,.neq=>some ⟨[],[],.cs (.bool true)⟩
   |_,_,_=>none
  |_,_=>none
section
variable {P:Program} {G:bd} {o:Oper} {N B:Nat} {e:Env} {S:aq} {M:List aV}
theorem zeO{e:Env}{f:cD}{x y:ab}{k:Nat}(h:Env.at e k=(bQ.f2 f x y).den M e):(ab.aQ f.c k).den G e= .aw (fJ f.c (f.den (x.aC e f.a) (y.aC e f.b))):=by
 simp only[ab.den,h,bQ.den,cI]
theorem zeP{e:Env}{f:gI}{x:ab}{k:Nat}(h:Env.at e k=(bQ.f1 f x).den M e):(ab.aQ f.c k).den G e= .aw (fJ f.c (f.den (x.aC e f.a))):=by
 simp only[ab.den,h,bQ.den,cI]
theorem qa{s:aU}{f:cD}{x y:ab}{k:Nat}(h:Env.at e k=(bQ.f2 f x y).den M e)(ai:cX P G o s (.aw (fJ f.c (f.den (x.aC e f.a) (y.aC e f.b))))):cX P G o s ((ab.aQ f.c k).den G e):=by
 rw[zeO h];exact ai
theorem qb{s:aU}{f:gI}{x:ab}{k:Nat}(h:Env.at e k=(bQ.f1 f x).den M e)(ai:cX P G o s (.aw (fJ f.c (f.den (x.aC e f.a))))):cX P G o s ((ab.aQ f.c k).den G e):=by
 rw[zeP h];exact ai
theorem zeQ{op:BinOp}{k bu:IntKind}{x y:ab}(ay:y.rt=some (.int bu))(h: ∀n∈Lv op k bu x y,n.ok M e):DK op (y.aC e (.int bu)):=by
 have hc: ∀n fx,y= .cs (.int fx n)→y.aC e (.int bu)=n:=fun n fx bk=>by
  subst bk;simp only[ab.rt,Option.some.injEq,a6.int.injEq]at ay;subst ay;simp only[ab.aC,ab.fu,ab.dyn,cI]
 have ai: ∀D1,((∃q,D1=q)→fi.ok M e (.f2 0 (.jt D1 k bu) x y)→DK D1 (y.aC e (.int bu))):=fun D1 _ h=>h
 cases op<;>try exact trivial
 all_goals
  simp only[Lv]at h
  split at h
  ·rename_i fx n
   have hn:=hc n fx rfl
   split at h
   ·rename_i hd
    rw[hn];simp only[decide_eq_false_iff_not,decide_eq_true_eq]at hd;exact hd
   ·exact h _ (List.mem_singleton.2 rfl)
  ·exact h _ (List.mem_singleton.2 rfl)
theorem zeR{op:BinOp}{cF ty:TypeId}{x y:Operand}{r:dy}(ao:o.op= .binOp op cF x y ty)(h:Lx P S op cF (S.a8 N x) (S.a8 N y)=some r):ie P G N B M o S r:=fun e hf hx hn=>by
 unfold Lx at h
 split at h
 ·rename_i k bu aa ae
  have fU:aM G (S.den G N B e) x=_:=(bM hf x).trans (jw aa)
  have ml:aM G (S.den G N B e) y=_:=(bM hf y).trans (jw ae)
  split at h
  ·rename_i ba
   cases h;exact qa (f:=.jt op k bu) (hx 0 _ rfl) (zeF ao fU ml ba (zeQ ae hn))
  ·split at h
   ·rename_i hc
    cases h;simp only[Bool.and_eq_true,decide_eq_true_eq]at hc
    have aj:=hc.2
    subst aj;exact qa (f:=.oV op bu) (hx 0 _ rfl) (zeG ao fU ml hc.1)
   ·cases h
 ·rename_i aa ae
  have fU:aM G (S.den G N B e) x=_:=(bM hf x).trans (gd aa)
  have ml:aM G (S.den G N B e) y=_:=(bM hf y).trans (gd ae)
  split at h
  ·rename_i hc
   cases h;exact qa (f:=.mg op) (hx 0 _ rfl) (zeH ao fU ml hc)
  ·split at h
   ·cases h
    exact qa (f:=.sD) (hx 0 _ rfl) (zdz cF ty x y ao fU ml (hn _ (List.mem_singleton.2 rfl)))
   ·cases h
 ·rename_i aa ae
  have fU:aM G (S.den G N B e) x=_:=(bM hf x).trans (gd aa)
  have ml:aM G (S.den G N B e) y=_:=(bM hf y).trans (gd ae)
  split at h
  ·rename_i aK
   cases h;exact qa (f:=.kI false) (hx 0 _ rfl) (Ri cF ty x y ao (Dn aK) fU ml)
  ·rename_i aK
   cases h;exact qa (f:=.kI true) (hx 0 _ rfl) (Rj cF ty x y ao (Dn aK) fU ml)
  ·cases h
 ·split at h
  ·rename_i l m ar hm
   split at h
   ·rename_i fs wN
    split at h
    ·rename_i rs gl
     split at h
     ·rename_i ad
      cases h;simp only[Bool.and_eq_true]at ad
      have:=SZ (G:=G) (n:=false) (B:=B) (e:=e) hf rfl ao wN gl ar hm ad.1 ad.2
      have aP:Env.at e S.k=_:=hx 0 _ rfl
      simp only[ab.den,aP,bQ.den,cI,fJ,j5];exact this
     ·rename_i ad
      cases h;simp only[Bool.and_eq_true]at ad
      have:=SZ (G:=G) (n:=true) (B:=B) (e:=e) hf rfl ao wN gl ar hm ad.1 ad.2
      have aP:Env.at e S.k=_:=hx 0 _ rfl
      simp only[ab.den,aP,bQ.den,cI,fJ,j5];exact this
     ·cases h
    ·cases h
   ·cases h
  ·rename_i ak
   have key: ∀E a w β ro,df E G (S.den G N B e) a w β ro→sL S (S.a8 N x)=true→∃c8,a.eval x= .pointer (some c8):=fun E a w β ro ag hi=>by
    obtain⟨c8,hc,_⟩:=zg (uM (G:=G) (N:=N) (B:=B) (e:=e) hi) (by have:=ag.eval x;rw[bM hf]at this;exact this)
    exact⟨c8,hc⟩
   have qc: ∀E a w β ro,df E G (S.den G N B e) a w β ro→a.eval y= .pointer none:=fun E a w β ro ag=>by
    refine ag.ee ?_
    rw[bM hf,ak];rfl
   split at h
   ·rename_i t hu hi
    cases h
    exact fun E a w β ro ag=>by
     obtain⟨c8,hc⟩:=key E a w β ro ag hi;exact⟨.bool false,by simp[execOp,ao,hc,qc E a w β ro ag,eqGuard_at_pointer,run_eql_pointer_nil w cF (some c8) (SE hu)],.fG rfl⟩
   ·rename_i t hu hi
    cases h
    exact fun E a w β ro ag=>by
     obtain⟨c8,hc⟩:=key E a w β ro ag hi;exact⟨.bool true,by simp[execOp,ao,hc,qc E a w β ro ag,eqGuard_at_pointer,run_neq_pointer_nil w cF (some c8) (SE hu)],.fG rfl⟩
   ·cases h
  ·cases h
end
end Go.aO
namespace Go.aO
open Go
def o3:List a6→List Value→Bool
 |[],[]=>true
 |r::rs,z::zs=>(match r,z with
  | .int k,.int bu n=>decide (k=bu)&&decide (n=0)
  | .bool,.bool b=>!b
  | .str,.string s=>decide (s=⟨#[]⟩)
  | .li _,.slice none 0 0=>true
  |_,_=>false)&&o3 rs zs
 |_,_=>false
def uN:TypeDesc→Option a6
 | .string=>some .str
 | .int k=>some (.int k)
 |_=>none
def w8(v:a6)(z:Value):Bool:=
 match v,z with
 | .st c,.agg a=>o3 (eR c) a.toList&&a.toList.all Value.oneCell'
 | .st _,_=>false
 |r,z=>o3 [r] [z]&&z.oneCell'
def m4(v:a6)(i:Nat):ab:=
 match v with
 | .st c=>.bO (iV c i 0 (eR c))
 |r=>.aQ r i
def D2:List a6→Bool
 |[]=>true
 | .mp _ _::_=>false
 |_::r=>D2 r
def D3(v:a6):Bool:=
 match v with
 | .st c=>D2 (eR c)
 | .int _=>true
 | .bool=>true
 | .str=>true
 |_=>false
def Ly(S:aq)(m:ab):Option (a6 × a6 × ab):=
 match m with
 | .gR id=>match dj S.h id with
  |some (.it (.mp k v) _ p)=>some (k,v,p)
  |_=>none
 |x=>match x.rt with
  |some (.mp k v)=>some (k,v,x)
  |_=>none
def LA(P:Program)(S:aq)(t:TypeId)(m x:ab)(c:Bool):Option dy:=
 match P.underlying t,Ly S m with
 |some (.map ft e3),some (k,v,p)=>match(P.underlying ft).bind uN,(P.info? e3).bind (·.zero)with
  |some bu,some z=>match hO bu k&&(x.ew k&&(w8 v z&&D3 v))with
   |true=>match c with
    |true=>some ⟨[.wT k v p x,.uH k v p x],[],.tp [m4 v (S.k+1),.aQ .bool S.k]⟩
    |false=>some ⟨[.uH k v p x],[],m4 v S.k⟩
   |false=>none
  |_,_=>none
 |_,_=>none
section
variable {P:Program} {G:bd} {N B:Nat} {M:List aV} {S:aq} {o:Oper}
theorem w9: ∀{rs:List a6} {zs:List Value},o3 rs zs=true→zs.map bb.v=rs.map fun r=>wG (fJ r r.fz)
 |[],[],_=>rfl
 |[],_::_,h=>by cases h
 |_::_,[],h=>by cases h
 |r::rs,z::zs,h=>by
  simp only[o3,Bool.and_eq_true]at h;rw[List.map_cons,List.map_cons,w9 h.2]
  congr 1
  have aa:=h.1
  split at aa
  ·simp only[Bool.and_eq_true,decide_eq_true_eq]at aa
   obtain⟨rfl,rfl⟩:=aa;rfl
  ·simp only[Bool.not_eq_true']at aa
   subst aa;rfl
  ·have:=of_decide_eq_true aa
   subst this;rfl
  ·rfl
  ·cases aa
theorem S3(c:bJ):cj c (av c)=(eR c).map fun r=>fJ r r.fz:=by cases c<;>rfl
theorem S4{e:Env}{r:a6}{i:Nat}{d:r.den}(h:Env.at e i=⟨r,d⟩):(ab.aQ r i).aC e r=d:=by
 simp only[ab.aC,ab.fu,ab.dyn,h,cI]
theorem zeS{c:bJ}(h:D2 (eR c)=true)(x:fQ c):(lx c x).map (fun d=>j5 d.r d.v)=cj c x:=by
 unfold cj
 rw[←KT c x]at h
 revert h
 generalize lx c x=l
 induction l with
 |nil=>intro _;rfl
 |cons d r a7=>
  intro h;obtain⟨t,v⟩:=d;simp only[List.map_cons]at h⊢
  cases t<;>first|(simp only[D2]at h;rw[a7 h];rfl)|cases h
theorem zeT{v:a6}{i:Nat}{e:Env}{ev:v.den}(h:Env.at e i=⟨v,ev⟩)(ax:D3 v=true):(m4 v i).den G e=ux v.agg (iC v ev):=by
 cases v with
 |st c=>
  simp only[D3]at ax;simp only[m4,ab.den,sC,h,cI,a6.agg,ux,iC,zeS ax]
 |int k=>simp only[m4,ab.den,h,cI]<;>rfl
 |bool=>simp only[m4,ab.den,h,cI]<;>rfl
 |str=>simp only[m4,ab.den,h,cI]<;>rfl
 |_=>cases ax
theorem xa{x:bb}{v:Value}(h:bb.v v=wG x)(ax:v.oneCell'=true):Sub (.aw (.v v)) (.aw x):=fun w ro σ β N c hc=>by
 cases hc with
 |aw _ _ hc=>
  cases hc;exact .aw _ _ (Si h.symm ax)
theorem S5: ∀{rs:List a6} {zs:List Value},o3 rs zs=true→zs.all Value.oneCell'=true→fW (zs.map fun v=>aF.aw (.v v)) ((rs.map fun r=>fJ r r.fz).map .aw)
 |[],[],_,_=>.nil
 |[],_::_,h,_=>by cases h
 |_::_,[],h,_=>by cases h
 |r::rs,z::zs,h,ao=>by
  simp only[List.all_cons,Bool.and_eq_true]at ao
  have aa:o3 [r] [z]=true:=by
   simp only[o3,Bool.and_eq_true]at h⊢;exact⟨h.1,trivial⟩
  have ae:o3 rs zs=true:=by
   simp only[o3,Bool.and_eq_true]at h;exact h.2
  have aE:=w9 aa
  simp only[List.map_cons,List.map_nil,List.cons.injEq,and_true]at aE;exact .cons (xa aE ao.1) (S5 ae ao.2)
theorem S6{v:a6}{i:Nat}{e:Env}{z:Value}(h:Env.at e i=⟨v,v.fz⟩)(ax:D3 v=true)(aS:w8 v z=true):Sub (mW z) ((m4 v i).den G e)∧sv z=true:=by
 cases v with
 |st c=>
  cases z with
  |agg a=>
   simp only[w8,Bool.and_eq_true]at aS;refine⟨?_,aS.2⟩
   simp only[m4,ab.den,sC,h,cI,mW,a6.fz,S3];exact(S5 aS.1 aS.2).agg
  |_=>cases aS
 |int k=>
  simp only[w8,Bool.and_eq_true]at aS
  have aE:=w9 aS.1
  simp only[List.map_cons,List.map_nil,List.cons.injEq,and_true]at aE
  cases z with
  |int bu n=>exact⟨by simp only[m4,ab.den,h,cI,mW];exact xa aE aS.2,aS.2⟩
  |_=>first|cases aS.1|cases aS.2
 |bool=>
  simp only[w8,Bool.and_eq_true]at aS
  have aE:=w9 aS.1
  simp only[List.map_cons,List.map_nil,List.cons.injEq,and_true]at aE
  cases z with
  |bool b=>exact⟨by simp only[m4,ab.den,h,cI,mW];exact xa aE aS.2,aS.2⟩
  |_=>first|cases aS.1|cases aS.2
 |str=>
  simp only[w8,Bool.and_eq_true]at aS
  have aE:=w9 aS.1
  simp only[List.map_cons,List.map_nil,List.cons.injEq,and_true]at aE
  cases z with
  |string b=>exact⟨by simp only[m4,ab.den,h,cI,mW];exact xa aE aS.2,aS.2⟩
  |_=>first|cases aS.1|cases aS.2
 |_=>cases ax
theorem S7{k v:a6}(l:List (k.den × v.den)):fJ (.mp k v) l=wJ v.agg (gm (kV k) (iC v) l):=by
 unfold wJ gm
 rw[List.map_map,List.map_map]
 rfl
theorem zeU{ft:TypeId}{k:a6}(h:(P.underlying ft).bind uN=some k): ∃d,P.underlying ft=some d∧((k= .str∧d= .string)∨∃j,k= .int j∧d= .int j):=by
 cases hd:P.underlying ft with
 |none=>rw[hd]at h;cases h
 |some d=>
  rw[hd]at h
  have aj:uN d=some k:=h
  refine⟨d,rfl,?_⟩
  unfold uN at aj
  split at aj
  ·cases aj;exact .inl ⟨rfl,rfl⟩
  ·cases aj;exact .inr ⟨_,rfl,rfl⟩
  ·cases aj
theorem zeV{k v:a6}{m:Operand}{p:ab}{e:Env}(hf: ∀c∈S.g,c.ok e)(h:Ly S (S.a8 N m)=some (k,v,p)):mV G (S.den G N B e) m v.agg (gm (kV k) (iC v) (p.aC e (.mp k v))):=by
 unfold Ly at h
 split at h
 ·rename_i id hm
  split at h
  ·rename_i bu bp dx q ah
   cases h
   have D4:aM G (S.den G N B e) m= .ref id:=by rw[bM hf,hm];rfl
   have bh:aG (S.den G N B e).heap id=some (.bT (jN v.agg (gm (kV k) (iC v) (p.aC e (.mp k v))))):=by
    simp only[aq.den,eh,ah,Option.map_some];rfl
   exact mV.own D4 bh
  ·cases h
 ·split at h
  ·rename_i bu bp ag
   cases h;refine mV.Sr ?_
   rw[bM hf,gd ag,S7]
  ·cases h
theorem zeW{t:TypeId}{m x:Operand}{c:Bool}{r:dy}(ao:o.op= .lookup t m x c)(h:LA P S t (S.a8 N m) (S.a8 N x) c=some r):ie P G N B M o S r:=fun e hf hx hn=>by
 unfold LA at h
 split at h
 ·rename_i ft e3 k v p hu nQ
  split at h
  ·rename_i bu z zeX aS
   split at h
   ·rename_i hc
    simp only[Bool.and_eq_true]at hc;obtain⟨aY,cK,eo,iw⟩:=hc
    cases hk aY
    obtain⟨d,hd,hP⟩:=zeU zeX
    have nJ:=zeV (G:=G) (N:=N) (B:=B) hf nQ
    have key: ∀w:aF,(∀ev b,(jE k (p.aC e (.mp k v)) ((S.a8 N x).aC e k)).getD v.fz=ev→(jE k (p.aC e (.mp k v)) ((S.a8 N x).aC e k)).isSome=b→∀y,(b=true→y=ux v.agg (iC v ev))→(b=false→ev=v.fz∧y=mW z)→Sub (zQ c y b) w)→sv z=true→cX P G o (S.den G N B e) w:=by
     intro w hw mX
     cases aN:jE k (p.aC e (.mp k v)) ((S.a8 N x).aC e k)with
     |some ev=>
      rw[aN]at hw;refine cX.sub ?_ (hw ev true rfl rfl _ (fun _=>rfl) (fun q=>by cases q))
      rcases hP with⟨rfl,rfl⟩|⟨j,rfl,rfl⟩
      ·have jx:aM G (S.den G N B e) x= .aw (.v (kV .str ((S.a8 N x).aC e .str))):=by rw[bM hf];exact Lf cK
       exact Sy (K:=ByteArray) K6 (iC v) v.agg _ _ ev c ao hu hd nJ jx aN
      ·have jx:aM G (S.den G N B e) x= .aw (.v (kV (.int j) ((S.a8 N x).aC e (.int j)))):=by rw[bM hf];exact DJ cK
       exact Sy (K:=Int) (K7 j) (iC v) v.agg _ _ ev c ao hu hd nJ jx aN
     |none=>
      rw[aN]at hw;refine cX.sub ?_ (hw v.fz false rfl rfl _ (fun q=>by cases q) (fun _=>⟨rfl,rfl⟩))
      rcases hP with⟨rfl,rfl⟩|⟨j,rfl,rfl⟩
      ·have jx:aM G (S.den G N B e) x= .aw (.v (kV .str ((S.a8 N x).aC e .str))):=by rw[bM hf];exact Lf cK
       exact Sz (K:=ByteArray) K6 (iC v) v.agg _ _ c z ao hu hd nJ jx aN aS mX
      ·have jx:aM G (S.den G N B e) x= .aw (.v (kV (.int j) ((S.a8 N x).aC e (.int j)))):=by rw[bM hf];exact DJ cK
       exact Sz (K:=Int) (K7 j) (iC v) v.agg _ _ c z ao hu hd nJ jx aN aS mX
    have sub: ∀{i:Nat} {ev:v.den} {b:Bool} {y:aF},Env.at e i=⟨v,ev⟩→(b=true→y=ux v.agg (iC v ev))→(b=false→ev=v.fz∧y=mW z)→Sub y ((m4 v i).den G e):=by
     intro i ev b y hi aa ae
     cases b with
     |true=>rw[aa rfl,zeT hi iw];exact Sub.refl _
     |false=>
      obtain⟨da,dm⟩:=ae rfl;subst da;rw[dm];exact(S6 hi iw eo).1
    have mX:sv z=true:=(S6 (G:=G) (i:=0) (e:=bg.put .emp 0 ⟨v,v.fz⟩) (by rw[Env.ib,if_pos rfl]) iw eo).2
    split at h
    ·cases h
     have aP:=hx 0 _ rfl
     have aa:=hx 1 _ rfl
     simp only[Nat.add_zero,bQ.den]at aP aa;refine key _ (fun ev b aE bo y g1 g2=>?_) mX
     refine fW.tuple (.cons (sub (aa.trans (by rw[←aE])) g1 g2) (.cons ?_ .nil))
     simp only[ab.den,aP,cI];rw[←bo];exact Sub.refl _
    ·cases h
     have aP:=hx 0 _ rfl
     simp only[Nat.add_zero,bQ.den]at aP;exact key _ (fun ev b aE bo y g1 g2=>sub (aP.trans (by rw[←aE])) g1 g2) mX
   ·cases h
  ·cases h
 ·cases h
end
end Go.aO
namespace Go.aO
open Go
def ab.sM(x g:ab)(b:Bool):ab:=
 match x with
 | .fL h c v=>match z7 g h&&(decide (c=b))with
  |true=>v
  |false=>x
 |x=>x
def LB(S:aq)(c x y:ab):Option dy:=
 match c,k1 c S.g with
 | .cs (.bool b),_=>some ⟨[],[],match b with|true=>x|false=>y⟩
 |c,some b=>match c.rt with
  |some .bool=>some ⟨[],[],match b with|true=>x|false=>y⟩
  |_=>none
 |c,none=>match c.rt with
  |some .bool=>match(match(x.sM c true).rt with|some r=>some r|none=>(y.sM c false).rt)with
   |some r=>match(x.sM c true).ew r&&((y.sM c false).ew r&&r.one)with
    |true=>some ⟨[.r6 r c (x.sM c true) (y.sM c false)],[],.aQ r S.k⟩
    |false=>none
   |none=>none
  |_=>none
def sN(r:a6):List ab→Bool
 |[]=>true
 |x::l=>x.ew r&&sN r l
def S8:List ab→Option a6
 |[]=>none
 |x::_=>x.rt
def LC(P:Program)(S:aq)(t:TypeId)(x i:ab):Option dy:=
 match x with
 | .bO l=>match P.underlying t with
  |some (.array len el)=>match scalar P el&&Nat.beq l.length len,(P.info? el).map (·.size)with
   |true,some 1=>match i with
    | .cs (.int .i64 (.ofNat j))=>match l[j]? with
     |some v=>some ⟨[],[],v⟩
     |none=>none
    |i=>match i.rt,S8 l with
     |some (.int .i64),some r=>match sN r l&&r.one with
      |true=>some ⟨[.nth r l i],w4 S.g l.length i,.aQ r S.k⟩
      |false=>none
     |_,_=>none
   |_,_=>none
  |_=>none
 |x=>match x.rt,i.rt,isStr P t with
  |some .str,some (.int k),true=>some ⟨[.f2 (.rb k) x i],o2 S.g .nL (.rb k) x i,.aQ (.int .u8) S.k⟩
  |_,_,_=>none
def uO(x:ab):Option bJ:=
 match x.rt with
 |some (.li c)=>some c
 |_=>none
def zeY(P:Program)(t:TypeId)(n:Nat):Option bJ:=
 match P.underlying t with
 |some (.slice el)=>zd4.find? fun c=>Nat.beq n (b5 c)&&(pL P el (iV c 0 0 (eR c))).isSome
 |_=>none
def LD(P:Program)(f:Nat):Nat:=
 match P.funcs[f]? with
 |some fn=>match fn.body.isNone&&fn.origin== "",fn.name== "internal/abi.NoEscape",fn.name== "internal/bytealg.IndexByteString" with
  |true,true,_=>1
  |true,false,true=>2
  |_,_,_=>0
 |none=>0
def LF(P:Program)(S:aq)(f:ab)(aJ:List ab):Option dy:=
 match f with
 | .fn (.func f) [] []=>match LD P f,aJ with
  |1,[x]=>some ⟨[],[],x⟩
  |2,[x,y]=>match x.rt,y.rt with
   |some .str,some (.int .u8)=>some ⟨[.f2 .wS x y],[],.aQ (.int .i64) S.k⟩
   |_,_=>none
  |_,_=>none
 |_=>none
def LG(P:Program)(S:aq)(t:TypeId)(x i:ab):Option dy:=
 match i.rt with
 |some (.int k)=>match j3 P t with
  |some n=>match x with
   | .aR id=>match dj S.h id with
    |some (.rw _ c y)=>match Nat.beq n (b5 c)with
     |true=>some ⟨[],o2 S.g (.iz c) (.j8 c k) y i,.gr id i 0⟩
     |false=>none
    |_=>none
   | .cY id m=>match dj S.h id,i with
    |some (.cQ _ _),.cs (.int _ (.ofNat j))=>match Nat.blt j m with
     |true=>some ⟨[],[],.cq id (j*n)⟩
     |false=>none
    |_,_=>none
   |x=>match uO x with
    |some c=>match Nat.beq n (b5 c)with
     |true=>some ⟨[.f2 (.j8 c k) x i],o2 S.g (.iz c) (.j8 c k) x i,.ip c S.k 0⟩
     |false=>none
    |none=>match x.isNil,zeY P t n with
     |true,some c=>some ⟨[.f2 (.j8 c k) x i],[.f2 0 (.j8 c k) x i],.ip c S.k 0⟩
     |_,_=>none
  |none=>match ug P t,uK S x with
   |some (len,n),some _=>match i,x with
    | .cs (.int _ (.ofNat j)),x=>match Nat.blt j len,w6 (j*n) x with
     |true,some p=>some ⟨[],[],p⟩
     |_,_=>none
    |i,.cq id off=>some ⟨[],w4 S.g len i,.gq id off i n⟩
    |_,_=>none
   |_,_=>none
 |_=>none
def LH(P:Program)(S:aq)(t:TypeId)(x:ab):Option dy:=
 match x with
 | .gr id i off=>match dj S.h id,i.rt with
  |some (.rw _ c y),some (.int k)=>match pL P t ((iV c S.k 0 (eR c)).drop off),y.ew (.li c)with
   |some v,true=>some ⟨[.f2 (.j8 c k) y i],o2 S.g (.iz c) (.j8 c k) y i,v⟩
   |_,_=>none
  |_,_=>none
 | .gq id off i 1=>match dj S.h id,i.rt with
  |some (.cQ _ l),some (.int _)=>match S8 (l.drop off)with
   |some r=>match sN r (l.drop off)&&(r.one&&scalar P t)with
    |true=>some ⟨[.nth r (l.drop off) i],w4 S.g (l.drop off).length i,.aQ r S.k⟩
    |false=>none
   |none=>none
  |_,_=>none
 |x=>match uK S x with
  |some l=>match pL P t l with
   |some v=>some ⟨[],[],v⟩
   |none=>none
  |none=>none
def LI(P:Program)(S:aq)(t:TypeId)(x:ab):Option dy:=
 match x with
 | .cs (.slice none 0 0)=>match isSlice P t with
  |true=>some ⟨[],[],.cs (.int .i64 0)⟩
  |false=>none
 | .cs (.string s)=>match isStr P t with
  |true=>some ⟨[],[],.cs (.int .i64 (ByteArray.size s:Int))⟩
  |false=>none
 | .cY id n=>match dj S.h id,isSlice P t with
  |some (.cQ _ _),true=>some ⟨[],[],.cs (.int .i64 (n:Int))⟩
  |_,_=>none
 | .aR id=>match dj S.h id with
  |some (.rw _ c y)=>match isSlice P t with
   |true=>some ⟨[.f1 (.iz c) y],[],.aQ (.int .i64) S.k⟩
   |false=>none
  |_=>none
 |x=>match x.rt with
  |some .str=>match isStr P t with
   |true=>some ⟨[.f1 .nL x],[],.aQ (.int .i64) S.k⟩
   |false=>none
  |some (.li c)=>match isSlice P t with
   |true=>some ⟨[.f1 (.iz c) x],[],.aQ (.int .i64) S.k⟩
   |false=>none
  |_=>match Df P t with
   |some n=>some ⟨[],[],.cs (.int .i64 (n:Int))⟩
   |none=>none
def xb(N:Nat)(S:aq):Option Operand→Option (Option ab)
 |none=>some none
 |some y=>match(S.a8 N y).rt with
  |some (.int _)=>some (some (S.a8 N y))
  |_=>none
def D5(P:Program)(N:Nat)(S:aq)(t:TypeId)(x:ab)(lo hi:Option Operand):Option dy:=
 match xb N S lo,xb N S hi with
 |some l,some h=>match x.rt with
  |some .str=>match isStr P t with
   |true=>some ⟨[.uG x l h],(match l,h with|none,none=>[]|_,_=>[.uG x l h]),.aQ .str S.k⟩
   |false=>none
  |some (.li c)=>match j3 P t with
   |some n=>match Nat.beq n (b5 c)with
    |true=>some ⟨[.eB c x l h],(match l,h with|none,none=>[]|_,_=>[.eB c x l h]),.aQ (.li c) S.k⟩
    |false=>none
   |none=>none
  |_=>none
 |_,_=>none
def S9(P:Program)(S:aq)(src dst:TypeId)(id:Nat):Option dy:=
 match dj S.h id,P.underlying src with
 |some (.rw _ .u8 y),some (.slice el)=>match P.underlying el,P.underlying dst with
  |some (.int .u8),some .string=>some ⟨[.f1 .cY y],[],.aQ .str S.k⟩
  |_,_=>none
 |_,_=>none
def LJ(P:Program)(S:aq)(src dst:TypeId)(x:ab):Option dy:=
 match x with
 | .aR id=>S9 P S src dst id
 |x=>match x.rt with
  |some (.int k)=>match P.underlying src,P.underlying dst with
   |some _,some (.int bu)=>some ⟨[.f1 (.oO k bu) x],[],.aQ (.int bu) S.k⟩
   |_,_=>none
  |some (.li .u8)=>match P.underlying src with
   |some (.slice el)=>match P.underlying el,P.underlying dst with
    |some (.int .u8),some .string=>some ⟨[.f1 .cY x],[],.aQ .str S.k⟩
    |_,_=>none
   |_=>none
  |_=>none
def LK(S:aq)(op:UnOp)(x:ab):Option dy:=
 match op,x.rt with
 | .not,some .bool=>some ⟨[.f1 .mY x],[],.aQ .bool S.k⟩
 | .neg,some (.int k)=>some ⟨[.f1 (.zX k) x],[],.aQ (.int k) S.k⟩
 | .xor,some (.int k)=>some ⟨[.f1 (.tY k) x],[],.aQ (.int k) S.k⟩
 |_,_=>none
def LL(P:Program)(N:Nat)(S:aq)(t:TypeId)(ps:List (Nat × Operand)):Option dy:=
 match places P t,zeroCells P t with
 |some pl,some zs=>match zs.all Value.oneCell'&&(ps.map fun p=>(p.1,S.a8 N p.2)).all fun p=>p.2.cells.all (kA S.h)with
  |true=>match rn pl (zs.map .cs) (ps.map fun p=>(p.1,S.a8 N p.2))with
   |some ds=>some ⟨[],[],.bO ds⟩
   |none=>none
  |false=>none
 |_,_=>none
def LM(P:Program)(t:TypeId)(x:ab)(f:Nat):Option dy:=
 match x,wv P t f with
 | .bO l,some (off,none)=>match l[off]? with
  |some v=>some ⟨[],[],v⟩
  |none=>none
 | .bO l,some (off,some n)=>match Nat.ble (off+n) l.length with
  |true=>some ⟨[],[],.bO ((l.drop off).take n)⟩
  |false=>none
 |_,_=>none
def LN(S:aq)(b:Builtin)(x y:ab):Option dy:=
 match x.rt,y.rt,b with
 |some (.int k),some (.int bu),.min=>match decide (k=bu)with
  |true=>some ⟨[.f2 (.tZ k) x y],[],.aQ (.int k) S.k⟩
  |false=>none
 |some (.int k),some (.int bu),.max=>match decide (k=bu)with
  |true=>some ⟨[.f2 (.mx k) x y],[],.aQ (.int k) S.k⟩
  |false=>none
 |_,_,_=>none
def D6(P:Program)(t:TypeId):Bool:=
 match P.underlying t with
 |some (.pointer e)=>(P.info? e).isSome&&match(P.info? e).map (fun i=>decide (i.size=0))with
  |some false=>true
  |_=>false
 |_=>false
def Ah(S:aq)(id:Nat):Bool:=
 match dj S.h id with
 |some (.cQ _ _)=>true
 |_=>false
def D7(S:aq)(b:Bool)(g:ab):Option dy:=
 match g.rt,b with
 |some .bool,true=>some ⟨[],[],g⟩
 |some .bool,false=>some ⟨[.f1 .mY g],[],.aQ .bool S.k⟩
 |_,_=>none
def LO:BinOp→Option Bool
 | .eql=>some true
 | .neq=>some false
 |_=>none
def LP(P:Program)(S:aq)(op:BinOp)(cF:TypeId)(x y:ab):Option dy:=
 match D6 P cF,LO op with
 |true,some b=>match x,y with
  | .cs (.pointer none),.cs (.pointer none)=>some ⟨[],[],.cs (.bool b)⟩
  | .cq i o,.cq j q=>match(Nat.beq i j&&Nat.beq o q)&&Ah S i with
   |true=>some ⟨[],[],.cs (.bool b)⟩
   |false=>none
  | .fl g (some i) _,.cs (.pointer none)=>match Ah S i with
   |true=>D7 S (!b) g
   |false=>none
  | .fl g (some i) o,.cq j q=>match(Nat.beq i j&&Nat.beq o q)&&Ah S i with
   |true=>D7 S b g
   |false=>none
  |_,_=>none
 |_,_=>none
def LQ(P:Program)(S:aq)(src dst:TypeId)(x:ab):Option dy:=
 match x with
 | .cq id off=>match dj S.h id,P.underlying src,P.underlying dst with
  |some (.cQ _ l),some (.pointer t),some .unsafePointer=>match(P.info? t).map (fun i=>decide (i.size=0)),Nat.blt off l.length with
   |some false,true=>some ⟨[],[],x⟩
   |_,_=>none
  |some (.cQ bt l),some .unsafePointer,some (.pointer u)=>match liesAt P P.depth bt (l.length/ P.cellsOf bt) off u 1&&(P.info? u).isSome,Nat.blt off l.length with
   |true,true=>some ⟨[],[],x⟩
   |_,_=>none
  |_,_,_=>none
 |_=>none
def LR(P:Program)(S:aq)(t:TypeId)(x:ab):Option dy:=
 match x,P.underlying t with
 | .cq id 0,some (.array n el)=>match dj S.h id,Nat.blt 0 n&&(P.info? el).isSome with
  |some (.cQ _ _),true=>some ⟨[],[],.cY id n⟩
  |_,_=>none
 |_,_=>none
def LS(P:Program)(S:aq)(src dst:TypeId)(x:ab):Option dy:=
 match x,P.underlying src with
 | .cY id n,some (.slice el)=>match dj S.h id,P.underlying el,P.underlying dst with
  |some (.cQ _ l),some (.int .u8),some .string=>match Nat.beq n l.length&&l.all (ab.ew (.int .u8))with
   |true=>some ⟨[.p7 .u8 (l.map fun x=>.bO [x]),.f1 .cY (.aQ (.li .u8) S.k)],[],.aQ .str (S.k+1)⟩
   |false=>none
  |_,_,_=>none
 |_,_=>none
def o4:List ab→Option (List a6)
 |[]=>some []
 |x::r=>match x.rt,o4 r with
  |some t,some l=>some (t::l)
  |_,_=>none
def D8(P:Program)(t:TypeId):Bool:=
 match P.underlying t with
 |some (.interface _)=>true
 |none=>true
 |_=>false
def LU(P:Program)(t:TypeId)(x:ab):Option dy:=
 match D8 P t with
 |true=>none
 |false=>match x with
  | .bO l=>match o4 l with
   |some rs=>some ⟨[],[],.er t true rs l⟩
   |none=>none
  |x=>match x.rt with
   |some r=>some ⟨[],[],.er t false [r] [x]⟩
   |none=>none
def rp(a:Bool)(l:List ab):Option ab:=
 match a,l with
 |true,l=>some (.bO l)
 |false,[x]=>some x
 |false,_=>none
def LV:Value→ab
 | .agg a=>.bO (a.toList.map .cs)
 |v=>.cs v
def LW(P:Program)(t:TypeId)(x:ab)(c:Bool):Option dy:=
 match x,D8 P t with
 | .er u a rs l,false=>match Nat.beq u t,c with
  |true,true=>match rp a l,decide (o4 l=some rs)with
   |some v,true=>some ⟨[],[],.tp [v,.cs (.bool true)]⟩
   |_,_=>none
  |true,false=>match rp a l,decide (o4 l=some rs)with
   |some v,true=>some ⟨[],[],v⟩
   |_,_=>none
  |false,true=>match(P.info? t).bind (·.zero)with
   |some z=>match sv z with
    |true=>some ⟨[],[],.tp [LV z,.cs (.bool false)]⟩
    |false=>none
   |none=>none
  |false,false=>none
 |_,_=>none
def qd(P:Program)(N:Nat)(S:aq)(o:Oper):Option dy:=
 match o.op with
 | .move x=>some ⟨[],[],S.a8 N x⟩
 | .assign x=>some ⟨[],[],S.a8 N x⟩
 | .pick c x y=>LB S (S.a8 N c) (S.a8 N x) (S.a8 N y)
 | .extract x i=>match S.a8 N x with
  | .tp l=>match l[i]? with
   |some v=>some ⟨[],[],v⟩
   |none=>none
  |_=>none
 | .nilCheck x=>match sL S (S.a8 N x)with
  |true=>some ⟨[],[],S.a8 N x⟩
  |false=>none
 | .fieldAddr t x f=>match sj P t f,sL S (S.a8 N x)with
  |some k,true=>match w6 k (S.a8 N x)with
   |some p=>some ⟨[],[],p⟩
   |none=>none
  |_,_=>none
 | .load t x=>LH P S t (S.a8 N x)
 | .field t x f=>LM P t (S.a8 N x) f
 | .indexAddr t x i=>LG P S t (S.a8 N x) (S.a8 N i)
 | .index t x i=>LC P S t (S.a8 N x) (S.a8 N i)
 | .binOp op cF x y _=>match Lx P S op cF (S.a8 N x) (S.a8 N y)with
  |some r=>some r
  |none=>LP P S op cF (S.a8 N x) (S.a8 N y)
 | .unOp op _ x=>LK S op (S.a8 N x)
 | .convert src dst x=>match LJ P S src dst (S.a8 N x)with
  |some r=>some r
  |none=>match LQ P S src dst (S.a8 N x)with
   |some r=>some r
   |none=>LS P S src dst (S.a8 N x)
 | .build t ps=>LL P N S t ps.toList
 | .makeFunc (.func f) p q=>some ⟨[],[],.fn (.func f) (p.toList.map (S.a8 N)) (q.toList.map (S.a8 N))⟩
 | .makeInterface t x=>LU P t (S.a8 N x)
 | .typeAssert x _ t c=>LW P t (S.a8 N x) c
 | .lookup t m x c=>LA P S t (S.a8 N m) (S.a8 N x) c
 | .slice t x none none none=>match D5 P N S t (S.a8 N x) none none with
  |some r=>some r
  |none=>LR P S t (S.a8 N x)
 | .slice t x lo hi none=>D5 P N S t (S.a8 N x) lo hi
 | .call c=>match c.callee,c.args.toList,c.argTypes.toList with
  | .builtin .len,[x],[t]=>LI P S t (S.a8 N x)
  | .builtin b,[x,y],_=>LN S b (S.a8 N x) (S.a8 N y)
  | .value f,l,_=>LF P S (S.a8 N f) (l.map (S.a8 N))
  |_,_,_=>none
 |_=>none
section
variable {P:Program} {G:bd} {o:Oper} {N B:Nat} {S:aq} {M:List aV}
theorem Ta{e:Env}{g:ab}{b:Bool}{x:ab}(h:g.aC e .bool=b):(x.sM g b).den G e=x.den G e:=by
 unfold ab.sM
 split
 ·rename_i h' c v
  split
  ·rename_i ad
   simp only[Bool.and_eq_true,decide_eq_true_eq]at ad
   have:=Ll ad.1
   subst this;obtain⟨_,rfl⟩:=ad;simp only[ab.den,h]
   cases c<;>rfl
  ·rfl
 ·rfl
theorem D9{e:Env}{r:a6}(h:r.one=true)(x:ab):x.get e r=x.aC e r:=by
 cases r<;>first|rfl|cases h
theorem ie.nil{v:ab}(h: ∀e,(∀c∈S.g,c.ok e)→cX P G o (S.den G N B e) (v.den G e)):ie P G N B M o S ⟨[],[],v⟩:=fun e hf _ _=>h e hf
theorem zeZ{c x y:Operand}{r:dy}(ao:o.op= .pick c x y)(h:LB S (S.a8 N c) (S.a8 N x) (S.a8 N y)=some r):ie P G N B M o S r:=fun e hf hx hn=>by
 unfold LB at h
 split at h
 ·rename_i b ad
  cases h
  have hc:aM G (S.den G N B e) c= .aw (.v (.bool b)):=by rw[bM hf,ad];rfl
  refine zp c x y ao hc ?_
  cases b<;>simp[bM hf]
 ·rename_i b ad _
  split at h
  ·rename_i ag
   cases h
   have aj:=p9 ad hf
   have hc:aM G (S.den G N B e) c= .aw (.v (.bool b)):=by rw[bM hf,gd ag,aj];rfl
   refine zp c x y ao hc ?_
   cases b<;>simp[bM hf]
  ·cases h
 ·split at h
  ·rename_i hc
   split at h
   ·rename_i q _
    split at h
    ·rename_i ad
     cases h;simp only[Bool.and_eq_true]at ad
     have zh:aM G (S.den G N B e) c= .aw (.v (.bool ((S.a8 N c).aC e .bool))):=(bM hf c).trans (gd hc)
     refine(zp c x y ao zh rfl).sub ?_
     have aP:Env.at e S.k=_:=hx 0 _ rfl
     simp only[ab.den,aP,bQ.den,cI,bM hf,D9 ad.2.2]
     cases gE:(S.a8 N c).aC e .bool with
     |true=>
      simp only[cond_true,if_true];rw[←Ta (G:=G) (x:=S.a8 N x) gE];exact uE ad.1
     |false=>
      simp only[cond_false,Bool.false_eq_true,if_false];rw[←Ta (G:=G) (x:=S.a8 N y) gE];exact uE ad.2.1
    ·cases h
   ·cases h
  ·cases h
theorem LX{e:Env}{r:a6}: ∀{l:List ab} {j:Nat} {x:ab},sN r l=true→l[j]? =some x→Sub (x.den G e) (.aw (fJ r (sE e r l j)))
 |[],_,_,_,h=>by simp at h
 |[y],j,x,ba,h=>by
  have af:j=0:=by
   have:=(List.getElem?_eq_some_iff.1 h).1
   simp at this;exact this
  subst af;simp only[List.getElem?_cons_zero,Option.some.injEq]at h
  subst h;simp only[sN,Bool.and_eq_true]at ba;exact uE ba.1
 |y::z::l,0,x,ba,h=>by
  simp only[List.getElem?_cons_zero,Option.some.injEq]at h
  subst h;simp only[sN,Bool.and_eq_true]at ba;exact uE ba.1
 |y::z::l,j+1,x,ba,h=>by
  simp only[List.getElem?_cons_succ]at h
  simp only[sN,Bool.and_eq_true]at ba
  have:=LX (e:=e) (r:=r) (l:=z::l) (j:=j) (x:=x) (by simp only[sN,Bool.and_eq_true];exact ba.2) h
  have ad:Nat.beq (j+1) 0=false:=rfl
  simp only[sE,ad,cond_false,Nat.add_sub_cancel];exact this
theorem Ea{e:Env}{l:List ab}{j:Nat}{x:ab}(h:l[j]? =some x):(ab.bX G e l)[j]? =some (x.den G e):=by rw[fa,List.getElem?_map,h];rfl
theorem ze0{t:TypeId}{x i:Operand}{r:dy}(ao:o.op= .index t x i)(h:LC P S t (S.a8 N x) (S.a8 N i)=some r):ie P G N B M o S r:=fun e hf hx hn=>by
 unfold LC at h
 split at h
 ·rename_i l ar
  have fU:aM G (S.den G N B e) x= .agg (ab.bX G e l):=by rw[bM hf,ar];rfl
  split at h
  ·rename_i len el hu
   split at h
   ·rename_i ad bY
    simp only[Bool.and_eq_true]at ad
    have hlen:=Nat.eq_of_beq_eq_true ad.2
    split at h
    ·rename_i j hi
     split at h
     ·rename_i v ax
      cases h
      have af:=(List.getElem?_eq_some_iff.1 ax).1
      exact Sm j ao hu ad.1 bY (by rw[bM hf,hi];rfl) fU (Ea ax) (by omega)
     ·cases h
    ·split at h
     ·rename_i eV hi ag
      split at h
      ·rename_i ba
       cases h;simp only[Bool.and_eq_true]at ba
       have jq:0≤cr ((S.a8 N i).dyn e)∧cr ((S.a8 N i).dyn e)<(l.length:Int):=DY hf hn
       obtain⟨j,af⟩: ∃j:Nat,cr ((S.a8 N i).dyn e)=(j:Int):=⟨_,(Int.toNat_of_nonneg jq.1).symm⟩
       have cU:j<l.length:=by omega
       have hh:aM G (S.den G N B e) i=iS (j:Int):=by
        rw[bM hf,jw hi,←lD hi,af]
       have ax:l[j]? =some l[j]:=List.getElem?_eq_getElem cU
       refine(Sm j ao hu ad.1 bY hh fU (Ea ax) (by omega)).sub ?_
       have aP:Env.at e S.k=_:=hx 0 _ rfl
       simp only[ab.den,aP,bQ.den,cI,af,Int.toNat_natCast];exact LX ba.1 ax
      ·cases h
     ·cases h
   ·cases h
  ·cases h
 ·split at h
  ·rename_i k aa ae aK
   cases h
   have fU:aM G (S.den G N B e) x=_:=(bM hf x).trans (gd aa)
   have hh:aM G (S.den G N B e) i=_:=(bM hf i).trans (jw ae)
   obtain⟨g1,g2⟩:=zeN hf ae hn;exact qa (f:=.rb k) (hx 0 _ rfl) (zet _ k _ ao (ui aK) hh fU g1 g2)
  ·cases h
theorem Tb{e:Env}{c:bJ}{i:Nat}{x:fQ c}(h:Env.at e i=⟨.st c,x⟩):(ab.ip c i 0).den G e= .aw (.ptr (cj c x)):=by
 simp only[ab.den,h,cI,List.drop_zero]
theorem Tc{c:bJ}{l:List (fQ c)}{z:Int}(aP:0≤z)(aa:z<(l.length:Int)):l[z.toNat]? =some (l.getD z.toNat (av c)):=by
 have:z.toNat<l.length:=by omega
 rw[List.getD_eq_getElem?_getD,List.getElem?_eq_getElem this]
 rfl
theorem Eb{e:Env}{x:ab}{c:bJ}(h:uO x=some c):x.den G e= .aw (.li c (x.aC e (.li c)))∧x.rt=some (.li c):=by
 unfold uO at h
 split at h
 ·rename_i lz ag
  cases h;exact⟨gd ag,ag⟩
 ·cases h
theorem ze1{s:aU}{x:Operand}{t:TypeId}(ao:o.op= .call {callee:=.builtin .len,args:=#[x],argTypes:=#[t]})(aK:isSlice P t=true){id n:Nat}(hx:aM G s x= .dC id n){bt:TypeId}{cs:List aF}(bh:aG s.heap id=some (.box bt cs)):cX P G o s (.aw (.v (.int .i64 (n:Int)))):=
 fun E a w β ro ag=>by
  have h:=ag.eval x
  rw[hx]at h;generalize hc:a.eval x=c at h
  cases h with
  |dC _ _ _ ar ak=>
   obtain⟨b,_,rfl⟩:=ak _ _ bh;unfold isSlice at aK
   split at aK
   ·rename_i e hu
    refine⟨.int .i64 n,?_,.fG rfl⟩
    simp[execOp,ao,resolve,invoke,builtin,hc,Builtin.len_,run_underlying hu,goInt]
   ·cases aK
theorem ze2{s:aU}{x y:Operand}{t:TypeId}(ao:o.op= .indexAddr t x y){vN:Nat}(aK:j3 P t=some vN){k:IntKind}{j n:Nat}(ay:aM G s y= .aw (.v (.int k (j:Int))))(af:j<n){id:Nat}(hx:aM G s x= .dC id n){bt:TypeId}{cs:List aF}(bh:aG s.heap id=some (.box bt cs)):cX P G o s (.ptr id (j*vN)):=
 fun E a w β ro ag=>by
  have h:=ag.eval x
  rw[hx]at h;generalize hc:a.eval x=c at h
  cases h with
  |dC _ _ _ ar ak=>
   obtain⟨b,ad,rfl⟩:=ak _ _ bh;obtain⟨e,hu,bY⟩:=zw aK;refine⟨.pointer (some ⟨b,j*vN,none⟩),?_,.ptr _ _ _ ar fun bI cs' _=>⟨b,ad,rfl⟩⟩
   by_cases aS:j*vN=0<;>simp[execOp,ao,hc,ag.ee ay,Instr.indexAt,asIntOf,run_underlying hu,af,bY,Addr.add,aS]
theorem ze3(cY:ByteArray)(c:Int):Extern.BytealgIndexByte.indexByte #[.string cY,.int .u8 c]=pure (.int .i64 (DL cY c)):=by
 have hi:Extern.BytealgIndexByte.indexByte #[.string cY,.int .u8 c]=(match(List.range cY.size).find? fun i=>cY[i]! ==c.toNat.toUInt8 with
  |some i=>pure (goInt i)
  |none=>pure (goInt (-1))):=rfl
 rw[hi]
 unfold DL
 cases List.find? (fun i=>cY[i]! ==c.toNat.toUInt8) (List.range cY.size)<;>rfl
theorem Ec{a b:String}(h:(a==b)=true):a=b:=by simpa using h
theorem ze4{f:Operand}{aJ:List Operand}{args:Array Operand}{ts:Array TypeId}{r:dy}(ao:o.op= .call {callee:=.value f,args:=args,argTypes:=ts})(ba:args.toList=aJ)(h:LF P S (S.a8 N f) (aJ.map (S.a8 N))=some r):ie P G N B M o S r:=fun e hf hx hn=>by
 unfold LF at h
 split at h
 rotate_left
 ·cases h
 rename_i Td uP
 have xc:aM G (S.den G N B e) f= .fn (.func Td) [] []:=by rw[bM hf,uP];rfl
 have start: ∀{ev:Array Value→Sem Value} {fn:Func},P.funcs[Td]? =some fn→fn.body.isNone=true→(fn.name== "runtime.NumGoroutine")=false→Extern.findNext fn=none→Extern.find fn=some ev→∀E a w β ro,df E G (S.den G N B e) a w β ro→(execOp a.eval o).run P w=((ev (args.map a.eval)).run P w).andThen fun v w'=>.ok (.value v) w':=fun {ev fn} aa ae au aW bN E a w β ro ag=>by
  have hc:=ag.eval f
  rw[xc]at hc;generalize he:a.eval f=Kr at hc
  cases hc with
  |fn _ _ _ c d g1 g2 _ _=>
   have gw:c= #[]:=by simpa using g1
   have n5:d= #[]:=by simpa using g2
   subst gw n5;simp only[execOp,ao,resolve,he,Deferred.ofValue,Sem.run_bind,Sem.run_pure,Result.andThen_ok,invoke,Array.empty_append,Array.append_empty];exact run_callFunc_extern aa au ae aW bN _ w
 split at h
 ·rename_i x aj ar
  cases h;unfold LD at aj
  split at aj
  rotate_left
  ·cases aj
  rename_i fn nt
  split at aj
  ·rename_i _ Ai wk
   simp only[Bool.and_eq_true]at Ai;obtain⟨ad,gL⟩:=Ai
   have hn:=Ec wk
   have gL:=Ec gL
   obtain⟨y,rfl⟩: ∃y,aJ=[y]:=by
    match aJ,ar with
    |[y],_=>exact⟨y,rfl⟩
   simp only[List.map_cons,List.map_nil,List.cons.injEq,and_true]at ar
   have hX:args= #[y]:=by rw[←Array.toList_inj];exact ba
   intro E a w β ro ag;refine⟨a.eval y,?_,by have:=ag.eval y;rw[bM hf,ar]at this;exact this⟩
   rw[start (ev:=Extern.AbiNoEscape.same) nt ad (by rw[hn];rfl) (by unfold Extern.findNext;simp only[hn,gL]<;>rfl) (by unfold Extern.find;simp only[hn,gL]<;>rfl) E a w β ro ag,hX]
   have hm:(#[y]:Array Operand).map a.eval= #[a.eval y]:=by simp
   rw[hm];rfl
  ·cases aj
  ·cases aj
 ·rename_i x z aj ar
  split at h
  ·rename_i g1 g2
   cases h;unfold LD at aj
   split at aj
   rotate_left
   ·cases aj
   rename_i fn nt
   split at aj
   ·cases aj
   ·rename_i Ai _ wk
    simp only[Bool.and_eq_true]at Ai;obtain⟨ad,gL⟩:=Ai
    have hn:=Ec wk
    have gL:=Ec gL
    obtain⟨y,u,rfl⟩: ∃y u,aJ=[y,u]:=by
     match aJ,ar with
     |[y,u],_=>exact⟨y,u,rfl⟩
    simp only[List.map_cons,List.map_nil,List.cons.injEq,and_true]at ar
    have hX:args= #[y,u]:=by rw[←Array.toList_inj];exact ba
    have ay:aM G (S.den G N B e) y= .aw (.v (.string (x.aC e .str))):=by rw[bM hf,ar.1];exact gd g1
    have hu:aM G (S.den G N B e) u= .aw (.v (.int .u8 (z.aC e (.int .u8)))):=by rw[bM hf,ar.2];exact gd g2
    refine qa (f:=.wS) (hx 0 _ rfl) fun E a w β ro ag=>?_
    refine⟨.int .i64 (DL (x.aC e .str) (z.aC e (.int .u8))),?_,.fG rfl⟩
    rw[start (ev:=Extern.BytealgIndexByte.indexByte) nt ad (by rw[hn];rfl) (by unfold Extern.findNext;simp only[hn,gL]<;>rfl) (by unfold Extern.find;simp only[hn,gL]<;>rfl) E a w β ro ag,hX]
    have hm:(#[y,u]:Array Operand).map a.eval= #[.string (x.aC e .str),.int .u8 (z.aC e (.int .u8))]:=by simp[ag.ee ay,ag.ee hu]
    rw[hm];rw[ze3];rfl
   ·cases aj
  ·cases h
 ·cases h
theorem ze5{t:TypeId}{x i:Operand}{r:dy}(ao:o.op= .indexAddr t x i)(h:LG P S t (S.a8 N x) (S.a8 N i)=some r):ie P G N B M o S r:=fun e hf hx hn=>by
 unfold LG at h
 split at h
 ·rename_i k hi
  have hh:aM G (S.den G N B e) i=_:=(bM hf i).trans (jw hi)
  split at h
  ·rename_i n lE
   split at h
   ·rename_i id bh
    split at h
    ·rename_i bI c y ah
     split at h
     ·rename_i ad
      cases h
      have ad:=Nat.eq_of_beq_eq_true ad
      obtain⟨g1,g2⟩:=w5 hf hi hn;obtain⟨j,af⟩: ∃j:Nat,(S.a8 N i).aC e (.int k)=(j:Int):=⟨_,(Int.toNat_of_nonneg g1).symm⟩;rw[af]at hh g2
      have g2:(j:Int)<((List.length (y.aC e (.li c)):Nat):Int):=g2
      have:=RF t x i ao lE hh (p:=.c6 id j 0) (by
       rw[bM hf,bh];simp only[ab.den,l8,aq.den,eh,ah,Option.map_some,bK.den]
       rw[if_pos ⟨ad.symm,by rw[List.length_map];omega⟩])
      simp only[ab.den,lD hi,af,Int.toNat_natCast];exact this
     ·cases h
    ·cases h
   ·rename_i id m bh
    split at h
    ·rename_i bt l bu j ah oj
     split at h
     ·rename_i RJ
      cases h;exact ze2 ao lE (k:=bu) (j:=j) (by rw[bM hf,oj];rfl) (fb RJ) (id:=id) (bt:=bt) (cs:=ab.bX G e l) (by rw[bM hf,bh];rfl) (by simp only[aq.den,eh,ah,Option.map_some,bK.den])
     ·cases h
    ·cases h
   ·split at h
    ·rename_i c hc
     split at h
     ·rename_i ad
      cases h
      have ad:=Nat.eq_of_beq_eq_true ad
      rw[ad]at lE;obtain⟨hd,Aj⟩:=Eb (G:=G) (e:=e) hc;obtain⟨g1,g2⟩:=w5 hf hi hn
      have:=(SF c _ k _ ao lE hh ((bM hf x).trans hd) g1 g2).v
      have aP:Env.at e S.k=_:=hx 0 _ rfl
      have aa:=Tb (G:=G) (x:=List.getD ((S.a8 N x).aC e (.li c)) (Int.toNat ((S.a8 N i).aC e (.int k))) (av c)) aP
      show cX P G o _ ((ab.ip c S.k 0).den G e);rw[aa];exact this
     ·cases h
    ·split at h
     ·rename_i c q4 _
      cases h
      have jq:=hn _ (List.mem_singleton.2 rfl)
      have aS:(S.a8 N x).aC e (.li c)=[]:=by
       unfold ab.isNil at q4
       split at q4
       ·rename_i aN
        simp only[aN,ab.aC,ab.fu,cI]
       ·cases q4
      simp only[fi.ok,cD.uF,aS]at jq
      have ae:(S.a8 N i).aC e (.int k)<((List.length ([]:List (fQ c)):Nat):Int):=jq.2
      have au:0≤(S.a8 N i).aC e (.int k):=jq.1
      exact absurd (Int.lt_of_le_of_lt au ae) (Int.lt_irrefl _)
     ·cases h
  ·split at h
   ·rename_i len n l ba ar
    have dL:=Af (G:=G) (N:=N) (B:=B) (e:=e) ar
    rw[←bM (B:=B) hf]at dL
    split at h
    ·rename_i bu j af
     split at h
     ·rename_i p cU ak
      cases h
      have cU:=fb cU
      refine Kx t x i ao ba (k:=bu) (j:=j) (by rw[bM hf,af];rfl) cU dL ?_
      have ai:=Ag (G:=G) (e:=e) ak
      rw[←ai,←bM (N:=N) (B:=B) hf];revert dL
      cases aM G (S.den G N B e) x<;>intro dL<;>first|(simp[fr]at dL;done)|skip
      all_goals rename_i y
      ·cases y<;>first|(simp[fr]at dL;done)|rfl
      ·rfl
      ·rfl
     ·cases h
    ·rename_i id off bh _
     cases h
     have jq:0≤cr ((S.a8 N i).dyn e)∧cr ((S.a8 N i).dyn e)<(len:Int):=DY hf hn
     obtain⟨j,af⟩: ∃j:Nat,cr ((S.a8 N i).dyn e)=(j:Int):=⟨_,(Int.toNat_of_nonneg jq.1).symm⟩;rw[←lD hi,af]at hh;refine Kx t x i ao ba hh (by omega) dL ?_
     rw[bM hf,bh];simp only[ab.den,iQ,af,Int.toNat_natCast]
    ·cases h
   ·cases h
 ·cases h
theorem ze6{t:TypeId}{x:Operand}{r:dy}(ao:o.op= .load t x)(h:LH P S t (S.a8 N x)=some r):ie P G N B M o S r:=fun e hf hx hn=>by
 unfold LH at h
 split at h
 ·rename_i id i off ak
  split at h
  ·rename_i bI c y k ah hi
   split at h
   ·rename_i v ax ay
    cases h;obtain⟨g1,g2⟩:=w5 hf hi hn
    have aP:Env.at e S.k=⟨.st c,List.getD (y.aC e (.li c)) (i.aC e (.int k)).toNat (av c)⟩:=hx 0 _ rfl
    refine Hr ao ?_ ax
    rw[bM hf,ak];simp only[ab.den,fr,aq.den,eh,ah,Option.map_some,bK.den,lD hi];rw[List.getElem?_map,Tc g1 g2]
    simp only[Option.map_some,Option.some.injEq];rw[Lu,sC,aP,cI,List.map_drop]
   ·cases h
  ·cases h
 ·rename_i id off i ak
  split at h
  ·rename_i bI l k ah hi
   split at h
   ·rename_i q aN
    split at h
    ·rename_i ba
     cases h;simp only[Bool.and_eq_true]at ba
     have jq:0≤cr (i.dyn e)∧cr (i.dyn e)<((l.drop off).length:Int):=DY hf hn
     obtain⟨j,af⟩: ∃j:Nat,cr (i.dyn e)=(j:Int):=⟨_,(Int.toNat_of_nonneg jq.1).symm⟩
     have cU:j<(l.drop off).length:=by omega
     have ax:(l.drop off)[j]? =some (l.drop off)[j]:=List.getElem?_eq_getElem cU
     have hd:(l.drop off).drop j=(l.drop off)[j]::(l.drop off).drop (j+1):=List.drop_eq_getElem_cons cU
     have:=Kb t x ao ba.2.2 (y:=((l.drop off)[j]).den G e) (cs:=ab.bX G e ((l.drop off).drop (j+1))) (s:=S.den G N B e) (G:=G) (by
      rw[bM hf,ak];simp only[ab.den,fr,aq.den,eh,ah,Option.map_some,bK.den,af,Int.toNat_natCast,Nat.mul_one,Option.some.injEq];rw[←Lu,←List.drop_drop,hd]
      rfl)
     refine this.sub ?_
     have aP:Env.at e S.k=_:=hx 0 _ rfl
     simp only[ab.den,aP,bQ.den,cI,af,Int.toNat_natCast];exact LX ba.1 ax
    ·cases h
   ·cases h
  ·cases h
 ·split at h
  ·rename_i l ar
   split at h
   ·rename_i v ax
    cases h;refine Hr ao ?_ ax
    rw[bM hf];exact Af ar
   ·cases h
  ·cases h
theorem ze7{t:TypeId}{x:Operand}{r:dy}(ao:o.op= .call {callee:=.builtin .len,args:=#[x],argTypes:=#[t]})(h:LI P S t (S.a8 N x)=some r):ie P G N B M o S r:=fun e hf hx hn=>by
 unfold LI at h
 split at h
 ·rename_i ak
  split at h
  ·rename_i aK
   cases h;exact Kv x t ao aK (m:=0) (by rw[bM hf,ak];rfl)
  ·cases h
 ·rename_i b ak
  split at h
  ·rename_i aK
   cases h;exact Kw x t ao (ui aK) (by rw[bM hf,ak];rfl)
  ·cases h
 ·rename_i id n ak
  split at h
  ·rename_i bt l ah aK
   cases h;exact ze1 ao aK (id:=id) (bt:=bt) (cs:=ab.bX G e l) (by rw[bM hf,ak];rfl) (by simp only[aq.den,eh,ah,Option.map_some,bK.den])
  ·cases h
 ·rename_i id ak
  split at h
  ·rename_i bI c y ah
   split at h
   ·rename_i aK
    cases h;refine qb (f:=.iz c) (hx 0 _ rfl) (Kv x t ao aK (m:=List.length (y.aC e (.li c))) ?_)
    rw[bM hf,ak];simp only[ab.den,kU,aq.den,eh,ah,Option.map_some,bK.den,List.length_map]
   ·cases h
  ·cases h
 ·split at h
  ·rename_i ag
   split at h
   ·rename_i aK
    cases h;exact qb (f:=.nL) (hx 0 _ rfl) (Kw x t ao (ui aK) ((bM hf x).trans (gd ag)))
   ·cases h
  ·rename_i c ag
   split at h
   ·rename_i aK
    cases h;exact qb (f:=.iz c) (hx 0 _ rfl) (zeu c _ ao aK ((bM hf x).trans (gd ag)))
   ·cases h
  ·split at h
   ·rename_i n LY
    cases h;exact RD x t ao LY
   ·cases h
theorem xd{e:Env}(hf: ∀c∈S.g,c.ok e){lo:Option Operand}{l:Option ab}(h:xb N S lo=some l):z8 G (S.den G N B e) lo (mh e l):=by
 unfold xb at h
 split at h
 ·cases h;trivial
 ·split at h
  ·rename_i y k ag
   cases h;exact⟨k,by rw[bM hf,jw ag,lD ag]⟩
  ·cases h
theorem Te{t:TypeId}{x:Operand}{lo hi:Option Operand}{r:dy}(ao:o.op= .slice t x lo hi none)(h:D5 P N S t (S.a8 N x) lo hi=some r):ie P G N B M o S r:=fun e hf hx hn=>by
 unfold D5 at h
 split at h
 ·rename_i l h' ar bk
  split at h
  ·rename_i ag
   split at h
   ·rename_i aK
    cases h
    have aP:Env.at e S.k=_:=hx 0 _ rfl
    simp only[ab.den,aP,bQ.den,cI];refine zeI _ ao (ui aK) ((bM hf x).trans (gd ag)) (xd hf ar) (xd hf bk) ?_
    cases l<;>cases h'<;>first|trivial|exact hn _ (List.mem_singleton.2 rfl)
   ·cases h
  ·rename_i c ag
   split at h
   ·rename_i n lE
    split at h
    ·rename_i ad
     cases h;rw[Nat.eq_of_beq_eq_true ad]at lE
     have aP:Env.at e S.k=_:=hx 0 _ rfl
     simp only[ab.den,aP,bQ.den,cI];refine(SU c _ ao lE ((bM hf x).trans (gd ag)) (xd hf ar) (xd hf bk) ?_).v
     cases l<;>cases h'<;>first|trivial|exact hn _ (List.mem_singleton.2 rfl)
    ·cases h
   ·cases h
  ·cases h
 ·cases h
theorem ze8{src dst:TypeId}{x:Operand}{r:dy}(ao:o.op= .convert src dst x)(h:LJ P S src dst (S.a8 N x)=some r):ie P G N B M o S r:=fun e hf hx hn=>by
 unfold LJ at h
 split at h
 ·rename_i id bh
  unfold S9 at h
  split at h
  ·rename_i bI y el ah ai
   split at h
   ·rename_i hu hd
    cases h;refine qb (f:=.cY) (hx 0 _ rfl) (K9 src dst el x ao ai hu hd (l:=y.aC e (.li .u8)) ?_)
    rw[bM hf,bh];simp only[ab.den,fy,aq.den,eh,ah,Option.map_some,bK.den];rfl
   ·cases h
  ·cases h
 rename_i Ak
 split at h
 ·rename_i k ag
  split at h
  ·rename_i ai hd
   cases h;exact qb (f:=.oO k _) (hx 0 _ rfl) (RS src dst x ao (by rw[ai];rfl) hd ((bM hf x).trans (jw ag)))
  ·cases h
 ·rename_i ag
  split at h
  ·rename_i el ai
   split at h
   ·rename_i hu hd
    cases h;refine qb (f:=.cY) (hx 0 _ rfl) (K9 src dst el x ao ai hu hd (l:=(S.a8 N x).aC e (.li .u8)) ?_)
    rw[bM hf,gd ag];rfl
   ·cases h
  ·cases h
 ·cases h
theorem ze9{op:UnOp}{t:TypeId}{x:Operand}{r:dy}(ao:o.op= .unOp op t x)(h:LK S op (S.a8 N x)=some r):ie P G N B M o S r:=fun e hf hx hn=>by
 unfold LK at h
 split at h
 ·rename_i ag
  cases h;exact qb (f:=.mY) (hx 0 _ rfl) (Rr t x ao ((bM hf x).trans (gd ag)))
 ·rename_i k ag
  cases h;exact qb (f:=.zX k) (hx 0 _ rfl) (Rs t x ao ((bM hf x).trans (jw ag)))
 ·rename_i k ag
  cases h
  have fU:aM G (S.den G N B e) x=_:=(bM hf x).trans (jw ag)
  exact qb (f:=.tY k) (hx 0 _ rfl) fun _ bf w β ro h=>⟨_,by simp[execOp,ao,h.ee fU,Op.unary,Op.intBits,gI.den,aO.n8],.fG rfl⟩
 ·cases h
theorem zfa{t:TypeId}{ps:Array (Nat × Operand)}{r:dy}(ao:o.op= .build t ps)(h:LL P N S t ps.toList=some r):ie P G N B M o S r:=fun e hf hx hn=>by
 unfold LL at h
 split at h
 ·rename_i pl zs q1 aS
  split at h
  ·rename_i ad
   simp only[Bool.and_eq_true]at ad
   split at h
   ·rename_i ds hd
    cases h
    have aa:=D0 (G:=G) (e:=e) ad.2 hd
    have ae:ab.bX G e (zs.map .cs)=zs.map fun z=>.aw (.v z):=by rw[fa,List.map_map];rfl
    rw[ae]at aa
    have au:(ps.toList.map fun p=>(p.1,aM G (S.den G N B e) p.2))=(ps.toList.map fun p=>(p.1,S.a8 N p.2)).map fun p=>(p.1,p.2.den G e):=by
     rw[List.map_map];exact List.map_congr_left fun p _=>by simp[bM hf]
    refine RM t ps ao q1 aS ad.1 au ?_ aa
    rw[List.all_map];refine List.all_eq_true.2 fun p ak=>?_
    have:=List.all_eq_true.1 ad.2 p ak
    simp only[Function.comp];rw[uL this];exact w7 this
   ·cases h
  ·cases h
 ·cases h
theorem zfb{t:TypeId}{x:Operand}{f:Nat}{r:dy}(ao:o.op= .field t x f)(h:LM P t (S.a8 N x) f=some r):ie P G N B M o S r:=fun e hf hx hn=>by
 unfold LM at h
 split at h
 ·rename_i l off ar ak
  split at h
  ·rename_i v ax
   cases h;exact RH t x f ao ak (by rw[bM hf,ar];rfl) (Ea ax)
  ·cases h
 ·rename_i l off n ar ak
  split at h
  ·rename_i ad
   cases h
   have:=RI t x f ao ak (s:=S.den G N B e) (G:=G) (cs:=ab.bX G e l) (by rw[bM hf,ar];rfl) (by rw[lZ];exact Nat.le_of_ble_eq_true ad)
   simp only[ab.den];rw[fa,List.map_take,List.map_drop,←fa];exact this
  ·cases h
 ·cases h
theorem zfc{b:Builtin}{x y:Operand}{ts:Array TypeId}{r:dy}(ao:o.op= .call {callee:=.builtin b,args:=#[x,y],argTypes:=ts})(h:LN S b (S.a8 N x) (S.a8 N y)=some r):ie P G N B M o S r:=fun e hf hx hn=>by
 unfold LN at h
 split at h
 ·rename_i k bu aa ae
  split at h
  ·rename_i aj
   cases h
   have aj:=of_decide_eq_true aj
   subst aj;exact qa (f:=.tZ k) (hx 0 _ rfl) (RT x y ts ao ((bM hf x).trans (jw aa)) ((bM hf y).trans (jw ae)))
  ·cases h
 ·rename_i k bu aa ae
  split at h
  ·rename_i aj
   cases h
   have aj:=of_decide_eq_true aj
   subst aj;exact qa (f:=.mx k) (hx 0 _ rfl) (RU x y ts ao ((bM hf x).trans (jw aa)) ((bM hf y).trans (jw ae)))
  ·cases h
 ·cases h
theorem zfd{t:TypeId}(h:D6 P t=true): ∃gN i,P.underlying t=some (.pointer gN)∧P.info? gN=some i∧i.size≠0:=by
 unfold D6 at h
 split at h
 ·rename_i e hu
  cases hi:P.info? e with
  |none=>rw[hi]at h;cases h
  |some i=>
   rw[hi]at h;simp only[Option.isSome_some,Bool.true_and,Option.map_some]at h;refine⟨e,i,hu,hi,fun aS=>?_⟩
   rw[aS]at h;cases h
 ·cases h
theorem LZ{id:Nat}{e:Env}(h:Ah S id=true): ∃t cs,aG (S.den G N B e).heap id=some (.box t cs):=by
 unfold Ah at h
 split at h
 ·rename_i t l ah
  exact⟨t,ab.bX G e l,by simp only[aq.den,eh,ah,Option.map_some,bK.den]⟩
 ·cases h
theorem Tf{s:aU}{b:Bool}{g:ab}{r:dy}{e:Env}(h:D7 S b g=some r)(hx: ∀(j:Nat) (x:bQ),r.xs[j]? =some x→Env.at e (S.k+j)=x.den M e)(ai:cX P G o s (.aw (.v (.bool (bif b then g.aC e .bool else !(g.aC e .bool)))))):cX P G o s (r.v.den G e):=by
 unfold D7 at h
 split at h
 ·rename_i ag
  cases h
  have:=gd (G:=G) (e:=e) ag
  show cX P G o s (g.den G e);rw[this];exact ai
 ·rename_i ag
  cases h;exact qb (f:=.mY) (hx 0 _ rfl) ai
 ·cases h
theorem zfe{tp gN:TypeId}{j:TypeInfo}(w:World)(a:Addr)(ak:P.underlying tp=some (.pointer gN))(zff:P.info? gN=some j):(Op.equal tp (.pointer (some a)) (.pointer (some a))).run P w= .ok true w:=by
 have h: ∀d:Nat,(Op.equalIn (d+1) tp (.pointer (some a)) (.pointer (some a))).run P w= .ok true w:=fun d=>by
  simp[Op.equalIn,run_underlying ak,sizeOf,typeInfo,zff,run_sameAddr_same]
 exact h 9999
theorem eq_nil{tp gN:TypeId}(w:World)(q:Option Addr)(ak:P.underlying tp=some (.pointer gN)):(Op.equal tp (.pointer none) (.pointer q)).run P w= .ok q.isNone w:=by
 have h: ∀d:Nat,(Op.equalIn (d+1) tp (.pointer none) (.pointer q)).run P w= .ok q.isNone w:=fun d=>by
  cases q<;>simp[Op.equalIn,run_underlying ak]
 exact h 9999
theorem Ed{s:aU}{op:BinOp}{cF ty:TypeId}{x y:Operand}{b c:Bool}(ao:o.op= .binOp op cF x y ty)(aK:D6 P cF=true)(ad:LO op=some b)
 (h: ∀E a w β ro,df E G s a w β ro→∃p q,a.eval x= .pointer p∧a.eval y= .pointer q∧((q=none∧c=p.isNone)∨(p=none∧c=q.isNone)∨(∃c8,p=some c8∧q=some c8∧c=true))):cX P G o s (.aw (.v (.bool (bif b then c else !c)))):=
 fun E a w β ro ag=>by
  obtain⟨gN,i,hu,hi,bY⟩:=zfd aK;obtain⟨p,q,aa,ae,au⟩:=h E a w β ro ag;refine⟨.bool (bif b then c else !c),?_,.fG rfl⟩
  have zfg:P.underlying cF=some (.pointer (P.pointee cF)):=by rw[hu];simp[Program.pointee,hu]
  have heq:(Op.equal cF (.pointer p) (.pointer q)).run P w= .ok c w:=by
   rcases au with⟨rfl,rfl⟩|⟨rfl,rfl⟩|⟨c8,rfl,rfl,rfl⟩
   ·exact run_equal_pointer_nil w cF p zfg
   ·exact eq_nil w q hu
   ·exact zfe w c8 hu hi
  unfold LO at ad
  split at ad
  ·cases ad
   have:(binOp .eql cF (.pointer p) (.pointer q)).run P w= .ok (.bool c) w:=by
    simp only[binOp];simp[heq]
   simp[execOp,ao,aa,ae,eqGuard_at_pointer,this]
  ·cases ad
   have:(binOp .neq cF (.pointer p) (.pointer q)).run P w= .ok (.bool (!c)) w:=by
    simp only[binOp];simp[heq]
   simp[execOp,ao,aa,ae,eqGuard_at_pointer,this]
  ·cases ad
theorem Al{E:Entry}{s:aU}{a:Act}{w:World}{β:Nat→Value}{ro:Nat→Prop}{x:Operand}(ag:df E G s a w β ro)(hx:aM G s x= .aw (.v (.pointer none))):a.eval x= .pointer none:=ag.ee hx
theorem sO{E:Entry}{s:aU}{a:Act}{w:World}{β:Nat→Value}{ro:Nat→Prop}{x:Operand}{id off:Nat}{t:TypeId}{cs:List aF}(ag:df E G s a w β ro)(hx:aM G s x= .ptr id off)(ah:aG s.heap id=some (.box t cs)):
 ∃b,β id= .pointer (some ⟨b,0,none⟩)∧a.eval x= .pointer (some ⟨b,off,none⟩):=by
 have h:=ag.eval x
 rw[hx]at h
 generalize hc:a.eval x=c at h
 cases h with
 |ptr _ _ _ ar ak=>exact ak _ _ ah
theorem zfh{op:BinOp}{cF ty:TypeId}{x y:Operand}{r:dy}(ao:o.op= .binOp op cF x y ty)(h:LP P S op cF (S.a8 N x) (S.a8 N y)=some r):ie P G N B M o S r:=fun e hf hx hn=>by
 unfold LP at h
 split at h
 rotate_left
 ·cases h
 rename_i b aK ad
 split at h
 ·rename_i aa ae
  cases h
  have:=Ed (G:=G) (s:=S.den G N B e) (c:=true) ao aK ad fun E a w β ro ag=>⟨none,none,Al ag (by rw[bM hf,aa];rfl),Al ag (by rw[bM hf,ae];rfl),.inl ⟨rfl,rfl⟩⟩
  cases b<;>exact this
 ·rename_i i q j q' aa ae
  split at h
  ·rename_i hc
   cases h;simp only[Bool.and_eq_true]at hc;obtain⟨⟨aY,bW⟩,cK⟩:=hc
   have aY:=Nat.eq_of_beq_eq_true aY
   have bW:=Nat.eq_of_beq_eq_true bW
   subst aY bW;obtain⟨bt,cs,ah⟩:=LZ (G:=G) (N:=N) (B:=B) (e:=e) cK
   have:=Ed (G:=G) (s:=S.den G N B e) (c:=true) ao aK ad fun E a w β ro ag=>by
    obtain⟨fY,g1,g2⟩:=sO ag (by rw[bM hf,aa];rfl) ah
    obtain⟨hr,g3,g4⟩:=sO ag (by rw[bM hf,ae];rfl) ah
    rw[g1]at g3
    cases g3
    exact⟨_,_,g2,g4,.inr (.inr ⟨_,rfl,rfl,rfl⟩)⟩
   cases b<;>exact this
  ·cases h
 ·rename_i g i off aa ae
  split at h
  ·rename_i hc
   obtain⟨bt,cs,ah⟩:=LZ (G:=G) (N:=N) (B:=B) (e:=e) hc;refine Tf h hx ?_
   have:=Ed (G:=G) (s:=S.den G N B e) (c:=!(g.aC e .bool)) ao aK ad fun E a w β ro ag=>by
    have Ee:a.eval y= .pointer none:=Al ag (by rw[bM hf,ae];rfl)
    have hd:aM G (S.den G N B e) x=(ab.fl g (some i) off).den G e:=by rw[bM hf,aa]
    simp only[ab.den]at hd
    cases sP:g.aC e .bool with
    |true=>
     rw[sP]at hd;obtain⟨fY,g1,g2⟩:=sO ag hd ah;exact⟨_,_,g2,Ee,.inl ⟨rfl,rfl⟩⟩
    |false=>
     rw[sP]at hd;exact⟨_,_,Al ag hd,Ee,.inl ⟨rfl,rfl⟩⟩
   cases b<;>simpa using this
  ·cases h
 ·rename_i g i q j q' aa ae
  split at h
  ·rename_i hc
   simp only[Bool.and_eq_true]at hc;obtain⟨⟨aY,bW⟩,cK⟩:=hc
   have aY:=Nat.eq_of_beq_eq_true aY
   have bW:=Nat.eq_of_beq_eq_true bW
   subst aY bW;obtain⟨bt,cs,ah⟩:=LZ (G:=G) (N:=N) (B:=B) (e:=e) cK;refine Tf h hx ?_
   refine Ed (G:=G) (s:=S.den G N B e) (c:=g.aC e .bool) ao aK ad fun E a w β ro ag=>?_
   obtain⟨hr,g3,g4⟩:=sO ag (by rw[bM hf,ae];rfl) ah
   have hd:aM G (S.den G N B e) x=(ab.fl g (some i) q).den G e:=by rw[bM hf,aa]
   simp only[ab.den]at hd
   cases sP:g.aC e .bool with
   |true=>
    rw[sP]at hd;obtain⟨fY,g1,g2⟩:=sO ag hd ah;rw[g1]at g3
    cases g3
    exact⟨_,_,g2,g4,.inr (.inr ⟨_,rfl,rfl,rfl⟩)⟩
   |false=>
    rw[sP]at hd;exact⟨_,_,Al ag hd,g4,.inr (.inl ⟨rfl,rfl⟩)⟩
  ·cases h
 ·cases h
theorem Tg{E:Entry}{s:aU}{a:Act}{w:World}{β:Nat→Value}{ro:Nat→Prop}{id off b:Nat}{t:TypeId}{cs:List aF}(ag:df E G s a w β ro)(ah:aG s.heap id=some (.box t cs))(ad:β id= .pointer (some ⟨b,0,none⟩))(ar:off<cs.length):
 ∃arr v,w.heap[b]? =some (.cells arr t (0,0))∧arr.size=cs.length∧w.cell? ⟨b,off,none⟩=some v:=by
 have dr:=ag.heap.dh id _ ah
 cases dr with
 |box _ _ b' arr aa ae au aW=>
  rw[ad]at aa;simp only[Value.pointer.injEq,Option.some.injEq,Addr.mk.injEq,and_true]at aa;subst aa;refine⟨arr,arr[off]'(by omega),ae,au,?_⟩
  have bR:off<arr.size:=by omega
  simp[World.cell?,ae,bR]
theorem zfi{src dst:TypeId}{x:Operand}{r:dy}(ao:o.op= .convert src dst x)(h:LQ P S src dst (S.a8 N x)=some r):ie P G N B M o S r:=fun e hf hx hn=>by
 unfold LQ at h
 split at h
 rotate_left
 ·cases h
 rename_i id off ax
 have hd:aM G (S.den G N B e) x= .ptr id off:=by rw[bM hf,ax];rfl
 split at h
 ·rename_i bt l t ah ai p2
  split at h
  ·rename_i aS bR
   cases h;rw[ax]
   have bk:aG (S.den G N B e).heap id=some (.box bt (ab.bX G e l)):=by simp only[aq.den,eh,ah,Option.map_some,bK.den]
   intro E a w β ro ag;obtain⟨b,ad,he⟩:=sO ag hd bk;obtain⟨arr,v,_,_,hc⟩:=Tg (off:=off) ag bk ad (by rw[lZ];exact fb bR)
   refine⟨.pointer (some ⟨b,off,none⟩),?_,by have:=ag.eval x;rw[hd,he]at this;exact this⟩
   simp only[execOp,ao,he,Sem.run_bind,run_convert_to_unsafe ai p2 aS hc,Result.andThen_ok,Sem.run_pure]
  ·cases h
 ·rename_i bt l u ah ai p2
  split at h
  ·rename_i xe bR
   cases h;rw[ax]
   have bk:aG (S.den G N B e).heap id=some (.box bt (ab.bX G e l)):=by simp only[aq.den,eh,ah,Option.map_some,bK.den]
   intro E a w β ro ag;obtain⟨b,ad,he⟩:=sO ag hd bk;obtain⟨arr,v,e1,bY,hc⟩:=Tg (off:=off) ag bk ad (by rw[lZ];exact fb bR)
   refine⟨.pointer (some ⟨b,off,none⟩),?_,by have:=ag.eval x;rw[hd,he]at this;exact this⟩
   rw[lZ]at bY
   have Th:w.shape? b=some (bt,l.length):=by simp[World.shape?,e1,bY]
   have zfj:(convert src dst (.pointer (some ⟨b,off,none⟩))).run P w= .ok (.pointer (some ⟨b,off,none⟩)) w:=by
    rw[Bool.and_eq_true]at xe;obtain⟨i,hi⟩:=Option.isSome_iff_exists.1 xe.2
    have xe:=xe.1
    by_cases aS:i.size=0
    ·simp[convert,Conv.unsafePointer,Conv.seenAt,viewAt,variablesAt,sizeOf,typeInfo,run_underlying ai,run_underlying p2,hi,aS,Th,xe,Result.andThen]
    ·simp[convert,Conv.unsafePointer,Conv.seenAt,viewAt,variablesAt,sizeOf,typeInfo,run_underlying ai,run_underlying p2,hi,aS,Th,xe,Result.andThen]
   simp only[execOp,ao,he,Sem.run_bind,zfj,Result.andThen_ok,Sem.run_pure]
  ·cases h
 ·cases h
theorem zfk{t:TypeId}{x:Operand}{r:dy}(ao:o.op= .slice t x none none none)(h:LR P S t (S.a8 N x)=some r):ie P G N B M o S r:=fun e hf hx hn=>by
 unfold LR at h
 split at h
 ·rename_i id n el ax aK
  split at h
  ·rename_i bt l ah hc
   cases h;simp only[Bool.and_eq_true]at hc
   have jq:=fb hc.1
   obtain⟨zjL,mK⟩:=Option.isSome_iff_exists.1 hc.2
   have hd:aM G (S.den G N B e) x= .ptr id 0:=by rw[bM hf,ax];rfl
   have bk:aG (S.den G N B e).heap id=some (.box bt (ab.bX G e l)):=by simp only[aq.den,eh,ah,Option.map_some,bK.den]
   intro E a w β ro ag;obtain⟨b,ad,he⟩:=sO ag hd bk
   have dU:=ag.eval x
   rw[hd,he]at dU
   have bR:id<(S.den G N B e).next:=by cases dU with|ptr _ _ _ ar _=>exact ar
   refine⟨.slice (some ⟨b,0,none⟩) n n,?_,.dC _ _ _ bR fun _ _ _=>⟨b,ad,rfl⟩⟩
   have cb: ¬n=0:=by omega
   simp[execOp,ao,he,Instr.sliceAt,run_underlying aK,Instr.sureAddr,Instr.sliceBounds,sizeOf,typeInfo,mK,cb,addLit,Result.andThen]
  ·cases h
 ·cases h
theorem Ti{e:Env}: ∀{l:List ab},mi e .u8 (l.map fun x=>.bO [x])=l.map fun x=>x.aC e (.int .u8)
 |[]=>rfl
 |x::r=>by
  simp only[List.map_cons,mi,Ti (l:=r)];rfl
theorem Tj{e:Env}: ∀{l:List ab},l.all (ab.ew (.int .u8))=true→ab.bX G e l=(l.map fun x=>x.aC e (.int .u8)).map fun n=>aF.aw (.v (.int .u8 n))
 |[],_=>rfl
 |x::r,h=>by
  simp only[List.all_cons,Bool.and_eq_true]at h;simp only[ab.bX,List.map_cons,DJ h.1,Tj h.2]
theorem zfl{src dst:TypeId}{x:Operand}{r:dy}(ao:o.op= .convert src dst x)(h:LS P S src dst (S.a8 N x)=some r):ie P G N B M o S r:=fun e hf hx hn=>by
 unfold LS at h
 split at h
 ·rename_i id n el ax ai
  split at h
  ·rename_i bt l ah hu p2
   split at h
   ·rename_i hc
    cases h;simp only[Bool.and_eq_true]at hc
    have jq:=Nat.eq_of_beq_eq_true hc.1
    have aP:=hx 0 _ rfl
    have aa:=hx 1 _ rfl
    simp only[Nat.add_zero,bQ.den,gI.den,gI.a,gI.c]at aP aa
    have ar:(ab.aQ (.li .u8) S.k).aC e (.li .u8)=l.map fun x=>x.aC e (.int .u8):=by
     simp only[ab.aC,ab.fu,ab.dyn,aP,cI];exact Ti
    rw[ar]at aa;simp only[ab.den,aa,cI,fJ,j5];generalize hm:(l.map fun x=>x.aC e (.int .u8))=m
    have m5:m.length=n:=by rw[←hm,List.length_map,jq]
    have hd:aM G (S.den G N B e) x= .dC id n:=by rw[bM hf,ax];rfl
    have bk:aG (S.den G N B e).heap id=some (.box bt (m.map fun n=>.aw (.v (.int .u8 n)))):=by
     simp only[aq.den,eh,ah,Option.map_some,bK.den];rw[Tj hc.2,hm]
    intro E a w β ro ag
    have dU:=ag.eval x
    rw[hd]at dU;generalize iT:a.eval x=c at dU
    cases dU with
    |dC _ _ _ ar ak=>
     obtain⟨b,ad,rfl⟩:=ak _ _ bk
     have e1: ∀(j:Nat) (v:Value),(m.map (Value.int .u8))[j]? =some v→w.cell? ((⟨b,0,none⟩:Addr).add j)=some v:=fun j v af=>by
      have dr:=ag.heap.dh id _ bk
      cases dr with
      |box _ _ b' arr g1 g2 g3 g4=>
       rw[ad]at g1;simp only[Value.pointer.injEq,Option.some.injEq,Addr.mk.injEq,and_true]at g1;subst g1;rw[List.getElem?_map]at af
       obtain⟨z,aS,rfl⟩:=Option.map_eq_some_iff.1 af
       have bR:j<arr.size:=by rw[g3,List.length_map];exact(List.getElem?_eq_some_iff.1 aS).1
       have Ef:=g4 j (.aw (.v (.int .u8 z))) (by rw[List.getElem?_map,aS];rfl)
       rw[Array.getD_eq_getD_getElem?,Array.getElem?_eq_getElem bR,Option.getD_some]at Ef
       have zfm:arr[j]= .int .u8 z:=bF.val Ef
       rw[addLit,Nat.zero_add];simp[World.cell?,g2,bR,zfm]
     have Dk:=run_loadCells_list (P:=P) (w:=w) ⟨b,0,none⟩ (m.map (Value.int .u8)) e1
     refine⟨.string (bytesOf m),?_,.fG rfl⟩
     have cy:(convert src dst (.slice (some ⟨b,0,none⟩) n n)).run P w= .ok (.string (bytesOf m)) w:=by
      rw[run_convert_bytes_string w src dst el (some ⟨b,0,none⟩) n n ai hu p2,←m5];exact run_bytesToString w ⟨b,0,none⟩ m.length m.length m (by simpa using Dk)
     simp[execOp,ao,iT,cy]
   ·cases h
  ·cases h
 ·cases h
theorem Eg{G:bd}{e:Env}: ∀{l:List ab} {rs:List a6},o4 l=some rs→ab.bX G e l=(fX e rs l).map fun d=>.aw d.aw
 |[],_,h=>by cases h;rfl
 |x::r,_,h=>by
  simp only[o4]at h
  split at h
  ·rename_i t l aa ae
   cases h;simp only[ab.bX,gd aa,Eg ae,fX,List.map_cons];rfl
  ·cases h
theorem Tk{t:TypeId}(h:D8 P t=false): ∃d,P.underlying t=some d∧∀m,d≠ .interface m:=by
 unfold D8 at h
 split at h
 ·cases h
 ·cases h
 ·rename_i d hd hn
  cases hu:P.underlying t with
  |none=>exact absurd hu hn
  |some d=>exact⟨d,rfl,fun m e=>hd m (by rw[hu,e])⟩
theorem zfn{w:World}{ro:Nat→Prop}{σ:Heap}{β:Nat→Value}{M:Nat}{t:TypeId}{ys:List bb}{c:Value}(h:bF w ro σ β M (.agg (ys.map .aw)) c):cZ w ro (.er t true ys) (.iface t c):=by
 generalize aS:ys.map aF.aw=zs at h
 cases h with
 |agg _ arr aa ae=>
  subst aS;refine .er t true ys _ (fun i=>arr.getD i undef) ⟨arr,rfl,by rw[aa,List.length_map],fun i _=>rfl⟩ fun i x hx=>?_
  have:=ae i (.aw x) (by rw[List.getElem?_map,hx];rfl)
  cases this with
  |aw _ _ q=>exact q
theorem Tl{w:World}{ro:Nat→Prop}{σ:Heap}{β:Nat→Value}{M:Nat}{t:TypeId}{ys:List bb}{c:Value}(h:cZ w ro (.er t true ys) (.iface t c)):bF w ro σ β M (.agg (ys.map .aw)) c:=by
 cases h with
 |er _ _ _ _ p aa ae=>
  obtain⟨arr,rfl,au,aW⟩:=aa;refine .agg _ arr (by rw[au,List.length_map]) fun j x af=>?_
  rw[List.getElem?_map]at af
  obtain⟨y,ay,rfl⟩:=Option.map_eq_some_iff.1 af
  have ar:=(List.getElem?_eq_some_iff.1 ay).1
  rw[aW j ar];exact .aw _ _ (ae j y ay)
theorem zfo{t:TypeId}{x:Operand}{r:dy}(ao:o.op= .makeInterface t x)(h:LU P t (S.a8 N x)=some r):ie P G N B M o S r:=fun e hf hx hn=>by
 unfold LU at h
 split at h
 ·cases h
 rename_i hi
 obtain⟨d,hd,eS⟩:=Tk hi
 have cy: ∀(v:Value) (w:World),(Instr.makeInterface t v).run P w= .ok (.iface t v) w:=fun v w=>by
  unfold Instr.makeInterface
  cases d<;>first|exact absurd rfl (eS _)|simp[run_underlying hd,Result.andThen]
 split at h
 ·rename_i l ax
  split at h
  ·rename_i rs gl
   cases h;intro E a w β ro ag
   have dU:=ag.eval x
   rw[bM hf,ax]at dU;simp only[ab.den,Eg gl]at dU;rw[show((fX e rs l).map fun d=>aF.aw d.aw)=((fX e rs l).map aI.aw).map .aw by rw[List.map_map];rfl]at dU
   exact⟨_,by simp[execOp,ao,cy],.aw _ _ (zfn dU)⟩
  ·cases h
 ·rename_i Eh
  split at h
  ·rename_i rt Aj
   cases h;intro E a w β ro ag
   have dU:=ag.eval x
   rw[bM hf,gd Aj]at dU;refine⟨_,by simp[execOp,ao,cy];rfl,?_⟩
   cases dU with
   |aw _ _ q=>
    refine .aw _ _ (.er t false _ _ (fun _=>a.eval x) ⟨rfl,rfl⟩ fun i y ay=>?_)
    cases i with
    |zero=>
     simp only[fX,List.map_cons,List.map_nil,List.getElem?_cons_zero,Option.some.injEq]at ay
     subst ay;exact q
    |succ i=>simp[fX]at ay
  ·cases h
theorem zfp{e:Env}{x:Operand}{u:TypeId}{bO:Bool}{rs:List a6}{l:List ab}{y:ab}(hf: ∀c∈S.g,c.ok e)(ax:S.a8 N x= .er u bO rs l)(ay:rp bO l=some y)(gl:o4 l=some rs){E:Entry}{a:Act}{w:World}{β:Nat→Value}{ro:Nat→Prop}(ag:df E G (S.den G N B e) a w β ro):
 ∃v,a.eval x= .iface u v∧bF w ro (S.den G N B e).heap β (S.den G N B e).next (y.den G e) v:=by
 have dU:=ag.eval x
 rw[bM hf,ax]at dU
 simp only[ab.den]at dU
 generalize hc:a.eval x=oO at dU
 cases dU with
 |aw _ _ q=>
  cases q with
  |er _ _ _ v p aa ae=>
   refine⟨v,rfl,?_⟩
   unfold rp at ay
   split at ay
   ·cases ay
    have:=Tl (σ:=(S.den G N B e).heap) (β:=β) (M:=(S.den G N B e).next) (.er u _ _ v p aa ae)
    rw[List.map_map]at this;simp only[ab.den,Eg gl];exact this
   ·rename_i an
    cases ay;simp only[o4]at gl
    split at gl
    ·rename_i zfq p7 so vA
     cases vA
     cases gl;rw[gd so];obtain⟨_,rfl⟩:=aa;exact .aw _ _ (ae 0 _ rfl)
    ·cases gl
   ·cases ay
theorem zfr{k:Nat}{bO:Bool}{l:List ab}{y:ab}(h:ab.cV k l=true)(ay:rp bO l=some y):y.lt k=true:=by
 unfold rp at ay
 split at ay
 ·cases ay;exact h
 ·cases ay;simp only[ab.cV,Bool.and_true]at h;exact h
 ·cases ay
theorem zfs{x:Operand}{sQ t:TypeId}{c:Bool}{r:dy}(ao:o.op= .typeAssert x sQ t c)(h:LW P t (S.a8 N x) c=some r):ie P G N B M o S r:=fun e hf hx hn=>by
 unfold LW at h
 split at h
 rotate_left
 ·cases h
 rename_i u bO rs l ax hi
 obtain⟨d,hd,eS⟩:=Tk hi
 have aG: ∀{E:Entry} {a:Act} {w:World} {β:Nat→Value} {ro:Nat→Prop},df E G (S.den G N B e) a w β ro→∃v,a.eval x= .iface u v∧cZ w ro (.er u bO ((fX e rs l).map aI.aw)) (.iface u v):=fun {E a w β ro} ag=>by
  have dU:=ag.eval x
  rw[bM hf,ax]at dU;simp only[ab.den]at dU;generalize hc:a.eval x=oO at dU
  cases dU with
  |aw _ _ q=>
   cases q with
   |er _ _ _ v p aa ae=>exact⟨v,rfl,.er _ _ _ v p aa ae⟩
 have sr: ∀{y:ab} {w:World} {β:Nat→Value} {ro:Nat→Prop} {v:Value},rp bO l=some y→o4 l=some rs→cZ w ro (.er u bO ((fX e rs l).map aI.aw)) (.iface u v)→bF w ro (S.den G N B e).heap β (S.den G N B e).next (y.den G e) v:=fun {y w β ro v} ay gl q=>by
  unfold rp at ay
  split at ay
  ·cases ay
   have:=Tl (σ:=(S.den G N B e).heap) (β:=β) (M:=(S.den G N B e).next) q
   rw[List.map_map]at this;simp only[ab.den,Eg gl];exact this
  ·rename_i an
   cases ay;simp only[o4]at gl
   split at gl
   ·rename_i zfq p7 aa ae
    cases ae;cases gl;rw[gd aa]
    cases q with
    |er _ _ _ _ p g1 g2=>
     obtain⟨_,rfl⟩:=g1;exact .aw _ _ (g2 0 _ rfl)
   ·cases gl
  ·cases ay
 have Tm: ∀(v:Value) (w:World),u=t→(Instr.typeAssert (.iface u v) sQ t c).run P w= .ok (match c with|true=>.tuple #[v,.bool true]|false=>v) w:=fun v w uQ=>by
  unfold Instr.typeAssert
  cases d<;>first|exact absurd rfl (eS _)|(cases c<;>simp[run_underlying hd,Result.andThen,uQ])
 split at h
 ·rename_i ad _
  have uQ:=Nat.eq_of_beq_eq_true ad
  split at h
  ·rename_i y ay gl
   cases h;intro E a w β ro ag;obtain⟨v,dU,q⟩:=aG ag;refine⟨.tuple #[v,.bool true],by simp[execOp,ao,dU,Tm v w uQ],.tuple _ _ rfl fun j z af=>?_⟩
   match j,af with
   |0,af=>simp[ab.den,ab.bX]at af;subst af;exact sr ay (of_decide_eq_true gl) q
   |1,af=>simp[ab.den,ab.bX]at af;subst af;exact .fG rfl
   |j+2,af=>simp[ab.den,ab.bX]at af
  ·cases h
 ·rename_i ad _
  have uQ:=Nat.eq_of_beq_eq_true ad
  split at h
  ·rename_i y ay gl
   cases h;intro E a w β ro ag;obtain⟨v,dU,q⟩:=aG ag;exact⟨v,by simp[execOp,ao,dU,Tm v w uQ],sr ay (of_decide_eq_true gl) q⟩
  ·cases h
 ·rename_i ad _
  have uQ: ¬u=t:=fun e=>by subst e;rw[show Nat.beq u u=true from Nat.beq_refl u]at ad;cases ad
  split at h
  ·rename_i z aS
   split at h
   ·rename_i mX
    cases h;intro E a w β ro ag;obtain⟨v,dU,q⟩:=aG ag
    have DB:(zeroValue t).run P w= .ok z w:=by
     cases hi:P.info? t with
     |none=>rw[hi]at aS;cases aS
     |some i=>
      rw[hi]at aS
      have oQ:i.zero=some z:=aS
      simp[zeroValue,typeInfo,hi,oQ]
    have cy:(Instr.typeAssert (.iface u v) sQ t true).run P w= .ok (.tuple #[z,.bool false]) w:=by
     unfold Instr.typeAssert
     cases d<;>first|exact absurd rfl (eS _)|simp[run_underlying hd,Result.andThen,uQ,DB]
    have zft:(LV z).den G e=mW z:=by
     clear cy DB mX aS
     cases z with
     |agg a=>
      simp only[LV,mW,ab.den,fa,List.map_map];rfl
     |_=>rfl
    refine⟨.tuple #[z,.bool false],by simp[execOp,ao,dU,cy],.tuple _ _ rfl fun j y af=>?_⟩
    match j,af with
    |0,af=>simp[ab.den,ab.bX]at af;subst af;rw[zft];exact K3 mX
    |1,af=>simp[ab.den,ab.bX]at af;subst af;exact .fG rfl
    |j+2,af=>simp[ab.den,ab.bX]at af
   ·cases h
  ·cases h
 ·cases h
theorem uR{r:dy}(h:qd P N S o=some r):ie P G N B M o S r:=by
 unfold qd at h
 split at h
 ·rename_i x ao
  cases h;exact .nil fun e hf=>by have:=QV (P:=P) (G:=G) (s:=S.den G N B e) x ao;rw[bM hf]at this;exact this
 ·rename_i x ao
  cases h;exact .nil fun e hf=>by have:=QW (P:=P) (G:=G) (s:=S.den G N B e) x ao;rw[bM hf]at this;exact this
 ·exact zeZ (by assumption) h
 ·rename_i x i ao
  split at h
  ·rename_i l ar
   split at h
   ·rename_i v ax
    cases h;exact .nil fun e hf=>Rt x i ao (by rw[bM hf,ar];rfl) (Ea ax)
   ·cases h
  ·cases h
 ·rename_i x ao
  split at h
  ·rename_i ak
   cases h
   exact .nil fun e hf=>by
    have:=Q1 (P:=P) (G:=G) (s:=S.den G N B e) x ao (by rw[bM hf];exact uM ak)
    rw[bM hf]at this;exact this
  ·cases h
 ·rename_i t x f ao
  split at h
  ·rename_i k aj ak
   split at h
   ·rename_i p ai
    cases h
    exact .nil fun e hf=>by
     have:=Q0 (P:=P) (G:=G) (s:=S.den G N B e) t x f ao aj (by rw[bM hf];exact uM ak)
     rw[bM hf,Ag ai]at this;exact this
   ·cases h
  ·cases h
 ·exact ze6 (by assumption) h
 ·exact zfb (by assumption) h
 ·exact ze5 (by assumption) h
 ·exact ze0 (by assumption) h
 ·split at h
  ·rename_i aN
   cases h;exact zeR (by assumption) aN
  ·exact zfh (by assumption) h
 ·exact ze9 (by assumption) h
 ·split at h
  ·rename_i aN
   cases h;exact ze8 (by assumption) aN
  ·split at h
   ·rename_i aN
    cases h;exact zfi (by assumption) aN
   ·exact zfl (by assumption) h
 ·exact zfa (by assumption) h
 ·rename_i f p q ao
  cases h
  exact .nil fun e hf=>by
   have:=zdV (P:=P) (G:=G) (s:=S.den G N B e) ao
   simp only[ab.den];rw[fa,fa,List.map_map,List.map_map]
   have aa: ∀l:List Operand,l.map (aM G (S.den G N B e))=l.map (ab.den G e∘S.a8 N):=fun l=>List.map_congr_left fun x _=>bM hf x
   rw[aa,aa]at this;exact this
 ·exact zfo (by assumption) h
 ·exact zfs (by assumption) h
 ·exact zeW (by assumption) h
 ·split at h
  ·rename_i aN
   cases h;exact Te (by assumption) aN
  ·exact zfk (by assumption) h
 ·exact Te (by assumption) h
 ·rename_i c ao
  split at h
  ·rename_i x t hc hx aK
   obtain⟨callee,args,ts⟩:=c;simp only at hc hx aK;rw[hc,Sn hx,Sn aK]at ao;exact ze7 ao h
  ·rename_i b x y hc hx
   obtain⟨callee,args,ts⟩:=c;simp only at hc hx;rw[hc,zM hx]at ao;exact zfc ao h
  ·rename_i f hc
   obtain⟨callee,args,ts⟩:=c;simp only at hc;rw[hc]at ao;exact ze4 ao rfl h
  ·cases h
 ·cases h
end
end Go.aO
