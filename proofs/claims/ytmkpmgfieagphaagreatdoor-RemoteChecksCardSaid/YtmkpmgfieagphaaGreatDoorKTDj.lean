/- TD, part H: operations that give values, computed. Conditions: none. -/
import Derived.Test.YtmkpmgfieagphaaGreatDoorKTDg
import Derived.Laws.Externs
import Derived.Laws.LoneSync
import Derived.LaidEqlPtr
namespace Go.aK
open Go
structure dr where
 xs:List bJ
 ns:List fe
 v:ab
def ab.rt:ab→Option aU
 | .aT r _=>match r.one with
  |true=>some r
  |false=>none
 | .fd _ _ _ r=>match r.one with
  |true=>some r
  |false=>none
 | .cs (.int k _)=>some (.int k)
 | .cs (.bool _)=>some .bool
 | .cs (.string _)=>some .str
 |_=>none
theorem AA(r:aU):hR r r=true:=decide_eq_true rfl
theorem Lf{x:ab}{r:aU}(h:x.rt=some r):x.ey r=true∧x.isNil=false:=by
 unfold ab.rt at h
 split at h
 ·split at h
  ·rename_i aa;cases h;exact⟨by simp[ab.ey,AA,aa],rfl⟩
  ·cases h
 ·split at h
  ·rename_i aa;cases h;exact⟨by simp[ab.ey,AA,aa],rfl⟩
  ·cases h
 ·cases h;exact⟨by simp[ab.ey,AA],rfl⟩
 ·cases h;exact⟨by simp[ab.ey,AA],rfl⟩
 ·cases h;exact⟨by simp[ab.ey,AA],rfl⟩
 ·cases h
theorem fX{G:a7}{e:Env}{x:ab}{r:aU}(h:x.rt=some r):x.den G e= .av (fG r (x.az e r)):=DY (Lf h).1 (Lf h).2
theorem jw{G:a7}{e:Env}{x:ab}{k:IntKind}(h:x.rt=some (.int k)):x.den G e= .av (.v (.int k (x.az e (.int k)))):=fX h
theorem lS{e:Env}{x:ab}{k:IntKind}(h:x.rt=some (.int k)):cl (x.dyn e)=x.az e (.int k):=by
 obtain⟨aa,ae⟩:=Lf h
 unfold ab.az
 rw[SF ae]
 cases x with
 |aT q i=>
  simp only[ab.ey,Bool.and_eq_true]at aa
  cases hr aa.1
  simp only[ab.dyn,cA,cl]
 |fd c i j q=>
  simp only[ab.ey,Bool.and_eq_true]at aa
  cases hr aa.1
  simp only[ab.dyn,cA,cl]
 |cs v=>
  cases v with
  |int bj n=>
   cases hr aa
   simp only[ab.dyn,cA,cl]
  |bool b=>cases hr aa
  |string s=>cases hr aa
  |slice a n c=>unfold ab.ey at aa;split at aa<;>first|cases aa|simp_all
  |_=>cases aa
 |_=>cases aa
def isLen(f:gF)(x:ab)(n:Nat):List b4→Bool
 |[]=>false
 | .d1 i g y::r=>match Nat.beq i n&&(decide (g=f)&&Av y x)with
  |true=>true
  |false=>isLen f x n r
 |_::r=>isLen f x n r
theorem xw{f:gF}{x:ab}{n:Nat}{e:Env}: ∀{l:List b4},isLen f x n l=true→(∀c∈l,c.ok e)→Env.at e n=⟨f.c,f.den (x.az e f.a)⟩
 | .d1 i g y::r,h,hc=>by
  simp only[isLen]at h
  split at h
  ·rename_i ad
   simp only[Bool.and_eq_true,decide_eq_true_eq]at ad
   have:=hc (.d1 i g y) (by simp)
   simp only[b4.ok]at this;rw[←Nat.eq_of_beq_eq_true ad.1,this,ad.2.1,K9 ad.2.2]
  ·exact xw h fun c hm=>hc c (by simp[hm])
 | .d2 _ _ _ _::r,h,hc=>xw (l:=r) h fun c hm=>hc c (by simp[hm])
 | .rg _ _::r,h,hc=>xw (l:=r) h fun c hm=>hc c (by simp[hm])
 | .dT _ _::r,h,hc=>xw (l:=r) h fun c hm=>hc c (by simp[hm])
def SY(f:gF)(x:ab)(i:Nat)(all:List b4):b4→Bool
 | .rg j (.aT (.int .i64) n)=>Nat.beq i j&&isLen f x n all
 |_=>false
def Ed(f:gF)(x:ab)(i:Nat)(all:List b4):List b4→Bool
 |[]=>false
 |c::r=>match SY f x i all c with
  |true=>true
  |false=>Ed f x i all r
theorem Lg{f:gF}{x:ab}{i:Nat}{e:Env}{all:List b4}{L:Int}(fK: ∀n,isLen f x n all=true→Env.at e n=⟨.int .i64,L⟩): ∀{l:List b4},Ed f x i all l=true→(∀c∈l,c.ok e)→0≤cl (Env.at e i)∧cl (Env.at e i)<L
 |c::r,h,hc=>by
  simp only[Ed]at h
  split at h
  ·rename_i ad
   unfold SY at ad
   split at ad
   ·rename_i j n
    simp only[Bool.and_eq_true]at ad
    have aa:=hc (.rg j (.aT (.int .i64) n)) (by simp)
    simp only[b4.ok,ab.dyn,fK n ad.2,cA,cl]at aa;rw[←Nat.eq_of_beq_eq_true ad.1]at aa;exact aa
   ·cases ad
  ·exact Lg fK h fun c hm=>hc c (by simp[hm])
def AB(len j:Nat):List b4→Bool
 | .rg i (.cs (.int _ (.ofNat m)))::r=>(Nat.beq i j&&Nat.ble m len)||AB len j r
 |_::r=>AB len j r
 |[]=>false
theorem Lh{len j:Nat}{e:Env}: ∀{l:List b4},AB len j l=true→(∀c∈l,c.ok e)→0≤cl (Env.at e j)∧cl (Env.at e j)<(len:Int)
 |[],h,_=>by cases h
 |c::r,h,hc=>by
  unfold AB at h
  split at h
  ·rename_i i k m _ heq
   cases heq;simp only[Bool.or_eq_true,Bool.and_eq_true]at h
   rcases h with⟨aa,ae⟩|h
   ·have au:0≤cl (Env.at e i)∧cl (Env.at e i)<(m:Int):=hc (.rg i (.cs (.int k (.ofNat m)))) (by simp)
    rw[←Nat.eq_of_beq_eq_true aa]
    have:=Nat.le_of_ble_eq_true ae
    omega
   ·exact Lh h fun c hm=>hc c (by simp[hm])
  ·rename_i eP _ heq
   cases heq;exact Lh h fun c hm=>hc c (by simp[hm])
  ·rename_i heq;cases heq
def xx(g:List b4)(len:Nat)(i:ab):List fe:=
 match i with
 | .aT (.int _) j=>match AB len j g with
  |true=>[]
  |false=>[.nth len i]
 |_=>[.nth len i]
theorem Ee{M:List aQ}{g:List b4}{len:Nat}{i:ab}{e:Env}(ah: ∀c∈g,c.ok e)(h: ∀n∈xx g len i,n.ok M e):0≤cl (i.dyn e)∧cl (i.dyn e)<(len:Int):=by
 unfold xx at h
 split at h
 ·rename_i k j
  split at h
  ·rename_i ad
   have:=Lh ad ah
   simp only[ab.dyn]
   by_cases ag:(Env.at e j).r= .int k
   ·rw[DL ag];exact this
   ·have aL:cl ⟨.int k,(Env.at e j).as (.int k)⟩=0:=by
     unfold aF.as
     split
     ·rename_i ba _;exact absurd ba ag
     ·rfl
    rw[aL];omega
  ·exact h _ (List.mem_singleton.2 rfl)
 ·exact h _ (List.mem_singleton.2 rfl)
def pr(g:List b4)(f:gF)(q:cC)(x i:ab):List fe:=
 match i with
 | .aT (.int _) j=>match Ed f x j g g with
  |true=>[]
  |false=>[.f2 0 q x i]
 |_=>[.f2 0 q x i]
theorem xy{M:List aQ}{g:List b4}{c:bK}{k:IntKind}{x i:ab}{e:Env}(ah: ∀c∈g,c.ok e)(hi:i.rt=some (.int k))(h: ∀n∈pr g (.iT c) (.kb c k) x i,n.ok M e):
 0≤i.az e (.int k)∧i.az e (.int k)<(List.length (x.az e (.li c)):Int):=by
 unfold pr at h
 split at h
 ·rename_i bj j
  split at h
  ·rename_i ad
   have:=Lg (f:=.iT c) (fun n hn=>xw hn ah) ad ah
   rw[←lS hi];simp only[ab.dyn]
   have aj:bj=k:=by simp only[ab.rt,aU.one]at hi;cases hi;rfl
   subst aj
   by_cases ag:(Env.at e j).r= .int bj
   ·rw[DL ag];exact this
   ·have aL:cl ⟨.int bj,(Env.at e j).as (.int bj)⟩=0:=by
     unfold aF.as
     split
     ·rename_i ba _;exact absurd ba ag
     ·rfl
    rw[aL];exact⟨Int.le_refl _,Int.lt_of_le_of_lt this.1 this.2⟩
  ·exact h _ (List.mem_singleton.2 rfl)
 ·exact h _ (List.mem_singleton.2 rfl)
theorem zeV{M:List aQ}{g:List b4}{k:IntKind}{x i:ab}{e:Env}(ah: ∀c∈g,c.ok e)(hi:i.rt=some (.int k))(h: ∀n∈pr g .n5 (.rQ k) x i,n.ok M e):
 0≤i.az e (.int k)∧i.az e (.int k)<(ByteArray.size (x.az e .str):Int):=by
 unfold pr at h
 split at h
 ·rename_i bj j
  split at h
  ·rename_i ad
   have:=Lg (f:=.n5) (fun n hn=>xw hn ah) ad ah
   rw[←lS hi];simp only[ab.dyn]
   have aj:bj=k:=by simp only[ab.rt,aU.one]at hi;cases hi;rfl
   subst aj
   by_cases ag:(Env.at e j).r= .int bj
   ·rw[DL ag];exact this
   ·have aL:cl ⟨.int bj,(Env.at e j).as (.int bj)⟩=0:=by
     unfold aF.as
     split
     ·rename_i ba _;exact absurd ba ag
     ·rfl
    rw[aL];exact⟨Int.le_refl _,Int.lt_of_le_of_lt this.1 this.2⟩
  ·exact h _ (List.mem_singleton.2 rfl)
 ·exact h _ (List.mem_singleton.2 rfl)
end Go.aK
namespace Go.aK
open Go
def kL(h:List (Nat × bF)):ab→Bool
 | .aT _ _=>true
 | .fd _ _ _ _=>true
 | .cs _=>true
 | .ip _ _ _=>true
 | .fn _ _ _=>true
 | .ed id _=>match c9 h id with
  |some (.di _ _)=>true
  |_=>false
 | .gW id _ _ _=>match c9 h id with
  |some (.di _ _)=>true
  |_=>false
 | .fi _ (some id) _=>match c9 h id with
  |some (.di _ _)=>true
  |_=>false
 | .aN id=>match c9 h id with
  |some (.rw _ _ _)=>true
  |_=>false
 | .gM id _ _=>match c9 h id with
  |some (.rw _ _ _)=>true
  |_=>false
 |_=>false
def vl(S:ao):ab→Option (List ab)
 | .ed id off=>match c9 S.h id with
  |some (.di _ l)=>some (l.drop off)
  |_=>none
 | .ip c i k=>some ((iS c i 0 (eX c)).drop k)
 |_=>none
def qd(P:Program)(t:TypeId)(l:List ab):Option ab:=
 match mh P t with
 |some n=>match Nat.ble n l.length&&Nat.ble 1 n with
  |true=>some (.cg (l.take n))
  |false=>none
 |none=>match scalar P t,l with
  |true,y::_=>some y
  |_,_=>none
def tl(S:ao):ab→Bool
 | .ed id _=>match c9 S.h id with
  |some (.di _ _)=>true
  |_=>false
 | .gW id _ _ _=>match c9 S.h id with
  |some (.di _ _)=>true
  |_=>false
 | .ip _ _ _=>true
 | .gM id _ _=>match c9 S.h id with
  |some (.rw _ _ _)=>true
  |_=>false
 |_=>false
def xz(k:Nat):ab→Option ab
 | .ed id off=>some (.ed id (off+k))
 | .ip c i j=>some (.ip c i (j+k))
 | .gM id x off=>some (.gM id x (off+k))
 | .gW id off x n=>some (.gW id (off+k) x n)
 |_=>none
def rY(place:Nat→Option (Nat × Nat)):List ab→List (Nat × ab)→Option (List ab)
 |l,[]=>some l
 |l,(i,v)::rest=>match place i with
  |some (off,size)=>match Nat.beq v.cells.length size&&Nat.ble (off+size) l.length with
   |true=>rY place (ek l off v.cells) rest
   |false=>none
  |none=>none
section
variable {P:Program} {G:a7} {o:Oper} {N B:Nat} {e:Env} {S:ao} {M:List aQ}
theorem SZ{h:List (Nat × bF)}{x:ab}(hx:kL h x=true):eD (cx G e h) (x.den G e)=true∧cS (x.den G e)=[x.den G e]:=by
 cases x with
 |ed id off=>
  simp only[kL]at hx
  split at hx
  ·rename_i t l ah
   simp[ab.den,eD,eh,ah,bF.den,cS]
  ·cases hx
 |gW id off x n=>
  simp only[kL]at hx
  split at hx
  ·rename_i t l ah
   simp[ab.den,eD,eh,ah,bF.den,cS]
  ·cases hx
 |aN id=>
  simp only[kL]at hx
  split at hx
  ·rename_i t c y ah
   simp[ab.den,eD,eh,ah,bF.den,cS]
  ·cases hx
 |gM id x off=>
  simp only[kL]at hx
  split at hx
  ·rename_i t c y ah
   simp[ab.den,eD,eh,ah,bF.den,cS]
  ·cases hx
 |cg l=>cases hx
 |tp l=>cases hx
 |gY id=>cases hx
 |fI g b x=>cases hx
 |lQ g off=>cases hx
 |top=>cases hx
 |cB k n=>cases hx
 |fi g id off=>
  cases id with
  |none=>cases hx
  |some id=>
   simp only[kL]at hx
   split at hx
   ·rename_i t l ah
    simp only[ab.den]
    cases g.az e .bool<;>simp[eD,eh,ah,bF.den,cS]
   ·cases hx
 |_=>exact⟨rfl,rfl⟩
theorem xA{h:List (Nat × bF)}: ∀{l:List ab},l.all (kL h)=true→(ab.bP G e l).all (eD (cx G e h))=true
 |[],_=>rfl
 |x::r,hx=>by
  simp only[List.all_cons,Bool.and_eq_true]at hx;simp only[ab.bP,List.all_cons,(SZ hx.1).1,xA hx.2,Bool.and_self]
theorem vm{h:List (Nat × bF)}{x:ab}(hx:x.cells.all (kL h)=true):cS (x.den G e)=ab.bP G e x.cells:=by
 cases x with
 |cg l=>rfl
 |_=>
  simp only[ab.cells,List.all_cons,List.all_nil,Bool.and_true]at hx;simp only[(SZ hx).2,ab.cells,ab.bP]
theorem Li(k:Nat)(l:List ab):ab.bP G e (l.drop k)=(ab.bP G e l).drop k:=by rw[e5,e5,List.map_drop]
theorem mc(l:List ab):(ab.bP G e l).length=l.length:=by rw[e5,List.length_map]
theorem AD{p:ab}{l:List ab}(h:vl S p=some l):fo (S.den G N B e).heap (p.den G e)=some (ab.bP G e l):=by
 unfold vl at h
 split at h
 ·split at h
  ·rename_i id off t h1 ah
   cases h;simp only[ao.den,ab.den,fo,eh,ah,Option.map_some,bF.den];rw[e5,e5,List.map_drop]
  ·cases h
 ·rename_i c i k
  cases h;simp only[ab.den,fo,Option.some.injEq];rw[Li,ta,List.map_drop]
 ·cases h
theorem Ht{t:TypeId}{x:Operand}{l:List ab}{v:ab}(an:o.op= .load t x)(hc:fo (S.den G N B e).heap (aI G (S.den G N B e) x)=some (ab.bP G e l))(aw:qd P t l=some v):cP P G o (S.den G N B e) (v.den G e):=by
 unfold qd at aw
 split at aw
 ·rename_i n hn
  split at aw
  ·rename_i ad
   simp only[Bool.and_eq_true]at ad;cases aw
   have:=QV t x an hn hc (by rw[mc];exact Nat.le_of_ble_eq_true ad.1) (Nat.le_of_ble_eq_true ad.2)
   simp only[ab.den];rw[e5]at this;rw[e5,List.map_take];exact this
  ·cases aw
 ·split at aw
  ·rename_i y r ai
   cases aw;exact JZ t x an ai hc
  ·cases aw
theorem vn{p:ab}(h:tl S p=true):jL (S.den G N B e).heap (p.den G e)=true:=by
 unfold tl at h
 split at h
 ·split at h
  ·rename_i ah;simp[ao.den,ab.den,jL,eh,ah,bF.den]
  ·cases h
 ·split at h
  ·rename_i ah;simp[ao.den,ab.den,jL,eh,ah,bF.den]
  ·cases h
 ·rfl
 ·split at h
  ·rename_i ah;simp[ao.den,ab.den,jL,eh,ah,bF.den]
  ·cases h
 ·cases h
theorem AE{k:Nat}{p q:ab}(h:xz k p=some q):rr k (p.den G e)=q.den G e:=by
 unfold xz at h
 split at h
 ·cases h;simp[ab.den,rr]
 ·cases h;simp[ab.den,rr,List.drop_drop,Nat.add_comm]
 ·cases h;simp[ab.den,rr]
 ·cases h;simp only[ab.den,rr,aD.ptr.injEq,true_and];omega
 ·cases h
theorem Ef{α β:Type}(f:α→β)(l:List α)(off:Nat)(vs:List α):(ek l off vs).map f=ek (l.map f) off (vs.map f):=by
 simp[ek,List.map_take,List.map_drop]
theorem Eg{pl:Nat→Option (Nat × Nat)}{h:List (Nat × bF)}: ∀{ps:List (Nat × ab)} {l ds:List ab},(ps.all fun p=>p.2.cells.all (kL h))=true→rY pl l ps=some ds→j7 pl (ab.bP G e l) (ps.map fun p=>(p.1,p.2.den G e))=some (ab.bP G e ds)
 |[],l,ds,_,hf=>by
  simp only[rY,Option.some.injEq]at hf;subst hf;rfl
 |(i,v)::rest,l,ds,aZ,hf=>by
  simp only[List.all_cons,Bool.and_eq_true]at aZ;simp only[rY]at hf;simp only[List.map_cons,j7]
  split at hf
  ·rename_i off size ak
   split at hf
   ·rename_i ad
    simp only[Bool.and_eq_true]at ad
    have aa:=Nat.eq_of_beq_eq_true ad.1
    have ae:=Nat.le_of_ble_eq_true ad.2
    have aw:=vm (G:=G) (e:=e) aZ.1
    simp only[ak,aw,mc];rw[if_pos ⟨aa,ae⟩]
    have:=Eg aZ.2 hf
    rw[e5]at this⊢;rw[Ef]at this;rw[e5];exact this
   ·cases hf
  ·cases hf
def ik(P:Program)(G:a7)(N B:Nat)(M:List aQ)(o:Oper)(S:ao)(r:dr):Prop:=
 ∀e,(∀c∈S.g,c.ok e)→(∀(j:Nat) (x:bJ),r.xs[j]? =some x→Env.at e (S.k+j)=x.den M e)→(∀n∈r.ns,n.ok M e)→cP P G o (S.den G N B e) (r.v.den G e)
end
def Lj(op:BinOp)(k bj:IntKind)(x y:ab):List fe:=
 match op with
 | .add=>[]
 | .sub=>[]
 | .mul=>[]
 | .and=>[]
 | .or=>[]
 | .xor=>[]
 | .quo=>match y with
  | .cs (.int _ n)=>match decide (n=0)with
   |false=>[]
   |true=>[.f2 0 (.jt op k bj) x y]
  |_=>[.f2 0 (.jt op k bj) x y]
 | .rem=>match y with
  | .cs (.int _ n)=>match decide (n=0)with
   |false=>[]
   |true=>[.f2 0 (.jt op k bj) x y]
  |_=>[.f2 0 (.jt op k bj) x y]
 |op=>match y with
  | .cs (.int _ n)=>match decide (0≤n)with
   |true=>[]
   |false=>[.f2 0 (.jt op k bj) x y]
  |_=>[.f2 0 (.jt op k bj) x y]
def Lk(P:Program)(S:ao)(op:BinOp)(cv:TypeId)(x y:ab):Option dr:=
 match x.rt,y.rt with
 |some (.int k),some (.int bj)=>match Ld op k bj with
  |true=>some ⟨[.f2 (.jt op k bj) x y],Lj op k bj x y,.aT (.int k) S.k⟩
  |false=>match xv op&&decide (bj=k)with
   |true=>some ⟨[.f2 (.pg op k) x y],[],.aT .bool S.k⟩
   |false=>none
 |some .str,some .str=>match xv op with
  |true=>some ⟨[.f2 (.mz op) x y],[],.aT .bool S.k⟩
  |false=>match op with
   | .add=>some ⟨[.f2 .tc x y],[.f2 0 .tc x y],.aT .str S.k⟩
   |_=>none
 |some .bool,some .bool=>match op,DC P cv with
  | .eql,true=>some ⟨[.f2 (.nM false) x y],[],.aT .bool S.k⟩
  | .neq,true=>some ⟨[.f2 (.nM true) x y],[],.aT .bool S.k⟩
  |_,_=>none
 |_,_=>match x,y with
  | .cg l,.cg m=>match m1 P cv with
   |some fs=>match pq P 64 0 fs with
    |some rs=>match hs rs l&&hs rs m,op with
     |true,.eql=>some ⟨[.As false rs l m],[],.aT .bool S.k⟩
     |true,.neq=>some ⟨[.As true rs l m],[],.aT .bool S.k⟩
     |_,_=>none
    |none=>none
   |none=>none
  |p,.cs (.pointer none)=>match P.underlying cv,tl S p,op with
   |some (.pointer _),true,.eql=>some ⟨[],[],.cs (.bool false)⟩
   |some (.pointer _),true,.neq=>some ⟨[],[],.cs (.bool true)⟩
   |_,_,_=>none
  |_,_=>none
section
variable {P:Program} {G:a7} {o:Oper} {N B:Nat} {e:Env} {S:ao} {M:List aQ}
theorem zeW{e:Env}{f:cC}{x y:ab}{k:Nat}(h:Env.at e k=(bJ.f2 f x y).den M e):(ab.aT f.c k).den G e= .av (fG f.c (f.den (x.az e f.a) (y.az e f.b))):=by
 simp only[ab.den,h,bJ.den,cA]
theorem zeX{e:Env}{f:gF}{x:ab}{k:Nat}(h:Env.at e k=(bJ.f1 f x).den M e):(ab.aT f.c k).den G e= .av (fG f.c (f.den (x.az e f.a))):=by
 simp only[ab.den,h,bJ.den,cA]
theorem qF{s:aO}{f:cC}{x y:ab}{k:Nat}(h:Env.at e k=(bJ.f2 f x y).den M e)(ai:cP P G o s (.av (fG f.c (f.den (x.az e f.a) (y.az e f.b))))):cP P G o s ((ab.aT f.c k).den G e):=by
 rw[zeW h];exact ai
theorem qG{s:aO}{f:gF}{x:ab}{k:Nat}(h:Env.at e k=(bJ.f1 f x).den M e)(ai:cP P G o s (.av (fG f.c (f.den (x.az e f.a))))):cP P G o s ((ab.aT f.c k).den G e):=by
 rw[zeX h];exact ai
theorem zeY{op:BinOp}{k bj:IntKind}{x y:ab}(ax:y.rt=some (.int bj))(h: ∀n∈Lj op k bj x y,n.ok M e):D0 op (y.az e (.int bj)):=by
 have hc: ∀n gG,y= .cs (.int gG n)→y.az e (.int bj)=n:=fun n gG ba=>by
  subst ba;simp only[ab.rt,Option.some.injEq,aU.int.injEq]at ax;subst ax;simp only[ab.az,ab.fq,ab.dyn,cA]
 have ai: ∀Eh,((∃q,Eh=q)→fe.ok M e (.f2 0 (.jt Eh k bj) x y)→D0 Eh (y.az e (.int bj))):=fun Eh _ h=>h
 cases op<;>try exact trivial
 all_goals
  simp only[Lj]at h
  split at h
  ·rename_i gG n
   have hn:=hc n gG rfl
   split at h
   ·rename_i hd
    rw[hn];simp only[decide_eq_false_iff_not,decide_eq_true_eq]at hd;exact hd
   ·exact h _ (List.mem_singleton.2 rfl)
  ·exact h _ (List.mem_singleton.2 rfl)
theorem zeZ{op:BinOp}{cv ty:TypeId}{x y:Operand}{r:dr}(an:o.op= .binOp op cv x y ty)(h:Lk P S op cv (S.aY N x) (S.aY N y)=some r):ik P G N B M o S r:=fun e hf hx hn=>by
 unfold Lk at h
 split at h
 ·rename_i k bj aa ae
  have fR:aI G (S.den G N B e) x=_:=(bH hf x).trans (jw aa)
  have mD:aI G (S.den G N B e) y=_:=(bH hf y).trans (jw ae)
  split at h
  ·rename_i aZ
   cases h;exact qF (f:=.jt op k bj) (hx 0 _ rfl) (zeN an fR mD aZ (zeY ae hn))
  ·split at h
   ·rename_i hc
    cases h;simp only[Bool.and_eq_true,decide_eq_true_eq]at hc
    have aj:=hc.2
    subst aj;exact qF (f:=.pg op bj) (hx 0 _ rfl) (zeO an fR mD hc.1)
   ·cases h
 ·rename_i aa ae
  have fR:aI G (S.den G N B e) x=_:=(bH hf x).trans (fX aa)
  have mD:aI G (S.den G N B e) y=_:=(bH hf y).trans (fX ae)
  split at h
  ·rename_i hc
   cases h;exact qF (f:=.mz op) (hx 0 _ rfl) (zeP an fR mD hc)
  ·split at h
   ·cases h
    exact qF (f:=.tc) (hx 0 _ rfl) (zdE cv ty x y an fR mD (hn _ (List.mem_singleton.2 rfl)))
   ·cases h
 ·rename_i aa ae
  have fR:aI G (S.den G N B e) x=_:=(bH hf x).trans (fX aa)
  have mD:aI G (S.den G N B e) y=_:=(bH hf y).trans (fX ae)
  split at h
  ·rename_i aG
   cases h;exact qF (f:=.nM false) (hx 0 _ rfl) (Rg cv ty x y an (DD aG) fR mD)
  ·rename_i aG
   cases h;exact qF (f:=.nM true) (hx 0 _ rfl) (Rh cv ty x y an (DD aG) fR mD)
  ·cases h
 ·split at h
  ·rename_i l m aq hm
   split at h
   ·rename_i fs xh
    split at h
    ·rename_i rs gL
     split at h
     ·rename_i ad
      cases h;simp only[Bool.and_eq_true]at ad
      have:=SX (G:=G) (n:=false) (B:=B) (e:=e) hf rfl an xh gL aq hm ad.1 ad.2
      have aL:Env.at e S.k=_:=hx 0 _ rfl
      simp only[ab.den,aL,bJ.den,cA,fG,j8];exact this
     ·rename_i ad
      cases h;simp only[Bool.and_eq_true]at ad
      have:=SX (G:=G) (n:=true) (B:=B) (e:=e) hf rfl an xh gL aq hm ad.1 ad.2
      have aL:Env.at e S.k=_:=hx 0 _ rfl
      simp only[ab.den,aL,bJ.den,cA,fG,j8];exact this
     ·cases h
    ·cases h
   ·cases h
  ·rename_i ak
   have key: ∀E a w β ro,c2 E G (S.den G N B e) a w β ro→tl S (S.aY N x)=true→∃cW,a.eval x= .pointer (some cW):=fun E a w β ro ag hi=>by
    obtain⟨cW,hc,_⟩:=zE (vn (G:=G) (N:=N) (B:=B) (e:=e) hi) (by have:=ag.eval x;rw[bH hf]at this;exact this)
    exact⟨cW,hc⟩
   have qH: ∀E a w β ro,c2 E G (S.den G N B e) a w β ro→a.eval y= .pointer none:=fun E a w β ro ag=>by
    refine ag.ee ?_
    rw[bH hf,ak];rfl
   split at h
   ·rename_i t hu hi
    cases h
    exact fun E a w β ro ag=>by
     obtain⟨cW,hc⟩:=key E a w β ro ag hi;exact⟨.bool false,by simp[execOp,an,hc,qH E a w β ro ag,eqGuard_at_pointer,run_eql_pointer_nil w cv (some cW) (SC hu)],.fD rfl⟩
   ·rename_i t hu hi
    cases h
    exact fun E a w β ro ag=>by
     obtain⟨cW,hc⟩:=key E a w β ro ag hi;exact⟨.bool true,by simp[execOp,an,hc,qH E a w β ro ag,eqGuard_at_pointer,run_neq_pointer_nil w cv (some cW) (SC hu)],.fD rfl⟩
   ·cases h
  ·cases h
end
end Go.aK
namespace Go.aK
open Go
def pt:List aU→List Value→Bool
 |[],[]=>true
 |r::rs,z::zs=>(match r,z with
  | .int k,.int bj n=>decide (k=bj)&&decide (n=0)
  | .bool,.bool b=>!b
  | .str,.string s=>decide (s=⟨#[]⟩)
  | .li _,.slice none 0 0=>true
  |_,_=>false)&&pt rs zs
 |_,_=>false
def vo:TypeDesc→Option aU
 | .string=>some .str
 | .int k=>some (.int k)
 |_=>none
def xB(v:aU)(z:Value):Bool:=
 match v,z with
 | .st c,.agg a=>pt (eX c) a.toList&&a.toList.all Value.oneCell'
 | .st _,_=>false
 |r,z=>pt [r] [z]&&z.oneCell'
def nk(v:aU)(i:Nat):ab:=
 match v with
 | .st c=>.cg (iS c i 0 (eX c))
 |r=>.aT r i
def Ei:List aU→Bool
 |[]=>true
 | .mp _ _::_=>false
 |_::r=>Ei r
def Ej(v:aU):Bool:=
 match v with
 | .st c=>Ei (eX c)
 | .int _=>true
 | .bool=>true
 | .str=>true
 |_=>false
def Ll(S:ao)(m:ab):Option (aU × aU × ab):=
 match m with
 | .gY id=>match c9 S.h id with
  |some (.it (.mp k v) _ p)=>some (k,v,p)
  |_=>none
 |x=>match x.rt with
  |some (.mp k v)=>some (k,v,x)
  |_=>none
def Lm(P:Program)(S:ao)(t:TypeId)(m x:ab)(c:Bool):Option dr:=
 match P.underlying t,Ll S m with
 |some (.map fp eY),some (k,v,p)=>match(P.underlying fp).bind vo,(P.info? eY).bind (·.zero)with
  |some bj,some z=>match hR bj k&&(x.ey k&&(xB v z&&Ej v))with
   |true=>match c with
    |true=>some ⟨[.xn k v p x,.vi k v p x],[],.tp [nk v (S.k+1),.aT .bool S.k]⟩
    |false=>some ⟨[.vi k v p x],[],nk v S.k⟩
   |false=>none
  |_,_=>none
 |_,_=>none
section
variable {P:Program} {G:a7} {N B:Nat} {M:List aQ} {S:ao} {o:Oper}
theorem xC: ∀{rs:List aU} {zs:List Value},pt rs zs=true→zs.map a1.v=rs.map fun r=>xa (fG r r.fy)
 |[],[],_=>rfl
 |[],_::_,h=>by cases h
 |_::_,[],h=>by cases h
 |r::rs,z::zs,h=>by
  simp only[pt,Bool.and_eq_true]at h;rw[List.map_cons,List.map_cons,xC h.2]
  congr 1
  have aa:=h.1
  split at aa
  ·simp only[Bool.and_eq_true,decide_eq_true_eq]at aa
   obtain⟨rfl,rfl⟩:=aa;rfl
  ·simp only[Bool.not_eq_true']at aa
   subst aa;rfl
  ·have:=of_decide_eq_true aa
   subst this;rfl
  ·rfl
  ·cases aa
theorem S1(c:bK):b9 c (aA c)=(eX c).map fun r=>fG r r.fy:=by cases c<;>rfl
theorem S2{e:Env}{r:aU}{i:Nat}{d:r.den}(h:Env.at e i=⟨r,d⟩):(ab.aT r i).az e r=d:=by
 simp only[ab.az,ab.fq,ab.dyn,h,cA]
theorem ze0{c:bK}(h:Ei (eX c)=true)(x:fN c):(k1 c x).map (fun d=>j8 d.r d.v)=b9 c x:=by
 unfold b9
 rw[←KH c x]at h
 revert h
 generalize k1 c x=l
 induction l with
 |nil=>intro _;rfl
 |cons d r aX=>
  intro h;obtain⟨t,v⟩:=d;simp only[List.map_cons]at h⊢
  cases t<;>first|(simp only[Ei]at h;rw[aX h];rfl)|cases h
theorem ze1{v:aU}{i:Nat}{e:Env}{ev:v.den}(h:Env.at e i=⟨v,ev⟩)(aw:Ej v=true):(nk v i).den G e=u7 v.agg (ix v ev):=by
 cases v with
 |st c=>
  simp only[Ej]at aw;simp only[nk,ab.den,ta,h,cA,aU.agg,u7,ix,ze0 aw]
 |int k=>simp only[nk,ab.den,h,cA];rfl
 |bool=>simp only[nk,ab.den,h,cA];rfl
 |str=>simp only[nk,ab.den,h,cA];rfl
 |_=>cases aw
theorem xD{x:a1}{v:Value}(h:a1.v v=xa x)(aw:v.oneCell'=true):Sub (.av (.v v)) (.av x):=fun w ro σ β N c hc=>by
 cases hc with
 |av _ _ hc=>
  cases hc;exact .av _ _ (Sg h.symm aw)
theorem S3: ∀{rs:List aU} {zs:List Value},pt rs zs=true→zs.all Value.oneCell'=true→fT (zs.map fun v=>aD.av (.v v)) ((rs.map fun r=>fG r r.fy).map .av)
 |[],[],_,_=>.nil
 |[],_::_,h,_=>by cases h
 |_::_,[],h,_=>by cases h
 |r::rs,z::zs,h,an=>by
  simp only[List.all_cons,Bool.and_eq_true]at an
  have aa:pt [r] [z]=true:=by
   simp only[pt,Bool.and_eq_true]at h⊢;exact⟨h.1,trivial⟩
  have ae:pt rs zs=true:=by
   simp only[pt,Bool.and_eq_true]at h;exact h.2
  have aB:=xC aa
  simp only[List.map_cons,List.map_nil,List.cons.injEq,and_true]at aB;exact .cons (xD aB an.1) (S3 ae an.2)
theorem S4{v:aU}{i:Nat}{e:Env}{z:Value}(h:Env.at e i=⟨v,v.fy⟩)(aw:Ej v=true)(aR:xB v z=true):Sub (nb z) ((nk v i).den G e)∧s3 z=true:=by
 cases v with
 |st c=>
  cases z with
  |agg a=>
   simp only[xB,Bool.and_eq_true]at aR;refine⟨?_,aR.2⟩
   simp only[nk,ab.den,ta,h,cA,nb,aU.fy,S1];exact(S3 aR.1 aR.2).agg
  |_=>cases aR
 |int k=>
  simp only[xB,Bool.and_eq_true]at aR
  have aB:=xC aR.1
  simp only[List.map_cons,List.map_nil,List.cons.injEq,and_true]at aB
  cases z with
  |int bj n=>exact⟨by simp only[nk,ab.den,h,cA,nb];exact xD aB aR.2,aR.2⟩
  |_=>first|cases aR.1|cases aR.2
 |bool=>
  simp only[xB,Bool.and_eq_true]at aR
  have aB:=xC aR.1
  simp only[List.map_cons,List.map_nil,List.cons.injEq,and_true]at aB
  cases z with
  |bool b=>exact⟨by simp only[nk,ab.den,h,cA,nb];exact xD aB aR.2,aR.2⟩
  |_=>first|cases aR.1|cases aR.2
 |str=>
  simp only[xB,Bool.and_eq_true]at aR
  have aB:=xC aR.1
  simp only[List.map_cons,List.map_nil,List.cons.injEq,and_true]at aB
  cases z with
  |string b=>exact⟨by simp only[nk,ab.den,h,cA,nb];exact xD aB aR.2,aR.2⟩
  |_=>first|cases aR.1|cases aR.2
 |_=>cases aw
theorem S5{k v:aU}(l:List (k.den × v.den)):fG (.mp k v) l=xd v.agg (gf (lh k) (ix v) l):=by
 unfold xd gf
 rw[List.map_map,List.map_map]
 rfl
theorem ze2{fp:TypeId}{k:aU}(h:(P.underlying fp).bind vo=some k): ∃d,P.underlying fp=some d∧((k= .str∧d= .string)∨∃j,k= .int j∧d= .int j):=by
 cases hd:P.underlying fp with
 |none=>rw[hd]at h;cases h
 |some d=>
  rw[hd]at h
  have aj:vo d=some k:=h
  refine⟨d,rfl,?_⟩
  unfold vo at aj
  split at aj
  ·cases aj;exact .inl ⟨rfl,rfl⟩
  ·cases aj;exact .inr ⟨_,rfl,rfl⟩
  ·cases aj
theorem ze3{k v:aU}{m:Operand}{p:ab}{e:Env}(hf: ∀c∈S.g,c.ok e)(h:Ll S (S.aY N m)=some (k,v,p)):na G (S.den G N B e) m v.agg (gf (lh k) (ix v) (p.az e (.mp k v))):=by
 unfold Ll at h
 split at h
 ·rename_i id hm
  split at h
  ·rename_i bj bg dq q ah
   cases h
   have Ek:aI G (S.den G N B e) m= .ref id:=by rw[bH hf,hm];rfl
   have bc:aE (S.den G N B e).heap id=some (.bL (jP v.agg (gf (lh k) (ix v) (p.az e (.mp k v))))):=by
    simp only[ao.den,eh,ah,Option.map_some];rfl
   exact na.own Ek bc
  ·cases h
 ·split at h
  ·rename_i bj bg ag
   cases h;refine na.Sp ?_
   rw[bH hf,fX ag,S5]
  ·cases h
theorem ze4{t:TypeId}{m x:Operand}{c:Bool}{r:dr}(an:o.op= .lookup t m x c)(h:Lm P S t (S.aY N m) (S.aY N x) c=some r):ik P G N B M o S r:=fun e hf hx hn=>by
 unfold Lm at h
 split at h
 ·rename_i fp eY k v p hu oa
  split at h
  ·rename_i bj z ze5 aR
   split at h
   ·rename_i hc
    simp only[Bool.and_eq_true]at hc;obtain⟨aV,c7,gi,iN⟩:=hc
    cases hr aV
    obtain⟨d,hd,hT⟩:=ze2 ze5
    have n3:=ze3 (G:=G) (N:=N) (B:=B) hf oa
    have key: ∀w:aD,(∀ev b,(jF k (p.az e (.mp k v)) ((S.aY N x).az e k)).getD v.fy=ev→(jF k (p.az e (.mp k v)) ((S.aY N x).az e k)).isSome=b→∀y,(b=true→y=u7 v.agg (ix v ev))→(b=false→ev=v.fy∧y=nb z)→Sub (Ai c y b) w)→s3 z=true→cP P G o (S.den G N B e) w:=by
     intro w hw nc
     cases aH:jF k (p.az e (.mp k v)) ((S.aY N x).az e k)with
     |some ev=>
      rw[aH]at hw;refine cP.sub ?_ (hw ev true rfl rfl _ (fun _=>rfl) (fun q=>by cases q))
      rcases hT with⟨rfl,rfl⟩|⟨j,rfl,rfl⟩
      ·have jx:aI G (S.den G N B e) x= .av (.v (lh .str ((S.aY N x).az e .str))):=by rw[bH hf];exact K3 c7
       exact Sw (K:=ByteArray) KU (ix v) v.agg _ _ ev c an hu hd n3 jx aH
      ·have jx:aI G (S.den G N B e) x= .av (.v (lh (.int j) ((S.aY N x).az e (.int j)))):=by rw[bH hf];exact DZ c7
       exact Sw (K:=Int) (KV j) (ix v) v.agg _ _ ev c an hu hd n3 jx aH
     |none=>
      rw[aH]at hw;refine cP.sub ?_ (hw v.fy false rfl rfl _ (fun q=>by cases q) (fun _=>⟨rfl,rfl⟩))
      rcases hT with⟨rfl,rfl⟩|⟨j,rfl,rfl⟩
      ·have jx:aI G (S.den G N B e) x= .av (.v (lh .str ((S.aY N x).az e .str))):=by rw[bH hf];exact K3 c7
       exact Sx (K:=ByteArray) KU (ix v) v.agg _ _ c z an hu hd n3 jx aH aR nc
      ·have jx:aI G (S.den G N B e) x= .av (.v (lh (.int j) ((S.aY N x).az e (.int j)))):=by rw[bH hf];exact DZ c7
       exact Sx (K:=Int) (KV j) (ix v) v.agg _ _ c z an hu hd n3 jx aH aR nc
    have sub: ∀{i:Nat} {ev:v.den} {b:Bool} {y:aD},Env.at e i=⟨v,ev⟩→(b=true→y=u7 v.agg (ix v ev))→(b=false→ev=v.fy∧y=nb z)→Sub y ((nk v i).den G e):=by
     intro i ev b y hi aa ae
     cases b with
     |true=>rw[aa rfl,ze1 hi iN];exact Sub.refl _
     |false=>
      obtain⟨c0,df⟩:=ae rfl;subst c0;rw[df];exact(S4 hi iN gi).1
    have nc:s3 z=true:=(S4 (G:=G) (i:=0) (e:=a8.put .emp 0 ⟨v,v.fy⟩) (by rw[Env.ih,if_pos rfl]) iN gi).2
    split at h
    ·cases h
     have aL:=hx 0 _ rfl
     have aa:=hx 1 _ rfl
     simp only[Nat.add_zero,bJ.den]at aL aa;refine key _ (fun ev b aB bd y g1 g2=>?_) nc
     refine fT.tuple (.cons (sub (aa.trans (by rw[←aB])) g1 g2) (.cons ?_ .nil))
     simp only[ab.den,aL,cA];rw[←bd];exact Sub.refl _
    ·cases h
     have aL:=hx 0 _ rfl
     simp only[Nat.add_zero,bJ.den]at aL;exact key _ (fun ev b aB bd y g1 g2=>sub (aL.trans (by rw[←aB])) g1 g2) nc
   ·cases h
  ·cases h
 ·cases h
end
end Go.aK
namespace Go.aK
open Go
def ab.tm(x g:ab)(b:Bool):ab:=
 match x with
 | .fI h c v=>match Av g h&&(decide (c=b))with
  |true=>v
  |false=>x
 |x=>x
def Ln(S:ao)(c x y:ab):Option dr:=
 match c,lr c S.g with
 | .cs (.bool b),_=>some ⟨[],[],match b with|true=>x|false=>y⟩
 |c,some b=>match c.rt with
  |some .bool=>some ⟨[],[],match b with|true=>x|false=>y⟩
  |_=>none
 |c,none=>match c.rt with
  |some .bool=>match(match(x.tm c true).rt with|some r=>some r|none=>(y.tm c false).rt)with
   |some r=>match(x.tm c true).ey r&&((y.tm c false).ey r&&r.one)with
    |true=>some ⟨[.D2 r c (x.tm c true) (y.tm c false)],[],.aT r S.k⟩
    |false=>none
   |none=>none
  |_=>none
def tn(r:aU):List ab→Bool
 |[]=>true
 |x::l=>x.ey r&&tn r l
def S6:List ab→Option aU
 |[]=>none
 |x::_=>x.rt
def Lo(P:Program)(S:ao)(t:TypeId)(x i:ab):Option dr:=
 match x with
 | .cg l=>match P.underlying t with
  |some (.array len el)=>match scalar P el&&Nat.beq l.length len,(P.info? el).map (·.size)with
   |true,some 1=>match i with
    | .cs (.int .i64 (.ofNat j))=>match l[j]? with
     |some v=>some ⟨[],[],v⟩
     |none=>none
    |i=>match i.rt,S6 l with
     |some (.int .i64),some r=>match tn r l&&r.one with
      |true=>some ⟨[.nth r l i],xx S.g l.length i,.aT r S.k⟩
      |false=>none
     |_,_=>none
   |_,_=>none
  |_=>none
 |x=>match x.rt,i.rt,isStr P t with
  |some .str,some (.int k),true=>some ⟨[.f2 (.rQ k) x i],pr S.g .n5 (.rQ k) x i,.aT (.int .u8) S.k⟩
  |_,_,_=>none
def vp(x:ab):Option bK:=
 match x.rt with
 |some (.li c)=>some c
 |_=>none
def ze6(P:Program)(t:TypeId)(n:Nat):Option bK:=
 match P.underlying t with
 |some (.slice el)=>zec.find? fun c=>Nat.beq n (bY c)&&(qd P el (iS c 0 0 (eX c))).isSome
 |_=>none
def Lp(P:Program)(f:Nat):Nat:=
 match P.funcs[f]? with
 |some fn=>match fn.body.isNone&&fn.origin== "",fn.name== "internal/abi.NoEscape",fn.name== "internal/bytealg.IndexByteString" with
  |true,true,_=>1
  |true,false,true=>2
  |_,_,_=>0
 |none=>0
def Lq(P:Program)(S:ao)(f:ab)(as:List ab):Option dr:=
 match f with
 | .fn (.func f) [] []=>match Lp P f,as with
  |1,[x]=>some ⟨[],[],x⟩
  |2,[x,y]=>match x.rt,y.rt with
   |some .str,some (.int .u8)=>some ⟨[.f2 .xm x y],[],.aT (.int .i64) S.k⟩
   |_,_=>none
  |_,_=>none
 |_=>none
def Lr(P:Program)(S:ao)(t:TypeId)(x i:ab):Option dr:=
 match i.rt with
 |some (.int k)=>match j6 P t with
  |some n=>match x with
   | .aN id=>match c9 S.h id with
    |some (.rw _ c y)=>match Nat.beq n (bY c)with
     |true=>some ⟨[],pr S.g (.iT c) (.kb c k) y i,.gM id i 0⟩
     |false=>none
    |_=>none
   | .cB id m=>match c9 S.h id,i with
    |some (.di _ _),.cs (.int _ (.ofNat j))=>match Nat.blt j m with
     |true=>some ⟨[],[],.ed id (j*n)⟩
     |false=>none
    |_,_=>none
   |x=>match vp x with
    |some c=>match Nat.beq n (bY c)with
     |true=>some ⟨[.f2 (.kb c k) x i],pr S.g (.iT c) (.kb c k) x i,.ip c S.k 0⟩
     |false=>none
    |none=>match x.isNil,ze6 P t n with
     |true,some c=>some ⟨[.f2 (.kb c k) x i],[.f2 0 (.kb c k) x i],.ip c S.k 0⟩
     |_,_=>none
  |none=>match uU P t,vl S x with
   |some (len,n),some _=>match i,x with
    | .cs (.int _ (.ofNat j)),x=>match Nat.blt j len,xz (j*n) x with
     |true,some p=>some ⟨[],[],p⟩
     |_,_=>none
    |i,.ed id off=>some ⟨[],xx S.g len i,.gW id off i n⟩
    |_,_=>none
   |_,_=>none
 |_=>none
def Ls(P:Program)(S:ao)(t:TypeId)(x:ab):Option dr:=
 match x with
 | .gM id i off=>match c9 S.h id,i.rt with
  |some (.rw _ c y),some (.int k)=>match qd P t ((iS c S.k 0 (eX c)).drop off),y.ey (.li c)with
   |some v,true=>some ⟨[.f2 (.kb c k) y i],pr S.g (.iT c) (.kb c k) y i,v⟩
   |_,_=>none
  |_,_=>none
 | .gW id off i 1=>match c9 S.h id,i.rt with
  |some (.di _ l),some (.int _)=>match S6 (l.drop off)with
   |some r=>match tn r (l.drop off)&&(r.one&&scalar P t)with
    |true=>some ⟨[.nth r (l.drop off) i],xx S.g (l.drop off).length i,.aT r S.k⟩
    |false=>none
   |none=>none
  |_,_=>none
 |x=>match vl S x with
  |some l=>match qd P t l with
   |some v=>some ⟨[],[],v⟩
   |none=>none
  |none=>none
def Lt(P:Program)(S:ao)(t:TypeId)(x:ab):Option dr:=
 match x with
 | .cs (.slice none 0 0)=>match isSlice P t with
  |true=>some ⟨[],[],.cs (.int .i64 0)⟩
  |false=>none
 | .cs (.string s)=>match isStr P t with
  |true=>some ⟨[],[],.cs (.int .i64 (ByteArray.size s:Int))⟩
  |false=>none
 | .cB id n=>match c9 S.h id,isSlice P t with
  |some (.di _ _),true=>some ⟨[],[],.cs (.int .i64 (n:Int))⟩
  |_,_=>none
 | .aN id=>match c9 S.h id with
  |some (.rw _ c y)=>match isSlice P t with
   |true=>some ⟨[.f1 (.iT c) y],[],.aT (.int .i64) S.k⟩
   |false=>none
  |_=>none
 |x=>match x.rt with
  |some .str=>match isStr P t with
   |true=>some ⟨[.f1 .n5 x],[],.aT (.int .i64) S.k⟩
   |false=>none
  |some (.li c)=>match isSlice P t with
   |true=>some ⟨[.f1 (.iT c) x],[],.aT (.int .i64) S.k⟩
   |false=>none
  |_=>match Dv P t with
   |some n=>some ⟨[],[],.cs (.int .i64 (n:Int))⟩
   |none=>none
def xE(N:Nat)(S:ao):Option Operand→Option (Option ab)
 |none=>some none
 |some y=>match(S.aY N y).rt with
  |some (.int _)=>some (some (S.aY N y))
  |_=>none
def El(P:Program)(N:Nat)(S:ao)(t:TypeId)(x:ab)(lo hi:Option Operand):Option dr:=
 match xE N S lo,xE N S hi with
 |some l,some h=>match x.rt with
  |some .str=>match isStr P t with
   |true=>some ⟨[.vh x l h],(match l,h with|none,none=>[]|_,_=>[.vh x l h]),.aT .str S.k⟩
   |false=>none
  |some (.li c)=>match j6 P t with
   |some n=>match Nat.beq n (bY c)with
    |true=>some ⟨[.eB c x l h],(match l,h with|none,none=>[]|_,_=>[.eB c x l h]),.aT (.li c) S.k⟩
    |false=>none
   |none=>none
  |_=>none
 |_,_=>none
def S7(P:Program)(S:ao)(src dst:TypeId)(id:Nat):Option dr:=
 match c9 S.h id,P.underlying src with
 |some (.rw _ .u8 y),some (.slice el)=>match P.underlying el,P.underlying dst with
  |some (.int .u8),some .string=>some ⟨[.f1 .cB y],[],.aT .str S.k⟩
  |_,_=>none
 |_,_=>none
def Lu(P:Program)(S:ao)(src dst:TypeId)(x:ab):Option dr:=
 match x with
 | .aN id=>S7 P S src dst id
 |x=>match x.rt with
  |some (.int k)=>match P.underlying src,P.underlying dst with
   |some _,some (.int bj)=>some ⟨[.f1 (.o9 k bj) x],[],.aT (.int bj) S.k⟩
   |_,_=>none
  |some (.li .u8)=>match P.underlying src with
   |some (.slice el)=>match P.underlying el,P.underlying dst with
    |some (.int .u8),some .string=>some ⟨[.f1 .cB x],[],.aT .str S.k⟩
    |_,_=>none
   |_=>none
  |_=>none
def Lv(S:ao)(op:UnOp)(x:ab):Option dr:=
 match op,x.rt with
 | .not,some .bool=>some ⟨[.f1 .nd x],[],.aT .bool S.k⟩
 | .neg,some (.int k)=>some ⟨[.f1 (.Aq k) x],[],.aT (.int k) S.k⟩
 | .xor,some (.int k)=>some ⟨[.f1 (.uL k) x],[],.aT (.int k) S.k⟩
 |_,_=>none
def Lx(P:Program)(N:Nat)(S:ao)(t:TypeId)(ps:List (Nat × Operand)):Option dr:=
 match places P t,zeroCells P t with
 |some pl,some zs=>match zs.all Value.oneCell'&&(ps.map fun p=>(p.1,S.aY N p.2)).all fun p=>p.2.cells.all (kL S.h)with
  |true=>match rY pl (zs.map .cs) (ps.map fun p=>(p.1,S.aY N p.2))with
   |some ds=>some ⟨[],[],.cg ds⟩
   |none=>none
  |false=>none
 |_,_=>none
def Ly(P:Program)(t:TypeId)(x:ab)(f:Nat):Option dr:=
 match x,w0 P t f with
 | .cg l,some (off,none)=>match l[off]? with
  |some v=>some ⟨[],[],v⟩
  |none=>none
 | .cg l,some (off,some n)=>match Nat.ble (off+n) l.length with
  |true=>some ⟨[],[],.cg ((l.drop off).take n)⟩
  |false=>none
 |_,_=>none
def LA(S:ao)(b:Builtin)(x y:ab):Option dr:=
 match x.rt,y.rt,b with
 |some (.int k),some (.int bj),.min=>match decide (k=bj)with
  |true=>some ⟨[.f2 (.uM k) x y],[],.aT (.int k) S.k⟩
  |false=>none
 |some (.int k),some (.int bj),.max=>match decide (k=bj)with
  |true=>some ⟨[.f2 (.mx k) x y],[],.aT (.int k) S.k⟩
  |false=>none
 |_,_,_=>none
def Em(P:Program)(t:TypeId):Bool:=
 match P.underlying t with
 |some (.pointer e)=>(P.info? e).isSome&&match(P.info? e).map (fun i=>decide (i.size=0))with
  |some false=>true
  |_=>false
 |_=>false
def AF(S:ao)(id:Nat):Bool:=
 match c9 S.h id with
 |some (.di _ _)=>true
 |_=>false
def En(S:ao)(b:Bool)(g:ab):Option dr:=
 match g.rt,b with
 |some .bool,true=>some ⟨[],[],g⟩
 |some .bool,false=>some ⟨[.f1 .nd g],[],.aT .bool S.k⟩
 |_,_=>none
def LB:BinOp→Option Bool
 | .eql=>some true
 | .neq=>some false
 |_=>none
def LC(P:Program)(S:ao)(op:BinOp)(cv:TypeId)(x y:ab):Option dr:=
 match Em P cv,LB op with
 |true,some b=>match x,y with
  | .cs (.pointer none),.cs (.pointer none)=>some ⟨[],[],.cs (.bool b)⟩
  | .ed i o,.ed j q=>match(Nat.beq i j&&Nat.beq o q)&&AF S i with
   |true=>some ⟨[],[],.cs (.bool b)⟩
   |false=>none
  | .fi g (some i) _,.cs (.pointer none)=>match AF S i with
   |true=>En S (!b) g
   |false=>none
  | .fi g (some i) o,.ed j q=>match(Nat.beq i j&&Nat.beq o q)&&AF S i with
   |true=>En S b g
   |false=>none
  |_,_=>none
 |_,_=>none
def LD(P:Program)(S:ao)(src dst:TypeId)(x:ab):Option dr:=
 match x with
 | .ed id off=>match c9 S.h id,P.underlying src,P.underlying dst with
  |some (.di _ l),some (.pointer t),some .unsafePointer=>match(P.info? t).map (fun i=>decide (i.size=0)),Nat.blt off l.length with
   |some false,true=>some ⟨[],[],x⟩
   |_,_=>none
  |some (.di bt l),some .unsafePointer,some (.pointer u)=>match liesAt P P.depth bt (l.length/ P.cellsOf bt) off u 1&&(P.info? u).isSome,Nat.blt off l.length with
   |true,true=>some ⟨[],[],x⟩
   |_,_=>none
  |_,_,_=>none
 |_=>none
def LF(P:Program)(S:ao)(t:TypeId)(x:ab):Option dr:=
 match x,P.underlying t with
 | .ed id 0,some (.array n el)=>match c9 S.h id,Nat.blt 0 n&&(P.info? el).isSome with
  |some (.di _ _),true=>some ⟨[],[],.cB id n⟩
  |_,_=>none
 |_,_=>none
def LG(P:Program)(S:ao)(src dst:TypeId)(x:ab):Option dr:=
 match x,P.underlying src with
 | .cB id n,some (.slice el)=>match c9 S.h id,P.underlying el,P.underlying dst with
  |some (.di _ l),some (.int .u8),some .string=>match Nat.beq n l.length&&l.all (ab.ey (.int .u8))with
   |true=>some ⟨[.qC .u8 (l.map fun x=>.cg [x]),.f1 .cB (.aT (.li .u8) S.k)],[],.aT .str (S.k+1)⟩
   |false=>none
  |_,_,_=>none
 |_,_=>none
def pv:List ab→Option (List aU)
 |[]=>some []
 |x::r=>match x.rt,pv r with
  |some t,some l=>some (t::l)
  |_,_=>none
def Eo(P:Program)(t:TypeId):Bool:=
 match P.underlying t with
 |some (.interface _)=>true
 |none=>true
 |_=>false
def LH(P:Program)(t:TypeId)(x:ab):Option dr:=
 match Eo P t with
 |true=>none
 |false=>match x with
  | .cg l=>match pv l with
   |some rs=>some ⟨[],[],.er t true rs l⟩
   |none=>none
  |x=>match x.rt with
   |some r=>some ⟨[],[],.er t false [r] [x]⟩
   |none=>none
def rZ(a:Bool)(l:List ab):Option ab:=
 match a,l with
 |true,l=>some (.cg l)
 |false,[x]=>some x
 |false,_=>none
def LI:Value→ab
 | .agg a=>.cg (a.toList.map .cs)
 |v=>.cs v
def LJ(P:Program)(t:TypeId)(x:ab)(c:Bool):Option dr:=
 match x,Eo P t with
 | .er u a rs l,false=>match Nat.beq u t,c with
  |true,true=>match rZ a l,decide (pv l=some rs)with
   |some v,true=>some ⟨[],[],.tp [v,.cs (.bool true)]⟩
   |_,_=>none
  |true,false=>match rZ a l,decide (pv l=some rs)with
   |some v,true=>some ⟨[],[],v⟩
   |_,_=>none
  |false,true=>match(P.info? t).bind (·.zero)with
   |some z=>match s3 z with
    |true=>some ⟨[],[],.tp [LI z,.cs (.bool false)]⟩
    |false=>none
   |none=>none
  |false,false=>none
 |_,_=>none
def qI(P:Program)(N:Nat)(S:ao)(o:Oper):Option dr:=
 match o.op with
 | .move x=>some ⟨[],[],S.aY N x⟩
 | .assign x=>some ⟨[],[],S.aY N x⟩
 | .pick c x y=>Ln S (S.aY N c) (S.aY N x) (S.aY N y)
 | .extract x i=>match S.aY N x with
  | .tp l=>match l[i]? with
   |some v=>some ⟨[],[],v⟩
   |none=>none
  |_=>none
 | .nilCheck x=>match tl S (S.aY N x)with
  |true=>some ⟨[],[],S.aY N x⟩
  |false=>none
 | .fieldAddr t x f=>match sS P t f,tl S (S.aY N x)with
  |some k,true=>match xz k (S.aY N x)with
   |some p=>some ⟨[],[],p⟩
   |none=>none
  |_,_=>none
 | .load t x=>Ls P S t (S.aY N x)
 | .field t x f=>Ly P t (S.aY N x) f
 | .indexAddr t x i=>Lr P S t (S.aY N x) (S.aY N i)
 | .index t x i=>Lo P S t (S.aY N x) (S.aY N i)
 | .binOp op cv x y _=>match Lk P S op cv (S.aY N x) (S.aY N y)with
  |some r=>some r
  |none=>LC P S op cv (S.aY N x) (S.aY N y)
 | .unOp op _ x=>Lv S op (S.aY N x)
 | .convert src dst x=>match Lu P S src dst (S.aY N x)with
  |some r=>some r
  |none=>match LD P S src dst (S.aY N x)with
   |some r=>some r
   |none=>LG P S src dst (S.aY N x)
 | .build t ps=>Lx P N S t ps.toList
 | .makeFunc (.func f) p q=>some ⟨[],[],.fn (.func f) (p.toList.map (S.aY N)) (q.toList.map (S.aY N))⟩
 | .makeInterface t x=>LH P t (S.aY N x)
 | .typeAssert x _ t c=>LJ P t (S.aY N x) c
 | .lookup t m x c=>Lm P S t (S.aY N m) (S.aY N x) c
 | .slice t x none none none=>match El P N S t (S.aY N x) none none with
  |some r=>some r
  |none=>LF P S t (S.aY N x)
 | .slice t x lo hi none=>El P N S t (S.aY N x) lo hi
 | .call c=>match c.callee,c.args.toList,c.argTypes.toList with
  | .builtin .len,[x],[t]=>Lt P S t (S.aY N x)
  | .builtin b,[x,y],_=>LA S b (S.aY N x) (S.aY N y)
  | .value f,l,_=>Lq P S (S.aY N f) (l.map (S.aY N))
  |_,_,_=>none
 |_=>none
section
variable {P:Program} {G:a7} {o:Oper} {N B:Nat} {S:ao} {M:List aQ}
theorem S8{e:Env}{g:ab}{b:Bool}{x:ab}(h:g.az e .bool=b):(x.tm g b).den G e=x.den G e:=by
 unfold ab.tm
 split
 ·rename_i h' c v
  split
  ·rename_i ad
   simp only[Bool.and_eq_true,decide_eq_true_eq]at ad
   have:=K9 ad.1
   subst this;obtain⟨_,rfl⟩:=ad;simp only[ab.den,h]
   cases c<;>rfl
  ·rfl
 ·rfl
theorem Ep{e:Env}{r:aU}(h:r.one=true)(x:ab):x.get e r=x.az e r:=by
 cases r<;>first|rfl|cases h
theorem ik.nil{v:ab}(h: ∀e,(∀c∈S.g,c.ok e)→cP P G o (S.den G N B e) (v.den G e)):ik P G N B M o S ⟨[],[],v⟩:=fun e hf _ _=>h e hf
theorem ze7{c x y:Operand}{r:dr}(an:o.op= .pick c x y)(h:Ln S (S.aY N c) (S.aY N x) (S.aY N y)=some r):ik P G N B M o S r:=fun e hf hx hn=>by
 unfold Ln at h
 split at h
 ·rename_i b ad
  cases h
  have hc:aI G (S.den G N B e) c= .av (.v (.bool b)):=by rw[bH hf,ad];rfl
  refine zN c x y an hc ?_
  cases b<;>simp[bH hf]
 ·rename_i b ad _
  split at h
  ·rename_i ag
   cases h
   have aj:=qE ad hf
   have hc:aI G (S.den G N B e) c= .av (.v (.bool b)):=by rw[bH hf,fX ag,aj];rfl
   refine zN c x y an hc ?_
   cases b<;>simp[bH hf]
  ·cases h
 ·split at h
  ·rename_i hc
   split at h
   ·rename_i q _
    split at h
    ·rename_i ad
     cases h;simp only[Bool.and_eq_true]at ad
     have zF:aI G (S.den G N B e) c= .av (.v (.bool ((S.aY N c).az e .bool))):=(bH hf c).trans (fX hc)
     refine(zN c x y an zF rfl).sub ?_
     have aL:Env.at e S.k=_:=hx 0 _ rfl
     simp only[ab.den,aL,bJ.den,cA,bH hf,Ep ad.2.2]
     cases gB:(S.aY N c).az e .bool with
     |true=>
      simp only[cond_true,if_true];rw[←S8 (G:=G) (x:=S.aY N x) gB];exact vf ad.1
     |false=>
      simp only[cond_false,Bool.false_eq_true,if_false];rw[←S8 (G:=G) (x:=S.aY N y) gB];exact vf ad.2.1
    ·cases h
   ·cases h
  ·cases h
theorem LK{e:Env}{r:aU}: ∀{l:List ab} {j:Nat} {x:ab},tn r l=true→l[j]? =some x→Sub (x.den G e) (.av (fG r (td e r l j)))
 |[],_,_,_,h=>by simp at h
 |[y],j,x,aZ,h=>by
  have af:j=0:=by
   have:=(List.getElem?_eq_some_iff.1 h).1
   simp at this;exact this
  subst af;simp only[List.getElem?_cons_zero,Option.some.injEq]at h
  subst h;simp only[tn,Bool.and_eq_true]at aZ;exact vf aZ.1
 |y::z::l,0,x,aZ,h=>by
  simp only[List.getElem?_cons_zero,Option.some.injEq]at h
  subst h;simp only[tn,Bool.and_eq_true]at aZ;exact vf aZ.1
 |y::z::l,j+1,x,aZ,h=>by
  simp only[List.getElem?_cons_succ]at h
  simp only[tn,Bool.and_eq_true]at aZ
  have:=LK (e:=e) (r:=r) (l:=z::l) (j:=j) (x:=x) (by simp only[tn,Bool.and_eq_true];exact aZ.2) h
  have ad:Nat.beq (j+1) 0=false:=rfl
  simp only[td,ad,cond_false,Nat.add_sub_cancel];exact this
theorem Er{e:Env}{l:List ab}{j:Nat}{x:ab}(h:l[j]? =some x):(ab.bP G e l)[j]? =some (x.den G e):=by rw[e5,List.getElem?_map,h];rfl
theorem ze8{t:TypeId}{x i:Operand}{r:dr}(an:o.op= .index t x i)(h:Lo P S t (S.aY N x) (S.aY N i)=some r):ik P G N B M o S r:=fun e hf hx hn=>by
 unfold Lo at h
 split at h
 ·rename_i l aq
  have fR:aI G (S.den G N B e) x= .agg (ab.bP G e l):=by rw[bH hf,aq];rfl
  split at h
  ·rename_i len el hu
   split at h
   ·rename_i ad bM
    simp only[Bool.and_eq_true]at ad
    have hlen:=Nat.eq_of_beq_eq_true ad.2
    split at h
    ·rename_i j hi
     split at h
     ·rename_i v aw
      cases h
      have af:=(List.getElem?_eq_some_iff.1 aw).1
      exact Sk j an hu ad.1 bM (by rw[bH hf,hi];rfl) fR (Er aw) (by omega)
     ·cases h
    ·split at h
     ·rename_i eP hi ag
      split at h
      ·rename_i aZ
       cases h;simp only[Bool.and_eq_true]at aZ
       have jq:0≤cl ((S.aY N i).dyn e)∧cl ((S.aY N i).dyn e)<(l.length:Int):=Ee hf hn
       obtain⟨j,af⟩: ∃j:Nat,cl ((S.aY N i).dyn e)=(j:Int):=⟨_,(Int.toNat_of_nonneg jq.1).symm⟩
       have cL:j<l.length:=by omega
       have hp:aI G (S.den G N B e) i=iQ (j:Int):=by
        rw[bH hf,jw hi,←lS hi,af]
       have aw:l[j]? =some l[j]:=List.getElem?_eq_getElem cL
       refine(Sk j an hu ad.1 bM hp fR (Er aw) (by omega)).sub ?_
       have aL:Env.at e S.k=_:=hx 0 _ rfl
       simp only[ab.den,aL,bJ.den,cA,af,Int.toNat_natCast];exact LK aZ.1 aw
      ·cases h
     ·cases h
   ·cases h
  ·cases h
 ·split at h
  ·rename_i k aa ae aG
   cases h
   have fR:aI G (S.den G N B e) x=_:=(bH hf x).trans (fX aa)
   have hp:aI G (S.den G N B e) i=_:=(bH hf i).trans (jw ae)
   obtain⟨g1,g2⟩:=zeV hf ae hn;exact qF (f:=.rQ k) (hx 0 _ rfl) (zeB _ k _ an (uW aG) hp fR g1 g2)
  ·cases h
theorem S9{e:Env}{c:bK}{i:Nat}{x:fN c}(h:Env.at e i=⟨.st c,x⟩):(ab.ip c i 0).den G e= .av (.ptr (b9 c x)):=by
 simp only[ab.den,h,cA,List.drop_zero]
theorem Ta{c:bK}{l:List (fN c)}{z:Int}(aL:0≤z)(aa:z<(l.length:Int)):l[z.toNat]? =some (l.getD z.toNat (aA c)):=by
 have:z.toNat<l.length:=by omega
 rw[List.getD_eq_getElem?_getD,List.getElem?_eq_getElem this]
 rfl
theorem Es{e:Env}{x:ab}{c:bK}(h:vp x=some c):x.den G e= .av (.li c (x.az e (.li c)))∧x.rt=some (.li c):=by
 unfold vp at h
 split at h
 ·rename_i lO ag
  cases h;exact⟨fX ag,ag⟩
 ·cases h
theorem ze9{s:aO}{x:Operand}{t:TypeId}(an:o.op= .call {callee:=.builtin .len,args:=#[x],argTypes:=#[t]})(aG:isSlice P t=true){id n:Nat}(hx:aI G s x= .dz id n){bt:TypeId}{cs:List aD}(bc:aE s.heap id=some (.box bt cs)):cP P G o s (.av (.v (.int .i64 (n:Int)))):=
 fun E a w β ro ag=>by
  have h:=ag.eval x
  rw[hx]at h;generalize hc:a.eval x=c at h
  cases h with
  |dz _ _ _ aq ak=>
   obtain⟨b,_,rfl⟩:=ak _ _ bc;unfold isSlice at aG
   split at aG
   ·rename_i e hu
    refine⟨.int .i64 n,?_,.fD rfl⟩
    simp[execOp,an,resolve,invoke,builtin,hc,Builtin.len_,run_underlying hu,goInt]
   ·cases aG
theorem zfa{s:aO}{x y:Operand}{t:TypeId}(an:o.op= .indexAddr t x y){wz:Nat}(aG:j6 P t=some wz){k:IntKind}{j n:Nat}(ax:aI G s y= .av (.v (.int k (j:Int))))(af:j<n){id:Nat}(hx:aI G s x= .dz id n){bt:TypeId}{cs:List aD}(bc:aE s.heap id=some (.box bt cs)):cP P G o s (.ptr id (j*wz)):=
 fun E a w β ro ag=>by
  have h:=ag.eval x
  rw[hx]at h;generalize hc:a.eval x=c at h
  cases h with
  |dz _ _ _ aq ak=>
   obtain⟨b,ad,rfl⟩:=ak _ _ bc;obtain⟨e,hu,bM⟩:=zT aG;refine⟨.pointer (some ⟨b,j*wz,none⟩),?_,.ptr _ _ _ aq fun bC cs' _=>⟨b,ad,rfl⟩⟩
   by_cases aR:j*wz=0<;>simp[execOp,an,hc,ag.ee ax,Instr.indexAt,asIntOf,run_underlying hu,af,bM,Addr.add,aR]
theorem zfb(cB:ByteArray)(c:Int):Extern.BytealgIndexByte.indexByte #[.string cB,.int .u8 c]=pure (.int .i64 (D1 cB c)):=by
 have hi:Extern.BytealgIndexByte.indexByte #[.string cB,.int .u8 c]=(match(List.range cB.size).find? fun i=>cB[i]! ==c.toNat.toUInt8 with
  |some i=>pure (goInt i)
  |none=>pure (goInt (-1))):=rfl
 rw[hi]
 unfold D1
 cases List.find? (fun i=>cB[i]! ==c.toNat.toUInt8) (List.range cB.size)<;>rfl
theorem Et{a b:String}(h:(a==b)=true):a=b:=by simpa using h
theorem zfc{f:Operand}{as:List Operand}{args:Array Operand}{ts:Array TypeId}{r:dr}(an:o.op= .call {callee:=.value f,args:=args,argTypes:=ts})(aZ:args.toList=as)(h:Lq P S (S.aY N f) (as.map (S.aY N))=some r):ik P G N B M o S r:=fun e hf hx hn=>by
 unfold Lq at h
 split at h
 rotate_left
 ·cases h
 rename_i Tb vq
 have xF:aI G (S.den G N B e) f= .fn (.func Tb) [] []:=by rw[bH hf,vq];rfl
 have start: ∀{ev:Array Value→Sem Value} {fn:Func},P.funcs[Tb]? =some fn→fn.body.isNone=true→(fn.name== "runtime.NumGoroutine")=false→Extern.findNext fn=none→Extern.find fn=some ev→∀E a w β ro,c2 E G (S.den G N B e) a w β ro→(execOp a.eval o).run P w=((ev (args.map a.eval)).run P w).andThen fun v w'=>.ok (.value v) w':=fun {ev fn} aa ae au aP bE E a w β ro ag=>by
  have hc:=ag.eval f
  rw[xF]at hc;generalize he:a.eval f=Kf at hc
  cases hc with
  |fn _ _ _ c d g1 g2 _ _=>
   have hC:c= #[]:=by simpa using g1
   have ow:d= #[]:=by simpa using g2
   subst hC ow;simp only[execOp,an,resolve,he,Deferred.ofValue,Sem.run_bind,Sem.run_pure,Result.andThen_ok,invoke,Array.empty_append,Array.append_empty];exact run_callFunc_extern aa au ae aP bE _ w
 split at h
 ·rename_i x aj aq
  cases h;unfold Lp at aj
  split at aj
  rotate_left
  ·cases aj
  rename_i fn mb
  split at aj
  ·rename_i _ AG wV
   simp only[Bool.and_eq_true]at AG;obtain⟨ad,gJ⟩:=AG
   have hn:=Et wV
   have gJ:=Et gJ
   obtain⟨y,rfl⟩: ∃y,as=[y]:=by
    match as,aq with
    |[y],_=>exact⟨y,rfl⟩
   simp only[List.map_cons,List.map_nil,List.cons.injEq,and_true]at aq
   have h2:args= #[y]:=by rw[←Array.toList_inj];exact aZ
   intro E a w β ro ag;refine⟨a.eval y,?_,by have:=ag.eval y;rw[bH hf,aq]at this;exact this⟩
   rw[start (ev:=Extern.AbiNoEscape.same) mb ad (by rw[hn];rfl) (by unfold Extern.findNext;simp only[hn,gJ];rfl) (by unfold Extern.find;simp only[hn,gJ];rfl) E a w β ro ag,h2]
   have hm:(#[y]:Array Operand).map a.eval= #[a.eval y]:=by simp
   rw[hm];rfl
  ·cases aj
  ·cases aj
 ·rename_i x z aj aq
  split at h
  ·rename_i g1 g2
   cases h;unfold Lp at aj
   split at aj
   rotate_left
   ·cases aj
   rename_i fn mb
   split at aj
   ·cases aj
   ·rename_i AG _ wV
    simp only[Bool.and_eq_true]at AG;obtain⟨ad,gJ⟩:=AG
    have hn:=Et wV
    have gJ:=Et gJ
    obtain⟨y,u,rfl⟩: ∃y u,as=[y,u]:=by
     match as,aq with
     |[y,u],_=>exact⟨y,u,rfl⟩
    simp only[List.map_cons,List.map_nil,List.cons.injEq,and_true]at aq
    have h2:args= #[y,u]:=by rw[←Array.toList_inj];exact aZ
    have ax:aI G (S.den G N B e) y= .av (.v (.string (x.az e .str))):=by rw[bH hf,aq.1];exact fX g1
    have hu:aI G (S.den G N B e) u= .av (.v (.int .u8 (z.az e (.int .u8)))):=by rw[bH hf,aq.2];exact fX g2
    refine qF (f:=.xm) (hx 0 _ rfl) fun E a w β ro ag=>?_
    refine⟨.int .i64 (D1 (x.az e .str) (z.az e (.int .u8))),?_,.fD rfl⟩
    rw[start (ev:=Extern.BytealgIndexByte.indexByte) mb ad (by rw[hn];rfl) (by unfold Extern.findNext;simp only[hn,gJ];rfl) (by unfold Extern.find;simp only[hn,gJ];rfl) E a w β ro ag,h2]
    have hm:(#[y,u]:Array Operand).map a.eval= #[.string (x.az e .str),.int .u8 (z.az e (.int .u8))]:=by simp[ag.ee ax,ag.ee hu]
    rw[hm];rw[zfb];rfl
   ·cases aj
  ·cases h
 ·cases h
theorem zfd{t:TypeId}{x i:Operand}{r:dr}(an:o.op= .indexAddr t x i)(h:Lr P S t (S.aY N x) (S.aY N i)=some r):ik P G N B M o S r:=fun e hf hx hn=>by
 unfold Lr at h
 split at h
 ·rename_i k hi
  have hp:aI G (S.den G N B e) i=_:=(bH hf i).trans (jw hi)
  split at h
  ·rename_i n lT
   split at h
   ·rename_i id bc
    split at h
    ·rename_i bC c y ah
     split at h
     ·rename_i ad
      cases h
      have ad:=Nat.eq_of_beq_eq_true ad
      obtain⟨g1,g2⟩:=xy hf hi hn;obtain⟨j,af⟩: ∃j:Nat,(S.aY N i).az e (.int k)=(j:Int):=⟨_,(Int.toNat_of_nonneg g1).symm⟩;rw[af]at hp g2
      have g2:(j:Int)<((List.length (y.az e (.li c)):Nat):Int):=g2
      have:=RD t x i an lT hp (p:=.cV id j 0) (by
       rw[bH hf,bc];simp only[ab.den,mn,ao.den,eh,ah,Option.map_some,bF.den]
       rw[if_pos ⟨ad.symm,by rw[List.length_map];omega⟩])
      simp only[ab.den,lS hi,af,Int.toNat_natCast];exact this
     ·cases h
    ·cases h
   ·rename_i id m bc
    split at h
    ·rename_i bt l bj j ah oN
     split at h
     ·rename_i RH
      cases h;exact zfa an lT (k:=bj) (j:=j) (by rw[bH hf,oN];rfl) (e6 RH) (id:=id) (bt:=bt) (cs:=ab.bP G e l) (by rw[bH hf,bc];rfl) (by simp only[ao.den,eh,ah,Option.map_some,bF.den])
     ·cases h
    ·cases h
   ·split at h
    ·rename_i c hc
     split at h
     ·rename_i ad
      cases h
      have ad:=Nat.eq_of_beq_eq_true ad
      rw[ad]at lT;obtain⟨hd,AH⟩:=Es (G:=G) (e:=e) hc;obtain⟨g1,g2⟩:=xy hf hi hn
      have:=(SD c _ k _ an lT hp ((bH hf x).trans hd) g1 g2).v
      have aL:Env.at e S.k=_:=hx 0 _ rfl
      have aa:=S9 (G:=G) (x:=List.getD ((S.aY N x).az e (.li c)) (Int.toNat ((S.aY N i).az e (.int k))) (aA c)) aL
      show cP P G o _ ((ab.ip c S.k 0).den G e);rw[aa];exact this
     ·cases h
    ·split at h
     ·rename_i c rJ _
      cases h
      have jq:=hn _ (List.mem_singleton.2 rfl)
      have aR:(S.aY N x).az e (.li c)=[]:=by
       unfold ab.isNil at rJ
       split at rJ
       ·rename_i aH
        simp only[aH,ab.az,ab.fq,cA]
       ·cases rJ
      simp only[fe.ok,cC.vg,aR]at jq
      have ae:(S.aY N i).az e (.int k)<((List.length ([]:List (fN c)):Nat):Int):=jq.2
      have au:0≤(S.aY N i).az e (.int k):=jq.1
      exact absurd (Int.lt_of_le_of_lt au ae) (Int.lt_irrefl _)
     ·cases h
  ·split at h
   ·rename_i len n l aZ aq
    have dI:=AD (G:=G) (N:=N) (B:=B) (e:=e) aq
    rw[←bH (B:=B) hf]at dI
    split at h
    ·rename_i bj j af
     split at h
     ·rename_i p cL ak
      cases h
      have cL:=e6 cL
      refine Kl t x i an aZ (k:=bj) (j:=j) (by rw[bH hf,af];rfl) cL dI ?_
      have ai:=AE (G:=G) (e:=e) ak
      rw[←ai,←bH (N:=N) (B:=B) hf];revert dI
      cases aI G (S.den G N B e) x<;>intro dI<;>first|(simp[fo]at dI;done)|skip
      all_goals rename_i y
      ·cases y<;>first|(simp[fo]at dI;done)|rfl
      ·rfl
      ·rfl
     ·cases h
    ·rename_i id off bc _
     cases h
     have jq:0≤cl ((S.aY N i).dyn e)∧cl ((S.aY N i).dyn e)<(len:Int):=Ee hf hn
     obtain⟨j,af⟩: ∃j:Nat,cl ((S.aY N i).dyn e)=(j:Int):=⟨_,(Int.toNat_of_nonneg jq.1).symm⟩;rw[←lS hi,af]at hp;refine Kl t x i an aZ hp (by omega) dI ?_
     rw[bH hf,bc];simp only[ab.den,iO,af,Int.toNat_natCast]
    ·cases h
   ·cases h
 ·cases h
theorem zfe{t:TypeId}{x:Operand}{r:dr}(an:o.op= .load t x)(h:Ls P S t (S.aY N x)=some r):ik P G N B M o S r:=fun e hf hx hn=>by
 unfold Ls at h
 split at h
 ·rename_i id i off ak
  split at h
  ·rename_i bC c y k ah hi
   split at h
   ·rename_i v aw ax
    cases h;obtain⟨g1,g2⟩:=xy hf hi hn
    have aL:Env.at e S.k=⟨.st c,List.getD (y.az e (.li c)) (i.az e (.int k)).toNat (aA c)⟩:=hx 0 _ rfl
    refine Ht an ?_ aw
    rw[bH hf,ak];simp only[ab.den,fo,ao.den,eh,ah,Option.map_some,bF.den,lS hi];rw[List.getElem?_map,Ta g1 g2]
    simp only[Option.map_some,Option.some.injEq];rw[Li,ta,aL,cA,List.map_drop]
   ·cases h
  ·cases h
 ·rename_i id off i ak
  split at h
  ·rename_i bC l k ah hi
   split at h
   ·rename_i q aH
    split at h
    ·rename_i aZ
     cases h;simp only[Bool.and_eq_true]at aZ
     have jq:0≤cl (i.dyn e)∧cl (i.dyn e)<((l.drop off).length:Int):=Ee hf hn
     obtain⟨j,af⟩: ∃j:Nat,cl (i.dyn e)=(j:Int):=⟨_,(Int.toNat_of_nonneg jq.1).symm⟩
     have cL:j<(l.drop off).length:=by omega
     have aw:(l.drop off)[j]? =some (l.drop off)[j]:=List.getElem?_eq_getElem cL
     have hd:(l.drop off).drop j=(l.drop off)[j]::(l.drop off).drop (j+1):=List.drop_eq_getElem_cons cL
     have:=JZ t x an aZ.2.2 (y:=((l.drop off)[j]).den G e) (cs:=ab.bP G e ((l.drop off).drop (j+1))) (s:=S.den G N B e) (G:=G) (by
      rw[bH hf,ak];simp only[ab.den,fo,ao.den,eh,ah,Option.map_some,bF.den,af,Int.toNat_natCast,Nat.mul_one,Option.some.injEq];rw[←Li,←List.drop_drop,hd]
      rfl)
     refine this.sub ?_
     have aL:Env.at e S.k=_:=hx 0 _ rfl
     simp only[ab.den,aL,bJ.den,cA,af,Int.toNat_natCast];exact LK aZ.1 aw
    ·cases h
   ·cases h
  ·cases h
 ·split at h
  ·rename_i l aq
   split at h
   ·rename_i v aw
    cases h;refine Ht an ?_ aw
    rw[bH hf];exact AD aq
   ·cases h
  ·cases h
theorem zff{t:TypeId}{x:Operand}{r:dr}(an:o.op= .call {callee:=.builtin .len,args:=#[x],argTypes:=#[t]})(h:Lt P S t (S.aY N x)=some r):ik P G N B M o S r:=fun e hf hx hn=>by
 unfold Lt at h
 split at h
 ·rename_i ak
  split at h
  ·rename_i aG
   cases h;exact Kj x t an aG (m:=0) (by rw[bH hf,ak];rfl)
  ·cases h
 ·rename_i b ak
  split at h
  ·rename_i aG
   cases h;exact Kk x t an (uW aG) (by rw[bH hf,ak];rfl)
  ·cases h
 ·rename_i id n ak
  split at h
  ·rename_i bt l ah aG
   cases h;exact ze9 an aG (id:=id) (bt:=bt) (cs:=ab.bP G e l) (by rw[bH hf,ak];rfl) (by simp only[ao.den,eh,ah,Option.map_some,bF.den])
  ·cases h
 ·rename_i id ak
  split at h
  ·rename_i bC c y ah
   split at h
   ·rename_i aG
    cases h;refine qG (f:=.iT c) (hx 0 _ rfl) (Kj x t an aG (m:=List.length (y.az e (.li c))) ?_)
    rw[bH hf,ak];simp only[ab.den,lg,ao.den,eh,ah,Option.map_some,bF.den,List.length_map]
   ·cases h
  ·cases h
 ·split at h
  ·rename_i ag
   split at h
   ·rename_i aG
    cases h;exact qG (f:=.n5) (hx 0 _ rfl) (Kk x t an (uW aG) ((bH hf x).trans (fX ag)))
   ·cases h
  ·rename_i c ag
   split at h
   ·rename_i aG
    cases h;exact qG (f:=.iT c) (hx 0 _ rfl) (zeC c _ an aG ((bH hf x).trans (fX ag)))
   ·cases h
  ·split at h
   ·rename_i n LL
    cases h;exact RA x t an LL
   ·cases h
theorem xG{e:Env}(hf: ∀c∈S.g,c.ok e){lo:Option Operand}{l:Option ab}(h:xE N S lo=some l):Aw G (S.den G N B e) lo (mA e l):=by
 unfold xE at h
 split at h
 ·cases h;trivial
 ·split at h
  ·rename_i y k ag
   cases h;exact⟨k,by rw[bH hf,jw ag,lS ag]⟩
  ·cases h
theorem Tc{t:TypeId}{x:Operand}{lo hi:Option Operand}{r:dr}(an:o.op= .slice t x lo hi none)(h:El P N S t (S.aY N x) lo hi=some r):ik P G N B M o S r:=fun e hf hx hn=>by
 unfold El at h
 split at h
 ·rename_i l h' aq ba
  split at h
  ·rename_i ag
   split at h
   ·rename_i aG
    cases h
    have aL:Env.at e S.k=_:=hx 0 _ rfl
    simp only[ab.den,aL,bJ.den,cA];refine zeQ _ an (uW aG) ((bH hf x).trans (fX ag)) (xG hf aq) (xG hf ba) ?_
    cases l<;>cases h'<;>first|trivial|exact hn _ (List.mem_singleton.2 rfl)
   ·cases h
  ·rename_i c ag
   split at h
   ·rename_i n lT
    split at h
    ·rename_i ad
     cases h;rw[Nat.eq_of_beq_eq_true ad]at lT
     have aL:Env.at e S.k=_:=hx 0 _ rfl
     simp only[ab.den,aL,bJ.den,cA];refine(SR c _ an lT ((bH hf x).trans (fX ag)) (xG hf aq) (xG hf ba) ?_).v
     cases l<;>cases h'<;>first|trivial|exact hn _ (List.mem_singleton.2 rfl)
    ·cases h
   ·cases h
  ·cases h
 ·cases h
theorem zfg{src dst:TypeId}{x:Operand}{r:dr}(an:o.op= .convert src dst x)(h:Lu P S src dst (S.aY N x)=some r):ik P G N B M o S r:=fun e hf hx hn=>by
 unfold Lu at h
 split at h
 ·rename_i id bc
  unfold S7 at h
  split at h
  ·rename_i bC y el ah ai
   split at h
   ·rename_i hu hd
    cases h;refine qG (f:=.cB) (hx 0 _ rfl) (KX src dst el x an ai hu hd (l:=y.az e (.li .u8)) ?_)
    rw[bH hf,bc];simp only[ab.den,fw,ao.den,eh,ah,Option.map_some,bF.den];rfl
   ·cases h
  ·cases h
 rename_i AI
 split at h
 ·rename_i k ag
  split at h
  ·rename_i ai hd
   cases h;exact qG (f:=.o9 k _) (hx 0 _ rfl) (RQ src dst x an (by rw[ai];rfl) hd ((bH hf x).trans (jw ag)))
  ·cases h
 ·rename_i ag
  split at h
  ·rename_i el ai
   split at h
   ·rename_i hu hd
    cases h;refine qG (f:=.cB) (hx 0 _ rfl) (KX src dst el x an ai hu hd (l:=(S.aY N x).az e (.li .u8)) ?_)
    rw[bH hf,fX ag];rfl
   ·cases h
  ·cases h
 ·cases h
theorem zfh{op:UnOp}{t:TypeId}{x:Operand}{r:dr}(an:o.op= .unOp op t x)(h:Lv S op (S.aY N x)=some r):ik P G N B M o S r:=fun e hf hx hn=>by
 unfold Lv at h
 split at h
 ·rename_i ag
  cases h;exact qG (f:=.nd) (hx 0 _ rfl) (Rp t x an ((bH hf x).trans (fX ag)))
 ·rename_i k ag
  cases h;exact qG (f:=.Aq k) (hx 0 _ rfl) (Rq t x an ((bH hf x).trans (jw ag)))
 ·rename_i k ag
  cases h
  have fR:aI G (S.den G N B e) x=_:=(bH hf x).trans (jw ag)
  exact qG (f:=.uL k) (hx 0 _ rfl) fun _ bb w β ro h=>⟨_,by simp[execOp,an,h.ee fR,Op.unary,Op.intBits,gF.den,aK.jD],.fD rfl⟩
 ·cases h
theorem zfi{t:TypeId}{ps:Array (Nat × Operand)}{r:dr}(an:o.op= .build t ps)(h:Lx P N S t ps.toList=some r):ik P G N B M o S r:=fun e hf hx hn=>by
 unfold Lx at h
 split at h
 ·rename_i pl zs rG aR
  split at h
  ·rename_i ad
   simp only[Bool.and_eq_true]at ad
   split at h
   ·rename_i ds hd
    cases h
    have aa:=Eg (G:=G) (e:=e) ad.2 hd
    have ae:ab.bP G e (zs.map .cs)=zs.map fun z=>.av (.v z):=by rw[e5,List.map_map];rfl
    rw[ae]at aa
    have au:(ps.toList.map fun p=>(p.1,aI G (S.den G N B e) p.2))=(ps.toList.map fun p=>(p.1,S.aY N p.2)).map fun p=>(p.1,p.2.den G e):=by
     rw[List.map_map];exact List.map_congr_left fun p _=>by simp[bH hf]
    refine RK t ps an rG aR ad.1 au ?_ aa
    rw[List.all_map];refine List.all_eq_true.2 fun p ak=>?_
    have:=List.all_eq_true.1 ad.2 p ak
    simp only[Function.comp];rw[vm this];exact xA this
   ·cases h
  ·cases h
 ·cases h
theorem zfj{t:TypeId}{x:Operand}{f:Nat}{r:dr}(an:o.op= .field t x f)(h:Ly P t (S.aY N x) f=some r):ik P G N B M o S r:=fun e hf hx hn=>by
 unfold Ly at h
 split at h
 ·rename_i l off aq ak
  split at h
  ·rename_i v aw
   cases h;exact RF t x f an ak (by rw[bH hf,aq];rfl) (Er aw)
  ·cases h
 ·rename_i l off n aq ak
  split at h
  ·rename_i ad
   cases h
   have:=RG t x f an ak (s:=S.den G N B e) (G:=G) (cs:=ab.bP G e l) (by rw[bH hf,aq];rfl) (by rw[mc];exact Nat.le_of_ble_eq_true ad)
   simp only[ab.den];rw[e5,List.map_take,List.map_drop,←e5];exact this
  ·cases h
 ·cases h
theorem zfk{b:Builtin}{x y:Operand}{ts:Array TypeId}{r:dr}(an:o.op= .call {callee:=.builtin b,args:=#[x,y],argTypes:=ts})(h:LA S b (S.aY N x) (S.aY N y)=some r):ik P G N B M o S r:=fun e hf hx hn=>by
 unfold LA at h
 split at h
 ·rename_i k bj aa ae
  split at h
  ·rename_i aj
   cases h
   have aj:=of_decide_eq_true aj
   subst aj;exact qF (f:=.uM k) (hx 0 _ rfl) (RR x y ts an ((bH hf x).trans (jw aa)) ((bH hf y).trans (jw ae)))
  ·cases h
 ·rename_i k bj aa ae
  split at h
  ·rename_i aj
   cases h
   have aj:=of_decide_eq_true aj
   subst aj;exact qF (f:=.mx k) (hx 0 _ rfl) (RS x y ts an ((bH hf x).trans (jw aa)) ((bH hf y).trans (jw ae)))
  ·cases h
 ·cases h
theorem zfl{t:TypeId}(h:Em P t=true): ∃gN i,P.underlying t=some (.pointer gN)∧P.info? gN=some i∧i.size≠0:=by
 unfold Em at h
 split at h
 ·rename_i e hu
  cases hi:P.info? e with
  |none=>rw[hi]at h;cases h
  |some i=>
   rw[hi]at h;simp only[Option.isSome_some,Bool.true_and,Option.map_some]at h;refine⟨e,i,hu,hi,fun aR=>?_⟩
   rw[aR]at h;cases h
 ·cases h
theorem LM{id:Nat}{e:Env}(h:AF S id=true): ∃t cs,aE (S.den G N B e).heap id=some (.box t cs):=by
 unfold AF at h
 split at h
 ·rename_i t l ah
  exact⟨t,ab.bP G e l,by simp only[ao.den,eh,ah,Option.map_some,bF.den]⟩
 ·cases h
theorem Td{s:aO}{b:Bool}{g:ab}{r:dr}{e:Env}(h:En S b g=some r)(hx: ∀(j:Nat) (x:bJ),r.xs[j]? =some x→Env.at e (S.k+j)=x.den M e)(ai:cP P G o s (.av (.v (.bool (bif b then g.az e .bool else !(g.az e .bool)))))):cP P G o s (r.v.den G e):=by
 unfold En at h
 split at h
 ·rename_i ag
  cases h
  have:=fX (G:=G) (e:=e) ag
  show cP P G o s (g.den G e);rw[this];exact ai
 ·rename_i ag
  cases h;exact qG (f:=.nd) (hx 0 _ rfl) ai
 ·cases h
theorem zfm{tp gN:TypeId}{j:TypeInfo}(w:World)(a:Addr)(ak:P.underlying tp=some (.pointer gN))(zfn:P.info? gN=some j):(Op.equal tp (.pointer (some a)) (.pointer (some a))).run P w= .ok true w:=by
 have h: ∀d:Nat,(Op.equalIn (d+1) tp (.pointer (some a)) (.pointer (some a))).run P w= .ok true w:=fun d=>by
  simp[Op.equalIn,run_underlying ak,sizeOf,typeInfo,zfn,run_sameAddr_same]
 exact h 9999
theorem eq_nil{tp gN:TypeId}(w:World)(q:Option Addr)(ak:P.underlying tp=some (.pointer gN)):(Op.equal tp (.pointer none) (.pointer q)).run P w= .ok q.isNone w:=by
 have h: ∀d:Nat,(Op.equalIn (d+1) tp (.pointer none) (.pointer q)).run P w= .ok q.isNone w:=fun d=>by
  cases q<;>simp[Op.equalIn,run_underlying ak]
 exact h 9999
theorem Eu{s:aO}{op:BinOp}{cv ty:TypeId}{x y:Operand}{b c:Bool}(an:o.op= .binOp op cv x y ty)(aG:Em P cv=true)(ad:LB op=some b)
 (h: ∀E a w β ro,c2 E G s a w β ro→∃p q,a.eval x= .pointer p∧a.eval y= .pointer q∧((q=none∧c=p.isNone)∨(p=none∧c=q.isNone)∨(∃cW,p=some cW∧q=some cW∧c=true))):cP P G o s (.av (.v (.bool (bif b then c else !c)))):=
 fun E a w β ro ag=>by
  obtain⟨gN,i,hu,hi,bM⟩:=zfl aG;obtain⟨p,q,aa,ae,au⟩:=h E a w β ro ag;refine⟨.bool (bif b then c else !c),?_,.fD rfl⟩
  have zfo:P.underlying cv=some (.pointer (P.pointee cv)):=by rw[hu];simp[Program.pointee,hu]
  have heq:(Op.equal cv (.pointer p) (.pointer q)).run P w= .ok c w:=by
   rcases au with⟨rfl,rfl⟩|⟨rfl,rfl⟩|⟨cW,rfl,rfl,rfl⟩
   ·exact run_equal_pointer_nil w cv p zfo
   ·exact eq_nil w q hu
   ·exact zfm w cW hu hi
  unfold LB at ad
  split at ad
  ·cases ad
   have:(binOp .eql cv (.pointer p) (.pointer q)).run P w= .ok (.bool c) w:=by
    simp only[binOp];simp[heq]
   simp[execOp,an,aa,ae,eqGuard_at_pointer,this]
  ·cases ad
   have:(binOp .neq cv (.pointer p) (.pointer q)).run P w= .ok (.bool (!c)) w:=by
    simp only[binOp];simp[heq]
   simp[execOp,an,aa,ae,eqGuard_at_pointer,this]
  ·cases ad
theorem AJ{E:Entry}{s:aO}{a:Act}{w:World}{β:Nat→Value}{ro:Nat→Prop}{x:Operand}(ag:c2 E G s a w β ro)(hx:aI G s x= .av (.v (.pointer none))):a.eval x= .pointer none:=ag.ee hx
theorem tq{E:Entry}{s:aO}{a:Act}{w:World}{β:Nat→Value}{ro:Nat→Prop}{x:Operand}{id off:Nat}{t:TypeId}{cs:List aD}(ag:c2 E G s a w β ro)(hx:aI G s x= .ptr id off)(ah:aE s.heap id=some (.box t cs)):
 ∃b,β id= .pointer (some ⟨b,0,none⟩)∧a.eval x= .pointer (some ⟨b,off,none⟩):=by
 have h:=ag.eval x
 rw[hx]at h
 generalize hc:a.eval x=c at h
 cases h with
 |ptr _ _ _ aq ak=>exact ak _ _ ah
theorem zfp{op:BinOp}{cv ty:TypeId}{x y:Operand}{r:dr}(an:o.op= .binOp op cv x y ty)(h:LC P S op cv (S.aY N x) (S.aY N y)=some r):ik P G N B M o S r:=fun e hf hx hn=>by
 unfold LC at h
 split at h
 rotate_left
 ·cases h
 rename_i b aG ad
 split at h
 ·rename_i aa ae
  cases h
  have:=Eu (G:=G) (s:=S.den G N B e) (c:=true) an aG ad fun E a w β ro ag=>⟨none,none,AJ ag (by rw[bH hf,aa];rfl),AJ ag (by rw[bH hf,ae];rfl),.inl ⟨rfl,rfl⟩⟩
  cases b<;>exact this
 ·rename_i i q j q' aa ae
  split at h
  ·rename_i hc
   cases h;simp only[Bool.and_eq_true]at hc;obtain⟨⟨aV,dp⟩,c7⟩:=hc
   have aV:=Nat.eq_of_beq_eq_true aV
   have dp:=Nat.eq_of_beq_eq_true dp
   subst aV dp;obtain⟨bt,cs,ah⟩:=LM (G:=G) (N:=N) (B:=B) (e:=e) c7
   have:=Eu (G:=G) (s:=S.den G N B e) (c:=true) an aG ad fun E a w β ro ag=>by
    obtain⟨gp,g1,g2⟩:=tq ag (by rw[bH hf,aa];rfl) ah
    obtain⟨im,g3,g4⟩:=tq ag (by rw[bH hf,ae];rfl) ah
    rw[g1]at g3
    cases g3
    exact⟨_,_,g2,g4,.inr (.inr ⟨_,rfl,rfl,rfl⟩)⟩
   cases b<;>exact this
  ·cases h
 ·rename_i g i off aa ae
  split at h
  ·rename_i hc
   obtain⟨bt,cs,ah⟩:=LM (G:=G) (N:=N) (B:=B) (e:=e) hc;refine Td h hx ?_
   have:=Eu (G:=G) (s:=S.den G N B e) (c:=!(g.az e .bool)) an aG ad fun E a w β ro ag=>by
    have Ev:a.eval y= .pointer none:=AJ ag (by rw[bH hf,ae];rfl)
    have hd:aI G (S.den G N B e) x=(ab.fi g (some i) off).den G e:=by rw[bH hf,aa]
    simp only[ab.den]at hd
    cases tr:g.az e .bool with
    |true=>
     rw[tr]at hd;obtain⟨gp,g1,g2⟩:=tq ag hd ah;exact⟨_,_,g2,Ev,.inl ⟨rfl,rfl⟩⟩
    |false=>
     rw[tr]at hd;exact⟨_,_,AJ ag hd,Ev,.inl ⟨rfl,rfl⟩⟩
   cases b<;>simpa using this
  ·cases h
 ·rename_i g i q j q' aa ae
  split at h
  ·rename_i hc
   simp only[Bool.and_eq_true]at hc;obtain⟨⟨aV,dp⟩,c7⟩:=hc
   have aV:=Nat.eq_of_beq_eq_true aV
   have dp:=Nat.eq_of_beq_eq_true dp
   subst aV dp;obtain⟨bt,cs,ah⟩:=LM (G:=G) (N:=N) (B:=B) (e:=e) c7;refine Td h hx ?_
   refine Eu (G:=G) (s:=S.den G N B e) (c:=g.az e .bool) an aG ad fun E a w β ro ag=>?_
   obtain⟨im,g3,g4⟩:=tq ag (by rw[bH hf,ae];rfl) ah
   have hd:aI G (S.den G N B e) x=(ab.fi g (some i) q).den G e:=by rw[bH hf,aa]
   simp only[ab.den]at hd
   cases tr:g.az e .bool with
   |true=>
    rw[tr]at hd;obtain⟨gp,g1,g2⟩:=tq ag hd ah;rw[g1]at g3
    cases g3
    exact⟨_,_,g2,g4,.inr (.inr ⟨_,rfl,rfl,rfl⟩)⟩
   |false=>
    rw[tr]at hd;exact⟨_,_,AJ ag hd,g4,.inr (.inl ⟨rfl,rfl⟩)⟩
  ·cases h
 ·cases h
theorem Te{E:Entry}{s:aO}{a:Act}{w:World}{β:Nat→Value}{ro:Nat→Prop}{id off b:Nat}{t:TypeId}{cs:List aD}(ag:c2 E G s a w β ro)(ah:aE s.heap id=some (.box t cs))(ad:β id= .pointer (some ⟨b,0,none⟩))(aq:off<cs.length):
 ∃arr v,w.heap[b]? =some (.cells arr t (0,0))∧arr.size=cs.length∧w.cell? ⟨b,off,none⟩=some v:=by
 have dg:=ag.heap.c5 id _ ah
 cases dg with
 |box _ _ b' arr aa ae au aP=>
  rw[ad]at aa;simp only[Value.pointer.injEq,Option.some.injEq,Addr.mk.injEq,and_true]at aa;subst aa;refine⟨arr,arr[off]'(by omega),ae,au,?_⟩
  have bG:off<arr.size:=by omega
  simp[World.cell?,ae,bG]
theorem zfq{src dst:TypeId}{x:Operand}{r:dr}(an:o.op= .convert src dst x)(h:LD P S src dst (S.aY N x)=some r):ik P G N B M o S r:=fun e hf hx hn=>by
 unfold LD at h
 split at h
 rotate_left
 ·cases h
 rename_i id off aw
 have hd:aI G (S.den G N B e) x= .ptr id off:=by rw[bH hf,aw];rfl
 split at h
 ·rename_i bt l t ah ai qw
  split at h
  ·rename_i aR bG
   cases h;rw[aw]
   have ba:aE (S.den G N B e).heap id=some (.box bt (ab.bP G e l)):=by simp only[ao.den,eh,ah,Option.map_some,bF.den]
   intro E a w β ro ag;obtain⟨b,ad,he⟩:=tq ag hd ba;obtain⟨arr,v,_,_,hc⟩:=Te (off:=off) ag ba ad (by rw[mc];exact e6 bG)
   refine⟨.pointer (some ⟨b,off,none⟩),?_,by have:=ag.eval x;rw[hd,he]at this;exact this⟩
   simp only[execOp,an,he,Sem.run_bind,run_convert_to_unsafe ai qw aR hc,Result.andThen_ok,Sem.run_pure]
  ·cases h
 ·rename_i bt l u ah ai qw
  split at h
  ·rename_i xH bG
   cases h;rw[aw]
   have ba:aE (S.den G N B e).heap id=some (.box bt (ab.bP G e l)):=by simp only[ao.den,eh,ah,Option.map_some,bF.den]
   intro E a w β ro ag;obtain⟨b,ad,he⟩:=tq ag hd ba;obtain⟨arr,v,eV,bM,hc⟩:=Te (off:=off) ag ba ad (by rw[mc];exact e6 bG)
   refine⟨.pointer (some ⟨b,off,none⟩),?_,by have:=ag.eval x;rw[hd,he]at this;exact this⟩
   rw[mc]at bM
   have Tf:w.shape? b=some (bt,l.length):=by simp[World.shape?,eV,bM]
   have zfr:(convert src dst (.pointer (some ⟨b,off,none⟩))).run P w= .ok (.pointer (some ⟨b,off,none⟩)) w:=by
    rw[Bool.and_eq_true]at xH;obtain⟨i,hi⟩:=Option.isSome_iff_exists.1 xH.2
    have xH:=xH.1
    by_cases aR:i.size=0
    ·simp[convert,Conv.unsafePointer,Conv.seenAt,viewAt,variablesAt,sizeOf,typeInfo,run_underlying ai,run_underlying qw,hi,aR,Tf,xH,Result.andThen]
    ·simp[convert,Conv.unsafePointer,Conv.seenAt,viewAt,variablesAt,sizeOf,typeInfo,run_underlying ai,run_underlying qw,hi,aR,Tf,xH,Result.andThen]
   simp only[execOp,an,he,Sem.run_bind,zfr,Result.andThen_ok,Sem.run_pure]
  ·cases h
 ·cases h
theorem zfs{t:TypeId}{x:Operand}{r:dr}(an:o.op= .slice t x none none none)(h:LF P S t (S.aY N x)=some r):ik P G N B M o S r:=fun e hf hx hn=>by
 unfold LF at h
 split at h
 ·rename_i id n el aw aG
  split at h
  ·rename_i bt l ah hc
   cases h;simp only[Bool.and_eq_true]at hc
   have jq:=e6 hc.1
   obtain⟨zjW,mZ⟩:=Option.isSome_iff_exists.1 hc.2
   have hd:aI G (S.den G N B e) x= .ptr id 0:=by rw[bH hf,aw];rfl
   have ba:aE (S.den G N B e).heap id=some (.box bt (ab.bP G e l)):=by simp only[ao.den,eh,ah,Option.map_some,bF.den]
   intro E a w β ro ag;obtain⟨b,ad,he⟩:=tq ag hd ba
   have dS:=ag.eval x
   rw[hd,he]at dS
   have bG:id<(S.den G N B e).next:=by cases dS with|ptr _ _ _ aq _=>exact aq
   refine⟨.slice (some ⟨b,0,none⟩) n n,?_,.dz _ _ _ bG fun _ _ _=>⟨b,ad,rfl⟩⟩
   have b3: ¬n=0:=by omega
   simp[execOp,an,he,Instr.sliceAt,run_underlying aG,Instr.sureAddr,Instr.sliceBounds,sizeOf,typeInfo,mZ,b3,addLit,Result.andThen]
  ·cases h
 ·cases h
theorem Tg{e:Env}: ∀{l:List ab},mB e .u8 (l.map fun x=>.cg [x])=l.map fun x=>x.az e (.int .u8)
 |[]=>rfl
 |x::r=>by
  simp only[List.map_cons,mB,Tg (l:=r)];rfl
theorem Th{e:Env}: ∀{l:List ab},l.all (ab.ey (.int .u8))=true→ab.bP G e l=(l.map fun x=>x.az e (.int .u8)).map fun n=>aD.av (.v (.int .u8 n))
 |[],_=>rfl
 |x::r,h=>by
  simp only[List.all_cons,Bool.and_eq_true]at h;simp only[ab.bP,List.map_cons,DZ h.1,Th h.2]
theorem zft{src dst:TypeId}{x:Operand}{r:dr}(an:o.op= .convert src dst x)(h:LG P S src dst (S.aY N x)=some r):ik P G N B M o S r:=fun e hf hx hn=>by
 unfold LG at h
 split at h
 ·rename_i id n el aw ai
  split at h
  ·rename_i bt l ah hu qw
   split at h
   ·rename_i hc
    cases h;simp only[Bool.and_eq_true]at hc
    have jq:=Nat.eq_of_beq_eq_true hc.1
    have aL:=hx 0 _ rfl
    have aa:=hx 1 _ rfl
    simp only[Nat.add_zero,bJ.den,gF.den,gF.a,gF.c]at aL aa
    have aq:(ab.aT (.li .u8) S.k).az e (.li .u8)=l.map fun x=>x.az e (.int .u8):=by
     simp only[ab.az,ab.fq,ab.dyn,aL,cA];exact Tg
    rw[aq]at aa;simp only[ab.den,aa,cA,fG,j8];generalize hm:(l.map fun x=>x.az e (.int .u8))=m
    have nn:m.length=n:=by rw[←hm,List.length_map,jq]
    have hd:aI G (S.den G N B e) x= .dz id n:=by rw[bH hf,aw];rfl
    have ba:aE (S.den G N B e).heap id=some (.box bt (m.map fun n=>.av (.v (.int .u8 n)))):=by
     simp only[ao.den,eh,ah,Option.map_some,bF.den];rw[Th hc.2,hm]
    intro E a w β ro ag
    have dS:=ag.eval x
    rw[hd]at dS;generalize iR:a.eval x=c at dS
    cases dS with
    |dz _ _ _ aq ak=>
     obtain⟨b,ad,rfl⟩:=ak _ _ ba
     have eV: ∀(j:Nat) (v:Value),(m.map (Value.int .u8))[j]? =some v→w.cell? ((⟨b,0,none⟩:Addr).add j)=some v:=fun j v af=>by
      have dg:=ag.heap.c5 id _ ba
      cases dg with
      |box _ _ b' arr g1 g2 g3 g4=>
       rw[ad]at g1;simp only[Value.pointer.injEq,Option.some.injEq,Addr.mk.injEq,and_true]at g1;subst g1;rw[List.getElem?_map]at af
       obtain⟨z,aR,rfl⟩:=Option.map_eq_some_iff.1 af
       have bG:j<arr.size:=by rw[g3,List.length_map];exact(List.getElem?_eq_some_iff.1 aR).1
       have Ew:=g4 j (.av (.v (.int .u8 z))) (by rw[List.getElem?_map,aR];rfl)
       rw[Array.getD_eq_getD_getElem?,Array.getElem?_eq_getElem bG,Option.getD_some]at Ew
       have zfu:arr[j]= .int .u8 z:=br.val Ew
       rw[addLit,Nat.zero_add];simp[World.cell?,g2,bG,zfu]
     have DA:=run_loadCells_list (P:=P) (w:=w) ⟨b,0,none⟩ (m.map (Value.int .u8)) eV
     refine⟨.string (bytesOf m),?_,.fD rfl⟩
     have cq:(convert src dst (.slice (some ⟨b,0,none⟩) n n)).run P w= .ok (.string (bytesOf m)) w:=by
      rw[run_convert_bytes_string w src dst el (some ⟨b,0,none⟩) n n ai hu qw,←nn];exact run_bytesToString w ⟨b,0,none⟩ m.length m.length m (by simpa using DA)
     simp[execOp,an,iR,cq]
   ·cases h
  ·cases h
 ·cases h
theorem Ex{G:a7}{e:Env}: ∀{l:List ab} {rs:List aU},pv l=some rs→ab.bP G e l=(fU e rs l).map fun d=>.av d.av
 |[],_,h=>by cases h;rfl
 |x::r,_,h=>by
  simp only[pv]at h
  split at h
  ·rename_i t l aa ae
   cases h;simp only[ab.bP,fX aa,Ex ae,fU,List.map_cons];rfl
  ·cases h
theorem Ti{t:TypeId}(h:Eo P t=false): ∃d,P.underlying t=some d∧∀m,d≠ .interface m:=by
 unfold Eo at h
 split at h
 ·cases h
 ·cases h
 ·rename_i d hd hn
  cases hu:P.underlying t with
  |none=>exact absurd hu hn
  |some d=>exact⟨d,rfl,fun m e=>hd m (by rw[hu,e])⟩
theorem zfv{w:World}{ro:Nat→Prop}{σ:Heap}{β:Nat→Value}{M:Nat}{t:TypeId}{ys:List a1}{c:Value}(h:br w ro σ β M (.agg (ys.map .av)) c):cQ w ro (.er t true ys) (.iface t c):=by
 generalize aR:ys.map aD.av=zs at h
 cases h with
 |agg _ arr aa ae=>
  subst aR;refine .er t true ys _ (fun i=>arr.getD i undef) ⟨arr,rfl,by rw[aa,List.length_map],fun i _=>rfl⟩ fun i x hx=>?_
  have:=ae i (.av x) (by rw[List.getElem?_map,hx];rfl)
  cases this with
  |av _ _ q=>exact q
theorem Tj{w:World}{ro:Nat→Prop}{σ:Heap}{β:Nat→Value}{M:Nat}{t:TypeId}{ys:List a1}{c:Value}(h:cQ w ro (.er t true ys) (.iface t c)):br w ro σ β M (.agg (ys.map .av)) c:=by
 cases h with
 |er _ _ _ _ p aa ae=>
  obtain⟨arr,rfl,au,aP⟩:=aa;refine .agg _ arr (by rw[au,List.length_map]) fun j x af=>?_
  rw[List.getElem?_map]at af
  obtain⟨y,ax,rfl⟩:=Option.map_eq_some_iff.1 af
  have aq:=(List.getElem?_eq_some_iff.1 ax).1
  rw[aP j aq];exact .av _ _ (ae j y ax)
theorem zfw{t:TypeId}{x:Operand}{r:dr}(an:o.op= .makeInterface t x)(h:LH P t (S.aY N x)=some r):ik P G N B M o S r:=fun e hf hx hn=>by
 unfold LH at h
 split at h
 ·cases h
 rename_i hi
 obtain⟨d,hd,eN⟩:=Ti hi
 have cq: ∀(v:Value) (w:World),(Instr.makeInterface t v).run P w= .ok (.iface t v) w:=fun v w=>by
  unfold Instr.makeInterface
  cases d<;>first|exact absurd rfl (eN _)|simp[run_underlying hd,Result.andThen]
 split at h
 ·rename_i l aw
  split at h
  ·rename_i rs gL
   cases h;intro E a w β ro ag
   have dS:=ag.eval x
   rw[bH hf,aw]at dS;simp only[ab.den,Ex gL]at dS;rw[show((fU e rs l).map fun d=>aD.av d.av)=((fU e rs l).map aF.av).map .av by rw[List.map_map];rfl]at dS
   exact⟨_,by simp[execOp,an,cq],.av _ _ (zfv dS)⟩
  ·cases h
 ·rename_i Ey
  split at h
  ·rename_i rt AH
   cases h;intro E a w β ro ag
   have dS:=ag.eval x
   rw[bH hf,fX AH]at dS;refine⟨_,by simp[execOp,an,cq];rfl,?_⟩
   cases dS with
   |av _ _ q=>
    refine .av _ _ (.er t false _ _ (fun _=>a.eval x) ⟨rfl,rfl⟩ fun i y ax=>?_)
    cases i with
    |zero=>
     simp only[fU,List.map_cons,List.map_nil,List.getElem?_cons_zero,Option.some.injEq]at ax
     subst ax;exact q
    |succ i=>simp[fU]at ax
  ·cases h
theorem zfx{e:Env}{x:Operand}{u:TypeId}{cg:Bool}{rs:List aU}{l:List ab}{y:ab}(hf: ∀c∈S.g,c.ok e)(aw:S.aY N x= .er u cg rs l)(ax:rZ cg l=some y)(gL:pv l=some rs){E:Entry}{a:Act}{w:World}{β:Nat→Value}{ro:Nat→Prop}(ag:c2 E G (S.den G N B e) a w β ro):
 ∃v,a.eval x= .iface u v∧br w ro (S.den G N B e).heap β (S.den G N B e).next (y.den G e) v:=by
 have dS:=ag.eval x
 rw[bH hf,aw]at dS
 simp only[ab.den]at dS
 generalize hc:a.eval x=o9 at dS
 cases dS with
 |av _ _ q=>
  cases q with
  |er _ _ _ v p aa ae=>
   refine⟨v,rfl,?_⟩
   unfold rZ at ax
   split at ax
   ·cases ax
    have:=Tj (σ:=(S.den G N B e).heap) (β:=β) (M:=(S.den G N B e).next) (.er u _ _ v p aa ae)
    rw[List.map_map]at this;simp only[ab.den,Ex gL];exact this
   ·rename_i ar
    cases ax;simp only[pv]at gL
    split at gL
    ·rename_i zfy qC sX wb
     cases wb
     cases gL;rw[fX sX];obtain⟨_,rfl⟩:=aa;exact .av _ _ (ae 0 _ rfl)
    ·cases gL
   ·cases ax
theorem zfz{k:Nat}{cg:Bool}{l:List ab}{y:ab}(h:ab.cK k l=true)(ax:rZ cg l=some y):y.lt k=true:=by
 unfold rZ at ax
 split at ax
 ·cases ax;exact h
 ·cases ax;simp only[ab.cK,Bool.and_true]at h;exact h
 ·cases ax
theorem zfA{x:Operand}{tt t:TypeId}{c:Bool}{r:dr}(an:o.op= .typeAssert x tt t c)(h:LJ P t (S.aY N x) c=some r):ik P G N B M o S r:=fun e hf hx hn=>by
 unfold LJ at h
 split at h
 rotate_left
 ·cases h
 rename_i u cg rs l aw hi
 obtain⟨d,hd,eN⟩:=Ti hi
 have aE: ∀{E:Entry} {a:Act} {w:World} {β:Nat→Value} {ro:Nat→Prop},c2 E G (S.den G N B e) a w β ro→∃v,a.eval x= .iface u v∧cQ w ro (.er u cg ((fU e rs l).map aF.av)) (.iface u v):=fun {E a w β ro} ag=>by
  have dS:=ag.eval x
  rw[bH hf,aw]at dS;simp only[ab.den]at dS;generalize hc:a.eval x=o9 at dS
  cases dS with
  |av _ _ q=>
   cases q with
   |er _ _ _ v p aa ae=>exact⟨v,rfl,.er _ _ _ v p aa ae⟩
 have qx: ∀{y:ab} {w:World} {β:Nat→Value} {ro:Nat→Prop} {v:Value},rZ cg l=some y→pv l=some rs→cQ w ro (.er u cg ((fU e rs l).map aF.av)) (.iface u v)→br w ro (S.den G N B e).heap β (S.den G N B e).next (y.den G e) v:=fun {y w β ro v} ax gL q=>by
  unfold rZ at ax
  split at ax
  ·cases ax
   have:=Tj (σ:=(S.den G N B e).heap) (β:=β) (M:=(S.den G N B e).next) q
   rw[List.map_map]at this;simp only[ab.den,Ex gL];exact this
  ·rename_i ar
   cases ax;simp only[pv]at gL
   split at gL
   ·rename_i zfy qC aa ae
    cases ae;cases gL;rw[fX aa]
    cases q with
    |er _ _ _ _ p g1 g2=>
     obtain⟨_,rfl⟩:=g1;exact .av _ _ (g2 0 _ rfl)
   ·cases gL
  ·cases ax
 have Tk: ∀(v:Value) (w:World),u=t→(Instr.typeAssert (.iface u v) tt t c).run P w= .ok (match c with|true=>.tuple #[v,.bool true]|false=>v) w:=fun v w vr=>by
  unfold Instr.typeAssert
  cases d<;>first|exact absurd rfl (eN _)|(cases c<;>simp[run_underlying hd,Result.andThen,vr])
 split at h
 ·rename_i ad _
  have vr:=Nat.eq_of_beq_eq_true ad
  split at h
  ·rename_i y ax gL
   cases h;intro E a w β ro ag;obtain⟨v,dS,q⟩:=aE ag;refine⟨.tuple #[v,.bool true],by simp[execOp,an,dS,Tk v w vr],.tuple _ _ rfl fun j z af=>?_⟩
   match j,af with
   |0,af=>simp[ab.den,ab.bP]at af;subst af;exact qx ax (of_decide_eq_true gL) q
   |1,af=>simp[ab.den,ab.bP]at af;subst af;exact .fD rfl
   |j+2,af=>simp[ab.den,ab.bP]at af
  ·cases h
 ·rename_i ad _
  have vr:=Nat.eq_of_beq_eq_true ad
  split at h
  ·rename_i y ax gL
   cases h;intro E a w β ro ag;obtain⟨v,dS,q⟩:=aE ag;exact⟨v,by simp[execOp,an,dS,Tk v w vr],qx ax (of_decide_eq_true gL) q⟩
  ·cases h
 ·rename_i ad _
  have vr: ¬u=t:=fun e=>by subst e;rw[show Nat.beq u u=true from Nat.beq_refl u]at ad;cases ad
  split at h
  ·rename_i z aR
   split at h
   ·rename_i nc
    cases h;intro E a w β ro ag;obtain⟨v,dS,q⟩:=aE ag
    have DR:(zeroValue t).run P w= .ok z w:=by
     cases hi:P.info? t with
     |none=>rw[hi]at aR;cases aR
     |some i=>
      rw[hi]at aR
      have pb:i.zero=some z:=aR
      simp[zeroValue,typeInfo,hi,pb]
    have cq:(Instr.typeAssert (.iface u v) tt t true).run P w= .ok (.tuple #[z,.bool false]) w:=by
     unfold Instr.typeAssert
     cases d<;>first|exact absurd rfl (eN _)|simp[run_underlying hd,Result.andThen,vr,DR]
    have zfB:(LI z).den G e=nb z:=by
     clear cq DR nc aR
     cases z with
     |agg a=>
      simp only[LI,nb,ab.den,e5,List.map_map];rfl
     |_=>rfl
    refine⟨.tuple #[z,.bool false],by simp[execOp,an,dS,cq],.tuple _ _ rfl fun j y af=>?_⟩
    match j,af with
    |0,af=>simp[ab.den,ab.bP]at af;subst af;rw[zfB];exact KR nc
    |1,af=>simp[ab.den,ab.bP]at af;subst af;exact .fD rfl
    |j+2,af=>simp[ab.den,ab.bP]at af
   ·cases h
  ·cases h
 ·cases h
theorem vt{r:dr}(h:qI P N S o=some r):ik P G N B M o S r:=by
 unfold qI at h
 split at h
 ·rename_i x an
  cases h;exact .nil fun e hf=>by have:=QT (P:=P) (G:=G) (s:=S.den G N B e) x an;rw[bH hf]at this;exact this
 ·rename_i x an
  cases h;exact .nil fun e hf=>by have:=QU (P:=P) (G:=G) (s:=S.den G N B e) x an;rw[bH hf]at this;exact this
 ·exact ze7 (by assumption) h
 ·rename_i x i an
  split at h
  ·rename_i l aq
   split at h
   ·rename_i v aw
    cases h;exact .nil fun e hf=>Rr x i an (by rw[bH hf,aq];rfl) (Er aw)
   ·cases h
  ·cases h
 ·rename_i x an
  split at h
  ·rename_i ak
   cases h
   exact .nil fun e hf=>by
    have:=QZ (P:=P) (G:=G) (s:=S.den G N B e) x an (by rw[bH hf];exact vn ak)
    rw[bH hf]at this;exact this
  ·cases h
 ·rename_i t x f an
  split at h
  ·rename_i k aj ak
   split at h
   ·rename_i p ai
    cases h
    exact .nil fun e hf=>by
     have:=QY (P:=P) (G:=G) (s:=S.den G N B e) t x f an aj (by rw[bH hf];exact vn ak)
     rw[bH hf,AE ai]at this;exact this
   ·cases h
  ·cases h
 ·exact zfe (by assumption) h
 ·exact zfj (by assumption) h
 ·exact zfd (by assumption) h
 ·exact ze8 (by assumption) h
 ·split at h
  ·rename_i aH
   cases h;exact zeZ (by assumption) aH
  ·exact zfp (by assumption) h
 ·exact zfh (by assumption) h
 ·split at h
  ·rename_i aH
   cases h;exact zfg (by assumption) aH
  ·split at h
   ·rename_i aH
    cases h;exact zfq (by assumption) aH
   ·exact zft (by assumption) h
 ·exact zfi (by assumption) h
 ·rename_i f p q an
  cases h
  exact .nil fun e hf=>by
   have:=zd0 (P:=P) (G:=G) (s:=S.den G N B e) an
   simp only[ab.den];rw[e5,e5,List.map_map,List.map_map]
   have aa: ∀l:List Operand,l.map (aI G (S.den G N B e))=l.map (ab.den G e∘S.aY N):=fun l=>List.map_congr_left fun x _=>bH hf x
   rw[aa,aa]at this;exact this
 ·exact zfw (by assumption) h
 ·exact zfA (by assumption) h
 ·exact ze4 (by assumption) h
 ·split at h
  ·rename_i aH
   cases h;exact Tc (by assumption) aH
  ·exact zfs (by assumption) h
 ·exact Tc (by assumption) h
 ·rename_i c an
  split at h
  ·rename_i x t hc hx aG
   obtain⟨callee,args,ts⟩:=c;simp only at hc hx aG;rw[hc,Sl hx,Sl aG]at an;exact zff an h
  ·rename_i b x y hc hx
   obtain⟨callee,args,ts⟩:=c;simp only at hc hx;rw[hc,Af hx]at an;exact zfk an h
  ·rename_i f hc
   obtain⟨callee,args,ts⟩:=c;simp only at hc;rw[hc]at an;exact zfc an rfl h
  ·cases h
 ·cases h
end
end Go.aK
