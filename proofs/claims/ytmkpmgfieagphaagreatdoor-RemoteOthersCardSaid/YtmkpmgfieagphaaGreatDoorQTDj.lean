/- TD, part H: operations that give values, computed. Conditions: none. -/
import Derived.Test.YtmkpmgfieagphaaGreatDoorQTDg
import Derived.Laws.Externs
import Derived.Laws.LoneSync
import Derived.LaidEqlPtr
namespace Go.aK
open Go
structure dt where
 xs:List bJ
 ns:List fc
 v:ab
def ab.rt:ab→Option aU
 | .aT r _=>match r.one with
  |true=>some r
  |false=>none
 | .fd _ _ _ r=>match r.one with
  |true=>some r
  |false=>none
 | .cs (.int k _)=>some (.int k)
 | .cs (.bool _)=>some .bool
 | .cs (.string _)=>some .str
 |_=>none
theorem zu(r:aU):hJ r r=true:=decide_eq_true rfl
theorem JR{x:ab}{r:aU}(h:x.rt=some r):x.er r=true∧x.isNil=false:=by
 unfold ab.rt at h
 split at h
 ·split at h
  ·rename_i aa;cases h;exact⟨by simp[ab.er,zu,aa],rfl⟩
  ·cases h
 ·split at h
  ·rename_i aa;cases h;exact⟨by simp[ab.er,zu,aa],rfl⟩
  ·cases h
 ·cases h;exact⟨by simp[ab.er,zu],rfl⟩
 ·cases h;exact⟨by simp[ab.er,zu],rfl⟩
 ·cases h;exact⟨by simp[ab.er,zu],rfl⟩
 ·cases h
theorem fX{G:a8}{e:Env}{x:ab}{r:aU}(h:x.rt=some r):x.den G e= .au (fF r (x.az e r)):=CK (JR h).1 (JR h).2
theorem jn{G:a8}{e:Env}{x:ab}{k:IntKind}(h:x.rt=some (.int k)):x.den G e= .au (.v (.int k (x.az e (.int k)))):=fX h
theorem lv{e:Env}{x:ab}{k:IntKind}(h:x.rt=some (.int k)):ck (x.dyn e)=x.az e (.int k):=by
 obtain⟨aa,ae⟩:=JR h
 unfold ab.az
 rw[Rg ae]
 cases x with
 |aT q i=>
  simp only[ab.er,Bool.and_eq_true]at aa
  cases hj aa.1
  simp only[ab.dyn,cz,ck]
 |fd c i j q=>
  simp only[ab.er,Bool.and_eq_true]at aa
  cases hj aa.1
  simp only[ab.dyn,cz,ck]
 |cs v=>
  cases v with
  |int bk n=>
   cases hj aa
   simp only[ab.dyn,cz,ck]
  |bool b=>cases hj aa
  |string s=>cases hj aa
  |slice a n c=>unfold ab.er at aa;split at aa<;>first|cases aa|simp_all
  |_=>cases aa
 |_=>cases aa
def isLen(f:gD)(x:ab)(n:Nat):List b6→Bool
 |[]=>false
 | .d1 i g y::r=>match Nat.beq i n&&(decide (g=f)&&zo y x)with
  |true=>true
  |false=>isLen f x n r
 |_::r=>isLen f x n r
theorem wI{f:gD}{x:ab}{n:Nat}{e:Env}: ∀{l:List b6},isLen f x n l=true→(∀c∈l,c.ok e)→Env.at e n=⟨f.c,f.den (x.az e f.a)⟩
 | .d1 i g y::r,h,hc=>by
  simp only[isLen]at h
  split at h
  ·rename_i ad
   simp only[Bool.and_eq_true,decide_eq_true_eq]at ad
   have:=hc (.d1 i g y) (by simp)
   simp only[b6.ok]at this;rw[←Nat.eq_of_beq_eq_true ad.1,this,ad.2.1,JL ad.2.2]
  ·exact wI h fun c hm=>hc c (by simp[hm])
 | .d2 _ _ _ _::r,h,hc=>wI (l:=r) h fun c hm=>hc c (by simp[hm])
 | .rg _ _::r,h,hc=>wI (l:=r) h fun c hm=>hc c (by simp[hm])
 | .dR _ _::r,h,hc=>wI (l:=r) h fun c hm=>hc c (by simp[hm])
def Ry(f:gD)(x:ab)(i:Nat)(all:List b6):b6→Bool
 | .rg j (.aT (.int .i64) n)=>Nat.beq i j&&isLen f x n all
 |_=>false
def CZ(f:gD)(x:ab)(i:Nat)(all:List b6):List b6→Bool
 |[]=>false
 |c::r=>match Ry f x i all c with
  |true=>true
  |false=>CZ f x i all r
theorem JS{f:gD}{x:ab}{i:Nat}{e:Env}{all:List b6}{L:Int}(fJ: ∀n,isLen f x n all=true→Env.at e n=⟨.int .i64,L⟩): ∀{l:List b6},CZ f x i all l=true→(∀c∈l,c.ok e)→0≤ck (Env.at e i)∧ck (Env.at e i)<L
 |c::r,h,hc=>by
  simp only[CZ]at h
  split at h
  ·rename_i ad
   unfold Ry at ad
   split at ad
   ·rename_i j n
    simp only[Bool.and_eq_true]at ad
    have aa:=hc (.rg j (.aT (.int .i64) n)) (by simp)
    simp only[b6.ok,ab.dyn,fJ n ad.2,cz,ck]at aa;rw[←Nat.eq_of_beq_eq_true ad.1]at aa;exact aa
   ·cases ad
  ·exact JS fJ h fun c hm=>hc c (by simp[hm])
def zv(len j:Nat):List b6→Bool
 | .rg i (.cs (.int _ (.ofNat m)))::r=>(Nat.beq i j&&Nat.ble m len)||zv len j r
 |_::r=>zv len j r
 |[]=>false
theorem JT{len j:Nat}{e:Env}: ∀{l:List b6},zv len j l=true→(∀c∈l,c.ok e)→0≤ck (Env.at e j)∧ck (Env.at e j)<(len:Int)
 |[],h,_=>by cases h
 |c::r,h,hc=>by
  unfold zv at h
  split at h
  ·rename_i i k m _ heq
   cases heq;simp only[Bool.or_eq_true,Bool.and_eq_true]at h
   rcases h with⟨aa,ae⟩|h
   ·have av:0≤ck (Env.at e i)∧ck (Env.at e i)<(m:Int):=hc (.rg i (.cs (.int k (.ofNat m)))) (by simp)
    rw[←Nat.eq_of_beq_eq_true aa]
    have:=Nat.le_of_ble_eq_true ae
    omega
   ·exact JT h fun c hm=>hc c (by simp[hm])
  ·rename_i eP _ heq
   cases heq;exact JT h fun c hm=>hc c (by simp[hm])
  ·rename_i heq;cases heq
def wJ(g:List b6)(len:Nat)(i:ab):List fc:=
 match i with
 | .aT (.int _) j=>match zv len j g with
  |true=>[]
  |false=>[.nth len i]
 |_=>[.nth len i]
theorem C0{M:List aR}{g:List b6}{len:Nat}{i:ab}{e:Env}(ah: ∀c∈g,c.ok e)(h: ∀n∈wJ g len i,n.ok M e):0≤ck (i.dyn e)∧ck (i.dyn e)<(len:Int):=by
 unfold wJ at h
 split at h
 ·rename_i k j
  split at h
  ·rename_i ad
   have:=JT ad ah
   simp only[ab.dyn]
   by_cases ag:(Env.at e j).r= .int k
   ·rw[Cy ag];exact this
   ·have aP:ck ⟨.int k,(Env.at e j).aG (.int k)⟩=0:=by
     unfold aF.aG
     split
     ·rename_i bd _;exact absurd bd ag
     ·rfl
    rw[aP];omega
  ·exact h _ (List.mem_singleton.2 rfl)
 ·exact h _ (List.mem_singleton.2 rfl)
def oR(g:List b6)(f:gD)(q:cA)(x i:ab):List fc:=
 match i with
 | .aT (.int _) j=>match CZ f x j g g with
  |true=>[]
  |false=>[.f2 0 q x i]
 |_=>[.f2 0 q x i]
theorem wK{M:List aR}{g:List b6}{c:bF}{k:IntKind}{x i:ab}{e:Env}(ah: ∀c∈g,c.ok e)(hi:i.rt=some (.int k))(h: ∀n∈oR g (.iJ c) (.j1 c k) x i,n.ok M e):
 0≤i.az e (.int k)∧i.az e (.int k)<(List.length (x.az e (.li c)):Int):=by
 unfold oR at h
 split at h
 ·rename_i bk j
  split at h
  ·rename_i ad
   have:=JS (f:=.iJ c) (fun n hn=>wI hn ah) ad ah
   rw[←lv hi];simp only[ab.dyn]
   have aj:bk=k:=by simp only[ab.rt,aU.one]at hi;cases hi;rfl
   subst aj
   by_cases ag:(Env.at e j).r= .int bk
   ·rw[Cy ag];exact this
   ·have aP:ck ⟨.int bk,(Env.at e j).aG (.int bk)⟩=0:=by
     unfold aF.aG
     split
     ·rename_i bd _;exact absurd bd ag
     ·rfl
    rw[aP];exact⟨Int.le_refl _,Int.lt_of_le_of_lt this.1 this.2⟩
  ·exact h _ (List.mem_singleton.2 rfl)
 ·exact h _ (List.mem_singleton.2 rfl)
theorem zdl{M:List aR}{g:List b6}{k:IntKind}{x i:ab}{e:Env}(ah: ∀c∈g,c.ok e)(hi:i.rt=some (.int k))(h: ∀n∈oR g .nz (.q2 k) x i,n.ok M e):
 0≤i.az e (.int k)∧i.az e (.int k)<(ByteArray.size (x.az e .str):Int):=by
 unfold oR at h
 split at h
 ·rename_i bk j
  split at h
  ·rename_i ad
   have:=JS (f:=.nz) (fun n hn=>wI hn ah) ad ah
   rw[←lv hi];simp only[ab.dyn]
   have aj:bk=k:=by simp only[ab.rt,aU.one]at hi;cases hi;rfl
   subst aj
   by_cases ag:(Env.at e j).r= .int bk
   ·rw[Cy ag];exact this
   ·have aP:ck ⟨.int bk,(Env.at e j).aG (.int bk)⟩=0:=by
     unfold aF.aG
     split
     ·rename_i bd _;exact absurd bd ag
     ·rfl
    rw[aP];exact⟨Int.le_refl _,Int.lt_of_le_of_lt this.1 this.2⟩
  ·exact h _ (List.mem_singleton.2 rfl)
 ·exact h _ (List.mem_singleton.2 rfl)
end Go.aK
namespace Go.aK
open Go
def kr(h:List (Nat × bB)):ab→Bool
 | .aT _ _=>true
 | .fd _ _ _ _=>true
 | .cs _=>true
 | .ip _ _ _=>true
 | .fn _ _ _=>true
 | .eb id _=>match da h id with
  |some (.dm _ _)=>true
  |_=>false
 | .gO id _ _ _=>match da h id with
  |some (.dm _ _)=>true
  |_=>false
 | .fg _ (some id) _=>match da h id with
  |some (.dm _ _)=>true
  |_=>false
 | .aM id=>match da h id with
  |some (.rw _ _ _)=>true
  |_=>false
 | .gJ id _ _=>match da h id with
  |some (.rw _ _ _)=>true
  |_=>false
 |_=>false
def uj(S:aq):ab→Option (List ab)
 | .eb id off=>match da S.h id with
  |some (.dm _ l)=>some (l.drop off)
  |_=>none
 | .ip c i k=>some ((iI c i 0 (eM c)).drop k)
 |_=>none
def pG(P:Program)(t:TypeId)(l:List ab):Option ab:=
 match lV P t with
 |some n=>match Nat.ble n l.length&&Nat.ble 1 n with
  |true=>some (.ch (l.take n))
  |false=>none
 |none=>match scalar P t,l with
  |true,y::_=>some y
  |_,_=>none
def sv(S:aq):ab→Bool
 | .eb id _=>match da S.h id with
  |some (.dm _ _)=>true
  |_=>false
 | .gO id _ _ _=>match da S.h id with
  |some (.dm _ _)=>true
  |_=>false
 | .ip _ _ _=>true
 | .gJ id _ _=>match da S.h id with
  |some (.rw _ _ _)=>true
  |_=>false
 |_=>false
def wL(k:Nat):ab→Option ab
 | .eb id off=>some (.eb id (off+k))
 | .ip c i j=>some (.ip c i (j+k))
 | .gJ id x off=>some (.gJ id x (off+k))
 | .gO id off x n=>some (.gO id (off+k) x n)
 |_=>none
def ra(place:Nat→Option (Nat × Nat)):List ab→List (Nat × ab)→Option (List ab)
 |l,[]=>some l
 |l,(i,v)::rest=>match place i with
  |some (off,size)=>match Nat.beq v.cells.length size&&Nat.ble (off+size) l.length with
   |true=>ra place (eh l off v.cells) rest
   |false=>none
  |none=>none
section
variable {P:Program} {G:a8} {o:Oper} {N B:Nat} {e:Env} {S:aq} {M:List aR}
theorem Rz{h:List (Nat × bB)}{x:ab}(hx:kr h x=true):eB (cw G e h) (x.den G e)=true∧cP (x.den G e)=[x.den G e]:=by
 cases x with
 |eb id off=>
  simp only[kr]at hx
  split at hx
  ·rename_i t l ah
   simp[ab.den,eB,ef,ah,bB.den,cP]
  ·cases hx
 |gO id off x n=>
  simp only[kr]at hx
  split at hx
  ·rename_i t l ah
   simp[ab.den,eB,ef,ah,bB.den,cP]
  ·cases hx
 |aM id=>
  simp only[kr]at hx
  split at hx
  ·rename_i t c y ah
   simp[ab.den,eB,ef,ah,bB.den,cP]
  ·cases hx
 |gJ id x off=>
  simp only[kr]at hx
  split at hx
  ·rename_i t c y ah
   simp[ab.den,eB,ef,ah,bB.den,cP]
  ·cases hx
 |ch l=>cases hx
 |tp l=>cases hx
 |gR id=>cases hx
 |fH g b x=>cases hx
 |lr g off=>cases hx
 |top=>cases hx
 |cM k n=>cases hx
 |fg g id off=>
  cases id with
  |none=>cases hx
  |some id=>
   simp only[kr]at hx
   split at hx
   ·rename_i t l ah
    simp only[ab.den]
    cases g.az e .bool<;>simp[eB,ef,ah,bB.den,cP]
   ·cases hx
 |_=>exact⟨rfl,rfl⟩
theorem wM{h:List (Nat × bB)}: ∀{l:List ab},l.all (kr h)=true→(ab.bO G e l).all (eB (cw G e h))=true
 |[],_=>rfl
 |x::r,hx=>by
  simp only[List.all_cons,Bool.and_eq_true]at hx;simp only[ab.bO,List.all_cons,(Rz hx.1).1,wM hx.2,Bool.and_self]
theorem uk{h:List (Nat × bB)}{x:ab}(hx:x.cells.all (kr h)=true):cP (x.den G e)=ab.bO G e x.cells:=by
 cases x with
 |ch l=>rfl
 |_=>
  simp only[ab.cells,List.all_cons,List.all_nil,Bool.and_true]at hx;simp only[(Rz hx).2,ab.cells,ab.bO]
theorem JU(k:Nat)(l:List ab):ab.bO G e (l.drop k)=(ab.bO G e l).drop k:=by rw[e5,e5,List.map_drop]
theorem lR(l:List ab):(ab.bO G e l).length=l.length:=by rw[e5,List.length_map]
theorem zw{p:ab}{l:List ab}(h:uj S p=some l):fl (S.den G N B e).heap (p.den G e)=some (ab.bO G e l):=by
 unfold uj at h
 split at h
 ·split at h
  ·rename_i id off t hU ah
   cases h;simp only[aq.den,ab.den,fl,ef,ah,Option.map_some,bB.den];rw[e5,e5,List.map_drop]
  ·cases h
 ·rename_i c i k
  cases h;simp only[ab.den,fl,Option.some.injEq];rw[JU,sk,List.map_drop]
 ·cases h
theorem FR{t:TypeId}{x:Operand}{l:List ab}{v:ab}(an:o.op= .load t x)(hc:fl (S.den G N B e).heap (aI G (S.den G N B e) x)=some (ab.bO G e l))(aw:pG P t l=some v):cL P G o (S.den G N B e) (v.den G e):=by
 unfold pG at aw
 split at aw
 ·rename_i n hn
  split at aw
  ·rename_i ad
   simp only[Bool.and_eq_true]at ad;cases aw
   have:=Px t x an hn hc (by rw[lR];exact Nat.le_of_ble_eq_true ad.1) (Nat.le_of_ble_eq_true ad.2)
   simp only[ab.den];rw[e5]at this;rw[e5,List.map_take];exact this
  ·cases aw
 ·split at aw
  ·rename_i y r ai
   cases aw;exact Iz t x an ai hc
  ·cases aw
theorem um{p:ab}(h:sv S p=true):jC (S.den G N B e).heap (p.den G e)=true:=by
 unfold sv at h
 split at h
 ·split at h
  ·rename_i ah;simp[aq.den,ab.den,jC,ef,ah,bB.den]
  ·cases h
 ·split at h
  ·rename_i ah;simp[aq.den,ab.den,jC,ef,ah,bB.den]
  ·cases h
 ·rfl
 ·split at h
  ·rename_i ah;simp[aq.den,ab.den,jC,ef,ah,bB.den]
  ·cases h
 ·cases h
theorem zx{k:Nat}{p q:ab}(h:wL k p=some q):qG k (p.den G e)=q.den G e:=by
 unfold wL at h
 split at h
 ·cases h;simp[ab.den,qG]
 ·cases h;simp[ab.den,qG,List.drop_drop,Nat.add_comm]
 ·cases h;simp[ab.den,qG]
 ·cases h;simp only[ab.den,qG,aC.ptr.injEq,true_and];omega
 ·cases h
theorem C1{α β:Type}(f:α→β)(l:List α)(off:Nat)(vs:List α):(eh l off vs).map f=eh (l.map f) off (vs.map f):=by
 simp[eh,List.map_take,List.map_drop]
theorem C2{pl:Nat→Option (Nat × Nat)}{h:List (Nat × bB)}: ∀{ps:List (Nat × ab)} {l ds:List ab},(ps.all fun p=>p.2.cells.all (kr h))=true→ra pl l ps=some ds→jX pl (ab.bO G e l) (ps.map fun p=>(p.1,p.2.den G e))=some (ab.bO G e ds)
 |[],l,ds,_,hf=>by
  simp only[ra,Option.some.injEq]at hf;subst hf;rfl
 |(i,v)::rest,l,ds,a6,hf=>by
  simp only[List.all_cons,Bool.and_eq_true]at a6;simp only[ra]at hf;simp only[List.map_cons,jX]
  split at hf
  ·rename_i off size ak
   split at hf
   ·rename_i ad
    simp only[Bool.and_eq_true]at ad
    have aa:=Nat.eq_of_beq_eq_true ad.1
    have ae:=Nat.le_of_ble_eq_true ad.2
    have aw:=uk (G:=G) (e:=e) a6.1
    simp only[ak,aw,lR];rw[if_pos ⟨aa,ae⟩]
    have:=C2 a6.2 hf
    rw[e5]at this⊢;rw[C1]at this;rw[e5];exact this
   ·cases hf
  ·cases hf
def h9(P:Program)(G:a8)(N B:Nat)(M:List aR)(o:Oper)(S:aq)(r:dt):Prop:=
 ∀e,(∀c∈S.g,c.ok e)→(∀(j:Nat) (x:bJ),r.xs[j]? =some x→Env.at e (S.k+j)=x.den M e)→(∀n∈r.ns,n.ok M e)→cL P G o (S.den G N B e) (r.v.den G e)
end
def JV(op:BinOp)(k bk:IntKind)(x y:ab):List fc:=
 match op with
 | .add=>[]
 | .sub=>[]
 | .mul=>[]
 | .and=>[]
 | .or=>[]
 | .xor=>[]
 | .quo=>match y with
  | .cs (.int _ n)=>match decide (n=0)with
   |false=>[]
   |true=>[.f2 0 (.jk op k bk) x y]
  |_=>[.f2 0 (.jk op k bk) x y]
 | .rem=>match y with
  | .cs (.int _ n)=>match decide (n=0)with
   |false=>[]
   |true=>[.f2 0 (.jk op k bk) x y]
  |_=>[.f2 0 (.jk op k bk) x y]
 |op=>match y with
  | .cs (.int _ n)=>match decide (0≤n)with
   |true=>[]
   |false=>[.f2 0 (.jk op k bk) x y]
  |_=>[.f2 0 (.jk op k bk) x y]
def JW(P:Program)(S:aq)(op:BinOp)(cv:TypeId)(x y:ab):Option dt:=
 match x.rt,y.rt with
 |some (.int k),some (.int bk)=>match JP op k bk with
  |true=>some ⟨[.f2 (.jk op k bk) x y],JV op k bk x y,.aT (.int k) S.k⟩
  |false=>match wH op&&decide (bk=k)with
   |true=>some ⟨[.f2 (.oK op k) x y],[],.aT .bool S.k⟩
   |false=>none
 |some .str,some .str=>match wH op with
  |true=>some ⟨[.f2 (.l7 op) x y],[],.aT .bool S.k⟩
  |false=>match op with
   | .add=>some ⟨[.f2 .sl x y],[.f2 0 .sl x y],.aT .str S.k⟩
   |_=>none
 |some .bool,some .bool=>match op,Cp P cv with
  | .eql,true=>some ⟨[.f2 (.nb false) x y],[],.aT .bool S.k⟩
  | .neq,true=>some ⟨[.f2 (.nb true) x y],[],.aT .bool S.k⟩
  |_,_=>none
 |_,_=>match x,y with
  | .ch l,.ch m=>match mB P cv with
   |some fs=>match oQ P 64 0 fs with
    |some rs=>match hk rs l&&hk rs m,op with
     |true,.eql=>some ⟨[.zl false rs l m],[],.aT .bool S.k⟩
     |true,.neq=>some ⟨[.zl true rs l m],[],.aT .bool S.k⟩
     |_,_=>none
    |none=>none
   |none=>none
  |p,.cs (.pointer none)=>match P.underlying cv,sv S p,op with
   |some (.pointer _),true,.eql=>some ⟨[],[],.cs (.bool false)⟩
   |some (.pointer _),true,.neq=>some ⟨[],[],.cs (.bool true)⟩
   |_,_,_=>none
  |_,_=>none
section
variable {P:Program} {G:a8} {o:Oper} {N B:Nat} {e:Env} {S:aq} {M:List aR}
theorem zdm{e:Env}{f:cA}{x y:ab}{k:Nat}(h:Env.at e k=(bJ.f2 f x y).den M e):(ab.aT f.c k).den G e= .au (fF f.c (f.den (x.az e f.a) (y.az e f.b))):=by
 simp only[ab.den,h,bJ.den,cz]
theorem zdn{e:Env}{f:gD}{x:ab}{k:Nat}(h:Env.at e k=(bJ.f1 f x).den M e):(ab.aT f.c k).den G e= .au (fF f.c (f.den (x.az e f.a))):=by
 simp only[ab.den,h,bJ.den,cz]
theorem p6{s:aO}{f:cA}{x y:ab}{k:Nat}(h:Env.at e k=(bJ.f2 f x y).den M e)(ai:cL P G o s (.au (fF f.c (f.den (x.az e f.a) (y.az e f.b))))):cL P G o s ((ab.aT f.c k).den G e):=by
 rw[zdm h];exact ai
theorem p7{s:aO}{f:gD}{x:ab}{k:Nat}(h:Env.at e k=(bJ.f1 f x).den M e)(ai:cL P G o s (.au (fF f.c (f.den (x.az e f.a))))):cL P G o s ((ab.aT f.c k).den G e):=by
 rw[zdn h];exact ai
theorem zdo{op:BinOp}{k bk:IntKind}{x y:ab}(ax:y.rt=some (.int bk))(h: ∀n∈JV op k bk x y,n.ok M e):CM op (y.az e (.int bk)):=by
 have hc: ∀n gE,y= .cs (.int gE n)→y.az e (.int bk)=n:=fun n gE bd=>by
  subst bd;simp only[ab.rt,Option.some.injEq,aU.int.injEq]at ax;subst ax;simp only[ab.az,ab.fo,ab.dyn,cz]
 have ai: ∀C3,((∃q,C3=q)→fc.ok M e (.f2 0 (.jk C3 k bk) x y)→CM C3 (y.az e (.int bk))):=fun C3 _ h=>h
 cases op<;>try exact trivial
 all_goals
  simp only[JV]at h
  split at h
  ·rename_i gE n
   have hn:=hc n gE rfl
   split at h
   ·rename_i hd
    rw[hn];simp only[decide_eq_false_iff_not,decide_eq_true_eq]at hd;exact hd
   ·exact h _ (List.mem_singleton.2 rfl)
  ·exact h _ (List.mem_singleton.2 rfl)
theorem zdp{op:BinOp}{cv ty:TypeId}{x y:Operand}{r:dt}(an:o.op= .binOp op cv x y ty)(h:JW P S op cv (S.aY N x) (S.aY N y)=some r):h9 P G N B M o S r:=fun e hf hx hn=>by
 unfold JW at h
 split at h
 ·rename_i k bk aa ae
  have fS:aI G (S.den G N B e) x=_:=(bC hf x).trans (jn aa)
  have mb:aI G (S.den G N B e) y=_:=(bC hf y).trans (jn ae)
  split at h
  ·rename_i a6
   cases h;exact p6 (f:=.jk op k bk) (hx 0 _ rfl) (zdd an fS mb a6 (zdo ae hn))
  ·split at h
   ·rename_i hc
    cases h;simp only[Bool.and_eq_true,decide_eq_true_eq]at hc
    have aj:=hc.2
    subst aj;exact p6 (f:=.oK op bk) (hx 0 _ rfl) (zde an fS mb hc.1)
   ·cases h
 ·rename_i aa ae
  have fS:aI G (S.den G N B e) x=_:=(bC hf x).trans (fX aa)
  have mb:aI G (S.den G N B e) y=_:=(bC hf y).trans (fX ae)
  split at h
  ·rename_i hc
   cases h;exact p6 (f:=.l7 op) (hx 0 _ rfl) (zdf an fS mb hc)
  ·split at h
   ·cases h
    exact p6 (f:=.sl) (hx 0 _ rfl) (zb9 cv ty x y an fS mb (hn _ (List.mem_singleton.2 rfl)))
   ·cases h
 ·rename_i aa ae
  have fS:aI G (S.den G N B e) x=_:=(bC hf x).trans (fX aa)
  have mb:aI G (S.den G N B e) y=_:=(bC hf y).trans (fX ae)
  split at h
  ·rename_i aH
   cases h;exact p6 (f:=.nb false) (hx 0 _ rfl) (PS cv ty x y an (Cq aH) fS mb)
  ·rename_i aH
   cases h;exact p6 (f:=.nb true) (hx 0 _ rfl) (PT cv ty x y an (Cq aH) fS mb)
  ·cases h
 ·split at h
  ·rename_i l m ar hm
   split at h
   ·rename_i fs wm
    split at h
    ·rename_i rs gg
     split at h
     ·rename_i ad
      cases h;simp only[Bool.and_eq_true]at ad
      have:=Rx (G:=G) (n:=false) (B:=B) (e:=e) hf rfl an wm gg ar hm ad.1 ad.2
      have aP:Env.at e S.k=_:=hx 0 _ rfl
      simp only[ab.den,aP,bJ.den,cz,fF,jY];exact this
     ·rename_i ad
      cases h;simp only[Bool.and_eq_true]at ad
      have:=Rx (G:=G) (n:=true) (B:=B) (e:=e) hf rfl an wm gg ar hm ad.1 ad.2
      have aP:Env.at e S.k=_:=hx 0 _ rfl
      simp only[ab.den,aP,bJ.den,cz,fF,jY];exact this
     ·cases h
    ·cases h
   ·cases h
  ·rename_i ak
   have key: ∀E a w β ro,c3 E G (S.den G N B e) a w β ro→sv S (S.aY N x)=true→∃cW,a.eval x= .pointer (some cW):=fun E a w β ro ag hi=>by
    obtain⟨cW,hc,_⟩:=yB (um (G:=G) (N:=N) (B:=B) (e:=e) hi) (by have:=ag.eval x;rw[bC hf]at this;exact this)
    exact⟨cW,hc⟩
   have p8: ∀E a w β ro,c3 E G (S.den G N B e) a w β ro→a.eval y= .pointer none:=fun E a w β ro ag=>by
    refine ag.ec ?_
    rw[bC hf,ak];rfl
   split at h
   ·rename_i t hu hi
    cases h
    exact fun E a w β ro ag=>by
     obtain⟨cW,hc⟩:=key E a w β ro ag hi;exact⟨.bool false,by simp[execOp,an,hc,p8 E a w β ro ag,eqGuard_at_pointer,run_eql_pointer_nil w cv (some cW) (Rc hu)],.fC rfl⟩
   ·rename_i t hu hi
    cases h
    exact fun E a w β ro ag=>by
     obtain⟨cW,hc⟩:=key E a w β ro ag hi;exact⟨.bool true,by simp[execOp,an,hc,p8 E a w β ro ag,eqGuard_at_pointer,run_neq_pointer_nil w cv (some cW) (Rc hu)],.fC rfl⟩
   ·cases h
  ·cases h
end
end Go.aK
namespace Go.aK
open Go
def oS:List aU→List Value→Bool
 |[],[]=>true
 |r::rs,z::zs=>(match r,z with
  | .int k,.int bk n=>decide (k=bk)&&decide (n=0)
  | .bool,.bool b=>!b
  | .str,.string s=>decide (s=⟨#[]⟩)
  | .li _,.slice none 0 0=>true
  |_,_=>false)&&oS rs zs
 |_,_=>false
def uo:TypeDesc→Option aU
 | .string=>some .str
 | .int k=>some (.int k)
 |_=>none
def wN(v:aU)(z:Value):Bool:=
 match v,z with
 | .st c,.agg a=>oS (eM c) a.toList&&a.toList.all Value.oneCell'
 | .st _,_=>false
 |r,z=>oS [r] [z]&&z.oneCell'
def mT(v:aU)(i:Nat):ab:=
 match v with
 | .st c=>.ch (iI c i 0 (eM c))
 |r=>.aT r i
def C4:List aU→Bool
 |[]=>true
 | .mp _ _::_=>false
 |_::r=>C4 r
def C5(v:aU):Bool:=
 match v with
 | .st c=>C4 (eM c)
 | .int _=>true
 | .bool=>true
 | .str=>true
 |_=>false
def JX(S:aq)(m:ab):Option (aU × aU × ab):=
 match m with
 | .gR id=>match da S.h id with
  |some (.it (.mp k v) _ p)=>some (k,v,p)
  |_=>none
 |x=>match x.rt with
  |some (.mp k v)=>some (k,v,x)
  |_=>none
def JY(P:Program)(S:aq)(t:TypeId)(m x:ab)(c:Bool):Option dt:=
 match P.underlying t,JX S m with
 |some (.map fm eX),some (k,v,p)=>match(P.underlying fm).bind uo,(P.info? eX).bind (·.zero)with
  |some bk,some z=>match hJ bk k&&(x.er k&&(wN v z&&C5 v))with
   |true=>match c with
    |true=>some ⟨[.wy k v p x,.ug k v p x],[],.tp [mT v (S.k+1),.aT .bool S.k]⟩
    |false=>some ⟨[.ug k v p x],[],mT v S.k⟩
   |false=>none
  |_,_=>none
 |_,_=>none
section
variable {P:Program} {G:a8} {N B:Nat} {M:List aR} {S:aq} {o:Oper}
theorem wO: ∀{rs:List aU} {zs:List Value},oS rs zs=true→zs.map a1.v=rs.map fun r=>wc (fF r r.fv)
 |[],[],_=>rfl
 |[],_::_,h=>by cases h
 |_::_,[],h=>by cases h
 |r::rs,z::zs,h=>by
  simp only[oS,Bool.and_eq_true]at h;rw[List.map_cons,List.map_cons,wO h.2]
  congr 1
  have aa:=h.1
  split at aa
  ·simp only[Bool.and_eq_true,decide_eq_true_eq]at aa
   obtain⟨rfl,rfl⟩:=aa;rfl
  ·simp only[Bool.not_eq_true']at aa
   subst aa;rfl
  ·have:=of_decide_eq_true aa
   subst this;rfl
  ·rfl
  ·cases aa
theorem RA(c:bF):b9 c (aE c)=(eM c).map fun r=>fF r r.fv:=by cases c<;>rfl
theorem RB{e:Env}{r:aU}{i:Nat}{d:r.den}(h:Env.at e i=⟨r,d⟩):(ab.aT r i).az e r=d:=by
 simp only[ab.az,ab.fo,ab.dyn,h,cz]
theorem zdq{c:bF}(h:C4 (eM c)=true)(x:fO c):(ll c x).map (fun d=>jY d.r d.v)=b9 c x:=by
 unfold b9
 rw[←Jj c x]at h
 revert h
 generalize ll c x=l
 induction l with
 |nil=>intro _;rfl
 |cons d r aZ=>
  intro h;obtain⟨t,v⟩:=d;simp only[List.map_cons]at h⊢
  cases t<;>first|(simp only[C4]at h;rw[aZ h];rfl)|cases h
theorem zdr{v:aU}{i:Nat}{e:Env}{ev:v.den}(h:Env.at e i=⟨v,ev⟩)(aw:C5 v=true):(mT v i).den G e=tW v.agg (il v ev):=by
 cases v with
 |st c=>
  simp only[C5]at aw;simp only[mT,ab.den,sk,h,cz,aU.agg,tW,il,zdq aw]
 |int k=>simp only[mT,ab.den,h,cz]<;>rfl
 |bool=>simp only[mT,ab.den,h,cz]<;>rfl
 |str=>simp only[mT,ab.den,h,cz]<;>rfl
 |_=>cases aw
theorem rM{x:a1}{v:Value}(h:a1.v v=wc x)(aw:v.oneCell'=true):Sub (.au (.v v)) (.au x):=fun w ro σ β N c hc=>by
 cases hc with
 |au _ _ hc=>
  cases hc;exact .au _ _ (QQ h.symm aw)
theorem RD: ∀{rs:List aU} {zs:List Value},oS rs zs=true→zs.all Value.oneCell'=true→fU (zs.map fun v=>aC.au (.v v)) ((rs.map fun r=>fF r r.fv).map .au)
 |[],[],_,_=>.nil
 |[],_::_,h,_=>by cases h
 |_::_,[],h,_=>by cases h
 |r::rs,z::zs,h,an=>by
  simp only[List.all_cons,Bool.and_eq_true]at an
  have aa:oS [r] [z]=true:=by
   simp only[oS,Bool.and_eq_true]at h⊢;exact⟨h.1,trivial⟩
  have ae:oS rs zs=true:=by
   simp only[oS,Bool.and_eq_true]at h;exact h.2
  have aA:=wO aa
  simp only[List.map_cons,List.map_nil,List.cons.injEq,and_true]at aA;exact .cons (rM aA an.1) (RD ae an.2)
theorem RE{v:aU}{i:Nat}{e:Env}{z:Value}(h:Env.at e i=⟨v,v.fv⟩)(aw:C5 v=true)(aV:wN v z=true):Sub (mL z) ((mT v i).den G e)∧sd z=true:=by
 cases v with
 |st c=>
  cases z with
  |agg a=>
   simp only[wN,Bool.and_eq_true]at aV;refine⟨?_,aV.2⟩
   simp only[mT,ab.den,sk,h,cz,mL,aU.fv,RA];exact(RD aV.1 aV.2).agg
  |_=>cases aV
 |int k=>
  simp only[wN,Bool.and_eq_true]at aV
  have aA:=wO aV.1
  simp only[List.map_cons,List.map_nil,List.cons.injEq,and_true]at aA
  cases z with
  |int bk n=>exact⟨by simp only[mT,ab.den,h,cz,mL];exact rM aA aV.2,aV.2⟩
  |_=>first|cases aV.1|cases aV.2
 |bool=>
  simp only[wN,Bool.and_eq_true]at aV
  have aA:=wO aV.1
  simp only[List.map_cons,List.map_nil,List.cons.injEq,and_true]at aA
  cases z with
  |bool b=>exact⟨by simp only[mT,ab.den,h,cz,mL];exact rM aA aV.2,aV.2⟩
  |_=>first|cases aV.1|cases aV.2
 |str=>
  simp only[wN,Bool.and_eq_true]at aV
  have aA:=wO aV.1
  simp only[List.map_cons,List.map_nil,List.cons.injEq,and_true]at aA
  cases z with
  |string b=>exact⟨by simp only[mT,ab.den,h,cz,mL];exact rM aA aV.2,aV.2⟩
  |_=>first|cases aV.1|cases aV.2
 |_=>cases aw
theorem RF{k v:aU}(l:List (k.den × v.den)):fF (.mp k v) l=wh v.agg (gh (kU k) (il v) l):=by
 unfold wh gh
 rw[List.map_map,List.map_map]
 rfl
theorem zds{fm:TypeId}{k:aU}(h:(P.underlying fm).bind uo=some k): ∃d,P.underlying fm=some d∧((k= .str∧d= .string)∨∃j,k= .int j∧d= .int j):=by
 cases hd:P.underlying fm with
 |none=>rw[hd]at h;cases h
 |some d=>
  rw[hd]at h
  have aj:uo d=some k:=h
  refine⟨d,rfl,?_⟩
  unfold uo at aj
  split at aj
  ·cases aj;exact .inl ⟨rfl,rfl⟩
  ·cases aj;exact .inr ⟨_,rfl,rfl⟩
  ·cases aj
theorem zdt{k v:aU}{m:Operand}{p:ab}{e:Env}(hf: ∀c∈S.g,c.ok e)(h:JX S (S.aY N m)=some (k,v,p)):mK G (S.den G N B e) m v.agg (gh (kU k) (il v) (p.az e (.mp k v))):=by
 unfold JX at h
 split at h
 ·rename_i id hm
  split at h
  ·rename_i bk bg dq q ah
   cases h
   have C6:aI G (S.den G N B e) m= .ref id:=by rw[bC hf,hm];rfl
   have bb:aD (S.den G N B e).heap id=some (.bK (jG v.agg (gh (kU k) (il v) (p.az e (.mp k v))))):=by
    simp only[aq.den,ef,ah,Option.map_some];rfl
   exact mK.own C6 bb
  ·cases h
 ·split at h
  ·rename_i bk bg ag
   cases h;refine mK.QZ ?_
   rw[bC hf,fX ag,RF]
  ·cases h
theorem zdu{t:TypeId}{m x:Operand}{c:Bool}{r:dt}(an:o.op= .lookup t m x c)(h:JY P S t (S.aY N m) (S.aY N x) c=some r):h9 P G N B M o S r:=fun e hf hx hn=>by
 unfold JY at h
 split at h
 ·rename_i fm eX k v p hu nE
  split at h
  ·rename_i bk z zdv aV
   split at h
   ·rename_i hc
    simp only[Bool.and_eq_true]at hc;obtain⟨aW,c9,gl,iC⟩:=hc
    cases hj aW
    obtain⟨d,hd,gM⟩:=zds zdv
    have nx:=zdt (G:=G) (N:=N) (B:=B) hf nE
    have key: ∀w:aC,(∀ev b,(jw k (p.az e (.mp k v)) ((S.aY N x).az e k)).getD v.fv=ev→(jw k (p.az e (.mp k v)) ((S.aY N x).az e k)).isSome=b→∀y,(b=true→y=tW v.agg (il v ev))→(b=false→ev=v.fv∧y=mL z)→Sub (zb c y b) w)→sd z=true→cL P G o (S.den G N B e) w:=by
     intro w hw mM
     cases aJ:jw k (p.az e (.mp k v)) ((S.aY N x).az e k)with
     |some ev=>
      rw[aJ]at hw;refine cL.sub ?_ (hw ev true rfl rfl _ (fun _=>rfl) (fun q=>by cases q))
      rcases gM with⟨rfl,rfl⟩|⟨j,rfl,rfl⟩
      ·have jo:aI G (S.den G N B e) x= .au (.v (kU .str ((S.aY N x).az e .str))):=by rw[bC hf];exact JF c9
       exact Q6 (K:=ByteArray) Jw (il v) v.agg _ _ ev c an hu hd nx jo aJ
      ·have jo:aI G (S.den G N B e) x= .au (.v (kU (.int j) ((S.aY N x).az e (.int j)))):=by rw[bC hf];exact CL c9
       exact Q6 (K:=Int) (Jx j) (il v) v.agg _ _ ev c an hu hd nx jo aJ
     |none=>
      rw[aJ]at hw;refine cL.sub ?_ (hw v.fv false rfl rfl _ (fun q=>by cases q) (fun _=>⟨rfl,rfl⟩))
      rcases gM with⟨rfl,rfl⟩|⟨j,rfl,rfl⟩
      ·have jo:aI G (S.den G N B e) x= .au (.v (kU .str ((S.aY N x).az e .str))):=by rw[bC hf];exact JF c9
       exact Q7 (K:=ByteArray) Jw (il v) v.agg _ _ c z an hu hd nx jo aJ aV mM
      ·have jo:aI G (S.den G N B e) x= .au (.v (kU (.int j) ((S.aY N x).az e (.int j)))):=by rw[bC hf];exact CL c9
       exact Q7 (K:=Int) (Jx j) (il v) v.agg _ _ c z an hu hd nx jo aJ aV mM
    have sub: ∀{i:Nat} {ev:v.den} {b:Bool} {y:aC},Env.at e i=⟨v,ev⟩→(b=true→y=tW v.agg (il v ev))→(b=false→ev=v.fv∧y=mL z)→Sub y ((mT v i).den G e):=by
     intro i ev b y hi aa ae
     cases b with
     |true=>rw[aa rfl,zdr hi iC];exact Sub.refl _
     |false=>
      obtain⟨c1,di⟩:=ae rfl;subst c1;rw[di];exact(RE hi iC gl).1
    have mM:sd z=true:=(RE (G:=G) (i:=0) (e:=ba.put .emp 0 ⟨v,v.fv⟩) (by rw[Env.h7,if_pos rfl]) iC gl).2
    split at h
    ·cases h
     have aP:=hx 0 _ rfl
     have aa:=hx 1 _ rfl
     simp only[Nat.add_zero,bJ.den]at aP aa;refine key _ (fun ev b aA bh y g1 g2=>?_) mM
     refine fU.tuple (.cons (sub (aa.trans (by rw[←aA])) g1 g2) (.cons ?_ .nil))
     simp only[ab.den,aP,cz];rw[←bh];exact Sub.refl _
    ·cases h
     have aP:=hx 0 _ rfl
     simp only[Nat.add_zero,bJ.den]at aP;exact key _ (fun ev b aA bh y g1 g2=>sub (aP.trans (by rw[←aA])) g1 g2) mM
   ·cases h
  ·cases h
 ·cases h
end
end Go.aK
namespace Go.aK
open Go
def ab.sw(x g:ab)(b:Bool):ab:=
 match x with
 | .fH h c v=>match zo g h&&(decide (c=b))with
  |true=>v
  |false=>x
 |x=>x
def JZ(S:aq)(c x y:ab):Option dt:=
 match c,k0 c S.g with
 | .cs (.bool b),_=>some ⟨[],[],match b with|true=>x|false=>y⟩
 |c,some b=>match c.rt with
  |some .bool=>some ⟨[],[],match b with|true=>x|false=>y⟩
  |_=>none
 |c,none=>match c.rt with
  |some .bool=>match(match(x.sw c true).rt with|some r=>some r|none=>(y.sw c false).rt)with
   |some r=>match(x.sw c true).er r&&((y.sw c false).er r&&r.one)with
    |true=>some ⟨[.CO r c (x.sw c true) (y.sw c false)],[],.aT r S.k⟩
    |false=>none
   |none=>none
  |_=>none
def sx(r:aU):List ab→Bool
 |[]=>true
 |x::l=>x.er r&&sx r l
def RG:List ab→Option aU
 |[]=>none
 |x::_=>x.rt
def J0(P:Program)(S:aq)(t:TypeId)(x i:ab):Option dt:=
 match x with
 | .ch l=>match P.underlying t with
  |some (.array len el)=>match scalar P el&&Nat.beq l.length len,(P.info? el).map (·.size)with
   |true,some 1=>match i with
    | .cs (.int .i64 (.ofNat j))=>match l[j]? with
     |some v=>some ⟨[],[],v⟩
     |none=>none
    |i=>match i.rt,RG l with
     |some (.int .i64),some r=>match sx r l&&r.one with
      |true=>some ⟨[.nth r l i],wJ S.g l.length i,.aT r S.k⟩
      |false=>none
     |_,_=>none
   |_,_=>none
  |_=>none
 |x=>match x.rt,i.rt,isStr P t with
  |some .str,some (.int k),true=>some ⟨[.f2 (.q2 k) x i],oR S.g .nz (.q2 k) x i,.aT (.int .u8) S.k⟩
  |_,_,_=>none
def uq(x:ab):Option bF:=
 match x.rt with
 |some (.li c)=>some c
 |_=>none
def zdw(P:Program)(t:TypeId)(n:Nat):Option bF:=
 match P.underlying t with
 |some (.slice el)=>zcC.find? fun c=>Nat.beq n (bZ c)&&(pG P el (iI c 0 0 (eM c))).isSome
 |_=>none
def J1(P:Program)(f:Nat):Nat:=
 match P.funcs[f]? with
 |some fn=>match fn.body.isNone&&fn.origin== "",fn.name== "internal/abi.NoEscape",fn.name== "internal/bytealg.IndexByteString" with
  |true,true,_=>1
  |true,false,true=>2
  |_,_,_=>0
 |none=>0
def J2(P:Program)(S:aq)(f:ab)(aG:List ab):Option dt:=
 match f with
 | .fn (.func f) [] []=>match J1 P f,aG with
  |1,[x]=>some ⟨[],[],x⟩
  |2,[x,y]=>match x.rt,y.rt with
   |some .str,some (.int .u8)=>some ⟨[.f2 .wx x y],[],.aT (.int .i64) S.k⟩
   |_,_=>none
  |_,_=>none
 |_=>none
def J3(P:Program)(S:aq)(t:TypeId)(x i:ab):Option dt:=
 match i.rt with
 |some (.int k)=>match jW P t with
  |some n=>match x with
   | .aM id=>match da S.h id with
    |some (.rw _ c y)=>match Nat.beq n (bZ c)with
     |true=>some ⟨[],oR S.g (.iJ c) (.j1 c k) y i,.gJ id i 0⟩
     |false=>none
    |_=>none
   | .cM id m=>match da S.h id,i with
    |some (.dm _ _),.cs (.int _ (.ofNat j))=>match Nat.blt j m with
     |true=>some ⟨[],[],.eb id (j*n)⟩
     |false=>none
    |_,_=>none
   |x=>match uq x with
    |some c=>match Nat.beq n (bZ c)with
     |true=>some ⟨[.f2 (.j1 c k) x i],oR S.g (.iJ c) (.j1 c k) x i,.ip c S.k 0⟩
     |false=>none
    |none=>match x.isNil,zdw P t n with
     |true,some c=>some ⟨[.f2 (.j1 c k) x i],[.f2 0 (.j1 c k) x i],.ip c S.k 0⟩
     |_,_=>none
  |none=>match tJ P t,uj S x with
   |some (len,n),some _=>match i,x with
    | .cs (.int _ (.ofNat j)),x=>match Nat.blt j len,wL (j*n) x with
     |true,some p=>some ⟨[],[],p⟩
     |_,_=>none
    |i,.eb id off=>some ⟨[],wJ S.g len i,.gO id off i n⟩
    |_,_=>none
   |_,_=>none
 |_=>none
def J4(P:Program)(S:aq)(t:TypeId)(x:ab):Option dt:=
 match x with
 | .gJ id i off=>match da S.h id,i.rt with
  |some (.rw _ c y),some (.int k)=>match pG P t ((iI c S.k 0 (eM c)).drop off),y.er (.li c)with
   |some v,true=>some ⟨[.f2 (.j1 c k) y i],oR S.g (.iJ c) (.j1 c k) y i,v⟩
   |_,_=>none
  |_,_=>none
 | .gO id off i 1=>match da S.h id,i.rt with
  |some (.dm _ l),some (.int _)=>match RG (l.drop off)with
   |some r=>match sx r (l.drop off)&&(r.one&&scalar P t)with
    |true=>some ⟨[.nth r (l.drop off) i],wJ S.g (l.drop off).length i,.aT r S.k⟩
    |false=>none
   |none=>none
  |_,_=>none
 |x=>match uj S x with
  |some l=>match pG P t l with
   |some v=>some ⟨[],[],v⟩
   |none=>none
  |none=>none
def J5(P:Program)(S:aq)(t:TypeId)(x:ab):Option dt:=
 match x with
 | .cs (.slice none 0 0)=>match isSlice P t with
  |true=>some ⟨[],[],.cs (.int .i64 0)⟩
  |false=>none
 | .cs (.string s)=>match isStr P t with
  |true=>some ⟨[],[],.cs (.int .i64 (ByteArray.size s:Int))⟩
  |false=>none
 | .cM id n=>match da S.h id,isSlice P t with
  |some (.dm _ _),true=>some ⟨[],[],.cs (.int .i64 (n:Int))⟩
  |_,_=>none
 | .aM id=>match da S.h id with
  |some (.rw _ c y)=>match isSlice P t with
   |true=>some ⟨[.f1 (.iJ c) y],[],.aT (.int .i64) S.k⟩
   |false=>none
  |_=>none
 |x=>match x.rt with
  |some .str=>match isStr P t with
   |true=>some ⟨[.f1 .nz x],[],.aT (.int .i64) S.k⟩
   |false=>none
  |some (.li c)=>match isSlice P t with
   |true=>some ⟨[.f1 (.iJ c) x],[],.aT (.int .i64) S.k⟩
   |false=>none
  |_=>match Ci P t with
   |some n=>some ⟨[],[],.cs (.int .i64 (n:Int))⟩
   |none=>none
def wP(N:Nat)(S:aq):Option Operand→Option (Option ab)
 |none=>some none
 |some y=>match(S.aY N y).rt with
  |some (.int _)=>some (some (S.aY N y))
  |_=>none
def C7(P:Program)(N:Nat)(S:aq)(t:TypeId)(x:ab)(lo hi:Option Operand):Option dt:=
 match wP N S lo,wP N S hi with
 |some l,some h=>match x.rt with
  |some .str=>match isStr P t with
   |true=>some ⟨[.uf x l h],(match l,h with|none,none=>[]|_,_=>[.uf x l h]),.aT .str S.k⟩
   |false=>none
  |some (.li c)=>match jW P t with
   |some n=>match Nat.beq n (bZ c)with
    |true=>some ⟨[.ez c x l h],(match l,h with|none,none=>[]|_,_=>[.ez c x l h]),.aT (.li c) S.k⟩
    |false=>none
   |none=>none
  |_=>none
 |_,_=>none
def RH(P:Program)(S:aq)(src dst:TypeId)(id:Nat):Option dt:=
 match da S.h id,P.underlying src with
 |some (.rw _ .u8 y),some (.slice el)=>match P.underlying el,P.underlying dst with
  |some (.int .u8),some .string=>some ⟨[.f1 .cM y],[],.aT .str S.k⟩
  |_,_=>none
 |_,_=>none
def J6(P:Program)(S:aq)(src dst:TypeId)(x:ab):Option dt:=
 match x with
 | .aM id=>RH P S src dst id
 |x=>match x.rt with
  |some (.int k)=>match P.underlying src,P.underlying dst with
   |some _,some (.int bk)=>some ⟨[.f1 (.oD k bk) x],[],.aT (.int bk) S.k⟩
   |_,_=>none
  |some (.li .u8)=>match P.underlying src with
   |some (.slice el)=>match P.underlying el,P.underlying dst with
    |some (.int .u8),some .string=>some ⟨[.f1 .cM x],[],.aT .str S.k⟩
    |_,_=>none
   |_=>none
  |_=>none
def J7(S:aq)(op:UnOp)(x:ab):Option dt:=
 match op,x.rt with
 | .not,some .bool=>some ⟨[.f1 .mN x],[],.aT .bool S.k⟩
 | .neg,some (.int k)=>some ⟨[.f1 (.zj k) x],[],.aT (.int k) S.k⟩
 | .xor,some (.int k)=>some ⟨[.f1 (.tB k) x],[],.aT (.int k) S.k⟩
 |_,_=>none
def J8(P:Program)(N:Nat)(S:aq)(t:TypeId)(ps:List (Nat × Operand)):Option dt:=
 match places P t,zeroCells P t with
 |some pl,some zs=>match zs.all Value.oneCell'&&(ps.map fun p=>(p.1,S.aY N p.2)).all fun p=>p.2.cells.all (kr S.h)with
  |true=>match ra pl (zs.map .cs) (ps.map fun p=>(p.1,S.aY N p.2))with
   |some ds=>some ⟨[],[],.ch ds⟩
   |none=>none
  |false=>none
 |_,_=>none
def J9(P:Program)(t:TypeId)(x:ab)(f:Nat):Option dt:=
 match x,vU P t f with
 | .ch l,some (off,none)=>match l[off]? with
  |some v=>some ⟨[],[],v⟩
  |none=>none
 | .ch l,some (off,some n)=>match Nat.ble (off+n) l.length with
  |true=>some ⟨[],[],.ch ((l.drop off).take n)⟩
  |false=>none
 |_,_=>none
def Ka(S:aq)(b:Builtin)(x y:ab):Option dt:=
 match x.rt,y.rt,b with
 |some (.int k),some (.int bk),.min=>match decide (k=bk)with
  |true=>some ⟨[.f2 (.tC k) x y],[],.aT (.int k) S.k⟩
  |false=>none
 |some (.int k),some (.int bk),.max=>match decide (k=bk)with
  |true=>some ⟨[.f2 (.mx k) x y],[],.aT (.int k) S.k⟩
  |false=>none
 |_,_,_=>none
def C8(P:Program)(t:TypeId):Bool:=
 match P.underlying t with
 |some (.pointer e)=>(P.info? e).isSome&&match(P.info? e).map (fun i=>decide (i.size=0))with
  |some false=>true
  |_=>false
 |_=>false
def zy(S:aq)(id:Nat):Bool:=
 match da S.h id with
 |some (.dm _ _)=>true
 |_=>false
def C9(S:aq)(b:Bool)(g:ab):Option dt:=
 match g.rt,b with
 |some .bool,true=>some ⟨[],[],g⟩
 |some .bool,false=>some ⟨[.f1 .mN g],[],.aT .bool S.k⟩
 |_,_=>none
def Kb:BinOp→Option Bool
 | .eql=>some true
 | .neq=>some false
 |_=>none
def Kc(P:Program)(S:aq)(op:BinOp)(cv:TypeId)(x y:ab):Option dt:=
 match C8 P cv,Kb op with
 |true,some b=>match x,y with
  | .cs (.pointer none),.cs (.pointer none)=>some ⟨[],[],.cs (.bool b)⟩
  | .eb i o,.eb j q=>match(Nat.beq i j&&Nat.beq o q)&&zy S i with
   |true=>some ⟨[],[],.cs (.bool b)⟩
   |false=>none
  | .fg g (some i) _,.cs (.pointer none)=>match zy S i with
   |true=>C9 S (!b) g
   |false=>none
  | .fg g (some i) o,.eb j q=>match(Nat.beq i j&&Nat.beq o q)&&zy S i with
   |true=>C9 S b g
   |false=>none
  |_,_=>none
 |_,_=>none
def Kd(P:Program)(S:aq)(src dst:TypeId)(x:ab):Option dt:=
 match x with
 | .eb id off=>match da S.h id,P.underlying src,P.underlying dst with
  |some (.dm _ l),some (.pointer t),some .unsafePointer=>match(P.info? t).map (fun i=>decide (i.size=0)),Nat.blt off l.length with
   |some false,true=>some ⟨[],[],x⟩
   |_,_=>none
  |some (.dm bt l),some .unsafePointer,some (.pointer u)=>match liesAt P P.depth bt (l.length/ P.cellsOf bt) off u 1&&(P.info? u).isSome,Nat.blt off l.length with
   |true,true=>some ⟨[],[],x⟩
   |_,_=>none
  |_,_,_=>none
 |_=>none
def Ke(P:Program)(S:aq)(t:TypeId)(x:ab):Option dt:=
 match x,P.underlying t with
 | .eb id 0,some (.array n el)=>match da S.h id,Nat.blt 0 n&&(P.info? el).isSome with
  |some (.dm _ _),true=>some ⟨[],[],.cM id n⟩
  |_,_=>none
 |_,_=>none
def Kf(P:Program)(S:aq)(src dst:TypeId)(x:ab):Option dt:=
 match x,P.underlying src with
 | .cM id n,some (.slice el)=>match da S.h id,P.underlying el,P.underlying dst with
  |some (.dm _ l),some (.int .u8),some .string=>match Nat.beq n l.length&&l.all (ab.er (.int .u8))with
   |true=>some ⟨[.p3 .u8 (l.map fun x=>.ch [x]),.f1 .cM (.aT (.li .u8) S.k)],[],.aT .str (S.k+1)⟩
   |false=>none
  |_,_,_=>none
 |_,_=>none
def oT:List ab→Option (List aU)
 |[]=>some []
 |x::r=>match x.rt,oT r with
  |some t,some l=>some (t::l)
  |_,_=>none
def Da(P:Program)(t:TypeId):Bool:=
 match P.underlying t with
 |some (.interface _)=>true
 |none=>true
 |_=>false
def Kg(P:Program)(t:TypeId)(x:ab):Option dt:=
 match Da P t with
 |true=>none
 |false=>match x with
  | .ch l=>match oT l with
   |some rs=>some ⟨[],[],.ek t true rs l⟩
   |none=>none
  |x=>match x.rt with
   |some r=>some ⟨[],[],.ek t false [r] [x]⟩
   |none=>none
def rb(a:Bool)(l:List ab):Option ab:=
 match a,l with
 |true,l=>some (.ch l)
 |false,[x]=>some x
 |false,_=>none
def Kh:Value→ab
 | .agg a=>.ch (a.toList.map .cs)
 |v=>.cs v
def Ki(P:Program)(t:TypeId)(x:ab)(c:Bool):Option dt:=
 match x,Da P t with
 | .ek u a rs l,false=>match Nat.beq u t,c with
  |true,true=>match rb a l,decide (oT l=some rs)with
   |some v,true=>some ⟨[],[],.tp [v,.cs (.bool true)]⟩
   |_,_=>none
  |true,false=>match rb a l,decide (oT l=some rs)with
   |some v,true=>some ⟨[],[],v⟩
   |_,_=>none
  |false,true=>match(P.info? t).bind (·.zero)with
   |some z=>match sd z with
    |true=>some ⟨[],[],.tp [Kh z,.cs (.bool false)]⟩
    |false=>none
   |none=>none
  |false,false=>none
 |_,_=>none
def p9(P:Program)(N:Nat)(S:aq)(o:Oper):Option dt:=
 match o.op with
 | .move x=>some ⟨[],[],S.aY N x⟩
 | .assign x=>some ⟨[],[],S.aY N x⟩
 | .pick c x y=>JZ S (S.aY N c) (S.aY N x) (S.aY N y)
 | .extract x i=>match S.aY N x with
  | .tp l=>match l[i]? with
   |some v=>some ⟨[],[],v⟩
   |none=>none
  |_=>none
 | .nilCheck x=>match sv S (S.aY N x)with
  |true=>some ⟨[],[],S.aY N x⟩
  |false=>none
 | .fieldAddr t x f=>match r4 P t f,sv S (S.aY N x)with
  |some k,true=>match wL k (S.aY N x)with
   |some p=>some ⟨[],[],p⟩
   |none=>none
  |_,_=>none
 | .load t x=>J4 P S t (S.aY N x)
 | .field t x f=>J9 P t (S.aY N x) f
 | .indexAddr t x i=>J3 P S t (S.aY N x) (S.aY N i)
 | .index t x i=>J0 P S t (S.aY N x) (S.aY N i)
 | .binOp op cv x y _=>match JW P S op cv (S.aY N x) (S.aY N y)with
  |some r=>some r
  |none=>Kc P S op cv (S.aY N x) (S.aY N y)
 | .unOp op _ x=>J7 S op (S.aY N x)
 | .convert src dst x=>match J6 P S src dst (S.aY N x)with
  |some r=>some r
  |none=>match Kd P S src dst (S.aY N x)with
   |some r=>some r
   |none=>Kf P S src dst (S.aY N x)
 | .build t ps=>J8 P N S t ps.toList
 | .makeFunc (.func f) p q=>some ⟨[],[],.fn (.func f) (p.toList.map (S.aY N)) (q.toList.map (S.aY N))⟩
 | .makeInterface t x=>Kg P t (S.aY N x)
 | .typeAssert x _ t c=>Ki P t (S.aY N x) c
 | .lookup t m x c=>JY P S t (S.aY N m) (S.aY N x) c
 | .slice t x none none none=>match C7 P N S t (S.aY N x) none none with
  |some r=>some r
  |none=>Ke P S t (S.aY N x)
 | .slice t x lo hi none=>C7 P N S t (S.aY N x) lo hi
 | .call c=>match c.callee,c.args.toList,c.argTypes.toList with
  | .builtin .len,[x],[t]=>J5 P S t (S.aY N x)
  | .builtin b,[x,y],_=>Ka S b (S.aY N x) (S.aY N y)
  | .value f,l,_=>J2 P S (S.aY N f) (l.map (S.aY N))
  |_,_,_=>none
 |_=>none
section
variable {P:Program} {G:a8} {o:Oper} {N B:Nat} {S:aq} {M:List aR}
theorem RI{e:Env}{g:ab}{b:Bool}{x:ab}(h:g.az e .bool=b):(x.sw g b).den G e=x.den G e:=by
 unfold ab.sw
 split
 ·rename_i h' c v
  split
  ·rename_i ad
   simp only[Bool.and_eq_true,decide_eq_true_eq]at ad
   have:=JL ad.1
   subst this;obtain⟨_,rfl⟩:=ad;simp only[ab.den,h]
   cases c<;>rfl
  ·rfl
 ·rfl
theorem Db{e:Env}{r:aU}(h:r.one=true)(x:ab):x.get e r=x.az e r:=by
 cases r<;>first|rfl|cases h
theorem h9.nil{v:ab}(h: ∀e,(∀c∈S.g,c.ok e)→cL P G o (S.den G N B e) (v.den G e)):h9 P G N B M o S ⟨[],[],v⟩:=fun e hf _ _=>h e hf
theorem zdx{c x y:Operand}{r:dt}(an:o.op= .pick c x y)(h:JZ S (S.aY N c) (S.aY N x) (S.aY N y)=some r):h9 P G N B M o S r:=fun e hf hx hn=>by
 unfold JZ at h
 split at h
 ·rename_i b ad
  cases h
  have hc:aI G (S.den G N B e) c= .au (.v (.bool b)):=by rw[bC hf,ad];rfl
  refine yK c x y an hc ?_
  cases b<;>simp[bC hf]
 ·rename_i b ad _
  split at h
  ·rename_i ag
   cases h
   have aj:=p5 ad hf
   have hc:aI G (S.den G N B e) c= .au (.v (.bool b)):=by rw[bC hf,fX ag,aj];rfl
   refine yK c x y an hc ?_
   cases b<;>simp[bC hf]
  ·cases h
 ·split at h
  ·rename_i hc
   split at h
   ·rename_i q _
    split at h
    ·rename_i ad
     cases h;simp only[Bool.and_eq_true]at ad
     have yC:aI G (S.den G N B e) c= .au (.v (.bool ((S.aY N c).az e .bool))):=(bC hf c).trans (fX hc)
     refine(yK c x y an yC rfl).sub ?_
     have aP:Env.at e S.k=_:=hx 0 _ rfl
     simp only[ab.den,aP,bJ.den,cz,bC hf,Db ad.2.2]
     cases gz:(S.aY N c).az e .bool with
     |true=>
      simp only[cond_true,if_true];rw[←RI (G:=G) (x:=S.aY N x) gz];exact ud ad.1
     |false=>
      simp only[cond_false,Bool.false_eq_true,if_false];rw[←RI (G:=G) (x:=S.aY N y) gz];exact ud ad.2.1
    ·cases h
   ·cases h
  ·cases h
theorem Kj{e:Env}{r:aU}: ∀{l:List ab} {j:Nat} {x:ab},sx r l=true→l[j]? =some x→Sub (x.den G e) (.au (fF r (sm e r l j)))
 |[],_,_,_,h=>by simp at h
 |[y],j,x,a6,h=>by
  have af:j=0:=by
   have:=(List.getElem?_eq_some_iff.1 h).1
   simp at this;exact this
  subst af;simp only[List.getElem?_cons_zero,Option.some.injEq]at h
  subst h;simp only[sx,Bool.and_eq_true]at a6;exact ud a6.1
 |y::z::l,0,x,a6,h=>by
  simp only[List.getElem?_cons_zero,Option.some.injEq]at h
  subst h;simp only[sx,Bool.and_eq_true]at a6;exact ud a6.1
 |y::z::l,j+1,x,a6,h=>by
  simp only[List.getElem?_cons_succ]at h
  simp only[sx,Bool.and_eq_true]at a6
  have:=Kj (e:=e) (r:=r) (l:=z::l) (j:=j) (x:=x) (by simp only[sx,Bool.and_eq_true];exact a6.2) h
  have ad:Nat.beq (j+1) 0=false:=rfl
  simp only[sm,ad,cond_false,Nat.add_sub_cancel];exact this
theorem Dc{e:Env}{l:List ab}{j:Nat}{x:ab}(h:l[j]? =some x):(ab.bO G e l)[j]? =some (x.den G e):=by rw[e5,List.getElem?_map,h];rfl
theorem zdy{t:TypeId}{x i:Operand}{r:dt}(an:o.op= .index t x i)(h:J0 P S t (S.aY N x) (S.aY N i)=some r):h9 P G N B M o S r:=fun e hf hx hn=>by
 unfold J0 at h
 split at h
 ·rename_i l ar
  have fS:aI G (S.den G N B e) x= .agg (ab.bO G e l):=by rw[bC hf,ar];rfl
  split at h
  ·rename_i len el hu
   split at h
   ·rename_i ad bQ
    simp only[Bool.and_eq_true]at ad
    have hlen:=Nat.eq_of_beq_eq_true ad.2
    split at h
    ·rename_i j hi
     split at h
     ·rename_i v aw
      cases h
      have af:=(List.getElem?_eq_some_iff.1 aw).1
      exact QU j an hu ad.1 bQ (by rw[bC hf,hi];rfl) fS (Dc aw) (by omega)
     ·cases h
    ·split at h
     ·rename_i eP hi ag
      split at h
      ·rename_i a6
       cases h;simp only[Bool.and_eq_true]at a6
       have jh:0≤ck ((S.aY N i).dyn e)∧ck ((S.aY N i).dyn e)<(l.length:Int):=C0 hf hn
       obtain⟨j,af⟩: ∃j:Nat,ck ((S.aY N i).dyn e)=(j:Int):=⟨_,(Int.toNat_of_nonneg jh.1).symm⟩
       have cJ:j<l.length:=by omega
       have hg:aI G (S.den G N B e) i=iF (j:Int):=by
        rw[bC hf,jn hi,←lv hi,af]
       have aw:l[j]? =some l[j]:=List.getElem?_eq_getElem cJ
       refine(QU j an hu ad.1 bQ hg fS (Dc aw) (by omega)).sub ?_
       have aP:Env.at e S.k=_:=hx 0 _ rfl
       simp only[ab.den,aP,bJ.den,cz,af,Int.toNat_natCast];exact Kj a6.1 aw
      ·cases h
     ·cases h
   ·cases h
  ·cases h
 ·split at h
  ·rename_i k aa ae aH
   cases h
   have fS:aI G (S.den G N B e) x=_:=(bC hf x).trans (fX aa)
   have hg:aI G (S.den G N B e) i=_:=(bC hf i).trans (jn ae)
   obtain⟨g1,g2⟩:=zdl hf ae hn;exact p6 (f:=.q2 k) (hx 0 _ rfl) (zc1 _ k _ an (tL aH) hg fS g1 g2)
  ·cases h
theorem RJ{e:Env}{c:bF}{i:Nat}{x:fO c}(h:Env.at e i=⟨.st c,x⟩):(ab.ip c i 0).den G e= .au (.ptr (b9 c x)):=by
 simp only[ab.den,h,cz,List.drop_zero]
theorem RK{c:bF}{l:List (fO c)}{z:Int}(aP:0≤z)(aa:z<(l.length:Int)):l[z.toNat]? =some (l.getD z.toNat (aE c)):=by
 have:z.toNat<l.length:=by omega
 rw[List.getD_eq_getElem?_getD,List.getElem?_eq_getElem this]
 rfl
theorem Dd{e:Env}{x:ab}{c:bF}(h:uq x=some c):x.den G e= .au (.li c (x.az e (.li c)))∧x.rt=some (.li c):=by
 unfold uq at h
 split at h
 ·rename_i lp ag
  cases h;exact⟨fX ag,ag⟩
 ·cases h
theorem zdz{s:aO}{x:Operand}{t:TypeId}(an:o.op= .call {callee:=.builtin .len,args:=#[x],argTypes:=#[t]})(aH:isSlice P t=true){id n:Nat}(hx:aI G s x= .dx id n){bt:TypeId}{cs:List aC}(bb:aD s.heap id=some (.box bt cs)):cL P G o s (.au (.v (.int .i64 (n:Int)))):=
 fun E a w β ro ag=>by
  have h:=ag.eval x
  rw[hx]at h;generalize hc:a.eval x=c at h
  cases h with
  |dx _ _ _ ar ak=>
   obtain⟨b,_,rfl⟩:=ak _ _ bb;unfold isSlice at aH
   split at aH
   ·rename_i e hu
    refine⟨.int .i64 n,?_,.fC rfl⟩
    simp[execOp,an,resolve,invoke,builtin,hc,Builtin.len_,run_underlying hu,goInt]
   ·cases aH
theorem zdA{s:aO}{x y:Operand}{t:TypeId}(an:o.op= .indexAddr t x y){vu:Nat}(aH:jW P t=some vu){k:IntKind}{j n:Nat}(ax:aI G s y= .au (.v (.int k (j:Int))))(af:j<n){id:Nat}(hx:aI G s x= .dx id n){bt:TypeId}{cs:List aC}(bb:aD s.heap id=some (.box bt cs)):cL P G o s (.ptr id (j*vu)):=
 fun E a w β ro ag=>by
  have h:=ag.eval x
  rw[hx]at h;generalize hc:a.eval x=c at h
  cases h with
  |dx _ _ _ ar ak=>
   obtain⟨b,ad,rfl⟩:=ak _ _ bb;obtain⟨e,hu,bQ⟩:=yQ aH;refine⟨.pointer (some ⟨b,j*vu,none⟩),?_,.ptr _ _ _ ar fun bz cs' _=>⟨b,ad,rfl⟩⟩
   by_cases aV:j*vu=0<;>simp[execOp,an,hc,ag.ec ax,Instr.indexAt,asIntOf,run_underlying hu,af,bQ,Addr.add,aV]
theorem zdB(cM:ByteArray)(c:Int):Extern.BytealgIndexByte.indexByte #[.string cM,.int .u8 c]=pure (.int .i64 (CN cM c)):=by
 have hi:Extern.BytealgIndexByte.indexByte #[.string cM,.int .u8 c]=(match(List.range cM.size).find? fun i=>cM[i]! ==c.toNat.toUInt8 with
  |some i=>pure (goInt i)
  |none=>pure (goInt (-1))):=rfl
 rw[hi]
 unfold CN
 cases List.find? (fun i=>cM[i]! ==c.toNat.toUInt8) (List.range cM.size)<;>rfl
theorem De{a b:String}(h:(a==b)=true):a=b:=by simpa using h
theorem zdC{f:Operand}{aG:List Operand}{args:Array Operand}{ts:Array TypeId}{r:dt}(an:o.op= .call {callee:=.value f,args:=args,argTypes:=ts})(a6:args.toList=aG)(h:J2 P S (S.aY N f) (aG.map (S.aY N))=some r):h9 P G N B M o S r:=fun e hf hx hn=>by
 unfold J2 at h
 split at h
 rotate_left
 ·cases h
 rename_i RL ur
 have wQ:aI G (S.den G N B e) f= .fn (.func RL) [] []:=by rw[bC hf,ur];rfl
 have start: ∀{ev:Array Value→Sem Value} {fn:Func},P.funcs[RL]? =some fn→fn.body.isNone=true→(fn.name== "runtime.NumGoroutine")=false→Extern.findNext fn=none→Extern.find fn=some ev→∀E a w β ro,c3 E G (S.den G N B e) a w β ro→(execOp a.eval o).run P w=((ev (args.map a.eval)).run P w).andThen fun v w'=>.ok (.value v) w':=fun {ev fn} aa ae av aQ bL E a w β ro ag=>by
  have hc:=ag.eval f
  rw[wQ]at hc;generalize he:a.eval f=IQ at hc
  cases hc with
  |fn _ _ _ c d g1 g2 _ _=>
   have hv:c= #[]:=by simpa using g1
   have nS:d= #[]:=by simpa using g2
   subst hv nS;simp only[execOp,an,resolve,he,Deferred.ofValue,Sem.run_bind,Sem.run_pure,Result.andThen_ok,invoke,Array.empty_append,Array.append_empty];exact run_callFunc_extern aa av ae aQ bL _ w
 split at h
 ·rename_i x aj ar
  cases h;unfold J1 at aj
  split at aj
  rotate_left
  ·cases aj
  rename_i fn lQ
  split at aj
  ·rename_i _ zz vP
   simp only[Bool.and_eq_true]at zz;obtain⟨ad,gH⟩:=zz
   have hn:=De vP
   have gH:=De gH
   obtain⟨y,rfl⟩: ∃y,aG=[y]:=by
    match aG,ar with
    |[y],_=>exact⟨y,rfl⟩
   simp only[List.map_cons,List.map_nil,List.cons.injEq,and_true]at ar
   have hV:args= #[y]:=by rw[←Array.toList_inj];exact a6
   intro E a w β ro ag;refine⟨a.eval y,?_,by have:=ag.eval y;rw[bC hf,ar]at this;exact this⟩
   rw[start (ev:=Extern.AbiNoEscape.same) lQ ad (by rw[hn];rfl) (by unfold Extern.findNext;simp only[hn,gH]<;>rfl) (by unfold Extern.find;simp only[hn,gH]<;>rfl) E a w β ro ag,hV]
   have hm:(#[y]:Array Operand).map a.eval= #[a.eval y]:=by simp
   rw[hm];rfl
  ·cases aj
  ·cases aj
 ·rename_i x z aj ar
  split at h
  ·rename_i g1 g2
   cases h;unfold J1 at aj
   split at aj
   rotate_left
   ·cases aj
   rename_i fn lQ
   split at aj
   ·cases aj
   ·rename_i zz _ vP
    simp only[Bool.and_eq_true]at zz;obtain⟨ad,gH⟩:=zz
    have hn:=De vP
    have gH:=De gH
    obtain⟨y,u,rfl⟩: ∃y u,aG=[y,u]:=by
     match aG,ar with
     |[y,u],_=>exact⟨y,u,rfl⟩
    simp only[List.map_cons,List.map_nil,List.cons.injEq,and_true]at ar
    have hV:args= #[y,u]:=by rw[←Array.toList_inj];exact a6
    have ax:aI G (S.den G N B e) y= .au (.v (.string (x.az e .str))):=by rw[bC hf,ar.1];exact fX g1
    have hu:aI G (S.den G N B e) u= .au (.v (.int .u8 (z.az e (.int .u8)))):=by rw[bC hf,ar.2];exact fX g2
    refine p6 (f:=.wx) (hx 0 _ rfl) fun E a w β ro ag=>?_
    refine⟨.int .i64 (CN (x.az e .str) (z.az e (.int .u8))),?_,.fC rfl⟩
    rw[start (ev:=Extern.BytealgIndexByte.indexByte) lQ ad (by rw[hn];rfl) (by unfold Extern.findNext;simp only[hn,gH]<;>rfl) (by unfold Extern.find;simp only[hn,gH]<;>rfl) E a w β ro ag,hV]
    have hm:(#[y,u]:Array Operand).map a.eval= #[.string (x.az e .str),.int .u8 (z.az e (.int .u8))]:=by simp[ag.ec ax,ag.ec hu]
    rw[hm];rw[zdB];rfl
   ·cases aj
  ·cases h
 ·cases h
theorem zdD{t:TypeId}{x i:Operand}{r:dt}(an:o.op= .indexAddr t x i)(h:J3 P S t (S.aY N x) (S.aY N i)=some r):h9 P G N B M o S r:=fun e hf hx hn=>by
 unfold J3 at h
 split at h
 ·rename_i k hi
  have hg:aI G (S.den G N B e) i=_:=(bC hf i).trans (jn hi)
  split at h
  ·rename_i n lx
   split at h
   ·rename_i id bb
    split at h
    ·rename_i bz c y ah
     split at h
     ·rename_i ad
      cases h
      have ad:=Nat.eq_of_beq_eq_true ad
      obtain⟨g1,g2⟩:=wK hf hi hn;obtain⟨j,af⟩: ∃j:Nat,(S.aY N i).az e (.int k)=(j:Int):=⟨_,(Int.toNat_of_nonneg g1).symm⟩;rw[af]at hg g2
      have g2:(j:Int)<((List.length (y.az e (.li c)):Nat):Int):=g2
      have:=Qe t x i an lx hg (p:=.cV id j 0) (by
       rw[bC hf,bb];simp only[ab.den,l0,aq.den,ef,ah,Option.map_some,bB.den]
       rw[if_pos ⟨ad.symm,by rw[List.length_map];omega⟩])
      simp only[ab.den,lv hi,af,Int.toNat_natCast];exact this
     ·cases h
    ·cases h
   ·rename_i id m bb
    split at h
    ·rename_i bt l bk j ah qR
     split at h
     ·rename_i Qi
      cases h;exact zdA an lx (k:=bk) (j:=j) (by rw[bC hf,qR];rfl) (e6 Qi) (id:=id) (bt:=bt) (cs:=ab.bO G e l) (by rw[bC hf,bb];rfl) (by simp only[aq.den,ef,ah,Option.map_some,bB.den])
     ·cases h
    ·cases h
   ·split at h
    ·rename_i c hc
     split at h
     ·rename_i ad
      cases h
      have ad:=Nat.eq_of_beq_eq_true ad
      rw[ad]at lx;obtain⟨hd,zA⟩:=Dd (G:=G) (e:=e) hc;obtain⟨g1,g2⟩:=wK hf hi hn
      have:=(Re c _ k _ an lx hg ((bC hf x).trans hd) g1 g2).v
      have aP:Env.at e S.k=_:=hx 0 _ rfl
      have aa:=RJ (G:=G) (x:=List.getD ((S.aY N x).az e (.li c)) (Int.toNat ((S.aY N i).az e (.int k))) (aE c)) aP
      show cL P G o _ ((ab.ip c S.k 0).den G e);rw[aa];exact this
     ·cases h
    ·split at h
     ·rename_i c qV _
      cases h
      have jh:=hn _ (List.mem_singleton.2 rfl)
      have aV:(S.aY N x).az e (.li c)=[]:=by
       unfold ab.isNil at qV
       split at qV
       ·rename_i aJ
        simp only[aJ,ab.az,ab.fo,cz]
       ·cases qV
      simp only[fc.ok,cA.ue,aV]at jh
      have ae:(S.aY N i).az e (.int k)<((List.length ([]:List (fO c)):Nat):Int):=jh.2
      have av:0≤(S.aY N i).az e (.int k):=jh.1
      exact absurd (Int.lt_of_le_of_lt av ae) (Int.lt_irrefl _)
     ·cases h
  ·split at h
   ·rename_i len n l a6 ar
    have dH:=zw (G:=G) (N:=N) (B:=B) (e:=e) ar
    rw[←bC (B:=B) hf]at dH
    split at h
    ·rename_i bk j af
     split at h
     ·rename_i p cJ ak
      cases h
      have cJ:=e6 cJ
      refine IX t x i an a6 (k:=bk) (j:=j) (by rw[bC hf,af];rfl) cJ dH ?_
      have ai:=zx (G:=G) (e:=e) ak
      rw[←ai,←bC (N:=N) (B:=B) hf];revert dH
      cases aI G (S.den G N B e) x<;>intro dH<;>first|(simp[fl]at dH;done)|skip
      all_goals rename_i y
      ·cases y<;>first|(simp[fl]at dH;done)|rfl
      ·rfl
      ·rfl
     ·cases h
    ·rename_i id off bb _
     cases h
     have jh:0≤ck ((S.aY N i).dyn e)∧ck ((S.aY N i).dyn e)<(len:Int):=C0 hf hn
     obtain⟨j,af⟩: ∃j:Nat,ck ((S.aY N i).dyn e)=(j:Int):=⟨_,(Int.toNat_of_nonneg jh.1).symm⟩;rw[←lv hi,af]at hg;refine IX t x i an a6 hg (by omega) dH ?_
     rw[bC hf,bb];simp only[ab.den,iD,af,Int.toNat_natCast]
    ·cases h
   ·cases h
 ·cases h
theorem zdE{t:TypeId}{x:Operand}{r:dt}(an:o.op= .load t x)(h:J4 P S t (S.aY N x)=some r):h9 P G N B M o S r:=fun e hf hx hn=>by
 unfold J4 at h
 split at h
 ·rename_i id i off ak
  split at h
  ·rename_i bz c y k ah hi
   split at h
   ·rename_i v aw ax
    cases h;obtain⟨g1,g2⟩:=wK hf hi hn
    have aP:Env.at e S.k=⟨.st c,List.getD (y.az e (.li c)) (i.az e (.int k)).toNat (aE c)⟩:=hx 0 _ rfl
    refine FR an ?_ aw
    rw[bC hf,ak];simp only[ab.den,fl,aq.den,ef,ah,Option.map_some,bB.den,lv hi];rw[List.getElem?_map,RK g1 g2]
    simp only[Option.map_some,Option.some.injEq];rw[JU,sk,aP,cz,List.map_drop]
   ·cases h
  ·cases h
 ·rename_i id off i ak
  split at h
  ·rename_i bz l k ah hi
   split at h
   ·rename_i q aJ
    split at h
    ·rename_i a6
     cases h;simp only[Bool.and_eq_true]at a6
     have jh:0≤ck (i.dyn e)∧ck (i.dyn e)<((l.drop off).length:Int):=C0 hf hn
     obtain⟨j,af⟩: ∃j:Nat,ck (i.dyn e)=(j:Int):=⟨_,(Int.toNat_of_nonneg jh.1).symm⟩
     have cJ:j<(l.drop off).length:=by omega
     have aw:(l.drop off)[j]? =some (l.drop off)[j]:=List.getElem?_eq_getElem cJ
     have hd:(l.drop off).drop j=(l.drop off)[j]::(l.drop off).drop (j+1):=List.drop_eq_getElem_cons cJ
     have:=Iz t x an a6.2.2 (y:=((l.drop off)[j]).den G e) (cs:=ab.bO G e ((l.drop off).drop (j+1))) (s:=S.den G N B e) (G:=G) (by
      rw[bC hf,ak];simp only[ab.den,fl,aq.den,ef,ah,Option.map_some,bB.den,af,Int.toNat_natCast,Nat.mul_one,Option.some.injEq];rw[←JU,←List.drop_drop,hd]
      rfl)
     refine this.sub ?_
     have aP:Env.at e S.k=_:=hx 0 _ rfl
     simp only[ab.den,aP,bJ.den,cz,af,Int.toNat_natCast];exact Kj a6.1 aw
    ·cases h
   ·cases h
  ·cases h
 ·split at h
  ·rename_i l ar
   split at h
   ·rename_i v aw
    cases h;refine FR an ?_ aw
    rw[bC hf];exact zw ar
   ·cases h
  ·cases h
theorem zdF{t:TypeId}{x:Operand}{r:dt}(an:o.op= .call {callee:=.builtin .len,args:=#[x],argTypes:=#[t]})(h:J5 P S t (S.aY N x)=some r):h9 P G N B M o S r:=fun e hf hx hn=>by
 unfold J5 at h
 split at h
 ·rename_i ak
  split at h
  ·rename_i aH
   cases h;exact IV x t an aH (m:=0) (by rw[bC hf,ak];rfl)
  ·cases h
 ·rename_i b ak
  split at h
  ·rename_i aH
   cases h;exact IW x t an (tL aH) (by rw[bC hf,ak];rfl)
  ·cases h
 ·rename_i id n ak
  split at h
  ·rename_i bt l ah aH
   cases h;exact zdz an aH (id:=id) (bt:=bt) (cs:=ab.bO G e l) (by rw[bC hf,ak];rfl) (by simp only[aq.den,ef,ah,Option.map_some,bB.den])
  ·cases h
 ·rename_i id ak
  split at h
  ·rename_i bz c y ah
   split at h
   ·rename_i aH
    cases h;refine p7 (f:=.iJ c) (hx 0 _ rfl) (IV x t an aH (m:=List.length (y.az e (.li c))) ?_)
    rw[bC hf,ak];simp only[ab.den,kT,aq.den,ef,ah,Option.map_some,bB.den,List.length_map]
   ·cases h
  ·cases h
 ·split at h
  ·rename_i ag
   split at h
   ·rename_i aH
    cases h;exact p7 (f:=.nz) (hx 0 _ rfl) (IW x t an (tL aH) ((bC hf x).trans (fX ag)))
   ·cases h
  ·rename_i c ag
   split at h
   ·rename_i aH
    cases h;exact p7 (f:=.iJ c) (hx 0 _ rfl) (zc2 c _ an aH ((bC hf x).trans (fX ag)))
   ·cases h
  ·split at h
   ·rename_i n Kk
    cases h;exact Qc x t an Kk
   ·cases h
theorem wR{e:Env}(hf: ∀c∈S.g,c.ok e){lo:Option Operand}{l:Option ab}(h:wP N S lo=some l):zp G (S.den G N B e) lo (l8 e l):=by
 unfold wP at h
 split at h
 ·cases h;trivial
 ·split at h
  ·rename_i y k ag
   cases h;exact⟨k,by rw[bC hf,jn ag,lv ag]⟩
  ·cases h
theorem RM{t:TypeId}{x:Operand}{lo hi:Option Operand}{r:dt}(an:o.op= .slice t x lo hi none)(h:C7 P N S t (S.aY N x) lo hi=some r):h9 P G N B M o S r:=fun e hf hx hn=>by
 unfold C7 at h
 split at h
 ·rename_i l h' ar bd
  split at h
  ·rename_i ag
   split at h
   ·rename_i aH
    cases h
    have aP:Env.at e S.k=_:=hx 0 _ rfl
    simp only[ab.den,aP,bJ.den,cz];refine zdg _ an (tL aH) ((bC hf x).trans (fX ag)) (wR hf ar) (wR hf bd) ?_
    cases l<;>cases h'<;>first|trivial|exact hn _ (List.mem_singleton.2 rfl)
   ·cases h
  ·rename_i c ag
   split at h
   ·rename_i n lx
    split at h
    ·rename_i ad
     cases h;rw[Nat.eq_of_beq_eq_true ad]at lx
     have aP:Env.at e S.k=_:=hx 0 _ rfl
     simp only[ab.den,aP,bJ.den,cz];refine(Rs c _ an lx ((bC hf x).trans (fX ag)) (wR hf ar) (wR hf bd) ?_).v
     cases l<;>cases h'<;>first|trivial|exact hn _ (List.mem_singleton.2 rfl)
    ·cases h
   ·cases h
  ·cases h
 ·cases h
theorem zdG{src dst:TypeId}{x:Operand}{r:dt}(an:o.op= .convert src dst x)(h:J6 P S src dst (S.aY N x)=some r):h9 P G N B M o S r:=fun e hf hx hn=>by
 unfold J6 at h
 split at h
 ·rename_i id bb
  unfold RH at h
  split at h
  ·rename_i bz y el ah ai
   split at h
   ·rename_i hu hd
    cases h;refine p7 (f:=.cM) (hx 0 _ rfl) (Jz src dst el x an ai hu hd (l:=y.az e (.li .u8)) ?_)
    rw[bC hf,bb];simp only[ab.den,ft,aq.den,ef,ah,Option.map_some,bB.den];rfl
   ·cases h
  ·cases h
 rename_i zB
 split at h
 ·rename_i k ag
  split at h
  ·rename_i ai hd
   cases h;exact p7 (f:=.oD k _) (hx 0 _ rfl) (Qr src dst x an (by rw[ai];rfl) hd ((bC hf x).trans (jn ag)))
  ·cases h
 ·rename_i ag
  split at h
  ·rename_i el ai
   split at h
   ·rename_i hu hd
    cases h;refine p7 (f:=.cM) (hx 0 _ rfl) (Jz src dst el x an ai hu hd (l:=(S.aY N x).az e (.li .u8)) ?_)
    rw[bC hf,fX ag];rfl
   ·cases h
  ·cases h
 ·cases h
theorem zdH{op:UnOp}{t:TypeId}{x:Operand}{r:dt}(an:o.op= .unOp op t x)(h:J7 S op (S.aY N x)=some r):h9 P G N B M o S r:=fun e hf hx hn=>by
 unfold J7 at h
 split at h
 ·rename_i ag
  cases h;exact p7 (f:=.mN) (hx 0 _ rfl) (P1 t x an ((bC hf x).trans (fX ag)))
 ·rename_i k ag
  cases h;exact p7 (f:=.zj k) (hx 0 _ rfl) (P2 t x an ((bC hf x).trans (jn ag)))
 ·rename_i k ag
  cases h
  have fS:aI G (S.den G N B e) x=_:=(bC hf x).trans (jn ag)
  exact p7 (f:=.tB k) (hx 0 _ rfl) fun _ bc w β ro h=>⟨_,by simp[execOp,an,h.ec fS,Op.unary,Op.intBits,gD.den,aK.nZ],.fC rfl⟩
 ·cases h
theorem zdI{t:TypeId}{ps:Array (Nat × Operand)}{r:dt}(an:o.op= .build t ps)(h:J8 P N S t ps.toList=some r):h9 P G N B M o S r:=fun e hf hx hn=>by
 unfold J8 at h
 split at h
 ·rename_i pl zs qS aV
  split at h
  ·rename_i ad
   simp only[Bool.and_eq_true]at ad
   split at h
   ·rename_i ds hd
    cases h
    have aa:=C2 (G:=G) (e:=e) ad.2 hd
    have ae:ab.bO G e (zs.map .cs)=zs.map fun z=>.au (.v z):=by rw[e5,List.map_map];rfl
    rw[ae]at aa
    have av:(ps.toList.map fun p=>(p.1,aI G (S.den G N B e) p.2))=(ps.toList.map fun p=>(p.1,S.aY N p.2)).map fun p=>(p.1,p.2.den G e):=by
     rw[List.map_map];exact List.map_congr_left fun p _=>by simp[bC hf]
    refine Ql t ps an qS aV ad.1 av ?_ aa
    rw[List.all_map];refine List.all_eq_true.2 fun p ak=>?_
    have:=List.all_eq_true.1 ad.2 p ak
    simp only[Function.comp];rw[uk this];exact wM this
   ·cases h
  ·cases h
 ·cases h
theorem zdJ{t:TypeId}{x:Operand}{f:Nat}{r:dt}(an:o.op= .field t x f)(h:J9 P t (S.aY N x) f=some r):h9 P G N B M o S r:=fun e hf hx hn=>by
 unfold J9 at h
 split at h
 ·rename_i l off ar ak
  split at h
  ·rename_i v aw
   cases h;exact Qg t x f an ak (by rw[bC hf,ar];rfl) (Dc aw)
  ·cases h
 ·rename_i l off n ar ak
  split at h
  ·rename_i ad
   cases h
   have:=Qh t x f an ak (s:=S.den G N B e) (G:=G) (cs:=ab.bO G e l) (by rw[bC hf,ar];rfl) (by rw[lR];exact Nat.le_of_ble_eq_true ad)
   simp only[ab.den];rw[e5,List.map_take,List.map_drop,←e5];exact this
  ·cases h
 ·cases h
theorem zdK{b:Builtin}{x y:Operand}{ts:Array TypeId}{r:dt}(an:o.op= .call {callee:=.builtin b,args:=#[x,y],argTypes:=ts})(h:Ka S b (S.aY N x) (S.aY N y)=some r):h9 P G N B M o S r:=fun e hf hx hn=>by
 unfold Ka at h
 split at h
 ·rename_i k bk aa ae
  split at h
  ·rename_i aj
   cases h
   have aj:=of_decide_eq_true aj
   subst aj;exact p6 (f:=.tC k) (hx 0 _ rfl) (Qs x y ts an ((bC hf x).trans (jn aa)) ((bC hf y).trans (jn ae)))
  ·cases h
 ·rename_i k bk aa ae
  split at h
  ·rename_i aj
   cases h
   have aj:=of_decide_eq_true aj
   subst aj;exact p6 (f:=.mx k) (hx 0 _ rfl) (Qt x y ts an ((bC hf x).trans (jn aa)) ((bC hf y).trans (jn ae)))
  ·cases h
 ·cases h
theorem zdL{t:TypeId}(h:C8 P t=true): ∃gK i,P.underlying t=some (.pointer gK)∧P.info? gK=some i∧i.size≠0:=by
 unfold C8 at h
 split at h
 ·rename_i e hu
  cases hi:P.info? e with
  |none=>rw[hi]at h;cases h
  |some i=>
   rw[hi]at h;simp only[Option.isSome_some,Bool.true_and,Option.map_some]at h;refine⟨e,i,hu,hi,fun aV=>?_⟩
   rw[aV]at h;cases h
 ·cases h
theorem Kl{id:Nat}{e:Env}(h:zy S id=true): ∃t cs,aD (S.den G N B e).heap id=some (.box t cs):=by
 unfold zy at h
 split at h
 ·rename_i t l ah
  exact⟨t,ab.bO G e l,by simp only[aq.den,ef,ah,Option.map_some,bB.den]⟩
 ·cases h
theorem RN{s:aO}{b:Bool}{g:ab}{r:dt}{e:Env}(h:C9 S b g=some r)(hx: ∀(j:Nat) (x:bJ),r.xs[j]? =some x→Env.at e (S.k+j)=x.den M e)(ai:cL P G o s (.au (.v (.bool (bif b then g.az e .bool else !(g.az e .bool)))))):cL P G o s (r.v.den G e):=by
 unfold C9 at h
 split at h
 ·rename_i ag
  cases h
  have:=fX (G:=G) (e:=e) ag
  show cL P G o s (g.den G e);rw[this];exact ai
 ·rename_i ag
  cases h;exact p7 (f:=.mN) (hx 0 _ rfl) ai
 ·cases h
theorem zdM{tp gK:TypeId}{j:TypeInfo}(w:World)(a:Addr)(ak:P.underlying tp=some (.pointer gK))(zdN:P.info? gK=some j):(Op.equal tp (.pointer (some a)) (.pointer (some a))).run P w= .ok true w:=by
 have h: ∀d:Nat,(Op.equalIn (d+1) tp (.pointer (some a)) (.pointer (some a))).run P w= .ok true w:=fun d=>by
  simp[Op.equalIn,run_underlying ak,sizeOf,typeInfo,zdN,run_sameAddr_same]
 exact h 9999
theorem eq_nil{tp gK:TypeId}(w:World)(q:Option Addr)(ak:P.underlying tp=some (.pointer gK)):(Op.equal tp (.pointer none) (.pointer q)).run P w= .ok q.isNone w:=by
 have h: ∀d:Nat,(Op.equalIn (d+1) tp (.pointer none) (.pointer q)).run P w= .ok q.isNone w:=fun d=>by
  cases q<;>simp[Op.equalIn,run_underlying ak]
 exact h 9999
theorem Df{s:aO}{op:BinOp}{cv ty:TypeId}{x y:Operand}{b c:Bool}(an:o.op= .binOp op cv x y ty)(aH:C8 P cv=true)(ad:Kb op=some b)
 (h: ∀E a w β ro,c3 E G s a w β ro→∃p q,a.eval x= .pointer p∧a.eval y= .pointer q∧((q=none∧c=p.isNone)∨(p=none∧c=q.isNone)∨(∃cW,p=some cW∧q=some cW∧c=true))):cL P G o s (.au (.v (.bool (bif b then c else !c)))):=
 fun E a w β ro ag=>by
  obtain⟨gK,i,hu,hi,bQ⟩:=zdL aH;obtain⟨p,q,aa,ae,av⟩:=h E a w β ro ag;refine⟨.bool (bif b then c else !c),?_,.fC rfl⟩
  have zdO:P.underlying cv=some (.pointer (P.pointee cv)):=by rw[hu];simp[Program.pointee,hu]
  have heq:(Op.equal cv (.pointer p) (.pointer q)).run P w= .ok c w:=by
   rcases av with⟨rfl,rfl⟩|⟨rfl,rfl⟩|⟨cW,rfl,rfl,rfl⟩
   ·exact run_equal_pointer_nil w cv p zdO
   ·exact eq_nil w q hu
   ·exact zdM w cW hu hi
  unfold Kb at ad
  split at ad
  ·cases ad
   have:(binOp .eql cv (.pointer p) (.pointer q)).run P w= .ok (.bool c) w:=by
    simp only[binOp];simp[heq]
   simp[execOp,an,aa,ae,eqGuard_at_pointer,this]
  ·cases ad
   have:(binOp .neq cv (.pointer p) (.pointer q)).run P w= .ok (.bool (!c)) w:=by
    simp only[binOp];simp[heq]
   simp[execOp,an,aa,ae,eqGuard_at_pointer,this]
  ·cases ad
theorem zC{E:Entry}{s:aO}{a:Act}{w:World}{β:Nat→Value}{ro:Nat→Prop}{x:Operand}(ag:c3 E G s a w β ro)(hx:aI G s x= .au (.v (.pointer none))):a.eval x= .pointer none:=ag.ec hx
theorem sy{E:Entry}{s:aO}{a:Act}{w:World}{β:Nat→Value}{ro:Nat→Prop}{x:Operand}{id off:Nat}{t:TypeId}{cs:List aC}(ag:c3 E G s a w β ro)(hx:aI G s x= .ptr id off)(ah:aD s.heap id=some (.box t cs)):
 ∃b,β id= .pointer (some ⟨b,0,none⟩)∧a.eval x= .pointer (some ⟨b,off,none⟩):=by
 have h:=ag.eval x
 rw[hx]at h
 generalize hc:a.eval x=c at h
 cases h with
 |ptr _ _ _ ar ak=>exact ak _ _ ah
theorem zdP{op:BinOp}{cv ty:TypeId}{x y:Operand}{r:dt}(an:o.op= .binOp op cv x y ty)(h:Kc P S op cv (S.aY N x) (S.aY N y)=some r):h9 P G N B M o S r:=fun e hf hx hn=>by
 unfold Kc at h
 split at h
 rotate_left
 ·cases h
 rename_i b aH ad
 split at h
 ·rename_i aa ae
  cases h
  have:=Df (G:=G) (s:=S.den G N B e) (c:=true) an aH ad fun E a w β ro ag=>⟨none,none,zC ag (by rw[bC hf,aa];rfl),zC ag (by rw[bC hf,ae];rfl),.inl ⟨rfl,rfl⟩⟩
  cases b<;>exact this
 ·rename_i i q j q' aa ae
  split at h
  ·rename_i hc
   cases h;simp only[Bool.and_eq_true]at hc;obtain⟨⟨aW,dp⟩,c9⟩:=hc
   have aW:=Nat.eq_of_beq_eq_true aW
   have dp:=Nat.eq_of_beq_eq_true dp
   subst aW dp;obtain⟨bt,cs,ah⟩:=Kl (G:=G) (N:=N) (B:=B) (e:=e) c9
   have:=Df (G:=G) (s:=S.den G N B e) (c:=true) an aH ad fun E a w β ro ag=>by
    obtain⟨gP,g1,g2⟩:=sy ag (by rw[bC hf,aa];rfl) ah
    obtain⟨jf,g3,g4⟩:=sy ag (by rw[bC hf,ae];rfl) ah
    rw[g1]at g3
    cases g3
    exact⟨_,_,g2,g4,.inr (.inr ⟨_,rfl,rfl,rfl⟩)⟩
   cases b<;>exact this
  ·cases h
 ·rename_i g i off aa ae
  split at h
  ·rename_i hc
   obtain⟨bt,cs,ah⟩:=Kl (G:=G) (N:=N) (B:=B) (e:=e) hc;refine RN h hx ?_
   have:=Df (G:=G) (s:=S.den G N B e) (c:=!(g.az e .bool)) an aH ad fun E a w β ro ag=>by
    have Dg:a.eval y= .pointer none:=zC ag (by rw[bC hf,ae];rfl)
    have hd:aI G (S.den G N B e) x=(ab.fg g (some i) off).den G e:=by rw[bC hf,aa]
    simp only[ab.den]at hd
    cases sz:g.az e .bool with
    |true=>
     rw[sz]at hd;obtain⟨gP,g1,g2⟩:=sy ag hd ah;exact⟨_,_,g2,Dg,.inl ⟨rfl,rfl⟩⟩
    |false=>
     rw[sz]at hd;exact⟨_,_,zC ag hd,Dg,.inl ⟨rfl,rfl⟩⟩
   cases b<;>simpa using this
  ·cases h
 ·rename_i g i q j q' aa ae
  split at h
  ·rename_i hc
   simp only[Bool.and_eq_true]at hc;obtain⟨⟨aW,dp⟩,c9⟩:=hc
   have aW:=Nat.eq_of_beq_eq_true aW
   have dp:=Nat.eq_of_beq_eq_true dp
   subst aW dp;obtain⟨bt,cs,ah⟩:=Kl (G:=G) (N:=N) (B:=B) (e:=e) c9;refine RN h hx ?_
   refine Df (G:=G) (s:=S.den G N B e) (c:=g.az e .bool) an aH ad fun E a w β ro ag=>?_
   obtain⟨jf,g3,g4⟩:=sy ag (by rw[bC hf,ae];rfl) ah
   have hd:aI G (S.den G N B e) x=(ab.fg g (some i) q).den G e:=by rw[bC hf,aa]
   simp only[ab.den]at hd
   cases sz:g.az e .bool with
   |true=>
    rw[sz]at hd;obtain⟨gP,g1,g2⟩:=sy ag hd ah;rw[g1]at g3
    cases g3
    exact⟨_,_,g2,g4,.inr (.inr ⟨_,rfl,rfl,rfl⟩)⟩
   |false=>
    rw[sz]at hd;exact⟨_,_,zC ag hd,g4,.inr (.inl ⟨rfl,rfl⟩)⟩
  ·cases h
 ·cases h
theorem RO{E:Entry}{s:aO}{a:Act}{w:World}{β:Nat→Value}{ro:Nat→Prop}{id off b:Nat}{t:TypeId}{cs:List aC}(ag:c3 E G s a w β ro)(ah:aD s.heap id=some (.box t cs))(ad:β id= .pointer (some ⟨b,0,none⟩))(ar:off<cs.length):
 ∃arr v,w.heap[b]? =some (.cells arr t (0,0))∧arr.size=cs.length∧w.cell? ⟨b,off,none⟩=some v:=by
 have dj:=ag.heap.c6 id _ ah
 cases dj with
 |box _ _ b' arr aa ae av aQ=>
  rw[ad]at aa;simp only[Value.pointer.injEq,Option.some.injEq,Addr.mk.injEq,and_true]at aa;subst aa;refine⟨arr,arr[off]'(by omega),ae,av,?_⟩
  have bI:off<arr.size:=by omega
  simp[World.cell?,ae,bI]
theorem zdQ{src dst:TypeId}{x:Operand}{r:dt}(an:o.op= .convert src dst x)(h:Kd P S src dst (S.aY N x)=some r):h9 P G N B M o S r:=fun e hf hx hn=>by
 unfold Kd at h
 split at h
 rotate_left
 ·cases h
 rename_i id off aw
 have hd:aI G (S.den G N B e) x= .ptr id off:=by rw[bC hf,aw];rfl
 split at h
 ·rename_i bt l t ah ai pX
  split at h
  ·rename_i aV bI
   cases h;rw[aw]
   have bd:aD (S.den G N B e).heap id=some (.box bt (ab.bO G e l)):=by simp only[aq.den,ef,ah,Option.map_some,bB.den]
   intro E a w β ro ag;obtain⟨b,ad,he⟩:=sy ag hd bd;obtain⟨arr,v,_,_,hc⟩:=RO (off:=off) ag bd ad (by rw[lR];exact e6 bI)
   refine⟨.pointer (some ⟨b,off,none⟩),?_,by have:=ag.eval x;rw[hd,he]at this;exact this⟩
   simp only[execOp,an,he,Sem.run_bind,run_convert_to_unsafe ai pX aV hc,Result.andThen_ok,Sem.run_pure]
  ·cases h
 ·rename_i bt l u ah ai pX
  split at h
  ·rename_i wS bI
   cases h;rw[aw]
   have bd:aD (S.den G N B e).heap id=some (.box bt (ab.bO G e l)):=by simp only[aq.den,ef,ah,Option.map_some,bB.den]
   intro E a w β ro ag;obtain⟨b,ad,he⟩:=sy ag hd bd;obtain⟨arr,v,eV,bQ,hc⟩:=RO (off:=off) ag bd ad (by rw[lR];exact e6 bI)
   refine⟨.pointer (some ⟨b,off,none⟩),?_,by have:=ag.eval x;rw[hd,he]at this;exact this⟩
   rw[lR]at bQ
   have RP:w.shape? b=some (bt,l.length):=by simp[World.shape?,eV,bQ]
   have zdR:(convert src dst (.pointer (some ⟨b,off,none⟩))).run P w= .ok (.pointer (some ⟨b,off,none⟩)) w:=by
    rw[Bool.and_eq_true]at wS;obtain⟨i,hi⟩:=Option.isSome_iff_exists.1 wS.2
    have wS:=wS.1
    by_cases aV:i.size=0
    ·simp[convert,Conv.unsafePointer,Conv.seenAt,viewAt,variablesAt,sizeOf,typeInfo,run_underlying ai,run_underlying pX,hi,aV,RP,wS,Result.andThen]
    ·simp[convert,Conv.unsafePointer,Conv.seenAt,viewAt,variablesAt,sizeOf,typeInfo,run_underlying ai,run_underlying pX,hi,aV,RP,wS,Result.andThen]
   simp only[execOp,an,he,Sem.run_bind,zdR,Result.andThen_ok,Sem.run_pure]
  ·cases h
 ·cases h
theorem zdS{t:TypeId}{x:Operand}{r:dt}(an:o.op= .slice t x none none none)(h:Ke P S t (S.aY N x)=some r):h9 P G N B M o S r:=fun e hf hx hn=>by
 unfold Ke at h
 split at h
 ·rename_i id n el aw aH
  split at h
  ·rename_i bt l ah hc
   cases h;simp only[Bool.and_eq_true]at hc
   have jh:=e6 hc.1
   obtain⟨zin,mz⟩:=Option.isSome_iff_exists.1 hc.2
   have hd:aI G (S.den G N B e) x= .ptr id 0:=by rw[bC hf,aw];rfl
   have bd:aD (S.den G N B e).heap id=some (.box bt (ab.bO G e l)):=by simp only[aq.den,ef,ah,Option.map_some,bB.den]
   intro E a w β ro ag;obtain⟨b,ad,he⟩:=sy ag hd bd
   have dQ:=ag.eval x
   rw[hd,he]at dQ
   have bI:id<(S.den G N B e).next:=by cases dQ with|ptr _ _ _ ar _=>exact ar
   refine⟨.slice (some ⟨b,0,none⟩) n n,?_,.dx _ _ _ bI fun _ _ _=>⟨b,ad,rfl⟩⟩
   have b7: ¬n=0:=by omega
   simp[execOp,an,he,Instr.sliceAt,run_underlying aH,Instr.sureAddr,Instr.sliceBounds,sizeOf,typeInfo,mz,b7,addLit,Result.andThen]
  ·cases h
 ·cases h
theorem RQ{e:Env}: ∀{l:List ab},l9 e .u8 (l.map fun x=>.ch [x])=l.map fun x=>x.az e (.int .u8)
 |[]=>rfl
 |x::r=>by
  simp only[List.map_cons,l9,RQ (l:=r)];rfl
theorem RR{e:Env}: ∀{l:List ab},l.all (ab.er (.int .u8))=true→ab.bO G e l=(l.map fun x=>x.az e (.int .u8)).map fun n=>aC.au (.v (.int .u8 n))
 |[],_=>rfl
 |x::r,h=>by
  simp only[List.all_cons,Bool.and_eq_true]at h;simp only[ab.bO,List.map_cons,CL h.1,RR h.2]
theorem zdT{src dst:TypeId}{x:Operand}{r:dt}(an:o.op= .convert src dst x)(h:Kf P S src dst (S.aY N x)=some r):h9 P G N B M o S r:=fun e hf hx hn=>by
 unfold Kf at h
 split at h
 ·rename_i id n el aw ai
  split at h
  ·rename_i bt l ah hu pX
   split at h
   ·rename_i hc
    cases h;simp only[Bool.and_eq_true]at hc
    have jh:=Nat.eq_of_beq_eq_true hc.1
    have aP:=hx 0 _ rfl
    have aa:=hx 1 _ rfl
    simp only[Nat.add_zero,bJ.den,gD.den,gD.a,gD.c]at aP aa
    have ar:(ab.aT (.li .u8) S.k).az e (.li .u8)=l.map fun x=>x.az e (.int .u8):=by
     simp only[ab.az,ab.fo,ab.dyn,aP,cz];exact RQ
    rw[ar]at aa;simp only[ab.den,aa,cz,fF,jY];generalize hm:(l.map fun x=>x.az e (.int .u8))=m
    have mU:m.length=n:=by rw[←hm,List.length_map,jh]
    have hd:aI G (S.den G N B e) x= .dx id n:=by rw[bC hf,aw];rfl
    have bd:aD (S.den G N B e).heap id=some (.box bt (m.map fun n=>.au (.v (.int .u8 n)))):=by
     simp only[aq.den,ef,ah,Option.map_some,bB.den];rw[RR hc.2,hm]
    intro E a w β ro ag
    have dQ:=ag.eval x
    rw[hd]at dQ;generalize iG:a.eval x=c at dQ
    cases dQ with
    |dx _ _ _ ar ak=>
     obtain⟨b,ad,rfl⟩:=ak _ _ bd
     have eV: ∀(j:Nat) (v:Value),(m.map (Value.int .u8))[j]? =some v→w.cell? ((⟨b,0,none⟩:Addr).add j)=some v:=fun j v af=>by
      have dj:=ag.heap.c6 id _ bd
      cases dj with
      |box _ _ b' arr g1 g2 g3 g4=>
       rw[ad]at g1;simp only[Value.pointer.injEq,Option.some.injEq,Addr.mk.injEq,and_true]at g1;subst g1;rw[List.getElem?_map]at af
       obtain⟨z,aV,rfl⟩:=Option.map_eq_some_iff.1 af
       have bI:j<arr.size:=by rw[g3,List.length_map];exact(List.getElem?_eq_some_iff.1 aV).1
       have Dh:=g4 j (.au (.v (.int .u8 z))) (by rw[List.getElem?_map,aV];rfl)
       rw[Array.getD_eq_getD_getElem?,Array.getElem?_eq_getElem bI,Option.getD_some]at Dh
       have zdU:arr[j]= .int .u8 z:=bp.val Dh
       rw[addLit,Nat.zero_add];simp[World.cell?,g2,bI,zdU]
     have Cn:=run_loadCells_list (P:=P) (w:=w) ⟨b,0,none⟩ (m.map (Value.int .u8)) eV
     refine⟨.string (bytesOf m),?_,.fC rfl⟩
     have cn:(convert src dst (.slice (some ⟨b,0,none⟩) n n)).run P w= .ok (.string (bytesOf m)) w:=by
      rw[run_convert_bytes_string w src dst el (some ⟨b,0,none⟩) n n ai hu pX,←mU];exact run_bytesToString w ⟨b,0,none⟩ m.length m.length m (by simpa using Cn)
     simp[execOp,an,iG,cn]
   ·cases h
  ·cases h
 ·cases h
theorem Di{G:a8}{e:Env}: ∀{l:List ab} {rs:List aU},oT l=some rs→ab.bO G e l=(fV e rs l).map fun d=>.au d.au
 |[],_,h=>by cases h;rfl
 |x::r,_,h=>by
  simp only[oT]at h
  split at h
  ·rename_i t l aa ae
   cases h;simp only[ab.bO,fX aa,Di ae,fV,List.map_cons];rfl
  ·cases h
theorem RS{t:TypeId}(h:Da P t=false): ∃d,P.underlying t=some d∧∀m,d≠ .interface m:=by
 unfold Da at h
 split at h
 ·cases h
 ·cases h
 ·rename_i d hd hn
  cases hu:P.underlying t with
  |none=>exact absurd hu hn
  |some d=>exact⟨d,rfl,fun m e=>hd m (by rw[hu,e])⟩
theorem zdV{w:World}{ro:Nat→Prop}{σ:Heap}{β:Nat→Value}{M:Nat}{t:TypeId}{ys:List a1}{c:Value}(h:bp w ro σ β M (.agg (ys.map .au)) c):cN w ro (.ek t true ys) (.iface t c):=by
 generalize aV:ys.map aC.au=zs at h
 cases h with
 |agg _ arr aa ae=>
  subst aV;refine .ek t true ys _ (fun i=>arr.getD i undef) ⟨arr,rfl,by rw[aa,List.length_map],fun i _=>rfl⟩ fun i x hx=>?_
  have:=ae i (.au x) (by rw[List.getElem?_map,hx];rfl)
  cases this with
  |au _ _ q=>exact q
theorem RT{w:World}{ro:Nat→Prop}{σ:Heap}{β:Nat→Value}{M:Nat}{t:TypeId}{ys:List a1}{c:Value}(h:cN w ro (.ek t true ys) (.iface t c)):bp w ro σ β M (.agg (ys.map .au)) c:=by
 cases h with
 |ek _ _ _ _ p aa ae=>
  obtain⟨arr,rfl,av,aQ⟩:=aa;refine .agg _ arr (by rw[av,List.length_map]) fun j x af=>?_
  rw[List.getElem?_map]at af
  obtain⟨y,ax,rfl⟩:=Option.map_eq_some_iff.1 af
  have ar:=(List.getElem?_eq_some_iff.1 ax).1
  rw[aQ j ar];exact .au _ _ (ae j y ax)
theorem zdW{t:TypeId}{x:Operand}{r:dt}(an:o.op= .makeInterface t x)(h:Kg P t (S.aY N x)=some r):h9 P G N B M o S r:=fun e hf hx hn=>by
 unfold Kg at h
 split at h
 ·cases h
 rename_i hi
 obtain⟨d,hd,eN⟩:=RS hi
 have cn: ∀(v:Value) (w:World),(Instr.makeInterface t v).run P w= .ok (.iface t v) w:=fun v w=>by
  unfold Instr.makeInterface
  cases d<;>first|exact absurd rfl (eN _)|simp[run_underlying hd,Result.andThen]
 split at h
 ·rename_i l aw
  split at h
  ·rename_i rs gg
   cases h;intro E a w β ro ag
   have dQ:=ag.eval x
   rw[bC hf,aw]at dQ;simp only[ab.den,Di gg]at dQ;rw[show((fV e rs l).map fun d=>aC.au d.au)=((fV e rs l).map aF.au).map .au by rw[List.map_map];rfl]at dQ
   exact⟨_,by simp[execOp,an,cn],.au _ _ (zdV dQ)⟩
  ·cases h
 ·rename_i Dj
  split at h
  ·rename_i rt zA
   cases h;intro E a w β ro ag
   have dQ:=ag.eval x
   rw[bC hf,fX zA]at dQ;refine⟨_,by simp[execOp,an,cn];rfl,?_⟩
   cases dQ with
   |au _ _ q=>
    refine .au _ _ (.ek t false _ _ (fun _=>a.eval x) ⟨rfl,rfl⟩ fun i y ax=>?_)
    cases i with
    |zero=>
     simp only[fV,List.map_cons,List.map_nil,List.getElem?_cons_zero,Option.some.injEq]at ax
     subst ax;exact q
    |succ i=>simp[fV]at ax
  ·cases h
theorem zdX{e:Env}{x:Operand}{u:TypeId}{ch:Bool}{rs:List aU}{l:List ab}{y:ab}(hf: ∀c∈S.g,c.ok e)(aw:S.aY N x= .ek u ch rs l)(ax:rb ch l=some y)(gg:oT l=some rs){E:Entry}{a:Act}{w:World}{β:Nat→Value}{ro:Nat→Prop}(ag:c3 E G (S.den G N B e) a w β ro):
 ∃v,a.eval x= .iface u v∧bp w ro (S.den G N B e).heap β (S.den G N B e).next (y.den G e) v:=by
 have dQ:=ag.eval x
 rw[bC hf,aw]at dQ
 simp only[ab.den]at dQ
 generalize hc:a.eval x=oD at dQ
 cases dQ with
 |au _ _ q=>
  cases q with
  |ek _ _ _ v p aa ae=>
   refine⟨v,rfl,?_⟩
   unfold rb at ax
   split at ax
   ·cases ax
    have:=RT (σ:=(S.den G N B e).heap) (β:=β) (M:=(S.den G N B e).next) (.ek u _ _ v p aa ae)
    rw[List.map_map]at this;simp only[ab.den,Di gg];exact this
   ·rename_i ao
    cases ax;simp only[oT]at gg
    split at gg
    ·rename_i zdY p3 r9 vh
     cases vh
     cases gg;rw[fX r9];obtain⟨_,rfl⟩:=aa;exact .au _ _ (ae 0 _ rfl)
    ·cases gg
   ·cases ax
theorem zdZ{k:Nat}{ch:Bool}{l:List ab}{y:ab}(h:ab.cI k l=true)(ax:rb ch l=some y):y.lt k=true:=by
 unfold rb at ax
 split at ax
 ·cases ax;exact h
 ·cases ax;simp only[ab.cI,Bool.and_true]at h;exact h
 ·cases ax
theorem zd0{x:Operand}{sA t:TypeId}{c:Bool}{r:dt}(an:o.op= .typeAssert x sA t c)(h:Ki P t (S.aY N x) c=some r):h9 P G N B M o S r:=fun e hf hx hn=>by
 unfold Ki at h
 split at h
 rotate_left
 ·cases h
 rename_i u ch rs l aw hi
 obtain⟨d,hd,eN⟩:=RS hi
 have aD: ∀{E:Entry} {a:Act} {w:World} {β:Nat→Value} {ro:Nat→Prop},c3 E G (S.den G N B e) a w β ro→∃v,a.eval x= .iface u v∧cN w ro (.ek u ch ((fV e rs l).map aF.au)) (.iface u v):=fun {E a w β ro} ag=>by
  have dQ:=ag.eval x
  rw[bC hf,aw]at dQ;simp only[ab.den]at dQ;generalize hc:a.eval x=oD at dQ
  cases dQ with
  |au _ _ q=>
   cases q with
   |ek _ _ _ v p aa ae=>exact⟨v,rfl,.ek _ _ _ v p aa ae⟩
 have pY: ∀{y:ab} {w:World} {β:Nat→Value} {ro:Nat→Prop} {v:Value},rb ch l=some y→oT l=some rs→cN w ro (.ek u ch ((fV e rs l).map aF.au)) (.iface u v)→bp w ro (S.den G N B e).heap β (S.den G N B e).next (y.den G e) v:=fun {y w β ro v} ax gg q=>by
  unfold rb at ax
  split at ax
  ·cases ax
   have:=RT (σ:=(S.den G N B e).heap) (β:=β) (M:=(S.den G N B e).next) q
   rw[List.map_map]at this;simp only[ab.den,Di gg];exact this
  ·rename_i ao
   cases ax;simp only[oT]at gg
   split at gg
   ·rename_i zdY p3 aa ae
    cases ae;cases gg;rw[fX aa]
    cases q with
    |ek _ _ _ _ p g1 g2=>
     obtain⟨_,rfl⟩:=g1;exact .au _ _ (g2 0 _ rfl)
   ·cases gg
  ·cases ax
 have RU: ∀(v:Value) (w:World),u=t→(Instr.typeAssert (.iface u v) sA t c).run P w= .ok (match c with|true=>.tuple #[v,.bool true]|false=>v) w:=fun v w uu=>by
  unfold Instr.typeAssert
  cases d<;>first|exact absurd rfl (eN _)|(cases c<;>simp[run_underlying hd,Result.andThen,uu])
 split at h
 ·rename_i ad _
  have uu:=Nat.eq_of_beq_eq_true ad
  split at h
  ·rename_i y ax gg
   cases h;intro E a w β ro ag;obtain⟨v,dQ,q⟩:=aD ag;refine⟨.tuple #[v,.bool true],by simp[execOp,an,dQ,RU v w uu],.tuple _ _ rfl fun j z af=>?_⟩
   match j,af with
   |0,af=>simp[ab.den,ab.bO]at af;subst af;exact pY ax (of_decide_eq_true gg) q
   |1,af=>simp[ab.den,ab.bO]at af;subst af;exact .fC rfl
   |j+2,af=>simp[ab.den,ab.bO]at af
  ·cases h
 ·rename_i ad _
  have uu:=Nat.eq_of_beq_eq_true ad
  split at h
  ·rename_i y ax gg
   cases h;intro E a w β ro ag;obtain⟨v,dQ,q⟩:=aD ag;exact⟨v,by simp[execOp,an,dQ,RU v w uu],pY ax (of_decide_eq_true gg) q⟩
  ·cases h
 ·rename_i ad _
  have uu: ¬u=t:=fun e=>by subst e;rw[show Nat.beq u u=true from Nat.beq_refl u]at ad;cases ad
  split at h
  ·rename_i z aV
   split at h
   ·rename_i mM
    cases h;intro E a w β ro ag;obtain⟨v,dQ,q⟩:=aD ag
    have CD:(zeroValue t).run P w= .ok z w:=by
     cases hi:P.info? t with
     |none=>rw[hi]at aV;cases aV
     |some i=>
      rw[hi]at aV
      have oF:i.zero=some z:=aV
      simp[zeroValue,typeInfo,hi,oF]
    have cn:(Instr.typeAssert (.iface u v) sA t true).run P w= .ok (.tuple #[z,.bool false]) w:=by
     unfold Instr.typeAssert
     cases d<;>first|exact absurd rfl (eN _)|simp[run_underlying hd,Result.andThen,uu,CD]
    have zd1:(Kh z).den G e=mL z:=by
     clear cn CD mM aV
     cases z with
     |agg a=>
      simp only[Kh,mL,ab.den,e5,List.map_map];rfl
     |_=>rfl
    refine⟨.tuple #[z,.bool false],by simp[execOp,an,dQ,cn],.tuple _ _ rfl fun j y af=>?_⟩
    match j,af with
    |0,af=>simp[ab.den,ab.bO]at af;subst af;rw[zd1];exact Jt mM
    |1,af=>simp[ab.den,ab.bO]at af;subst af;exact .fC rfl
    |j+2,af=>simp[ab.den,ab.bO]at af
   ·cases h
  ·cases h
 ·cases h
theorem uv{r:dt}(h:p9 P N S o=some r):h9 P G N B M o S r:=by
 unfold p9 at h
 split at h
 ·rename_i x an
  cases h;exact .nil fun e hf=>by have:=Pv (P:=P) (G:=G) (s:=S.den G N B e) x an;rw[bC hf]at this;exact this
 ·rename_i x an
  cases h;exact .nil fun e hf=>by have:=Pw (P:=P) (G:=G) (s:=S.den G N B e) x an;rw[bC hf]at this;exact this
 ·exact zdx (by assumption) h
 ·rename_i x i an
  split at h
  ·rename_i l ar
   split at h
   ·rename_i v aw
    cases h;exact .nil fun e hf=>P3 x i an (by rw[bC hf,ar];rfl) (Dc aw)
   ·cases h
  ·cases h
 ·rename_i x an
  split at h
  ·rename_i ak
   cases h
   exact .nil fun e hf=>by
    have:=PB (P:=P) (G:=G) (s:=S.den G N B e) x an (by rw[bC hf];exact um ak)
    rw[bC hf]at this;exact this
  ·cases h
 ·rename_i t x f an
  split at h
  ·rename_i k aj ak
   split at h
   ·rename_i p ai
    cases h
    exact .nil fun e hf=>by
     have:=PA (P:=P) (G:=G) (s:=S.den G N B e) t x f an aj (by rw[bC hf];exact um ak)
     rw[bC hf,zx ai]at this;exact this
   ·cases h
  ·cases h
 ·exact zdE (by assumption) h
 ·exact zdJ (by assumption) h
 ·exact zdD (by assumption) h
 ·exact zdy (by assumption) h
 ·split at h
  ·rename_i aJ
   cases h;exact zdp (by assumption) aJ
  ·exact zdP (by assumption) h
 ·exact zdH (by assumption) h
 ·split at h
  ·rename_i aJ
   cases h;exact zdG (by assumption) aJ
  ·split at h
   ·rename_i aJ
    cases h;exact zdQ (by assumption) aJ
   ·exact zdT (by assumption) h
 ·exact zdI (by assumption) h
 ·rename_i f p q an
  cases h
  exact .nil fun e hf=>by
   have:=zcv (P:=P) (G:=G) (s:=S.den G N B e) an
   simp only[ab.den];rw[e5,e5,List.map_map,List.map_map]
   have aa: ∀l:List Operand,l.map (aI G (S.den G N B e))=l.map (ab.den G e∘S.aY N):=fun l=>List.map_congr_left fun x _=>bC hf x
   rw[aa,aa]at this;exact this
 ·exact zdW (by assumption) h
 ·exact zd0 (by assumption) h
 ·exact zdu (by assumption) h
 ·split at h
  ·rename_i aJ
   cases h;exact RM (by assumption) aJ
  ·exact zdS (by assumption) h
 ·exact RM (by assumption) h
 ·rename_i c an
  split at h
  ·rename_i x t hc hx aH
   obtain⟨callee,args,ts⟩:=c;simp only at hc hx aH;rw[hc,QV hx,QV aH]at an;exact zdF an h
  ·rename_i b x y hc hx
   obtain⟨callee,args,ts⟩:=c;simp only at hc hx;rw[hc,y7 hx]at an;exact zdK an h
  ·rename_i f hc
   obtain⟨callee,args,ts⟩:=c;simp only at hc;rw[hc]at an;exact zdC an rfl h
  ·cases h
 ·cases h
end
end Go.aK
