/- TD, part H: operations that give values, computed. Conditions: none. -/
import Derived.Test.YtddeffoppnlafaaGreatKTDg
import Derived.Laws.Externs
import Derived.Laws.LoneSync
import Derived.LaidEqlPtr
namespace Go.aK
open Go
structure ee where
 xs:List b1
 ns:List gE
 v:af
def af.rt:af→Option aX
 | .bs r _=>match r.one with
  |true=>some r
  |false=>none
 | .fd _ _ _ r=>match r.one with
  |true=>some r
  |false=>none
 | .cs (.int k _)=>some (.int k)
 | .cs (.bool _)=>some .bool
 | .cs (.string _)=>some .str
 |_=>none
theorem CL(r:aX):iW r r=true:=decide_eq_true rfl
theorem MB{x:af}{r:aX}(h:x.rt=some r):x.fr r=true∧x.isNil=false:=by
 unfold af.rt at h
 split at h
 ·split at h
  ·rename_i ab;cases h;exact⟨by simp[af.fr,CL,ab],rfl⟩
  ·cases h
 ·split at h
  ·rename_i ab;cases h;exact⟨by simp[af.fr,CL,ab],rfl⟩
  ·cases h
 ·cases h;exact⟨by simp[af.fr,CL],rfl⟩
 ·cases h;exact⟨by simp[af.fr,CL],rfl⟩
 ·cases h;exact⟨by simp[af.fr,CL],rfl⟩
 ·cases h
theorem gP{G:aR}{e:Env}{x:af}{r:aX}(h:x.rt=some r):x.den G e= .ad (gr r (x.aN e r)):=Gi (MB h).1 (MB h).2
theorem k9{G:aR}{e:Env}{x:af}{k:IntKind}(h:x.rt=some (.int k)):x.den G e= .ad (.v (.int k (x.aN e (.int k)))):=gP h
theorem nT{e:Env}{x:af}{k:IntKind}(h:x.rt=some (.int k)):cN (x.dyn e)=x.aN e (.int k):=by
 obtain⟨ab,ae⟩:=MB h
 unfold af.aN
 rw[TO ae]
 cases x with
 |bs q i=>
  simp only[af.fr,Bool.and_eq_true]at ab
  cases iz ab.1
  simp only[af.dyn,c3,cN]
 |fd c i j q=>
  simp only[af.fr,Bool.and_eq_true]at ab
  cases iz ab.1
  simp only[af.dyn,c3,cN]
 |cs v=>
  cases v with
  |int a8 n=>
   cases iz ab
   simp only[af.dyn,c3,cN]
  |bool b=>cases iz ab
  |string s=>cases iz ab
  |slice a n c=>unfold af.fr at ab;split at ab<;>first|cases ab|simp_all
  |_=>cases ab
 |_=>cases ab
def isLen(f:cB)(x:af)(n:Nat):List ck→Bool
 |[]=>false
 | .d1 i g y::r=>match Nat.beq i n&&(decide (g=f)&&CF y x)with
  |true=>true
  |false=>isLen f x n r
 |_::r=>isLen f x n r
theorem zl{f:cB}{x:af}{n:Nat}{e:Env}: ∀{l:List ck},isLen f x n l=true→(∀c∈l,c.ok e)→Env.at e n=⟨f.c,f.den (x.aN e f.a)⟩
 | .d1 i g y::r,h,hc=>by
  simp only[isLen]at h
  split at h
  ·rename_i ag
   simp only[Bool.and_eq_true,decide_eq_true_eq]at ag
   have:=hc (.d1 i g y) (by simp)
   simp only[ck.ok]at this;rw[←Nat.eq_of_beq_eq_true ag.1,this,ag.2.1,Mv ag.2.2]
  ·exact zl h fun c hm=>hc c (by simp[hm])
 | .d2 _ _ _ _::r,h,hc=>zl (l:=r) h fun c hm=>hc c (by simp[hm])
 | .rg _ _::r,h,hc=>zl (l:=r) h fun c hm=>hc c (by simp[hm])
 | .eL _ _::r,h,hc=>zl (l:=r) h fun c hm=>hc c (by simp[hm])
def T7(f:cB)(x:af)(i:Nat)(all:List ck):ck→Bool
 | .rg j (.bs (.int .i64) n)=>Nat.beq i j&&isLen f x n all
 |_=>false
def Gx(f:cB)(x:af)(i:Nat)(all:List ck):List ck→Bool
 |[]=>false
 |c::r=>match T7 f x i all c with
  |true=>true
  |false=>Gx f x i all r
theorem MC{f:cB}{x:af}{i:Nat}{e:Env}{all:List ck}{L:Int}(hp: ∀n,isLen f x n all=true→Env.at e n=⟨.int .i64,L⟩): ∀{l:List ck},Gx f x i all l=true→(∀c∈l,c.ok e)→0≤cN (Env.at e i)∧cN (Env.at e i)<L
 |c::r,h,hc=>by
  simp only[Gx]at h
  split at h
  ·rename_i ag
   unfold T7 at ag
   split at ag
   ·rename_i j n
    simp only[Bool.and_eq_true]at ag
    have ab:=hc (.rg j (.bs (.int .i64) n)) (by simp)
    simp only[ck.ok,af.dyn,hp n ag.2,c3,cN]at ab;rw[←Nat.eq_of_beq_eq_true ag.1]at ab;exact ab
   ·cases ag
  ·exact MC hp h fun c hm=>hc c (by simp[hm])
def CM(len j:Nat):List ck→Bool
 | .rg i (.cs (.int _ (.ofNat m)))::r=>(Nat.beq i j&&Nat.ble m len)||CM len j r
 |_::r=>CM len j r
 |[]=>false
theorem MD{len j:Nat}{e:Env}: ∀{l:List ck},CM len j l=true→(∀c∈l,c.ok e)→0≤cN (Env.at e j)∧cN (Env.at e j)<(len:Int)
 |[],h,_=>by cases h
 |c::r,h,hc=>by
  unfold CM at h
  split at h
  ·rename_i i k m _ heq
   cases heq;simp only[Bool.or_eq_true,Bool.and_eq_true]at h
   rcases h with⟨ab,ae⟩|h
   ·have aw:0≤cN (Env.at e i)∧cN (Env.at e i)<(m:Int):=hc (.rg i (.cs (.int k (.ofNat m)))) (by simp)
    rw[←Nat.eq_of_beq_eq_true ab]
    have:=Nat.le_of_ble_eq_true ae
    omega
   ·exact MD h fun c hm=>hc c (by simp[hm])
  ·rename_i eG _ heq
   cases heq;exact MD h fun c hm=>hc c (by simp[hm])
  ·rename_i heq;cases heq
def zm(g:List ck)(len:Nat)(i:af):List gE:=
 match i with
 | .bs (.int _) j=>match CM len j g with
  |true=>[]
  |false=>[.nth len i]
 |_=>[.nth len i]
theorem Gy{M:List bo}{g:List ck}{len:Nat}{i:af}{e:Env}(ai: ∀c∈g,c.ok e)(h: ∀n∈zm g len i,n.ok M e):0≤cN (i.dyn e)∧cN (i.dyn e)<(len:Int):=by
 unfold zm at h
 split at h
 ·rename_i k j
  split at h
  ·rename_i ag
   have:=MD ag ai
   simp only[af.dyn]
   by_cases ah:(Env.at e j).r= .int k
   ·rw[Gd ah];exact this
   ·have aS:cN ⟨.int k,(Env.at e j).aI (.int k)⟩=0:=by
     unfold aL.aI
     split
     ·rename_i aV _;exact absurd aV ah
     ·rfl
    rw[aS];omega
  ·exact h _ (List.mem_singleton.2 rfl)
 ·exact h _ (List.mem_singleton.2 rfl)
def qS(g:List ck)(f:cB)(q:fN)(x i:af):List gE:=
 match i with
 | .bs (.int _) j=>match Gx f x j g g with
  |true=>[]
  |false=>[.f2 0 q x i]
 |_=>[.f2 0 q x i]
theorem zn{M:List bo}{g:List ck}{c:bX}{k:IntKind}{x i:af}{e:Env}(ai: ∀c∈g,c.ok e)(hi:i.rt=some (.int k))(h: ∀n∈qS g (.kd c) (.lz c k) x i,n.ok M e):
 0≤i.aN e (.int k)∧i.aN e (.int k)<(List.length (x.aN e (.li c)):Int):=by
 unfold qS at h
 split at h
 ·rename_i a8 j
  split at h
  ·rename_i ag
   have:=MC (f:=.kd c) (fun n hn=>zl hn ai) ag ai
   rw[←nT hi];simp only[af.dyn]
   have an:a8=k:=by simp only[af.rt,aX.one]at hi;cases hi;rfl
   subst an
   by_cases ah:(Env.at e j).r= .int a8
   ·rw[Gd ah];exact this
   ·have aS:cN ⟨.int a8,(Env.at e j).aI (.int a8)⟩=0:=by
     unfold aL.aI
     split
     ·rename_i aV _;exact absurd aV ah
     ·rfl
    rw[aS];exact⟨Int.le_refl _,Int.lt_of_le_of_lt this.1 this.2⟩
  ·exact h _ (List.mem_singleton.2 rfl)
 ·exact h _ (List.mem_singleton.2 rfl)
theorem zen{M:List bo}{g:List ck}{k:IntKind}{x i:af}{e:Env}(ai: ∀c∈g,c.ok e)(hi:i.rt=some (.int k))(h: ∀n∈qS g .pA (.te k) x i,n.ok M e):
 0≤i.aN e (.int k)∧i.aN e (.int k)<(ByteArray.size (x.aN e .str):Int):=by
 unfold qS at h
 split at h
 ·rename_i a8 j
  split at h
  ·rename_i ag
   have:=MC (f:=.pA) (fun n hn=>zl hn ai) ag ai
   rw[←nT hi];simp only[af.dyn]
   have an:a8=k:=by simp only[af.rt,aX.one]at hi;cases hi;rfl
   subst an
   by_cases ah:(Env.at e j).r= .int a8
   ·rw[Gd ah];exact this
   ·have aS:cN ⟨.int a8,(Env.at e j).aI (.int a8)⟩=0:=by
     unfold aL.aI
     split
     ·rename_i aV _;exact absurd aV ah
     ·rfl
    rw[aS];exact⟨Int.le_refl _,Int.lt_of_le_of_lt this.1 this.2⟩
  ·exact h _ (List.mem_singleton.2 rfl)
 ·exact h _ (List.mem_singleton.2 rfl)
end Go.aK
namespace Go.aK
open Go
def l5(h:List (Nat × bQ)):af→Bool
 | .bs _ _=>true
 | .fd _ _ _ _=>true
 | .cs _=>true
 | .ip _ _ _=>true
 | .fn _ _ _=>true
 | .eV id _=>match dK h id with
  |some (.dY _ _)=>true
  |_=>false
 | .ia id _ _ _=>match dK h id with
  |some (.dY _ _)=>true
  |_=>false
 | .fQ _ (some id) _=>match dK h id with
  |some (.dY _ _)=>true
  |_=>false
 | .aq id=>match dK h id with
  |some (.rw _ _ _)=>true
  |_=>false
 | .hW id _ _=>match dK h id with
  |some (.rw _ _ _)=>true
  |_=>false
 |_=>false
def w2(S:ay):af→Option (List af)
 | .eV id off=>match dK S.h id with
  |some (.dY _ l)=>some (l.drop off)
  |_=>none
 | .ip c i k=>some ((kc c i 0 (ft c)).drop k)
 |_=>none
def tm(P:Program)(t:TypeId)(l:List af):Option af:=
 match mb P t with
 |some n=>match Nat.ble n l.length&&Nat.ble 1 n with
  |true=>some (.cA (l.take n))
  |false=>none
 |none=>match scalar P t,l with
  |true,y::_=>some y
  |_,_=>none
def u6(S:ay):af→Bool
 | .eV id _=>match dK S.h id with
  |some (.dY _ _)=>true
  |_=>false
 | .ia id _ _ _=>match dK S.h id with
  |some (.dY _ _)=>true
  |_=>false
 | .ip _ _ _=>true
 | .hW id _ _=>match dK S.h id with
  |some (.rw _ _ _)=>true
  |_=>false
 |_=>false
def zo(k:Nat):af→Option af
 | .eV id off=>some (.eV id (off+k))
 | .ip c i j=>some (.ip c i (j+k))
 | .hW id x off=>some (.hW id x (off+k))
 | .ia id off x n=>some (.ia id (off+k) x n)
 |_=>none
def tn(place:Nat→Option (Nat × Nat)):List af→List (Nat × af)→Option (List af)
 |l,[]=>some l
 |l,(i,v)::rest=>match place i with
  |some (off,size)=>match Nat.beq v.cells.length size&&Nat.ble (off+size) l.length with
   |true=>tn place (en l off v.cells) rest
   |false=>none
  |none=>none
section
variable {P:Program} {G:aR} {o:Oper} {N B:Nat} {e:Env} {S:ay} {M:List bo}
theorem T8{h:List (Nat × bQ)}{x:af}(hx:l5 h x=true):eZ (c6 G e h) (x.den G e)=true∧c1 (x.den G e)=[x.den G e]:=by
 cases x with
 |eV id off=>
  simp only[l5]at hx
  split at hx
  ·rename_i t l ai
   simp[af.den,eZ,e7,ai,bQ.den,c1]
  ·cases hx
 |ia id off x n=>
  simp only[l5]at hx
  split at hx
  ·rename_i t l ai
   simp[af.den,eZ,e7,ai,bQ.den,c1]
  ·cases hx
 |aq id=>
  simp only[l5]at hx
  split at hx
  ·rename_i t c y ai
   simp[af.den,eZ,e7,ai,bQ.den,c1]
  ·cases hx
 |hW id x off=>
  simp only[l5]at hx
  split at hx
  ·rename_i t c y ai
   simp[af.den,eZ,e7,ai,bQ.den,c1]
  ·cases hx
 |cA l=>cases hx
 |tp l=>cases hx
 |ie id=>cases hx
 |gv g b x=>cases hx
 |m9 g off=>cases hx
 |top=>cases hx
 |cE k n=>cases hx
 |fQ g id off=>
  cases id with
  |none=>cases hx
  |some id=>
   simp only[l5]at hx
   split at hx
   ·rename_i t l ai
    simp only[af.den]
    cases g.aN e .bool<;>simp[eZ,e7,ai,bQ.den,c1]
   ·cases hx
 |_=>exact⟨rfl,rfl⟩
theorem zp{h:List (Nat × bQ)}: ∀{l:List af},l.all (l5 h)=true→(af.b0 G e l).all (eZ (c6 G e h))=true
 |[],_=>rfl
 |x::r,hx=>by
  simp only[List.all_cons,Bool.and_eq_true]at hx;simp only[af.b0,List.all_cons,(T8 hx.1).1,zp hx.2,Bool.and_self]
theorem w3{h:List (Nat × bQ)}{x:af}(hx:x.cells.all (l5 h)=true):c1 (x.den G e)=af.b0 G e x.cells:=by
 cases x with
 |cA l=>rfl
 |_=>
  simp only[af.cells,List.all_cons,List.all_nil,Bool.and_true]at hx;simp only[(T8 hx).2,af.cells,af.b0]
theorem ME(k:Nat)(l:List af):af.b0 G e (l.drop k)=(af.b0 G e l).drop k:=by rw[fE,fE,List.map_drop]
theorem oP(l:List af):(af.b0 G e l).length=l.length:=by rw[fE,List.length_map]
theorem CN{p:af}{l:List af}(h:w2 S p=some l):fG (S.den G N B e).heap (p.den G e)=some (af.b0 G e l):=by
 unfold w2 at h
 split at h
 ·split at h
  ·rename_i id off t er ai
   cases h;simp only[ay.den,af.den,fG,e7,ai,Option.map_some,bQ.den];rw[fE,fE,List.map_drop]
  ·cases h
 ·rename_i c i k
  cases h;simp only[af.den,fG,Option.some.injEq];rw[ME,uX,List.map_drop]
 ·cases h
theorem T9{t:TypeId}{x:Operand}{l:List af}{v:af}(au:o.op= .load t x)(hc:fG (S.den G N B e).heap (aP G (S.den G N B e) x)=some (af.b0 G e l))(az:tm P t l=some v):cY P G o (S.den G N B e) (v.den G e):=by
 unfold tm at az
 split at az
 ·rename_i n hn
  split at az
  ·rename_i ag
   simp only[Bool.and_eq_true]at ag;cases az
   have:=Sr t x au hn hc (by rw[oP];exact Nat.le_of_ble_eq_true ag.1) (Nat.le_of_ble_eq_true ag.2)
   simp only[af.den];rw[fE]at this;rw[fE,List.map_take];exact this
  ·cases az
 ·split at az
  ·rename_i y r ao
   cases az;exact Lr t x au ao hc
  ·cases az
theorem w4{p:af}(h:u6 S p=true):jt (S.den G N B e).heap (p.den G e)=true:=by
 unfold u6 at h
 split at h
 ·split at h
  ·rename_i ai;simp[ay.den,af.den,jt,e7,ai,bQ.den]
  ·cases h
 ·split at h
  ·rename_i ai;simp[ay.den,af.den,jt,e7,ai,bQ.den]
  ·cases h
 ·rfl
 ·split at h
  ·rename_i ai;simp[ay.den,af.den,jt,e7,ai,bQ.den]
  ·cases h
 ·cases h
theorem CO{k:Nat}{p q:af}(h:zo k p=some q):p1 k (p.den G e)=q.den G e:=by
 unfold zo at h
 split at h
 ·cases h;simp[af.den,p1]
 ·cases h;simp[af.den,p1,List.drop_drop,Nat.add_comm]
 ·cases h;simp[af.den,p1]
 ·cases h;simp only[af.den,p1,aC.ptr.injEq,true_and];omega
 ·cases h
theorem Gz{α β:Type}(f:α→β)(l:List α)(off:Nat)(vs:List α):(en l off vs).map f=en (l.map f) off (vs.map f):=by
 simp[en,List.map_take,List.map_drop]
theorem GA{pl:Nat→Option (Nat × Nat)}{h:List (Nat × bQ)}: ∀{ps:List (Nat × af)} {l ds:List af},(ps.all fun p=>p.2.cells.all (l5 h))=true→tn pl l ps=some ds→kk pl (af.b0 G e l) (ps.map fun p=>(p.1,p.2.den G e))=some (af.b0 G e ds)
 |[],l,ds,_,hf=>by
  simp only[tn,Option.some.injEq]at hf;subst hf;rfl
 |(i,v)::rest,l,ds,a6,hf=>by
  simp only[List.all_cons,Bool.and_eq_true]at a6;simp only[tn]at hf;simp only[List.map_cons,kk]
  split at hf
  ·rename_i off size ar
   split at hf
   ·rename_i ag
    simp only[Bool.and_eq_true]at ag
    have ab:=Nat.eq_of_beq_eq_true ag.1
    have ae:=Nat.le_of_ble_eq_true ag.2
    have az:=w3 (G:=G) (e:=e) a6.1
    simp only[ar,az,oP];rw[if_pos ⟨ab,ae⟩]
    have:=GA a6.2 hf
    rw[fE]at this⊢;rw[Gz]at this;rw[fE];exact this
   ·cases hf
  ·cases hf
def jC(P:Program)(G:aR)(N B:Nat)(M:List bo)(o:Oper)(S:ay)(r:ee):Prop:=
 ∀e,(∀c∈S.g,c.ok e)→(∀(j:Nat) (x:b1),r.xs[j]? =some x→Env.at e (S.k+j)=x.den M e)→(∀n∈r.ns,n.ok M e)→cY P G o (S.den G N B e) (r.v.den G e)
end
def MF(op:BinOp)(k a8:IntKind)(x y:af):List gE:=
 match op with
 | .add=>[]
 | .sub=>[]
 | .mul=>[]
 | .and=>[]
 | .or=>[]
 | .xor=>[]
 | .quo=>match y with
  | .cs (.int _ n)=>match decide (n=0)with
   |false=>[]
   |true=>[.f2 0 (.kF op k a8) x y]
  |_=>[.f2 0 (.kF op k a8) x y]
 | .rem=>match y with
  | .cs (.int _ n)=>match decide (n=0)with
   |false=>[]
   |true=>[.f2 0 (.kF op k a8) x y]
  |_=>[.f2 0 (.kF op k a8) x y]
 |op=>match y with
  | .cs (.int _ n)=>match decide (0≤n)with
   |true=>[]
   |false=>[.f2 0 (.kF op k a8) x y]
  |_=>[.f2 0 (.kF op k a8) x y]
def MG(P:Program)(S:ay)(op:BinOp)(cJ:TypeId)(x y:af):Option ee:=
 match x.rt,y.rt with
 |some (.int k),some (.int a8)=>match Mz op k a8 with
  |true=>some ⟨[.f2 (.kF op k a8) x y],MF op k a8 x y,.bs (.int k) S.k⟩
  |false=>match zk op&&decide (a8=k)with
   |true=>some ⟨[.f2 (.qJ op k) x y],[],.bs .bool S.k⟩
   |false=>none
 |some .str,some .str=>match zk op with
  |true=>some ⟨[.f2 (.rX op) x y],[],.bs .bool S.k⟩
  |false=>match op with
   | .add=>some ⟨[.f2 .uY x y],[.f2 0 .uY x y],.bs .str S.k⟩
   |_=>none
 |some .bool,some .bool=>match op,AG P cJ with
  | .eql,true=>some ⟨[.f2 (.pe false) x y],[],.bs .bool S.k⟩
  | .neq,true=>some ⟨[.f2 (.pe true) x y],[],.bs .bool S.k⟩
  |_,_=>none
 |_,_=>match x,y with
  | .cA l,.cA m=>match np P cJ with
   |some fs=>match qR P 64 0 fs with
    |some rs=>match iA rs l&&iA rs m,op with
     |true,.eql=>some ⟨[.Cz false rs l m],[],.bs .bool S.k⟩
     |true,.neq=>some ⟨[.Cz true rs l m],[],.bs .bool S.k⟩
     |_,_=>none
    |none=>none
   |none=>none
  |p,.cs (.pointer none)=>match P.underlying cJ,u6 S p,op with
   |some (.pointer _),true,.eql=>some ⟨[],[],.cs (.bool false)⟩
   |some (.pointer _),true,.neq=>some ⟨[],[],.cs (.bool true)⟩
   |_,_,_=>none
  |_,_=>none
section
variable {P:Program} {G:aR} {o:Oper} {N B:Nat} {e:Env} {S:ay} {M:List bo}
theorem zeo{e:Env}{f:fN}{x y:af}{k:Nat}(h:Env.at e k=(b1.f2 f x y).den M e):(af.bs f.c k).den G e= .ad (gr f.c (f.den (x.aN e f.a) (y.aN e f.b))):=by
 simp only[af.den,h,b1.den,c3]
theorem zep{e:Env}{f:cB}{x:af}{k:Nat}(h:Env.at e k=(b1.f1 f x).den M e):(af.bs f.c k).den G e= .ad (gr f.c (f.den (x.aN e f.a))):=by
 simp only[af.den,h,b1.den,c3]
theorem r0{s:aQ}{f:fN}{x y:af}{k:Nat}(h:Env.at e k=(b1.f2 f x y).den M e)(ao:cY P G o s (.ad (gr f.c (f.den (x.aN e f.a) (y.aN e f.b))))):cY P G o s ((af.bs f.c k).den G e):=by
 rw[zeo h];exact ao
theorem r1{s:aQ}{f:cB}{x:af}{k:Nat}(h:Env.at e k=(b1.f1 f x).den M e)(ao:cY P G o s (.ad (gr f.c (f.den (x.aN e f.a))))):cY P G o s ((af.bs f.c k).den G e):=by
 rw[zep h];exact ao
theorem zeq{op:BinOp}{k a8:IntKind}{x y:af}(aA:y.rt=some (.int a8))(h: ∀n∈MF op k a8 x y,n.ok M e):Gk op (y.aN e (.int a8)):=by
 have hc: ∀n ha,y= .cs (.int ha n)→y.aN e (.int a8)=n:=fun n ha aV=>by
  subst aV;simp only[af.rt,Option.some.injEq,aX.int.injEq]at aA;subst aA;simp only[af.aN,af.gw,af.dyn,c3]
 have ao: ∀GB,((∃q,GB=q)→gE.ok M e (.f2 0 (.kF GB k a8) x y)→Gk GB (y.aN e (.int a8))):=fun GB _ h=>h
 cases op<;>try exact trivial
 all_goals
  simp only[MF]at h
  split at h
  ·rename_i ha n
   have hn:=hc n ha rfl
   split at h
   ·rename_i hd
    rw[hn];simp only[decide_eq_false_iff_not,decide_eq_true_eq]at hd;exact hd
   ·exact h _ (List.mem_singleton.2 rfl)
  ·exact h _ (List.mem_singleton.2 rfl)
theorem zer{op:BinOp}{cJ ty:TypeId}{x y:Operand}{r:ee}(au:o.op= .binOp op cJ x y ty)(h:MG P S op cJ (S.a1 N x) (S.a1 N y)=some r):jC P G N B M o S r:=fun e hf hx hn=>by
 unfold MG at h
 split at h
 ·rename_i k a8 ab ae
  have iM:aP G (S.den G N B e) x=_:=(bR hf x).trans (k9 ab)
  have nS:aP G (S.den G N B e) y=_:=(bR hf y).trans (k9 ae)
  split at h
  ·rename_i a6
   cases h;exact r0 (f:=.kF op k a8) (hx 0 _ rfl) (zef au iM nS a6 (zeq ae hn))
  ·split at h
   ·rename_i hc
    cases h;simp only[Bool.and_eq_true,decide_eq_true_eq]at hc
    have an:=hc.2
    subst an;exact r0 (f:=.qJ op a8) (hx 0 _ rfl) (zeg au iM nS hc.1)
   ·cases h
 ·rename_i ab ae
  have iM:aP G (S.den G N B e) x=_:=(bR hf x).trans (gP ab)
  have nS:aP G (S.den G N B e) y=_:=(bR hf y).trans (gP ae)
  split at h
  ·rename_i hc
   cases h;exact r0 (f:=.rX op) (hx 0 _ rfl) (zeh au iM nS hc)
  ·split at h
   ·cases h
    exact r0 (f:=.uY) (hx 0 _ rfl) (zc8 cJ ty x y au iM nS (hn _ (List.mem_singleton.2 rfl)))
   ·cases h
 ·rename_i ab ae
  have iM:aP G (S.den G N B e) x=_:=(bR hf x).trans (gP ab)
  have nS:aP G (S.den G N B e) y=_:=(bR hf y).trans (gP ae)
  split at h
  ·rename_i aJ
   cases h;exact r0 (f:=.pe false) (hx 0 _ rfl) (SG cJ ty x y au (F6 aJ) iM nS)
  ·rename_i aJ
   cases h;exact r0 (f:=.pe true) (hx 0 _ rfl) (SH cJ ty x y au (F6 aJ) iM nS)
  ·cases h
 ·split at h
  ·rename_i l m av hm
   split at h
   ·rename_i fs py
    split at h
    ·rename_i rs hl
     split at h
     ·rename_i ag
      cases h;simp only[Bool.and_eq_true]at ag
      have:=T6 (G:=G) (n:=false) (B:=B) (e:=e) hf rfl au py hl av hm ag.1 ag.2
      have aS:Env.at e S.k=_:=hx 0 _ rfl
      simp only[af.den,aS,b1.den,c3,gr,lv];exact this
     ·rename_i ag
      cases h;simp only[Bool.and_eq_true]at ag
      have:=T6 (G:=G) (n:=true) (B:=B) (e:=e) hf rfl au py hl av hm ag.1 ag.2
      have aS:Env.at e S.k=_:=hx 0 _ rfl
      simp only[af.den,aS,b1.den,c3,gr,lv];exact this
     ·cases h
    ·cases h
   ·cases h
  ·rename_i ar
   have key: ∀E a w β ro,dn E G (S.den G N B e) a w β ro→u6 S (S.a1 N x)=true→∃c7,a.eval x= .pointer (some c7):=fun E a w β ro ah hi=>by
    obtain⟨c7,hc,_⟩:=BW (w4 (G:=G) (N:=N) (B:=B) (e:=e) hi) (by have:=ah.eval x;rw[bR hf]at this;exact this)
    exact⟨c7,hc⟩
   have r2: ∀E a w β ro,dn E G (S.den G N B e) a w β ro→a.eval y= .pointer none:=fun E a w β ro ah=>by
    refine ah.dR ?_
    rw[bR hf,ar];rfl
   split at h
   ·rename_i t hu hi
    cases h
    exact fun E a w β ro ah=>by
     obtain⟨c7,hc⟩:=key E a w β ro ah hi;exact⟨.bool false,by simp[execOp,au,hc,r2 E a w β ro ah,eqGuard_at_pointer,run_eql_pointer_nil w cJ (some c7) (TL hu)],.e3 rfl⟩
   ·rename_i t hu hi
    cases h
    exact fun E a w β ro ah=>by
     obtain⟨c7,hc⟩:=key E a w β ro ah hi;exact⟨.bool true,by simp[execOp,au,hc,r2 E a w β ro ah,eqGuard_at_pointer,run_neq_pointer_nil w cJ (some c7) (TL hu)],.e3 rfl⟩
   ·cases h
  ·cases h
end
end Go.aK
namespace Go.aK
open Go
def qT:List aX→List Value→Bool
 |[],[]=>true
 |r::rs,z::zs=>(match r,z with
  | .int k,.int a8 n=>decide (k=a8)&&decide (n=0)
  | .bool,.bool b=>!b
  | .str,.string s=>decide (s=⟨#[]⟩)
  | .li _,.slice none 0 0=>true
  |_,_=>false)&&qT rs zs
 |_,_=>false
def w5:TypeDesc→Option aX
 | .string=>some .str
 | .int k=>some (.int k)
 |_=>none
def zq(v:aX)(z:Value):Bool:=
 match v,z with
 | .st c,.agg a=>qT (ft c) a.toList&&a.toList.all Value.oneCell'
 | .st _,_=>false
 |r,z=>qT [r] [z]&&z.oneCell'
def oQ(v:aX)(i:Nat):af:=
 match v with
 | .st c=>.cA (kc c i 0 (ft c))
 |r=>.bs r i
def GC:List aX→Bool
 |[]=>true
 | .mp _ _::_=>false
 |_::r=>GC r
def GD(v:aX):Bool:=
 match v with
 | .st c=>GC (ft c)
 | .int _=>true
 | .bool=>true
 | .str=>true
 |_=>false
def MH(S:ay)(m:af):Option (aX × aX × af):=
 match m with
 | .ie id=>match dK S.h id with
  |some (.it (.mp k v) _ p)=>some (k,v,p)
  |_=>none
 |x=>match x.rt with
  |some (.mp k v)=>some (k,v,x)
  |_=>none
def MI(P:Program)(S:ay)(t:TypeId)(m x:af)(c:Bool):Option ee:=
 match P.underlying t,MH S m with
 |some (.map fl e1),some (k,v,p)=>match(P.underlying fl).bind w5,(P.info? e1).bind (·.zero)with
  |some a8,some z=>match iW a8 k&&(x.fr k&&(zq v z&&GD v))with
   |true=>match c with
    |true=>some ⟨[.ze k v p x,.wW k v p x],[],.tp [oQ v (S.k+1),.bs .bool S.k]⟩
    |false=>some ⟨[.wW k v p x],[],oQ v S.k⟩
   |false=>none
  |_,_=>none
 |_,_=>none
section
variable {P:Program} {G:aR} {N B:Nat} {M:List bo} {S:ay} {o:Oper}
theorem zr: ∀{rs:List aX} {zs:List Value},qT rs zs=true→zs.map aU.v=rs.map fun r=>Ci (gr r r.gm)
 |[],[],_=>rfl
 |[],_::_,h=>by cases h
 |_::_,[],h=>by cases h
 |r::rs,z::zs,h=>by
  simp only[qT,Bool.and_eq_true]at h;rw[List.map_cons,List.map_cons,zr h.2]
  congr 1
  have ab:=h.1
  split at ab
  ·simp only[Bool.and_eq_true,decide_eq_true_eq]at ab
   obtain⟨rfl,rfl⟩:=ab;rfl
  ·simp only[Bool.not_eq_true']at ab
   subst ab;rfl
  ·have:=of_decide_eq_true ab
   subst this;rfl
  ·rfl
  ·cases ab
theorem Ua(c:bX):df c (bj c)=(ft c).map fun r=>gr r r.gm:=by cases c<;>rfl
theorem Ub{e:Env}{r:aX}{i:Nat}{d:r.den}(h:Env.at e i=⟨r,d⟩):(af.bs r i).aN e r=d:=by
 simp only[af.aN,af.gw,af.dyn,h,c3]
theorem zes{c:bX}(h:GC (ft c)=true)(x:hg c):(hh c x).map (fun d=>lv d.r d.v)=df c x:=by
 unfold df
 rw[←Ma c x]at h
 revert h
 generalize hh c x=l
 induction l with
 |nil=>intro _;rfl
 |cons d r aY=>
  intro h;obtain⟨t,v⟩:=d;simp only[List.map_cons]at h⊢
  cases t<;>first|(simp only[GC]at h;rw[aY h];rfl)|cases h
theorem zet{v:aX}{i:Nat}{e:Env}{ev:v.den}(h:Env.at e i=⟨v,ev⟩)(az:GD v=true):(oQ v i).den G e=uj v.agg (jR v ev):=by
 cases v with
 |st c=>
  simp only[GD]at az;simp only[oQ,af.den,uX,h,c3,aX.agg,uj,jR,zes az]
 |int k=>simp only[oQ,af.den,h,c3]<;>rfl
 |bool=>simp only[oQ,af.den,h,c3]<;>rfl
 |str=>simp only[oQ,af.den,h,c3]<;>rfl
 |_=>cases az
theorem zt{x:aU}{v:Value}(h:aU.v v=Ci x)(az:v.oneCell'=true):Sub (.ad (.v v)) (.ad x):=fun w ro σ β N c hc=>by
 cases hc with
 |ad _ _ hc=>
  cases hc;exact .ad _ _ (Tp h.symm az)
theorem Uc: ∀{rs:List aX} {zs:List Value},qT rs zs=true→zs.all Value.oneCell'=true→gu (zs.map fun v=>aC.ad (.v v)) ((rs.map fun r=>gr r r.gm).map .ad)
 |[],[],_,_=>.nil
 |[],_::_,h,_=>by cases h
 |_::_,[],h,_=>by cases h
 |r::rs,z::zs,h,au=>by
  simp only[List.all_cons,Bool.and_eq_true]at au
  have ab:qT [r] [z]=true:=by
   simp only[qT,Bool.and_eq_true]at h⊢;exact⟨h.1,trivial⟩
  have ae:qT rs zs=true:=by
   simp only[qT,Bool.and_eq_true]at h;exact h.2
  have aD:=zr ab
  simp only[List.map_cons,List.map_nil,List.cons.injEq,and_true]at aD;exact .cons (zt aD au.1) (Uc ae au.2)
theorem Ud{v:aX}{i:Nat}{e:Env}{z:Value}(h:Env.at e i=⟨v,v.gm⟩)(az:GD v=true)(aT:zq v z=true):Sub (mf z) ((oQ v i).den G e)∧p3 z=true:=by
 cases v with
 |st c=>
  cases z with
  |agg a=>
   simp only[zq,Bool.and_eq_true]at aT;refine⟨?_,aT.2⟩
   simp only[oQ,af.den,uX,h,c3,mf,aX.gm,Ua];exact(Uc aT.1 aT.2).agg
  |_=>cases aT
 |int k=>
  simp only[zq,Bool.and_eq_true]at aT
  have aD:=zr aT.1
  simp only[List.map_cons,List.map_nil,List.cons.injEq,and_true]at aD
  cases z with
  |int a8 n=>exact⟨by simp only[oQ,af.den,h,c3,mf];exact zt aD aT.2,aT.2⟩
  |_=>first|cases aT.1|cases aT.2
 |bool=>
  simp only[zq,Bool.and_eq_true]at aT
  have aD:=zr aT.1
  simp only[List.map_cons,List.map_nil,List.cons.injEq,and_true]at aD
  cases z with
  |bool b=>exact⟨by simp only[oQ,af.den,h,c3,mf];exact zt aD aT.2,aT.2⟩
  |_=>first|cases aT.1|cases aT.2
 |str=>
  simp only[zq,Bool.and_eq_true]at aT
  have aD:=zr aT.1
  simp only[List.map_cons,List.map_nil,List.cons.injEq,and_true]at aD
  cases z with
  |string b=>exact⟨by simp only[oQ,af.den,h,c3,mf];exact zt aD aT.2,aT.2⟩
  |_=>first|cases aT.1|cases aT.2
 |_=>cases az
theorem Ue{k v:aX}(l:List (k.den × v.den)):gr (.mp k v) l=y4 v.agg (ho (mC k) (jR v) l):=by
 unfold y4 ho
 rw[List.map_map,List.map_map]
 rfl
theorem zeu{fl:TypeId}{k:aX}(h:(P.underlying fl).bind w5=some k): ∃d,P.underlying fl=some d∧((k= .str∧d= .string)∨∃j,k= .int j∧d= .int j):=by
 cases hd:P.underlying fl with
 |none=>rw[hd]at h;cases h
 |some d=>
  rw[hd]at h
  have an:w5 d=some k:=h
  refine⟨d,rfl,?_⟩
  unfold w5 at an
  split at an
  ·cases an;exact .inl ⟨rfl,rfl⟩
  ·cases an;exact .inr ⟨_,rfl,rfl⟩
  ·cases an
theorem zev{k v:aX}{m:Operand}{p:af}{e:Env}(hf: ∀c∈S.g,c.ok e)(h:MH S (S.a1 N m)=some (k,v,p)):mP G (S.den G N B e) m v.agg (ho (mC k) (jR v) (p.aN e (.mp k v))):=by
 unfold MH at h
 split at h
 ·rename_i id hm
  split at h
  ·rename_i a8 bu dv q ai
   cases h
   have GF:aP G (S.den G N B e) m= .ref id:=by rw[bR hf,hm];rfl
   have bf:aE (S.den G N B e).heap id=some (.bI (kp v.agg (ho (mC k) (jR v) (p.aN e (.mp k v))))):=by
    simp only[ay.den,e7,ai,Option.map_some];rfl
   exact mP.own GF bf
  ·cases h
 ·split at h
  ·rename_i a8 bu ah
   cases h;refine mP.Tv ?_
   rw[bR hf,gP ah,Ue]
  ·cases h
theorem zew{t:TypeId}{m x:Operand}{c:Bool}{r:ee}(au:o.op= .lookup t m x c)(h:MI P S t (S.a1 N m) (S.a1 N x) c=some r):jC P G N B M o S r:=fun e hf hx hn=>by
 unfold MI at h
 split at h
 ·rename_i fl e1 k v p hu zu
  split at h
  ·rename_i a8 z zex aT
   split at h
   ·rename_i hc
    simp only[Bool.and_eq_true]at hc;obtain⟨aB,b7,c2,dT⟩:=hc
    cases iz aB
    obtain⟨d,hd,iX⟩:=zeu zex
    have gZ:=zev (G:=G) (N:=N) (B:=B) hf zu
    have key: ∀w:aC,(∀ev b,(CA k (p.aN e (.mp k v)) ((S.a1 N x).aN e k)).getD v.gm=ev→(CA k (p.aN e (.mp k v)) ((S.a1 N x).aN e k)).isSome=b→∀y,(b=true→y=uj v.agg (jR v ev))→(b=false→ev=v.gm∧y=mf z)→Sub (vU c y b) w)→p3 z=true→cY P G o (S.den G N B e) w:=by
     intro w hw kT
     cases aG:CA k (p.aN e (.mp k v)) ((S.a1 N x).aN e k)with
     |some ev=>
      rw[aG]at hw;refine cY.sub ?_ (hw ev true rfl rfl _ (fun _=>rfl) (fun q=>by cases q))
      rcases iX with⟨rfl,rfl⟩|⟨j,rfl,rfl⟩
      ·have kI:aP G (S.den G N B e) x= .ad (.v (mC .str ((S.a1 N x).aN e .str))):=by rw[bR hf];exact Mp b7
       exact TC (K:=ByteArray) Mh (jR v) v.agg _ _ ev c au hu hd gZ kI aG
      ·have kI:aP G (S.den G N B e) x= .ad (.v (mC (.int j) ((S.a1 N x).aN e (.int j)))):=by rw[bR hf];exact Gj b7
       exact TC (K:=Int) (Mi j) (jR v) v.agg _ _ ev c au hu hd gZ kI aG
     |none=>
      rw[aG]at hw;refine cY.sub ?_ (hw v.gm false rfl rfl _ (fun q=>by cases q) (fun _=>⟨rfl,rfl⟩))
      rcases iX with⟨rfl,rfl⟩|⟨j,rfl,rfl⟩
      ·have kI:aP G (S.den G N B e) x= .ad (.v (mC .str ((S.a1 N x).aN e .str))):=by rw[bR hf];exact Mp b7
       exact TD (K:=ByteArray) Mh (jR v) v.agg _ _ c z au hu hd gZ kI aG aT kT
      ·have kI:aP G (S.den G N B e) x= .ad (.v (mC (.int j) ((S.a1 N x).aN e (.int j)))):=by rw[bR hf];exact Gj b7
       exact TD (K:=Int) (Mi j) (jR v) v.agg _ _ c z au hu hd gZ kI aG aT kT
    have sub: ∀{i:Nat} {ev:v.den} {b:Bool} {y:aC},Env.at e i=⟨v,ev⟩→(b=true→y=uj v.agg (jR v ev))→(b=false→ev=v.gm∧y=mf z)→Sub y ((oQ v i).den G e):=by
     intro i ev b y hi ab ae
     cases b with
     |true=>rw[ab rfl,zet hi dT];exact Sub.refl _
     |false=>
      obtain⟨dp,di⟩:=ae rfl;subst dp;rw[di];exact(Ud hi dT c2).1
    have kT:p3 z=true:=(Ud (G:=G) (i:=0) (e:=bd.put .emp 0 ⟨v,v.gm⟩) (by rw[Env.k7,if_pos rfl]) dT c2).2
    split at h
    ·cases h
     have aS:=hx 0 _ rfl
     have ab:=hx 1 _ rfl
     simp only[Nat.add_zero,b1.den]at aS ab;refine key _ (fun ev b aD bg y g1 g2=>?_) kT
     refine gu.tuple (.cons (sub (ab.trans (by rw[←aD])) g1 g2) (.cons ?_ .nil))
     simp only[af.den,aS,c3];rw[←bg];exact Sub.refl _
    ·cases h
     have aS:=hx 0 _ rfl
     simp only[Nat.add_zero,b1.den]at aS;exact key _ (fun ev b aD bg y g1 g2=>sub (aS.trans (by rw[←aD])) g1 g2) kT
   ·cases h
  ·cases h
 ·cases h
end
end Go.aK
namespace Go.aK
open Go
def af.u7(x g:af)(b:Bool):af:=
 match x with
 | .gv h c v=>match CF g h&&(decide (c=b))with
  |true=>v
  |false=>x
 |x=>x
def MJ(S:ay)(c x y:af):Option ee:=
 match c,mF c S.g with
 | .cs (.bool b),_=>some ⟨[],[],match b with|true=>x|false=>y⟩
 |c,some b=>match c.rt with
  |some .bool=>some ⟨[],[],match b with|true=>x|false=>y⟩
  |_=>none
 |c,none=>match c.rt with
  |some .bool=>match(match(x.u7 c true).rt with|some r=>some r|none=>(y.u7 c false).rt)with
   |some r=>match(x.u7 c true).fr r&&((y.u7 c false).fr r&&r.one)with
    |true=>some ⟨[.Gl r c (x.u7 c true) (y.u7 c false)],[],.bs r S.k⟩
    |false=>none
   |none=>none
  |_=>none
def u9(r:aX):List af→Bool
 |[]=>true
 |x::l=>x.fr r&&u9 r l
def Uf:List af→Option aX
 |[]=>none
 |x::_=>x.rt
def MK(P:Program)(S:ay)(t:TypeId)(x i:af):Option ee:=
 match x with
 | .cA l=>match P.underlying t with
  |some (.array len el)=>match scalar P el&&Nat.beq l.length len,(P.info? el).map (·.size)with
   |true,some 1=>match i with
    | .cs (.int .i64 (.ofNat j))=>match l[j]? with
     |some v=>some ⟨[],[],v⟩
     |none=>none
    |i=>match i.rt,Uf l with
     |some (.int .i64),some r=>match u9 r l&&r.one with
      |true=>some ⟨[.nth r l i],zm S.g l.length i,.bs r S.k⟩
      |false=>none
     |_,_=>none
   |_,_=>none
  |_=>none
 |x=>match x.rt,i.rt,isStr P t with
  |some .str,some (.int k),true=>some ⟨[.f2 (.te k) x i],qS S.g .pA (.te k) x i,.bs (.int .u8) S.k⟩
  |_,_,_=>none
def w6(x:af):Option bX:=
 match x.rt with
 |some (.li c)=>some c
 |_=>none
def zey(P:Program)(t:TypeId)(n:Nat):Option bX:=
 match P.underlying t with
 |some (.slice el)=>zdI.find? fun c=>Nat.beq n (du c)&&(tm P el (kc c 0 0 (ft c))).isSome
 |_=>none
def xQ(P:Program)(f:Nat):Nat:=
 match P.funcs[f]? with
 |some fn=>match fn.body.isNone&&fn.origin== "",fn.name== "internal/abi.NoEscape",fn.name== "internal/bytealg.IndexByteString" with
  |true,true,_=>1
  |true,false,true=>2
  |_,_,_=>0
 |none=>0
def ML(P:Program)(S:ay)(f:af)(aI:List af):Option ee:=
 match f with
 | .fn (.func f) [] []=>match xQ P f,aI with
  |1,[x]=>some ⟨[],[],x⟩
  |2,[x,y]=>match x.rt,y.rt with
   |some .str,some (.int .u8)=>some ⟨[.f2 .zc x y],[],.bs (.int .i64) S.k⟩
   |_,_=>none
  |_,_=>none
 |_=>none
def MM(P:Program)(S:ay)(t:TypeId)(x i:af):Option ee:=
 match i.rt with
 |some (.int k)=>match kS P t with
  |some n=>match x with
   | .aq id=>match dK S.h id with
    |some (.rw _ c y)=>match Nat.beq n (du c)with
     |true=>some ⟨[],qS S.g (.kd c) (.lz c k) y i,.hW id i 0⟩
     |false=>none
    |_=>none
   | .cE id m=>match dK S.h id,i with
    |some (.dY _ _),.cs (.int _ (.ofNat j))=>match Nat.blt j m with
     |true=>some ⟨[],[],.eV id (j*n)⟩
     |false=>none
    |_,_=>none
   |x=>match w6 x with
    |some c=>match Nat.beq n (du c)with
     |true=>some ⟨[.f2 (.lz c k) x i],qS S.g (.kd c) (.lz c k) x i,.ip c S.k 0⟩
     |false=>none
    |none=>match x.isNil,zey P t n with
     |true,some c=>some ⟨[.f2 (.lz c k) x i],[.f2 0 (.lz c k) x i],.ip c S.k 0⟩
     |_,_=>none
  |none=>match uc P t,w2 S x with
   |some (len,n),some _=>match i,x with
    | .cs (.int _ (.ofNat j)),x=>match Nat.blt j len,zo (j*n) x with
     |true,some p=>some ⟨[],[],p⟩
     |_,_=>none
    |i,.eV id off=>some ⟨[],zm S.g len i,.ia id off i n⟩
    |_,_=>none
   |_,_=>none
 |_=>none
def MN(P:Program)(S:ay)(t:TypeId)(x:af):Option ee:=
 match x with
 | .hW id i off=>match dK S.h id,i.rt with
  |some (.rw _ c y),some (.int k)=>match tm P t ((kc c S.k 0 (ft c)).drop off),y.fr (.li c)with
   |some v,true=>some ⟨[.f2 (.lz c k) y i],qS S.g (.kd c) (.lz c k) y i,v⟩
   |_,_=>none
  |_,_=>none
 | .ia id off i 1=>match dK S.h id,i.rt with
  |some (.dY _ l),some (.int _)=>match Uf (l.drop off)with
   |some r=>match u9 r (l.drop off)&&(r.one&&scalar P t)with
    |true=>some ⟨[.nth r (l.drop off) i],zm S.g (l.drop off).length i,.bs r S.k⟩
    |false=>none
   |none=>none
  |_,_=>none
 |x=>match w2 S x with
  |some l=>match tm P t l with
   |some v=>some ⟨[],[],v⟩
   |none=>none
  |none=>none
def MO(P:Program)(S:ay)(t:TypeId)(x:af):Option ee:=
 match x with
 | .cs (.slice none 0 0)=>match isSlice P t with
  |true=>some ⟨[],[],.cs (.int .i64 0)⟩
  |false=>none
 | .cs (.string s)=>match isStr P t with
  |true=>some ⟨[],[],.cs (.int .i64 (ByteArray.size s:Int))⟩
  |false=>none
 | .cE id n=>match dK S.h id,isSlice P t with
  |some (.dY _ _),true=>some ⟨[],[],.cs (.int .i64 (n:Int))⟩
  |_,_=>none
 | .aq id=>match dK S.h id with
  |some (.rw _ c y)=>match isSlice P t with
   |true=>some ⟨[.f1 (.kd c) y],[],.bs (.int .i64) S.k⟩
   |false=>none
  |_=>none
 |x=>match x.rt with
  |some .str=>match isStr P t with
   |true=>some ⟨[.f1 .pA x],[],.bs (.int .i64) S.k⟩
   |false=>none
  |some (.li c)=>match isSlice P t with
   |true=>some ⟨[.f1 (.kd c) x],[],.bs (.int .i64) S.k⟩
   |false=>none
  |_=>match AF P t with
   |some n=>some ⟨[],[],.cs (.int .i64 (n:Int))⟩
   |none=>none
def zv(N:Nat)(S:ay):Option Operand→Option (Option af)
 |none=>some none
 |some y=>match(S.a1 N y).rt with
  |some (.int _)=>some (some (S.a1 N y))
  |_=>none
def GG(P:Program)(N:Nat)(S:ay)(t:TypeId)(x:af)(lo hi:Option Operand):Option ee:=
 match zv N S lo,zv N S hi with
 |some l,some h=>match x.rt with
  |some .str=>match isStr P t with
   |true=>some ⟨[.qL x l h],(match l,h with|none,none=>[]|_,_=>[.qL x l h]),.bs .str S.k⟩
   |false=>none
  |some (.li c)=>match kS P t with
   |some n=>match Nat.beq n (du c)with
    |true=>some ⟨[.ff c x l h],(match l,h with|none,none=>[]|_,_=>[.ff c x l h]),.bs (.li c) S.k⟩
    |false=>none
   |none=>none
  |_=>none
 |_,_=>none
def Ug(P:Program)(S:ay)(src dst:TypeId)(id:Nat):Option ee:=
 match dK S.h id,P.underlying src with
 |some (.rw _ .u8 y),some (.slice el)=>match P.underlying el,P.underlying dst with
  |some (.int .u8),some .string=>some ⟨[.f1 .cE y],[],.bs .str S.k⟩
  |_,_=>none
 |_,_=>none
def MP(P:Program)(S:ay)(src dst:TypeId)(x:af):Option ee:=
 match x with
 | .aq id=>Ug P S src dst id
 |x=>match x.rt with
  |some (.int k)=>match P.underlying src,P.underlying dst with
   |some _,some (.int a8)=>some ⟨[.f1 (.p5 k a8) x],[],.bs (.int a8) S.k⟩
   |_,_=>none
  |some (.li .u8)=>match P.underlying src with
   |some (.slice el)=>match P.underlying el,P.underlying dst with
    |some (.int .u8),some .string=>some ⟨[.f1 .cE x],[],.bs .str S.k⟩
    |_,_=>none
   |_=>none
  |_=>none
def MQ(S:ay)(op:UnOp)(x:af):Option ee:=
 match op,x.rt with
 | .not,some .bool=>some ⟨[.f1 .oJ x],[],.bs .bool S.k⟩
 | .neg,some (.int k)=>some ⟨[.f1 (.Ct k) x],[],.bs (.int k) S.k⟩
 | .xor,some (.int k)=>some ⟨[.f1 (.wF k) x],[],.bs (.int k) S.k⟩
 |_,_=>none
def MR(P:Program)(N:Nat)(S:ay)(t:TypeId)(ps:List (Nat × Operand)):Option ee:=
 match places P t,zeroCells P t with
 |some pl,some zs=>match zs.all Value.oneCell'&&(ps.map fun p=>(p.1,S.a1 N p.2)).all fun p=>p.2.cells.all (l5 S.h)with
  |true=>match tn pl (zs.map .cs) (ps.map fun p=>(p.1,S.a1 N p.2))with
   |some ds=>some ⟨[],[],.cA ds⟩
   |none=>none
  |false=>none
 |_,_=>none
def MS(P:Program)(t:TypeId)(x:af)(f:Nat):Option ee:=
 match x,vO P t f with
 | .cA l,some (off,none)=>match l[off]? with
  |some v=>some ⟨[],[],v⟩
  |none=>none
 | .cA l,some (off,some n)=>match Nat.ble (off+n) l.length with
  |true=>some ⟨[],[],.cA ((l.drop off).take n)⟩
  |false=>none
 |_,_=>none
def MT(S:ay)(b:Builtin)(x y:af):Option ee:=
 match x.rt,y.rt,b with
 |some (.int k),some (.int a8),.min=>match decide (k=a8)with
  |true=>some ⟨[.f2 (.zb k) x y],[],.bs (.int k) S.k⟩
  |false=>none
 |some (.int k),some (.int a8),.max=>match decide (k=a8)with
  |true=>some ⟨[.f2 (.mx k) x y],[],.bs (.int k) S.k⟩
  |false=>none
 |_,_,_=>none
def AO(P:Program)(t:TypeId):Bool:=
 match P.underlying t with
 |some (.pointer e)=>(P.info? e).isSome&&match(P.info? e).map (fun i=>decide (i.size=0))with
  |some false=>true
  |_=>false
 |_=>false
def CP(S:ay)(id:Nat):Bool:=
 match dK S.h id with
 |some (.dY _ _)=>true
 |_=>false
def GH(S:ay)(b:Bool)(g:af):Option ee:=
 match g.rt,b with
 |some .bool,true=>some ⟨[],[],g⟩
 |some .bool,false=>some ⟨[.f1 .oJ g],[],.bs .bool S.k⟩
 |_,_=>none
def Ec:BinOp→Option Bool
 | .eql=>some true
 | .neq=>some false
 |_=>none
def MU(P:Program)(S:ay)(op:BinOp)(cJ:TypeId)(x y:af):Option ee:=
 match AO P cJ,Ec op with
 |true,some b=>match x,y with
  | .cs (.pointer none),.cs (.pointer none)=>some ⟨[],[],.cs (.bool b)⟩
  | .eV i o,.eV j q=>match(Nat.beq i j&&Nat.beq o q)&&CP S i with
   |true=>some ⟨[],[],.cs (.bool b)⟩
   |false=>none
  | .fQ g (some i) _,.cs (.pointer none)=>match CP S i with
   |true=>GH S (!b) g
   |false=>none
  | .fQ g (some i) o,.eV j q=>match(Nat.beq i j&&Nat.beq o q)&&CP S i with
   |true=>GH S b g
   |false=>none
  |_,_=>none
 |_,_=>none
def MV(P:Program)(S:ay)(src dst:TypeId)(x:af):Option ee:=
 match x with
 | .eV id off=>match dK S.h id,P.underlying src,P.underlying dst with
  |some (.dY _ l),some (.pointer t),some .unsafePointer=>match(P.info? t).map (fun i=>decide (i.size=0)),Nat.blt off l.length with
   |some false,true=>some ⟨[],[],x⟩
   |_,_=>none
  |some (.dY bt l),some .unsafePointer,some (.pointer u)=>match liesAt P P.depth bt (l.length/ P.cellsOf bt) off u 1&&(P.info? u).isSome,Nat.blt off l.length with
   |true,true=>some ⟨[],[],x⟩
   |_,_=>none
  |_,_,_=>none
 |_=>none
def MW(P:Program)(S:ay)(t:TypeId)(x:af):Option ee:=
 match x,P.underlying t with
 | .eV id 0,some (.array n el)=>match dK S.h id,Nat.blt 0 n&&(P.info? el).isSome with
  |some (.dY _ _),true=>some ⟨[],[],.cE id n⟩
  |_,_=>none
 |_,_=>none
def MX(P:Program)(S:ay)(src dst:TypeId)(x:af):Option ee:=
 match x,P.underlying src with
 | .cE id n,some (.slice el)=>match dK S.h id,P.underlying el,P.underlying dst with
  |some (.dY _ l),some (.int .u8),some .string=>match Nat.beq n l.length&&l.all (af.fr (.int .u8))with
   |true=>some ⟨[.pB .u8 (l.map fun x=>.cA [x]),.f1 .cE (.bs (.li .u8) S.k)],[],.bs .str (S.k+1)⟩
   |false=>none
  |_,_,_=>none
 |_,_=>none
def qU:List af→Option (List aX)
 |[]=>some []
 |x::r=>match x.rt,qU r with
  |some t,some l=>some (t::l)
  |_,_=>none
def vR(P:Program)(t:TypeId):Bool:=
 match P.underlying t with
 |some (.interface _)=>true
 |none=>true
 |_=>false
def MY(P:Program)(t:TypeId)(x:af):Option ee:=
 match vR P t with
 |true=>none
 |false=>match x with
  | .cA l=>match qU l with
   |some rs=>some ⟨[],[],.ei t true rs l⟩
   |none=>none
  |x=>match x.rt with
   |some r=>some ⟨[],[],.ei t false [r] [x]⟩
   |none=>none
def tq(a:Bool)(l:List af):Option af:=
 match a,l with
 |true,l=>some (.cA l)
 |false,[x]=>some x
 |false,_=>none
def MZ:Value→af
 | .agg a=>.cA (a.toList.map .cs)
 |v=>.cs v
def M0(P:Program)(t:TypeId)(x:af)(c:Bool):Option ee:=
 match x,vR P t with
 | .ei u a rs l,false=>match Nat.beq u t,c with
  |true,true=>match tq a l,decide (qU l=some rs)with
   |some v,true=>some ⟨[],[],.tp [v,.cs (.bool true)]⟩
   |_,_=>none
  |true,false=>match tq a l,decide (qU l=some rs)with
   |some v,true=>some ⟨[],[],v⟩
   |_,_=>none
  |false,true=>match(P.info? t).bind (·.zero)with
   |some z=>match p3 z with
    |true=>some ⟨[],[],.tp [MZ z,.cs (.bool false)]⟩
    |false=>none
   |none=>none
  |false,false=>none
 |_,_=>none
def r3(P:Program)(N:Nat)(S:ay)(o:Oper):Option ee:=
 match o.op with
 | .move x=>some ⟨[],[],S.a1 N x⟩
 | .assign x=>some ⟨[],[],S.a1 N x⟩
 | .pick c x y=>MJ S (S.a1 N c) (S.a1 N x) (S.a1 N y)
 | .extract x i=>match S.a1 N x with
  | .tp l=>match l[i]? with
   |some v=>some ⟨[],[],v⟩
   |none=>none
  |_=>none
 | .nilCheck x=>match u6 S (S.a1 N x)with
  |true=>some ⟨[],[],S.a1 N x⟩
  |false=>none
 | .fieldAddr t x f=>match sA P t f,u6 S (S.a1 N x)with
  |some k,true=>match zo k (S.a1 N x)with
   |some p=>some ⟨[],[],p⟩
   |none=>none
  |_,_=>none
 | .load t x=>MN P S t (S.a1 N x)
 | .field t x f=>MS P t (S.a1 N x) f
 | .indexAddr t x i=>MM P S t (S.a1 N x) (S.a1 N i)
 | .index t x i=>MK P S t (S.a1 N x) (S.a1 N i)
 | .binOp op cJ x y _=>match MG P S op cJ (S.a1 N x) (S.a1 N y)with
  |some r=>some r
  |none=>MU P S op cJ (S.a1 N x) (S.a1 N y)
 | .unOp op _ x=>MQ S op (S.a1 N x)
 | .convert src dst x=>match MP P S src dst (S.a1 N x)with
  |some r=>some r
  |none=>match MV P S src dst (S.a1 N x)with
   |some r=>some r
   |none=>MX P S src dst (S.a1 N x)
 | .build t ps=>MR P N S t ps.toList
 | .makeFunc (.func f) p q=>some ⟨[],[],.fn (.func f) (p.toList.map (S.a1 N)) (q.toList.map (S.a1 N))⟩
 | .makeInterface t x=>MY P t (S.a1 N x)
 | .typeAssert x _ t c=>M0 P t (S.a1 N x) c
 | .lookup t m x c=>MI P S t (S.a1 N m) (S.a1 N x) c
 | .slice t x none none none=>match GG P N S t (S.a1 N x) none none with
  |some r=>some r
  |none=>MW P S t (S.a1 N x)
 | .slice t x lo hi none=>GG P N S t (S.a1 N x) lo hi
 | .call c=>match c.callee,c.args.toList,c.argTypes.toList with
  | .builtin .len,[x],[t]=>MO P S t (S.a1 N x)
  | .builtin b,[x,y],_=>MT S b (S.a1 N x) (S.a1 N y)
  | .value f,l,_=>ML P S (S.a1 N f) (l.map (S.a1 N))
  |_,_,_=>none
 |_=>none
section
variable {P:Program} {G:aR} {o:Oper} {N B:Nat} {S:ay} {M:List bo}
theorem Uh{e:Env}{g:af}{b:Bool}{x:af}(h:g.aN e .bool=b):(x.u7 g b).den G e=x.den G e:=by
 unfold af.u7
 split
 ·rename_i h' c v
  split
  ·rename_i ag
   simp only[Bool.and_eq_true,decide_eq_true_eq]at ag
   have:=Mv ag.1
   subst this;obtain⟨_,rfl⟩:=ag;simp only[af.den,h]
   cases c<;>rfl
  ·rfl
 ·rfl
theorem GI{e:Env}{r:aX}(h:r.one=true)(x:af):x.get e r=x.aN e r:=by
 cases r<;>first|rfl|cases h
theorem jC.nil{v:af}(h: ∀e,(∀c∈S.g,c.ok e)→cY P G o (S.den G N B e) (v.den G e)):jC P G N B M o S ⟨[],[],v⟩:=fun e hf _ _=>h e hf
theorem zez{c x y:Operand}{r:ee}(au:o.op= .pick c x y)(h:MJ S (S.a1 N c) (S.a1 N x) (S.a1 N y)=some r):jC P G N B M o S r:=fun e hf hx hn=>by
 unfold MJ at h
 split at h
 ·rename_i b ag
  cases h
  have hc:aP G (S.den G N B e) c= .ad (.v (.bool b)):=by rw[bR hf,ag];rfl
  refine B5 c x y au hc ?_
  cases b<;>simp[bR hf]
 ·rename_i b ag _
  split at h
  ·rename_i ah
   cases h
   have an:=rZ ag hf
   have hc:aP G (S.den G N B e) c= .ad (.v (.bool b)):=by rw[bR hf,gP ah,an];rfl
   refine B5 c x y au hc ?_
   cases b<;>simp[bR hf]
  ·cases h
 ·split at h
  ·rename_i hc
   split at h
   ·rename_i q _
    split at h
    ·rename_i ag
     cases h;simp only[Bool.and_eq_true]at ag
     have BX:aP G (S.den G N B e) c= .ad (.v (.bool ((S.a1 N c).aN e .bool))):=(bR hf c).trans (gP hc)
     refine(B5 c x y au BX rfl).sub ?_
     have aS:Env.at e S.k=_:=hx 0 _ rfl
     simp only[af.den,aS,b1.den,c3,bR hf,GI ag.2.2]
     cases hJ:(S.a1 N c).aN e .bool with
     |true=>
      simp only[cond_true,if_true];rw[←Uh (G:=G) (x:=S.a1 N x) hJ];exact wV ag.1
     |false=>
      simp only[cond_false,Bool.false_eq_true,if_false];rw[←Uh (G:=G) (x:=S.a1 N y) hJ];exact wV ag.2.1
    ·cases h
   ·cases h
  ·cases h
theorem M1{e:Env}{r:aX}: ∀{l:List af} {j:Nat} {x:af},u9 r l=true→l[j]? =some x→Sub (x.den G e) (.ad (gr r (uZ e r l j)))
 |[],_,_,_,h=>by simp at h
 |[y],j,x,a6,h=>by
  have aj:j=0:=by
   have:=(List.getElem?_eq_some_iff.1 h).1
   simp at this;exact this
  subst aj;simp only[List.getElem?_cons_zero,Option.some.injEq]at h
  subst h;simp only[u9,Bool.and_eq_true]at a6;exact wV a6.1
 |y::z::l,0,x,a6,h=>by
  simp only[List.getElem?_cons_zero,Option.some.injEq]at h
  subst h;simp only[u9,Bool.and_eq_true]at a6;exact wV a6.1
 |y::z::l,j+1,x,a6,h=>by
  simp only[List.getElem?_cons_succ]at h
  simp only[u9,Bool.and_eq_true]at a6
  have:=M1 (e:=e) (r:=r) (l:=z::l) (j:=j) (x:=x) (by simp only[u9,Bool.and_eq_true];exact a6.2) h
  have ag:Nat.beq (j+1) 0=false:=rfl
  simp only[uZ,ag,cond_false,Nat.add_sub_cancel];exact this
theorem GJ{e:Env}{l:List af}{j:Nat}{x:af}(h:l[j]? =some x):(af.b0 G e l)[j]? =some (x.den G e):=by rw[fE,List.getElem?_map,h];rfl
theorem zeA{t:TypeId}{x i:Operand}{r:ee}(au:o.op= .index t x i)(h:MK P S t (S.a1 N x) (S.a1 N i)=some r):jC P G N B M o S r:=fun e hf hx hn=>by
 unfold MK at h
 split at h
 ·rename_i l av
  have iM:aP G (S.den G N B e) x= .agg (af.b0 G e l):=by rw[bR hf,av];rfl
  split at h
  ·rename_i len el hu
   split at h
   ·rename_i ag bT
    simp only[Bool.and_eq_true]at ag
    have hlen:=Nat.eq_of_beq_eq_true ag.2
    split at h
    ·rename_i j hi
     split at h
     ·rename_i v az
      cases h
      have aj:=(List.getElem?_eq_some_iff.1 az).1
      exact Tq j au hu ag.1 bT (by rw[bR hf,hi];rfl) iM (GJ az) (by omega)
     ·cases h
    ·split at h
     ·rename_i eG hi ah
      split at h
      ·rename_i a6
       cases h;simp only[Bool.and_eq_true]at a6
       have kD:0≤cN ((S.a1 N i).dyn e)∧cN ((S.a1 N i).dyn e)<(l.length:Int):=Gy hf hn
       obtain⟨j,aj⟩: ∃j:Nat,cN ((S.a1 N i).dyn e)=(j:Int):=⟨_,(Int.toNat_of_nonneg kD.1).symm⟩
       have dj:j<l.length:=by omega
       have hC:aP G (S.den G N B e) i=xW (j:Int):=by
        rw[bR hf,k9 hi,←nT hi,aj]
       have az:l[j]? =some l[j]:=List.getElem?_eq_getElem dj
       refine(Tq j au hu ag.1 bT hC iM (GJ az) (by omega)).sub ?_
       have aS:Env.at e S.k=_:=hx 0 _ rfl
       simp only[af.den,aS,b1.den,c3,aj,Int.toNat_natCast];exact M1 a6.1 az
      ·cases h
     ·cases h
   ·cases h
  ·cases h
 ·split at h
  ·rename_i k ab ae aJ
   cases h
   have iM:aP G (S.den G N B e) x=_:=(bR hf x).trans (gP ab)
   have hC:aP G (S.den G N B e) i=_:=(bR hf i).trans (k9 ae)
   obtain⟨g1,g2⟩:=zen hf ae hn;exact r0 (f:=.te k) (hx 0 _ rfl) (zd3 _ k _ au (sE aJ) hC iM g1 g2)
  ·cases h
theorem Ui{e:Env}{c:bX}{i:Nat}{x:hg c}(h:Env.at e i=⟨.st c,x⟩):(af.ip c i 0).den G e= .ad (.ptr (df c x)):=by
 simp only[af.den,h,c3,List.drop_zero]
theorem Uj{c:bX}{l:List (hg c)}{z:Int}(aS:0≤z)(ab:z<(l.length:Int)):l[z.toNat]? =some (l.getD z.toNat (bj c)):=by
 have:z.toNat<l.length:=by omega
 rw[List.getD_eq_getElem?_getD,List.getElem?_eq_getElem this]
 rfl
theorem M3{e:Env}{x:af}{c:bX}(h:w6 x=some c):x.den G e= .ad (.li c (x.aN e (.li c)))∧x.rt=some (.li c):=by
 unfold w6 at h
 split at h
 ·rename_i pz ah
  cases h;exact⟨gP ah,ah⟩
 ·cases h
theorem zeB{s:aQ}{x:Operand}{t:TypeId}(au:o.op= .call {callee:=.builtin .len,args:=#[x],argTypes:=#[t]})(aJ:isSlice P t=true){id n:Nat}(hx:aP G s x= .dN id n){bt:TypeId}{cs:List aC}(bf:aE s.heap id=some (.box bt cs)):cY P G o s (.ad (.v (.int .i64 (n:Int)))):=
 fun E a w β ro ah=>by
  have h:=ah.eval x
  rw[hx]at h;generalize hc:a.eval x=c at h
  cases h with
  |dN _ _ _ av ar=>
   obtain⟨b,_,rfl⟩:=ar _ _ bf;unfold isSlice at aJ
   split at aJ
   ·rename_i e hu
    refine⟨.int .i64 n,?_,.e3 rfl⟩
    simp[execOp,au,resolve,invoke,builtin,hc,Builtin.len_,run_underlying hu,goInt]
   ·cases aJ
theorem zeC{s:aQ}{x y:Operand}{t:TypeId}(au:o.op= .indexAddr t x y){pG:Nat}(aJ:kS P t=some pG){k:IntKind}{j n:Nat}(aA:aP G s y= .ad (.v (.int k (j:Int))))(aj:j<n){id:Nat}(hx:aP G s x= .dN id n){bt:TypeId}{cs:List aC}(bf:aE s.heap id=some (.box bt cs)):cY P G o s (.ptr id (j*pG)):=
 fun E a w β ro ah=>by
  have h:=ah.eval x
  rw[hx]at h;generalize hc:a.eval x=c at h
  cases h with
  |dN _ _ _ av ar=>
   obtain⟨b,ag,rfl⟩:=ar _ _ bf;obtain⟨e,hu,bT⟩:=wN aJ;refine⟨.pointer (some ⟨b,j*pG,none⟩),?_,.ptr _ _ _ av fun bh cs' _=>⟨b,ag,rfl⟩⟩
   by_cases aT:j*pG=0<;>simp[execOp,au,hc,ah.dR aA,Instr.indexAt,asIntOf,run_underlying hu,aj,bT,Addr.add,aT]
theorem QY(cE:ByteArray)(c:Int):Extern.BytealgIndexByte.indexByte #[.string cE,.int .u8 c]=pure (.int .i64 (xR cE c)):=by
 have hi:Extern.BytealgIndexByte.indexByte #[.string cE,.int .u8 c]=(match(List.range cE.size).find? fun i=>cE[i]! ==c.toNat.toUInt8 with
  |some i=>pure (goInt i)
  |none=>pure (goInt (-1))):=rfl
 rw[hi]
 unfold xR
 cases List.find? (fun i=>cE[i]! ==c.toNat.toUInt8) (List.range cE.size)<;>rfl
theorem uq{a b:String}(h:(a==b)=true):a=b:=by simpa using h
theorem zeD{f:Operand}{aI:List Operand}{args:Array Operand}{ts:Array TypeId}{r:ee}(au:o.op= .call {callee:=.value f,args:=args,argTypes:=ts})(a6:args.toList=aI)(h:ML P S (S.a1 N f) (aI.map (S.a1 N))=some r):jC P G N B M o S r:=fun e hf hx hn=>by
 unfold ML at h
 split at h
 rotate_left
 ·cases h
 rename_i Eg w7
 have uo:aP G (S.den G N B e) f= .fn (.func Eg) [] []:=by rw[bR hf,w7];rfl
 have start: ∀{ev:Array Value→Sem Value} {fn:Func},P.funcs[Eg]? =some fn→fn.body.isNone=true→(fn.name== "runtime.NumGoroutine")=false→Extern.findNext fn=none→Extern.find fn=some ev→∀E a w β ro,dn E G (S.den G N B e) a w β ro→(execOp a.eval o).run P w=((ev (args.map a.eval)).run P w).andThen fun v w'=>.ok (.value v) w':=fun {ev fn} ab ae aw aM bn E a w β ro ah=>by
  have hc:=ah.eval f
  rw[uo]at hc;generalize he:a.eval f=Eh at hc
  cases hc with
  |fn _ _ _ c d g1 g2 _ _=>
   have hQ:c= #[]:=by simpa using g1
   have p8:d= #[]:=by simpa using g2
   subst hQ p8;simp only[execOp,au,resolve,he,Deferred.ofValue,Sem.run_bind,Sem.run_pure,Result.andThen_ok,invoke,Array.empty_append,Array.append_empty];exact run_callFunc_extern ab aw ae aM bn _ w
 split at h
 ·rename_i x an av
  cases h;unfold xQ at an
  split at an
  rotate_left
  ·cases an
  rename_i fn o5
  split at an
  ·rename_i _ p9 rp
   simp only[Bool.and_eq_true]at p9;obtain⟨ag,fM⟩:=p9
   have hn:=uq rp
   have fM:=uq fM
   obtain⟨y,rfl⟩: ∃y,aI=[y]:=by
    match aI,av with
    |[y],_=>exact⟨y,rfl⟩
   simp only[List.map_cons,List.map_nil,List.cons.injEq,and_true]at av
   have jc:args= #[y]:=by rw[←Array.toList_inj];exact a6
   intro E a w β ro ah;refine⟨a.eval y,?_,by have:=ah.eval y;rw[bR hf,av]at this;exact this⟩
   rw[start (ev:=Extern.AbiNoEscape.same) o5 ag (by rw[hn];rfl) (by unfold Extern.findNext;simp only[hn,fM]<;>rfl) (by unfold Extern.find;simp only[hn,fM]<;>rfl) E a w β ro ah,jc]
   have hm:(#[y]:Array Operand).map a.eval= #[a.eval y]:=by simp
   rw[hm];rfl
  ·cases an
  ·cases an
 ·rename_i x z an av
  split at h
  ·rename_i g1 g2
   cases h;unfold xQ at an
   split at an
   rotate_left
   ·cases an
   rename_i fn o5
   split at an
   ·cases an
   ·rename_i p9 _ rp
    simp only[Bool.and_eq_true]at p9;obtain⟨ag,fM⟩:=p9
    have hn:=uq rp
    have fM:=uq fM
    obtain⟨y,u,rfl⟩: ∃y u,aI=[y,u]:=by
     match aI,av with
     |[y,u],_=>exact⟨y,u,rfl⟩
    simp only[List.map_cons,List.map_nil,List.cons.injEq,and_true]at av
    have jc:args= #[y,u]:=by rw[←Array.toList_inj];exact a6
    have aA:aP G (S.den G N B e) y= .ad (.v (.string (x.aN e .str))):=by rw[bR hf,av.1];exact gP g1
    have hu:aP G (S.den G N B e) u= .ad (.v (.int .u8 (z.aN e (.int .u8)))):=by rw[bR hf,av.2];exact gP g2
    refine r0 (f:=.zc) (hx 0 _ rfl) fun E a w β ro ah=>?_
    refine⟨.int .i64 (xR (x.aN e .str) (z.aN e (.int .u8))),?_,.e3 rfl⟩
    rw[start (ev:=Extern.BytealgIndexByte.indexByte) o5 ag (by rw[hn];rfl) (by unfold Extern.findNext;simp only[hn,fM]<;>rfl) (by unfold Extern.find;simp only[hn,fM]<;>rfl) E a w β ro ah,jc]
    have hm:(#[y,u]:Array Operand).map a.eval= #[.string (x.aN e .str),.int .u8 (z.aN e (.int .u8))]:=by simp[ah.dR aA,ah.dR hu]
    rw[hm];rw[QY];rfl
   ·cases an
  ·cases h
 ·cases h
theorem zeE{t:TypeId}{x i:Operand}{r:ee}(au:o.op= .indexAddr t x i)(h:MM P S t (S.a1 N x) (S.a1 N i)=some r):jC P G N B M o S r:=fun e hf hx hn=>by
 unfold MM at h
 split at h
 ·rename_i k hi
  have hC:aP G (S.den G N B e) i=_:=(bR hf i).trans (k9 hi)
  split at h
  ·rename_i n nc
   split at h
   ·rename_i id bf
    split at h
    ·rename_i bh c y ai
     split at h
     ·rename_i ag
      cases h
      have ag:=Nat.eq_of_beq_eq_true ag
      obtain⟨g1,g2⟩:=zn hf hi hn;obtain⟨j,aj⟩: ∃j:Nat,(S.a1 N i).aN e (.int k)=(j:Int):=⟨_,(Int.toNat_of_nonneg g1).symm⟩;rw[aj]at hC g2
      have g2:(j:Int)<((List.length (y.aN e (.li c)):Nat):Int):=g2
      have:=S3 t x i au nc hC (p:=.dg id j 0) (by
       rw[bR hf,bf];simp only[af.den,mM,ay.den,e7,ai,Option.map_some,bQ.den]
       rw[if_pos ⟨ag.symm,by rw[List.length_map];omega⟩])
      simp only[af.den,nT hi,aj,Int.toNat_natCast];exact this
     ·cases h
    ·cases h
   ·rename_i id m bf
    split at h
    ·rename_i bt l a8 j ai nv
     split at h
     ·rename_i S7
      cases h;exact zeC au nc (k:=a8) (j:=j) (by rw[bR hf,nv];rfl) (e9 S7) (id:=id) (bt:=bt) (cs:=af.b0 G e l) (by rw[bR hf,bf];rfl) (by simp only[ay.den,e7,ai,Option.map_some,bQ.den])
     ·cases h
    ·cases h
   ·split at h
    ·rename_i c hc
     split at h
     ·rename_i ag
      cases h
      have ag:=Nat.eq_of_beq_eq_true ag
      rw[ag]at nc;obtain⟨hd,w8⟩:=M3 (G:=G) (e:=e) hc;obtain⟨g1,g2⟩:=zn hf hi hn
      have:=(TM c _ k _ au nc hC ((bR hf x).trans hd) g1 g2).v
      have aS:Env.at e S.k=_:=hx 0 _ rfl
      have ab:=Ui (G:=G) (x:=List.getD ((S.a1 N x).aN e (.li c)) (Int.toNat ((S.a1 N i).aN e (.int k))) (bj c)) aS
      show cY P G o _ ((af.ip c S.k 0).den G e);rw[ab];exact this
     ·cases h
    ·split at h
     ·rename_i c s9 _
      cases h
      have kD:=hn _ (List.mem_singleton.2 rfl)
      have aT:(S.a1 N x).aN e (.li c)=[]:=by
       unfold af.isNil at s9
       split at s9
       ·rename_i aG
        simp only[aG,af.aN,af.gw,c3]
       ·cases s9
      simp only[gE.ok,fN.zd,aT]at kD
      have ae:(S.a1 N i).aN e (.int k)<((List.length ([]:List (hg c)):Nat):Int):=kD.2
      have aw:0≤(S.a1 N i).aN e (.int k):=kD.1
      exact absurd (Int.lt_of_le_of_lt aw ae) (Int.lt_irrefl _)
     ·cases h
  ·split at h
   ·rename_i len n l a6 av
    have fj:=CN (G:=G) (N:=N) (B:=B) (e:=e) av
    rw[←bR (B:=B) hf]at fj
    split at h
    ·rename_i a8 j aj
     split at h
     ·rename_i p dj ar
      cases h
      have dj:=e9 dj
      refine LL t x i au a6 (k:=a8) (j:=j) (by rw[bR hf,aj];rfl) dj fj ?_
      have ao:=CO (G:=G) (e:=e) ar
      rw[←ao,←bR (N:=N) (B:=B) hf];revert fj
      cases aP G (S.den G N B e) x<;>intro fj<;>first|(simp[fG]at fj;done)|skip
      all_goals rename_i y
      ·cases y<;>first|(simp[fG]at fj;done)|rfl
      ·rfl
      ·rfl
     ·cases h
    ·rename_i id off bf _
     cases h
     have kD:0≤cN ((S.a1 N i).dyn e)∧cN ((S.a1 N i).dyn e)<(len:Int):=Gy hf hn
     obtain⟨j,aj⟩: ∃j:Nat,cN ((S.a1 N i).dyn e)=(j:Int):=⟨_,(Int.toNat_of_nonneg kD.1).symm⟩;rw[←nT hi,aj]at hC;refine LL t x i au a6 hC (by omega) fj ?_
     rw[bR hf,bf];simp only[af.den,jF,aj,Int.toNat_natCast]
    ·cases h
   ·cases h
 ·cases h
theorem zeF{t:TypeId}{x:Operand}{r:ee}(au:o.op= .load t x)(h:MN P S t (S.a1 N x)=some r):jC P G N B M o S r:=fun e hf hx hn=>by
 unfold MN at h
 split at h
 ·rename_i id i off ar
  split at h
  ·rename_i bh c y k ai hi
   split at h
   ·rename_i v az aA
    cases h;obtain⟨g1,g2⟩:=zn hf hi hn
    have aS:Env.at e S.k=⟨.st c,List.getD (y.aN e (.li c)) (i.aN e (.int k)).toNat (bj c)⟩:=hx 0 _ rfl
    refine T9 au ?_ az
    rw[bR hf,ar];simp only[af.den,fG,ay.den,e7,ai,Option.map_some,bQ.den,nT hi];rw[List.getElem?_map,Uj g1 g2]
    simp only[Option.map_some,Option.some.injEq];rw[ME,uX,aS,c3,List.map_drop]
   ·cases h
  ·cases h
 ·rename_i id off i ar
  split at h
  ·rename_i bh l k ai hi
   split at h
   ·rename_i q aG
    split at h
    ·rename_i a6
     cases h;simp only[Bool.and_eq_true]at a6
     have kD:0≤cN (i.dyn e)∧cN (i.dyn e)<((l.drop off).length:Int):=Gy hf hn
     obtain⟨j,aj⟩: ∃j:Nat,cN (i.dyn e)=(j:Int):=⟨_,(Int.toNat_of_nonneg kD.1).symm⟩
     have dj:j<(l.drop off).length:=by omega
     have az:(l.drop off)[j]? =some (l.drop off)[j]:=List.getElem?_eq_getElem dj
     have hd:(l.drop off).drop j=(l.drop off)[j]::(l.drop off).drop (j+1):=List.drop_eq_getElem_cons dj
     have:=Lr t x au a6.2.2 (y:=((l.drop off)[j]).den G e) (cs:=af.b0 G e ((l.drop off).drop (j+1))) (s:=S.den G N B e) (G:=G) (by
      rw[bR hf,ar];simp only[af.den,fG,ay.den,e7,ai,Option.map_some,bQ.den,aj,Int.toNat_natCast,Nat.mul_one,Option.some.injEq];rw[←ME,←List.drop_drop,hd]
      rfl)
     refine this.sub ?_
     have aS:Env.at e S.k=_:=hx 0 _ rfl
     simp only[af.den,aS,b1.den,c3,aj,Int.toNat_natCast];exact M1 a6.1 az
    ·cases h
   ·cases h
  ·cases h
 ·split at h
  ·rename_i l av
   split at h
   ·rename_i v az
    cases h;refine T9 au ?_ az
    rw[bR hf];exact CN av
   ·cases h
  ·cases h
theorem zeG{t:TypeId}{x:Operand}{r:ee}(au:o.op= .call {callee:=.builtin .len,args:=#[x],argTypes:=#[t]})(h:MO P S t (S.a1 N x)=some r):jC P G N B M o S r:=fun e hf hx hn=>by
 unfold MO at h
 split at h
 ·rename_i ar
  split at h
  ·rename_i aJ
   cases h;exact LJ x t au aJ (m:=0) (by rw[bR hf,ar];rfl)
  ·cases h
 ·rename_i b ar
  split at h
  ·rename_i aJ
   cases h;exact LK x t au (sE aJ) (by rw[bR hf,ar];rfl)
  ·cases h
 ·rename_i id n ar
  split at h
  ·rename_i bt l ai aJ
   cases h;exact zeB au aJ (id:=id) (bt:=bt) (cs:=af.b0 G e l) (by rw[bR hf,ar];rfl) (by simp only[ay.den,e7,ai,Option.map_some,bQ.den])
  ·cases h
 ·rename_i id ar
  split at h
  ·rename_i bh c y ai
   split at h
   ·rename_i aJ
    cases h;refine r1 (f:=.kd c) (hx 0 _ rfl) (LJ x t au aJ (m:=List.length (y.aN e (.li c))) ?_)
    rw[bR hf,ar];simp only[af.den,lN,ay.den,e7,ai,Option.map_some,bQ.den,List.length_map]
   ·cases h
  ·cases h
 ·split at h
  ·rename_i ah
   split at h
   ·rename_i aJ
    cases h;exact r1 (f:=.pA) (hx 0 _ rfl) (LK x t au (sE aJ) ((bR hf x).trans (gP ah)))
   ·cases h
  ·rename_i c ah
   split at h
   ·rename_i aJ
    cases h;exact r1 (f:=.kd c) (hx 0 _ rfl) (zd4 c _ au aJ ((bR hf x).trans (gP ah)))
   ·cases h
  ·split at h
   ·rename_i n M4
    cases h;exact S1 x t au M4
   ·cases h
theorem zw{e:Env}(hf: ∀c∈S.g,c.ok e){lo:Option Operand}{l:Option af}(h:zv N S lo=some l):CH G (S.den G N B e) lo (pC e l):=by
 unfold zv at h
 split at h
 ·cases h;trivial
 ·split at h
  ·rename_i y k ah
   cases h;exact⟨k,by rw[bR hf,k9 ah,nT ah]⟩
  ·cases h
theorem Uk{t:TypeId}{x:Operand}{lo hi:Option Operand}{r:ee}(au:o.op= .slice t x lo hi none)(h:GG P N S t (S.a1 N x) lo hi=some r):jC P G N B M o S r:=fun e hf hx hn=>by
 unfold GG at h
 split at h
 ·rename_i l h' av aV
  split at h
  ·rename_i ah
   split at h
   ·rename_i aJ
    cases h
    have aS:Env.at e S.k=_:=hx 0 _ rfl
    simp only[af.den,aS,b1.den,c3];refine zei _ au (sE aJ) ((bR hf x).trans (gP ah)) (zw hf av) (zw hf aV) ?_
    cases l<;>cases h'<;>first|trivial|exact hn _ (List.mem_singleton.2 rfl)
   ·cases h
  ·rename_i c ah
   split at h
   ·rename_i n nc
    split at h
    ·rename_i ag
     cases h;rw[Nat.eq_of_beq_eq_true ag]at nc
     have aS:Env.at e S.k=_:=hx 0 _ rfl
     simp only[af.den,aS,b1.den,c3];refine(T1 c _ au nc ((bR hf x).trans (gP ah)) (zw hf av) (zw hf aV) ?_).v
     cases l<;>cases h'<;>first|trivial|exact hn _ (List.mem_singleton.2 rfl)
    ·cases h
   ·cases h
  ·cases h
 ·cases h
theorem zeH{src dst:TypeId}{x:Operand}{r:ee}(au:o.op= .convert src dst x)(h:MP P S src dst (S.a1 N x)=some r):jC P G N B M o S r:=fun e hf hx hn=>by
 unfold MP at h
 split at h
 ·rename_i id bf
  unfold Ug at h
  split at h
  ·rename_i bh y el ai ao
   split at h
   ·rename_i hu hd
    cases h;refine r1 (f:=.cE) (hx 0 _ rfl) (I0 src dst el x au ao hu hd (l:=y.aN e (.li .u8)) ?_)
    rw[bR hf,bf];simp only[af.den,h0,ay.den,e7,ai,Option.map_some,bQ.den];rfl
   ·cases h
  ·cases h
 rename_i y5
 split at h
 ·rename_i k ah
  split at h
  ·rename_i ao hd
   cases h;exact r1 (f:=.p5 k _) (hx 0 _ rfl) (Tf src dst x au (by rw[ao];rfl) hd ((bR hf x).trans (k9 ah)))
  ·cases h
 ·rename_i ah
  split at h
  ·rename_i el ao
   split at h
   ·rename_i hu hd
    cases h;refine r1 (f:=.cE) (hx 0 _ rfl) (I0 src dst el x au ao hu hd (l:=(S.a1 N x).aN e (.li .u8)) ?_)
    rw[bR hf,gP ah];rfl
   ·cases h
  ·cases h
 ·cases h
theorem zeI{op:UnOp}{t:TypeId}{x:Operand}{r:ee}(au:o.op= .unOp op t x)(h:MQ S op (S.a1 N x)=some r):jC P G N B M o S r:=fun e hf hx hn=>by
 unfold MQ at h
 split at h
 ·rename_i ah
  cases h;exact r1 (f:=.oJ) (hx 0 _ rfl) (SP t x au ((bR hf x).trans (gP ah)))
 ·rename_i k ah
  cases h;exact r1 (f:=.Ct k) (hx 0 _ rfl) (SQ t x au ((bR hf x).trans (k9 ah)))
 ·rename_i k ah
  cases h
  have iM:aP G (S.den G N B e) x=_:=(bR hf x).trans (k9 ah)
  exact r1 (f:=.wF k) (hx 0 _ rfl) fun _ bb w β ro h=>⟨_,by simp[execOp,au,h.dR iM,Op.unary,Op.intBits,cB.den,aK.iO],.e3 rfl⟩
 ·cases h
theorem zeJ{t:TypeId}{ps:Array (Nat × Operand)}{r:ee}(au:o.op= .build t ps)(h:MR P N S t ps.toList=some r):jC P G N B M o S r:=fun e hf hx hn=>by
 unfold MR at h
 split at h
 ·rename_i pl zs s7 aT
  split at h
  ·rename_i ag
   simp only[Bool.and_eq_true]at ag
   split at h
   ·rename_i ds hd
    cases h
    have ab:=GA (G:=G) (e:=e) ag.2 hd
    have ae:af.b0 G e (zs.map .cs)=zs.map fun z=>.ad (.v z):=by rw[fE,List.map_map];rfl
    rw[ae]at ab
    have aw:(ps.toList.map fun p=>(p.1,aP G (S.den G N B e) p.2))=(ps.toList.map fun p=>(p.1,S.a1 N p.2)).map fun p=>(p.1,p.2.den G e):=by
     rw[List.map_map];exact List.map_congr_left fun p _=>by simp[bR hf]
    refine Ta t ps au s7 aT ag.1 aw ?_ ab
    rw[List.all_map];refine List.all_eq_true.2 fun p ar=>?_
    have:=List.all_eq_true.1 ag.2 p ar
    simp only[Function.comp];rw[w3 this];exact zp this
   ·cases h
  ·cases h
 ·cases h
theorem zeK{t:TypeId}{x:Operand}{f:Nat}{r:ee}(au:o.op= .field t x f)(h:MS P t (S.a1 N x) f=some r):jC P G N B M o S r:=fun e hf hx hn=>by
 unfold MS at h
 split at h
 ·rename_i l off av ar
  split at h
  ·rename_i v az
   cases h;exact S5 t x f au ar (by rw[bR hf,av];rfl) (GJ az)
  ·cases h
 ·rename_i l off n av ar
  split at h
  ·rename_i ag
   cases h
   have:=S6 t x f au ar (s:=S.den G N B e) (G:=G) (cs:=af.b0 G e l) (by rw[bR hf,av];rfl) (by rw[oP];exact Nat.le_of_ble_eq_true ag)
   simp only[af.den];rw[fE,List.map_take,List.map_drop,←fE];exact this
  ·cases h
 ·cases h
theorem zeL{b:Builtin}{x y:Operand}{ts:Array TypeId}{r:ee}(au:o.op= .call {callee:=.builtin b,args:=#[x,y],argTypes:=ts})(h:MT S b (S.a1 N x) (S.a1 N y)=some r):jC P G N B M o S r:=fun e hf hx hn=>by
 unfold MT at h
 split at h
 ·rename_i k a8 ab ae
  split at h
  ·rename_i an
   cases h
   have an:=of_decide_eq_true an
   subst an;exact r0 (f:=.zb k) (hx 0 _ rfl) (Tg x y ts au ((bR hf x).trans (k9 ab)) ((bR hf y).trans (k9 ae)))
  ·cases h
 ·rename_i k a8 ab ae
  split at h
  ·rename_i an
   cases h
   have an:=of_decide_eq_true an
   subst an;exact r0 (f:=.mx k) (hx 0 _ rfl) (Th x y ts au ((bR hf x).trans (k9 ab)) ((bR hf y).trans (k9 ae)))
  ·cases h
 ·cases h
theorem zeM{t:TypeId}(h:AO P t=true): ∃hX i,P.underlying t=some (.pointer hX)∧P.info? hX=some i∧i.size≠0:=by
 unfold AO at h
 split at h
 ·rename_i e hu
  cases hi:P.info? e with
  |none=>rw[hi]at h;cases h
  |some i=>
   rw[hi]at h;simp only[Option.isSome_some,Bool.true_and,Option.map_some]at h;refine⟨e,i,hu,hi,fun aT=>?_⟩
   rw[aT]at h;cases h
 ·cases h
theorem M5{id:Nat}{e:Env}(h:CP S id=true): ∃t cs,aE (S.den G N B e).heap id=some (.box t cs):=by
 unfold CP at h
 split at h
 ·rename_i t l ai
  exact⟨t,af.b0 G e l,by simp only[ay.den,e7,ai,Option.map_some,bQ.den]⟩
 ·cases h
theorem Ul{s:aQ}{b:Bool}{g:af}{r:ee}{e:Env}(h:GH S b g=some r)(hx: ∀(j:Nat) (x:b1),r.xs[j]? =some x→Env.at e (S.k+j)=x.den M e)(ao:cY P G o s (.ad (.v (.bool (bif b then g.aN e .bool else !(g.aN e .bool)))))):cY P G o s (r.v.den G e):=by
 unfold GH at h
 split at h
 ·rename_i ah
  cases h
  have:=gP (G:=G) (e:=e) ah
  show cY P G o s (g.den G e);rw[this];exact ao
 ·rename_i ah
  cases h;exact r1 (f:=.oJ) (hx 0 _ rfl) ao
 ·cases h
theorem zeN{tp hX:TypeId}{j:TypeInfo}(w:World)(a:Addr)(ar:P.underlying tp=some (.pointer hX))(zeO:P.info? hX=some j):(Op.equal tp (.pointer (some a)) (.pointer (some a))).run P w= .ok true w:=by
 have h: ∀d:Nat,(Op.equalIn (d+1) tp (.pointer (some a)) (.pointer (some a))).run P w= .ok true w:=fun d=>by
  simp[Op.equalIn,run_underlying ar,sizeOf,typeInfo,zeO,run_sameAddr_same]
 exact h 9999
theorem eq_nil{tp hX:TypeId}(w:World)(q:Option Addr)(ar:P.underlying tp=some (.pointer hX)):(Op.equal tp (.pointer none) (.pointer q)).run P w= .ok q.isNone w:=by
 have h: ∀d:Nat,(Op.equalIn (d+1) tp (.pointer none) (.pointer q)).run P w= .ok q.isNone w:=fun d=>by
  cases q<;>simp[Op.equalIn,run_underlying ar]
 exact h 9999
theorem vV{s:aQ}{op:BinOp}{cJ ty:TypeId}{x y:Operand}{b c:Bool}(au:o.op= .binOp op cJ x y ty)(aJ:AO P cJ=true)(ag:Ec op=some b)
 (h: ∀E a w β ro,dn E G s a w β ro→∃p q,a.eval x= .pointer p∧a.eval y= .pointer q∧((q=none∧c=p.isNone)∨(p=none∧c=q.isNone)∨(∃c7,p=some c7∧q=some c7∧c=true))):cY P G o s (.ad (.v (.bool (bif b then c else !c)))):=
 fun E a w β ro ah=>by
  obtain⟨hX,i,hu,hi,bT⟩:=zeM aJ;obtain⟨p,q,ab,ae,aw⟩:=h E a w β ro ah;refine⟨.bool (bif b then c else !c),?_,.e3 rfl⟩
  have zeP:P.underlying cJ=some (.pointer (P.pointee cJ)):=by rw[hu];simp[Program.pointee,hu]
  have heq:(Op.equal cJ (.pointer p) (.pointer q)).run P w= .ok c w:=by
   rcases aw with⟨rfl,rfl⟩|⟨rfl,rfl⟩|⟨c7,rfl,rfl,rfl⟩
   ·exact run_equal_pointer_nil w cJ p zeP
   ·exact eq_nil w q hu
   ·exact zeN w c7 hu hi
  unfold Ec at ag
  split at ag
  ·cases ag
   have:(binOp .eql cJ (.pointer p) (.pointer q)).run P w= .ok (.bool c) w:=by
    simp only[binOp];simp[heq]
   simp[execOp,au,ab,ae,eqGuard_at_pointer,this]
  ·cases ag
   have:(binOp .neq cJ (.pointer p) (.pointer q)).run P w= .ok (.bool (!c)) w:=by
    simp only[binOp];simp[heq]
   simp[execOp,au,ab,ae,eqGuard_at_pointer,this]
  ·cases ag
theorem um{E:Entry}{s:aQ}{a:Act}{w:World}{β:Nat→Value}{ro:Nat→Prop}{x:Operand}(ah:dn E G s a w β ro)(hx:aP G s x= .ad (.v (.pointer none))):a.eval x= .pointer none:=ah.dR hx
theorem ob{E:Entry}{s:aQ}{a:Act}{w:World}{β:Nat→Value}{ro:Nat→Prop}{x:Operand}{id off:Nat}{t:TypeId}{cs:List aC}(ah:dn E G s a w β ro)(hx:aP G s x= .ptr id off)(ai:aE s.heap id=some (.box t cs)):
 ∃b,β id= .pointer (some ⟨b,0,none⟩)∧a.eval x= .pointer (some ⟨b,off,none⟩):=by
 have h:=ah.eval x
 rw[hx]at h
 generalize hc:a.eval x=c at h
 cases h with
 |ptr _ _ _ av ar=>exact ar _ _ ai
theorem zeQ{op:BinOp}{cJ ty:TypeId}{x y:Operand}{r:ee}(au:o.op= .binOp op cJ x y ty)(h:MU P S op cJ (S.a1 N x) (S.a1 N y)=some r):jC P G N B M o S r:=fun e hf hx hn=>by
 unfold MU at h
 split at h
 rotate_left
 ·cases h
 rename_i b aJ ag
 split at h
 ·rename_i ab ae
  cases h
  have:=vV (G:=G) (s:=S.den G N B e) (c:=true) au aJ ag fun E a w β ro ah=>⟨none,none,um ah (by rw[bR hf,ab];rfl),um ah (by rw[bR hf,ae];rfl),.inl ⟨rfl,rfl⟩⟩
  cases b<;>exact this
 ·rename_i i q j iF ab ae
  split at h
  ·rename_i hc
   cases h;simp only[Bool.and_eq_true]at hc;obtain⟨⟨aB,bU⟩,b7⟩:=hc
   have aB:=Nat.eq_of_beq_eq_true aB
   have bU:=Nat.eq_of_beq_eq_true bU
   subst aB bU;obtain⟨bt,cs,ai⟩:=M5 (G:=G) (N:=N) (B:=B) (e:=e) b7
   have:=vV (G:=G) (s:=S.den G N B e) (c:=true) au aJ ag fun E a w β ro ah=>by
    obtain⟨fV,g1,g2⟩:=ob ah (by rw[bR hf,ab];rfl) ai
    obtain⟨h3,g3,g4⟩:=ob ah (by rw[bR hf,ae];rfl) ai
    rw[g1]at g3
    cases g3
    exact⟨_,_,g2,g4,.inr (.inr ⟨_,rfl,rfl,rfl⟩)⟩
   cases b<;>exact this
  ·cases h
 ·rename_i g i off ab ae
  split at h
  ·rename_i hc
   obtain⟨bt,cs,ai⟩:=M5 (G:=G) (N:=N) (B:=B) (e:=e) hc;refine Ul h hx ?_
   have:=vV (G:=G) (s:=S.den G N B e) (c:=!(g.aN e .bool)) au aJ ag fun E a w β ro ah=>by
    have Um:a.eval y= .pointer none:=um ah (by rw[bR hf,ae];rfl)
    have hd:aP G (S.den G N B e) x=(af.fQ g (some i) off).den G e:=by rw[bR hf,ab]
    simp only[af.den]at hd
    cases va:g.aN e .bool with
    |true=>
     rw[va]at hd;obtain⟨fV,g1,g2⟩:=ob ah hd ai;exact⟨_,_,g2,Um,.inl ⟨rfl,rfl⟩⟩
    |false=>
     rw[va]at hd;exact⟨_,_,um ah hd,Um,.inl ⟨rfl,rfl⟩⟩
   cases b<;>simpa using this
  ·cases h
 ·rename_i g i q j iF ab ae
  split at h
  ·rename_i hc
   simp only[Bool.and_eq_true]at hc;obtain⟨⟨aB,bU⟩,b7⟩:=hc
   have aB:=Nat.eq_of_beq_eq_true aB
   have bU:=Nat.eq_of_beq_eq_true bU
   subst aB bU;obtain⟨bt,cs,ai⟩:=M5 (G:=G) (N:=N) (B:=B) (e:=e) b7;refine Ul h hx ?_
   refine vV (G:=G) (s:=S.den G N B e) (c:=g.aN e .bool) au aJ ag fun E a w β ro ah=>?_
   obtain⟨h3,g3,g4⟩:=ob ah (by rw[bR hf,ae];rfl) ai
   have hd:aP G (S.den G N B e) x=(af.fQ g (some i) q).den G e:=by rw[bR hf,ab]
   simp only[af.den]at hd
   cases va:g.aN e .bool with
   |true=>
    rw[va]at hd;obtain⟨fV,g1,g2⟩:=ob ah hd ai;rw[g1]at g3
    cases g3
    exact⟨_,_,g2,g4,.inr (.inr ⟨_,rfl,rfl,rfl⟩)⟩
   |false=>
    rw[va]at hd;exact⟨_,_,um ah hd,g4,.inr (.inl ⟨rfl,rfl⟩)⟩
  ·cases h
 ·cases h
theorem Ee{E:Entry}{s:aQ}{a:Act}{w:World}{β:Nat→Value}{ro:Nat→Prop}{id off b:Nat}{t:TypeId}{cs:List aC}(ah:dn E G s a w β ro)(ai:aE s.heap id=some (.box t cs))(ag:β id= .pointer (some ⟨b,0,none⟩))(av:off<cs.length):
 ∃arr v,w.heap[b]? =some (.cells arr t (0,0))∧arr.size=cs.length∧w.cell? ⟨b,off,none⟩=some v:=by
 have dS:=ah.heap.dq id _ ai
 cases dS with
 |box _ _ gR arr ab ae aw aM=>
  rw[ag]at ab;simp only[Value.pointer.injEq,Option.some.injEq,Addr.mk.injEq,and_true]at ab;subst ab;refine⟨arr,arr[off]'(by omega),ae,aw,?_⟩
  have bE:off<arr.size:=by omega
  simp[World.cell?,ae,bE]
theorem zeR{src dst:TypeId}{x:Operand}{r:ee}(au:o.op= .convert src dst x)(h:MV P S src dst (S.a1 N x)=some r):jC P G N B M o S r:=fun e hf hx hn=>by
 unfold MV at h
 split at h
 rotate_left
 ·cases h
 rename_i id off az
 have hd:aP G (S.den G N B e) x= .ptr id off:=by rw[bR hf,az];rfl
 split at h
 ·rename_i bt l t ai ao rS
  split at h
  ·rename_i aT bE
   cases h;rw[az]
   have aV:aE (S.den G N B e).heap id=some (.box bt (af.b0 G e l)):=by simp only[ay.den,e7,ai,Option.map_some,bQ.den]
   intro E a w β ro ah;obtain⟨b,ag,he⟩:=ob ah hd aV;obtain⟨arr,v,_,_,hc⟩:=Ee (off:=off) ah aV ag (by rw[oP];exact e9 bE)
   refine⟨.pointer (some ⟨b,off,none⟩),?_,by have:=ah.eval x;rw[hd,he]at this;exact this⟩
   simp only[execOp,au,he,Sem.run_bind,run_convert_to_unsafe ao rS aT hc,Result.andThen_ok,Sem.run_pure]
  ·cases h
 ·rename_i bt l u ai ao rS
  split at h
  ·rename_i sF bE
   cases h;rw[az]
   have aV:aE (S.den G N B e).heap id=some (.box bt (af.b0 G e l)):=by simp only[ay.den,e7,ai,Option.map_some,bQ.den]
   intro E a w β ro ah;obtain⟨b,ag,he⟩:=ob ah hd aV;obtain⟨arr,v,fx,bT,hc⟩:=Ee (off:=off) ah aV ag (by rw[oP];exact e9 bE)
   refine⟨.pointer (some ⟨b,off,none⟩),?_,by have:=ah.eval x;rw[hd,he]at this;exact this⟩
   rw[oP]at bT
   have AR:w.shape? b=some (bt,l.length):=by simp[World.shape?,fx,bT]
   have I1:(convert src dst (.pointer (some ⟨b,off,none⟩))).run P w= .ok (.pointer (some ⟨b,off,none⟩)) w:=by
    rw[Bool.and_eq_true]at sF;obtain⟨i,hi⟩:=Option.isSome_iff_exists.1 sF.2
    have sF:=sF.1
    by_cases aT:i.size=0
    ·simp[convert,Conv.unsafePointer,Conv.seenAt,viewAt,variablesAt,sizeOf,typeInfo,run_underlying ao,run_underlying rS,hi,aT,AR,sF,Result.andThen]
    ·simp[convert,Conv.unsafePointer,Conv.seenAt,viewAt,variablesAt,sizeOf,typeInfo,run_underlying ao,run_underlying rS,hi,aT,AR,sF,Result.andThen]
   simp only[execOp,au,he,Sem.run_bind,I1,Result.andThen_ok,Sem.run_pure]
  ·cases h
 ·cases h
theorem zeS{t:TypeId}{x:Operand}{r:ee}(au:o.op= .slice t x none none none)(h:MW P S t (S.a1 N x)=some r):jC P G N B M o S r:=fun e hf hx hn=>by
 unfold MW at h
 split at h
 ·rename_i id n el az aJ
  split at h
  ·rename_i bt l ai hc
   cases h;simp only[Bool.and_eq_true]at hc
   have kD:=e9 hc.1
   obtain⟨zkc,oB⟩:=Option.isSome_iff_exists.1 hc.2
   have hd:aP G (S.den G N B e) x= .ptr id 0:=by rw[bR hf,az];rfl
   have aV:aE (S.den G N B e).heap id=some (.box bt (af.b0 G e l)):=by simp only[ay.den,e7,ai,Option.map_some,bQ.den]
   intro E a w β ro ah;obtain⟨b,ag,he⟩:=ob ah hd aV
   have c5:=ah.eval x
   rw[hd,he]at c5
   have bE:id<(S.den G N B e).next:=by cases c5 with|ptr _ _ _ av _=>exact av
   refine⟨.slice (some ⟨b,0,none⟩) n n,?_,.dN _ _ _ bE fun _ _ _=>⟨b,ag,rfl⟩⟩
   have bW: ¬n=0:=by omega
   simp[execOp,au,he,Instr.sliceAt,run_underlying aJ,Instr.sureAddr,Instr.sliceBounds,sizeOf,typeInfo,oB,bW,addLit,Result.andThen]
  ·cases h
 ·cases h
theorem Un{e:Env}: ∀{l:List af},nQ e .u8 (l.map fun x=>.cA [x])=l.map fun x=>x.aN e (.int .u8)
 |[]=>rfl
 |x::r=>by
  simp only[List.map_cons,nQ,Un (l:=r)];rfl
theorem Uo{e:Env}: ∀{l:List af},l.all (af.fr (.int .u8))=true→af.b0 G e l=(l.map fun x=>x.aN e (.int .u8)).map fun n=>aC.ad (.v (.int .u8 n))
 |[],_=>rfl
 |x::r,h=>by
  simp only[List.all_cons,Bool.and_eq_true]at h;simp only[af.b0,List.map_cons,Gj h.1,Uo h.2]
theorem zeT{src dst:TypeId}{x:Operand}{r:ee}(au:o.op= .convert src dst x)(h:MX P S src dst (S.a1 N x)=some r):jC P G N B M o S r:=fun e hf hx hn=>by
 unfold MX at h
 split at h
 ·rename_i id n el az ao
  split at h
  ·rename_i bt l ai hu rS
   split at h
   ·rename_i hc
    cases h;simp only[Bool.and_eq_true]at hc
    have kD:=Nat.eq_of_beq_eq_true hc.1
    have aS:=hx 0 _ rfl
    have ab:=hx 1 _ rfl
    simp only[Nat.add_zero,b1.den,cB.den,cB.a,cB.c]at aS ab
    have av:(af.bs (.li .u8) S.k).aN e (.li .u8)=l.map fun x=>x.aN e (.int .u8):=by
     simp only[af.aN,af.gw,af.dyn,aS,c3];exact Un
    rw[av]at ab;simp only[af.den,ab,c3,gr,lv];generalize hm:(l.map fun x=>x.aN e (.int .u8))=m
    have zeU:m.length=n:=by rw[←hm,List.length_map,kD]
    have hd:aP G (S.den G N B e) x= .dN id n:=by rw[bR hf,az];rfl
    have aV:aE (S.den G N B e).heap id=some (.box bt (m.map fun n=>.ad (.v (.int .u8 n)))):=by
     simp only[ay.den,e7,ai,Option.map_some,bQ.den];rw[Uo hc.2,hm]
    intro E a w β ro ah
    have c5:=ah.eval x
    rw[hd]at c5;generalize nA:a.eval x=c at c5
    cases c5 with
    |dN _ _ _ av ar=>
     obtain⟨b,ag,rfl⟩:=ar _ _ aV
     have fx: ∀(j:Nat) (v:Value),(m.map (Value.int .u8))[j]? =some v→w.cell? ((⟨b,0,none⟩:Addr).add j)=some v:=fun j v aj=>by
      have dS:=ah.heap.dq id _ aV
      cases dS with
      |box _ _ gR arr g1 g2 g3 g4=>
       rw[ag]at g1;simp only[Value.pointer.injEq,Option.some.injEq,Addr.mk.injEq,and_true]at g1;subst g1;rw[List.getElem?_map]at aj
       obtain⟨z,aT,rfl⟩:=Option.map_eq_some_iff.1 aj
       have bE:j<arr.size:=by rw[g3,List.length_map];exact(List.getElem?_eq_some_iff.1 aT).1
       have GK:=g4 j (.ad (.v (.int .u8 z))) (by rw[List.getElem?_map,aT];rfl)
       rw[Array.getD_eq_getD_getElem?,Array.getElem?_eq_getElem bE,Option.getD_some]at GK
       have zeV:arr[j]= .int .u8 z:=bA.val GK
       rw[addLit,Nat.zero_add];simp[World.cell?,g2,bE,zeV]
     have F4:=run_loadCells_list (P:=P) (w:=w) ⟨b,0,none⟩ (m.map (Value.int .u8)) fx
     refine⟨.string (bytesOf m),?_,.e3 rfl⟩
     have cy:(convert src dst (.slice (some ⟨b,0,none⟩) n n)).run P w= .ok (.string (bytesOf m)) w:=by
      rw[run_convert_bytes_string w src dst el (some ⟨b,0,none⟩) n n ao hu rS,←zeU];exact run_bytesToString w ⟨b,0,none⟩ m.length m.length m (by simpa using F4)
     simp[execOp,au,nA,cy]
   ·cases h
  ·cases h
 ·cases h
theorem GL{G:aR}{e:Env}: ∀{l:List af} {rs:List aX},qU l=some rs→af.b0 G e l=(gO e rs l).map fun d=>.ad d.ad
 |[],_,h=>by cases h;rfl
 |x::r,_,h=>by
  simp only[qU]at h
  split at h
  ·rename_i t l ab ae
   cases h;simp only[af.b0,gP ab,GL ae,gO,List.map_cons];rfl
  ·cases h
theorem AS{t:TypeId}(h:vR P t=false): ∃d,P.underlying t=some d∧∀m,d≠ .interface m:=by
 unfold vR at h
 split at h
 ·cases h
 ·cases h
 ·rename_i d hd hn
  cases hu:P.underlying t with
  |none=>exact absurd hu hn
  |some d=>exact⟨d,rfl,fun m e=>hd m (by rw[hu,e])⟩
theorem QS{w:World}{ro:Nat→Prop}{σ:Heap}{β:Nat→Value}{M:Nat}{t:TypeId}{ys:List aU}{c:Value}(h:bA w ro σ β M (.agg (ys.map .ad)) c):de w ro (.ei t true ys) (.iface t c):=by
 generalize aT:ys.map aC.ad=zs at h
 cases h with
 |agg _ arr ab ae=>
  subst aT;refine .ei t true ys _ (fun i=>arr.getD i undef) ⟨arr,rfl,by rw[ab,List.length_map],fun i _=>rfl⟩ fun i x hx=>?_
  have:=ae i (.ad x) (by rw[List.getElem?_map,hx];rfl)
  cases this with
  |ad _ _ q=>exact q
theorem Ef{w:World}{ro:Nat→Prop}{σ:Heap}{β:Nat→Value}{M:Nat}{t:TypeId}{ys:List aU}{c:Value}(h:de w ro (.ei t true ys) (.iface t c)):bA w ro σ β M (.agg (ys.map .ad)) c:=by
 cases h with
 |ei _ _ _ _ p ab ae=>
  obtain⟨arr,rfl,aw,aM⟩:=ab;refine .agg _ arr (by rw[aw,List.length_map]) fun j x aj=>?_
  rw[List.getElem?_map]at aj
  obtain⟨y,aA,rfl⟩:=Option.map_eq_some_iff.1 aj
  have av:=(List.getElem?_eq_some_iff.1 aA).1
  rw[aM j av];exact .ad _ _ (ae j y aA)
theorem zeW{t:TypeId}{x:Operand}{r:ee}(au:o.op= .makeInterface t x)(h:MY P t (S.a1 N x)=some r):jC P G N B M o S r:=fun e hf hx hn=>by
 unfold MY at h
 split at h
 ·cases h
 rename_i hi
 obtain⟨d,hd,eE⟩:=AS hi
 have cy: ∀(v:Value) (w:World),(Instr.makeInterface t v).run P w= .ok (.iface t v) w:=fun v w=>by
  unfold Instr.makeInterface
  cases d<;>first|exact absurd rfl (eE _)|simp[run_underlying hd,Result.andThen]
 split at h
 ·rename_i l az
  split at h
  ·rename_i rs hl
   cases h;intro E a w β ro ah
   have c5:=ah.eval x
   rw[bR hf,az]at c5;simp only[af.den,GL hl]at c5;rw[show((gO e rs l).map fun d=>aC.ad d.ad)=((gO e rs l).map aL.ad).map .ad by rw[List.map_map];rfl]at c5
   exact⟨_,by simp[execOp,au,cy],.ad _ _ (QS c5)⟩
  ·cases h
 ·rename_i GM
  split at h
  ·rename_i rt w8
   cases h;intro E a w β ro ah
   have c5:=ah.eval x
   rw[bR hf,gP w8]at c5;refine⟨_,by simp[execOp,au,cy];rfl,?_⟩
   cases c5 with
   |ad _ _ q=>
    refine .ad _ _ (.ei t false _ _ (fun _=>a.eval x) ⟨rfl,rfl⟩ fun i y aA=>?_)
    cases i with
    |zero=>
     simp only[gO,List.map_cons,List.map_nil,List.getElem?_cons_zero,Option.some.injEq]at aA
     subst aA;exact q
    |succ i=>simp[gO]at aA
  ·cases h
theorem zeX{e:Env}{x:Operand}{u:TypeId}{cA:Bool}{rs:List aX}{l:List af}{y:af}(hf: ∀c∈S.g,c.ok e)(az:S.a1 N x= .ei u cA rs l)(aA:tq cA l=some y)(hl:qU l=some rs){E:Entry}{a:Act}{w:World}{β:Nat→Value}{ro:Nat→Prop}(ah:dn E G (S.den G N B e) a w β ro):
 ∃v,a.eval x= .iface u v∧bA w ro (S.den G N B e).heap β (S.den G N B e).next (y.den G e) v:=by
 have c5:=ah.eval x
 rw[bR hf,az]at c5
 simp only[af.den]at c5
 generalize hc:a.eval x=p5 at c5
 cases c5 with
 |ad _ _ q=>
  cases q with
  |ei _ _ _ v p ab ae=>
   refine⟨v,rfl,?_⟩
   unfold tq at aA
   split at aA
   ·cases aA
    have:=Ef (σ:=(S.den G N B e).heap) (β:=β) (M:=(S.den G N B e).next) (.ei u _ _ v p ab ae)
    rw[List.map_map]at this;simp only[af.den,GL hl];exact this
   ·rename_i a7
    cases aA;simp only[qU]at hl
    split at hl
    ·rename_i zeY pB sK pr
     cases pr
     cases hl;rw[gP sK];obtain⟨_,rfl⟩:=ab;exact .ad _ _ (ae 0 _ rfl)
    ·cases hl
   ·cases aA
theorem zeZ{k:Nat}{cA:Bool}{l:List af}{y:af}(h:af.cW k l=true)(aA:tq cA l=some y):y.lt k=true:=by
 unfold tq at aA
 split at aA
 ·cases aA;exact h
 ·cases aA;simp only[af.cW,Bool.and_true]at h;exact h
 ·cases aA
theorem ze0{x:Operand}{nu t:TypeId}{c:Bool}{r:ee}(au:o.op= .typeAssert x nu t c)(h:M0 P t (S.a1 N x) c=some r):jC P G N B M o S r:=fun e hf hx hn=>by
 unfold M0 at h
 split at h
 rotate_left
 ·cases h
 rename_i u cA rs l az hi
 obtain⟨d,hd,eE⟩:=AS hi
 have aE: ∀{E:Entry} {a:Act} {w:World} {β:Nat→Value} {ro:Nat→Prop},dn E G (S.den G N B e) a w β ro→∃v,a.eval x= .iface u v∧de w ro (.ei u cA ((gO e rs l).map aL.ad)) (.iface u v):=fun {E a w β ro} ah=>by
  have c5:=ah.eval x
  rw[bR hf,az]at c5;simp only[af.den]at c5;generalize hc:a.eval x=p5 at c5
  cases c5 with
  |ad _ _ q=>
   cases q with
   |ei _ _ _ v p ab ae=>exact⟨v,rfl,.ei _ _ _ v p ab ae⟩
 have p7: ∀{y:af} {w:World} {β:Nat→Value} {ro:Nat→Prop} {v:Value},tq cA l=some y→qU l=some rs→de w ro (.ei u cA ((gO e rs l).map aL.ad)) (.iface u v)→bA w ro (S.den G N B e).heap β (S.den G N B e).next (y.den G e) v:=fun {y w β ro v} aA hl q=>by
  unfold tq at aA
  split at aA
  ·cases aA
   have:=Ef (σ:=(S.den G N B e).heap) (β:=β) (M:=(S.den G N B e).next) q
   rw[List.map_map]at this;simp only[af.den,GL hl];exact this
  ·rename_i a7
   cases aA;simp only[qU]at hl
   split at hl
   ·rename_i zeY pB ab ae
    cases ae;cases hl;rw[gP ab]
    cases q with
    |ei _ _ _ _ p g1 g2=>
     obtain⟨_,rfl⟩:=g1;exact .ad _ _ (g2 0 _ rfl)
   ·cases hl
  ·cases aA
 have AT: ∀(v:Value) (w:World),u=t→(Instr.typeAssert (.iface u v) nu t c).run P w= .ok (match c with|true=>.tuple #[v,.bool true]|false=>v) w:=fun v w p6=>by
  unfold Instr.typeAssert
  cases d<;>first|exact absurd rfl (eE _)|(cases c<;>simp[run_underlying hd,Result.andThen,p6])
 split at h
 ·rename_i ag _
  have p6:=Nat.eq_of_beq_eq_true ag
  split at h
  ·rename_i y aA hl
   cases h;intro E a w β ro ah;obtain⟨v,c5,q⟩:=aE ah;refine⟨.tuple #[v,.bool true],by simp[execOp,au,c5,AT v w p6],.tuple _ _ rfl fun j z aj=>?_⟩
   match j,aj with
   |0,aj=>simp[af.den,af.b0]at aj;subst aj;exact p7 aA (of_decide_eq_true hl) q
   |1,aj=>simp[af.den,af.b0]at aj;subst aj;exact .e3 rfl
   |j+2,aj=>simp[af.den,af.b0]at aj
  ·cases h
 ·rename_i ag _
  have p6:=Nat.eq_of_beq_eq_true ag
  split at h
  ·rename_i y aA hl
   cases h;intro E a w β ro ah;obtain⟨v,c5,q⟩:=aE ah;exact⟨v,by simp[execOp,au,c5,AT v w p6],p7 aA (of_decide_eq_true hl) q⟩
  ·cases h
 ·rename_i ag _
  have p6: ¬u=t:=fun e=>by subst e;rw[show Nat.beq u u=true from Nat.beq_refl u]at ag;cases ag
  split at h
  ·rename_i z aT
   split at h
   ·rename_i kT
    cases h;intro E a w β ro ah;obtain⟨v,c5,q⟩:=aE ah
    have uk:(zeroValue t).run P w= .ok z w:=by
     cases hi:P.info? t with
     |none=>rw[hi]at aT;cases aT
     |some i=>
      rw[hi]at aT
      have lP:i.zero=some z:=aT
      simp[zeroValue,typeInfo,hi,lP]
    have cy:(Instr.typeAssert (.iface u v) nu t true).run P w= .ok (.tuple #[z,.bool false]) w:=by
     unfold Instr.typeAssert
     cases d<;>first|exact absurd rfl (eE _)|simp[run_underlying hd,Result.andThen,p6,uk]
    have ze1:(MZ z).den G e=mf z:=by
     clear cy uk kT aT
     cases z with
     |agg a=>
      simp only[MZ,mf,af.den,fE,List.map_map];rfl
     |_=>rfl
    refine⟨.tuple #[z,.bool false],by simp[execOp,au,c5,cy],.tuple _ _ rfl fun j y aj=>?_⟩
    match j,aj with
    |0,aj=>simp[af.den,af.b0]at aj;subst aj;rw[ze1];exact AU kT
    |1,aj=>simp[af.den,af.b0]at aj;subst aj;exact .e3 rfl
    |j+2,aj=>simp[af.den,af.b0]at aj
   ·cases h
  ·cases h
 ·cases h
theorem w9{r:ee}(h:r3 P N S o=some r):jC P G N B M o S r:=by
 unfold r3 at h
 split at h
 ·rename_i x au
  cases h;exact .nil fun e hf=>by have:=Sp (P:=P) (G:=G) (s:=S.den G N B e) x au;rw[bR hf]at this;exact this
 ·rename_i x au
  cases h;exact .nil fun e hf=>by have:=Sq (P:=P) (G:=G) (s:=S.den G N B e) x au;rw[bR hf]at this;exact this
 ·exact zez (by assumption) h
 ·rename_i x i au
  split at h
  ·rename_i l av
   split at h
   ·rename_i v az
    cases h;exact .nil fun e hf=>SR x i au (by rw[bR hf,av];rfl) (GJ az)
   ·cases h
  ·cases h
 ·rename_i x au
  split at h
  ·rename_i ar
   cases h
   exact .nil fun e hf=>by
    have:=Sv (P:=P) (G:=G) (s:=S.den G N B e) x au (by rw[bR hf];exact w4 ar)
    rw[bR hf]at this;exact this
  ·cases h
 ·rename_i t x f au
  split at h
  ·rename_i k an ar
   split at h
   ·rename_i p ao
    cases h
    exact .nil fun e hf=>by
     have:=Su (P:=P) (G:=G) (s:=S.den G N B e) t x f au an (by rw[bR hf];exact w4 ar)
     rw[bR hf,CO ao]at this;exact this
   ·cases h
  ·cases h
 ·exact zeF (by assumption) h
 ·exact zeK (by assumption) h
 ·exact zeE (by assumption) h
 ·exact zeA (by assumption) h
 ·split at h
  ·rename_i aG
   cases h;exact zer (by assumption) aG
  ·exact zeQ (by assumption) h
 ·exact zeI (by assumption) h
 ·split at h
  ·rename_i aG
   cases h;exact zeH (by assumption) aG
  ·split at h
   ·rename_i aG
    cases h;exact zeR (by assumption) aG
   ·exact zeT (by assumption) h
 ·exact zeJ (by assumption) h
 ·rename_i f p q au
  cases h
  exact .nil fun e hf=>by
   have:=QZ (P:=P) (G:=G) (s:=S.den G N B e) au
   simp only[af.den];rw[fE,fE,List.map_map,List.map_map]
   have ab: ∀l:List Operand,l.map (aP G (S.den G N B e))=l.map (af.den G e∘S.a1 N):=fun l=>List.map_congr_left fun x _=>bR hf x
   rw[ab,ab]at this;exact this
 ·exact zeW (by assumption) h
 ·exact ze0 (by assumption) h
 ·exact zew (by assumption) h
 ·split at h
  ·rename_i aG
   cases h;exact Uk (by assumption) aG
  ·exact zeS (by assumption) h
 ·exact Uk (by assumption) h
 ·rename_i c au
  split at h
  ·rename_i x t hc hx aJ
   obtain⟨callee,args,ts⟩:=c;simp only at hc hx aJ;rw[hc,Tr hx,Tr aJ]at au;exact zeG au h
  ·rename_i b x y hc hx
   obtain⟨callee,args,ts⟩:=c;simp only at hc hx;rw[hc,Cj hx]at au;exact zeL au h
  ·rename_i f hc
   obtain⟨callee,args,ts⟩:=c;simp only at hc;rw[hc]at au;exact zeD au rfl h
  ·cases h
 ·cases h
end
end Go.aK
