/- TD, part H: operations that give values, computed. Conditions: none. -/
import Derived.Test.YtmkpmgfieagphaaGreatDoorHTDg
import Derived.Laws.Externs
import Derived.Laws.LoneSync
import Derived.LaidEqlPtr
namespace Go.aN
open Go
structure dy where
 xs:List bT
 ns:List fi
 v:ab
def ab.rt:ab→Option aW
 | .aV r _=>match r.one with
  |true=>some r
  |false=>none
 | .fd _ _ _ r=>match r.one with
  |true=>some r
  |false=>none
 | .cs (.int k _)=>some (.int k)
 | .cs (.bool _)=>some .bool
 | .cs (.string _)=>some .str
 |_=>none
theorem Bn(r:aW):hV r r=true:=decide_eq_true rfl
theorem MI{x:ab}{r:aW}(h:x.rt=some r):x.eE r=true∧x.isNil=false:=by
 unfold ab.rt at h
 split at h
 ·split at h
  ·rename_i aa;cases h;exact⟨by simp[ab.eE,Bn,aa],rfl⟩
  ·cases h
 ·split at h
  ·rename_i aa;cases h;exact⟨by simp[ab.eE,Bn,aa],rfl⟩
  ·cases h
 ·cases h;exact⟨by simp[ab.eE,Bn],rfl⟩
 ·cases h;exact⟨by simp[ab.eE,Bn],rfl⟩
 ·cases h;exact⟨by simp[ab.eE,Bn],rfl⟩
 ·cases h
theorem ga{G:bc}{e:Env}{x:ab}{r:aW}(h:x.rt=some r):x.den G e= .av (fL r (x.aA e r)):=EN (MI h).1 (MI h).2
theorem jB{G:bc}{e:Env}{x:ab}{k:IntKind}(h:x.rt=some (.int k)):x.den G e= .av (.v (.int k (x.aA e (.int k)))):=ga h
theorem lW{e:Env}{x:ab}{k:IntKind}(h:x.rt=some (.int k)):cu (x.dyn e)=x.aA e (.int k):=by
 obtain⟨aa,ae⟩:=MI h
 unfold ab.aA
 rw[T5 ae]
 cases x with
 |aV q i=>
  simp only[ab.eE,Bool.and_eq_true]at aa
  cases hy aa.1
  simp only[ab.dyn,cH,cu]
 |fd c i j q=>
  simp only[ab.eE,Bool.and_eq_true]at aa
  cases hy aa.1
  simp only[ab.dyn,cH,cu]
 |cs v=>
  cases v with
  |int bs n=>
   cases hy aa
   simp only[ab.dyn,cH,cu]
  |bool b=>cases hy aa
  |string s=>cases hy aa
  |slice a n c=>unfold ab.eE at aa;split at aa<;>first|cases aa|simp_all
  |_=>cases aa
 |_=>cases aa
def isLen(f:gL)(x:ab)(n:Nat):List cc→Bool
 |[]=>false
 | .d1 i g y::r=>match Nat.beq i n&&(decide (g=f)&&Bi y x)with
  |true=>true
  |false=>isLen f x n r
 |_::r=>isLen f x n r
theorem xU{f:gL}{x:ab}{n:Nat}{e:Env}: ∀{l:List cc},isLen f x n l=true→(∀c∈l,c.ok e)→Env.at e n=⟨f.c,f.den (x.aA e f.a)⟩
 | .d1 i g y::r,h,hc=>by
  simp only[isLen]at h
  split at h
  ·rename_i ad
   simp only[Bool.and_eq_true,decide_eq_true_eq]at ad
   have:=hc (.d1 i g y) (by simp)
   simp only[cc.ok]at this;rw[←Nat.eq_of_beq_eq_true ad.1,this,ad.2.1,MC ad.2.2]
  ·exact xU h fun c hm=>hc c (by simp[hm])
 | .d2 _ _ _ _::r,h,hc=>xU (l:=r) h fun c hm=>hc c (by simp[hm])
 | .rg _ _::r,h,hc=>xU (l:=r) h fun c hm=>hc c (by simp[hm])
 | .eb _ _::r,h,hc=>xU (l:=r) h fun c hm=>hc c (by simp[hm])
def Un(f:gL)(x:ab)(i:Nat)(all:List cc):cc→Bool
 | .rg j (.aV (.int .i64) n)=>Nat.beq i j&&isLen f x n all
 |_=>false
def E3(f:gL)(x:ab)(i:Nat)(all:List cc):List cc→Bool
 |[]=>false
 |c::r=>match Un f x i all c with
  |true=>true
  |false=>E3 f x i all r
theorem MJ{f:gL}{x:ab}{i:Nat}{e:Env}{all:List cc}{L:Int}(fY: ∀n,isLen f x n all=true→Env.at e n=⟨.int .i64,L⟩): ∀{l:List cc},E3 f x i all l=true→(∀c∈l,c.ok e)→0≤cu (Env.at e i)∧cu (Env.at e i)<L
 |c::r,h,hc=>by
  simp only[E3]at h
  split at h
  ·rename_i ad
   unfold Un at ad
   split at ad
   ·rename_i j n
    simp only[Bool.and_eq_true]at ad
    have aa:=hc (.rg j (.aV (.int .i64) n)) (by simp)
    simp only[cc.ok,ab.dyn,fY n ad.2,cH,cu]at aa;rw[←Nat.eq_of_beq_eq_true ad.1]at aa;exact aa
   ·cases ad
  ·exact MJ fY h fun c hm=>hc c (by simp[hm])
def Bo(len j:Nat):List cc→Bool
 | .rg i (.cs (.int _ (.ofNat m)))::r=>(Nat.beq i j&&Nat.ble m len)||Bo len j r
 |_::r=>Bo len j r
 |[]=>false
theorem MK{len j:Nat}{e:Env}: ∀{l:List cc},Bo len j l=true→(∀c∈l,c.ok e)→0≤cu (Env.at e j)∧cu (Env.at e j)<(len:Int)
 |[],h,_=>by cases h
 |c::r,h,hc=>by
  unfold Bo at h
  split at h
  ·rename_i i k m _ heq
   cases heq;simp only[Bool.or_eq_true,Bool.and_eq_true]at h
   rcases h with⟨aa,ae⟩|h
   ·have au:0≤cu (Env.at e i)∧cu (Env.at e i)<(m:Int):=hc (.rg i (.cs (.int k (.ofNat m)))) (by simp)
    rw[←Nat.eq_of_beq_eq_true aa]
    have:=Nat.le_of_ble_eq_true ae
    omega
   ·exact MK h fun c hm=>hc c (by simp[hm])
  ·rename_i eY _ heq
   cases heq;exact MK h fun c hm=>hc c (by simp[hm])
  ·rename_i heq;cases heq
def xV(g:List cc)(len:Nat)(i:ab):List fi:=
 match i with
 | .aV (.int _) j=>match Bo len j g with
  |true=>[]
  |false=>[.nth len i]
 |_=>[.nth len i]
theorem E4{M:List aS}{g:List cc}{len:Nat}{i:ab}{e:Env}(ah: ∀c∈g,c.ok e)(h: ∀n∈xV g len i,n.ok M e):0≤cu (i.dyn e)∧cu (i.dyn e)<(len:Int):=by
 unfold xV at h
 split at h
 ·rename_i k j
  split at h
  ·rename_i ad
   have:=MK ad ah
   simp only[ab.dyn]
   by_cases ag:(Env.at e j).r= .int k
   ·rw[EB ag];exact this
   ·have aJ:cu ⟨.int k,(Env.at e j).aG (.int k)⟩=0:=by
     unfold aF.aG
     split
     ·rename_i a6 _;exact absurd a6 ag
     ·rfl
    rw[aJ];omega
  ·exact h _ (List.mem_singleton.2 rfl)
 ·exact h _ (List.mem_singleton.2 rfl)
def py(g:List cc)(f:gL)(q:cI)(x i:ab):List fi:=
 match i with
 | .aV (.int _) j=>match E3 f x j g g with
  |true=>[]
  |false=>[.f2 0 q x i]
 |_=>[.f2 0 q x i]
theorem xW{M:List aS}{g:List cc}{c:bR}{k:IntKind}{x i:ab}{e:Env}(ah: ∀c∈g,c.ok e)(hi:i.rt=some (.int k))(h: ∀n∈py g (.iX c) (.kj c k) x i,n.ok M e):
 0≤i.aA e (.int k)∧i.aA e (.int k)<(List.length (x.aA e (.li c)):Int):=by
 unfold py at h
 split at h
 ·rename_i bs j
  split at h
  ·rename_i ad
   have:=MJ (f:=.iX c) (fun n hn=>xU hn ah) ad ah
   rw[←lW hi];simp only[ab.dyn]
   have aj:bs=k:=by simp only[ab.rt,aW.one]at hi;cases hi;rfl
   subst aj
   by_cases ag:(Env.at e j).r= .int bs
   ·rw[EB ag];exact this
   ·have aJ:cu ⟨.int bs,(Env.at e j).aG (.int bs)⟩=0:=by
     unfold aF.aG
     split
     ·rename_i a6 _;exact absurd a6 ag
     ·rfl
    rw[aJ];exact⟨Int.le_refl _,Int.lt_of_le_of_lt this.1 this.2⟩
  ·exact h _ (List.mem_singleton.2 rfl)
 ·exact h _ (List.mem_singleton.2 rfl)
theorem zg5{M:List aS}{g:List cc}{k:IntKind}{x i:ab}{e:Env}(ah: ∀c∈g,c.ok e)(hi:i.rt=some (.int k))(h: ∀n∈py g .oe (.rQ k) x i,n.ok M e):
 0≤i.aA e (.int k)∧i.aA e (.int k)<(ByteArray.size (x.aA e .str):Int):=by
 unfold py at h
 split at h
 ·rename_i bs j
  split at h
  ·rename_i ad
   have:=MJ (f:=.oe) (fun n hn=>xU hn ah) ad ah
   rw[←lW hi];simp only[ab.dyn]
   have aj:bs=k:=by simp only[ab.rt,aW.one]at hi;cases hi;rfl
   subst aj
   by_cases ag:(Env.at e j).r= .int bs
   ·rw[EB ag];exact this
   ·have aJ:cu ⟨.int bs,(Env.at e j).aG (.int bs)⟩=0:=by
     unfold aF.aG
     split
     ·rename_i a6 _;exact absurd a6 ag
     ·rfl
    rw[aJ];exact⟨Int.le_refl _,Int.lt_of_le_of_lt this.1 this.2⟩
  ·exact h _ (List.mem_singleton.2 rfl)
 ·exact h _ (List.mem_singleton.2 rfl)
end Go.aN
namespace Go.aN
open Go
def kP(h:List (Nat × bO)):ab→Bool
 | .aV _ _=>true
 | .fd _ _ _ _=>true
 | .cs _=>true
 | .ip _ _ _=>true
 | .fn _ _ _=>true
 | .ej id _=>match dm h id with
  |some (.dv _ _)=>true
  |_=>false
 | .gY id _ _ _=>match dm h id with
  |some (.dv _ _)=>true
  |_=>false
 | .fp _ (some id) _=>match dm h id with
  |some (.dv _ _)=>true
  |_=>false
 | .aP id=>match dm h id with
  |some (.rw _ _ _)=>true
  |_=>false
 | .gR id _ _=>match dm h id with
  |some (.rw _ _ _)=>true
  |_=>false
 |_=>false
def vt(S:ar):ab→Option (List ab)
 | .ej id off=>match dm S.h id with
  |some (.dv _ l)=>some (l.drop off)
  |_=>none
 | .ip c i k=>some ((iW c i 0 (eV c)).drop k)
 |_=>none
def qc(P:Program)(t:TypeId)(l:List ab):Option ab:=
 match mr P t with
 |some n=>match Nat.ble n l.length&&Nat.ble 1 n with
  |true=>some (.cr (l.take n))
  |false=>none
 |none=>match scalar P t,l with
  |true,y::_=>some y
  |_,_=>none
def tm(S:ar):ab→Bool
 | .ej id _=>match dm S.h id with
  |some (.dv _ _)=>true
  |_=>false
 | .gY id _ _ _=>match dm S.h id with
  |some (.dv _ _)=>true
  |_=>false
 | .ip _ _ _=>true
 | .gR id _ _=>match dm S.h id with
  |some (.rw _ _ _)=>true
  |_=>false
 |_=>false
def xX(k:Nat):ab→Option ab
 | .ej id off=>some (.ej id (off+k))
 | .ip c i j=>some (.ip c i (j+k))
 | .gR id x off=>some (.gR id x (off+k))
 | .gY id off x n=>some (.gY id (off+k) x n)
 |_=>none
def rY(place:Nat→Option (Nat × Nat)):List ab→List (Nat × ab)→Option (List ab)
 |l,[]=>some l
 |l,(i,v)::rest=>match place i with
  |some (off,size)=>match Nat.beq v.cells.length size&&Nat.ble (off+size) l.length with
   |true=>rY place (ey l off v.cells) rest
   |false=>none
  |none=>none
section
variable {P:Program} {G:bc} {o:Oper} {N B:Nat} {e:Env} {S:ar} {M:List aS}
theorem Uo{h:List (Nat × bO)}{x:ab}(hx:kP h x=true):eJ (cF G e h) (x.den G e)=true∧c1 (x.den G e)=[x.den G e]:=by
 cases x with
 |ej id off=>
  simp only[kP]at hx
  split at hx
  ·rename_i t l ah
   simp[ab.den,eJ,er,ah,bO.den,c1]
  ·cases hx
 |gY id off x n=>
  simp only[kP]at hx
  split at hx
  ·rename_i t l ah
   simp[ab.den,eJ,er,ah,bO.den,c1]
  ·cases hx
 |aP id=>
  simp only[kP]at hx
  split at hx
  ·rename_i t c y ah
   simp[ab.den,eJ,er,ah,bO.den,c1]
  ·cases hx
 |gR id x off=>
  simp only[kP]at hx
  split at hx
  ·rename_i t c y ah
   simp[ab.den,eJ,er,ah,bO.den,c1]
  ·cases hx
 |cr l=>cases hx
 |tp l=>cases hx
 |ha id=>cases hx
 |fN g b x=>cases hx
 |lU g off=>cases hx
 |top=>cases hx
 |cM k n=>cases hx
 |fp g id off=>
  cases id with
  |none=>cases hx
  |some id=>
   simp only[kP]at hx
   split at hx
   ·rename_i t l ah
    simp only[ab.den]
    cases g.aA e .bool<;>simp[eJ,er,ah,bO.den,c1]
   ·cases hx
 |_=>exact⟨rfl,rfl⟩
theorem xY{h:List (Nat × bO)}: ∀{l:List ab},l.all (kP h)=true→(ab.bX G e l).all (eJ (cF G e h))=true
 |[],_=>rfl
 |x::r,hx=>by
  simp only[List.all_cons,Bool.and_eq_true]at hx;simp only[ab.bX,List.all_cons,(Uo hx.1).1,xY hx.2,Bool.and_self]
theorem vu{h:List (Nat × bO)}{x:ab}(hx:x.cells.all (kP h)=true):c1 (x.den G e)=ab.bX G e x.cells:=by
 cases x with
 |cr l=>rfl
 |_=>
  simp only[ab.cells,List.all_cons,List.all_nil,Bool.and_true]at hx;simp only[(Uo hx).2,ab.cells,ab.bX]
theorem ML(k:Nat)(l:List ab):ab.bX G e (l.drop k)=(ab.bX G e l).drop k:=by rw[e9,e9,List.map_drop]
theorem ml(l:List ab):(ab.bX G e l).length=l.length:=by rw[e9,List.length_map]
theorem Bp{p:ab}{l:List ab}(h:vt S p=some l):fu (S.den G N B e).heap (p.den G e)=some (ab.bX G e l):=by
 unfold vt at h
 split at h
 ·split at h
  ·rename_i id off t h7 ah
   cases h;simp only[ar.den,ab.den,fu,er,ah,Option.map_some,bO.den];rw[e9,e9,List.map_drop]
  ·cases h
 ·rename_i c i k
  cases h;simp only[ab.den,fu,Option.some.injEq];rw[ML,tc,List.map_drop]
 ·cases h
theorem IE{t:TypeId}{x:Operand}{l:List ab}{v:ab}(ao:o.op= .load t x)(hc:fu (S.den G N B e).heap (aL G (S.den G N B e) x)=some (ab.bX G e l))(ax:qc P t l=some v):cY P G o (S.den G N B e) (v.den G e):=by
 unfold qc at ax
 split at ax
 ·rename_i n hn
  split at ax
  ·rename_i ad
   simp only[Bool.and_eq_true]at ad;cases ax
   have:=Sm t x ao hn hc (by rw[ml];exact Nat.le_of_ble_eq_true ad.1) (Nat.le_of_ble_eq_true ad.2)
   simp only[ab.den];rw[e9]at this;rw[e9,List.map_take];exact this
  ·cases ax
 ·split at ax
  ·rename_i y r ai
   cases ax;exact Lo t x ao ai hc
  ·cases ax
theorem vv{p:ab}(h:tm S p=true):jR (S.den G N B e).heap (p.den G e)=true:=by
 unfold tm at h
 split at h
 ·split at h
  ·rename_i ah;simp[ar.den,ab.den,jR,er,ah,bO.den]
  ·cases h
 ·split at h
  ·rename_i ah;simp[ar.den,ab.den,jR,er,ah,bO.den]
  ·cases h
 ·rfl
 ·split at h
  ·rename_i ah;simp[ar.den,ab.den,jR,er,ah,bO.den]
  ·cases h
 ·cases h
theorem Bq{k:Nat}{p q:ab}(h:xX k p=some q):rr k (p.den G e)=q.den G e:=by
 unfold xX at h
 split at h
 ·cases h;simp[ab.den,rr]
 ·cases h;simp[ab.den,rr,List.drop_drop,Nat.add_comm]
 ·cases h;simp[ab.den,rr]
 ·cases h;simp only[ab.den,rr,aD.ptr.injEq,true_and];omega
 ·cases h
theorem E5{α β:Type}(f:α→β)(l:List α)(off:Nat)(vs:List α):(ey l off vs).map f=ey (l.map f) off (vs.map f):=by
 simp[ey,List.map_take,List.map_drop]
theorem E6{pl:Nat→Option (Nat × Nat)}{h:List (Nat × bO)}: ∀{ps:List (Nat × ab)} {l ds:List ab},(ps.all fun p=>p.2.cells.all (kP h))=true→rY pl l ps=some ds→kf pl (ab.bX G e l) (ps.map fun p=>(p.1,p.2.den G e))=some (ab.bX G e ds)
 |[],l,ds,_,hf=>by
  simp only[rY,Option.some.injEq]at hf;subst hf;rfl
 |(i,v)::rest,l,ds,aY,hf=>by
  simp only[List.all_cons,Bool.and_eq_true]at aY;simp only[rY]at hf;simp only[List.map_cons,kf]
  split at hf
  ·rename_i off size ak
   split at hf
   ·rename_i ad
    simp only[Bool.and_eq_true]at ad
    have aa:=Nat.eq_of_beq_eq_true ad.1
    have ae:=Nat.le_of_ble_eq_true ad.2
    have ax:=vu (G:=G) (e:=e) aY.1
    simp only[ak,ax,ml];rw[if_pos ⟨aa,ae⟩]
    have:=E6 aY.2 hf
    rw[e9]at this⊢;rw[E5]at this;rw[e9];exact this
   ·cases hf
  ·cases hf
def iv(P:Program)(G:bc)(N B:Nat)(M:List aS)(o:Oper)(S:ar)(r:dy):Prop:=
 ∀e,(∀c∈S.g,c.ok e)→(∀(j:Nat) (x:bT),r.xs[j]? =some x→Env.at e (S.k+j)=x.den M e)→(∀n∈r.ns,n.ok M e)→cY P G o (S.den G N B e) (r.v.den G e)
end
def MM(op:BinOp)(k bs:IntKind)(x y:ab):List fi:=
 match op with
 | .add=>[]
 | .sub=>[]
 | .mul=>[]
 | .and=>[]
 | .or=>[]
 | .xor=>[]
 | .quo=>match y with
  | .cs (.int _ n)=>match decide (n=0)with
   |false=>[]
   |true=>[.f2 0 (.jy op k bs) x y]
  |_=>[.f2 0 (.jy op k bs) x y]
 | .rem=>match y with
  | .cs (.int _ n)=>match decide (n=0)with
   |false=>[]
   |true=>[.f2 0 (.jy op k bs) x y]
  |_=>[.f2 0 (.jy op k bs) x y]
 |op=>match y with
  | .cs (.int _ n)=>match decide (0≤n)with
   |true=>[]
   |false=>[.f2 0 (.jy op k bs) x y]
  |_=>[.f2 0 (.jy op k bs) x y]
def MN(P:Program)(S:ar)(op:BinOp)(cE:TypeId)(x y:ab):Option dy:=
 match x.rt,y.rt with
 |some (.int k),some (.int bs)=>match MG op k bs with
  |true=>some ⟨[.f2 (.jy op k bs) x y],MM op k bs x y,.aV (.int k) S.k⟩
  |false=>match xT op&&decide (bs=k)with
   |true=>some ⟨[.f2 (.po op k) x y],[],.aV .bool S.k⟩
   |false=>none
 |some .str,some .str=>match xT op with
  |true=>some ⟨[.f2 (.mH op) x y],[],.aV .bool S.k⟩
  |false=>match op with
   | .add=>some ⟨[.f2 .td x y],[.f2 0 .td x y],.aV .str S.k⟩
   |_=>none
 |some .bool,some .bool=>match op,Es P cE with
  | .eql,true=>some ⟨[.f2 (.mn false) x y],[],.aV .bool S.k⟩
  | .neq,true=>some ⟨[.f2 (.mn true) x y],[],.aV .bool S.k⟩
  |_,_=>none
 |_,_=>match x,y with
  | .cr l,.cr m=>match na P cE with
   |some fs=>match px P 64 0 fs with
    |some rs=>match hz rs l&&hz rs m,op with
     |true,.eql=>some ⟨[.Bf false rs l m],[],.aV .bool S.k⟩
     |true,.neq=>some ⟨[.Bf true rs l m],[],.aV .bool S.k⟩
     |_,_=>none
    |none=>none
   |none=>none
  |p,.cs (.pointer none)=>match P.underlying cE,tm S p,op with
   |some (.pointer _),true,.eql=>some ⟨[],[],.cs (.bool false)⟩
   |some (.pointer _),true,.neq=>some ⟨[],[],.cs (.bool true)⟩
   |_,_,_=>none
  |_,_=>none
section
variable {P:Program} {G:bc} {o:Oper} {N B:Nat} {e:Env} {S:ar} {M:List aS}
theorem zg6{e:Env}{f:cI}{x y:ab}{k:Nat}(h:Env.at e k=(bT.f2 f x y).den M e):(ab.aV f.c k).den G e= .av (fL f.c (f.den (x.aA e f.a) (y.aA e f.b))):=by
 simp only[ab.den,h,bT.den,cH]
theorem zg7{e:Env}{f:gL}{x:ab}{k:Nat}(h:Env.at e k=(bT.f1 f x).den M e):(ab.aV f.c k).den G e= .av (fL f.c (f.den (x.aA e f.a))):=by
 simp only[ab.den,h,bT.den,cH]
theorem qD{s:aQ}{f:cI}{x y:ab}{k:Nat}(h:Env.at e k=(bT.f2 f x y).den M e)(ai:cY P G o s (.av (fL f.c (f.den (x.aA e f.a) (y.aA e f.b))))):cY P G o s ((ab.aV f.c k).den G e):=by
 rw[zg6 h];exact ai
theorem qE{s:aQ}{f:gL}{x:ab}{k:Nat}(h:Env.at e k=(bT.f1 f x).den M e)(ai:cY P G o s (.av (fL f.c (f.den (x.aA e f.a))))):cY P G o s ((ab.aV f.c k).den G e):=by
 rw[zg7 h];exact ai
theorem zg8{op:BinOp}{k bs:IntKind}{x y:ab}(ay:y.rt=some (.int bs))(h: ∀n∈MM op k bs x y,n.ok M e):EP op (y.aA e (.int bs)):=by
 have hc: ∀n gM,y= .cs (.int gM n)→y.aA e (.int bs)=n:=fun n gM a6=>by
  subst a6;simp only[ab.rt,Option.some.injEq,aW.int.injEq]at ay;subst ay;simp only[ab.aA,ab.fw,ab.dyn,cH]
 have ai: ∀E7,((∃q,E7=q)→fi.ok M e (.f2 0 (.jy E7 k bs) x y)→EP E7 (y.aA e (.int bs))):=fun E7 _ h=>h
 cases op<;>try exact trivial
 all_goals
  simp only[MM]at h
  split at h
  ·rename_i gM n
   have hn:=hc n gM rfl
   split at h
   ·rename_i hd
    rw[hn];simp only[decide_eq_false_iff_not,decide_eq_true_eq]at hd;exact hd
   ·exact h _ (List.mem_singleton.2 rfl)
  ·exact h _ (List.mem_singleton.2 rfl)
theorem zg9{op:BinOp}{cE ty:TypeId}{x y:Operand}{r:dy}(ao:o.op= .binOp op cE x y ty)(h:MN P S op cE (S.a7 N x) (S.a7 N y)=some r):iv P G N B M o S r:=fun e hf hx hn=>by
 unfold MN at h
 split at h
 ·rename_i k bs aa ae
  have fA:aL G (S.den G N B e) x=_:=(bP hf x).trans (jB aa)
  have mL:aL G (S.den G N B e) y=_:=(bP hf y).trans (jB ae)
  split at h
  ·rename_i aY
   cases h;exact qD (f:=.jy op k bs) (hx 0 _ rfl) (zgX ao fA mL aY (zg8 ae hn))
  ·split at h
   ·rename_i hc
    cases h;simp only[Bool.and_eq_true,decide_eq_true_eq]at hc
    have aj:=hc.2
    subst aj;exact qD (f:=.po op bs) (hx 0 _ rfl) (zgY ao fA mL hc.1)
   ·cases h
 ·rename_i aa ae
  have fA:aL G (S.den G N B e) x=_:=(bP hf x).trans (ga aa)
  have mL:aL G (S.den G N B e) y=_:=(bP hf y).trans (ga ae)
  split at h
  ·rename_i hc
   cases h;exact qD (f:=.mH op) (hx 0 _ rfl) (zgZ ao fA mL hc)
  ·split at h
   ·cases h
    exact qD (f:=.td) (hx 0 _ rfl) (zfT cE ty x y ao fA mL (hn _ (List.mem_singleton.2 rfl)))
   ·cases h
 ·rename_i aa ae
  have fA:aL G (S.den G N B e) x=_:=(bP hf x).trans (ga aa)
  have mL:aL G (S.den G N B e) y=_:=(bP hf y).trans (ga ae)
  split at h
  ·rename_i aH
   cases h;exact qD (f:=.mn false) (hx 0 _ rfl) (SG cE ty x y ao (Et aH) fA mL)
  ·rename_i aH
   cases h;exact qD (f:=.mn true) (hx 0 _ rfl) (SH cE ty x y ao (Et aH) fA mL)
  ·cases h
 ·split at h
  ·rename_i l m aq hm
   split at h
   ·rename_i fs xG
    split at h
    ·rename_i rs gi
     split at h
     ·rename_i ad
      cases h;simp only[Bool.and_eq_true]at ad
      have:=Um (G:=G) (n:=false) (B:=B) (e:=e) hf rfl ao xG gi aq hm ad.1 ad.2
      have aJ:Env.at e S.k=_:=hx 0 _ rfl
      simp only[ab.den,aJ,bT.den,cH,fL,kg];exact this
     ·rename_i ad
      cases h;simp only[Bool.and_eq_true]at ad
      have:=Um (G:=G) (n:=true) (B:=B) (e:=e) hf rfl ao xG gi aq hm ad.1 ad.2
      have aJ:Env.at e S.k=_:=hx 0 _ rfl
      simp only[ab.den,aJ,bT.den,cH,fL,kg];exact this
     ·cases h
    ·cases h
   ·cases h
  ·rename_i ak
   have key: ∀E a w β ro,dc E G (S.den G N B e) a w β ro→tm S (S.a7 N x)=true→∃c8,a.eval x= .pointer (some c8):=fun E a w β ro ag hi=>by
    obtain⟨c8,hc,_⟩:=Aw (vv (G:=G) (N:=N) (B:=B) (e:=e) hi) (by have:=ag.eval x;rw[bP hf]at this;exact this)
    exact⟨c8,hc⟩
   have qF: ∀E a w β ro,dc E G (S.den G N B e) a w β ro→a.eval y= .pointer none:=fun E a w β ro ag=>by
    refine ag.en ?_
    rw[bP hf,ak];rfl
   split at h
   ·rename_i t hu hi
    cases h
    exact fun E a w β ro ag=>by
     obtain⟨c8,hc⟩:=key E a w β ro ag hi;exact⟨.bool false,by simp[execOp,ao,hc,qF E a w β ro ag,eqGuard_at_pointer,run_eql_pointer_nil w cE (some c8) (T2 hu)],.fI rfl⟩
   ·rename_i t hu hi
    cases h
    exact fun E a w β ro ag=>by
     obtain⟨c8,hc⟩:=key E a w β ro ag hi;exact⟨.bool true,by simp[execOp,ao,hc,qF E a w β ro ag,eqGuard_at_pointer,run_neq_pointer_nil w cE (some c8) (T2 hu)],.fI rfl⟩
   ·cases h
  ·cases h
end
end Go.aN
namespace Go.aN
open Go
def pz:List aW→List Value→Bool
 |[],[]=>true
 |r::rs,z::zs=>(match r,z with
  | .int k,.int bs n=>decide (k=bs)&&decide (n=0)
  | .bool,.bool b=>!b
  | .str,.string s=>decide (s=⟨#[]⟩)
  | .li _,.slice none 0 0=>true
  |_,_=>false)&&pz rs zs
 |_,_=>false
def vw:TypeDesc→Option aW
 | .string=>some .str
 | .int k=>some (.int k)
 |_=>none
def xZ(v:aW)(z:Value):Bool:=
 match v,z with
 | .st c,.agg a=>pz (eV c) a.toList&&a.toList.all Value.oneCell'
 | .st _,_=>false
 |r,z=>pz [r] [z]&&z.oneCell'
def nx(v:aW)(i:Nat):ab:=
 match v with
 | .st c=>.cr (iW c i 0 (eV c))
 |r=>.aV r i
def E8:List aW→Bool
 |[]=>true
 | .mp _ _::_=>false
 |_::r=>E8 r
def E9(v:aW):Bool:=
 match v with
 | .st c=>E8 (eV c)
 | .int _=>true
 | .bool=>true
 | .str=>true
 |_=>false
def MO(S:ar)(m:ab):Option (aW × aW × ab):=
 match m with
 | .ha id=>match dm S.h id with
  |some (.it (.mp k v) _ p)=>some (k,v,p)
  |_=>none
 |x=>match x.rt with
  |some (.mp k v)=>some (k,v,x)
  |_=>none
def MP(P:Program)(S:ar)(t:TypeId)(m x:ab)(c:Bool):Option dy:=
 match P.underlying t,MO S m with
 |some (.map fv e2),some (k,v,p)=>match(P.underlying fv).bind vw,(P.info? e2).bind (·.zero)with
  |some bs,some z=>match hV bs k&&(x.eE k&&(xZ v z&&E9 v))with
   |true=>match c with
    |true=>some ⟨[.xM k v p x,.vp k v p x],[],.tp [nx v (S.k+1),.aV .bool S.k]⟩
    |false=>some ⟨[.vp k v p x],[],nx v S.k⟩
   |false=>none
  |_,_=>none
 |_,_=>none
section
variable {P:Program} {G:bc} {N B:Nat} {M:List aS} {S:ar} {o:Oper}
theorem x1: ∀{rs:List aW} {zs:List Value},pz rs zs=true→zs.map ba.v=rs.map fun r=>xz (fL r r.fC)
 |[],[],_=>rfl
 |[],_::_,h=>by cases h
 |_::_,[],h=>by cases h
 |r::rs,z::zs,h=>by
  simp only[pz,Bool.and_eq_true]at h;rw[List.map_cons,List.map_cons,x1 h.2]
  congr 1
  have aa:=h.1
  split at aa
  ·simp only[Bool.and_eq_true,decide_eq_true_eq]at aa
   obtain⟨rfl,rfl⟩:=aa;rfl
  ·simp only[Bool.not_eq_true']at aa
   subst aa;rfl
  ·have:=of_decide_eq_true aa
   subst this;rfl
  ·rfl
  ·cases aa
theorem Up(c:bR):ck c (aw c)=(eV c).map fun r=>fL r r.fC:=by cases c<;>rfl
theorem Uq{e:Env}{r:aW}{i:Nat}{d:r.den}(h:Env.at e i=⟨r,d⟩):(ab.aV r i).aA e r=d:=by
 simp only[ab.aA,ab.fw,ab.dyn,h,cH]
theorem zha{c:bR}(h:E8 (eV c)=true)(x:fS c):(lR c x).map (fun d=>kg d.r d.v)=ck c x:=by
 unfold ck
 rw[←Ma c x]at h
 revert h
 generalize lR c x=l
 induction l with
 |nil=>intro _;rfl
 |cons d r aZ=>
  intro h;obtain⟨t,v⟩:=d;simp only[List.map_cons]at h⊢
  cases t<;>first|(simp only[E8]at h;rw[aZ h];rfl)|cases h
theorem zhb{v:aW}{i:Nat}{e:Env}{ev:v.den}(h:Env.at e i=⟨v,ev⟩)(ax:E9 v=true):(nx v i).den G e=vf v.agg (iG v ev):=by
 cases v with
 |st c=>
  simp only[E9]at ax;simp only[nx,ab.den,tc,h,cH,aW.agg,vf,iG,zha ax]
 |int k=>simp only[nx,ab.den,h,cH]<;>rfl
 |bool=>simp only[nx,ab.den,h,cH]<;>rfl
 |str=>simp only[nx,ab.den,h,cH]<;>rfl
 |_=>cases ax
theorem x2{x:ba}{v:Value}(h:ba.v v=xz x)(ax:v.oneCell'=true):Sub (.av (.v v)) (.av x):=fun w ro σ β N c hc=>by
 cases hc with
 |av _ _ hc=>
  cases hc;exact .av _ _ (TG h.symm ax)
theorem Ur: ∀{rs:List aW} {zs:List Value},pz rs zs=true→zs.all Value.oneCell'=true→fW (zs.map fun v=>aD.av (.v v)) ((rs.map fun r=>fL r r.fC).map .av)
 |[],[],_,_=>.nil
 |[],_::_,h,_=>by cases h
 |_::_,[],h,_=>by cases h
 |r::rs,z::zs,h,ao=>by
  simp only[List.all_cons,Bool.and_eq_true]at ao
  have aa:pz [r] [z]=true:=by
   simp only[pz,Bool.and_eq_true]at h⊢;exact⟨h.1,trivial⟩
  have ae:pz rs zs=true:=by
   simp only[pz,Bool.and_eq_true]at h;exact h.2
  have aB:=x1 aa
  simp only[List.map_cons,List.map_nil,List.cons.injEq,and_true]at aB;exact .cons (x2 aB ao.1) (Ur ae ao.2)
theorem Us{v:aW}{i:Nat}{e:Env}{z:Value}(h:Env.at e i=⟨v,v.fC⟩)(ax:E9 v=true)(aT:xZ v z=true):Sub (nn z) ((nx v i).den G e)∧s4 z=true:=by
 cases v with
 |st c=>
  cases z with
  |agg a=>
   simp only[xZ,Bool.and_eq_true]at aT;refine⟨?_,aT.2⟩
   simp only[nx,ab.den,tc,h,cH,nn,aW.fC,Up];exact(Ur aT.1 aT.2).agg
  |_=>cases aT
 |int k=>
  simp only[xZ,Bool.and_eq_true]at aT
  have aB:=x1 aT.1
  simp only[List.map_cons,List.map_nil,List.cons.injEq,and_true]at aB
  cases z with
  |int bs n=>exact⟨by simp only[nx,ab.den,h,cH,nn];exact x2 aB aT.2,aT.2⟩
  |_=>first|cases aT.1|cases aT.2
 |bool=>
  simp only[xZ,Bool.and_eq_true]at aT
  have aB:=x1 aT.1
  simp only[List.map_cons,List.map_nil,List.cons.injEq,and_true]at aB
  cases z with
  |bool b=>exact⟨by simp only[nx,ab.den,h,cH,nn];exact x2 aB aT.2,aT.2⟩
  |_=>first|cases aT.1|cases aT.2
 |str=>
  simp only[xZ,Bool.and_eq_true]at aT
  have aB:=x1 aT.1
  simp only[List.map_cons,List.map_nil,List.cons.injEq,and_true]at aB
  cases z with
  |string b=>exact⟨by simp only[nx,ab.den,h,cH,nn];exact x2 aB aT.2,aT.2⟩
  |_=>first|cases aT.1|cases aT.2
 |_=>cases ax
theorem Ut{k v:aW}(l:List (k.den × v.den)):fL (.mp k v) l=xC v.agg (gj (lg k) (iG v) l):=by
 unfold xC gj
 rw[List.map_map,List.map_map]
 rfl
theorem zhc{fv:TypeId}{k:aW}(h:(P.underlying fv).bind vw=some k): ∃d,P.underlying fv=some d∧((k= .str∧d= .string)∨∃j,k= .int j∧d= .int j):=by
 cases hd:P.underlying fv with
 |none=>rw[hd]at h;cases h
 |some d=>
  rw[hd]at h
  have aj:vw d=some k:=h
  refine⟨d,rfl,?_⟩
  unfold vw at aj
  split at aj
  ·cases aj;exact .inl ⟨rfl,rfl⟩
  ·cases aj;exact .inr ⟨_,rfl,rfl⟩
  ·cases aj
theorem zhd{k v:aW}{m:Operand}{p:ab}{e:Env}(hf: ∀c∈S.g,c.ok e)(h:MO S (S.a7 N m)=some (k,v,p)):nk G (S.den G N B e) m v.agg (gj (lg k) (iG v) (p.aA e (.mp k v))):=by
 unfold MO at h
 split at h
 ·rename_i id hm
  split at h
  ·rename_i bs bo dx q ah
   cases h
   have Fa:aL G (S.den G N B e) m= .ref id:=by rw[bP hf,hm];rfl
   have bj:aE (S.den G N B e).heap id=some (.bU (jV v.agg (gj (lg k) (iG v) (p.aA e (.mp k v))))):=by
    simp only[ar.den,er,ah,Option.map_some];rfl
   exact nk.own Fa bj
  ·cases h
 ·split at h
  ·rename_i bs bo ag
   cases h;refine nk.TP ?_
   rw[bP hf,ga ag,Ut]
  ·cases h
theorem zhe{t:TypeId}{m x:Operand}{c:Bool}{r:dy}(ao:o.op= .lookup t m x c)(h:MP P S t (S.a7 N m) (S.a7 N x) c=some r):iv P G N B M o S r:=fun e hf hx hn=>by
 unfold MP at h
 split at h
 ·rename_i fv e2 k v p hu oo
  split at h
  ·rename_i bs z zhf aT
   split at h
   ·rename_i hc
    simp only[Bool.and_eq_true]at hc;obtain⟨aM,cn,gr,iQ⟩:=hc
    cases hy aM
    obtain⟨d,hd,hW⟩:=zhc zhf
    have oc:=zhd (G:=G) (N:=N) (B:=B) hf oo
    have key: ∀w:aD,(∀ev b,(jK k (p.aA e (.mp k v)) ((S.a7 N x).aA e k)).getD v.fC=ev→(jK k (p.aA e (.mp k v)) ((S.a7 N x).aA e k)).isSome=b→∀y,(b=true→y=vf v.agg (iG v ev))→(b=false→ev=v.fC∧y=nn z)→Sub (A5 c y b) w)→s4 z=true→cY P G o (S.den G N B e) w:=by
     intro w hw np
     cases aK:jK k (p.aA e (.mp k v)) ((S.a7 N x).aA e k)with
     |some ev=>
      rw[aK]at hw;refine cY.sub ?_ (hw ev true rfl rfl _ (fun _=>rfl) (fun q=>by cases q))
      rcases hW with⟨rfl,rfl⟩|⟨j,rfl,rfl⟩
      ·have jC:aL G (S.den G N B e) x= .av (.v (lg .str ((S.a7 N x).aA e .str))):=by rw[bP hf];exact Mw cn
       exact TW (K:=ByteArray) Mn (iG v) v.agg _ _ ev c ao hu hd oc jC aK
      ·have jC:aL G (S.den G N B e) x= .av (.v (lg (.int j) ((S.a7 N x).aA e (.int j)))):=by rw[bP hf];exact EO cn
       exact TW (K:=Int) (Mo j) (iG v) v.agg _ _ ev c ao hu hd oc jC aK
     |none=>
      rw[aK]at hw;refine cY.sub ?_ (hw v.fC false rfl rfl _ (fun q=>by cases q) (fun _=>⟨rfl,rfl⟩))
      rcases hW with⟨rfl,rfl⟩|⟨j,rfl,rfl⟩
      ·have jC:aL G (S.den G N B e) x= .av (.v (lg .str ((S.a7 N x).aA e .str))):=by rw[bP hf];exact Mw cn
       exact TX (K:=ByteArray) Mn (iG v) v.agg _ _ c z ao hu hd oc jC aK aT np
      ·have jC:aL G (S.den G N B e) x= .av (.v (lg (.int j) ((S.a7 N x).aA e (.int j)))):=by rw[bP hf];exact EO cn
       exact TX (K:=Int) (Mo j) (iG v) v.agg _ _ c z ao hu hd oc jC aK aT np
    have sub: ∀{i:Nat} {ev:v.den} {b:Bool} {y:aD},Env.at e i=⟨v,ev⟩→(b=true→y=vf v.agg (iG v ev))→(b=false→ev=v.fC∧y=nn z)→Sub y ((nx v i).den G e):=by
     intro i ev b y hi aa ae
     cases b with
     |true=>rw[aa rfl,zhb hi iQ];exact Sub.refl _
     |false=>
      obtain⟨cR,c7⟩:=ae rfl;subst cR;rw[c7];exact(Us hi iQ gr).1
    have np:s4 z=true:=(Us (G:=G) (i:=0) (e:=bd.put .emp 0 ⟨v,v.fC⟩) (by rw[Env.ir,if_pos rfl]) iQ gr).2
    split at h
    ·cases h
     have aJ:=hx 0 _ rfl
     have aa:=hx 1 _ rfl
     simp only[Nat.add_zero,bT.den]at aJ aa;refine key _ (fun ev b aB bl y g1 g2=>?_) np
     refine fW.tuple (.cons (sub (aa.trans (by rw[←aB])) g1 g2) (.cons ?_ .nil))
     simp only[ab.den,aJ,cH];rw[←bl];exact Sub.refl _
    ·cases h
     have aJ:=hx 0 _ rfl
     simp only[Nat.add_zero,bT.den]at aJ;exact key _ (fun ev b aB bl y g1 g2=>sub (aJ.trans (by rw[←aB])) g1 g2) np
   ·cases h
  ·cases h
 ·cases h
end
end Go.aN
namespace Go.aN
open Go
def ab.tn(x g:ab)(b:Bool):ab:=
 match x with
 | .fN h c v=>match Bi g h&&(decide (c=b))with
  |true=>v
  |false=>x
 |x=>x
def MQ(S:ar)(c x y:ab):Option dy:=
 match c,lq c S.g with
 | .cs (.bool b),_=>some ⟨[],[],match b with|true=>x|false=>y⟩
 |c,some b=>match c.rt with
  |some .bool=>some ⟨[],[],match b with|true=>x|false=>y⟩
  |_=>none
 |c,none=>match c.rt with
  |some .bool=>match(match(x.tn c true).rt with|some r=>some r|none=>(y.tn c false).rt)with
   |some r=>match(x.tn c true).eE r&&((y.tn c false).eE r&&r.one)with
    |true=>some ⟨[.ES r c (x.tn c true) (y.tn c false)],[],.aV r S.k⟩
    |false=>none
   |none=>none
  |_=>none
def tq(r:aW):List ab→Bool
 |[]=>true
 |x::l=>x.eE r&&tq r l
def Uu:List ab→Option aW
 |[]=>none
 |x::_=>x.rt
def MR(P:Program)(S:ar)(t:TypeId)(x i:ab):Option dy:=
 match x with
 | .cr l=>match P.underlying t with
  |some (.array len el)=>match scalar P el&&Nat.beq l.length len,(P.info? el).map (·.size)with
   |true,some 1=>match i with
    | .cs (.int .i64 (.ofNat j))=>match l[j]? with
     |some v=>some ⟨[],[],v⟩
     |none=>none
    |i=>match i.rt,Uu l with
     |some (.int .i64),some r=>match tq r l&&r.one with
      |true=>some ⟨[.nth r l i],xV S.g l.length i,.aV r S.k⟩
      |false=>none
     |_,_=>none
   |_,_=>none
  |_=>none
 |x=>match x.rt,i.rt,isStr P t with
  |some .str,some (.int k),true=>some ⟨[.f2 (.rQ k) x i],py S.g .oe (.rQ k) x i,.aV (.int .u8) S.k⟩
  |_,_,_=>none
def vx(x:ab):Option bR:=
 match x.rt with
 |some (.li c)=>some c
 |_=>none
def zhg(P:Program)(t:TypeId)(n:Nat):Option bR:=
 match P.underlying t with
 |some (.slice el)=>zgm.find? fun c=>Nat.beq n (b4 c)&&(qc P el (iW c 0 0 (eV c))).isSome
 |_=>none
def MS(P:Program)(f:Nat):Nat:=
 match P.funcs[f]? with
 |some fn=>match fn.body.isNone&&fn.origin== "",fn.name== "internal/abi.NoEscape",fn.name== "internal/bytealg.IndexByteString" with
  |true,true,_=>1
  |true,false,true=>2
  |_,_,_=>0
 |none=>0
def MT(P:Program)(S:ar)(f:ab)(aG:List ab):Option dy:=
 match f with
 | .fn (.func f) [] []=>match MS P f,aG with
  |1,[x]=>some ⟨[],[],x⟩
  |2,[x,y]=>match x.rt,y.rt with
   |some .str,some (.int .u8)=>some ⟨[.f2 .xL x y],[],.aV (.int .i64) S.k⟩
   |_,_=>none
  |_,_=>none
 |_=>none
def MU(P:Program)(S:ar)(t:TypeId)(x i:ab):Option dy:=
 match i.rt with
 |some (.int k)=>match ke P t with
  |some n=>match x with
   | .aP id=>match dm S.h id with
    |some (.rw _ c y)=>match Nat.beq n (b4 c)with
     |true=>some ⟨[],py S.g (.iX c) (.kj c k) y i,.gR id i 0⟩
     |false=>none
    |_=>none
   | .cM id m=>match dm S.h id,i with
    |some (.dv _ _),.cs (.int _ (.ofNat j))=>match Nat.blt j m with
     |true=>some ⟨[],[],.ej id (j*n)⟩
     |false=>none
    |_,_=>none
   |x=>match vx x with
    |some c=>match Nat.beq n (b4 c)with
     |true=>some ⟨[.f2 (.kj c k) x i],py S.g (.iX c) (.kj c k) x i,.ip c S.k 0⟩
     |false=>none
    |none=>match x.isNil,zhg P t n with
     |true,some c=>some ⟨[.f2 (.kj c k) x i],[.f2 0 (.kj c k) x i],.ip c S.k 0⟩
     |_,_=>none
  |none=>match u1 P t,vt S x with
   |some (len,n),some _=>match i,x with
    | .cs (.int _ (.ofNat j)),x=>match Nat.blt j len,xX (j*n) x with
     |true,some p=>some ⟨[],[],p⟩
     |_,_=>none
    |i,.ej id off=>some ⟨[],xV S.g len i,.gY id off i n⟩
    |_,_=>none
   |_,_=>none
 |_=>none
def MV(P:Program)(S:ar)(t:TypeId)(x:ab):Option dy:=
 match x with
 | .gR id i off=>match dm S.h id,i.rt with
  |some (.rw _ c y),some (.int k)=>match qc P t ((iW c S.k 0 (eV c)).drop off),y.eE (.li c)with
   |some v,true=>some ⟨[.f2 (.kj c k) y i],py S.g (.iX c) (.kj c k) y i,v⟩
   |_,_=>none
  |_,_=>none
 | .gY id off i 1=>match dm S.h id,i.rt with
  |some (.dv _ l),some (.int _)=>match Uu (l.drop off)with
   |some r=>match tq r (l.drop off)&&(r.one&&scalar P t)with
    |true=>some ⟨[.nth r (l.drop off) i],xV S.g (l.drop off).length i,.aV r S.k⟩
    |false=>none
   |none=>none
  |_,_=>none
 |x=>match vt S x with
  |some l=>match qc P t l with
   |some v=>some ⟨[],[],v⟩
   |none=>none
  |none=>none
def MW(P:Program)(S:ar)(t:TypeId)(x:ab):Option dy:=
 match x with
 | .cs (.slice none 0 0)=>match isSlice P t with
  |true=>some ⟨[],[],.cs (.int .i64 0)⟩
  |false=>none
 | .cs (.string s)=>match isStr P t with
  |true=>some ⟨[],[],.cs (.int .i64 (ByteArray.size s:Int))⟩
  |false=>none
 | .cM id n=>match dm S.h id,isSlice P t with
  |some (.dv _ _),true=>some ⟨[],[],.cs (.int .i64 (n:Int))⟩
  |_,_=>none
 | .aP id=>match dm S.h id with
  |some (.rw _ c y)=>match isSlice P t with
   |true=>some ⟨[.f1 (.iX c) y],[],.aV (.int .i64) S.k⟩
   |false=>none
  |_=>none
 |x=>match x.rt with
  |some .str=>match isStr P t with
   |true=>some ⟨[.f1 .oe x],[],.aV (.int .i64) S.k⟩
   |false=>none
  |some (.li c)=>match isSlice P t with
   |true=>some ⟨[.f1 (.iX c) x],[],.aV (.int .i64) S.k⟩
   |false=>none
  |_=>match Ek P t with
   |some n=>some ⟨[],[],.cs (.int .i64 (n:Int))⟩
   |none=>none
def x3(N:Nat)(S:ar):Option Operand→Option (Option ab)
 |none=>some none
 |some y=>match(S.a7 N y).rt with
  |some (.int _)=>some (some (S.a7 N y))
  |_=>none
def Fb(P:Program)(N:Nat)(S:ar)(t:TypeId)(x:ab)(lo hi:Option Operand):Option dy:=
 match x3 N S lo,x3 N S hi with
 |some l,some h=>match x.rt with
  |some .str=>match isStr P t with
   |true=>some ⟨[.vo x l h],(match l,h with|none,none=>[]|_,_=>[.vo x l h]),.aV .str S.k⟩
   |false=>none
  |some (.li c)=>match ke P t with
   |some n=>match Nat.beq n (b4 c)with
    |true=>some ⟨[.eG c x l h],(match l,h with|none,none=>[]|_,_=>[.eG c x l h]),.aV (.li c) S.k⟩
    |false=>none
   |none=>none
  |_=>none
 |_,_=>none
def Uv(P:Program)(S:ar)(src dst:TypeId)(id:Nat):Option dy:=
 match dm S.h id,P.underlying src with
 |some (.rw _ .u8 y),some (.slice el)=>match P.underlying el,P.underlying dst with
  |some (.int .u8),some .string=>some ⟨[.f1 .cM y],[],.aV .str S.k⟩
  |_,_=>none
 |_,_=>none
def MX(P:Program)(S:ar)(src dst:TypeId)(x:ab):Option dy:=
 match x with
 | .aP id=>Uv P S src dst id
 |x=>match x.rt with
  |some (.int k)=>match P.underlying src,P.underlying dst with
   |some _,some (.int bs)=>some ⟨[.f1 (.pe k bs) x],[],.aV (.int bs) S.k⟩
   |_,_=>none
  |some (.li .u8)=>match P.underlying src with
   |some (.slice el)=>match P.underlying el,P.underlying dst with
    |some (.int .u8),some .string=>some ⟨[.f1 .cM x],[],.aV .str S.k⟩
    |_,_=>none
   |_=>none
  |_=>none
def MY(S:ar)(op:UnOp)(x:ab):Option dy:=
 match op,x.rt with
 | .not,some .bool=>some ⟨[.f1 .nq x],[],.aV .bool S.k⟩
 | .neg,some (.int k)=>some ⟨[.f1 (.Bd k) x],[],.aV (.int k) S.k⟩
 | .xor,some (.int k)=>some ⟨[.f1 (.uT k) x],[],.aV (.int k) S.k⟩
 |_,_=>none
def MZ(P:Program)(N:Nat)(S:ar)(t:TypeId)(ps:List (Nat × Operand)):Option dy:=
 match places P t,zeroCells P t with
 |some pl,some zs=>match zs.all Value.oneCell'&&(ps.map fun p=>(p.1,S.a7 N p.2)).all fun p=>p.2.cells.all (kP S.h)with
  |true=>match rY pl (zs.map .cs) (ps.map fun p=>(p.1,S.a7 N p.2))with
   |some ds=>some ⟨[],[],.cr ds⟩
   |none=>none
  |false=>none
 |_,_=>none
def M0(P:Program)(t:TypeId)(x:ab)(f:Nat):Option dy:=
 match x,xo P t f with
 | .cr l,some (off,none)=>match l[off]? with
  |some v=>some ⟨[],[],v⟩
  |none=>none
 | .cr l,some (off,some n)=>match Nat.ble (off+n) l.length with
  |true=>some ⟨[],[],.cr ((l.drop off).take n)⟩
  |false=>none
 |_,_=>none
def M1(S:ar)(b:Builtin)(x y:ab):Option dy:=
 match x.rt,y.rt,b with
 |some (.int k),some (.int bs),.min=>match decide (k=bs)with
  |true=>some ⟨[.f2 (.uU k) x y],[],.aV (.int k) S.k⟩
  |false=>none
 |some (.int k),some (.int bs),.max=>match decide (k=bs)with
  |true=>some ⟨[.f2 (.mx k) x y],[],.aV (.int k) S.k⟩
  |false=>none
 |_,_,_=>none
def Fc(P:Program)(t:TypeId):Bool:=
 match P.underlying t with
 |some (.pointer e)=>(P.info? e).isSome&&match(P.info? e).map (fun i=>decide (i.size=0))with
  |some false=>true
  |_=>false
 |_=>false
def Br(S:ar)(id:Nat):Bool:=
 match dm S.h id with
 |some (.dv _ _)=>true
 |_=>false
def Fe(S:ar)(b:Bool)(g:ab):Option dy:=
 match g.rt,b with
 |some .bool,true=>some ⟨[],[],g⟩
 |some .bool,false=>some ⟨[.f1 .nq g],[],.aV .bool S.k⟩
 |_,_=>none
def M3:BinOp→Option Bool
 | .eql=>some true
 | .neq=>some false
 |_=>none
def M4(P:Program)(S:ar)(op:BinOp)(cE:TypeId)(x y:ab):Option dy:=
 match Fc P cE,M3 op with
 |true,some b=>match x,y with
  | .cs (.pointer none),.cs (.pointer none)=>some ⟨[],[],.cs (.bool b)⟩
  | .ej i o,.ej j q=>match(Nat.beq i j&&Nat.beq o q)&&Br S i with
   |true=>some ⟨[],[],.cs (.bool b)⟩
   |false=>none
  | .fp g (some i) _,.cs (.pointer none)=>match Br S i with
   |true=>Fe S (!b) g
   |false=>none
  | .fp g (some i) o,.ej j q=>match(Nat.beq i j&&Nat.beq o q)&&Br S i with
   |true=>Fe S b g
   |false=>none
  |_,_=>none
 |_,_=>none
def M5(P:Program)(S:ar)(src dst:TypeId)(x:ab):Option dy:=
 match x with
 | .ej id off=>match dm S.h id,P.underlying src,P.underlying dst with
  |some (.dv _ l),some (.pointer t),some .unsafePointer=>match(P.info? t).map (fun i=>decide (i.size=0)),Nat.blt off l.length with
   |some false,true=>some ⟨[],[],x⟩
   |_,_=>none
  |some (.dv bt l),some .unsafePointer,some (.pointer u)=>match liesAt P P.depth bt (l.length/ P.cellsOf bt) off u 1&&(P.info? u).isSome,Nat.blt off l.length with
   |true,true=>some ⟨[],[],x⟩
   |_,_=>none
  |_,_,_=>none
 |_=>none
def M6(P:Program)(S:ar)(t:TypeId)(x:ab):Option dy:=
 match x,P.underlying t with
 | .ej id 0,some (.array n el)=>match dm S.h id,Nat.blt 0 n&&(P.info? el).isSome with
  |some (.dv _ _),true=>some ⟨[],[],.cM id n⟩
  |_,_=>none
 |_,_=>none
def M7(P:Program)(S:ar)(src dst:TypeId)(x:ab):Option dy:=
 match x,P.underlying src with
 | .cM id n,some (.slice el)=>match dm S.h id,P.underlying el,P.underlying dst with
  |some (.dv _ l),some (.int .u8),some .string=>match Nat.beq n l.length&&l.all (ab.eE (.int .u8))with
   |true=>some ⟨[.qA .u8 (l.map fun x=>.cr [x]),.f1 .cM (.aV (.li .u8) S.k)],[],.aV .str (S.k+1)⟩
   |false=>none
  |_,_,_=>none
 |_,_=>none
def pA:List ab→Option (List aW)
 |[]=>some []
 |x::r=>match x.rt,pA r with
  |some t,some l=>some (t::l)
  |_,_=>none
def Ff(P:Program)(t:TypeId):Bool:=
 match P.underlying t with
 |some (.interface _)=>true
 |none=>true
 |_=>false
def M8(P:Program)(t:TypeId)(x:ab):Option dy:=
 match Ff P t with
 |true=>none
 |false=>match x with
  | .cr l=>match pA l with
   |some rs=>some ⟨[],[],.eB t true rs l⟩
   |none=>none
  |x=>match x.rt with
   |some r=>some ⟨[],[],.eB t false [r] [x]⟩
   |none=>none
def rZ(a:Bool)(l:List ab):Option ab:=
 match a,l with
 |true,l=>some (.cr l)
 |false,[x]=>some x
 |false,_=>none
def M9:Value→ab
 | .agg a=>.cr (a.toList.map .cs)
 |v=>.cs v
def Na(P:Program)(t:TypeId)(x:ab)(c:Bool):Option dy:=
 match x,Ff P t with
 | .eB u a rs l,false=>match Nat.beq u t,c with
  |true,true=>match rZ a l,decide (pA l=some rs)with
   |some v,true=>some ⟨[],[],.tp [v,.cs (.bool true)]⟩
   |_,_=>none
  |true,false=>match rZ a l,decide (pA l=some rs)with
   |some v,true=>some ⟨[],[],v⟩
   |_,_=>none
  |false,true=>match(P.info? t).bind (·.zero)with
   |some z=>match s4 z with
    |true=>some ⟨[],[],.tp [M9 z,.cs (.bool false)]⟩
    |false=>none
   |none=>none
  |false,false=>none
 |_,_=>none
def qG(P:Program)(N:Nat)(S:ar)(o:Oper):Option dy:=
 match o.op with
 | .move x=>some ⟨[],[],S.a7 N x⟩
 | .assign x=>some ⟨[],[],S.a7 N x⟩
 | .pick c x y=>MQ S (S.a7 N c) (S.a7 N x) (S.a7 N y)
 | .extract x i=>match S.a7 N x with
  | .tp l=>match l[i]? with
   |some v=>some ⟨[],[],v⟩
   |none=>none
  |_=>none
 | .nilCheck x=>match tm S (S.a7 N x)with
  |true=>some ⟨[],[],S.a7 N x⟩
  |false=>none
 | .fieldAddr t x f=>match sT P t f,tm S (S.a7 N x)with
  |some k,true=>match xX k (S.a7 N x)with
   |some p=>some ⟨[],[],p⟩
   |none=>none
  |_,_=>none
 | .load t x=>MV P S t (S.a7 N x)
 | .field t x f=>M0 P t (S.a7 N x) f
 | .indexAddr t x i=>MU P S t (S.a7 N x) (S.a7 N i)
 | .index t x i=>MR P S t (S.a7 N x) (S.a7 N i)
 | .binOp op cE x y _=>match MN P S op cE (S.a7 N x) (S.a7 N y)with
  |some r=>some r
  |none=>M4 P S op cE (S.a7 N x) (S.a7 N y)
 | .unOp op _ x=>MY S op (S.a7 N x)
 | .convert src dst x=>match MX P S src dst (S.a7 N x)with
  |some r=>some r
  |none=>match M5 P S src dst (S.a7 N x)with
   |some r=>some r
   |none=>M7 P S src dst (S.a7 N x)
 | .build t ps=>MZ P N S t ps.toList
 | .makeFunc (.func f) p q=>some ⟨[],[],.fn (.func f) (p.toList.map (S.a7 N)) (q.toList.map (S.a7 N))⟩
 | .makeInterface t x=>M8 P t (S.a7 N x)
 | .typeAssert x _ t c=>Na P t (S.a7 N x) c
 | .lookup t m x c=>MP P S t (S.a7 N m) (S.a7 N x) c
 | .slice t x none none none=>match Fb P N S t (S.a7 N x) none none with
  |some r=>some r
  |none=>M6 P S t (S.a7 N x)
 | .slice t x lo hi none=>Fb P N S t (S.a7 N x) lo hi
 | .call c=>match c.callee,c.args.toList,c.argTypes.toList with
  | .builtin .len,[x],[t]=>MW P S t (S.a7 N x)
  | .builtin b,[x,y],_=>M1 S b (S.a7 N x) (S.a7 N y)
  | .value f,l,_=>MT P S (S.a7 N f) (l.map (S.a7 N))
  |_,_,_=>none
 |_=>none
section
variable {P:Program} {G:bc} {o:Oper} {N B:Nat} {S:ar} {M:List aS}
theorem Uw{e:Env}{g:ab}{b:Bool}{x:ab}(h:g.aA e .bool=b):(x.tn g b).den G e=x.den G e:=by
 unfold ab.tn
 split
 ·rename_i h' c v
  split
  ·rename_i ad
   simp only[Bool.and_eq_true,decide_eq_true_eq]at ad
   have:=MC ad.1
   subst this;obtain⟨_,rfl⟩:=ad;simp only[ab.den,h]
   cases c<;>rfl
  ·rfl
 ·rfl
theorem Fg{e:Env}{r:aW}(h:r.one=true)(x:ab):x.get e r=x.aA e r:=by
 cases r<;>first|rfl|cases h
theorem iv.nil{v:ab}(h: ∀e,(∀c∈S.g,c.ok e)→cY P G o (S.den G N B e) (v.den G e)):iv P G N B M o S ⟨[],[],v⟩:=fun e hf _ _=>h e hf
theorem zhh{c x y:Operand}{r:dy}(ao:o.op= .pick c x y)(h:MQ S (S.a7 N c) (S.a7 N x) (S.a7 N y)=some r):iv P G N B M o S r:=fun e hf hx hn=>by
 unfold MQ at h
 split at h
 ·rename_i b ad
  cases h
  have hc:aL G (S.den G N B e) c= .av (.v (.bool b)):=by rw[bP hf,ad];rfl
  refine AG c x y ao hc ?_
  cases b<;>simp[bP hf]
 ·rename_i b ad _
  split at h
  ·rename_i ag
   cases h
   have aj:=qC ad hf
   have hc:aL G (S.den G N B e) c= .av (.v (.bool b)):=by rw[bP hf,ga ag,aj];rfl
   refine AG c x y ao hc ?_
   cases b<;>simp[bP hf]
  ·cases h
 ·split at h
  ·rename_i hc
   split at h
   ·rename_i q _
    split at h
    ·rename_i ad
     cases h;simp only[Bool.and_eq_true]at ad
     have Ax:aL G (S.den G N B e) c= .av (.v (.bool ((S.a7 N c).aA e .bool))):=(bP hf c).trans (ga hc)
     refine(AG c x y ao Ax rfl).sub ?_
     have aJ:Env.at e S.k=_:=hx 0 _ rfl
     simp only[ab.den,aJ,bT.den,cH,bP hf,Fg ad.2.2]
     cases gG:(S.a7 N c).aA e .bool with
     |true=>
      simp only[cond_true,if_true];rw[←Uw (G:=G) (x:=S.a7 N x) gG];exact vm ad.1
     |false=>
      simp only[cond_false,Bool.false_eq_true,if_false];rw[←Uw (G:=G) (x:=S.a7 N y) gG];exact vm ad.2.1
    ·cases h
   ·cases h
  ·cases h
theorem Nb{e:Env}{r:aW}: ∀{l:List ab} {j:Nat} {x:ab},tq r l=true→l[j]? =some x→Sub (x.den G e) (.av (fL r (te e r l j)))
 |[],_,_,_,h=>by simp at h
 |[y],j,x,aY,h=>by
  have af:j=0:=by
   have:=(List.getElem?_eq_some_iff.1 h).1
   simp at this;exact this
  subst af;simp only[List.getElem?_cons_zero,Option.some.injEq]at h
  subst h;simp only[tq,Bool.and_eq_true]at aY;exact vm aY.1
 |y::z::l,0,x,aY,h=>by
  simp only[List.getElem?_cons_zero,Option.some.injEq]at h
  subst h;simp only[tq,Bool.and_eq_true]at aY;exact vm aY.1
 |y::z::l,j+1,x,aY,h=>by
  simp only[List.getElem?_cons_succ]at h
  simp only[tq,Bool.and_eq_true]at aY
  have:=Nb (e:=e) (r:=r) (l:=z::l) (j:=j) (x:=x) (by simp only[tq,Bool.and_eq_true];exact aY.2) h
  have ad:Nat.beq (j+1) 0=false:=rfl
  simp only[te,ad,cond_false,Nat.add_sub_cancel];exact this
theorem Fh{e:Env}{l:List ab}{j:Nat}{x:ab}(h:l[j]? =some x):(ab.bX G e l)[j]? =some (x.den G e):=by rw[e9,List.getElem?_map,h];rfl
theorem zhi{t:TypeId}{x i:Operand}{r:dy}(ao:o.op= .index t x i)(h:MR P S t (S.a7 N x) (S.a7 N i)=some r):iv P G N B M o S r:=fun e hf hx hn=>by
 unfold MR at h
 split at h
 ·rename_i l aq
  have fA:aL G (S.den G N B e) x= .agg (ab.bX G e l):=by rw[bP hf,aq];rfl
  split at h
  ·rename_i len el hu
   split at h
   ·rename_i ad bV
    simp only[Bool.and_eq_true]at ad
    have hlen:=Nat.eq_of_beq_eq_true ad.2
    split at h
    ·rename_i j hi
     split at h
     ·rename_i v ax
      cases h
      have af:=(List.getElem?_eq_some_iff.1 ax).1
      exact TK j ao hu ad.1 bV (by rw[bP hf,hi];rfl) fA (Fh ax) (by omega)
     ·cases h
    ·split at h
     ·rename_i eY hi ag
      split at h
      ·rename_i aY
       cases h;simp only[Bool.and_eq_true]at aY
       have jv:0≤cu ((S.a7 N i).dyn e)∧cu ((S.a7 N i).dyn e)<(l.length:Int):=E4 hf hn
       obtain⟨j,af⟩: ∃j:Nat,cu ((S.a7 N i).dyn e)=(j:Int):=⟨_,(Int.toNat_of_nonneg jv.1).symm⟩
       have cW:j<l.length:=by omega
       have ht:aL G (S.den G N B e) i=iT (j:Int):=by
        rw[bP hf,jB hi,←lW hi,af]
       have ax:l[j]? =some l[j]:=List.getElem?_eq_getElem cW
       refine(TK j ao hu ad.1 bV ht fA (Fh ax) (by omega)).sub ?_
       have aJ:Env.at e S.k=_:=hx 0 _ rfl
       simp only[ab.den,aJ,bT.den,cH,af,Int.toNat_natCast];exact Nb aY.1 ax
      ·cases h
     ·cases h
   ·cases h
  ·cases h
 ·split at h
  ·rename_i k aa ae aH
   cases h
   have fA:aL G (S.den G N B e) x=_:=(bP hf x).trans (ga aa)
   have ht:aL G (S.den G N B e) i=_:=(bP hf i).trans (jB ae)
   obtain⟨g1,g2⟩:=zg5 hf ae hn;exact qD (f:=.rQ k) (hx 0 _ rfl) (zgL _ k _ ao (u3 aH) ht fA g1 g2)
  ·cases h
theorem Ux{e:Env}{c:bR}{i:Nat}{x:fS c}(h:Env.at e i=⟨.st c,x⟩):(ab.ip c i 0).den G e= .av (.ptr (ck c x)):=by
 simp only[ab.den,h,cH,List.drop_zero]
theorem Uy{c:bR}{l:List (fS c)}{z:Int}(aJ:0≤z)(aa:z<(l.length:Int)):l[z.toNat]? =some (l.getD z.toNat (aw c)):=by
 have:z.toNat<l.length:=by omega
 rw[List.getD_eq_getElem?_getD,List.getElem?_eq_getElem this]
 rfl
theorem Fi{e:Env}{x:ab}{c:bR}(h:vx x=some c):x.den G e= .av (.li c (x.aA e (.li c)))∧x.rt=some (.li c):=by
 unfold vx at h
 split at h
 ·rename_i j5 ag
  cases h;exact⟨ga ag,ag⟩
 ·cases h
theorem zhj{s:aQ}{x:Operand}{t:TypeId}(ao:o.op= .call {callee:=.builtin .len,args:=#[x],argTypes:=#[t]})(aH:isSlice P t=true){id n:Nat}(hx:aL G s x= .dF id n){bt:TypeId}{cs:List aD}(bj:aE s.heap id=some (.box bt cs)):cY P G o s (.av (.v (.int .i64 (n:Int)))):=
 fun E a w β ro ag=>by
  have h:=ag.eval x
  rw[hx]at h;generalize hc:a.eval x=c at h
  cases h with
  |dF _ _ _ aq ak=>
   obtain⟨b,_,rfl⟩:=ak _ _ bj;unfold isSlice at aH
   split at aH
   ·rename_i e hu
    refine⟨.int .i64 n,?_,.fI rfl⟩
    simp[execOp,ao,resolve,invoke,builtin,hc,Builtin.len_,run_underlying hu,goInt]
   ·cases aH
theorem zhk{s:aQ}{x y:Operand}{t:TypeId}(ao:o.op= .indexAddr t x y){sK:Nat}(aH:ke P t=some sK){k:IntKind}{j n:Nat}(ay:aL G s y= .av (.v (.int k (j:Int))))(af:j<n){id:Nat}(hx:aL G s x= .dF id n){bt:TypeId}{cs:List aD}(bj:aE s.heap id=some (.box bt cs)):cY P G o s (.ptr id (j*sK)):=
 fun E a w β ro ag=>by
  have h:=ag.eval x
  rw[hx]at h;generalize hc:a.eval x=c at h
  cases h with
  |dF _ _ _ aq ak=>
   obtain⟨b,ad,rfl⟩:=ak _ _ bj;obtain⟨e,hu,bV⟩:=AM aH;refine⟨.pointer (some ⟨b,j*sK,none⟩),?_,.ptr _ _ _ aq fun bL cs' _=>⟨b,ad,rfl⟩⟩
   by_cases aT:j*sK=0<;>simp[execOp,ao,hc,ag.en ay,Instr.indexAt,asIntOf,run_underlying hu,af,bV,Addr.add,aT]
theorem zhl(cM:ByteArray)(c:Int):Extern.BytealgIndexByte.indexByte #[.string cM,.int .u8 c]=pure (.int .i64 (ER cM c)):=by
 have hi:Extern.BytealgIndexByte.indexByte #[.string cM,.int .u8 c]=(match(List.range cM.size).find? fun i=>cM[i]! ==c.toNat.toUInt8 with
  |some i=>pure (goInt i)
  |none=>pure (goInt (-1))):=rfl
 rw[hi]
 unfold ER
 cases List.find? (fun i=>cM[i]! ==c.toNat.toUInt8) (List.range cM.size)<;>rfl
theorem Fj{a b:String}(h:(a==b)=true):a=b:=by simpa using h
theorem zhm{f:Operand}{aG:List Operand}{args:Array Operand}{ts:Array TypeId}{r:dy}(ao:o.op= .call {callee:=.value f,args:=args,argTypes:=ts})(aY:args.toList=aG)(h:MT P S (S.a7 N f) (aG.map (S.a7 N))=some r):iv P G N B M o S r:=fun e hf hx hn=>by
 unfold MT at h
 split at h
 rotate_left
 ·cases h
 rename_i Uz vy
 have x4:aL G (S.den G N B e) f= .fn (.func Uz) [] []:=by rw[bP hf,vy];rfl
 have start: ∀{ev:Array Value→Sem Value} {fn:Func},P.funcs[Uz]? =some fn→fn.body.isNone=true→(fn.name== "runtime.NumGoroutine")=false→Extern.findNext fn=none→Extern.find fn=some ev→∀E a w β ro,dc E G (S.den G N B e) a w β ro→(execOp a.eval o).run P w=((ev (args.map a.eval)).run P w).andThen fun v w'=>.ok (.value v) w':=fun {ev fn} aa ae au aR bN E a w β ro ag=>by
  have hc:=ag.eval f
  rw[x4]at hc;generalize he:a.eval f=LH at hc
  cases hc with
  |fn _ _ _ c d g1 g2 _ _=>
   have hI:c= #[]:=by simpa using g1
   have oE:d= #[]:=by simpa using g2
   subst hI oE;simp only[execOp,ao,resolve,he,Deferred.ofValue,Sem.run_bind,Sem.run_pure,Result.andThen_ok,invoke,Array.empty_append,Array.append_empty];exact run_callFunc_extern aa au ae aR bN _ w
 split at h
 ·rename_i x aj aq
  cases h;unfold MS at aj
  split at aj
  rotate_left
  ·cases aj
  rename_i fn nV
  split at aj
  ·rename_i _ Bs xj
   simp only[Bool.and_eq_true]at Bs;obtain⟨ad,gP⟩:=Bs
   have hn:=Fj xj
   have gP:=Fj gP
   obtain⟨y,rfl⟩: ∃y,aG=[y]:=by
    match aG,aq with
    |[y],_=>exact⟨y,rfl⟩
   simp only[List.map_cons,List.map_nil,List.cons.injEq,and_true]at aq
   have h8:args= #[y]:=by rw[←Array.toList_inj];exact aY
   intro E a w β ro ag;refine⟨a.eval y,?_,by have:=ag.eval y;rw[bP hf,aq]at this;exact this⟩
   rw[start (ev:=Extern.AbiNoEscape.same) nV ad (by rw[hn];rfl) (by unfold Extern.findNext;simp only[hn,gP]<;>rfl) (by unfold Extern.find;simp only[hn,gP]<;>rfl) E a w β ro ag,h8]
   have hm:(#[y]:Array Operand).map a.eval= #[a.eval y]:=by simp
   rw[hm];rfl
  ·cases aj
  ·cases aj
 ·rename_i x z aj aq
  split at h
  ·rename_i g1 g2
   cases h;unfold MS at aj
   split at aj
   rotate_left
   ·cases aj
   rename_i fn nV
   split at aj
   ·cases aj
   ·rename_i Bs _ xj
    simp only[Bool.and_eq_true]at Bs;obtain⟨ad,gP⟩:=Bs
    have hn:=Fj xj
    have gP:=Fj gP
    obtain⟨y,u,rfl⟩: ∃y u,aG=[y,u]:=by
     match aG,aq with
     |[y,u],_=>exact⟨y,u,rfl⟩
    simp only[List.map_cons,List.map_nil,List.cons.injEq,and_true]at aq
    have h8:args= #[y,u]:=by rw[←Array.toList_inj];exact aY
    have ay:aL G (S.den G N B e) y= .av (.v (.string (x.aA e .str))):=by rw[bP hf,aq.1];exact ga g1
    have hu:aL G (S.den G N B e) u= .av (.v (.int .u8 (z.aA e (.int .u8)))):=by rw[bP hf,aq.2];exact ga g2
    refine qD (f:=.xL) (hx 0 _ rfl) fun E a w β ro ag=>?_
    refine⟨.int .i64 (ER (x.aA e .str) (z.aA e (.int .u8))),?_,.fI rfl⟩
    rw[start (ev:=Extern.BytealgIndexByte.indexByte) nV ad (by rw[hn];rfl) (by unfold Extern.findNext;simp only[hn,gP]<;>rfl) (by unfold Extern.find;simp only[hn,gP]<;>rfl) E a w β ro ag,h8]
    have hm:(#[y,u]:Array Operand).map a.eval= #[.string (x.aA e .str),.int .u8 (z.aA e (.int .u8))]:=by simp[ag.en ay,ag.en hu]
    rw[hm];rw[zhl];rfl
   ·cases aj
  ·cases h
 ·cases h
theorem zhn{t:TypeId}{x i:Operand}{r:dy}(ao:o.op= .indexAddr t x i)(h:MU P S t (S.a7 N x) (S.a7 N i)=some r):iv P G N B M o S r:=fun e hf hx hn=>by
 unfold MU at h
 split at h
 ·rename_i k hi
  have ht:aL G (S.den G N B e) i=_:=(bP hf i).trans (jB hi)
  split at h
  ·rename_i n lX
   split at h
   ·rename_i id bj
    split at h
    ·rename_i bL c y ah
     split at h
     ·rename_i ad
      cases h
      have ad:=Nat.eq_of_beq_eq_true ad
      obtain⟨g1,g2⟩:=xW hf hi hn;obtain⟨j,af⟩: ∃j:Nat,(S.a7 N i).aA e (.int k)=(j:Int):=⟨_,(Int.toNat_of_nonneg g1).symm⟩;rw[af]at ht g2
      have g2:(j:Int)<((List.length (y.aA e (.li c)):Nat):Int):=g2
      have:=S4 t x i ao lX ht (p:=.c5 id j 0) (by
       rw[bP hf,bj];simp only[ab.den,mA,ar.den,er,ah,Option.map_some,bO.den]
       rw[if_pos ⟨ad.symm,by rw[List.length_map];omega⟩])
      simp only[ab.den,lW hi,af,Int.toNat_natCast];exact this
     ·cases h
    ·cases h
   ·rename_i id m bj
    split at h
    ·rename_i bt l bs j ah oS
     split at h
     ·rename_i S8
      cases h;exact zhk ao lX (k:=bs) (j:=j) (by rw[bP hf,oS];rfl) (fa S8) (id:=id) (bt:=bt) (cs:=ab.bX G e l) (by rw[bP hf,bj];rfl) (by simp only[ar.den,er,ah,Option.map_some,bO.den])
     ·cases h
    ·cases h
   ·split at h
    ·rename_i c hc
     split at h
     ·rename_i ad
      cases h
      have ad:=Nat.eq_of_beq_eq_true ad
      rw[ad]at lX;obtain⟨hd,Bt⟩:=Fi (G:=G) (e:=e) hc;obtain⟨g1,g2⟩:=xW hf hi hn
      have:=(T3 c _ k _ ao lX ht ((bP hf x).trans hd) g1 g2).v
      have aJ:Env.at e S.k=_:=hx 0 _ rfl
      have aa:=Ux (G:=G) (x:=List.getD ((S.a7 N x).aA e (.li c)) (Int.toNat ((S.a7 N i).aA e (.int k))) (aw c)) aJ
      show cY P G o _ ((ab.ip c S.k 0).den G e);rw[aa];exact this
     ·cases h
    ·split at h
     ·rename_i c rJ _
      cases h
      have jv:=hn _ (List.mem_singleton.2 rfl)
      have aT:(S.a7 N x).aA e (.li c)=[]:=by
       unfold ab.isNil at rJ
       split at rJ
       ·rename_i aK
        simp only[aK,ab.aA,ab.fw,cH]
       ·cases rJ
      simp only[fi.ok,cI.vn,aT]at jv
      have ae:(S.a7 N i).aA e (.int k)<((List.length ([]:List (fS c)):Nat):Int):=jv.2
      have au:0≤(S.a7 N i).aA e (.int k):=jv.1
      exact absurd (Int.lt_of_le_of_lt au ae) (Int.lt_irrefl _)
     ·cases h
  ·split at h
   ·rename_i len n l aY aq
    have dR:=Bp (G:=G) (N:=N) (B:=B) (e:=e) aq
    rw[←bP (B:=B) hf]at dR
    split at h
    ·rename_i bs j af
     split at h
     ·rename_i p cW ak
      cases h
      have cW:=fa cW
      refine LN t x i ao aY (k:=bs) (j:=j) (by rw[bP hf,af];rfl) cW dR ?_
      have ai:=Bq (G:=G) (e:=e) ak
      rw[←ai,←bP (N:=N) (B:=B) hf];revert dR
      cases aL G (S.den G N B e) x<;>intro dR<;>first|(simp[fu]at dR;done)|skip
      all_goals rename_i y
      ·cases y<;>first|(simp[fu]at dR;done)|rfl
      ·rfl
      ·rfl
     ·cases h
    ·rename_i id off bj _
     cases h
     have jv:0≤cu ((S.a7 N i).dyn e)∧cu ((S.a7 N i).dyn e)<(len:Int):=E4 hf hn
     obtain⟨j,af⟩: ∃j:Nat,cu ((S.a7 N i).dyn e)=(j:Int):=⟨_,(Int.toNat_of_nonneg jv.1).symm⟩;rw[←lW hi,af]at ht;refine LN t x i ao aY ht (by omega) dR ?_
     rw[bP hf,bj];simp only[ab.den,iR,af,Int.toNat_natCast]
    ·cases h
   ·cases h
 ·cases h
theorem zho{t:TypeId}{x:Operand}{r:dy}(ao:o.op= .load t x)(h:MV P S t (S.a7 N x)=some r):iv P G N B M o S r:=fun e hf hx hn=>by
 unfold MV at h
 split at h
 ·rename_i id i off ak
  split at h
  ·rename_i bL c y k ah hi
   split at h
   ·rename_i v ax ay
    cases h;obtain⟨g1,g2⟩:=xW hf hi hn
    have aJ:Env.at e S.k=⟨.st c,List.getD (y.aA e (.li c)) (i.aA e (.int k)).toNat (aw c)⟩:=hx 0 _ rfl
    refine IE ao ?_ ax
    rw[bP hf,ak];simp only[ab.den,fu,ar.den,er,ah,Option.map_some,bO.den,lW hi];rw[List.getElem?_map,Uy g1 g2]
    simp only[Option.map_some,Option.some.injEq];rw[ML,tc,aJ,cH,List.map_drop]
   ·cases h
  ·cases h
 ·rename_i id off i ak
  split at h
  ·rename_i bL l k ah hi
   split at h
   ·rename_i q aK
    split at h
    ·rename_i aY
     cases h;simp only[Bool.and_eq_true]at aY
     have jv:0≤cu (i.dyn e)∧cu (i.dyn e)<((l.drop off).length:Int):=E4 hf hn
     obtain⟨j,af⟩: ∃j:Nat,cu (i.dyn e)=(j:Int):=⟨_,(Int.toNat_of_nonneg jv.1).symm⟩
     have cW:j<(l.drop off).length:=by omega
     have ax:(l.drop off)[j]? =some (l.drop off)[j]:=List.getElem?_eq_getElem cW
     have hd:(l.drop off).drop j=(l.drop off)[j]::(l.drop off).drop (j+1):=List.drop_eq_getElem_cons cW
     have:=Lo t x ao aY.2.2 (y:=((l.drop off)[j]).den G e) (cs:=ab.bX G e ((l.drop off).drop (j+1))) (s:=S.den G N B e) (G:=G) (by
      rw[bP hf,ak];simp only[ab.den,fu,ar.den,er,ah,Option.map_some,bO.den,af,Int.toNat_natCast,Nat.mul_one,Option.some.injEq];rw[←ML,←List.drop_drop,hd]
      rfl)
     refine this.sub ?_
     have aJ:Env.at e S.k=_:=hx 0 _ rfl
     simp only[ab.den,aJ,bT.den,cH,af,Int.toNat_natCast];exact Nb aY.1 ax
    ·cases h
   ·cases h
  ·cases h
 ·split at h
  ·rename_i l aq
   split at h
   ·rename_i v ax
    cases h;refine IE ao ?_ ax
    rw[bP hf];exact Bp aq
   ·cases h
  ·cases h
theorem zhp{t:TypeId}{x:Operand}{r:dy}(ao:o.op= .call {callee:=.builtin .len,args:=#[x],argTypes:=#[t]})(h:MW P S t (S.a7 N x)=some r):iv P G N B M o S r:=fun e hf hx hn=>by
 unfold MW at h
 split at h
 ·rename_i ak
  split at h
  ·rename_i aH
   cases h;exact LL x t ao aH (m:=0) (by rw[bP hf,ak];rfl)
  ·cases h
 ·rename_i b ak
  split at h
  ·rename_i aH
   cases h;exact LM x t ao (u3 aH) (by rw[bP hf,ak];rfl)
  ·cases h
 ·rename_i id n ak
  split at h
  ·rename_i bt l ah aH
   cases h;exact zhj ao aH (id:=id) (bt:=bt) (cs:=ab.bX G e l) (by rw[bP hf,ak];rfl) (by simp only[ar.den,er,ah,Option.map_some,bO.den])
  ·cases h
 ·rename_i id ak
  split at h
  ·rename_i bL c y ah
   split at h
   ·rename_i aH
    cases h;refine qE (f:=.iX c) (hx 0 _ rfl) (LL x t ao aH (m:=List.length (y.aA e (.li c))) ?_)
    rw[bP hf,ak];simp only[ab.den,lf,ar.den,er,ah,Option.map_some,bO.den,List.length_map]
   ·cases h
  ·cases h
 ·split at h
  ·rename_i ag
   split at h
   ·rename_i aH
    cases h;exact qE (f:=.oe) (hx 0 _ rfl) (LM x t ao (u3 aH) ((bP hf x).trans (ga ag)))
   ·cases h
  ·rename_i c ag
   split at h
   ·rename_i aH
    cases h;exact qE (f:=.iX c) (hx 0 _ rfl) (zgM c _ ao aH ((bP hf x).trans (ga ag)))
   ·cases h
  ·split at h
   ·rename_i n Nc
    cases h;exact S2 x t ao Nc
   ·cases h
theorem x5{e:Env}(hf: ∀c∈S.g,c.ok e){lo:Option Operand}{l:Option ab}(h:x3 N S lo=some l):Bj G (S.den G N B e) lo (mI e l):=by
 unfold x3 at h
 split at h
 ·cases h;trivial
 ·split at h
  ·rename_i y k ag
   cases h;exact⟨k,by rw[bP hf,jB ag,lW ag]⟩
  ·cases h
theorem UA{t:TypeId}{x:Operand}{lo hi:Option Operand}{r:dy}(ao:o.op= .slice t x lo hi none)(h:Fb P N S t (S.a7 N x) lo hi=some r):iv P G N B M o S r:=fun e hf hx hn=>by
 unfold Fb at h
 split at h
 ·rename_i l h' aq a6
  split at h
  ·rename_i ag
   split at h
   ·rename_i aH
    cases h
    have aJ:Env.at e S.k=_:=hx 0 _ rfl
    simp only[ab.den,aJ,bT.den,cH];refine zg0 _ ao (u3 aH) ((bP hf x).trans (ga ag)) (x5 hf aq) (x5 hf a6) ?_
    cases l<;>cases h'<;>first|trivial|exact hn _ (List.mem_singleton.2 rfl)
   ·cases h
  ·rename_i c ag
   split at h
   ·rename_i n lX
    split at h
    ·rename_i ad
     cases h;rw[Nat.eq_of_beq_eq_true ad]at lX
     have aJ:Env.at e S.k=_:=hx 0 _ rfl
     simp only[ab.den,aJ,bT.den,cH];refine(Uh c _ ao lX ((bP hf x).trans (ga ag)) (x5 hf aq) (x5 hf a6) ?_).v
     cases l<;>cases h'<;>first|trivial|exact hn _ (List.mem_singleton.2 rfl)
    ·cases h
   ·cases h
  ·cases h
 ·cases h
theorem zhq{src dst:TypeId}{x:Operand}{r:dy}(ao:o.op= .convert src dst x)(h:MX P S src dst (S.a7 N x)=some r):iv P G N B M o S r:=fun e hf hx hn=>by
 unfold MX at h
 split at h
 ·rename_i id bj
  unfold Uv at h
  split at h
  ·rename_i bL y el ah ai
   split at h
   ·rename_i hu hd
    cases h;refine qE (f:=.cM) (hx 0 _ rfl) (Mq src dst el x ao ai hu hd (l:=y.aA e (.li .u8)) ?_)
    rw[bP hf,bj];simp only[ab.den,fB,ar.den,er,ah,Option.map_some,bO.den];rfl
   ·cases h
  ·cases h
 rename_i Bu
 split at h
 ·rename_i k ag
  split at h
  ·rename_i ai hd
   cases h;exact qE (f:=.pe k _) (hx 0 _ rfl) (Th src dst x ao (by rw[ai];rfl) hd ((bP hf x).trans (jB ag)))
  ·cases h
 ·rename_i ag
  split at h
  ·rename_i el ai
   split at h
   ·rename_i hu hd
    cases h;refine qE (f:=.cM) (hx 0 _ rfl) (Mq src dst el x ao ai hu hd (l:=(S.a7 N x).aA e (.li .u8)) ?_)
    rw[bP hf,ga ag];rfl
   ·cases h
  ·cases h
 ·cases h
theorem zhr{op:UnOp}{t:TypeId}{x:Operand}{r:dy}(ao:o.op= .unOp op t x)(h:MY S op (S.a7 N x)=some r):iv P G N B M o S r:=fun e hf hx hn=>by
 unfold MY at h
 split at h
 ·rename_i ag
  cases h;exact qE (f:=.nq) (hx 0 _ rfl) (SP t x ao ((bP hf x).trans (ga ag)))
 ·rename_i k ag
  cases h;exact qE (f:=.Bd k) (hx 0 _ rfl) (SQ t x ao ((bP hf x).trans (jB ag)))
 ·rename_i k ag
  cases h
  have fA:aL G (S.den G N B e) x=_:=(bP hf x).trans (jB ag)
  exact qE (f:=.uT k) (hx 0 _ rfl) fun _ bg w β ro h=>⟨_,by simp[execOp,ao,h.en fA,Op.unary,Op.intBits,gL.den,aN.jH],.fI rfl⟩
 ·cases h
theorem zhs{t:TypeId}{ps:Array (Nat × Operand)}{r:dy}(ao:o.op= .build t ps)(h:MZ P N S t ps.toList=some r):iv P G N B M o S r:=fun e hf hx hn=>by
 unfold MZ at h
 split at h
 ·rename_i pl zs rG aT
  split at h
  ·rename_i ad
   simp only[Bool.and_eq_true]at ad
   split at h
   ·rename_i ds hd
    cases h
    have aa:=E6 (G:=G) (e:=e) ad.2 hd
    have ae:ab.bX G e (zs.map .cs)=zs.map fun z=>.av (.v z):=by rw[e9,List.map_map];rfl
    rw[ae]at aa
    have au:(ps.toList.map fun p=>(p.1,aL G (S.den G N B e) p.2))=(ps.toList.map fun p=>(p.1,S.a7 N p.2)).map fun p=>(p.1,p.2.den G e):=by
     rw[List.map_map];exact List.map_congr_left fun p _=>by simp[bP hf]
    refine Tb t ps ao rG aT ad.1 au ?_ aa
    rw[List.all_map];refine List.all_eq_true.2 fun p ak=>?_
    have:=List.all_eq_true.1 ad.2 p ak
    simp only[Function.comp];rw[vu this];exact xY this
   ·cases h
  ·cases h
 ·cases h
theorem zht{t:TypeId}{x:Operand}{f:Nat}{r:dy}(ao:o.op= .field t x f)(h:M0 P t (S.a7 N x) f=some r):iv P G N B M o S r:=fun e hf hx hn=>by
 unfold M0 at h
 split at h
 ·rename_i l off aq ak
  split at h
  ·rename_i v ax
   cases h;exact S6 t x f ao ak (by rw[bP hf,aq];rfl) (Fh ax)
  ·cases h
 ·rename_i l off n aq ak
  split at h
  ·rename_i ad
   cases h
   have:=S7 t x f ao ak (s:=S.den G N B e) (G:=G) (cs:=ab.bX G e l) (by rw[bP hf,aq];rfl) (by rw[ml];exact Nat.le_of_ble_eq_true ad)
   simp only[ab.den];rw[e9,List.map_take,List.map_drop,←e9];exact this
  ·cases h
 ·cases h
theorem zhu{b:Builtin}{x y:Operand}{ts:Array TypeId}{r:dy}(ao:o.op= .call {callee:=.builtin b,args:=#[x,y],argTypes:=ts})(h:M1 S b (S.a7 N x) (S.a7 N y)=some r):iv P G N B M o S r:=fun e hf hx hn=>by
 unfold M1 at h
 split at h
 ·rename_i k bs aa ae
  split at h
  ·rename_i aj
   cases h
   have aj:=of_decide_eq_true aj
   subst aj;exact qD (f:=.uU k) (hx 0 _ rfl) (Ti x y ts ao ((bP hf x).trans (jB aa)) ((bP hf y).trans (jB ae)))
  ·cases h
 ·rename_i k bs aa ae
  split at h
  ·rename_i aj
   cases h
   have aj:=of_decide_eq_true aj
   subst aj;exact qD (f:=.mx k) (hx 0 _ rfl) (Tj x y ts ao ((bP hf x).trans (jB aa)) ((bP hf y).trans (jB ae)))
  ·cases h
 ·cases h
theorem zhv{t:TypeId}(h:Fc P t=true): ∃gS i,P.underlying t=some (.pointer gS)∧P.info? gS=some i∧i.size≠0:=by
 unfold Fc at h
 split at h
 ·rename_i e hu
  cases hi:P.info? e with
  |none=>rw[hi]at h;cases h
  |some i=>
   rw[hi]at h;simp only[Option.isSome_some,Bool.true_and,Option.map_some]at h;refine⟨e,i,hu,hi,fun aT=>?_⟩
   rw[aT]at h;cases h
 ·cases h
theorem Nd{id:Nat}{e:Env}(h:Br S id=true): ∃t cs,aE (S.den G N B e).heap id=some (.box t cs):=by
 unfold Br at h
 split at h
 ·rename_i t l ah
  exact⟨t,ab.bX G e l,by simp only[ar.den,er,ah,Option.map_some,bO.den]⟩
 ·cases h
theorem UB{s:aQ}{b:Bool}{g:ab}{r:dy}{e:Env}(h:Fe S b g=some r)(hx: ∀(j:Nat) (x:bT),r.xs[j]? =some x→Env.at e (S.k+j)=x.den M e)(ai:cY P G o s (.av (.v (.bool (bif b then g.aA e .bool else !(g.aA e .bool)))))):cY P G o s (r.v.den G e):=by
 unfold Fe at h
 split at h
 ·rename_i ag
  cases h
  have:=ga (G:=G) (e:=e) ag
  show cY P G o s (g.den G e);rw[this];exact ai
 ·rename_i ag
  cases h;exact qE (f:=.nq) (hx 0 _ rfl) ai
 ·cases h
theorem zhw{tp gS:TypeId}{j:TypeInfo}(w:World)(a:Addr)(ak:P.underlying tp=some (.pointer gS))(zhx:P.info? gS=some j):(Op.equal tp (.pointer (some a)) (.pointer (some a))).run P w= .ok true w:=by
 have h: ∀d:Nat,(Op.equalIn (d+1) tp (.pointer (some a)) (.pointer (some a))).run P w= .ok true w:=fun d=>by
  simp[Op.equalIn,run_underlying ak,sizeOf,typeInfo,zhx,run_sameAddr_same]
 exact h 9999
theorem eq_nil{tp gS:TypeId}(w:World)(q:Option Addr)(ak:P.underlying tp=some (.pointer gS)):(Op.equal tp (.pointer none) (.pointer q)).run P w= .ok q.isNone w:=by
 have h: ∀d:Nat,(Op.equalIn (d+1) tp (.pointer none) (.pointer q)).run P w= .ok q.isNone w:=fun d=>by
  cases q<;>simp[Op.equalIn,run_underlying ak]
 exact h 9999
theorem Fk{s:aQ}{op:BinOp}{cE ty:TypeId}{x y:Operand}{b c:Bool}(ao:o.op= .binOp op cE x y ty)(aH:Fc P cE=true)(ad:M3 op=some b)
 (h: ∀E a w β ro,dc E G s a w β ro→∃p q,a.eval x= .pointer p∧a.eval y= .pointer q∧((q=none∧c=p.isNone)∨(p=none∧c=q.isNone)∨(∃c8,p=some c8∧q=some c8∧c=true))):cY P G o s (.av (.v (.bool (bif b then c else !c)))):=
 fun E a w β ro ag=>by
  obtain⟨gS,i,hu,hi,bV⟩:=zhv aH;obtain⟨p,q,aa,ae,au⟩:=h E a w β ro ag;refine⟨.bool (bif b then c else !c),?_,.fI rfl⟩
  have zhy:P.underlying cE=some (.pointer (P.pointee cE)):=by rw[hu];simp[Program.pointee,hu]
  have heq:(Op.equal cE (.pointer p) (.pointer q)).run P w= .ok c w:=by
   rcases au with⟨rfl,rfl⟩|⟨rfl,rfl⟩|⟨c8,rfl,rfl,rfl⟩
   ·exact run_equal_pointer_nil w cE p zhy
   ·exact eq_nil w q hu
   ·exact zhw w c8 hu hi
  unfold M3 at ad
  split at ad
  ·cases ad
   have:(binOp .eql cE (.pointer p) (.pointer q)).run P w= .ok (.bool c) w:=by
    simp only[binOp];simp[heq]
   simp[execOp,ao,aa,ae,eqGuard_at_pointer,this]
  ·cases ad
   have:(binOp .neq cE (.pointer p) (.pointer q)).run P w= .ok (.bool (!c)) w:=by
    simp only[binOp];simp[heq]
   simp[execOp,ao,aa,ae,eqGuard_at_pointer,this]
  ·cases ad
theorem Bv{E:Entry}{s:aQ}{a:Act}{w:World}{β:Nat→Value}{ro:Nat→Prop}{x:Operand}(ag:dc E G s a w β ro)(hx:aL G s x= .av (.v (.pointer none))):a.eval x= .pointer none:=ag.en hx
theorem tr{E:Entry}{s:aQ}{a:Act}{w:World}{β:Nat→Value}{ro:Nat→Prop}{x:Operand}{id off:Nat}{t:TypeId}{cs:List aD}(ag:dc E G s a w β ro)(hx:aL G s x= .ptr id off)(ah:aE s.heap id=some (.box t cs)):
 ∃b,β id= .pointer (some ⟨b,0,none⟩)∧a.eval x= .pointer (some ⟨b,off,none⟩):=by
 have h:=ag.eval x
 rw[hx]at h
 generalize hc:a.eval x=c at h
 cases h with
 |ptr _ _ _ aq ak=>exact ak _ _ ah
theorem zhz{op:BinOp}{cE ty:TypeId}{x y:Operand}{r:dy}(ao:o.op= .binOp op cE x y ty)(h:M4 P S op cE (S.a7 N x) (S.a7 N y)=some r):iv P G N B M o S r:=fun e hf hx hn=>by
 unfold M4 at h
 split at h
 rotate_left
 ·cases h
 rename_i b aH ad
 split at h
 ·rename_i aa ae
  cases h
  have:=Fk (G:=G) (s:=S.den G N B e) (c:=true) ao aH ad fun E a w β ro ag=>⟨none,none,Bv ag (by rw[bP hf,aa];rfl),Bv ag (by rw[bP hf,ae];rfl),.inl ⟨rfl,rfl⟩⟩
  cases b<;>exact this
 ·rename_i i q j q' aa ae
  split at h
  ·rename_i hc
   cases h;simp only[Bool.and_eq_true]at hc;obtain⟨⟨aM,dg⟩,cn⟩:=hc
   have aM:=Nat.eq_of_beq_eq_true aM
   have dg:=Nat.eq_of_beq_eq_true dg
   subst aM dg;obtain⟨bt,cs,ah⟩:=Nd (G:=G) (N:=N) (B:=B) (e:=e) cn
   have:=Fk (G:=G) (s:=S.den G N B e) (c:=true) ao aH ad fun E a w β ro ag=>by
    obtain⟨gZ,g1,g2⟩:=tr ag (by rw[bP hf,aa];rfl) ah
    obtain⟨jt,g3,g4⟩:=tr ag (by rw[bP hf,ae];rfl) ah
    rw[g1]at g3
    cases g3
    exact⟨_,_,g2,g4,.inr (.inr ⟨_,rfl,rfl,rfl⟩)⟩
   cases b<;>exact this
  ·cases h
 ·rename_i g i off aa ae
  split at h
  ·rename_i hc
   obtain⟨bt,cs,ah⟩:=Nd (G:=G) (N:=N) (B:=B) (e:=e) hc;refine UB h hx ?_
   have:=Fk (G:=G) (s:=S.den G N B e) (c:=!(g.aA e .bool)) ao aH ad fun E a w β ro ag=>by
    have Fl:a.eval y= .pointer none:=Bv ag (by rw[bP hf,ae];rfl)
    have hd:aL G (S.den G N B e) x=(ab.fp g (some i) off).den G e:=by rw[bP hf,aa]
    simp only[ab.den]at hd
    cases tt:g.aA e .bool with
    |true=>
     rw[tt]at hd;obtain⟨gZ,g1,g2⟩:=tr ag hd ah;exact⟨_,_,g2,Fl,.inl ⟨rfl,rfl⟩⟩
    |false=>
     rw[tt]at hd;exact⟨_,_,Bv ag hd,Fl,.inl ⟨rfl,rfl⟩⟩
   cases b<;>simpa using this
  ·cases h
 ·rename_i g i q j q' aa ae
  split at h
  ·rename_i hc
   simp only[Bool.and_eq_true]at hc;obtain⟨⟨aM,dg⟩,cn⟩:=hc
   have aM:=Nat.eq_of_beq_eq_true aM
   have dg:=Nat.eq_of_beq_eq_true dg
   subst aM dg;obtain⟨bt,cs,ah⟩:=Nd (G:=G) (N:=N) (B:=B) (e:=e) cn;refine UB h hx ?_
   refine Fk (G:=G) (s:=S.den G N B e) (c:=g.aA e .bool) ao aH ad fun E a w β ro ag=>?_
   obtain⟨jt,g3,g4⟩:=tr ag (by rw[bP hf,ae];rfl) ah
   have hd:aL G (S.den G N B e) x=(ab.fp g (some i) q).den G e:=by rw[bP hf,aa]
   simp only[ab.den]at hd
   cases tt:g.aA e .bool with
   |true=>
    rw[tt]at hd;obtain⟨gZ,g1,g2⟩:=tr ag hd ah;rw[g1]at g3
    cases g3
    exact⟨_,_,g2,g4,.inr (.inr ⟨_,rfl,rfl,rfl⟩)⟩
   |false=>
    rw[tt]at hd;exact⟨_,_,Bv ag hd,g4,.inr (.inl ⟨rfl,rfl⟩)⟩
  ·cases h
 ·cases h
theorem UC{E:Entry}{s:aQ}{a:Act}{w:World}{β:Nat→Value}{ro:Nat→Prop}{id off b:Nat}{t:TypeId}{cs:List aD}(ag:dc E G s a w β ro)(ah:aE s.heap id=some (.box t cs))(ad:β id= .pointer (some ⟨b,0,none⟩))(aq:off<cs.length):
 ∃arr v,w.heap[b]? =some (.cells arr t (0,0))∧arr.size=cs.length∧w.cell? ⟨b,off,none⟩=some v:=by
 have du:=ag.heap.dh id _ ah
 cases du with
 |box _ _ b' arr aa ae au aR=>
  rw[ad]at aa;simp only[Value.pointer.injEq,Option.some.injEq,Addr.mk.injEq,and_true]at aa;subst aa;refine⟨arr,arr[off]'(by omega),ae,au,?_⟩
  have bM:off<arr.size:=by omega
  simp[World.cell?,ae,bM]
theorem zhA{src dst:TypeId}{x:Operand}{r:dy}(ao:o.op= .convert src dst x)(h:M5 P S src dst (S.a7 N x)=some r):iv P G N B M o S r:=fun e hf hx hn=>by
 unfold M5 at h
 split at h
 rotate_left
 ·cases h
 rename_i id off ax
 have hd:aL G (S.den G N B e) x= .ptr id off:=by rw[bP hf,ax];rfl
 split at h
 ·rename_i bt l t ah ai qv
  split at h
  ·rename_i aT bM
   cases h;rw[ax]
   have a6:aE (S.den G N B e).heap id=some (.box bt (ab.bX G e l)):=by simp only[ar.den,er,ah,Option.map_some,bO.den]
   intro E a w β ro ag;obtain⟨b,ad,he⟩:=tr ag hd a6;obtain⟨arr,v,_,_,hc⟩:=UC (off:=off) ag a6 ad (by rw[ml];exact fa bM)
   refine⟨.pointer (some ⟨b,off,none⟩),?_,by have:=ag.eval x;rw[hd,he]at this;exact this⟩
   simp only[execOp,ao,he,Sem.run_bind,run_convert_to_unsafe ai qv aT hc,Result.andThen_ok,Sem.run_pure]
  ·cases h
 ·rename_i bt l u ah ai qv
  split at h
  ·rename_i x6 bM
   cases h;rw[ax]
   have a6:aE (S.den G N B e).heap id=some (.box bt (ab.bX G e l)):=by simp only[ar.den,er,ah,Option.map_some,bO.den]
   intro E a w β ro ag;obtain⟨b,ad,he⟩:=tr ag hd a6;obtain⟨arr,v,e0,bV,hc⟩:=UC (off:=off) ag a6 ad (by rw[ml];exact fa bM)
   refine⟨.pointer (some ⟨b,off,none⟩),?_,by have:=ag.eval x;rw[hd,he]at this;exact this⟩
   rw[ml]at bV
   have UD:w.shape? b=some (bt,l.length):=by simp[World.shape?,e0,bV]
   have zhB:(convert src dst (.pointer (some ⟨b,off,none⟩))).run P w= .ok (.pointer (some ⟨b,off,none⟩)) w:=by
    rw[Bool.and_eq_true]at x6;obtain⟨i,hi⟩:=Option.isSome_iff_exists.1 x6.2
    have x6:=x6.1
    by_cases aT:i.size=0
    ·simp[convert,Conv.unsafePointer,Conv.seenAt,viewAt,variablesAt,sizeOf,typeInfo,run_underlying ai,run_underlying qv,hi,aT,UD,x6,Result.andThen]
    ·simp[convert,Conv.unsafePointer,Conv.seenAt,viewAt,variablesAt,sizeOf,typeInfo,run_underlying ai,run_underlying qv,hi,aT,UD,x6,Result.andThen]
   simp only[execOp,ao,he,Sem.run_bind,zhB,Result.andThen_ok,Sem.run_pure]
  ·cases h
 ·cases h
theorem zhC{t:TypeId}{x:Operand}{r:dy}(ao:o.op= .slice t x none none none)(h:M6 P S t (S.a7 N x)=some r):iv P G N B M o S r:=fun e hf hx hn=>by
 unfold M6 at h
 split at h
 ·rename_i id n el ax aH
  split at h
  ·rename_i bt l ah hc
   cases h;simp only[Bool.and_eq_true]at hc
   have jv:=fa hc.1
   obtain⟨zmb,m8⟩:=Option.isSome_iff_exists.1 hc.2
   have hd:aL G (S.den G N B e) x= .ptr id 0:=by rw[bP hf,ax];rfl
   have a6:aE (S.den G N B e).heap id=some (.box bt (ab.bX G e l)):=by simp only[ar.den,er,ah,Option.map_some,bO.den]
   intro E a w β ro ag;obtain⟨b,ad,he⟩:=tr ag hd a6
   have ea:=ag.eval x
   rw[hd,he]at ea
   have bM:id<(S.den G N B e).next:=by cases ea with|ptr _ _ _ aq _=>exact aq
   refine⟨.slice (some ⟨b,0,none⟩) n n,?_,.dF _ _ _ bM fun _ _ _=>⟨b,ad,rfl⟩⟩
   have b9: ¬n=0:=by omega
   simp[execOp,ao,he,Instr.sliceAt,run_underlying aH,Instr.sureAddr,Instr.sliceBounds,sizeOf,typeInfo,m8,b9,addLit,Result.andThen]
  ·cases h
 ·cases h
theorem UE{e:Env}: ∀{l:List ab},mJ e .u8 (l.map fun x=>.cr [x])=l.map fun x=>x.aA e (.int .u8)
 |[]=>rfl
 |x::r=>by
  simp only[List.map_cons,mJ,UE (l:=r)];rfl
theorem UF{e:Env}: ∀{l:List ab},l.all (ab.eE (.int .u8))=true→ab.bX G e l=(l.map fun x=>x.aA e (.int .u8)).map fun n=>aD.av (.v (.int .u8 n))
 |[],_=>rfl
 |x::r,h=>by
  simp only[List.all_cons,Bool.and_eq_true]at h;simp only[ab.bX,List.map_cons,EO h.1,UF h.2]
theorem zhD{src dst:TypeId}{x:Operand}{r:dy}(ao:o.op= .convert src dst x)(h:M7 P S src dst (S.a7 N x)=some r):iv P G N B M o S r:=fun e hf hx hn=>by
 unfold M7 at h
 split at h
 ·rename_i id n el ax ai
  split at h
  ·rename_i bt l ah hu qv
   split at h
   ·rename_i hc
    cases h;simp only[Bool.and_eq_true]at hc
    have jv:=Nat.eq_of_beq_eq_true hc.1
    have aJ:=hx 0 _ rfl
    have aa:=hx 1 _ rfl
    simp only[Nat.add_zero,bT.den,gL.den,gL.a,gL.c]at aJ aa
    have aq:(ab.aV (.li .u8) S.k).aA e (.li .u8)=l.map fun x=>x.aA e (.int .u8):=by
     simp only[ab.aA,ab.fw,ab.dyn,aJ,cH];exact UE
    rw[aq]at aa;simp only[ab.den,aa,cH,fL,kg];generalize hm:(l.map fun x=>x.aA e (.int .u8))=m
    have ny:m.length=n:=by rw[←hm,List.length_map,jv]
    have hd:aL G (S.den G N B e) x= .dF id n:=by rw[bP hf,ax];rfl
    have a6:aE (S.den G N B e).heap id=some (.box bt (m.map fun n=>.av (.v (.int .u8 n)))):=by
     simp only[ar.den,er,ah,Option.map_some,bO.den];rw[UF hc.2,hm]
    intro E a w β ro ag
    have ea:=ag.eval x
    rw[hd]at ea;generalize iU:a.eval x=c at ea
    cases ea with
    |dF _ _ _ aq ak=>
     obtain⟨b,ad,rfl⟩:=ak _ _ a6
     have e0: ∀(j:Nat) (v:Value),(m.map (Value.int .u8))[j]? =some v→w.cell? ((⟨b,0,none⟩:Addr).add j)=some v:=fun j v af=>by
      have du:=ag.heap.dh id _ a6
      cases du with
      |box _ _ b' arr g1 g2 g3 g4=>
       rw[ad]at g1;simp only[Value.pointer.injEq,Option.some.injEq,Addr.mk.injEq,and_true]at g1;subst g1;rw[List.getElem?_map]at af
       obtain⟨z,aT,rfl⟩:=Option.map_eq_some_iff.1 af
       have bM:j<arr.size:=by rw[g3,List.length_map];exact(List.getElem?_eq_some_iff.1 aT).1
       have Fm:=g4 j (.av (.v (.int .u8 z))) (by rw[List.getElem?_map,aT];rfl)
       rw[Array.getD_eq_getD_getElem?,Array.getElem?_eq_getElem bM,Option.getD_some]at Fm
       have zhE:arr[j]= .int .u8 z:=bG.val Fm
       rw[addLit,Nat.zero_add];simp[World.cell?,g2,bM,zhE]
     have Ep:=run_loadCells_list (P:=P) (w:=w) ⟨b,0,none⟩ (m.map (Value.int .u8)) e0
     refine⟨.string (bytesOf m),?_,.fI rfl⟩
     have cA:(convert src dst (.slice (some ⟨b,0,none⟩) n n)).run P w= .ok (.string (bytesOf m)) w:=by
      rw[run_convert_bytes_string w src dst el (some ⟨b,0,none⟩) n n ai hu qv,←ny];exact run_bytesToString w ⟨b,0,none⟩ m.length m.length m (by simpa using Ep)
     simp[execOp,ao,iU,cA]
   ·cases h
  ·cases h
 ·cases h
theorem Fo{G:bc}{e:Env}: ∀{l:List ab} {rs:List aW},pA l=some rs→ab.bX G e l=(fX e rs l).map fun d=>.av d.av
 |[],_,h=>by cases h;rfl
 |x::r,_,h=>by
  simp only[pA]at h
  split at h
  ·rename_i t l aa ae
   cases h;simp only[ab.bX,ga aa,Fo ae,fX,List.map_cons];rfl
  ·cases h
theorem UG{t:TypeId}(h:Ff P t=false): ∃d,P.underlying t=some d∧∀m,d≠ .interface m:=by
 unfold Ff at h
 split at h
 ·cases h
 ·cases h
 ·rename_i d hd hn
  cases hu:P.underlying t with
  |none=>exact absurd hu hn
  |some d=>exact⟨d,rfl,fun m e=>hd m (by rw[hu,e])⟩
theorem zhF{w:World}{ro:Nat→Prop}{σ:Heap}{β:Nat→Value}{M:Nat}{t:TypeId}{ys:List ba}{c:Value}(h:bG w ro σ β M (.agg (ys.map .av)) c):cZ w ro (.eB t true ys) (.iface t c):=by
 generalize aT:ys.map aD.av=zs at h
 cases h with
 |agg _ arr aa ae=>
  subst aT;refine .eB t true ys _ (fun i=>arr.getD i undef) ⟨arr,rfl,by rw[aa,List.length_map],fun i _=>rfl⟩ fun i x hx=>?_
  have:=ae i (.av x) (by rw[List.getElem?_map,hx];rfl)
  cases this with
  |av _ _ q=>exact q
theorem UH{w:World}{ro:Nat→Prop}{σ:Heap}{β:Nat→Value}{M:Nat}{t:TypeId}{ys:List ba}{c:Value}(h:cZ w ro (.eB t true ys) (.iface t c)):bG w ro σ β M (.agg (ys.map .av)) c:=by
 cases h with
 |eB _ _ _ _ p aa ae=>
  obtain⟨arr,rfl,au,aR⟩:=aa;refine .agg _ arr (by rw[au,List.length_map]) fun j x af=>?_
  rw[List.getElem?_map]at af
  obtain⟨y,ay,rfl⟩:=Option.map_eq_some_iff.1 af
  have aq:=(List.getElem?_eq_some_iff.1 ay).1
  rw[aR j aq];exact .av _ _ (ae j y ay)
theorem zhG{t:TypeId}{x:Operand}{r:dy}(ao:o.op= .makeInterface t x)(h:M8 P t (S.a7 N x)=some r):iv P G N B M o S r:=fun e hf hx hn=>by
 unfold M8 at h
 split at h
 ·cases h
 rename_i hi
 obtain⟨d,hd,eW⟩:=UG hi
 have cA: ∀(v:Value) (w:World),(Instr.makeInterface t v).run P w= .ok (.iface t v) w:=fun v w=>by
  unfold Instr.makeInterface
  cases d<;>first|exact absurd rfl (eW _)|simp[run_underlying hd,Result.andThen]
 split at h
 ·rename_i l ax
  split at h
  ·rename_i rs gi
   cases h;intro E a w β ro ag
   have ea:=ag.eval x
   rw[bP hf,ax]at ea;simp only[ab.den,Fo gi]at ea;rw[show((fX e rs l).map fun d=>aD.av d.av)=((fX e rs l).map aF.av).map .av by rw[List.map_map];rfl]at ea
   exact⟨_,by simp[execOp,ao,cA],.av _ _ (zhF ea)⟩
  ·cases h
 ·rename_i Fp
  split at h
  ·rename_i rt Bt
   cases h;intro E a w β ro ag
   have ea:=ag.eval x
   rw[bP hf,ga Bt]at ea;refine⟨_,by simp[execOp,ao,cA];rfl,?_⟩
   cases ea with
   |av _ _ q=>
    refine .av _ _ (.eB t false _ _ (fun _=>a.eval x) ⟨rfl,rfl⟩ fun i y ay=>?_)
    cases i with
    |zero=>
     simp only[fX,List.map_cons,List.map_nil,List.getElem?_cons_zero,Option.some.injEq]at ay
     subst ay;exact q
    |succ i=>simp[fX]at ay
  ·cases h
theorem zhH{e:Env}{x:Operand}{u:TypeId}{cr:Bool}{rs:List aW}{l:List ab}{y:ab}(hf: ∀c∈S.g,c.ok e)(ax:S.a7 N x= .eB u cr rs l)(ay:rZ cr l=some y)(gi:pA l=some rs){E:Entry}{a:Act}{w:World}{β:Nat→Value}{ro:Nat→Prop}(ag:dc E G (S.den G N B e) a w β ro):
 ∃v,a.eval x= .iface u v∧bG w ro (S.den G N B e).heap β (S.den G N B e).next (y.den G e) v:=by
 have ea:=ag.eval x
 rw[bP hf,ax]at ea
 simp only[ab.den]at ea
 generalize hc:a.eval x=pe at ea
 cases ea with
 |av _ _ q=>
  cases q with
  |eB _ _ _ v p aa ae=>
   refine⟨v,rfl,?_⟩
   unfold rZ at ay
   split at ay
   ·cases ay
    have:=UH (σ:=(S.den G N B e).heap) (β:=β) (M:=(S.den G N B e).next) (.eB u _ _ v p aa ae)
    rw[List.map_map]at this;simp only[ab.den,Fo gi];exact this
   ·rename_i an
    cases ay;simp only[pA]at gi
    split at gi
    ·rename_i zhI qA sX wE
     cases wE
     cases gi;rw[ga sX];obtain⟨_,rfl⟩:=aa;exact .av _ _ (ae 0 _ rfl)
    ·cases gi
   ·cases ay
theorem zhJ{k:Nat}{cr:Bool}{l:List ab}{y:ab}(h:ab.cV k l=true)(ay:rZ cr l=some y):y.lt k=true:=by
 unfold rZ at ay
 split at ay
 ·cases ay;exact h
 ·cases ay;simp only[ab.cV,Bool.and_true]at h;exact h
 ·cases ay
theorem zhK{x:Operand}{tu t:TypeId}{c:Bool}{r:dy}(ao:o.op= .typeAssert x tu t c)(h:Na P t (S.a7 N x) c=some r):iv P G N B M o S r:=fun e hf hx hn=>by
 unfold Na at h
 split at h
 rotate_left
 ·cases h
 rename_i u cr rs l ax hi
 obtain⟨d,hd,eW⟩:=UG hi
 have aE: ∀{E:Entry} {a:Act} {w:World} {β:Nat→Value} {ro:Nat→Prop},dc E G (S.den G N B e) a w β ro→∃v,a.eval x= .iface u v∧cZ w ro (.eB u cr ((fX e rs l).map aF.av)) (.iface u v):=fun {E a w β ro} ag=>by
  have ea:=ag.eval x
  rw[bP hf,ax]at ea;simp only[ab.den]at ea;generalize hc:a.eval x=pe at ea
  cases ea with
  |av _ _ q=>
   cases q with
   |eB _ _ _ v p aa ae=>exact⟨v,rfl,.eB _ _ _ v p aa ae⟩
 have sZ: ∀{y:ab} {w:World} {β:Nat→Value} {ro:Nat→Prop} {v:Value},rZ cr l=some y→pA l=some rs→cZ w ro (.eB u cr ((fX e rs l).map aF.av)) (.iface u v)→bG w ro (S.den G N B e).heap β (S.den G N B e).next (y.den G e) v:=fun {y w β ro v} ay gi q=>by
  unfold rZ at ay
  split at ay
  ·cases ay
   have:=UH (σ:=(S.den G N B e).heap) (β:=β) (M:=(S.den G N B e).next) q
   rw[List.map_map]at this;simp only[ab.den,Fo gi];exact this
  ·rename_i an
   cases ay;simp only[pA]at gi
   split at gi
   ·rename_i zhI qA aa ae
    cases ae;cases gi;rw[ga aa]
    cases q with
    |eB _ _ _ _ p g1 g2=>
     obtain⟨_,rfl⟩:=g1;exact .av _ _ (g2 0 _ rfl)
   ·cases gi
  ·cases ay
 have UI: ∀(v:Value) (w:World),u=t→(Instr.typeAssert (.iface u v) tu t c).run P w= .ok (match c with|true=>.tuple #[v,.bool true]|false=>v) w:=fun v w vz=>by
  unfold Instr.typeAssert
  cases d<;>first|exact absurd rfl (eW _)|(cases c<;>simp[run_underlying hd,Result.andThen,vz])
 split at h
 ·rename_i ad _
  have vz:=Nat.eq_of_beq_eq_true ad
  split at h
  ·rename_i y ay gi
   cases h;intro E a w β ro ag;obtain⟨v,ea,q⟩:=aE ag;refine⟨.tuple #[v,.bool true],by simp[execOp,ao,ea,UI v w vz],.tuple _ _ rfl fun j z af=>?_⟩
   match j,af with
   |0,af=>simp[ab.den,ab.bX]at af;subst af;exact sZ ay (of_decide_eq_true gi) q
   |1,af=>simp[ab.den,ab.bX]at af;subst af;exact .fI rfl
   |j+2,af=>simp[ab.den,ab.bX]at af
  ·cases h
 ·rename_i ad _
  have vz:=Nat.eq_of_beq_eq_true ad
  split at h
  ·rename_i y ay gi
   cases h;intro E a w β ro ag;obtain⟨v,ea,q⟩:=aE ag;exact⟨v,by simp[execOp,ao,ea,UI v w vz],sZ ay (of_decide_eq_true gi) q⟩
  ·cases h
 ·rename_i ad _
  have vz: ¬u=t:=fun e=>by subst e;rw[show Nat.beq u u=true from Nat.beq_refl u]at ad;cases ad
  split at h
  ·rename_i z aT
   split at h
   ·rename_i np
    cases h;intro E a w β ro ag;obtain⟨v,ea,q⟩:=aE ag
    have EG:(zeroValue t).run P w= .ok z w:=by
     cases hi:P.info? t with
     |none=>rw[hi]at aT;cases aT
     |some i=>
      rw[hi]at aT
      have pg:i.zero=some z:=aT
      simp[zeroValue,typeInfo,hi,pg]
    have cA:(Instr.typeAssert (.iface u v) tu t true).run P w= .ok (.tuple #[z,.bool false]) w:=by
     unfold Instr.typeAssert
     cases d<;>first|exact absurd rfl (eW _)|simp[run_underlying hd,Result.andThen,vz,EG]
    have zhL:(M9 z).den G e=nn z:=by
     clear cA EG np aT
     cases z with
     |agg a=>
      simp only[M9,nn,ab.den,e9,List.map_map];rfl
     |_=>rfl
    refine⟨.tuple #[z,.bool false],by simp[execOp,ao,ea,cA],.tuple _ _ rfl fun j y af=>?_⟩
    match j,af with
    |0,af=>simp[ab.den,ab.bX]at af;subst af;rw[zhL];exact Mk np
    |1,af=>simp[ab.den,ab.bX]at af;subst af;exact .fI rfl
    |j+2,af=>simp[ab.den,ab.bX]at af
   ·cases h
  ·cases h
 ·cases h
theorem vA{r:dy}(h:qG P N S o=some r):iv P G N B M o S r:=by
 unfold qG at h
 split at h
 ·rename_i x ao
  cases h;exact .nil fun e hf=>by have:=Sk (P:=P) (G:=G) (s:=S.den G N B e) x ao;rw[bP hf]at this;exact this
 ·rename_i x ao
  cases h;exact .nil fun e hf=>by have:=Sl (P:=P) (G:=G) (s:=S.den G N B e) x ao;rw[bP hf]at this;exact this
 ·exact zhh (by assumption) h
 ·rename_i x i ao
  split at h
  ·rename_i l aq
   split at h
   ·rename_i v ax
    cases h;exact .nil fun e hf=>SR x i ao (by rw[bP hf,aq];rfl) (Fh ax)
   ·cases h
  ·cases h
 ·rename_i x ao
  split at h
  ·rename_i ak
   cases h
   exact .nil fun e hf=>by
    have:=Sq (P:=P) (G:=G) (s:=S.den G N B e) x ao (by rw[bP hf];exact vv ak)
    rw[bP hf]at this;exact this
  ·cases h
 ·rename_i t x f ao
  split at h
  ·rename_i k aj ak
   split at h
   ·rename_i p ai
    cases h
    exact .nil fun e hf=>by
     have:=Sp (P:=P) (G:=G) (s:=S.den G N B e) t x f ao aj (by rw[bP hf];exact vv ak)
     rw[bP hf,Bq ai]at this;exact this
   ·cases h
  ·cases h
 ·exact zho (by assumption) h
 ·exact zht (by assumption) h
 ·exact zhn (by assumption) h
 ·exact zhi (by assumption) h
 ·split at h
  ·rename_i aK
   cases h;exact zg9 (by assumption) aK
  ·exact zhz (by assumption) h
 ·exact zhr (by assumption) h
 ·split at h
  ·rename_i aK
   cases h;exact zhq (by assumption) aK
  ·split at h
   ·rename_i aK
    cases h;exact zhA (by assumption) aK
   ·exact zhD (by assumption) h
 ·exact zhs (by assumption) h
 ·rename_i f p q ao
  cases h
  exact .nil fun e hf=>by
   have:=zgf (P:=P) (G:=G) (s:=S.den G N B e) ao
   simp only[ab.den];rw[e9,e9,List.map_map,List.map_map]
   have aa: ∀l:List Operand,l.map (aL G (S.den G N B e))=l.map (ab.den G e∘S.a7 N):=fun l=>List.map_congr_left fun x _=>bP hf x
   rw[aa,aa]at this;exact this
 ·exact zhG (by assumption) h
 ·exact zhK (by assumption) h
 ·exact zhe (by assumption) h
 ·split at h
  ·rename_i aK
   cases h;exact UA (by assumption) aK
  ·exact zhC (by assumption) h
 ·exact UA (by assumption) h
 ·rename_i c ao
  split at h
  ·rename_i x t hc hx aH
   obtain⟨callee,args,ts⟩:=c;simp only at hc hx aH;rw[hc,TL hx,TL aH]at ao;exact zhp ao h
  ·rename_i b x y hc hx
   obtain⟨callee,args,ts⟩:=c;simp only at hc hx;rw[hc,A2 hx]at ao;exact zhu ao h
  ·rename_i f hc
   obtain⟨callee,args,ts⟩:=c;simp only at hc;rw[hc]at ao;exact zhm ao rfl h
  ·cases h
 ·cases h
end
end Go.aN
