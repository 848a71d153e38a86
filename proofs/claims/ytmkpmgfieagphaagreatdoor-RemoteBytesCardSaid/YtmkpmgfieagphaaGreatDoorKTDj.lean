/- TD, part H: operations that give values, computed. Conditions: none. -/
import Derived.Test.YtmkpmgfieagphaaGreatDoorKTDg
import Derived.Laws.Externs
import Derived.Laws.LoneSync
import Derived.LaidEqlPtr
namespace Go.aL
open Go
structure dt where
 xs:List bK
 ns:List ff
 v:ab
def ab.rt:ab→Option aV
 | .aU r _=>match r.one with
  |true=>some r
  |false=>none
 | .fd _ _ _ r=>match r.one with
  |true=>some r
  |false=>none
 | .cs (.int k _)=>some (.int k)
 | .cs (.bool _)=>some .bool
 | .cs (.string _)=>some .str
 |_=>none
theorem AB(r:aV):hT r r=true:=decide_eq_true rfl
theorem Lg{x:ab}{r:aV}(h:x.rt=some r):x.ez r=true∧x.isNil=false:=by
 unfold ab.rt at h
 split at h
 ·split at h
  ·rename_i aa;cases h;exact⟨by simp[ab.ez,AB,aa],rfl⟩
  ·cases h
 ·split at h
  ·rename_i aa;cases h;exact⟨by simp[ab.ez,AB,aa],rfl⟩
  ·cases h
 ·cases h;exact⟨by simp[ab.ez,AB],rfl⟩
 ·cases h;exact⟨by simp[ab.ez,AB],rfl⟩
 ·cases h;exact⟨by simp[ab.ez,AB],rfl⟩
 ·cases h
theorem fY{G:a8}{e:Env}{x:ab}{r:aV}(h:x.rt=some r):x.den G e= .av (fH r (x.az e r)):=DZ (Lg h).1 (Lg h).2
theorem jx{G:a8}{e:Env}{x:ab}{k:IntKind}(h:x.rt=some (.int k)):x.den G e= .av (.v (.int k (x.az e (.int k)))):=fY h
theorem lT{e:Env}{x:ab}{k:IntKind}(h:x.rt=some (.int k)):cm (x.dyn e)=x.az e (.int k):=by
 obtain⟨aa,ae⟩:=Lg h
 unfold ab.az
 rw[SG ae]
 cases x with
 |aU q i=>
  simp only[ab.ez,Bool.and_eq_true]at aa
  cases hs aa.1
  simp only[ab.dyn,cB,cm]
 |fd c i j q=>
  simp only[ab.ez,Bool.and_eq_true]at aa
  cases hs aa.1
  simp only[ab.dyn,cB,cm]
 |cs v=>
  cases v with
  |int bk n=>
   cases hs aa
   simp only[ab.dyn,cB,cm]
  |bool b=>cases hs aa
  |string s=>cases hs aa
  |slice a n c=>unfold ab.ez at aa;split at aa<;>first|cases aa|simp_all
  |_=>cases aa
 |_=>cases aa
def isLen(f:gG)(x:ab)(n:Nat):List b5→Bool
 |[]=>false
 | .d1 i g y::r=>match Nat.beq i n&&(decide (g=f)&&Aw y x)with
  |true=>true
  |false=>isLen f x n r
 |_::r=>isLen f x n r
theorem xx{f:gG}{x:ab}{n:Nat}{e:Env}: ∀{l:List b5},isLen f x n l=true→(∀c∈l,c.ok e)→Env.at e n=⟨f.c,f.den (x.az e f.a)⟩
 | .d1 i g y::r,h,hc=>by
  simp only[isLen]at h
  split at h
  ·rename_i ad
   simp only[Bool.and_eq_true,decide_eq_true_eq]at ad
   have:=hc (.d1 i g y) (by simp)
   simp only[b5.ok]at this;rw[←Nat.eq_of_beq_eq_true ad.1,this,ad.2.1,La ad.2.2]
  ·exact xx h fun c hm=>hc c (by simp[hm])
 | .d2 _ _ _ _::r,h,hc=>xx (l:=r) h fun c hm=>hc c (by simp[hm])
 | .rg _ _::r,h,hc=>xx (l:=r) h fun c hm=>hc c (by simp[hm])
 | .dU _ _::r,h,hc=>xx (l:=r) h fun c hm=>hc c (by simp[hm])
def SZ(f:gG)(x:ab)(i:Nat)(all:List b5):b5→Bool
 | .rg j (.aU (.int .i64) n)=>Nat.beq i j&&isLen f x n all
 |_=>false
def Ee(f:gG)(x:ab)(i:Nat)(all:List b5):List b5→Bool
 |[]=>false
 |c::r=>match SZ f x i all c with
  |true=>true
  |false=>Ee f x i all r
theorem Lh{f:gG}{x:ab}{i:Nat}{e:Env}{all:List b5}{L:Int}(fL: ∀n,isLen f x n all=true→Env.at e n=⟨.int .i64,L⟩): ∀{l:List b5},Ee f x i all l=true→(∀c∈l,c.ok e)→0≤cm (Env.at e i)∧cm (Env.at e i)<L
 |c::r,h,hc=>by
  simp only[Ee]at h
  split at h
  ·rename_i ad
   unfold SZ at ad
   split at ad
   ·rename_i j n
    simp only[Bool.and_eq_true]at ad
    have aa:=hc (.rg j (.aU (.int .i64) n)) (by simp)
    simp only[b5.ok,ab.dyn,fL n ad.2,cB,cm]at aa;rw[←Nat.eq_of_beq_eq_true ad.1]at aa;exact aa
   ·cases ad
  ·exact Lh fL h fun c hm=>hc c (by simp[hm])
def AD(len j:Nat):List b5→Bool
 | .rg i (.cs (.int _ (.ofNat m)))::r=>(Nat.beq i j&&Nat.ble m len)||AD len j r
 |_::r=>AD len j r
 |[]=>false
theorem Li{len j:Nat}{e:Env}: ∀{l:List b5},AD len j l=true→(∀c∈l,c.ok e)→0≤cm (Env.at e j)∧cm (Env.at e j)<(len:Int)
 |[],h,_=>by cases h
 |c::r,h,hc=>by
  unfold AD at h
  split at h
  ·rename_i i k m _ heq
   cases heq;simp only[Bool.or_eq_true,Bool.and_eq_true]at h
   rcases h with⟨aa,ae⟩|h
   ·have au:0≤cm (Env.at e i)∧cm (Env.at e i)<(m:Int):=hc (.rg i (.cs (.int k (.ofNat m)))) (by simp)
    rw[←Nat.eq_of_beq_eq_true aa]
    have:=Nat.le_of_ble_eq_true ae
    omega
   ·exact Li h fun c hm=>hc c (by simp[hm])
  ·rename_i eQ _ heq
   cases heq;exact Li h fun c hm=>hc c (by simp[hm])
  ·rename_i heq;cases heq
def xy(g:List b5)(len:Nat)(i:ab):List ff:=
 match i with
 | .aU (.int _) j=>match AD len j g with
  |true=>[]
  |false=>[.nth len i]
 |_=>[.nth len i]
theorem Ef{M:List aR}{g:List b5}{len:Nat}{i:ab}{e:Env}(ah: ∀c∈g,c.ok e)(h: ∀n∈xy g len i,n.ok M e):0≤cm (i.dyn e)∧cm (i.dyn e)<(len:Int):=by
 unfold xy at h
 split at h
 ·rename_i k j
  split at h
  ·rename_i ad
   have:=Li ad ah
   simp only[ab.dyn]
   by_cases ag:(Env.at e j).r= .int k
   ·rw[DM ag];exact this
   ·have aM:cm ⟨.int k,(Env.at e j).aG (.int k)⟩=0:=by
     unfold aF.aG
     split
     ·rename_i bb _;exact absurd bb ag
     ·rfl
    rw[aM];omega
  ·exact h _ (List.mem_singleton.2 rfl)
 ·exact h _ (List.mem_singleton.2 rfl)
def pt(g:List b5)(f:gG)(q:cD)(x i:ab):List ff:=
 match i with
 | .aU (.int _) j=>match Ee f x j g g with
  |true=>[]
  |false=>[.f2 0 q x i]
 |_=>[.f2 0 q x i]
theorem xz{M:List aR}{g:List b5}{c:bL}{k:IntKind}{x i:ab}{e:Env}(ah: ∀c∈g,c.ok e)(hi:i.rt=some (.int k))(h: ∀n∈pt g (.iU c) (.kc c k) x i,n.ok M e):
 0≤i.az e (.int k)∧i.az e (.int k)<(List.length (x.az e (.li c)):Int):=by
 unfold pt at h
 split at h
 ·rename_i bk j
  split at h
  ·rename_i ad
   have:=Lh (f:=.iU c) (fun n hn=>xx hn ah) ad ah
   rw[←lT hi];simp only[ab.dyn]
   have aj:bk=k:=by simp only[ab.rt,aV.one]at hi;cases hi;rfl
   subst aj
   by_cases ag:(Env.at e j).r= .int bk
   ·rw[DM ag];exact this
   ·have aM:cm ⟨.int bk,(Env.at e j).aG (.int bk)⟩=0:=by
     unfold aF.aG
     split
     ·rename_i bb _;exact absurd bb ag
     ·rfl
    rw[aM];exact⟨Int.le_refl _,Int.lt_of_le_of_lt this.1 this.2⟩
  ·exact h _ (List.mem_singleton.2 rfl)
 ·exact h _ (List.mem_singleton.2 rfl)
theorem zeV{M:List aR}{g:List b5}{k:IntKind}{x i:ab}{e:Env}(ah: ∀c∈g,c.ok e)(hi:i.rt=some (.int k))(h: ∀n∈pt g .n6 (.rR k) x i,n.ok M e):
 0≤i.az e (.int k)∧i.az e (.int k)<(ByteArray.size (x.az e .str):Int):=by
 unfold pt at h
 split at h
 ·rename_i bk j
  split at h
  ·rename_i ad
   have:=Lh (f:=.n6) (fun n hn=>xx hn ah) ad ah
   rw[←lT hi];simp only[ab.dyn]
   have aj:bk=k:=by simp only[ab.rt,aV.one]at hi;cases hi;rfl
   subst aj
   by_cases ag:(Env.at e j).r= .int bk
   ·rw[DM ag];exact this
   ·have aM:cm ⟨.int bk,(Env.at e j).aG (.int bk)⟩=0:=by
     unfold aF.aG
     split
     ·rename_i bb _;exact absurd bb ag
     ·rfl
    rw[aM];exact⟨Int.le_refl _,Int.lt_of_le_of_lt this.1 this.2⟩
  ·exact h _ (List.mem_singleton.2 rfl)
 ·exact h _ (List.mem_singleton.2 rfl)
end Go.aL
namespace Go.aL
open Go
def kM(h:List (Nat × bG)):ab→Bool
 | .aU _ _=>true
 | .fd _ _ _ _=>true
 | .cs _=>true
 | .ip _ _ _=>true
 | .fn _ _ _=>true
 | .ee id _=>match da h id with
  |some (.dj _ _)=>true
  |_=>false
 | .gX id _ _ _=>match da h id with
  |some (.dj _ _)=>true
  |_=>false
 | .fj _ (some id) _=>match da h id with
  |some (.dj _ _)=>true
  |_=>false
 | .aO id=>match da h id with
  |some (.rw _ _ _)=>true
  |_=>false
 | .gN id _ _=>match da h id with
  |some (.rw _ _ _)=>true
  |_=>false
 |_=>false
def vm(S:ao):ab→Option (List ab)
 | .ee id off=>match da S.h id with
  |some (.dj _ l)=>some (l.drop off)
  |_=>none
 | .ip c i k=>some ((iT c i 0 (eY c)).drop k)
 |_=>none
def qe(P:Program)(t:TypeId)(l:List ab):Option ab:=
 match mi P t with
 |some n=>match Nat.ble n l.length&&Nat.ble 1 n with
  |true=>some (.ch (l.take n))
  |false=>none
 |none=>match scalar P t,l with
  |true,y::_=>some y
  |_,_=>none
def tm(S:ao):ab→Bool
 | .ee id _=>match da S.h id with
  |some (.dj _ _)=>true
  |_=>false
 | .gX id _ _ _=>match da S.h id with
  |some (.dj _ _)=>true
  |_=>false
 | .ip _ _ _=>true
 | .gN id _ _=>match da S.h id with
  |some (.rw _ _ _)=>true
  |_=>false
 |_=>false
def xA(k:Nat):ab→Option ab
 | .ee id off=>some (.ee id (off+k))
 | .ip c i j=>some (.ip c i (j+k))
 | .gN id x off=>some (.gN id x (off+k))
 | .gX id off x n=>some (.gX id (off+k) x n)
 |_=>none
def rZ(place:Nat→Option (Nat × Nat)):List ab→List (Nat × ab)→Option (List ab)
 |l,[]=>some l
 |l,(i,v)::rest=>match place i with
  |some (off,size)=>match Nat.beq v.cells.length size&&Nat.ble (off+size) l.length with
   |true=>rZ place (en l off v.cells) rest
   |false=>none
  |none=>none
section
variable {P:Program} {G:a8} {o:Oper} {N B:Nat} {e:Env} {S:ao} {M:List aR}
theorem S1{h:List (Nat × bG)}{x:ab}(hx:kM h x=true):eE (cy G e h) (x.den G e)=true∧cT (x.den G e)=[x.den G e]:=by
 cases x with
 |ee id off=>
  simp only[kM]at hx
  split at hx
  ·rename_i t l ah
   simp[ab.den,eE,ei,ah,bG.den,cT]
  ·cases hx
 |gX id off x n=>
  simp only[kM]at hx
  split at hx
  ·rename_i t l ah
   simp[ab.den,eE,ei,ah,bG.den,cT]
  ·cases hx
 |aO id=>
  simp only[kM]at hx
  split at hx
  ·rename_i t c y ah
   simp[ab.den,eE,ei,ah,bG.den,cT]
  ·cases hx
 |gN id x off=>
  simp only[kM]at hx
  split at hx
  ·rename_i t c y ah
   simp[ab.den,eE,ei,ah,bG.den,cT]
  ·cases hx
 |ch l=>cases hx
 |tp l=>cases hx
 |gZ id=>cases hx
 |fJ g b x=>cases hx
 |lR g off=>cases hx
 |top=>cases hx
 |cC k n=>cases hx
 |fj g id off=>
  cases id with
  |none=>cases hx
  |some id=>
   simp only[kM]at hx
   split at hx
   ·rename_i t l ah
    simp only[ab.den]
    cases g.az e .bool<;>simp[eE,ei,ah,bG.den,cT]
   ·cases hx
 |_=>exact⟨rfl,rfl⟩
theorem xB{h:List (Nat × bG)}: ∀{l:List ab},l.all (kM h)=true→(ab.bQ G e l).all (eE (cy G e h))=true
 |[],_=>rfl
 |x::r,hx=>by
  simp only[List.all_cons,Bool.and_eq_true]at hx;simp only[ab.bQ,List.all_cons,(S1 hx.1).1,xB hx.2,Bool.and_self]
theorem vn{h:List (Nat × bG)}{x:ab}(hx:x.cells.all (kM h)=true):cT (x.den G e)=ab.bQ G e x.cells:=by
 cases x with
 |ch l=>rfl
 |_=>
  simp only[ab.cells,List.all_cons,List.all_nil,Bool.and_true]at hx;simp only[(S1 hx).2,ab.cells,ab.bQ]
theorem Lj(k:Nat)(l:List ab):ab.bQ G e (l.drop k)=(ab.bQ G e l).drop k:=by rw[e6,e6,List.map_drop]
theorem me(l:List ab):(ab.bQ G e l).length=l.length:=by rw[e6,List.length_map]
theorem AE{p:ab}{l:List ab}(h:vm S p=some l):fp (S.den G N B e).heap (p.den G e)=some (ab.bQ G e l):=by
 unfold vm at h
 split at h
 ·split at h
  ·rename_i id off t h2 ah
   cases h;simp only[ao.den,ab.den,fp,ei,ah,Option.map_some,bG.den];rw[e6,e6,List.map_drop]
  ·cases h
 ·rename_i c i k
  cases h;simp only[ab.den,fp,Option.some.injEq];rw[Lj,tc,List.map_drop]
 ·cases h
theorem Hu{t:TypeId}{x:Operand}{l:List ab}{v:ab}(an:o.op= .load t x)(hc:fp (S.den G N B e).heap (aJ G (S.den G N B e) x)=some (ab.bQ G e l))(aw:qe P t l=some v):cQ P G o (S.den G N B e) (v.den G e):=by
 unfold qe at aw
 split at aw
 ·rename_i n hn
  split at aw
  ·rename_i ad
   simp only[Bool.and_eq_true]at ad;cases aw
   have:=QW t x an hn hc (by rw[me];exact Nat.le_of_ble_eq_true ad.1) (Nat.le_of_ble_eq_true ad.2)
   simp only[ab.den];rw[e6]at this;rw[e6,List.map_take];exact this
  ·cases aw
 ·split at aw
  ·rename_i y r ai
   cases aw;exact J0 t x an ai hc
  ·cases aw
theorem vo{p:ab}(h:tm S p=true):jM (S.den G N B e).heap (p.den G e)=true:=by
 unfold tm at h
 split at h
 ·split at h
  ·rename_i ah;simp[ao.den,ab.den,jM,ei,ah,bG.den]
  ·cases h
 ·split at h
  ·rename_i ah;simp[ao.den,ab.den,jM,ei,ah,bG.den]
  ·cases h
 ·rfl
 ·split at h
  ·rename_i ah;simp[ao.den,ab.den,jM,ei,ah,bG.den]
  ·cases h
 ·cases h
theorem AF{k:Nat}{p q:ab}(h:xA k p=some q):ru k (p.den G e)=q.den G e:=by
 unfold xA at h
 split at h
 ·cases h;simp[ab.den,ru]
 ·cases h;simp[ab.den,ru,List.drop_drop,Nat.add_comm]
 ·cases h;simp[ab.den,ru]
 ·cases h;simp only[ab.den,ru,aD.ptr.injEq,true_and];omega
 ·cases h
theorem Eg{α β:Type}(f:α→β)(l:List α)(off:Nat)(vs:List α):(en l off vs).map f=en (l.map f) off (vs.map f):=by
 simp[en,List.map_take,List.map_drop]
theorem Eh{pl:Nat→Option (Nat × Nat)}{h:List (Nat × bG)}: ∀{ps:List (Nat × ab)} {l ds:List ab},(ps.all fun p=>p.2.cells.all (kM h))=true→rZ pl l ps=some ds→j8 pl (ab.bQ G e l) (ps.map fun p=>(p.1,p.2.den G e))=some (ab.bQ G e ds)
 |[],l,ds,_,hf=>by
  simp only[rZ,Option.some.injEq]at hf;subst hf;rfl
 |(i,v)::rest,l,ds,a1,hf=>by
  simp only[List.all_cons,Bool.and_eq_true]at a1;simp only[rZ]at hf;simp only[List.map_cons,j8]
  split at hf
  ·rename_i off size ak
   split at hf
   ·rename_i ad
    simp only[Bool.and_eq_true]at ad
    have aa:=Nat.eq_of_beq_eq_true ad.1
    have ae:=Nat.le_of_ble_eq_true ad.2
    have aw:=vn (G:=G) (e:=e) a1.1
    simp only[ak,aw,me];rw[if_pos ⟨aa,ae⟩]
    have:=Eh a1.2 hf
    rw[e6]at this⊢;rw[Eg]at this;rw[e6];exact this
   ·cases hf
  ·cases hf
def il(P:Program)(G:a8)(N B:Nat)(M:List aR)(o:Oper)(S:ao)(r:dt):Prop:=
 ∀e,(∀c∈S.g,c.ok e)→(∀(j:Nat) (x:bK),r.xs[j]? =some x→Env.at e (S.k+j)=x.den M e)→(∀n∈r.ns,n.ok M e)→cQ P G o (S.den G N B e) (r.v.den G e)
end
def Lk(op:BinOp)(k bk:IntKind)(x y:ab):List ff:=
 match op with
 | .add=>[]
 | .sub=>[]
 | .mul=>[]
 | .and=>[]
 | .or=>[]
 | .xor=>[]
 | .quo=>match y with
  | .cs (.int _ n)=>match decide (n=0)with
   |false=>[]
   |true=>[.f2 0 (.ju op k bk) x y]
  |_=>[.f2 0 (.ju op k bk) x y]
 | .rem=>match y with
  | .cs (.int _ n)=>match decide (n=0)with
   |false=>[]
   |true=>[.f2 0 (.ju op k bk) x y]
  |_=>[.f2 0 (.ju op k bk) x y]
 |op=>match y with
  | .cs (.int _ n)=>match decide (0≤n)with
   |true=>[]
   |false=>[.f2 0 (.ju op k bk) x y]
  |_=>[.f2 0 (.ju op k bk) x y]
def Ll(P:Program)(S:ao)(op:BinOp)(cw:TypeId)(x y:ab):Option dt:=
 match x.rt,y.rt with
 |some (.int k),some (.int bk)=>match Le op k bk with
  |true=>some ⟨[.f2 (.ju op k bk) x y],Lk op k bk x y,.aU (.int k) S.k⟩
  |false=>match xw op&&decide (bk=k)with
   |true=>some ⟨[.f2 (.ph op k) x y],[],.aU .bool S.k⟩
   |false=>none
 |some .str,some .str=>match xw op with
  |true=>some ⟨[.f2 (.mA op) x y],[],.aU .bool S.k⟩
  |false=>match op with
   | .add=>some ⟨[.f2 .td x y],[.f2 0 .td x y],.aU .str S.k⟩
   |_=>none
 |some .bool,some .bool=>match op,DD P cw with
  | .eql,true=>some ⟨[.f2 (.nN false) x y],[],.aU .bool S.k⟩
  | .neq,true=>some ⟨[.f2 (.nN true) x y],[],.aU .bool S.k⟩
  |_,_=>none
 |_,_=>match x,y with
  | .ch l,.ch m=>match m2 P cw with
   |some fs=>match pr P 64 0 fs with
    |some rs=>match ht rs l&&ht rs m,op with
     |true,.eql=>some ⟨[.At false rs l m],[],.aU .bool S.k⟩
     |true,.neq=>some ⟨[.At true rs l m],[],.aU .bool S.k⟩
     |_,_=>none
    |none=>none
   |none=>none
  |p,.cs (.pointer none)=>match P.underlying cw,tm S p,op with
   |some (.pointer _),true,.eql=>some ⟨[],[],.cs (.bool false)⟩
   |some (.pointer _),true,.neq=>some ⟨[],[],.cs (.bool true)⟩
   |_,_,_=>none
  |_,_=>none
section
variable {P:Program} {G:a8} {o:Oper} {N B:Nat} {e:Env} {S:ao} {M:List aR}
theorem zeW{e:Env}{f:cD}{x y:ab}{k:Nat}(h:Env.at e k=(bK.f2 f x y).den M e):(ab.aU f.c k).den G e= .av (fH f.c (f.den (x.az e f.a) (y.az e f.b))):=by
 simp only[ab.den,h,bK.den,cB]
theorem zeX{e:Env}{f:gG}{x:ab}{k:Nat}(h:Env.at e k=(bK.f1 f x).den M e):(ab.aU f.c k).den G e= .av (fH f.c (f.den (x.az e f.a))):=by
 simp only[ab.den,h,bK.den,cB]
theorem qG{s:aP}{f:cD}{x y:ab}{k:Nat}(h:Env.at e k=(bK.f2 f x y).den M e)(ai:cQ P G o s (.av (fH f.c (f.den (x.az e f.a) (y.az e f.b))))):cQ P G o s ((ab.aU f.c k).den G e):=by
 rw[zeW h];exact ai
theorem qH{s:aP}{f:gG}{x:ab}{k:Nat}(h:Env.at e k=(bK.f1 f x).den M e)(ai:cQ P G o s (.av (fH f.c (f.den (x.az e f.a))))):cQ P G o s ((ab.aU f.c k).den G e):=by
 rw[zeX h];exact ai
theorem zeY{op:BinOp}{k bk:IntKind}{x y:ab}(ax:y.rt=some (.int bk))(h: ∀n∈Lk op k bk x y,n.ok M e):D1 op (y.az e (.int bk)):=by
 have hc: ∀n gH,y= .cs (.int gH n)→y.az e (.int bk)=n:=fun n gH bb=>by
  subst bb;simp only[ab.rt,Option.some.injEq,aV.int.injEq]at ax;subst ax;simp only[ab.az,ab.fr,ab.dyn,cB]
 have ai: ∀Ei,((∃q,Ei=q)→ff.ok M e (.f2 0 (.ju Ei k bk) x y)→D1 Ei (y.az e (.int bk))):=fun Ei _ h=>h
 cases op<;>try exact trivial
 all_goals
  simp only[Lk]at h
  split at h
  ·rename_i gH n
   have hn:=hc n gH rfl
   split at h
   ·rename_i hd
    rw[hn];simp only[decide_eq_false_iff_not,decide_eq_true_eq]at hd;exact hd
   ·exact h _ (List.mem_singleton.2 rfl)
  ·exact h _ (List.mem_singleton.2 rfl)
theorem zeZ{op:BinOp}{cw ty:TypeId}{x y:Operand}{r:dt}(an:o.op= .binOp op cw x y ty)(h:Ll P S op cw (S.aZ N x) (S.aZ N y)=some r):il P G N B M o S r:=fun e hf hx hn=>by
 unfold Ll at h
 split at h
 ·rename_i k bk aa ae
  have fS:aJ G (S.den G N B e) x=_:=(bI hf x).trans (jx aa)
  have mE:aJ G (S.den G N B e) y=_:=(bI hf y).trans (jx ae)
  split at h
  ·rename_i a1
   cases h;exact qG (f:=.ju op k bk) (hx 0 _ rfl) (zeN an fS mE a1 (zeY ae hn))
  ·split at h
   ·rename_i hc
    cases h;simp only[Bool.and_eq_true,decide_eq_true_eq]at hc
    have aj:=hc.2
    subst aj;exact qG (f:=.ph op bk) (hx 0 _ rfl) (zeO an fS mE hc.1)
   ·cases h
 ·rename_i aa ae
  have fS:aJ G (S.den G N B e) x=_:=(bI hf x).trans (fY aa)
  have mE:aJ G (S.den G N B e) y=_:=(bI hf y).trans (fY ae)
  split at h
  ·rename_i hc
   cases h;exact qG (f:=.mA op) (hx 0 _ rfl) (zeP an fS mE hc)
  ·split at h
   ·cases h
    exact qG (f:=.td) (hx 0 _ rfl) (zdE cw ty x y an fS mE (hn _ (List.mem_singleton.2 rfl)))
   ·cases h
 ·rename_i aa ae
  have fS:aJ G (S.den G N B e) x=_:=(bI hf x).trans (fY aa)
  have mE:aJ G (S.den G N B e) y=_:=(bI hf y).trans (fY ae)
  split at h
  ·rename_i aH
   cases h;exact qG (f:=.nN false) (hx 0 _ rfl) (Rh cw ty x y an (DE aH) fS mE)
  ·rename_i aH
   cases h;exact qG (f:=.nN true) (hx 0 _ rfl) (Ri cw ty x y an (DE aH) fS mE)
  ·cases h
 ·split at h
  ·rename_i l m aq hm
   split at h
   ·rename_i fs xi
    split at h
    ·rename_i rs gM
     split at h
     ·rename_i ad
      cases h;simp only[Bool.and_eq_true]at ad
      have:=SY (G:=G) (n:=false) (B:=B) (e:=e) hf rfl an xi gM aq hm ad.1 ad.2
      have aM:Env.at e S.k=_:=hx 0 _ rfl
      simp only[ab.den,aM,bK.den,cB,fH,j9];exact this
     ·rename_i ad
      cases h;simp only[Bool.and_eq_true]at ad
      have:=SY (G:=G) (n:=true) (B:=B) (e:=e) hf rfl an xi gM aq hm ad.1 ad.2
      have aM:Env.at e S.k=_:=hx 0 _ rfl
      simp only[ab.den,aM,bK.den,cB,fH,j9];exact this
     ·cases h
    ·cases h
   ·cases h
  ·rename_i ak
   have key: ∀E a w β ro,c3 E G (S.den G N B e) a w β ro→tm S (S.aZ N x)=true→∃cX,a.eval x= .pointer (some cX):=fun E a w β ro ag hi=>by
    obtain⟨cX,hc,_⟩:=zF (vo (G:=G) (N:=N) (B:=B) (e:=e) hi) (by have:=ag.eval x;rw[bI hf]at this;exact this)
    exact⟨cX,hc⟩
   have qI: ∀E a w β ro,c3 E G (S.den G N B e) a w β ro→a.eval y= .pointer none:=fun E a w β ro ag=>by
    refine ag.ef ?_
    rw[bI hf,ak];rfl
   split at h
   ·rename_i t hu hi
    cases h
    exact fun E a w β ro ag=>by
     obtain⟨cX,hc⟩:=key E a w β ro ag hi;exact⟨.bool false,by simp[execOp,an,hc,qI E a w β ro ag,eqGuard_at_pointer,run_eql_pointer_nil w cw (some cX) (SD hu)],.fE rfl⟩
   ·rename_i t hu hi
    cases h
    exact fun E a w β ro ag=>by
     obtain⟨cX,hc⟩:=key E a w β ro ag hi;exact⟨.bool true,by simp[execOp,an,hc,qI E a w β ro ag,eqGuard_at_pointer,run_neq_pointer_nil w cw (some cX) (SD hu)],.fE rfl⟩
   ·cases h
  ·cases h
end
end Go.aL
namespace Go.aL
open Go
def pv:List aV→List Value→Bool
 |[],[]=>true
 |r::rs,z::zs=>(match r,z with
  | .int k,.int bk n=>decide (k=bk)&&decide (n=0)
  | .bool,.bool b=>!b
  | .str,.string s=>decide (s=⟨#[]⟩)
  | .li _,.slice none 0 0=>true
  |_,_=>false)&&pv rs zs
 |_,_=>false
def vp:TypeDesc→Option aV
 | .string=>some .str
 | .int k=>some (.int k)
 |_=>none
def xC(v:aV)(z:Value):Bool:=
 match v,z with
 | .st c,.agg a=>pv (eY c) a.toList&&a.toList.all Value.oneCell'
 | .st _,_=>false
 |r,z=>pv [r] [z]&&z.oneCell'
def nn(v:aV)(i:Nat):ab:=
 match v with
 | .st c=>.ch (iT c i 0 (eY c))
 |r=>.aU r i
def Ej:List aV→Bool
 |[]=>true
 | .mp _ _::_=>false
 |_::r=>Ej r
def Ek(v:aV):Bool:=
 match v with
 | .st c=>Ej (eY c)
 | .int _=>true
 | .bool=>true
 | .str=>true
 |_=>false
def Lm(S:ao)(m:ab):Option (aV × aV × ab):=
 match m with
 | .gZ id=>match da S.h id with
  |some (.it (.mp k v) _ p)=>some (k,v,p)
  |_=>none
 |x=>match x.rt with
  |some (.mp k v)=>some (k,v,x)
  |_=>none
def Ln(P:Program)(S:ao)(t:TypeId)(m x:ab)(c:Bool):Option dt:=
 match P.underlying t,Lm S m with
 |some (.map fq eZ),some (k,v,p)=>match(P.underlying fq).bind vp,(P.info? eZ).bind (·.zero)with
  |some bk,some z=>match hT bk k&&(x.ez k&&(xC v z&&Ek v))with
   |true=>match c with
    |true=>some ⟨[.xo k v p x,.vj k v p x],[],.tp [nn v (S.k+1),.aU .bool S.k]⟩
    |false=>some ⟨[.vj k v p x],[],nn v S.k⟩
   |false=>none
  |_,_=>none
 |_,_=>none
section
variable {P:Program} {G:a8} {N B:Nat} {M:List aR} {S:ao} {o:Oper}
theorem xD: ∀{rs:List aV} {zs:List Value},pv rs zs=true→zs.map a6.v=rs.map fun r=>xb (fH r r.fz)
 |[],[],_=>rfl
 |[],_::_,h=>by cases h
 |_::_,[],h=>by cases h
 |r::rs,z::zs,h=>by
  simp only[pv,Bool.and_eq_true]at h;rw[List.map_cons,List.map_cons,xD h.2]
  congr 1
  have aa:=h.1
  split at aa
  ·simp only[Bool.and_eq_true,decide_eq_true_eq]at aa
   obtain⟨rfl,rfl⟩:=aa;rfl
  ·simp only[Bool.not_eq_true']at aa
   subst aa;rfl
  ·have:=of_decide_eq_true aa
   subst this;rfl
  ·rfl
  ·cases aa
theorem S2(c:bL):cb c (aA c)=(eY c).map fun r=>fH r r.fz:=by cases c<;>rfl
theorem S3{e:Env}{r:aV}{i:Nat}{d:r.den}(h:Env.at e i=⟨r,d⟩):(ab.aU r i).az e r=d:=by
 simp only[ab.az,ab.fr,ab.dyn,h,cB]
theorem ze0{c:bL}(h:Ej (eY c)=true)(x:fO c):(k2 c x).map (fun d=>j9 d.r d.v)=cb c x:=by
 unfold cb
 rw[←KI c x]at h
 revert h
 generalize k2 c x=l
 induction l with
 |nil=>intro _;rfl
 |cons d r aY=>
  intro h;obtain⟨t,v⟩:=d;simp only[List.map_cons]at h⊢
  cases t<;>first|(simp only[Ej]at h;rw[aY h];rfl)|cases h
theorem ze1{v:aV}{i:Nat}{e:Env}{ev:v.den}(h:Env.at e i=⟨v,ev⟩)(aw:Ek v=true):(nn v i).den G e=u9 v.agg (iy v ev):=by
 cases v with
 |st c=>
  simp only[Ek]at aw;simp only[nn,ab.den,tc,h,cB,aV.agg,u9,iy,ze0 aw]
 |int k=>simp only[nn,ab.den,h,cB]<;>rfl
 |bool=>simp only[nn,ab.den,h,cB]<;>rfl
 |str=>simp only[nn,ab.den,h,cB]<;>rfl
 |_=>cases aw
theorem xE{x:a6}{v:Value}(h:a6.v v=xb x)(aw:v.oneCell'=true):Sub (.av (.v v)) (.av x):=fun w ro σ β N c hc=>by
 cases hc with
 |av _ _ hc=>
  cases hc;exact .av _ _ (Sh h.symm aw)
theorem S4: ∀{rs:List aV} {zs:List Value},pv rs zs=true→zs.all Value.oneCell'=true→fU (zs.map fun v=>aD.av (.v v)) ((rs.map fun r=>fH r r.fz).map .av)
 |[],[],_,_=>.nil
 |[],_::_,h,_=>by cases h
 |_::_,[],h,_=>by cases h
 |r::rs,z::zs,h,an=>by
  simp only[List.all_cons,Bool.and_eq_true]at an
  have aa:pv [r] [z]=true:=by
   simp only[pv,Bool.and_eq_true]at h⊢;exact⟨h.1,trivial⟩
  have ae:pv rs zs=true:=by
   simp only[pv,Bool.and_eq_true]at h;exact h.2
  have aB:=xD aa
  simp only[List.map_cons,List.map_nil,List.cons.injEq,and_true]at aB;exact .cons (xE aB an.1) (S4 ae an.2)
theorem S5{v:aV}{i:Nat}{e:Env}{z:Value}(h:Env.at e i=⟨v,v.fz⟩)(aw:Ek v=true)(aS:xC v z=true):Sub (nc z) ((nn v i).den G e)∧s4 z=true:=by
 cases v with
 |st c=>
  cases z with
  |agg a=>
   simp only[xC,Bool.and_eq_true]at aS;refine⟨?_,aS.2⟩
   simp only[nn,ab.den,tc,h,cB,nc,aV.fz,S2];exact(S4 aS.1 aS.2).agg
  |_=>cases aS
 |int k=>
  simp only[xC,Bool.and_eq_true]at aS
  have aB:=xD aS.1
  simp only[List.map_cons,List.map_nil,List.cons.injEq,and_true]at aB
  cases z with
  |int bk n=>exact⟨by simp only[nn,ab.den,h,cB,nc];exact xE aB aS.2,aS.2⟩
  |_=>first|cases aS.1|cases aS.2
 |bool=>
  simp only[xC,Bool.and_eq_true]at aS
  have aB:=xD aS.1
  simp only[List.map_cons,List.map_nil,List.cons.injEq,and_true]at aB
  cases z with
  |bool b=>exact⟨by simp only[nn,ab.den,h,cB,nc];exact xE aB aS.2,aS.2⟩
  |_=>first|cases aS.1|cases aS.2
 |str=>
  simp only[xC,Bool.and_eq_true]at aS
  have aB:=xD aS.1
  simp only[List.map_cons,List.map_nil,List.cons.injEq,and_true]at aB
  cases z with
  |string b=>exact⟨by simp only[nn,ab.den,h,cB,nc];exact xE aB aS.2,aS.2⟩
  |_=>first|cases aS.1|cases aS.2
 |_=>cases aw
theorem S6{k v:aV}(l:List (k.den × v.den)):fH (.mp k v) l=xe v.agg (gg (lj k) (iy v) l):=by
 unfold xe gg
 rw[List.map_map,List.map_map]
 rfl
theorem ze2{fq:TypeId}{k:aV}(h:(P.underlying fq).bind vp=some k): ∃d,P.underlying fq=some d∧((k= .str∧d= .string)∨∃j,k= .int j∧d= .int j):=by
 cases hd:P.underlying fq with
 |none=>rw[hd]at h;cases h
 |some d=>
  rw[hd]at h
  have aj:vp d=some k:=h
  refine⟨d,rfl,?_⟩
  unfold vp at aj
  split at aj
  ·cases aj;exact .inl ⟨rfl,rfl⟩
  ·cases aj;exact .inr ⟨_,rfl,rfl⟩
  ·cases aj
theorem ze3{k v:aV}{m:Operand}{p:ab}{e:Env}(hf: ∀c∈S.g,c.ok e)(h:Lm S (S.aZ N m)=some (k,v,p)):nb G (S.den G N B e) m v.agg (gg (lj k) (iy v) (p.az e (.mp k v))):=by
 unfold Lm at h
 split at h
 ·rename_i id hm
  split at h
  ·rename_i bk bh dr q ah
   cases h
   have El:aJ G (S.den G N B e) m= .ref id:=by rw[bI hf,hm];rfl
   have bd:aE (S.den G N B e).heap id=some (.bM (jQ v.agg (gg (lj k) (iy v) (p.az e (.mp k v))))):=by
    simp only[ao.den,ei,ah,Option.map_some];rfl
   exact nb.own El bd
  ·cases h
 ·split at h
  ·rename_i bk bh ag
   cases h;refine nb.Sq ?_
   rw[bI hf,fY ag,S6]
  ·cases h
theorem ze4{t:TypeId}{m x:Operand}{c:Bool}{r:dt}(an:o.op= .lookup t m x c)(h:Ln P S t (S.aZ N m) (S.aZ N x) c=some r):il P G N B M o S r:=fun e hf hx hn=>by
 unfold Ln at h
 split at h
 ·rename_i fq eZ k v p hu ob
  split at h
  ·rename_i bk z ze5 aS
   split at h
   ·rename_i hc
    simp only[Bool.and_eq_true]at hc;obtain⟨aW,c8,gj,iO⟩:=hc
    cases hs aW
    obtain⟨d,hd,hU⟩:=ze2 ze5
    have n4:=ze3 (G:=G) (N:=N) (B:=B) hf ob
    have key: ∀w:aD,(∀ev b,(jG k (p.az e (.mp k v)) ((S.aZ N x).az e k)).getD v.fz=ev→(jG k (p.az e (.mp k v)) ((S.aZ N x).az e k)).isSome=b→∀y,(b=true→y=u9 v.agg (iy v ev))→(b=false→ev=v.fz∧y=nc z)→Sub (Aj c y b) w)→s4 z=true→cQ P G o (S.den G N B e) w:=by
     intro w hw nd
     cases aI:jG k (p.az e (.mp k v)) ((S.aZ N x).az e k)with
     |some ev=>
      rw[aI]at hw;refine cQ.sub ?_ (hw ev true rfl rfl _ (fun _=>rfl) (fun q=>by cases q))
      rcases hU with⟨rfl,rfl⟩|⟨j,rfl,rfl⟩
      ·have jy:aJ G (S.den G N B e) x= .av (.v (lj .str ((S.aZ N x).az e .str))):=by rw[bI hf];exact K4 c8
       exact Sx (K:=ByteArray) KV (iy v) v.agg _ _ ev c an hu hd n4 jy aI
      ·have jy:aJ G (S.den G N B e) x= .av (.v (lj (.int j) ((S.aZ N x).az e (.int j)))):=by rw[bI hf];exact D0 c8
       exact Sx (K:=Int) (KW j) (iy v) v.agg _ _ ev c an hu hd n4 jy aI
     |none=>
      rw[aI]at hw;refine cQ.sub ?_ (hw v.fz false rfl rfl _ (fun q=>by cases q) (fun _=>⟨rfl,rfl⟩))
      rcases hU with⟨rfl,rfl⟩|⟨j,rfl,rfl⟩
      ·have jy:aJ G (S.den G N B e) x= .av (.v (lj .str ((S.aZ N x).az e .str))):=by rw[bI hf];exact K4 c8
       exact Sy (K:=ByteArray) KV (iy v) v.agg _ _ c z an hu hd n4 jy aI aS nd
      ·have jy:aJ G (S.den G N B e) x= .av (.v (lj (.int j) ((S.aZ N x).az e (.int j)))):=by rw[bI hf];exact D0 c8
       exact Sy (K:=Int) (KW j) (iy v) v.agg _ _ c z an hu hd n4 jy aI aS nd
    have sub: ∀{i:Nat} {ev:v.den} {b:Bool} {y:aD},Env.at e i=⟨v,ev⟩→(b=true→y=u9 v.agg (iy v ev))→(b=false→ev=v.fz∧y=nc z)→Sub y ((nn v i).den G e):=by
     intro i ev b y hi aa ae
     cases b with
     |true=>rw[aa rfl,ze1 hi iO];exact Sub.refl _
     |false=>
      obtain⟨c1,dg⟩:=ae rfl;subst c1;rw[dg];exact(S5 hi iO gj).1
    have nd:s4 z=true:=(S5 (G:=G) (i:=0) (e:=ba.put .emp 0 ⟨v,v.fz⟩) (by rw[Env.ij,if_pos rfl]) iO gj).2
    split at h
    ·cases h
     have aM:=hx 0 _ rfl
     have aa:=hx 1 _ rfl
     simp only[Nat.add_zero,bK.den]at aM aa;refine key _ (fun ev b aB bf y g1 g2=>?_) nd
     refine fU.tuple (.cons (sub (aa.trans (by rw[←aB])) g1 g2) (.cons ?_ .nil))
     simp only[ab.den,aM,cB];rw[←bf];exact Sub.refl _
    ·cases h
     have aM:=hx 0 _ rfl
     simp only[Nat.add_zero,bK.den]at aM;exact key _ (fun ev b aB bf y g1 g2=>sub (aM.trans (by rw[←aB])) g1 g2) nd
   ·cases h
  ·cases h
 ·cases h
end
end Go.aL
namespace Go.aL
open Go
def ab.tn(x g:ab)(b:Bool):ab:=
 match x with
 | .fJ h c v=>match Aw g h&&(decide (c=b))with
  |true=>v
  |false=>x
 |x=>x
def Lo(S:ao)(c x y:ab):Option dt:=
 match c,lu c S.g with
 | .cs (.bool b),_=>some ⟨[],[],match b with|true=>x|false=>y⟩
 |c,some b=>match c.rt with
  |some .bool=>some ⟨[],[],match b with|true=>x|false=>y⟩
  |_=>none
 |c,none=>match c.rt with
  |some .bool=>match(match(x.tn c true).rt with|some r=>some r|none=>(y.tn c false).rt)with
   |some r=>match(x.tn c true).ez r&&((y.tn c false).ez r&&r.one)with
    |true=>some ⟨[.D3 r c (x.tn c true) (y.tn c false)],[],.aU r S.k⟩
    |false=>none
   |none=>none
  |_=>none
def tq(r:aV):List ab→Bool
 |[]=>true
 |x::l=>x.ez r&&tq r l
def S7:List ab→Option aV
 |[]=>none
 |x::_=>x.rt
def Lp(P:Program)(S:ao)(t:TypeId)(x i:ab):Option dt:=
 match x with
 | .ch l=>match P.underlying t with
  |some (.array len el)=>match scalar P el&&Nat.beq l.length len,(P.info? el).map (·.size)with
   |true,some 1=>match i with
    | .cs (.int .i64 (.ofNat j))=>match l[j]? with
     |some v=>some ⟨[],[],v⟩
     |none=>none
    |i=>match i.rt,S7 l with
     |some (.int .i64),some r=>match tq r l&&r.one with
      |true=>some ⟨[.nth r l i],xy S.g l.length i,.aU r S.k⟩
      |false=>none
     |_,_=>none
   |_,_=>none
  |_=>none
 |x=>match x.rt,i.rt,isStr P t with
  |some .str,some (.int k),true=>some ⟨[.f2 (.rR k) x i],pt S.g .n6 (.rR k) x i,.aU (.int .u8) S.k⟩
  |_,_,_=>none
def vq(x:ab):Option bL:=
 match x.rt with
 |some (.li c)=>some c
 |_=>none
def ze6(P:Program)(t:TypeId)(n:Nat):Option bL:=
 match P.underlying t with
 |some (.slice el)=>zec.find? fun c=>Nat.beq n (bZ c)&&(qe P el (iT c 0 0 (eY c))).isSome
 |_=>none
def Lq(P:Program)(f:Nat):Nat:=
 match P.funcs[f]? with
 |some fn=>match fn.body.isNone&&fn.origin== "",fn.name== "internal/abi.NoEscape",fn.name== "internal/bytealg.IndexByteString" with
  |true,true,_=>1
  |true,false,true=>2
  |_,_,_=>0
 |none=>0
def Lr(P:Program)(S:ao)(f:ab)(aG:List ab):Option dt:=
 match f with
 | .fn (.func f) [] []=>match Lq P f,aG with
  |1,[x]=>some ⟨[],[],x⟩
  |2,[x,y]=>match x.rt,y.rt with
   |some .str,some (.int .u8)=>some ⟨[.f2 .xn x y],[],.aU (.int .i64) S.k⟩
   |_,_=>none
  |_,_=>none
 |_=>none
def Ls(P:Program)(S:ao)(t:TypeId)(x i:ab):Option dt:=
 match i.rt with
 |some (.int k)=>match j7 P t with
  |some n=>match x with
   | .aO id=>match da S.h id with
    |some (.rw _ c y)=>match Nat.beq n (bZ c)with
     |true=>some ⟨[],pt S.g (.iU c) (.kc c k) y i,.gN id i 0⟩
     |false=>none
    |_=>none
   | .cC id m=>match da S.h id,i with
    |some (.dj _ _),.cs (.int _ (.ofNat j))=>match Nat.blt j m with
     |true=>some ⟨[],[],.ee id (j*n)⟩
     |false=>none
    |_,_=>none
   |x=>match vq x with
    |some c=>match Nat.beq n (bZ c)with
     |true=>some ⟨[.f2 (.kc c k) x i],pt S.g (.iU c) (.kc c k) x i,.ip c S.k 0⟩
     |false=>none
    |none=>match x.isNil,ze6 P t n with
     |true,some c=>some ⟨[.f2 (.kc c k) x i],[.f2 0 (.kc c k) x i],.ip c S.k 0⟩
     |_,_=>none
  |none=>match uV P t,vm S x with
   |some (len,n),some _=>match i,x with
    | .cs (.int _ (.ofNat j)),x=>match Nat.blt j len,xA (j*n) x with
     |true,some p=>some ⟨[],[],p⟩
     |_,_=>none
    |i,.ee id off=>some ⟨[],xy S.g len i,.gX id off i n⟩
    |_,_=>none
   |_,_=>none
 |_=>none
def Lt(P:Program)(S:ao)(t:TypeId)(x:ab):Option dt:=
 match x with
 | .gN id i off=>match da S.h id,i.rt with
  |some (.rw _ c y),some (.int k)=>match qe P t ((iT c S.k 0 (eY c)).drop off),y.ez (.li c)with
   |some v,true=>some ⟨[.f2 (.kc c k) y i],pt S.g (.iU c) (.kc c k) y i,v⟩
   |_,_=>none
  |_,_=>none
 | .gX id off i 1=>match da S.h id,i.rt with
  |some (.dj _ l),some (.int _)=>match S7 (l.drop off)with
   |some r=>match tq r (l.drop off)&&(r.one&&scalar P t)with
    |true=>some ⟨[.nth r (l.drop off) i],xy S.g (l.drop off).length i,.aU r S.k⟩
    |false=>none
   |none=>none
  |_,_=>none
 |x=>match vm S x with
  |some l=>match qe P t l with
   |some v=>some ⟨[],[],v⟩
   |none=>none
  |none=>none
def Lu(P:Program)(S:ao)(t:TypeId)(x:ab):Option dt:=
 match x with
 | .cs (.slice none 0 0)=>match isSlice P t with
  |true=>some ⟨[],[],.cs (.int .i64 0)⟩
  |false=>none
 | .cs (.string s)=>match isStr P t with
  |true=>some ⟨[],[],.cs (.int .i64 (ByteArray.size s:Int))⟩
  |false=>none
 | .cC id n=>match da S.h id,isSlice P t with
  |some (.dj _ _),true=>some ⟨[],[],.cs (.int .i64 (n:Int))⟩
  |_,_=>none
 | .aO id=>match da S.h id with
  |some (.rw _ c y)=>match isSlice P t with
   |true=>some ⟨[.f1 (.iU c) y],[],.aU (.int .i64) S.k⟩
   |false=>none
  |_=>none
 |x=>match x.rt with
  |some .str=>match isStr P t with
   |true=>some ⟨[.f1 .n6 x],[],.aU (.int .i64) S.k⟩
   |false=>none
  |some (.li c)=>match isSlice P t with
   |true=>some ⟨[.f1 (.iU c) x],[],.aU (.int .i64) S.k⟩
   |false=>none
  |_=>match Dw P t with
   |some n=>some ⟨[],[],.cs (.int .i64 (n:Int))⟩
   |none=>none
def xF(N:Nat)(S:ao):Option Operand→Option (Option ab)
 |none=>some none
 |some y=>match(S.aZ N y).rt with
  |some (.int _)=>some (some (S.aZ N y))
  |_=>none
def Em(P:Program)(N:Nat)(S:ao)(t:TypeId)(x:ab)(lo hi:Option Operand):Option dt:=
 match xF N S lo,xF N S hi with
 |some l,some h=>match x.rt with
  |some .str=>match isStr P t with
   |true=>some ⟨[.vi x l h],(match l,h with|none,none=>[]|_,_=>[.vi x l h]),.aU .str S.k⟩
   |false=>none
  |some (.li c)=>match j7 P t with
   |some n=>match Nat.beq n (bZ c)with
    |true=>some ⟨[.eC c x l h],(match l,h with|none,none=>[]|_,_=>[.eC c x l h]),.aU (.li c) S.k⟩
    |false=>none
   |none=>none
  |_=>none
 |_,_=>none
def S8(P:Program)(S:ao)(src dst:TypeId)(id:Nat):Option dt:=
 match da S.h id,P.underlying src with
 |some (.rw _ .u8 y),some (.slice el)=>match P.underlying el,P.underlying dst with
  |some (.int .u8),some .string=>some ⟨[.f1 .cC y],[],.aU .str S.k⟩
  |_,_=>none
 |_,_=>none
def Lv(P:Program)(S:ao)(src dst:TypeId)(x:ab):Option dt:=
 match x with
 | .aO id=>S8 P S src dst id
 |x=>match x.rt with
  |some (.int k)=>match P.underlying src,P.underlying dst with
   |some _,some (.int bk)=>some ⟨[.f1 (.pa k bk) x],[],.aU (.int bk) S.k⟩
   |_,_=>none
  |some (.li .u8)=>match P.underlying src with
   |some (.slice el)=>match P.underlying el,P.underlying dst with
    |some (.int .u8),some .string=>some ⟨[.f1 .cC x],[],.aU .str S.k⟩
    |_,_=>none
   |_=>none
  |_=>none
def Lx(S:ao)(op:UnOp)(x:ab):Option dt:=
 match op,x.rt with
 | .not,some .bool=>some ⟨[.f1 .nf x],[],.aU .bool S.k⟩
 | .neg,some (.int k)=>some ⟨[.f1 (.Ar k) x],[],.aU (.int k) S.k⟩
 | .xor,some (.int k)=>some ⟨[.f1 (.uM k) x],[],.aU (.int k) S.k⟩
 |_,_=>none
def Ly(P:Program)(N:Nat)(S:ao)(t:TypeId)(ps:List (Nat × Operand)):Option dt:=
 match places P t,zeroCells P t with
 |some pl,some zs=>match zs.all Value.oneCell'&&(ps.map fun p=>(p.1,S.aZ N p.2)).all fun p=>p.2.cells.all (kM S.h)with
  |true=>match rZ pl (zs.map .cs) (ps.map fun p=>(p.1,S.aZ N p.2))with
   |some ds=>some ⟨[],[],.ch ds⟩
   |none=>none
  |false=>none
 |_,_=>none
def LA(P:Program)(t:TypeId)(x:ab)(f:Nat):Option dt:=
 match x,w1 P t f with
 | .ch l,some (off,none)=>match l[off]? with
  |some v=>some ⟨[],[],v⟩
  |none=>none
 | .ch l,some (off,some n)=>match Nat.ble (off+n) l.length with
  |true=>some ⟨[],[],.ch ((l.drop off).take n)⟩
  |false=>none
 |_,_=>none
def LB(S:ao)(b:Builtin)(x y:ab):Option dt:=
 match x.rt,y.rt,b with
 |some (.int k),some (.int bk),.min=>match decide (k=bk)with
  |true=>some ⟨[.f2 (.uN k) x y],[],.aU (.int k) S.k⟩
  |false=>none
 |some (.int k),some (.int bk),.max=>match decide (k=bk)with
  |true=>some ⟨[.f2 (.mx k) x y],[],.aU (.int k) S.k⟩
  |false=>none
 |_,_,_=>none
def En(P:Program)(t:TypeId):Bool:=
 match P.underlying t with
 |some (.pointer e)=>(P.info? e).isSome&&match(P.info? e).map (fun i=>decide (i.size=0))with
  |some false=>true
  |_=>false
 |_=>false
def AG(S:ao)(id:Nat):Bool:=
 match da S.h id with
 |some (.dj _ _)=>true
 |_=>false
def Eo(S:ao)(b:Bool)(g:ab):Option dt:=
 match g.rt,b with
 |some .bool,true=>some ⟨[],[],g⟩
 |some .bool,false=>some ⟨[.f1 .nf g],[],.aU .bool S.k⟩
 |_,_=>none
def LC:BinOp→Option Bool
 | .eql=>some true
 | .neq=>some false
 |_=>none
def LD(P:Program)(S:ao)(op:BinOp)(cw:TypeId)(x y:ab):Option dt:=
 match En P cw,LC op with
 |true,some b=>match x,y with
  | .cs (.pointer none),.cs (.pointer none)=>some ⟨[],[],.cs (.bool b)⟩
  | .ee i o,.ee j q=>match(Nat.beq i j&&Nat.beq o q)&&AG S i with
   |true=>some ⟨[],[],.cs (.bool b)⟩
   |false=>none
  | .fj g (some i) _,.cs (.pointer none)=>match AG S i with
   |true=>Eo S (!b) g
   |false=>none
  | .fj g (some i) o,.ee j q=>match(Nat.beq i j&&Nat.beq o q)&&AG S i with
   |true=>Eo S b g
   |false=>none
  |_,_=>none
 |_,_=>none
def LF(P:Program)(S:ao)(src dst:TypeId)(x:ab):Option dt:=
 match x with
 | .ee id off=>match da S.h id,P.underlying src,P.underlying dst with
  |some (.dj _ l),some (.pointer t),some .unsafePointer=>match(P.info? t).map (fun i=>decide (i.size=0)),Nat.blt off l.length with
   |some false,true=>some ⟨[],[],x⟩
   |_,_=>none
  |some (.dj bt l),some .unsafePointer,some (.pointer u)=>match liesAt P P.depth bt (l.length/ P.cellsOf bt) off u 1&&(P.info? u).isSome,Nat.blt off l.length with
   |true,true=>some ⟨[],[],x⟩
   |_,_=>none
  |_,_,_=>none
 |_=>none
def LG(P:Program)(S:ao)(t:TypeId)(x:ab):Option dt:=
 match x,P.underlying t with
 | .ee id 0,some (.array n el)=>match da S.h id,Nat.blt 0 n&&(P.info? el).isSome with
  |some (.dj _ _),true=>some ⟨[],[],.cC id n⟩
  |_,_=>none
 |_,_=>none
def LH(P:Program)(S:ao)(src dst:TypeId)(x:ab):Option dt:=
 match x,P.underlying src with
 | .cC id n,some (.slice el)=>match da S.h id,P.underlying el,P.underlying dst with
  |some (.dj _ l),some (.int .u8),some .string=>match Nat.beq n l.length&&l.all (ab.ez (.int .u8))with
   |true=>some ⟨[.qD .u8 (l.map fun x=>.ch [x]),.f1 .cC (.aU (.li .u8) S.k)],[],.aU .str (S.k+1)⟩
   |false=>none
  |_,_,_=>none
 |_,_=>none
def pw:List ab→Option (List aV)
 |[]=>some []
 |x::r=>match x.rt,pw r with
  |some t,some l=>some (t::l)
  |_,_=>none
def Ep(P:Program)(t:TypeId):Bool:=
 match P.underlying t with
 |some (.interface _)=>true
 |none=>true
 |_=>false
def LI(P:Program)(t:TypeId)(x:ab):Option dt:=
 match Ep P t with
 |true=>none
 |false=>match x with
  | .ch l=>match pw l with
   |some rs=>some ⟨[],[],.et t true rs l⟩
   |none=>none
  |x=>match x.rt with
   |some r=>some ⟨[],[],.et t false [r] [x]⟩
   |none=>none
def r0(a:Bool)(l:List ab):Option ab:=
 match a,l with
 |true,l=>some (.ch l)
 |false,[x]=>some x
 |false,_=>none
def LJ:Value→ab
 | .agg a=>.ch (a.toList.map .cs)
 |v=>.cs v
def LK(P:Program)(t:TypeId)(x:ab)(c:Bool):Option dt:=
 match x,Ep P t with
 | .et u a rs l,false=>match Nat.beq u t,c with
  |true,true=>match r0 a l,decide (pw l=some rs)with
   |some v,true=>some ⟨[],[],.tp [v,.cs (.bool true)]⟩
   |_,_=>none
  |true,false=>match r0 a l,decide (pw l=some rs)with
   |some v,true=>some ⟨[],[],v⟩
   |_,_=>none
  |false,true=>match(P.info? t).bind (·.zero)with
   |some z=>match s4 z with
    |true=>some ⟨[],[],.tp [LJ z,.cs (.bool false)]⟩
    |false=>none
   |none=>none
  |false,false=>none
 |_,_=>none
def qJ(P:Program)(N:Nat)(S:ao)(o:Oper):Option dt:=
 match o.op with
 | .move x=>some ⟨[],[],S.aZ N x⟩
 | .assign x=>some ⟨[],[],S.aZ N x⟩
 | .pick c x y=>Lo S (S.aZ N c) (S.aZ N x) (S.aZ N y)
 | .extract x i=>match S.aZ N x with
  | .tp l=>match l[i]? with
   |some v=>some ⟨[],[],v⟩
   |none=>none
  |_=>none
 | .nilCheck x=>match tm S (S.aZ N x)with
  |true=>some ⟨[],[],S.aZ N x⟩
  |false=>none
 | .fieldAddr t x f=>match sT P t f,tm S (S.aZ N x)with
  |some k,true=>match xA k (S.aZ N x)with
   |some p=>some ⟨[],[],p⟩
   |none=>none
  |_,_=>none
 | .load t x=>Lt P S t (S.aZ N x)
 | .field t x f=>LA P t (S.aZ N x) f
 | .indexAddr t x i=>Ls P S t (S.aZ N x) (S.aZ N i)
 | .index t x i=>Lp P S t (S.aZ N x) (S.aZ N i)
 | .binOp op cw x y _=>match Ll P S op cw (S.aZ N x) (S.aZ N y)with
  |some r=>some r
  |none=>LD P S op cw (S.aZ N x) (S.aZ N y)
 | .unOp op _ x=>Lx S op (S.aZ N x)
 | .convert src dst x=>match Lv P S src dst (S.aZ N x)with
  |some r=>some r
  |none=>match LF P S src dst (S.aZ N x)with
   |some r=>some r
   |none=>LH P S src dst (S.aZ N x)
 | .build t ps=>Ly P N S t ps.toList
 | .makeFunc (.func f) p q=>some ⟨[],[],.fn (.func f) (p.toList.map (S.aZ N)) (q.toList.map (S.aZ N))⟩
 | .makeInterface t x=>LI P t (S.aZ N x)
 | .typeAssert x _ t c=>LK P t (S.aZ N x) c
 | .lookup t m x c=>Ln P S t (S.aZ N m) (S.aZ N x) c
 | .slice t x none none none=>match Em P N S t (S.aZ N x) none none with
  |some r=>some r
  |none=>LG P S t (S.aZ N x)
 | .slice t x lo hi none=>Em P N S t (S.aZ N x) lo hi
 | .call c=>match c.callee,c.args.toList,c.argTypes.toList with
  | .builtin .len,[x],[t]=>Lu P S t (S.aZ N x)
  | .builtin b,[x,y],_=>LB S b (S.aZ N x) (S.aZ N y)
  | .value f,l,_=>Lr P S (S.aZ N f) (l.map (S.aZ N))
  |_,_,_=>none
 |_=>none
section
variable {P:Program} {G:a8} {o:Oper} {N B:Nat} {S:ao} {M:List aR}
theorem S9{e:Env}{g:ab}{b:Bool}{x:ab}(h:g.az e .bool=b):(x.tn g b).den G e=x.den G e:=by
 unfold ab.tn
 split
 ·rename_i h' c v
  split
  ·rename_i ad
   simp only[Bool.and_eq_true,decide_eq_true_eq]at ad
   have:=La ad.1
   subst this;obtain⟨_,rfl⟩:=ad;simp only[ab.den,h]
   cases c<;>rfl
  ·rfl
 ·rfl
theorem Er{e:Env}{r:aV}(h:r.one=true)(x:ab):x.get e r=x.az e r:=by
 cases r<;>first|rfl|cases h
theorem il.nil{v:ab}(h: ∀e,(∀c∈S.g,c.ok e)→cQ P G o (S.den G N B e) (v.den G e)):il P G N B M o S ⟨[],[],v⟩:=fun e hf _ _=>h e hf
theorem ze7{c x y:Operand}{r:dt}(an:o.op= .pick c x y)(h:Lo S (S.aZ N c) (S.aZ N x) (S.aZ N y)=some r):il P G N B M o S r:=fun e hf hx hn=>by
 unfold Lo at h
 split at h
 ·rename_i b ad
  cases h
  have hc:aJ G (S.den G N B e) c= .av (.v (.bool b)):=by rw[bI hf,ad];rfl
  refine zO c x y an hc ?_
  cases b<;>simp[bI hf]
 ·rename_i b ad _
  split at h
  ·rename_i ag
   cases h
   have aj:=qF ad hf
   have hc:aJ G (S.den G N B e) c= .av (.v (.bool b)):=by rw[bI hf,fY ag,aj];rfl
   refine zO c x y an hc ?_
   cases b<;>simp[bI hf]
  ·cases h
 ·split at h
  ·rename_i hc
   split at h
   ·rename_i q _
    split at h
    ·rename_i ad
     cases h;simp only[Bool.and_eq_true]at ad
     have zG:aJ G (S.den G N B e) c= .av (.v (.bool ((S.aZ N c).az e .bool))):=(bI hf c).trans (fY hc)
     refine(zO c x y an zG rfl).sub ?_
     have aM:Env.at e S.k=_:=hx 0 _ rfl
     simp only[ab.den,aM,bK.den,cB,bI hf,Er ad.2.2]
     cases gC:(S.aZ N c).az e .bool with
     |true=>
      simp only[cond_true,if_true];rw[←S9 (G:=G) (x:=S.aZ N x) gC];exact vg ad.1
     |false=>
      simp only[cond_false,Bool.false_eq_true,if_false];rw[←S9 (G:=G) (x:=S.aZ N y) gC];exact vg ad.2.1
    ·cases h
   ·cases h
  ·cases h
theorem LL{e:Env}{r:aV}: ∀{l:List ab} {j:Nat} {x:ab},tq r l=true→l[j]? =some x→Sub (x.den G e) (.av (fH r (te e r l j)))
 |[],_,_,_,h=>by simp at h
 |[y],j,x,a1,h=>by
  have af:j=0:=by
   have:=(List.getElem?_eq_some_iff.1 h).1
   simp at this;exact this
  subst af;simp only[List.getElem?_cons_zero,Option.some.injEq]at h
  subst h;simp only[tq,Bool.and_eq_true]at a1;exact vg a1.1
 |y::z::l,0,x,a1,h=>by
  simp only[List.getElem?_cons_zero,Option.some.injEq]at h
  subst h;simp only[tq,Bool.and_eq_true]at a1;exact vg a1.1
 |y::z::l,j+1,x,a1,h=>by
  simp only[List.getElem?_cons_succ]at h
  simp only[tq,Bool.and_eq_true]at a1
  have:=LL (e:=e) (r:=r) (l:=z::l) (j:=j) (x:=x) (by simp only[tq,Bool.and_eq_true];exact a1.2) h
  have ad:Nat.beq (j+1) 0=false:=rfl
  simp only[te,ad,cond_false,Nat.add_sub_cancel];exact this
theorem Es{e:Env}{l:List ab}{j:Nat}{x:ab}(h:l[j]? =some x):(ab.bQ G e l)[j]? =some (x.den G e):=by rw[e6,List.getElem?_map,h];rfl
theorem ze8{t:TypeId}{x i:Operand}{r:dt}(an:o.op= .index t x i)(h:Lp P S t (S.aZ N x) (S.aZ N i)=some r):il P G N B M o S r:=fun e hf hx hn=>by
 unfold Lp at h
 split at h
 ·rename_i l aq
  have fS:aJ G (S.den G N B e) x= .agg (ab.bQ G e l):=by rw[bI hf,aq];rfl
  split at h
  ·rename_i len el hu
   split at h
   ·rename_i ad bN
    simp only[Bool.and_eq_true]at ad
    have hlen:=Nat.eq_of_beq_eq_true ad.2
    split at h
    ·rename_i j hi
     split at h
     ·rename_i v aw
      cases h
      have af:=(List.getElem?_eq_some_iff.1 aw).1
      exact Sl j an hu ad.1 bN (by rw[bI hf,hi];rfl) fS (Es aw) (by omega)
     ·cases h
    ·split at h
     ·rename_i eQ hi ag
      split at h
      ·rename_i a1
       cases h;simp only[Bool.and_eq_true]at a1
       have jr:0≤cm ((S.aZ N i).dyn e)∧cm ((S.aZ N i).dyn e)<(l.length:Int):=Ef hf hn
       obtain⟨j,af⟩: ∃j:Nat,cm ((S.aZ N i).dyn e)=(j:Int):=⟨_,(Int.toNat_of_nonneg jr.1).symm⟩
       have cM:j<l.length:=by omega
       have hq:aJ G (S.den G N B e) i=iR (j:Int):=by
        rw[bI hf,jx hi,←lT hi,af]
       have aw:l[j]? =some l[j]:=List.getElem?_eq_getElem cM
       refine(Sl j an hu ad.1 bN hq fS (Es aw) (by omega)).sub ?_
       have aM:Env.at e S.k=_:=hx 0 _ rfl
       simp only[ab.den,aM,bK.den,cB,af,Int.toNat_natCast];exact LL a1.1 aw
      ·cases h
     ·cases h
   ·cases h
  ·cases h
 ·split at h
  ·rename_i k aa ae aH
   cases h
   have fS:aJ G (S.den G N B e) x=_:=(bI hf x).trans (fY aa)
   have hq:aJ G (S.den G N B e) i=_:=(bI hf i).trans (jx ae)
   obtain⟨g1,g2⟩:=zeV hf ae hn;exact qG (f:=.rR k) (hx 0 _ rfl) (zeB _ k _ an (uX aH) hq fS g1 g2)
  ·cases h
theorem Ta{e:Env}{c:bL}{i:Nat}{x:fO c}(h:Env.at e i=⟨.st c,x⟩):(ab.ip c i 0).den G e= .av (.ptr (cb c x)):=by
 simp only[ab.den,h,cB,List.drop_zero]
theorem Tb{c:bL}{l:List (fO c)}{z:Int}(aM:0≤z)(aa:z<(l.length:Int)):l[z.toNat]? =some (l.getD z.toNat (aA c)):=by
 have:z.toNat<l.length:=by omega
 rw[List.getD_eq_getElem?_getD,List.getElem?_eq_getElem this]
 rfl
theorem Et{e:Env}{x:ab}{c:bL}(h:vq x=some c):x.den G e= .av (.li c (x.az e (.li c)))∧x.rt=some (.li c):=by
 unfold vq at h
 split at h
 ·rename_i lP ag
  cases h;exact⟨fY ag,ag⟩
 ·cases h
theorem ze9{s:aP}{x:Operand}{t:TypeId}(an:o.op= .call {callee:=.builtin .len,args:=#[x],argTypes:=#[t]})(aH:isSlice P t=true){id n:Nat}(hx:aJ G s x= .dA id n){bt:TypeId}{cs:List aD}(bd:aE s.heap id=some (.box bt cs)):cQ P G o s (.av (.v (.int .i64 (n:Int)))):=
 fun E a w β ro ag=>by
  have h:=ag.eval x
  rw[hx]at h;generalize hc:a.eval x=c at h
  cases h with
  |dA _ _ _ aq ak=>
   obtain⟨b,_,rfl⟩:=ak _ _ bd;unfold isSlice at aH
   split at aH
   ·rename_i e hu
    refine⟨.int .i64 n,?_,.fE rfl⟩
    simp[execOp,an,resolve,invoke,builtin,hc,Builtin.len_,run_underlying hu,goInt]
   ·cases aH
theorem zfa{s:aP}{x y:Operand}{t:TypeId}(an:o.op= .indexAddr t x y){wA:Nat}(aH:j7 P t=some wA){k:IntKind}{j n:Nat}(ax:aJ G s y= .av (.v (.int k (j:Int))))(af:j<n){id:Nat}(hx:aJ G s x= .dA id n){bt:TypeId}{cs:List aD}(bd:aE s.heap id=some (.box bt cs)):cQ P G o s (.ptr id (j*wA)):=
 fun E a w β ro ag=>by
  have h:=ag.eval x
  rw[hx]at h;generalize hc:a.eval x=c at h
  cases h with
  |dA _ _ _ aq ak=>
   obtain⟨b,ad,rfl⟩:=ak _ _ bd;obtain⟨e,hu,bN⟩:=zU aH;refine⟨.pointer (some ⟨b,j*wA,none⟩),?_,.ptr _ _ _ aq fun bD cs' _=>⟨b,ad,rfl⟩⟩
   by_cases aS:j*wA=0<;>simp[execOp,an,hc,ag.ef ax,Instr.indexAt,asIntOf,run_underlying hu,af,bN,Addr.add,aS]
theorem zfb(cC:ByteArray)(c:Int):Extern.BytealgIndexByte.indexByte #[.string cC,.int .u8 c]=pure (.int .i64 (D2 cC c)):=by
 have hi:Extern.BytealgIndexByte.indexByte #[.string cC,.int .u8 c]=(match(List.range cC.size).find? fun i=>cC[i]! ==c.toNat.toUInt8 with
  |some i=>pure (goInt i)
  |none=>pure (goInt (-1))):=rfl
 rw[hi]
 unfold D2
 cases List.find? (fun i=>cC[i]! ==c.toNat.toUInt8) (List.range cC.size)<;>rfl
theorem Eu{a b:String}(h:(a==b)=true):a=b:=by simpa using h
theorem zfc{f:Operand}{aG:List Operand}{args:Array Operand}{ts:Array TypeId}{r:dt}(an:o.op= .call {callee:=.value f,args:=args,argTypes:=ts})(a1:args.toList=aG)(h:Lr P S (S.aZ N f) (aG.map (S.aZ N))=some r):il P G N B M o S r:=fun e hf hx hn=>by
 unfold Lr at h
 split at h
 rotate_left
 ·cases h
 rename_i Tc vr
 have xG:aJ G (S.den G N B e) f= .fn (.func Tc) [] []:=by rw[bI hf,vr];rfl
 have start: ∀{ev:Array Value→Sem Value} {fn:Func},P.funcs[Tc]? =some fn→fn.body.isNone=true→(fn.name== "runtime.NumGoroutine")=false→Extern.findNext fn=none→Extern.find fn=some ev→∀E a w β ro,c3 E G (S.den G N B e) a w β ro→(execOp a.eval o).run P w=((ev (args.map a.eval)).run P w).andThen fun v w'=>.ok (.value v) w':=fun {ev fn} aa ae au aQ bF E a w β ro ag=>by
  have hc:=ag.eval f
  rw[xG]at hc;generalize he:a.eval f=Kg at hc
  cases hc with
  |fn _ _ _ c d g1 g2 _ _=>
   have hD:c= #[]:=by simpa using g1
   have ox:d= #[]:=by simpa using g2
   subst hD ox;simp only[execOp,an,resolve,he,Deferred.ofValue,Sem.run_bind,Sem.run_pure,Result.andThen_ok,invoke,Array.empty_append,Array.append_empty];exact run_callFunc_extern aa au ae aQ bF _ w
 split at h
 ·rename_i x aj aq
  cases h;unfold Lq at aj
  split at aj
  rotate_left
  ·cases aj
  rename_i fn mc
  split at aj
  ·rename_i _ AH wW
   simp only[Bool.and_eq_true]at AH;obtain⟨ad,gK⟩:=AH
   have hn:=Eu wW
   have gK:=Eu gK
   obtain⟨y,rfl⟩: ∃y,aG=[y]:=by
    match aG,aq with
    |[y],_=>exact⟨y,rfl⟩
   simp only[List.map_cons,List.map_nil,List.cons.injEq,and_true]at aq
   have h3:args= #[y]:=by rw[←Array.toList_inj];exact a1
   intro E a w β ro ag;refine⟨a.eval y,?_,by have:=ag.eval y;rw[bI hf,aq]at this;exact this⟩
   rw[start (ev:=Extern.AbiNoEscape.same) mc ad (by rw[hn];rfl) (by unfold Extern.findNext;simp only[hn,gK]<;>rfl) (by unfold Extern.find;simp only[hn,gK]<;>rfl) E a w β ro ag,h3]
   have hm:(#[y]:Array Operand).map a.eval= #[a.eval y]:=by simp
   rw[hm];rfl
  ·cases aj
  ·cases aj
 ·rename_i x z aj aq
  split at h
  ·rename_i g1 g2
   cases h;unfold Lq at aj
   split at aj
   rotate_left
   ·cases aj
   rename_i fn mc
   split at aj
   ·cases aj
   ·rename_i AH _ wW
    simp only[Bool.and_eq_true]at AH;obtain⟨ad,gK⟩:=AH
    have hn:=Eu wW
    have gK:=Eu gK
    obtain⟨y,u,rfl⟩: ∃y u,aG=[y,u]:=by
     match aG,aq with
     |[y,u],_=>exact⟨y,u,rfl⟩
    simp only[List.map_cons,List.map_nil,List.cons.injEq,and_true]at aq
    have h3:args= #[y,u]:=by rw[←Array.toList_inj];exact a1
    have ax:aJ G (S.den G N B e) y= .av (.v (.string (x.az e .str))):=by rw[bI hf,aq.1];exact fY g1
    have hu:aJ G (S.den G N B e) u= .av (.v (.int .u8 (z.az e (.int .u8)))):=by rw[bI hf,aq.2];exact fY g2
    refine qG (f:=.xn) (hx 0 _ rfl) fun E a w β ro ag=>?_
    refine⟨.int .i64 (D2 (x.az e .str) (z.az e (.int .u8))),?_,.fE rfl⟩
    rw[start (ev:=Extern.BytealgIndexByte.indexByte) mc ad (by rw[hn];rfl) (by unfold Extern.findNext;simp only[hn,gK]<;>rfl) (by unfold Extern.find;simp only[hn,gK]<;>rfl) E a w β ro ag,h3]
    have hm:(#[y,u]:Array Operand).map a.eval= #[.string (x.az e .str),.int .u8 (z.az e (.int .u8))]:=by simp[ag.ef ax,ag.ef hu]
    rw[hm];rw[zfb];rfl
   ·cases aj
  ·cases h
 ·cases h
theorem zfd{t:TypeId}{x i:Operand}{r:dt}(an:o.op= .indexAddr t x i)(h:Ls P S t (S.aZ N x) (S.aZ N i)=some r):il P G N B M o S r:=fun e hf hx hn=>by
 unfold Ls at h
 split at h
 ·rename_i k hi
  have hq:aJ G (S.den G N B e) i=_:=(bI hf i).trans (jx hi)
  split at h
  ·rename_i n lU
   split at h
   ·rename_i id bd
    split at h
    ·rename_i bD c y ah
     split at h
     ·rename_i ad
      cases h
      have ad:=Nat.eq_of_beq_eq_true ad
      obtain⟨g1,g2⟩:=xz hf hi hn;obtain⟨j,af⟩: ∃j:Nat,(S.aZ N i).az e (.int k)=(j:Int):=⟨_,(Int.toNat_of_nonneg g1).symm⟩;rw[af]at hq g2
      have g2:(j:Int)<((List.length (y.az e (.li c)):Nat):Int):=g2
      have:=RE t x i an lU hq (p:=.cW id j 0) (by
       rw[bI hf,bd];simp only[ab.den,mo,ao.den,ei,ah,Option.map_some,bG.den]
       rw[if_pos ⟨ad.symm,by rw[List.length_map];omega⟩])
      simp only[ab.den,lT hi,af,Int.toNat_natCast];exact this
     ·cases h
    ·cases h
   ·rename_i id m bd
    split at h
    ·rename_i bt l bk j ah oO
     split at h
     ·rename_i RI
      cases h;exact zfa an lU (k:=bk) (j:=j) (by rw[bI hf,oO];rfl) (e7 RI) (id:=id) (bt:=bt) (cs:=ab.bQ G e l) (by rw[bI hf,bd];rfl) (by simp only[ao.den,ei,ah,Option.map_some,bG.den])
     ·cases h
    ·cases h
   ·split at h
    ·rename_i c hc
     split at h
     ·rename_i ad
      cases h
      have ad:=Nat.eq_of_beq_eq_true ad
      rw[ad]at lU;obtain⟨hd,AI⟩:=Et (G:=G) (e:=e) hc;obtain⟨g1,g2⟩:=xz hf hi hn
      have:=(SE c _ k _ an lU hq ((bI hf x).trans hd) g1 g2).v
      have aM:Env.at e S.k=_:=hx 0 _ rfl
      have aa:=Ta (G:=G) (x:=List.getD ((S.aZ N x).az e (.li c)) (Int.toNat ((S.aZ N i).az e (.int k))) (aA c)) aM
      show cQ P G o _ ((ab.ip c S.k 0).den G e);rw[aa];exact this
     ·cases h
    ·split at h
     ·rename_i c rK _
      cases h
      have jr:=hn _ (List.mem_singleton.2 rfl)
      have aS:(S.aZ N x).az e (.li c)=[]:=by
       unfold ab.isNil at rK
       split at rK
       ·rename_i aI
        simp only[aI,ab.az,ab.fr,cB]
       ·cases rK
      simp only[ff.ok,cD.vh,aS]at jr
      have ae:(S.aZ N i).az e (.int k)<((List.length ([]:List (fO c)):Nat):Int):=jr.2
      have au:0≤(S.aZ N i).az e (.int k):=jr.1
      exact absurd (Int.lt_of_le_of_lt au ae) (Int.lt_irrefl _)
     ·cases h
  ·split at h
   ·rename_i len n l a1 aq
    have dJ:=AE (G:=G) (N:=N) (B:=B) (e:=e) aq
    rw[←bI (B:=B) hf]at dJ
    split at h
    ·rename_i bk j af
     split at h
     ·rename_i p cM ak
      cases h
      have cM:=e7 cM
      refine Km t x i an a1 (k:=bk) (j:=j) (by rw[bI hf,af];rfl) cM dJ ?_
      have ai:=AF (G:=G) (e:=e) ak
      rw[←ai,←bI (N:=N) (B:=B) hf];revert dJ
      cases aJ G (S.den G N B e) x<;>intro dJ<;>first|(simp[fp]at dJ;done)|skip
      all_goals rename_i y
      ·cases y<;>first|(simp[fp]at dJ;done)|rfl
      ·rfl
      ·rfl
     ·cases h
    ·rename_i id off bd _
     cases h
     have jr:0≤cm ((S.aZ N i).dyn e)∧cm ((S.aZ N i).dyn e)<(len:Int):=Ef hf hn
     obtain⟨j,af⟩: ∃j:Nat,cm ((S.aZ N i).dyn e)=(j:Int):=⟨_,(Int.toNat_of_nonneg jr.1).symm⟩;rw[←lT hi,af]at hq;refine Km t x i an a1 hq (by omega) dJ ?_
     rw[bI hf,bd];simp only[ab.den,iP,af,Int.toNat_natCast]
    ·cases h
   ·cases h
 ·cases h
theorem zfe{t:TypeId}{x:Operand}{r:dt}(an:o.op= .load t x)(h:Lt P S t (S.aZ N x)=some r):il P G N B M o S r:=fun e hf hx hn=>by
 unfold Lt at h
 split at h
 ·rename_i id i off ak
  split at h
  ·rename_i bD c y k ah hi
   split at h
   ·rename_i v aw ax
    cases h;obtain⟨g1,g2⟩:=xz hf hi hn
    have aM:Env.at e S.k=⟨.st c,List.getD (y.az e (.li c)) (i.az e (.int k)).toNat (aA c)⟩:=hx 0 _ rfl
    refine Hu an ?_ aw
    rw[bI hf,ak];simp only[ab.den,fp,ao.den,ei,ah,Option.map_some,bG.den,lT hi];rw[List.getElem?_map,Tb g1 g2]
    simp only[Option.map_some,Option.some.injEq];rw[Lj,tc,aM,cB,List.map_drop]
   ·cases h
  ·cases h
 ·rename_i id off i ak
  split at h
  ·rename_i bD l k ah hi
   split at h
   ·rename_i q aI
    split at h
    ·rename_i a1
     cases h;simp only[Bool.and_eq_true]at a1
     have jr:0≤cm (i.dyn e)∧cm (i.dyn e)<((l.drop off).length:Int):=Ef hf hn
     obtain⟨j,af⟩: ∃j:Nat,cm (i.dyn e)=(j:Int):=⟨_,(Int.toNat_of_nonneg jr.1).symm⟩
     have cM:j<(l.drop off).length:=by omega
     have aw:(l.drop off)[j]? =some (l.drop off)[j]:=List.getElem?_eq_getElem cM
     have hd:(l.drop off).drop j=(l.drop off)[j]::(l.drop off).drop (j+1):=List.drop_eq_getElem_cons cM
     have:=J0 t x an a1.2.2 (y:=((l.drop off)[j]).den G e) (cs:=ab.bQ G e ((l.drop off).drop (j+1))) (s:=S.den G N B e) (G:=G) (by
      rw[bI hf,ak];simp only[ab.den,fp,ao.den,ei,ah,Option.map_some,bG.den,af,Int.toNat_natCast,Nat.mul_one,Option.some.injEq];rw[←Lj,←List.drop_drop,hd]
      rfl)
     refine this.sub ?_
     have aM:Env.at e S.k=_:=hx 0 _ rfl
     simp only[ab.den,aM,bK.den,cB,af,Int.toNat_natCast];exact LL a1.1 aw
    ·cases h
   ·cases h
  ·cases h
 ·split at h
  ·rename_i l aq
   split at h
   ·rename_i v aw
    cases h;refine Hu an ?_ aw
    rw[bI hf];exact AE aq
   ·cases h
  ·cases h
theorem zff{t:TypeId}{x:Operand}{r:dt}(an:o.op= .call {callee:=.builtin .len,args:=#[x],argTypes:=#[t]})(h:Lu P S t (S.aZ N x)=some r):il P G N B M o S r:=fun e hf hx hn=>by
 unfold Lu at h
 split at h
 ·rename_i ak
  split at h
  ·rename_i aH
   cases h;exact Kk x t an aH (m:=0) (by rw[bI hf,ak];rfl)
  ·cases h
 ·rename_i b ak
  split at h
  ·rename_i aH
   cases h;exact Kl x t an (uX aH) (by rw[bI hf,ak];rfl)
  ·cases h
 ·rename_i id n ak
  split at h
  ·rename_i bt l ah aH
   cases h;exact ze9 an aH (id:=id) (bt:=bt) (cs:=ab.bQ G e l) (by rw[bI hf,ak];rfl) (by simp only[ao.den,ei,ah,Option.map_some,bG.den])
  ·cases h
 ·rename_i id ak
  split at h
  ·rename_i bD c y ah
   split at h
   ·rename_i aH
    cases h;refine qH (f:=.iU c) (hx 0 _ rfl) (Kk x t an aH (m:=List.length (y.az e (.li c))) ?_)
    rw[bI hf,ak];simp only[ab.den,lh,ao.den,ei,ah,Option.map_some,bG.den,List.length_map]
   ·cases h
  ·cases h
 ·split at h
  ·rename_i ag
   split at h
   ·rename_i aH
    cases h;exact qH (f:=.n6) (hx 0 _ rfl) (Kl x t an (uX aH) ((bI hf x).trans (fY ag)))
   ·cases h
  ·rename_i c ag
   split at h
   ·rename_i aH
    cases h;exact qH (f:=.iU c) (hx 0 _ rfl) (zeC c _ an aH ((bI hf x).trans (fY ag)))
   ·cases h
  ·split at h
   ·rename_i n LM
    cases h;exact RB x t an LM
   ·cases h
theorem xH{e:Env}(hf: ∀c∈S.g,c.ok e){lo:Option Operand}{l:Option ab}(h:xF N S lo=some l):Ax G (S.den G N B e) lo (mB e l):=by
 unfold xF at h
 split at h
 ·cases h;trivial
 ·split at h
  ·rename_i y k ag
   cases h;exact⟨k,by rw[bI hf,jx ag,lT ag]⟩
  ·cases h
theorem Td{t:TypeId}{x:Operand}{lo hi:Option Operand}{r:dt}(an:o.op= .slice t x lo hi none)(h:Em P N S t (S.aZ N x) lo hi=some r):il P G N B M o S r:=fun e hf hx hn=>by
 unfold Em at h
 split at h
 ·rename_i l h' aq bb
  split at h
  ·rename_i ag
   split at h
   ·rename_i aH
    cases h
    have aM:Env.at e S.k=_:=hx 0 _ rfl
    simp only[ab.den,aM,bK.den,cB];refine zeQ _ an (uX aH) ((bI hf x).trans (fY ag)) (xH hf aq) (xH hf bb) ?_
    cases l<;>cases h'<;>first|trivial|exact hn _ (List.mem_singleton.2 rfl)
   ·cases h
  ·rename_i c ag
   split at h
   ·rename_i n lU
    split at h
    ·rename_i ad
     cases h;rw[Nat.eq_of_beq_eq_true ad]at lU
     have aM:Env.at e S.k=_:=hx 0 _ rfl
     simp only[ab.den,aM,bK.den,cB];refine(SS c _ an lU ((bI hf x).trans (fY ag)) (xH hf aq) (xH hf bb) ?_).v
     cases l<;>cases h'<;>first|trivial|exact hn _ (List.mem_singleton.2 rfl)
    ·cases h
   ·cases h
  ·cases h
 ·cases h
theorem zfg{src dst:TypeId}{x:Operand}{r:dt}(an:o.op= .convert src dst x)(h:Lv P S src dst (S.aZ N x)=some r):il P G N B M o S r:=fun e hf hx hn=>by
 unfold Lv at h
 split at h
 ·rename_i id bd
  unfold S8 at h
  split at h
  ·rename_i bD y el ah ai
   split at h
   ·rename_i hu hd
    cases h;refine qH (f:=.cC) (hx 0 _ rfl) (KY src dst el x an ai hu hd (l:=y.az e (.li .u8)) ?_)
    rw[bI hf,bd];simp only[ab.den,fx,ao.den,ei,ah,Option.map_some,bG.den];rfl
   ·cases h
  ·cases h
 rename_i AJ
 split at h
 ·rename_i k ag
  split at h
  ·rename_i ai hd
   cases h;exact qH (f:=.pa k _) (hx 0 _ rfl) (RR src dst x an (by rw[ai];rfl) hd ((bI hf x).trans (jx ag)))
  ·cases h
 ·rename_i ag
  split at h
  ·rename_i el ai
   split at h
   ·rename_i hu hd
    cases h;refine qH (f:=.cC) (hx 0 _ rfl) (KY src dst el x an ai hu hd (l:=(S.aZ N x).az e (.li .u8)) ?_)
    rw[bI hf,fY ag];rfl
   ·cases h
  ·cases h
 ·cases h
theorem zfh{op:UnOp}{t:TypeId}{x:Operand}{r:dt}(an:o.op= .unOp op t x)(h:Lx S op (S.aZ N x)=some r):il P G N B M o S r:=fun e hf hx hn=>by
 unfold Lx at h
 split at h
 ·rename_i ag
  cases h;exact qH (f:=.nf) (hx 0 _ rfl) (Rq t x an ((bI hf x).trans (fY ag)))
 ·rename_i k ag
  cases h;exact qH (f:=.Ar k) (hx 0 _ rfl) (Rr t x an ((bI hf x).trans (jx ag)))
 ·rename_i k ag
  cases h
  have fS:aJ G (S.den G N B e) x=_:=(bI hf x).trans (jx ag)
  exact qH (f:=.uM k) (hx 0 _ rfl) fun _ bc w β ro h=>⟨_,by simp[execOp,an,h.ef fS,Op.unary,Op.intBits,gG.den,aL.jE],.fE rfl⟩
 ·cases h
theorem zfi{t:TypeId}{ps:Array (Nat × Operand)}{r:dt}(an:o.op= .build t ps)(h:Ly P N S t ps.toList=some r):il P G N B M o S r:=fun e hf hx hn=>by
 unfold Ly at h
 split at h
 ·rename_i pl zs rH aS
  split at h
  ·rename_i ad
   simp only[Bool.and_eq_true]at ad
   split at h
   ·rename_i ds hd
    cases h
    have aa:=Eh (G:=G) (e:=e) ad.2 hd
    have ae:ab.bQ G e (zs.map .cs)=zs.map fun z=>.av (.v z):=by rw[e6,List.map_map];rfl
    rw[ae]at aa
    have au:(ps.toList.map fun p=>(p.1,aJ G (S.den G N B e) p.2))=(ps.toList.map fun p=>(p.1,S.aZ N p.2)).map fun p=>(p.1,p.2.den G e):=by
     rw[List.map_map];exact List.map_congr_left fun p _=>by simp[bI hf]
    refine RL t ps an rH aS ad.1 au ?_ aa
    rw[List.all_map];refine List.all_eq_true.2 fun p ak=>?_
    have:=List.all_eq_true.1 ad.2 p ak
    simp only[Function.comp];rw[vn this];exact xB this
   ·cases h
  ·cases h
 ·cases h
theorem zfj{t:TypeId}{x:Operand}{f:Nat}{r:dt}(an:o.op= .field t x f)(h:LA P t (S.aZ N x) f=some r):il P G N B M o S r:=fun e hf hx hn=>by
 unfold LA at h
 split at h
 ·rename_i l off aq ak
  split at h
  ·rename_i v aw
   cases h;exact RG t x f an ak (by rw[bI hf,aq];rfl) (Es aw)
  ·cases h
 ·rename_i l off n aq ak
  split at h
  ·rename_i ad
   cases h
   have:=RH t x f an ak (s:=S.den G N B e) (G:=G) (cs:=ab.bQ G e l) (by rw[bI hf,aq];rfl) (by rw[me];exact Nat.le_of_ble_eq_true ad)
   simp only[ab.den];rw[e6,List.map_take,List.map_drop,←e6];exact this
  ·cases h
 ·cases h
theorem zfk{b:Builtin}{x y:Operand}{ts:Array TypeId}{r:dt}(an:o.op= .call {callee:=.builtin b,args:=#[x,y],argTypes:=ts})(h:LB S b (S.aZ N x) (S.aZ N y)=some r):il P G N B M o S r:=fun e hf hx hn=>by
 unfold LB at h
 split at h
 ·rename_i k bk aa ae
  split at h
  ·rename_i aj
   cases h
   have aj:=of_decide_eq_true aj
   subst aj;exact qG (f:=.uN k) (hx 0 _ rfl) (RS x y ts an ((bI hf x).trans (jx aa)) ((bI hf y).trans (jx ae)))
  ·cases h
 ·rename_i k bk aa ae
  split at h
  ·rename_i aj
   cases h
   have aj:=of_decide_eq_true aj
   subst aj;exact qG (f:=.mx k) (hx 0 _ rfl) (RT x y ts an ((bI hf x).trans (jx aa)) ((bI hf y).trans (jx ae)))
  ·cases h
 ·cases h
theorem zfl{t:TypeId}(h:En P t=true): ∃gO i,P.underlying t=some (.pointer gO)∧P.info? gO=some i∧i.size≠0:=by
 unfold En at h
 split at h
 ·rename_i e hu
  cases hi:P.info? e with
  |none=>rw[hi]at h;cases h
  |some i=>
   rw[hi]at h;simp only[Option.isSome_some,Bool.true_and,Option.map_some]at h;refine⟨e,i,hu,hi,fun aS=>?_⟩
   rw[aS]at h;cases h
 ·cases h
theorem LN{id:Nat}{e:Env}(h:AG S id=true): ∃t cs,aE (S.den G N B e).heap id=some (.box t cs):=by
 unfold AG at h
 split at h
 ·rename_i t l ah
  exact⟨t,ab.bQ G e l,by simp only[ao.den,ei,ah,Option.map_some,bG.den]⟩
 ·cases h
theorem Te{s:aP}{b:Bool}{g:ab}{r:dt}{e:Env}(h:Eo S b g=some r)(hx: ∀(j:Nat) (x:bK),r.xs[j]? =some x→Env.at e (S.k+j)=x.den M e)(ai:cQ P G o s (.av (.v (.bool (bif b then g.az e .bool else !(g.az e .bool)))))):cQ P G o s (r.v.den G e):=by
 unfold Eo at h
 split at h
 ·rename_i ag
  cases h
  have:=fY (G:=G) (e:=e) ag
  show cQ P G o s (g.den G e);rw[this];exact ai
 ·rename_i ag
  cases h;exact qH (f:=.nf) (hx 0 _ rfl) ai
 ·cases h
theorem zfm{tp gO:TypeId}{j:TypeInfo}(w:World)(a:Addr)(ak:P.underlying tp=some (.pointer gO))(zfn:P.info? gO=some j):(Op.equal tp (.pointer (some a)) (.pointer (some a))).run P w= .ok true w:=by
 have h: ∀d:Nat,(Op.equalIn (d+1) tp (.pointer (some a)) (.pointer (some a))).run P w= .ok true w:=fun d=>by
  simp[Op.equalIn,run_underlying ak,sizeOf,typeInfo,zfn,run_sameAddr_same]
 exact h 9999
theorem eq_nil{tp gO:TypeId}(w:World)(q:Option Addr)(ak:P.underlying tp=some (.pointer gO)):(Op.equal tp (.pointer none) (.pointer q)).run P w= .ok q.isNone w:=by
 have h: ∀d:Nat,(Op.equalIn (d+1) tp (.pointer none) (.pointer q)).run P w= .ok q.isNone w:=fun d=>by
  cases q<;>simp[Op.equalIn,run_underlying ak]
 exact h 9999
theorem Ev{s:aP}{op:BinOp}{cw ty:TypeId}{x y:Operand}{b c:Bool}(an:o.op= .binOp op cw x y ty)(aH:En P cw=true)(ad:LC op=some b)
 (h: ∀E a w β ro,c3 E G s a w β ro→∃p q,a.eval x= .pointer p∧a.eval y= .pointer q∧((q=none∧c=p.isNone)∨(p=none∧c=q.isNone)∨(∃cX,p=some cX∧q=some cX∧c=true))):cQ P G o s (.av (.v (.bool (bif b then c else !c)))):=
 fun E a w β ro ag=>by
  obtain⟨gO,i,hu,hi,bN⟩:=zfl aH;obtain⟨p,q,aa,ae,au⟩:=h E a w β ro ag;refine⟨.bool (bif b then c else !c),?_,.fE rfl⟩
  have zfo:P.underlying cw=some (.pointer (P.pointee cw)):=by rw[hu];simp[Program.pointee,hu]
  have heq:(Op.equal cw (.pointer p) (.pointer q)).run P w= .ok c w:=by
   rcases au with⟨rfl,rfl⟩|⟨rfl,rfl⟩|⟨cX,rfl,rfl,rfl⟩
   ·exact run_equal_pointer_nil w cw p zfo
   ·exact eq_nil w q hu
   ·exact zfm w cX hu hi
  unfold LC at ad
  split at ad
  ·cases ad
   have:(binOp .eql cw (.pointer p) (.pointer q)).run P w= .ok (.bool c) w:=by
    simp only[binOp];simp[heq]
   simp[execOp,an,aa,ae,eqGuard_at_pointer,this]
  ·cases ad
   have:(binOp .neq cw (.pointer p) (.pointer q)).run P w= .ok (.bool (!c)) w:=by
    simp only[binOp];simp[heq]
   simp[execOp,an,aa,ae,eqGuard_at_pointer,this]
  ·cases ad
theorem AK{E:Entry}{s:aP}{a:Act}{w:World}{β:Nat→Value}{ro:Nat→Prop}{x:Operand}(ag:c3 E G s a w β ro)(hx:aJ G s x= .av (.v (.pointer none))):a.eval x= .pointer none:=ag.ef hx
theorem tr{E:Entry}{s:aP}{a:Act}{w:World}{β:Nat→Value}{ro:Nat→Prop}{x:Operand}{id off:Nat}{t:TypeId}{cs:List aD}(ag:c3 E G s a w β ro)(hx:aJ G s x= .ptr id off)(ah:aE s.heap id=some (.box t cs)):
 ∃b,β id= .pointer (some ⟨b,0,none⟩)∧a.eval x= .pointer (some ⟨b,off,none⟩):=by
 have h:=ag.eval x
 rw[hx]at h
 generalize hc:a.eval x=c at h
 cases h with
 |ptr _ _ _ aq ak=>exact ak _ _ ah
theorem zfp{op:BinOp}{cw ty:TypeId}{x y:Operand}{r:dt}(an:o.op= .binOp op cw x y ty)(h:LD P S op cw (S.aZ N x) (S.aZ N y)=some r):il P G N B M o S r:=fun e hf hx hn=>by
 unfold LD at h
 split at h
 rotate_left
 ·cases h
 rename_i b aH ad
 split at h
 ·rename_i aa ae
  cases h
  have:=Ev (G:=G) (s:=S.den G N B e) (c:=true) an aH ad fun E a w β ro ag=>⟨none,none,AK ag (by rw[bI hf,aa];rfl),AK ag (by rw[bI hf,ae];rfl),.inl ⟨rfl,rfl⟩⟩
  cases b<;>exact this
 ·rename_i i q j q' aa ae
  split at h
  ·rename_i hc
   cases h;simp only[Bool.and_eq_true]at hc;obtain⟨⟨aW,dq⟩,c8⟩:=hc
   have aW:=Nat.eq_of_beq_eq_true aW
   have dq:=Nat.eq_of_beq_eq_true dq
   subst aW dq;obtain⟨bt,cs,ah⟩:=LN (G:=G) (N:=N) (B:=B) (e:=e) c8
   have:=Ev (G:=G) (s:=S.den G N B e) (c:=true) an aH ad fun E a w β ro ag=>by
    obtain⟨gq,g1,g2⟩:=tr ag (by rw[bI hf,aa];rfl) ah
    obtain⟨iq,g3,g4⟩:=tr ag (by rw[bI hf,ae];rfl) ah
    rw[g1]at g3
    cases g3
    exact⟨_,_,g2,g4,.inr (.inr ⟨_,rfl,rfl,rfl⟩)⟩
   cases b<;>exact this
  ·cases h
 ·rename_i g i off aa ae
  split at h
  ·rename_i hc
   obtain⟨bt,cs,ah⟩:=LN (G:=G) (N:=N) (B:=B) (e:=e) hc;refine Te h hx ?_
   have:=Ev (G:=G) (s:=S.den G N B e) (c:=!(g.az e .bool)) an aH ad fun E a w β ro ag=>by
    have Ew:a.eval y= .pointer none:=AK ag (by rw[bI hf,ae];rfl)
    have hd:aJ G (S.den G N B e) x=(ab.fj g (some i) off).den G e:=by rw[bI hf,aa]
    simp only[ab.den]at hd
    cases tt:g.az e .bool with
    |true=>
     rw[tt]at hd;obtain⟨gq,g1,g2⟩:=tr ag hd ah;exact⟨_,_,g2,Ew,.inl ⟨rfl,rfl⟩⟩
    |false=>
     rw[tt]at hd;exact⟨_,_,AK ag hd,Ew,.inl ⟨rfl,rfl⟩⟩
   cases b<;>simpa using this
  ·cases h
 ·rename_i g i q j q' aa ae
  split at h
  ·rename_i hc
   simp only[Bool.and_eq_true]at hc;obtain⟨⟨aW,dq⟩,c8⟩:=hc
   have aW:=Nat.eq_of_beq_eq_true aW
   have dq:=Nat.eq_of_beq_eq_true dq
   subst aW dq;obtain⟨bt,cs,ah⟩:=LN (G:=G) (N:=N) (B:=B) (e:=e) c8;refine Te h hx ?_
   refine Ev (G:=G) (s:=S.den G N B e) (c:=g.az e .bool) an aH ad fun E a w β ro ag=>?_
   obtain⟨iq,g3,g4⟩:=tr ag (by rw[bI hf,ae];rfl) ah
   have hd:aJ G (S.den G N B e) x=(ab.fj g (some i) q).den G e:=by rw[bI hf,aa]
   simp only[ab.den]at hd
   cases tt:g.az e .bool with
   |true=>
    rw[tt]at hd;obtain⟨gq,g1,g2⟩:=tr ag hd ah;rw[g1]at g3
    cases g3
    exact⟨_,_,g2,g4,.inr (.inr ⟨_,rfl,rfl,rfl⟩)⟩
   |false=>
    rw[tt]at hd;exact⟨_,_,AK ag hd,g4,.inr (.inl ⟨rfl,rfl⟩)⟩
  ·cases h
 ·cases h
theorem Tf{E:Entry}{s:aP}{a:Act}{w:World}{β:Nat→Value}{ro:Nat→Prop}{id off b:Nat}{t:TypeId}{cs:List aD}(ag:c3 E G s a w β ro)(ah:aE s.heap id=some (.box t cs))(ad:β id= .pointer (some ⟨b,0,none⟩))(aq:off<cs.length):
 ∃arr v,w.heap[b]? =some (.cells arr t (0,0))∧arr.size=cs.length∧w.cell? ⟨b,off,none⟩=some v:=by
 have dh:=ag.heap.c6 id _ ah
 cases dh with
 |box _ _ b' arr aa ae au aQ=>
  rw[ad]at aa;simp only[Value.pointer.injEq,Option.some.injEq,Addr.mk.injEq,and_true]at aa;subst aa;refine⟨arr,arr[off]'(by omega),ae,au,?_⟩
  have bH:off<arr.size:=by omega
  simp[World.cell?,ae,bH]
theorem zfq{src dst:TypeId}{x:Operand}{r:dt}(an:o.op= .convert src dst x)(h:LF P S src dst (S.aZ N x)=some r):il P G N B M o S r:=fun e hf hx hn=>by
 unfold LF at h
 split at h
 rotate_left
 ·cases h
 rename_i id off aw
 have hd:aJ G (S.den G N B e) x= .ptr id off:=by rw[bI hf,aw];rfl
 split at h
 ·rename_i bt l t ah ai qx
  split at h
  ·rename_i aS bH
   cases h;rw[aw]
   have bb:aE (S.den G N B e).heap id=some (.box bt (ab.bQ G e l)):=by simp only[ao.den,ei,ah,Option.map_some,bG.den]
   intro E a w β ro ag;obtain⟨b,ad,he⟩:=tr ag hd bb;obtain⟨arr,v,_,_,hc⟩:=Tf (off:=off) ag bb ad (by rw[me];exact e7 bH)
   refine⟨.pointer (some ⟨b,off,none⟩),?_,by have:=ag.eval x;rw[hd,he]at this;exact this⟩
   simp only[execOp,an,he,Sem.run_bind,run_convert_to_unsafe ai qx aS hc,Result.andThen_ok,Sem.run_pure]
  ·cases h
 ·rename_i bt l u ah ai qx
  split at h
  ·rename_i xI bH
   cases h;rw[aw]
   have bb:aE (S.den G N B e).heap id=some (.box bt (ab.bQ G e l)):=by simp only[ao.den,ei,ah,Option.map_some,bG.den]
   intro E a w β ro ag;obtain⟨b,ad,he⟩:=tr ag hd bb;obtain⟨arr,v,eW,bN,hc⟩:=Tf (off:=off) ag bb ad (by rw[me];exact e7 bH)
   refine⟨.pointer (some ⟨b,off,none⟩),?_,by have:=ag.eval x;rw[hd,he]at this;exact this⟩
   rw[me]at bN
   have Tg:w.shape? b=some (bt,l.length):=by simp[World.shape?,eW,bN]
   have zfr:(convert src dst (.pointer (some ⟨b,off,none⟩))).run P w= .ok (.pointer (some ⟨b,off,none⟩)) w:=by
    rw[Bool.and_eq_true]at xI;obtain⟨i,hi⟩:=Option.isSome_iff_exists.1 xI.2
    have xI:=xI.1
    by_cases aS:i.size=0
    ·simp[convert,Conv.unsafePointer,Conv.seenAt,viewAt,variablesAt,sizeOf,typeInfo,run_underlying ai,run_underlying qx,hi,aS,Tg,xI,Result.andThen]
    ·simp[convert,Conv.unsafePointer,Conv.seenAt,viewAt,variablesAt,sizeOf,typeInfo,run_underlying ai,run_underlying qx,hi,aS,Tg,xI,Result.andThen]
   simp only[execOp,an,he,Sem.run_bind,zfr,Result.andThen_ok,Sem.run_pure]
  ·cases h
 ·cases h
theorem zfs{t:TypeId}{x:Operand}{r:dt}(an:o.op= .slice t x none none none)(h:LG P S t (S.aZ N x)=some r):il P G N B M o S r:=fun e hf hx hn=>by
 unfold LG at h
 split at h
 ·rename_i id n el aw aH
  split at h
  ·rename_i bt l ah hc
   cases h;simp only[Bool.and_eq_true]at hc
   have jr:=e7 hc.1
   obtain⟨zjW,m0⟩:=Option.isSome_iff_exists.1 hc.2
   have hd:aJ G (S.den G N B e) x= .ptr id 0:=by rw[bI hf,aw];rfl
   have bb:aE (S.den G N B e).heap id=some (.box bt (ab.bQ G e l)):=by simp only[ao.den,ei,ah,Option.map_some,bG.den]
   intro E a w β ro ag;obtain⟨b,ad,he⟩:=tr ag hd bb
   have dT:=ag.eval x
   rw[hd,he]at dT
   have bH:id<(S.den G N B e).next:=by cases dT with|ptr _ _ _ aq _=>exact aq
   refine⟨.slice (some ⟨b,0,none⟩) n n,?_,.dA _ _ _ bH fun _ _ _=>⟨b,ad,rfl⟩⟩
   have b4: ¬n=0:=by omega
   simp[execOp,an,he,Instr.sliceAt,run_underlying aH,Instr.sureAddr,Instr.sliceBounds,sizeOf,typeInfo,m0,b4,addLit,Result.andThen]
  ·cases h
 ·cases h
theorem Th{e:Env}: ∀{l:List ab},mC e .u8 (l.map fun x=>.ch [x])=l.map fun x=>x.az e (.int .u8)
 |[]=>rfl
 |x::r=>by
  simp only[List.map_cons,mC,Th (l:=r)];rfl
theorem Ti{e:Env}: ∀{l:List ab},l.all (ab.ez (.int .u8))=true→ab.bQ G e l=(l.map fun x=>x.az e (.int .u8)).map fun n=>aD.av (.v (.int .u8 n))
 |[],_=>rfl
 |x::r,h=>by
  simp only[List.all_cons,Bool.and_eq_true]at h;simp only[ab.bQ,List.map_cons,D0 h.1,Ti h.2]
theorem zft{src dst:TypeId}{x:Operand}{r:dt}(an:o.op= .convert src dst x)(h:LH P S src dst (S.aZ N x)=some r):il P G N B M o S r:=fun e hf hx hn=>by
 unfold LH at h
 split at h
 ·rename_i id n el aw ai
  split at h
  ·rename_i bt l ah hu qx
   split at h
   ·rename_i hc
    cases h;simp only[Bool.and_eq_true]at hc
    have jr:=Nat.eq_of_beq_eq_true hc.1
    have aM:=hx 0 _ rfl
    have aa:=hx 1 _ rfl
    simp only[Nat.add_zero,bK.den,gG.den,gG.a,gG.c]at aM aa
    have aq:(ab.aU (.li .u8) S.k).az e (.li .u8)=l.map fun x=>x.az e (.int .u8):=by
     simp only[ab.az,ab.fr,ab.dyn,aM,cB];exact Th
    rw[aq]at aa;simp only[ab.den,aa,cB,fH,j9];generalize hm:(l.map fun x=>x.az e (.int .u8))=m
    have np:m.length=n:=by rw[←hm,List.length_map,jr]
    have hd:aJ G (S.den G N B e) x= .dA id n:=by rw[bI hf,aw];rfl
    have bb:aE (S.den G N B e).heap id=some (.box bt (m.map fun n=>.av (.v (.int .u8 n)))):=by
     simp only[ao.den,ei,ah,Option.map_some,bG.den];rw[Ti hc.2,hm]
    intro E a w β ro ag
    have dT:=ag.eval x
    rw[hd]at dT;generalize iS:a.eval x=c at dT
    cases dT with
    |dA _ _ _ aq ak=>
     obtain⟨b,ad,rfl⟩:=ak _ _ bb
     have eW: ∀(j:Nat) (v:Value),(m.map (Value.int .u8))[j]? =some v→w.cell? ((⟨b,0,none⟩:Addr).add j)=some v:=fun j v af=>by
      have dh:=ag.heap.c6 id _ bb
      cases dh with
      |box _ _ b' arr g1 g2 g3 g4=>
       rw[ad]at g1;simp only[Value.pointer.injEq,Option.some.injEq,Addr.mk.injEq,and_true]at g1;subst g1;rw[List.getElem?_map]at af
       obtain⟨z,aS,rfl⟩:=Option.map_eq_some_iff.1 af
       have bH:j<arr.size:=by rw[g3,List.length_map];exact(List.getElem?_eq_some_iff.1 aS).1
       have Ex:=g4 j (.av (.v (.int .u8 z))) (by rw[List.getElem?_map,aS];rfl)
       rw[Array.getD_eq_getD_getElem?,Array.getElem?_eq_getElem bH,Option.getD_some]at Ex
       have zfu:arr[j]= .int .u8 z:=bs.val Ex
       rw[addLit,Nat.zero_add];simp[World.cell?,g2,bH,zfu]
     have DB:=run_loadCells_list (P:=P) (w:=w) ⟨b,0,none⟩ (m.map (Value.int .u8)) eW
     refine⟨.string (bytesOf m),?_,.fE rfl⟩
     have cr:(convert src dst (.slice (some ⟨b,0,none⟩) n n)).run P w= .ok (.string (bytesOf m)) w:=by
      rw[run_convert_bytes_string w src dst el (some ⟨b,0,none⟩) n n ai hu qx,←np];exact run_bytesToString w ⟨b,0,none⟩ m.length m.length m (by simpa using DB)
     simp[execOp,an,iS,cr]
   ·cases h
  ·cases h
 ·cases h
theorem Ey{G:a8}{e:Env}: ∀{l:List ab} {rs:List aV},pw l=some rs→ab.bQ G e l=(fV e rs l).map fun d=>.av d.av
 |[],_,h=>by cases h;rfl
 |x::r,_,h=>by
  simp only[pw]at h
  split at h
  ·rename_i t l aa ae
   cases h;simp only[ab.bQ,fY aa,Ey ae,fV,List.map_cons];rfl
  ·cases h
theorem Tj{t:TypeId}(h:Ep P t=false): ∃d,P.underlying t=some d∧∀m,d≠ .interface m:=by
 unfold Ep at h
 split at h
 ·cases h
 ·cases h
 ·rename_i d hd hn
  cases hu:P.underlying t with
  |none=>exact absurd hu hn
  |some d=>exact⟨d,rfl,fun m e=>hd m (by rw[hu,e])⟩
theorem zfv{w:World}{ro:Nat→Prop}{σ:Heap}{β:Nat→Value}{M:Nat}{t:TypeId}{ys:List a6}{c:Value}(h:bs w ro σ β M (.agg (ys.map .av)) c):cR w ro (.et t true ys) (.iface t c):=by
 generalize aS:ys.map aD.av=zs at h
 cases h with
 |agg _ arr aa ae=>
  subst aS;refine .et t true ys _ (fun i=>arr.getD i undef) ⟨arr,rfl,by rw[aa,List.length_map],fun i _=>rfl⟩ fun i x hx=>?_
  have:=ae i (.av x) (by rw[List.getElem?_map,hx];rfl)
  cases this with
  |av _ _ q=>exact q
theorem Tk{w:World}{ro:Nat→Prop}{σ:Heap}{β:Nat→Value}{M:Nat}{t:TypeId}{ys:List a6}{c:Value}(h:cR w ro (.et t true ys) (.iface t c)):bs w ro σ β M (.agg (ys.map .av)) c:=by
 cases h with
 |et _ _ _ _ p aa ae=>
  obtain⟨arr,rfl,au,aQ⟩:=aa;refine .agg _ arr (by rw[au,List.length_map]) fun j x af=>?_
  rw[List.getElem?_map]at af
  obtain⟨y,ax,rfl⟩:=Option.map_eq_some_iff.1 af
  have aq:=(List.getElem?_eq_some_iff.1 ax).1
  rw[aQ j aq];exact .av _ _ (ae j y ax)
theorem zfw{t:TypeId}{x:Operand}{r:dt}(an:o.op= .makeInterface t x)(h:LI P t (S.aZ N x)=some r):il P G N B M o S r:=fun e hf hx hn=>by
 unfold LI at h
 split at h
 ·cases h
 rename_i hi
 obtain⟨d,hd,eO⟩:=Tj hi
 have cr: ∀(v:Value) (w:World),(Instr.makeInterface t v).run P w= .ok (.iface t v) w:=fun v w=>by
  unfold Instr.makeInterface
  cases d<;>first|exact absurd rfl (eO _)|simp[run_underlying hd,Result.andThen]
 split at h
 ·rename_i l aw
  split at h
  ·rename_i rs gM
   cases h;intro E a w β ro ag
   have dT:=ag.eval x
   rw[bI hf,aw]at dT;simp only[ab.den,Ey gM]at dT;rw[show((fV e rs l).map fun d=>aD.av d.av)=((fV e rs l).map aF.av).map .av by rw[List.map_map];rfl]at dT
   exact⟨_,by simp[execOp,an,cr],.av _ _ (zfv dT)⟩
  ·cases h
 ·rename_i Ez
  split at h
  ·rename_i rt AI
   cases h;intro E a w β ro ag
   have dT:=ag.eval x
   rw[bI hf,fY AI]at dT;refine⟨_,by simp[execOp,an,cr];rfl,?_⟩
   cases dT with
   |av _ _ q=>
    refine .av _ _ (.et t false _ _ (fun _=>a.eval x) ⟨rfl,rfl⟩ fun i y ax=>?_)
    cases i with
    |zero=>
     simp only[fV,List.map_cons,List.map_nil,List.getElem?_cons_zero,Option.some.injEq]at ax
     subst ax;exact q
    |succ i=>simp[fV]at ax
  ·cases h
theorem zfx{e:Env}{x:Operand}{u:TypeId}{ch:Bool}{rs:List aV}{l:List ab}{y:ab}(hf: ∀c∈S.g,c.ok e)(aw:S.aZ N x= .et u ch rs l)(ax:r0 ch l=some y)(gM:pw l=some rs){E:Entry}{a:Act}{w:World}{β:Nat→Value}{ro:Nat→Prop}(ag:c3 E G (S.den G N B e) a w β ro):
 ∃v,a.eval x= .iface u v∧bs w ro (S.den G N B e).heap β (S.den G N B e).next (y.den G e) v:=by
 have dT:=ag.eval x
 rw[bI hf,aw]at dT
 simp only[ab.den]at dT
 generalize hc:a.eval x=pa at dT
 cases dT with
 |av _ _ q=>
  cases q with
  |et _ _ _ v p aa ae=>
   refine⟨v,rfl,?_⟩
   unfold r0 at ax
   split at ax
   ·cases ax
    have:=Tk (σ:=(S.den G N B e).heap) (β:=β) (M:=(S.den G N B e).next) (.et u _ _ v p aa ae)
    rw[List.map_map]at this;simp only[ab.den,Ey gM];exact this
   ·rename_i ar
    cases ax;simp only[pw]at gM
    split at gM
    ·rename_i zfy qD sY wc
     cases wc
     cases gM;rw[fY sY];obtain⟨_,rfl⟩:=aa;exact .av _ _ (ae 0 _ rfl)
    ·cases gM
   ·cases ax
theorem zfz{k:Nat}{ch:Bool}{l:List ab}{y:ab}(h:ab.cL k l=true)(ax:r0 ch l=some y):y.lt k=true:=by
 unfold r0 at ax
 split at ax
 ·cases ax;exact h
 ·cases ax;simp only[ab.cL,Bool.and_true]at h;exact h
 ·cases ax
theorem zfA{x:Operand}{tu t:TypeId}{c:Bool}{r:dt}(an:o.op= .typeAssert x tu t c)(h:LK P t (S.aZ N x) c=some r):il P G N B M o S r:=fun e hf hx hn=>by
 unfold LK at h
 split at h
 rotate_left
 ·cases h
 rename_i u ch rs l aw hi
 obtain⟨d,hd,eO⟩:=Tj hi
 have aE: ∀{E:Entry} {a:Act} {w:World} {β:Nat→Value} {ro:Nat→Prop},c3 E G (S.den G N B e) a w β ro→∃v,a.eval x= .iface u v∧cR w ro (.et u ch ((fV e rs l).map aF.av)) (.iface u v):=fun {E a w β ro} ag=>by
  have dT:=ag.eval x
  rw[bI hf,aw]at dT;simp only[ab.den]at dT;generalize hc:a.eval x=pa at dT
  cases dT with
  |av _ _ q=>
   cases q with
   |et _ _ _ v p aa ae=>exact⟨v,rfl,.et _ _ _ v p aa ae⟩
 have qy: ∀{y:ab} {w:World} {β:Nat→Value} {ro:Nat→Prop} {v:Value},r0 ch l=some y→pw l=some rs→cR w ro (.et u ch ((fV e rs l).map aF.av)) (.iface u v)→bs w ro (S.den G N B e).heap β (S.den G N B e).next (y.den G e) v:=fun {y w β ro v} ax gM q=>by
  unfold r0 at ax
  split at ax
  ·cases ax
   have:=Tk (σ:=(S.den G N B e).heap) (β:=β) (M:=(S.den G N B e).next) q
   rw[List.map_map]at this;simp only[ab.den,Ey gM];exact this
  ·rename_i ar
   cases ax;simp only[pw]at gM
   split at gM
   ·rename_i zfy qD aa ae
    cases ae;cases gM;rw[fY aa]
    cases q with
    |et _ _ _ _ p g1 g2=>
     obtain⟨_,rfl⟩:=g1;exact .av _ _ (g2 0 _ rfl)
   ·cases gM
  ·cases ax
 have Tl: ∀(v:Value) (w:World),u=t→(Instr.typeAssert (.iface u v) tu t c).run P w= .ok (match c with|true=>.tuple #[v,.bool true]|false=>v) w:=fun v w vt=>by
  unfold Instr.typeAssert
  cases d<;>first|exact absurd rfl (eO _)|(cases c<;>simp[run_underlying hd,Result.andThen,vt])
 split at h
 ·rename_i ad _
  have vt:=Nat.eq_of_beq_eq_true ad
  split at h
  ·rename_i y ax gM
   cases h;intro E a w β ro ag;obtain⟨v,dT,q⟩:=aE ag;refine⟨.tuple #[v,.bool true],by simp[execOp,an,dT,Tl v w vt],.tuple _ _ rfl fun j z af=>?_⟩
   match j,af with
   |0,af=>simp[ab.den,ab.bQ]at af;subst af;exact qy ax (of_decide_eq_true gM) q
   |1,af=>simp[ab.den,ab.bQ]at af;subst af;exact .fE rfl
   |j+2,af=>simp[ab.den,ab.bQ]at af
  ·cases h
 ·rename_i ad _
  have vt:=Nat.eq_of_beq_eq_true ad
  split at h
  ·rename_i y ax gM
   cases h;intro E a w β ro ag;obtain⟨v,dT,q⟩:=aE ag;exact⟨v,by simp[execOp,an,dT,Tl v w vt],qy ax (of_decide_eq_true gM) q⟩
  ·cases h
 ·rename_i ad _
  have vt: ¬u=t:=fun e=>by subst e;rw[show Nat.beq u u=true from Nat.beq_refl u]at ad;cases ad
  split at h
  ·rename_i z aS
   split at h
   ·rename_i nd
    cases h;intro E a w β ro ag;obtain⟨v,dT,q⟩:=aE ag
    have DS:(zeroValue t).run P w= .ok z w:=by
     cases hi:P.info? t with
     |none=>rw[hi]at aS;cases aS
     |some i=>
      rw[hi]at aS
      have pc:i.zero=some z:=aS
      simp[zeroValue,typeInfo,hi,pc]
    have cr:(Instr.typeAssert (.iface u v) tu t true).run P w= .ok (.tuple #[z,.bool false]) w:=by
     unfold Instr.typeAssert
     cases d<;>first|exact absurd rfl (eO _)|simp[run_underlying hd,Result.andThen,vt,DS]
    have zfB:(LJ z).den G e=nc z:=by
     clear cr DS nd aS
     cases z with
     |agg a=>
      simp only[LJ,nc,ab.den,e6,List.map_map];rfl
     |_=>rfl
    refine⟨.tuple #[z,.bool false],by simp[execOp,an,dT,cr],.tuple _ _ rfl fun j y af=>?_⟩
    match j,af with
    |0,af=>simp[ab.den,ab.bQ]at af;subst af;rw[zfB];exact KS nd
    |1,af=>simp[ab.den,ab.bQ]at af;subst af;exact .fE rfl
    |j+2,af=>simp[ab.den,ab.bQ]at af
   ·cases h
  ·cases h
 ·cases h
theorem vu{r:dt}(h:qJ P N S o=some r):il P G N B M o S r:=by
 unfold qJ at h
 split at h
 ·rename_i x an
  cases h;exact .nil fun e hf=>by have:=QU (P:=P) (G:=G) (s:=S.den G N B e) x an;rw[bI hf]at this;exact this
 ·rename_i x an
  cases h;exact .nil fun e hf=>by have:=QV (P:=P) (G:=G) (s:=S.den G N B e) x an;rw[bI hf]at this;exact this
 ·exact ze7 (by assumption) h
 ·rename_i x i an
  split at h
  ·rename_i l aq
   split at h
   ·rename_i v aw
    cases h;exact .nil fun e hf=>Rs x i an (by rw[bI hf,aq];rfl) (Es aw)
   ·cases h
  ·cases h
 ·rename_i x an
  split at h
  ·rename_i ak
   cases h
   exact .nil fun e hf=>by
    have:=Q0 (P:=P) (G:=G) (s:=S.den G N B e) x an (by rw[bI hf];exact vo ak)
    rw[bI hf]at this;exact this
  ·cases h
 ·rename_i t x f an
  split at h
  ·rename_i k aj ak
   split at h
   ·rename_i p ai
    cases h
    exact .nil fun e hf=>by
     have:=QZ (P:=P) (G:=G) (s:=S.den G N B e) t x f an aj (by rw[bI hf];exact vo ak)
     rw[bI hf,AF ai]at this;exact this
   ·cases h
  ·cases h
 ·exact zfe (by assumption) h
 ·exact zfj (by assumption) h
 ·exact zfd (by assumption) h
 ·exact ze8 (by assumption) h
 ·split at h
  ·rename_i aI
   cases h;exact zeZ (by assumption) aI
  ·exact zfp (by assumption) h
 ·exact zfh (by assumption) h
 ·split at h
  ·rename_i aI
   cases h;exact zfg (by assumption) aI
  ·split at h
   ·rename_i aI
    cases h;exact zfq (by assumption) aI
   ·exact zft (by assumption) h
 ·exact zfi (by assumption) h
 ·rename_i f p q an
  cases h
  exact .nil fun e hf=>by
   have:=zd0 (P:=P) (G:=G) (s:=S.den G N B e) an
   simp only[ab.den];rw[e6,e6,List.map_map,List.map_map]
   have aa: ∀l:List Operand,l.map (aJ G (S.den G N B e))=l.map (ab.den G e∘S.aZ N):=fun l=>List.map_congr_left fun x _=>bI hf x
   rw[aa,aa]at this;exact this
 ·exact zfw (by assumption) h
 ·exact zfA (by assumption) h
 ·exact ze4 (by assumption) h
 ·split at h
  ·rename_i aI
   cases h;exact Td (by assumption) aI
  ·exact zfs (by assumption) h
 ·exact Td (by assumption) h
 ·rename_i c an
  split at h
  ·rename_i x t hc hx aH
   obtain⟨callee,args,ts⟩:=c;simp only at hc hx aH;rw[hc,Sm hx,Sm aH]at an;exact zff an h
  ·rename_i b x y hc hx
   obtain⟨callee,args,ts⟩:=c;simp only at hc hx;rw[hc,Ag hx]at an;exact zfk an h
  ·rename_i f hc
   obtain⟨callee,args,ts⟩:=c;simp only at hc;rw[hc]at an;exact zfc an rfl h
  ·cases h
 ·cases h
end
end Go.aL
