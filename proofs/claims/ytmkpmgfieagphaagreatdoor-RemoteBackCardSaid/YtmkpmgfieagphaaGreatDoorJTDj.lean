/- TD, part H: operations that give values, computed. Conditions: none. -/
import Derived.Test.YtmkpmgfieagphaaGreatDoorJTDg
import Derived.Laws.Externs
import Derived.Laws.LoneSync
import Derived.LaidEqlPtr
namespace Go.aM
open Go
structure dt where
 xs:List bJ
 ns:List fe
 v:ab
def ab.rt:ab→Option aW
 | .aV r _=>match r.one with
  |true=>some r
  |false=>none
 | .fd _ _ _ r=>match r.one with
  |true=>some r
  |false=>none
 | .cs (.int k _)=>some (.int k)
 | .cs (.bool _)=>some .bool
 | .cs (.string _)=>some .str
 |_=>none
theorem Ag(r:aW):hR r r=true:=decide_eq_true rfl
theorem KN{x:ab}{r:aW}(h:x.rt=some r):x.ew r=true∧x.isNil=false:=by
 unfold ab.rt at h
 split at h
 ·split at h
  ·rename_i aa;cases h;exact⟨by simp[ab.ew,Ag,aa],rfl⟩
  ·cases h
 ·split at h
  ·rename_i aa;cases h;exact⟨by simp[ab.ew,Ag,aa],rfl⟩
  ·cases h
 ·cases h;exact⟨by simp[ab.ew,Ag],rfl⟩
 ·cases h;exact⟨by simp[ab.ew,Ag],rfl⟩
 ·cases h;exact⟨by simp[ab.ew,Ag],rfl⟩
 ·cases h
theorem fW{G:a8}{e:Env}{x:ab}{r:aW}(h:x.rt=some r):x.den G e= .av (fC r (x.aA e r)):=DA (KN h).1 (KN h).2
theorem jx{G:a8}{e:Env}{x:ab}{k:IntKind}(h:x.rt=some (.int k)):x.den G e= .av (.v (.int k (x.aA e (.int k)))):=fW h
theorem lP{e:Env}{x:ab}{k:IntKind}(h:x.rt=some (.int k)):ck (x.dyn e)=x.aA e (.int k):=by
 obtain⟨aa,ae⟩:=KN h
 unfold ab.aA
 rw[R8 ae]
 cases x with
 |aV q i=>
  simp only[ab.ew,Bool.and_eq_true]at aa
  cases hp aa.1
  simp only[ab.dyn,cA,ck]
 |fd c i j q=>
  simp only[ab.ew,Bool.and_eq_true]at aa
  cases hp aa.1
  simp only[ab.dyn,cA,ck]
 |cs v=>
  cases v with
  |int bk n=>
   cases hp aa
   simp only[ab.dyn,cA,ck]
  |bool b=>cases hp aa
  |string s=>cases hp aa
  |slice a n c=>unfold ab.ew at aa;split at aa<;>first|cases aa|simp_all
  |_=>cases aa
 |_=>cases aa
def isLen(f:gF)(x:ab)(n:Nat):List b6→Bool
 |[]=>false
 | .d1 i g y::r=>match Nat.beq i n&&(decide (g=f)&&Ab y x)with
  |true=>true
  |false=>isLen f x n r
 |_::r=>isLen f x n r
theorem xf{f:gF}{x:ab}{n:Nat}{e:Env}: ∀{l:List b6},isLen f x n l=true→(∀c∈l,c.ok e)→Env.at e n=⟨f.c,f.den (x.aA e f.a)⟩
 | .d1 i g y::r,h,hc=>by
  simp only[isLen]at h
  split at h
  ·rename_i ad
   simp only[Bool.and_eq_true,decide_eq_true_eq]at ad
   have:=hc (.d1 i g y) (by simp)
   simp only[b6.ok]at this;rw[←Nat.eq_of_beq_eq_true ad.1,this,ad.2.1,KH ad.2.2]
  ·exact xf h fun c hm=>hc c (by simp[hm])
 | .d2 _ _ _ _::r,h,hc=>xf (l:=r) h fun c hm=>hc c (by simp[hm])
 | .rg _ _::r,h,hc=>xf (l:=r) h fun c hm=>hc c (by simp[hm])
 | .dT _ _::r,h,hc=>xf (l:=r) h fun c hm=>hc c (by simp[hm])
def Sp(f:gF)(x:ab)(i:Nat)(all:List b6):b6→Bool
 | .rg j (.aV (.int .i64) n)=>Nat.beq i j&&isLen f x n all
 |_=>false
def DQ(f:gF)(x:ab)(i:Nat)(all:List b6):List b6→Bool
 |[]=>false
 |c::r=>match Sp f x i all c with
  |true=>true
  |false=>DQ f x i all r
theorem KO{f:gF}{x:ab}{i:Nat}{e:Env}{all:List b6}{L:Int}(fS: ∀n,isLen f x n all=true→Env.at e n=⟨.int .i64,L⟩): ∀{l:List b6},DQ f x i all l=true→(∀c∈l,c.ok e)→0≤ck (Env.at e i)∧ck (Env.at e i)<L
 |c::r,h,hc=>by
  simp only[DQ]at h
  split at h
  ·rename_i ad
   unfold Sp at ad
   split at ad
   ·rename_i j n
    simp only[Bool.and_eq_true]at ad
    have aa:=hc (.rg j (.aV (.int .i64) n)) (by simp)
    simp only[b6.ok,ab.dyn,fS n ad.2,cA,ck]at aa;rw[←Nat.eq_of_beq_eq_true ad.1]at aa;exact aa
   ·cases ad
  ·exact KO fS h fun c hm=>hc c (by simp[hm])
def Ah(len j:Nat):List b6→Bool
 | .rg i (.cs (.int _ (.ofNat m)))::r=>(Nat.beq i j&&Nat.ble m len)||Ah len j r
 |_::r=>Ah len j r
 |[]=>false
theorem KP{len j:Nat}{e:Env}: ∀{l:List b6},Ah len j l=true→(∀c∈l,c.ok e)→0≤ck (Env.at e j)∧ck (Env.at e j)<(len:Int)
 |[],h,_=>by cases h
 |c::r,h,hc=>by
  unfold Ah at h
  split at h
  ·rename_i i k m _ heq
   cases heq;simp only[Bool.or_eq_true,Bool.and_eq_true]at h
   rcases h with⟨aa,ae⟩|h
   ·have au:0≤ck (Env.at e i)∧ck (Env.at e i)<(m:Int):=hc (.rg i (.cs (.int k (.ofNat m)))) (by simp)
    rw[←Nat.eq_of_beq_eq_true aa]
    have:=Nat.le_of_ble_eq_true ae
    omega
   ·exact KP h fun c hm=>hc c (by simp[hm])
  ·rename_i eR _ heq
   cases heq;exact KP h fun c hm=>hc c (by simp[hm])
  ·rename_i heq;cases heq
def xg(g:List b6)(len:Nat)(i:ab):List fe:=
 match i with
 | .aV (.int _) j=>match Ah len j g with
  |true=>[]
  |false=>[.nth len i]
 |_=>[.nth len i]
theorem DR{M:List aS}{g:List b6}{len:Nat}{i:ab}{e:Env}(ah: ∀c∈g,c.ok e)(h: ∀n∈xg g len i,n.ok M e):0≤ck (i.dyn e)∧ck (i.dyn e)<(len:Int):=by
 unfold xg at h
 split at h
 ·rename_i k j
  split at h
  ·rename_i ad
   have:=KP ad ah
   simp only[ab.dyn]
   by_cases af:(Env.at e j).r= .int k
   ·rw[Dn af];exact this
   ·have aH:ck ⟨.int k,(Env.at e j).aG (.int k)⟩=0:=by
     unfold aF.aG
     split
     ·rename_i bb _;exact absurd bb af
     ·rfl
    rw[aH];omega
  ·exact h _ (List.mem_singleton.2 rfl)
 ·exact h _ (List.mem_singleton.2 rfl)
def po(g:List b6)(f:gF)(q:cC)(x i:ab):List fe:=
 match i with
 | .aV (.int _) j=>match DQ f x j g g with
  |true=>[]
  |false=>[.f2 0 q x i]
 |_=>[.f2 0 q x i]
theorem xh{M:List aS}{g:List b6}{c:bL}{k:IntKind}{x i:ab}{e:Env}(ah: ∀c∈g,c.ok e)(hi:i.rt=some (.int k))(h: ∀n∈po g (.iQ c) (.kh c k) x i,n.ok M e):
 0≤i.aA e (.int k)∧i.aA e (.int k)<(List.length (x.aA e (.li c)):Int):=by
 unfold po at h
 split at h
 ·rename_i bk j
  split at h
  ·rename_i ad
   have:=KO (f:=.iQ c) (fun n hn=>xf hn ah) ad ah
   rw[←lP hi];simp only[ab.dyn]
   have aj:bk=k:=by simp only[ab.rt,aW.one]at hi;cases hi;rfl
   subst aj
   by_cases af:(Env.at e j).r= .int bk
   ·rw[Dn af];exact this
   ·have aH:ck ⟨.int bk,(Env.at e j).aG (.int bk)⟩=0:=by
     unfold aF.aG
     split
     ·rename_i bb _;exact absurd bb af
     ·rfl
    rw[aH];exact⟨Int.le_refl _,Int.lt_of_le_of_lt this.1 this.2⟩
  ·exact h _ (List.mem_singleton.2 rfl)
 ·exact h _ (List.mem_singleton.2 rfl)
theorem zdO{M:List aS}{g:List b6}{k:IntKind}{x i:ab}{e:Env}(ah: ∀c∈g,c.ok e)(hi:i.rt=some (.int k))(h: ∀n∈po g .n6 (.rI k) x i,n.ok M e):
 0≤i.aA e (.int k)∧i.aA e (.int k)<(ByteArray.size (x.aA e .str):Int):=by
 unfold po at h
 split at h
 ·rename_i bk j
  split at h
  ·rename_i ad
   have:=KO (f:=.n6) (fun n hn=>xf hn ah) ad ah
   rw[←lP hi];simp only[ab.dyn]
   have aj:bk=k:=by simp only[ab.rt,aW.one]at hi;cases hi;rfl
   subst aj
   by_cases af:(Env.at e j).r= .int bk
   ·rw[Dn af];exact this
   ·have aH:ck ⟨.int bk,(Env.at e j).aG (.int bk)⟩=0:=by
     unfold aF.aG
     split
     ·rename_i bb _;exact absurd bb af
     ·rfl
    rw[aH];exact⟨Int.le_refl _,Int.lt_of_le_of_lt this.1 this.2⟩
  ·exact h _ (List.mem_singleton.2 rfl)
 ·exact h _ (List.mem_singleton.2 rfl)
end Go.aM
namespace Go.aM
open Go
def kL(h:List (Nat × bC)):ab→Bool
 | .aV _ _=>true
 | .fd _ _ _ _=>true
 | .cs _=>true
 | .ip _ _ _=>true
 | .fn _ _ _=>true
 | .eb id _=>match db h id with
  |some (.dn _ _)=>true
  |_=>false
 | .gT id _ _ _=>match db h id with
  |some (.dn _ _)=>true
  |_=>false
 | .fg _ (some id) _=>match db h id with
  |some (.dn _ _)=>true
  |_=>false
 | .aO id=>match db h id with
  |some (.rw _ _ _)=>true
  |_=>false
 | .gM id _ _=>match db h id with
  |some (.rw _ _ _)=>true
  |_=>false
 |_=>false
def u5(S:aq):ab→Option (List ab)
 | .eb id off=>match db S.h id with
  |some (.dn _ l)=>some (l.drop off)
  |_=>none
 | .ip c i k=>some ((iP c i 0 (eY c)).drop k)
 |_=>none
def p9(P:Program)(t:TypeId)(l:List ab):Option ab:=
 match mi P t with
 |some n=>match Nat.ble n l.length&&Nat.ble 1 n with
  |true=>some (.ch (l.take n))
  |false=>none
 |none=>match scalar P t,l with
  |true,y::_=>some y
  |_,_=>none
def tc(S:aq):ab→Bool
 | .eb id _=>match db S.h id with
  |some (.dn _ _)=>true
  |_=>false
 | .gT id _ _ _=>match db S.h id with
  |some (.dn _ _)=>true
  |_=>false
 | .ip _ _ _=>true
 | .gM id _ _=>match db S.h id with
  |some (.rw _ _ _)=>true
  |_=>false
 |_=>false
def xi(k:Nat):ab→Option ab
 | .eb id off=>some (.eb id (off+k))
 | .ip c i j=>some (.ip c i (j+k))
 | .gM id x off=>some (.gM id x (off+k))
 | .gT id off x n=>some (.gT id (off+k) x n)
 |_=>none
def rQ(place:Nat→Option (Nat × Nat)):List ab→List (Nat × ab)→Option (List ab)
 |l,[]=>some l
 |l,(i,v)::rest=>match place i with
  |some (off,size)=>match Nat.beq v.cells.length size&&Nat.ble (off+size) l.length with
   |true=>rQ place (ei l off v.cells) rest
   |false=>none
  |none=>none
section
variable {P:Program} {G:a8} {o:Oper} {N B:Nat} {e:Env} {S:aq} {M:List aS}
theorem Sq{h:List (Nat × bC)}{x:ab}(hx:kL h x=true):eE (cx G e h) (x.den G e)=true∧cR (x.den G e)=[x.den G e]:=by
 cases x with
 |eb id off=>
  simp only[kL]at hx
  split at hx
  ·rename_i t l ah
   simp[ab.den,eE,ef,ah,bC.den,cR]
  ·cases hx
 |gT id off x n=>
  simp only[kL]at hx
  split at hx
  ·rename_i t l ah
   simp[ab.den,eE,ef,ah,bC.den,cR]
  ·cases hx
 |aO id=>
  simp only[kL]at hx
  split at hx
  ·rename_i t c y ah
   simp[ab.den,eE,ef,ah,bC.den,cR]
  ·cases hx
 |gM id x off=>
  simp only[kL]at hx
  split at hx
  ·rename_i t c y ah
   simp[ab.den,eE,ef,ah,bC.den,cR]
  ·cases hx
 |ch l=>cases hx
 |tp l=>cases hx
 |gW id=>cases hx
 |fE g b x=>cases hx
 |lN g off=>cases hx
 |top=>cases hx
 |cO k n=>cases hx
 |fg g id off=>
  cases id with
  |none=>cases hx
  |some id=>
   simp only[kL]at hx
   split at hx
   ·rename_i t l ah
    simp only[ab.den]
    cases g.aA e .bool<;>simp[eE,ef,ah,bC.den,cR]
   ·cases hx
 |_=>exact⟨rfl,rfl⟩
theorem xj{h:List (Nat × bC)}: ∀{l:List ab},l.all (kL h)=true→(ab.bQ G e l).all (eE (cx G e h))=true
 |[],_=>rfl
 |x::r,hx=>by
  simp only[List.all_cons,Bool.and_eq_true]at hx;simp only[ab.bQ,List.all_cons,(Sq hx.1).1,xj hx.2,Bool.and_self]
theorem u6{h:List (Nat × bC)}{x:ab}(hx:x.cells.all (kL h)=true):cR (x.den G e)=ab.bQ G e x.cells:=by
 cases x with
 |ch l=>rfl
 |_=>
  simp only[ab.cells,List.all_cons,List.all_nil,Bool.and_true]at hx;simp only[(Sq hx).2,ab.cells,ab.bQ]
theorem KQ(k:Nat)(l:List ab):ab.bQ G e (l.drop k)=(ab.bQ G e l).drop k:=by rw[e6,e6,List.map_drop]
theorem me(l:List ab):(ab.bQ G e l).length=l.length:=by rw[e6,List.length_map]
theorem Ai{p:ab}{l:List ab}(h:u5 S p=some l):fl (S.den G N B e).heap (p.den G e)=some (ab.bQ G e l):=by
 unfold u5 at h
 split at h
 ·split at h
  ·rename_i id off t h2 ah
   cases h;simp only[aq.den,ab.den,fl,ef,ah,Option.map_some,bC.den];rw[e6,e6,List.map_drop]
  ·cases h
 ·rename_i c i k
  cases h;simp only[ab.den,fl,Option.some.injEq];rw[KQ,s0,List.map_drop]
 ·cases h
theorem G1{t:TypeId}{x:Operand}{l:List ab}{v:ab}(an:o.op= .load t x)(hc:fl (S.den G N B e).heap (aL G (S.den G N B e) x)=some (ab.bQ G e l))(aw:p9 P t l=some v):cN P G o (S.den G N B e) (v.den G e):=by
 unfold p9 at aw
 split at aw
 ·rename_i n hn
  split at aw
  ·rename_i ad
   simp only[Bool.and_eq_true]at ad;cases aw
   have:=Qp t x an hn hc (by rw[me];exact Nat.le_of_ble_eq_true ad.1) (Nat.le_of_ble_eq_true ad.2)
   simp only[ab.den];rw[e6]at this;rw[e6,List.map_take];exact this
  ·cases aw
 ·split at aw
  ·rename_i y r ai
   cases aw;exact Jx t x an ai hc
  ·cases aw
theorem u7{p:ab}(h:tc S p=true):jP (S.den G N B e).heap (p.den G e)=true:=by
 unfold tc at h
 split at h
 ·split at h
  ·rename_i ah;simp[aq.den,ab.den,jP,ef,ah,bC.den]
  ·cases h
 ·split at h
  ·rename_i ah;simp[aq.den,ab.den,jP,ef,ah,bC.den]
  ·cases h
 ·rfl
 ·split at h
  ·rename_i ah;simp[aq.den,ab.den,jP,ef,ah,bC.den]
  ·cases h
 ·cases h
theorem Aj{k:Nat}{p q:ab}(h:xi k p=some q):rf k (p.den G e)=q.den G e:=by
 unfold xi at h
 split at h
 ·cases h;simp[ab.den,rf]
 ·cases h;simp[ab.den,rf,List.drop_drop,Nat.add_comm]
 ·cases h;simp[ab.den,rf]
 ·cases h;simp only[ab.den,rf,aD.ptr.injEq,true_and];omega
 ·cases h
theorem DS{α β:Type}(f:α→β)(l:List α)(off:Nat)(vs:List α):(ei l off vs).map f=ei (l.map f) off (vs.map f):=by
 simp[ei,List.map_take,List.map_drop]
theorem DT{pl:Nat→Option (Nat × Nat)}{h:List (Nat × bC)}: ∀{ps:List (Nat × ab)} {l ds:List ab},(ps.all fun p=>p.2.cells.all (kL h))=true→rQ pl l ps=some ds→kd pl (ab.bQ G e l) (ps.map fun p=>(p.1,p.2.den G e))=some (ab.bQ G e ds)
 |[],l,ds,_,hf=>by
  simp only[rQ,Option.some.injEq]at hf;subst hf;rfl
 |(i,v)::rest,l,ds,aY,hf=>by
  simp only[List.all_cons,Bool.and_eq_true]at aY;simp only[rQ]at hf;simp only[List.map_cons,kd]
  split at hf
  ·rename_i off size ak
   split at hf
   ·rename_i ad
    simp only[Bool.and_eq_true]at ad
    have aa:=Nat.eq_of_beq_eq_true ad.1
    have ae:=Nat.le_of_ble_eq_true ad.2
    have aw:=u6 (G:=G) (e:=e) aY.1
    simp only[ak,aw,me];rw[if_pos ⟨aa,ae⟩]
    have:=DT aY.2 hf
    rw[e6]at this⊢;rw[DS]at this;rw[e6];exact this
   ·cases hf
  ·cases hf
def il(P:Program)(G:a8)(N B:Nat)(M:List aS)(o:Oper)(S:aq)(r:dt):Prop:=
 ∀e,(∀c∈S.g,c.ok e)→(∀(j:Nat) (x:bJ),r.xs[j]? =some x→Env.at e (S.k+j)=x.den M e)→(∀n∈r.ns,n.ok M e)→cN P G o (S.den G N B e) (r.v.den G e)
end
def KR(op:BinOp)(k bk:IntKind)(x y:ab):List fe:=
 match op with
 | .add=>[]
 | .sub=>[]
 | .mul=>[]
 | .and=>[]
 | .or=>[]
 | .xor=>[]
 | .quo=>match y with
  | .cs (.int _ n)=>match decide (n=0)with
   |false=>[]
   |true=>[.f2 0 (.ju op k bk) x y]
  |_=>[.f2 0 (.ju op k bk) x y]
 | .rem=>match y with
  | .cs (.int _ n)=>match decide (n=0)with
   |false=>[]
   |true=>[.f2 0 (.ju op k bk) x y]
  |_=>[.f2 0 (.ju op k bk) x y]
 |op=>match y with
  | .cs (.int _ n)=>match decide (0≤n)with
   |true=>[]
   |false=>[.f2 0 (.ju op k bk) x y]
  |_=>[.f2 0 (.ju op k bk) x y]
def KS(P:Program)(S:aq)(op:BinOp)(cw:TypeId)(x y:ab):Option dt:=
 match x.rt,y.rt with
 |some (.int k),some (.int bk)=>match KL op k bk with
  |true=>some ⟨[.f2 (.ju op k bk) x y],KR op k bk x y,.aV (.int k) S.k⟩
  |false=>match xe op&&decide (bk=k)with
   |true=>some ⟨[.f2 (.pe op k) x y],[],.aV .bool S.k⟩
   |false=>none
 |some .str,some .str=>match xe op with
  |true=>some ⟨[.f2 (.mB op) x y],[],.aV .bool S.k⟩
  |false=>match op with
   | .add=>some ⟨[.f2 .s3 x y],[.f2 0 .s3 x y],.aV .str S.k⟩
   |_=>none
 |some .bool,some .bool=>match op,De P cw with
  | .eql,true=>some ⟨[.f2 (.nN false) x y],[],.aV .bool S.k⟩
  | .neq,true=>some ⟨[.f2 (.nN true) x y],[],.aV .bool S.k⟩
  |_,_=>none
 |_,_=>match x,y with
  | .ch l,.ch m=>match m6 P cw with
   |some fs=>match pn P 64 0 fs with
    |some rs=>match hq rs l&&hq rs m,op with
     |true,.eql=>some ⟨[.z7 false rs l m],[],.aV .bool S.k⟩
     |true,.neq=>some ⟨[.z7 true rs l m],[],.aV .bool S.k⟩
     |_,_=>none
    |none=>none
   |none=>none
  |p,.cs (.pointer none)=>match P.underlying cw,tc S p,op with
   |some (.pointer _),true,.eql=>some ⟨[],[],.cs (.bool false)⟩
   |some (.pointer _),true,.neq=>some ⟨[],[],.cs (.bool true)⟩
   |_,_,_=>none
  |_,_=>none
section
variable {P:Program} {G:a8} {o:Oper} {N B:Nat} {e:Env} {S:aq} {M:List aS}
theorem zdP{e:Env}{f:cC}{x y:ab}{k:Nat}(h:Env.at e k=(bJ.f2 f x y).den M e):(ab.aV f.c k).den G e= .av (fC f.c (f.den (x.aA e f.a) (y.aA e f.b))):=by
 simp only[ab.den,h,bJ.den,cA]
theorem zdQ{e:Env}{f:gF}{x:ab}{k:Nat}(h:Env.at e k=(bJ.f1 f x).den M e):(ab.aV f.c k).den G e= .av (fC f.c (f.den (x.aA e f.a))):=by
 simp only[ab.den,h,bJ.den,cA]
theorem qA{s:aP}{f:cC}{x y:ab}{k:Nat}(h:Env.at e k=(bJ.f2 f x y).den M e)(ai:cN P G o s (.av (fC f.c (f.den (x.aA e f.a) (y.aA e f.b))))):cN P G o s ((ab.aV f.c k).den G e):=by
 rw[zdP h];exact ai
theorem qB{s:aP}{f:gF}{x:ab}{k:Nat}(h:Env.at e k=(bJ.f1 f x).den M e)(ai:cN P G o s (.av (fC f.c (f.den (x.aA e f.a))))):cN P G o s ((ab.aV f.c k).den G e):=by
 rw[zdQ h];exact ai
theorem zdR{op:BinOp}{k bk:IntKind}{x y:ab}(ax:y.rt=some (.int bk))(h: ∀n∈KR op k bk x y,n.ok M e):DC op (y.aA e (.int bk)):=by
 have hc: ∀n gG,y= .cs (.int gG n)→y.aA e (.int bk)=n:=fun n gG bb=>by
  subst bb;simp only[ab.rt,Option.some.injEq,aW.int.injEq]at ax;subst ax;simp only[ab.aA,ab.fo,ab.dyn,cA]
 have ai: ∀DU,((∃q,DU=q)→fe.ok M e (.f2 0 (.ju DU k bk) x y)→DC DU (y.aA e (.int bk))):=fun DU _ h=>h
 cases op<;>try exact trivial
 all_goals
  simp only[KR]at h
  split at h
  ·rename_i gG n
   have hn:=hc n gG rfl
   split at h
   ·rename_i hd
    rw[hn];simp only[decide_eq_false_iff_not,decide_eq_true_eq]at hd;exact hd
   ·exact h _ (List.mem_singleton.2 rfl)
  ·exact h _ (List.mem_singleton.2 rfl)
theorem zdS{op:BinOp}{cw ty:TypeId}{x y:Operand}{r:dt}(an:o.op= .binOp op cw x y ty)(h:KS P S op cw (S.aZ N x) (S.aZ N y)=some r):il P G N B M o S r:=fun e hf hx hn=>by
 unfold KS at h
 split at h
 ·rename_i k bk aa ae
  have fN:aL G (S.den G N B e) x=_:=(bE hf x).trans (jx aa)
  have mF:aL G (S.den G N B e) y=_:=(bE hf y).trans (jx ae)
  split at h
  ·rename_i aY
   cases h;exact qA (f:=.ju op k bk) (hx 0 _ rfl) (zdG an fN mF aY (zdR ae hn))
  ·split at h
   ·rename_i hc
    cases h;simp only[Bool.and_eq_true,decide_eq_true_eq]at hc
    have aj:=hc.2
    subst aj;exact qA (f:=.pe op bk) (hx 0 _ rfl) (zdH an fN mF hc.1)
   ·cases h
 ·rename_i aa ae
  have fN:aL G (S.den G N B e) x=_:=(bE hf x).trans (fW aa)
  have mF:aL G (S.den G N B e) y=_:=(bE hf y).trans (fW ae)
  split at h
  ·rename_i hc
   cases h;exact qA (f:=.mB op) (hx 0 _ rfl) (zdI an fN mF hc)
  ·split at h
   ·cases h
    exact qA (f:=.s3) (hx 0 _ rfl) (zcC cw ty x y an fN mF (hn _ (List.mem_singleton.2 rfl)))
   ·cases h
 ·rename_i aa ae
  have fN:aL G (S.den G N B e) x=_:=(bE hf x).trans (fW aa)
  have mF:aL G (S.den G N B e) y=_:=(bE hf y).trans (fW ae)
  split at h
  ·rename_i aI
   cases h;exact qA (f:=.nN false) (hx 0 _ rfl) (QJ cw ty x y an (Df aI) fN mF)
  ·rename_i aI
   cases h;exact qA (f:=.nN true) (hx 0 _ rfl) (QK cw ty x y an (Df aI) fN mF)
  ·cases h
 ·split at h
  ·rename_i l m ar hm
   split at h
   ·rename_i fs wZ
    split at h
    ·rename_i rs gL
     split at h
     ·rename_i ad
      cases h;simp only[Bool.and_eq_true]at ad
      have:=So (G:=G) (n:=false) (B:=B) (e:=e) hf rfl an wZ gL ar hm ad.1 ad.2
      have aH:Env.at e S.k=_:=hx 0 _ rfl
      simp only[ab.den,aH,bJ.den,cA,fC,ke];exact this
     ·rename_i ad
      cases h;simp only[Bool.and_eq_true]at ad
      have:=So (G:=G) (n:=true) (B:=B) (e:=e) hf rfl an wZ gL ar hm ad.1 ad.2
      have aH:Env.at e S.k=_:=hx 0 _ rfl
      simp only[ab.den,aH,bJ.den,cA,fC,ke];exact this
     ·cases h
    ·cases h
   ·cases h
  ·rename_i ak
   have key: ∀E a w β ro,c5 E G (S.den G N B e) a w β ro→tc S (S.aZ N x)=true→∃cY,a.eval x= .pointer (some cY):=fun E a w β ro af hi=>by
    obtain⟨cY,hc,_⟩:=zi (u7 (G:=G) (N:=N) (B:=B) (e:=e) hi) (by have:=af.eval x;rw[bE hf]at this;exact this)
    exact⟨cY,hc⟩
   have qC: ∀E a w β ro,c5 E G (S.den G N B e) a w β ro→a.eval y= .pointer none:=fun E a w β ro af=>by
    refine af.ec ?_
    rw[bE hf,ak];rfl
   split at h
   ·rename_i t hu hi
    cases h
    exact fun E a w β ro af=>by
     obtain⟨cY,hc⟩:=key E a w β ro af hi;exact⟨.bool false,by simp[execOp,an,hc,qC E a w β ro af,eqGuard_at_pointer,run_eql_pointer_nil w cw (some cY) (R5 hu)],.fz rfl⟩
   ·rename_i t hu hi
    cases h
    exact fun E a w β ro af=>by
     obtain⟨cY,hc⟩:=key E a w β ro af hi;exact⟨.bool true,by simp[execOp,an,hc,qC E a w β ro af,eqGuard_at_pointer,run_neq_pointer_nil w cw (some cY) (R5 hu)],.fz rfl⟩
   ·cases h
  ·cases h
end
end Go.aM
namespace Go.aM
open Go
def pq:List aW→List Value→Bool
 |[],[]=>true
 |r::rs,z::zs=>(match r,z with
  | .int k,.int bk n=>decide (k=bk)&&decide (n=0)
  | .bool,.bool b=>!b
  | .str,.string s=>decide (s=⟨#[]⟩)
  | .li _,.slice none 0 0=>true
  |_,_=>false)&&pq rs zs
 |_,_=>false
def u9:TypeDesc→Option aW
 | .string=>some .str
 | .int k=>some (.int k)
 |_=>none
def xk(v:aW)(z:Value):Bool:=
 match v,z with
 | .st c,.agg a=>pq (eY c) a.toList&&a.toList.all Value.oneCell'
 | .st _,_=>false
 |r,z=>pq [r] [z]&&z.oneCell'
def nt(v:aW)(i:Nat):ab:=
 match v with
 | .st c=>.ch (iP c i 0 (eY c))
 |r=>.aV r i
def DV:List aW→Bool
 |[]=>true
 | .mp _ _::_=>false
 |_::r=>DV r
def DW(v:aW):Bool:=
 match v with
 | .st c=>DV (eY c)
 | .int _=>true
 | .bool=>true
 | .str=>true
 |_=>false
def KT(S:aq)(m:ab):Option (aW × aW × ab):=
 match m with
 | .gW id=>match db S.h id with
  |some (.it (.mp k v) _ p)=>some (k,v,p)
  |_=>none
 |x=>match x.rt with
  |some (.mp k v)=>some (k,v,x)
  |_=>none
def KU(P:Program)(S:aq)(t:TypeId)(m x:ab)(c:Bool):Option dt:=
 match P.underlying t,KT S m with
 |some (.map fm eZ),some (k,v,p)=>match(P.underlying fm).bind u9,(P.info? eZ).bind (·.zero)with
  |some bk,some z=>match hR bk k&&(x.ew k&&(xk v z&&DW v))with
   |true=>match c with
    |true=>some ⟨[.w5 k v p x,.u2 k v p x],[],.tp [nt v (S.k+1),.aV .bool S.k]⟩
    |false=>some ⟨[.u2 k v p x],[],nt v S.k⟩
   |false=>none
  |_,_=>none
 |_,_=>none
section
variable {P:Program} {G:a8} {N B:Nat} {M:List aS} {S:aq} {o:Oper}
theorem xl: ∀{rs:List aW} {zs:List Value},pq rs zs=true→zs.map a6.v=rs.map fun r=>wS (fC r r.fu)
 |[],[],_=>rfl
 |[],_::_,h=>by cases h
 |_::_,[],h=>by cases h
 |r::rs,z::zs,h=>by
  simp only[pq,Bool.and_eq_true]at h;rw[List.map_cons,List.map_cons,xl h.2]
  congr 1
  have aa:=h.1
  split at aa
  ·simp only[Bool.and_eq_true,decide_eq_true_eq]at aa
   obtain⟨rfl,rfl⟩:=aa;rfl
  ·simp only[Bool.not_eq_true']at aa
   subst aa;rfl
  ·have:=of_decide_eq_true aa
   subst this;rfl
  ·rfl
  ·cases aa
theorem Sr(c:bL):cb c (az c)=(eY c).map fun r=>fC r r.fu:=by cases c<;>rfl
theorem Ss{e:Env}{r:aW}{i:Nat}{d:r.den}(h:Env.at e i=⟨r,d⟩):(ab.aV r i).aA e r=d:=by
 simp only[ab.aA,ab.fo,ab.dyn,h,cA]
theorem zdT{c:bL}(h:DV (eY c)=true)(x:fJ c):(kT c x).map (fun d=>ke d.r d.v)=cb c x:=by
 unfold cb
 rw[←Kf c x]at h
 revert h
 generalize kT c x=l
 induction l with
 |nil=>intro _;rfl
 |cons d r a1=>
  intro h;obtain⟨t,v⟩:=d;simp only[List.map_cons]at h⊢
  cases t<;>first|(simp only[DV]at h;rw[a1 h];rfl)|cases h
theorem zdU{v:aW}{i:Nat}{e:Env}{ev:v.den}(h:Env.at e i=⟨v,ev⟩)(aw:DW v=true):(nt v i).den G e=uS v.agg (ix v ev):=by
 cases v with
 |st c=>
  simp only[DW]at aw;simp only[nt,ab.den,s0,h,cA,aW.agg,uS,ix,zdT aw]
 |int k=>simp only[nt,ab.den,h,cA]<;>rfl
 |bool=>simp only[nt,ab.den,h,cA]<;>rfl
 |str=>simp only[nt,ab.den,h,cA]<;>rfl
 |_=>cases aw
theorem xm{x:a6}{v:Value}(h:a6.v v=wS x)(aw:v.oneCell'=true):Sub (.av (.v v)) (.av x):=fun w ro σ β N c hc=>by
 cases hc with
 |av _ _ hc=>
  cases hc;exact .av _ _ (RJ h.symm aw)
theorem St: ∀{rs:List aW} {zs:List Value},pq rs zs=true→zs.all Value.oneCell'=true→fQ (zs.map fun v=>aD.av (.v v)) ((rs.map fun r=>fC r r.fu).map .av)
 |[],[],_,_=>.nil
 |[],_::_,h,_=>by cases h
 |_::_,[],h,_=>by cases h
 |r::rs,z::zs,h,an=>by
  simp only[List.all_cons,Bool.and_eq_true]at an
  have aa:pq [r] [z]=true:=by
   simp only[pq,Bool.and_eq_true]at h⊢;exact⟨h.1,trivial⟩
  have ae:pq rs zs=true:=by
   simp only[pq,Bool.and_eq_true]at h;exact h.2
  have aC:=xl aa
  simp only[List.map_cons,List.map_nil,List.cons.injEq,and_true]at aC;exact .cons (xm aC an.1) (St ae an.2)
theorem Su{v:aW}{i:Nat}{e:Env}{z:Value}(h:Env.at e i=⟨v,v.fu⟩)(aw:DW v=true)(aQ:xk v z=true):Sub (nh z) ((nt v i).den G e)∧sT z=true:=by
 cases v with
 |st c=>
  cases z with
  |agg a=>
   simp only[xk,Bool.and_eq_true]at aQ;refine⟨?_,aQ.2⟩
   simp only[nt,ab.den,s0,h,cA,nh,aW.fu,Sr];exact(St aQ.1 aQ.2).agg
  |_=>cases aQ
 |int k=>
  simp only[xk,Bool.and_eq_true]at aQ
  have aC:=xl aQ.1
  simp only[List.map_cons,List.map_nil,List.cons.injEq,and_true]at aC
  cases z with
  |int bk n=>exact⟨by simp only[nt,ab.den,h,cA,nh];exact xm aC aQ.2,aQ.2⟩
  |_=>first|cases aQ.1|cases aQ.2
 |bool=>
  simp only[xk,Bool.and_eq_true]at aQ
  have aC:=xl aQ.1
  simp only[List.map_cons,List.map_nil,List.cons.injEq,and_true]at aC
  cases z with
  |bool b=>exact⟨by simp only[nt,ab.den,h,cA,nh];exact xm aC aQ.2,aQ.2⟩
  |_=>first|cases aQ.1|cases aQ.2
 |str=>
  simp only[xk,Bool.and_eq_true]at aQ
  have aC:=xl aQ.1
  simp only[List.map_cons,List.map_nil,List.cons.injEq,and_true]at aC
  cases z with
  |string b=>exact⟨by simp only[nt,ab.den,h,cA,nh];exact xm aC aQ.2,aQ.2⟩
  |_=>first|cases aQ.1|cases aQ.2
 |_=>cases aw
theorem Sv{k v:aW}(l:List (k.den × v.den)):fC (.mp k v) l=wV v.agg (gf (k8 k) (ix v) l):=by
 unfold wV gf
 rw[List.map_map,List.map_map]
 rfl
theorem zdV{fm:TypeId}{k:aW}(h:(P.underlying fm).bind u9=some k): ∃d,P.underlying fm=some d∧((k= .str∧d= .string)∨∃j,k= .int j∧d= .int j):=by
 cases hd:P.underlying fm with
 |none=>rw[hd]at h;cases h
 |some d=>
  rw[hd]at h
  have aj:u9 d=some k:=h
  refine⟨d,rfl,?_⟩
  unfold u9 at aj
  split at aj
  ·cases aj;exact .inl ⟨rfl,rfl⟩
  ·cases aj;exact .inr ⟨_,rfl,rfl⟩
  ·cases aj
theorem zdW{k v:aW}{m:Operand}{p:ab}{e:Env}(hf: ∀c∈S.g,c.ok e)(h:KT S (S.aZ N m)=some (k,v,p)):ng G (S.den G N B e) m v.agg (gf (k8 k) (ix v) (p.aA e (.mp k v))):=by
 unfold KT at h
 split at h
 ·rename_i id hm
  split at h
  ·rename_i bk bh dr q ah
   cases h
   have DX:aL G (S.den G N B e) m= .ref id:=by rw[bE hf,hm];rfl
   have bd:aE (S.den G N B e).heap id=some (.bM (jT v.agg (gf (k8 k) (ix v) (p.aA e (.mp k v))))):=by
    simp only[aq.den,ef,ah,Option.map_some];rfl
   exact ng.own DX bd
  ·cases h
 ·split at h
  ·rename_i bk bh af
   cases h;refine ng.RS ?_
   rw[bE hf,fW af,Sv]
  ·cases h
theorem zdX{t:TypeId}{m x:Operand}{c:Bool}{r:dt}(an:o.op= .lookup t m x c)(h:KU P S t (S.aZ N m) (S.aZ N x) c=some r):il P G N B M o S r:=fun e hf hx hn=>by
 unfold KU at h
 split at h
 ·rename_i fm eZ k v p hu ob
  split at h
  ·rename_i bk z zdY aQ
   split at h
   ·rename_i hc
    simp only[Bool.and_eq_true]at hc;obtain⟨aU,c9,gk,iJ⟩:=hc
    cases hp aU
    obtain⟨d,hd,hT⟩:=zdV zdY
    have n5:=zdW (G:=G) (N:=N) (B:=B) hf ob
    have key: ∀w:aD,(∀ev b,(jJ k (p.aA e (.mp k v)) ((S.aZ N x).aA e k)).getD v.fu=ev→(jJ k (p.aA e (.mp k v)) ((S.aZ N x).aA e k)).isSome=b→∀y,(b=true→y=uS v.agg (ix v ev))→(b=false→ev=v.fu∧y=nh z)→Sub (zS c y b) w)→sT z=true→cN P G o (S.den G N B e) w:=by
     intro w hw ni
     cases aJ:jJ k (p.aA e (.mp k v)) ((S.aZ N x).aA e k)with
     |some ev=>
      rw[aJ]at hw;refine cN.sub ?_ (hw ev true rfl rfl _ (fun _=>rfl) (fun q=>by cases q))
      rcases hT with⟨rfl,rfl⟩|⟨j,rfl,rfl⟩
      ·have jy:aL G (S.den G N B e) x= .av (.v (k8 .str ((S.aZ N x).aA e .str))):=by rw[bE hf];exact KB c9
       exact R0 (K:=ByteArray) Ks (ix v) v.agg _ _ ev c an hu hd n5 jy aJ
      ·have jy:aL G (S.den G N B e) x= .av (.v (k8 (.int j) ((S.aZ N x).aA e (.int j)))):=by rw[bE hf];exact DB c9
       exact R0 (K:=Int) (Kt j) (ix v) v.agg _ _ ev c an hu hd n5 jy aJ
     |none=>
      rw[aJ]at hw;refine cN.sub ?_ (hw v.fu false rfl rfl _ (fun q=>by cases q) (fun _=>⟨rfl,rfl⟩))
      rcases hT with⟨rfl,rfl⟩|⟨j,rfl,rfl⟩
      ·have jy:aL G (S.den G N B e) x= .av (.v (k8 .str ((S.aZ N x).aA e .str))):=by rw[bE hf];exact KB c9
       exact R1 (K:=ByteArray) Ks (ix v) v.agg _ _ c z an hu hd n5 jy aJ aQ ni
      ·have jy:aL G (S.den G N B e) x= .av (.v (k8 (.int j) ((S.aZ N x).aA e (.int j)))):=by rw[bE hf];exact DB c9
       exact R1 (K:=Int) (Kt j) (ix v) v.agg _ _ c z an hu hd n5 jy aJ aQ ni
    have sub: ∀{i:Nat} {ev:v.den} {b:Bool} {y:aD},Env.at e i=⟨v,ev⟩→(b=true→y=uS v.agg (ix v ev))→(b=false→ev=v.fu∧y=nh z)→Sub y ((nt v i).den G e):=by
     intro i ev b y hi aa ae
     cases b with
     |true=>rw[aa rfl,zdU hi iJ];exact Sub.refl _
     |false=>
      obtain⟨c3,dj⟩:=ae rfl;subst c3;rw[dj];exact(Su hi iJ gk).1
    have ni:sT z=true:=(Su (G:=G) (i:=0) (e:=ba.put .emp 0 ⟨v,v.fu⟩) (by rw[Env.ij,if_pos rfl]) iJ gk).2
    split at h
    ·cases h
     have aH:=hx 0 _ rfl
     have aa:=hx 1 _ rfl
     simp only[Nat.add_zero,bJ.den]at aH aa;refine key _ (fun ev b aC bf y g1 g2=>?_) ni
     refine fQ.tuple (.cons (sub (aa.trans (by rw[←aC])) g1 g2) (.cons ?_ .nil))
     simp only[ab.den,aH,cA];rw[←bf];exact Sub.refl _
    ·cases h
     have aH:=hx 0 _ rfl
     simp only[Nat.add_zero,bJ.den]at aH;exact key _ (fun ev b aC bf y g1 g2=>sub (aH.trans (by rw[←aC])) g1 g2) ni
   ·cases h
  ·cases h
 ·cases h
end
end Go.aM
namespace Go.aM
open Go
def ab.td(x g:ab)(b:Bool):ab:=
 match x with
 | .fE h c v=>match Ab g h&&(decide (c=b))with
  |true=>v
  |false=>x
 |x=>x
def KV(S:aq)(c x y:ab):Option dt:=
 match c,lg c S.g with
 | .cs (.bool b),_=>some ⟨[],[],match b with|true=>x|false=>y⟩
 |c,some b=>match c.rt with
  |some .bool=>some ⟨[],[],match b with|true=>x|false=>y⟩
  |_=>none
 |c,none=>match c.rt with
  |some .bool=>match(match(x.td c true).rt with|some r=>some r|none=>(y.td c false).rt)with
   |some r=>match(x.td c true).ew r&&((y.td c false).ew r&&r.one)with
    |true=>some ⟨[.DE r c (x.td c true) (y.td c false)],[],.aV r S.k⟩
    |false=>none
   |none=>none
  |_=>none
def te(r:aW):List ab→Bool
 |[]=>true
 |x::l=>x.ew r&&te r l
def Sw:List ab→Option aW
 |[]=>none
 |x::_=>x.rt
def KW(P:Program)(S:aq)(t:TypeId)(x i:ab):Option dt:=
 match x with
 | .ch l=>match P.underlying t with
  |some (.array len el)=>match scalar P el&&Nat.beq l.length len,(P.info? el).map (·.size)with
   |true,some 1=>match i with
    | .cs (.int .i64 (.ofNat j))=>match l[j]? with
     |some v=>some ⟨[],[],v⟩
     |none=>none
    |i=>match i.rt,Sw l with
     |some (.int .i64),some r=>match te r l&&r.one with
      |true=>some ⟨[.nth r l i],xg S.g l.length i,.aV r S.k⟩
      |false=>none
     |_,_=>none
   |_,_=>none
  |_=>none
 |x=>match x.rt,i.rt,isStr P t with
  |some .str,some (.int k),true=>some ⟨[.f2 (.rI k) x i],po S.g .n6 (.rI k) x i,.aV (.int .u8) S.k⟩
  |_,_,_=>none
def va(x:ab):Option bL:=
 match x.rt with
 |some (.li c)=>some c
 |_=>none
def zdZ(P:Program)(t:TypeId)(n:Nat):Option bL:=
 match P.underlying t with
 |some (.slice el)=>zc5.find? fun c=>Nat.beq n (bZ c)&&(p9 P el (iP c 0 0 (eY c))).isSome
 |_=>none
def KX(P:Program)(f:Nat):Nat:=
 match P.funcs[f]? with
 |some fn=>match fn.body.isNone&&fn.origin== "",fn.name== "internal/abi.NoEscape",fn.name== "internal/bytealg.IndexByteString" with
  |true,true,_=>1
  |true,false,true=>2
  |_,_,_=>0
 |none=>0
def KY(P:Program)(S:aq)(f:ab)(aG:List ab):Option dt:=
 match f with
 | .fn (.func f) [] []=>match KX P f,aG with
  |1,[x]=>some ⟨[],[],x⟩
  |2,[x,y]=>match x.rt,y.rt with
   |some .str,some (.int .u8)=>some ⟨[.f2 .w4 x y],[],.aV (.int .i64) S.k⟩
   |_,_=>none
  |_,_=>none
 |_=>none
def KZ(P:Program)(S:aq)(t:TypeId)(x i:ab):Option dt:=
 match i.rt with
 |some (.int k)=>match kc P t with
  |some n=>match x with
   | .aO id=>match db S.h id with
    |some (.rw _ c y)=>match Nat.beq n (bZ c)with
     |true=>some ⟨[],po S.g (.iQ c) (.kh c k) y i,.gM id i 0⟩
     |false=>none
    |_=>none
   | .cO id m=>match db S.h id,i with
    |some (.dn _ _),.cs (.int _ (.ofNat j))=>match Nat.blt j m with
     |true=>some ⟨[],[],.eb id (j*n)⟩
     |false=>none
    |_,_=>none
   |x=>match va x with
    |some c=>match Nat.beq n (bZ c)with
     |true=>some ⟨[.f2 (.kh c k) x i],po S.g (.iQ c) (.kh c k) x i,.ip c S.k 0⟩
     |false=>none
    |none=>match x.isNil,zdZ P t n with
     |true,some c=>some ⟨[.f2 (.kh c k) x i],[.f2 0 (.kh c k) x i],.ip c S.k 0⟩
     |_,_=>none
  |none=>match uF P t,u5 S x with
   |some (len,n),some _=>match i,x with
    | .cs (.int _ (.ofNat j)),x=>match Nat.blt j len,xi (j*n) x with
     |true,some p=>some ⟨[],[],p⟩
     |_,_=>none
    |i,.eb id off=>some ⟨[],xg S.g len i,.gT id off i n⟩
    |_,_=>none
   |_,_=>none
 |_=>none
def K0(P:Program)(S:aq)(t:TypeId)(x:ab):Option dt:=
 match x with
 | .gM id i off=>match db S.h id,i.rt with
  |some (.rw _ c y),some (.int k)=>match p9 P t ((iP c S.k 0 (eY c)).drop off),y.ew (.li c)with
   |some v,true=>some ⟨[.f2 (.kh c k) y i],po S.g (.iQ c) (.kh c k) y i,v⟩
   |_,_=>none
  |_,_=>none
 | .gT id off i 1=>match db S.h id,i.rt with
  |some (.dn _ l),some (.int _)=>match Sw (l.drop off)with
   |some r=>match te r (l.drop off)&&(r.one&&scalar P t)with
    |true=>some ⟨[.nth r (l.drop off) i],xg S.g (l.drop off).length i,.aV r S.k⟩
    |false=>none
   |none=>none
  |_,_=>none
 |x=>match u5 S x with
  |some l=>match p9 P t l with
   |some v=>some ⟨[],[],v⟩
   |none=>none
  |none=>none
def K1(P:Program)(S:aq)(t:TypeId)(x:ab):Option dt:=
 match x with
 | .cs (.slice none 0 0)=>match isSlice P t with
  |true=>some ⟨[],[],.cs (.int .i64 0)⟩
  |false=>none
 | .cs (.string s)=>match isStr P t with
  |true=>some ⟨[],[],.cs (.int .i64 (ByteArray.size s:Int))⟩
  |false=>none
 | .cO id n=>match db S.h id,isSlice P t with
  |some (.dn _ _),true=>some ⟨[],[],.cs (.int .i64 (n:Int))⟩
  |_,_=>none
 | .aO id=>match db S.h id with
  |some (.rw _ c y)=>match isSlice P t with
   |true=>some ⟨[.f1 (.iQ c) y],[],.aV (.int .i64) S.k⟩
   |false=>none
  |_=>none
 |x=>match x.rt with
  |some .str=>match isStr P t with
   |true=>some ⟨[.f1 .n6 x],[],.aV (.int .i64) S.k⟩
   |false=>none
  |some (.li c)=>match isSlice P t with
   |true=>some ⟨[.f1 (.iQ c) x],[],.aV (.int .i64) S.k⟩
   |false=>none
  |_=>match C7 P t with
   |some n=>some ⟨[],[],.cs (.int .i64 (n:Int))⟩
   |none=>none
def xn(N:Nat)(S:aq):Option Operand→Option (Option ab)
 |none=>some none
 |some y=>match(S.aZ N y).rt with
  |some (.int _)=>some (some (S.aZ N y))
  |_=>none
def DY(P:Program)(N:Nat)(S:aq)(t:TypeId)(x:ab)(lo hi:Option Operand):Option dt:=
 match xn N S lo,xn N S hi with
 |some l,some h=>match x.rt with
  |some .str=>match isStr P t with
   |true=>some ⟨[.u1 x l h],(match l,h with|none,none=>[]|_,_=>[.u1 x l h]),.aV .str S.k⟩
   |false=>none
  |some (.li c)=>match kc P t with
   |some n=>match Nat.beq n (bZ c)with
    |true=>some ⟨[.eB c x l h],(match l,h with|none,none=>[]|_,_=>[.eB c x l h]),.aV (.li c) S.k⟩
    |false=>none
   |none=>none
  |_=>none
 |_,_=>none
def Sx(P:Program)(S:aq)(src dst:TypeId)(id:Nat):Option dt:=
 match db S.h id,P.underlying src with
 |some (.rw _ .u8 y),some (.slice el)=>match P.underlying el,P.underlying dst with
  |some (.int .u8),some .string=>some ⟨[.f1 .cO y],[],.aV .str S.k⟩
  |_,_=>none
 |_,_=>none
def K2(P:Program)(S:aq)(src dst:TypeId)(x:ab):Option dt:=
 match x with
 | .aO id=>Sx P S src dst id
 |x=>match x.rt with
  |some (.int k)=>match P.underlying src,P.underlying dst with
   |some _,some (.int bk)=>some ⟨[.f1 (.o7 k bk) x],[],.aV (.int bk) S.k⟩
   |_,_=>none
  |some (.li .u8)=>match P.underlying src with
   |some (.slice el)=>match P.underlying el,P.underlying dst with
    |some (.int .u8),some .string=>some ⟨[.f1 .cO x],[],.aV .str S.k⟩
    |_,_=>none
   |_=>none
  |_=>none
def K3(S:aq)(op:UnOp)(x:ab):Option dt:=
 match op,x.rt with
 | .not,some .bool=>some ⟨[.f1 .nj x],[],.aV .bool S.k⟩
 | .neg,some (.int k)=>some ⟨[.f1 (.z1 k) x],[],.aV (.int k) S.k⟩
 | .xor,some (.int k)=>some ⟨[.f1 (.ux k) x],[],.aV (.int k) S.k⟩
 |_,_=>none
def K4(P:Program)(N:Nat)(S:aq)(t:TypeId)(ps:List (Nat × Operand)):Option dt:=
 match places P t,zeroCells P t with
 |some pl,some zs=>match zs.all Value.oneCell'&&(ps.map fun p=>(p.1,S.aZ N p.2)).all fun p=>p.2.cells.all (kL S.h)with
  |true=>match rQ pl (zs.map .cs) (ps.map fun p=>(p.1,S.aZ N p.2))with
   |some ds=>some ⟨[],[],.ch ds⟩
   |none=>none
  |false=>none
 |_,_=>none
def K5(P:Program)(t:TypeId)(x:ab)(f:Nat):Option dt:=
 match x,wI P t f with
 | .ch l,some (off,none)=>match l[off]? with
  |some v=>some ⟨[],[],v⟩
  |none=>none
 | .ch l,some (off,some n)=>match Nat.ble (off+n) l.length with
  |true=>some ⟨[],[],.ch ((l.drop off).take n)⟩
  |false=>none
 |_,_=>none
def K6(S:aq)(b:Builtin)(x y:ab):Option dt:=
 match x.rt,y.rt,b with
 |some (.int k),some (.int bk),.min=>match decide (k=bk)with
  |true=>some ⟨[.f2 (.uy k) x y],[],.aV (.int k) S.k⟩
  |false=>none
 |some (.int k),some (.int bk),.max=>match decide (k=bk)with
  |true=>some ⟨[.f2 (.mx k) x y],[],.aV (.int k) S.k⟩
  |false=>none
 |_,_,_=>none
def DZ(P:Program)(t:TypeId):Bool:=
 match P.underlying t with
 |some (.pointer e)=>(P.info? e).isSome&&match(P.info? e).map (fun i=>decide (i.size=0))with
  |some false=>true
  |_=>false
 |_=>false
def Ak(S:aq)(id:Nat):Bool:=
 match db S.h id with
 |some (.dn _ _)=>true
 |_=>false
def D0(S:aq)(b:Bool)(g:ab):Option dt:=
 match g.rt,b with
 |some .bool,true=>some ⟨[],[],g⟩
 |some .bool,false=>some ⟨[.f1 .nj g],[],.aV .bool S.k⟩
 |_,_=>none
def K7:BinOp→Option Bool
 | .eql=>some true
 | .neq=>some false
 |_=>none
def K8(P:Program)(S:aq)(op:BinOp)(cw:TypeId)(x y:ab):Option dt:=
 match DZ P cw,K7 op with
 |true,some b=>match x,y with
  | .cs (.pointer none),.cs (.pointer none)=>some ⟨[],[],.cs (.bool b)⟩
  | .eb i o,.eb j q=>match(Nat.beq i j&&Nat.beq o q)&&Ak S i with
   |true=>some ⟨[],[],.cs (.bool b)⟩
   |false=>none
  | .fg g (some i) _,.cs (.pointer none)=>match Ak S i with
   |true=>D0 S (!b) g
   |false=>none
  | .fg g (some i) o,.eb j q=>match(Nat.beq i j&&Nat.beq o q)&&Ak S i with
   |true=>D0 S b g
   |false=>none
  |_,_=>none
 |_,_=>none
def K9(P:Program)(S:aq)(src dst:TypeId)(x:ab):Option dt:=
 match x with
 | .eb id off=>match db S.h id,P.underlying src,P.underlying dst with
  |some (.dn _ l),some (.pointer t),some .unsafePointer=>match(P.info? t).map (fun i=>decide (i.size=0)),Nat.blt off l.length with
   |some false,true=>some ⟨[],[],x⟩
   |_,_=>none
  |some (.dn bt l),some .unsafePointer,some (.pointer u)=>match liesAt P P.depth bt (l.length/ P.cellsOf bt) off u 1&&(P.info? u).isSome,Nat.blt off l.length with
   |true,true=>some ⟨[],[],x⟩
   |_,_=>none
  |_,_,_=>none
 |_=>none
def La(P:Program)(S:aq)(t:TypeId)(x:ab):Option dt:=
 match x,P.underlying t with
 | .eb id 0,some (.array n el)=>match db S.h id,Nat.blt 0 n&&(P.info? el).isSome with
  |some (.dn _ _),true=>some ⟨[],[],.cO id n⟩
  |_,_=>none
 |_,_=>none
def Lb(P:Program)(S:aq)(src dst:TypeId)(x:ab):Option dt:=
 match x,P.underlying src with
 | .cO id n,some (.slice el)=>match db S.h id,P.underlying el,P.underlying dst with
  |some (.dn _ l),some (.int .u8),some .string=>match Nat.beq n l.length&&l.all (ab.ew (.int .u8))with
   |true=>some ⟨[.qx .u8 (l.map fun x=>.ch [x]),.f1 .cO (.aV (.li .u8) S.k)],[],.aV .str (S.k+1)⟩
   |false=>none
  |_,_,_=>none
 |_,_=>none
def pr:List ab→Option (List aW)
 |[]=>some []
 |x::r=>match x.rt,pr r with
  |some t,some l=>some (t::l)
  |_,_=>none
def D1(P:Program)(t:TypeId):Bool:=
 match P.underlying t with
 |some (.interface _)=>true
 |none=>true
 |_=>false
def Lc(P:Program)(t:TypeId)(x:ab):Option dt:=
 match D1 P t with
 |true=>none
 |false=>match x with
  | .ch l=>match pr l with
   |some rs=>some ⟨[],[],.ep t true rs l⟩
   |none=>none
  |x=>match x.rt with
   |some r=>some ⟨[],[],.ep t false [r] [x]⟩
   |none=>none
def rR(a:Bool)(l:List ab):Option ab:=
 match a,l with
 |true,l=>some (.ch l)
 |false,[x]=>some x
 |false,_=>none
def Ld:Value→ab
 | .agg a=>.ch (a.toList.map .cs)
 |v=>.cs v
def Le(P:Program)(t:TypeId)(x:ab)(c:Bool):Option dt:=
 match x,D1 P t with
 | .ep u a rs l,false=>match Nat.beq u t,c with
  |true,true=>match rR a l,decide (pr l=some rs)with
   |some v,true=>some ⟨[],[],.tp [v,.cs (.bool true)]⟩
   |_,_=>none
  |true,false=>match rR a l,decide (pr l=some rs)with
   |some v,true=>some ⟨[],[],v⟩
   |_,_=>none
  |false,true=>match(P.info? t).bind (·.zero)with
   |some z=>match sT z with
    |true=>some ⟨[],[],.tp [Ld z,.cs (.bool false)]⟩
    |false=>none
   |none=>none
  |false,false=>none
 |_,_=>none
def qD(P:Program)(N:Nat)(S:aq)(o:Oper):Option dt:=
 match o.op with
 | .move x=>some ⟨[],[],S.aZ N x⟩
 | .assign x=>some ⟨[],[],S.aZ N x⟩
 | .pick c x y=>KV S (S.aZ N c) (S.aZ N x) (S.aZ N y)
 | .extract x i=>match S.aZ N x with
  | .tp l=>match l[i]? with
   |some v=>some ⟨[],[],v⟩
   |none=>none
  |_=>none
 | .nilCheck x=>match tc S (S.aZ N x)with
  |true=>some ⟨[],[],S.aZ N x⟩
  |false=>none
 | .fieldAddr t x f=>match sJ P t f,tc S (S.aZ N x)with
  |some k,true=>match xi k (S.aZ N x)with
   |some p=>some ⟨[],[],p⟩
   |none=>none
  |_,_=>none
 | .load t x=>K0 P S t (S.aZ N x)
 | .field t x f=>K5 P t (S.aZ N x) f
 | .indexAddr t x i=>KZ P S t (S.aZ N x) (S.aZ N i)
 | .index t x i=>KW P S t (S.aZ N x) (S.aZ N i)
 | .binOp op cw x y _=>match KS P S op cw (S.aZ N x) (S.aZ N y)with
  |some r=>some r
  |none=>K8 P S op cw (S.aZ N x) (S.aZ N y)
 | .unOp op _ x=>K3 S op (S.aZ N x)
 | .convert src dst x=>match K2 P S src dst (S.aZ N x)with
  |some r=>some r
  |none=>match K9 P S src dst (S.aZ N x)with
   |some r=>some r
   |none=>Lb P S src dst (S.aZ N x)
 | .build t ps=>K4 P N S t ps.toList
 | .makeFunc (.func f) p q=>some ⟨[],[],.fn (.func f) (p.toList.map (S.aZ N)) (q.toList.map (S.aZ N))⟩
 | .makeInterface t x=>Lc P t (S.aZ N x)
 | .typeAssert x _ t c=>Le P t (S.aZ N x) c
 | .lookup t m x c=>KU P S t (S.aZ N m) (S.aZ N x) c
 | .slice t x none none none=>match DY P N S t (S.aZ N x) none none with
  |some r=>some r
  |none=>La P S t (S.aZ N x)
 | .slice t x lo hi none=>DY P N S t (S.aZ N x) lo hi
 | .call c=>match c.callee,c.args.toList,c.argTypes.toList with
  | .builtin .len,[x],[t]=>K1 P S t (S.aZ N x)
  | .builtin b,[x,y],_=>K6 S b (S.aZ N x) (S.aZ N y)
  | .value f,l,_=>KY P S (S.aZ N f) (l.map (S.aZ N))
  |_,_,_=>none
 |_=>none
section
variable {P:Program} {G:a8} {o:Oper} {N B:Nat} {S:aq} {M:List aS}
theorem Sy{e:Env}{g:ab}{b:Bool}{x:ab}(h:g.aA e .bool=b):(x.td g b).den G e=x.den G e:=by
 unfold ab.td
 split
 ·rename_i h' c v
  split
  ·rename_i ad
   simp only[Bool.and_eq_true,decide_eq_true_eq]at ad
   have:=KH ad.1
   subst this;obtain⟨_,rfl⟩:=ad;simp only[ab.den,h]
   cases c<;>rfl
  ·rfl
 ·rfl
theorem D2{e:Env}{r:aW}(h:r.one=true)(x:ab):x.get e r=x.aA e r:=by
 cases r<;>first|rfl|cases h
theorem il.nil{v:ab}(h: ∀e,(∀c∈S.g,c.ok e)→cN P G o (S.den G N B e) (v.den G e)):il P G N B M o S ⟨[],[],v⟩:=fun e hf _ _=>h e hf
theorem zd0{c x y:Operand}{r:dt}(an:o.op= .pick c x y)(h:KV S (S.aZ N c) (S.aZ N x) (S.aZ N y)=some r):il P G N B M o S r:=fun e hf hx hn=>by
 unfold KV at h
 split at h
 ·rename_i b ad
  cases h
  have hc:aL G (S.den G N B e) c= .av (.v (.bool b)):=by rw[bE hf,ad];rfl
  refine zr c x y an hc ?_
  cases b<;>simp[bE hf]
 ·rename_i b ad _
  split at h
  ·rename_i af
   cases h
   have aj:=qz ad hf
   have hc:aL G (S.den G N B e) c= .av (.v (.bool b)):=by rw[bE hf,fW af,aj];rfl
   refine zr c x y an hc ?_
   cases b<;>simp[bE hf]
  ·cases h
 ·split at h
  ·rename_i hc
   split at h
   ·rename_i q _
    split at h
    ·rename_i ad
     cases h;simp only[Bool.and_eq_true]at ad
     have zj:aL G (S.den G N B e) c= .av (.v (.bool ((S.aZ N c).aA e .bool))):=(bE hf c).trans (fW hc)
     refine(zr c x y an zj rfl).sub ?_
     have aH:Env.at e S.k=_:=hx 0 _ rfl
     simp only[ab.den,aH,bJ.den,cA,bE hf,D2 ad.2.2]
     cases gC:(S.aZ N c).aA e .bool with
     |true=>
      simp only[cond_true,if_true];rw[←Sy (G:=G) (x:=S.aZ N x) gC];exact uZ ad.1
     |false=>
      simp only[cond_false,Bool.false_eq_true,if_false];rw[←Sy (G:=G) (x:=S.aZ N y) gC];exact uZ ad.2.1
    ·cases h
   ·cases h
  ·cases h
theorem Lf{e:Env}{r:aW}: ∀{l:List ab} {j:Nat} {x:ab},te r l=true→l[j]? =some x→Sub (x.den G e) (.av (fC r (s4 e r l j)))
 |[],_,_,_,h=>by simp at h
 |[y],j,x,aY,h=>by
  have ag:j=0:=by
   have:=(List.getElem?_eq_some_iff.1 h).1
   simp at this;exact this
  subst ag;simp only[List.getElem?_cons_zero,Option.some.injEq]at h
  subst h;simp only[te,Bool.and_eq_true]at aY;exact uZ aY.1
 |y::z::l,0,x,aY,h=>by
  simp only[List.getElem?_cons_zero,Option.some.injEq]at h
  subst h;simp only[te,Bool.and_eq_true]at aY;exact uZ aY.1
 |y::z::l,j+1,x,aY,h=>by
  simp only[List.getElem?_cons_succ]at h
  simp only[te,Bool.and_eq_true]at aY
  have:=Lf (e:=e) (r:=r) (l:=z::l) (j:=j) (x:=x) (by simp only[te,Bool.and_eq_true];exact aY.2) h
  have ad:Nat.beq (j+1) 0=false:=rfl
  simp only[s4,ad,cond_false,Nat.add_sub_cancel];exact this
theorem D3{e:Env}{l:List ab}{j:Nat}{x:ab}(h:l[j]? =some x):(ab.bQ G e l)[j]? =some (x.den G e):=by rw[e6,List.getElem?_map,h];rfl
theorem zd1{t:TypeId}{x i:Operand}{r:dt}(an:o.op= .index t x i)(h:KW P S t (S.aZ N x) (S.aZ N i)=some r):il P G N B M o S r:=fun e hf hx hn=>by
 unfold KW at h
 split at h
 ·rename_i l ar
  have fN:aL G (S.den G N B e) x= .agg (ab.bQ G e l):=by rw[bE hf,ar];rfl
  split at h
  ·rename_i len el hu
   split at h
   ·rename_i ad bP
    simp only[Bool.and_eq_true]at ad
    have hlen:=Nat.eq_of_beq_eq_true ad.2
    split at h
    ·rename_i j hi
     split at h
     ·rename_i v aw
      cases h
      have ag:=(List.getElem?_eq_some_iff.1 aw).1
      exact RN j an hu ad.1 bP (by rw[bE hf,hi];rfl) fN (D3 aw) (by omega)
     ·cases h
    ·split at h
     ·rename_i eR hi af
      split at h
      ·rename_i aY
       cases h;simp only[Bool.and_eq_true]at aY
       have jr:0≤ck ((S.aZ N i).dyn e)∧ck ((S.aZ N i).dyn e)<(l.length:Int):=DR hf hn
       obtain⟨j,ag⟩: ∃j:Nat,ck ((S.aZ N i).dyn e)=(j:Int):=⟨_,(Int.toNat_of_nonneg jr.1).symm⟩
       have cL:j<l.length:=by omega
       have hl:aL G (S.den G N B e) i=iM (j:Int):=by
        rw[bE hf,jx hi,←lP hi,ag]
       have aw:l[j]? =some l[j]:=List.getElem?_eq_getElem cL
       refine(RN j an hu ad.1 bP hl fN (D3 aw) (by omega)).sub ?_
       have aH:Env.at e S.k=_:=hx 0 _ rfl
       simp only[ab.den,aH,bJ.den,cA,ag,Int.toNat_natCast];exact Lf aY.1 aw
      ·cases h
     ·cases h
   ·cases h
  ·cases h
 ·split at h
  ·rename_i k aa ae aI
   cases h
   have fN:aL G (S.den G N B e) x=_:=(bE hf x).trans (fW aa)
   have hl:aL G (S.den G N B e) i=_:=(bE hf i).trans (jx ae)
   obtain⟨g1,g2⟩:=zdO hf ae hn;exact qA (f:=.rI k) (hx 0 _ rfl) (zdu _ k _ an (uH aI) hl fN g1 g2)
  ·cases h
theorem Sz{e:Env}{c:bL}{i:Nat}{x:fJ c}(h:Env.at e i=⟨.st c,x⟩):(ab.ip c i 0).den G e= .av (.ptr (cb c x)):=by
 simp only[ab.den,h,cA,List.drop_zero]
theorem SA{c:bL}{l:List (fJ c)}{z:Int}(aH:0≤z)(aa:z<(l.length:Int)):l[z.toNat]? =some (l.getD z.toNat (az c)):=by
 have:z.toNat<l.length:=by omega
 rw[List.getD_eq_getElem?_getD,List.getElem?_eq_getElem this]
 rfl
theorem D4{e:Env}{x:ab}{c:bL}(h:va x=some c):x.den G e= .av (.li c (x.aA e (.li c)))∧x.rt=some (.li c):=by
 unfold va at h
 split at h
 ·rename_i lL af
  cases h;exact⟨fW af,af⟩
 ·cases h
theorem zd2{s:aP}{x:Operand}{t:TypeId}(an:o.op= .call {callee:=.builtin .len,args:=#[x],argTypes:=#[t]})(aI:isSlice P t=true){id n:Nat}(hx:aL G s x= .dA id n){bt:TypeId}{cs:List aD}(bd:aE s.heap id=some (.box bt cs)):cN P G o s (.av (.v (.int .i64 (n:Int)))):=
 fun E a w β ro af=>by
  have h:=af.eval x
  rw[hx]at h;generalize hc:a.eval x=c at h
  cases h with
  |dA _ _ _ ar ak=>
   obtain⟨b,_,rfl⟩:=ak _ _ bd;unfold isSlice at aI
   split at aI
   ·rename_i e hu
    refine⟨.int .i64 n,?_,.fz rfl⟩
    simp[execOp,an,resolve,invoke,builtin,hc,Builtin.len_,run_underlying hu,goInt]
   ·cases aI
theorem zd3{s:aP}{x y:Operand}{t:TypeId}(an:o.op= .indexAddr t x y){vX:Nat}(aI:kc P t=some vX){k:IntKind}{j n:Nat}(ax:aL G s y= .av (.v (.int k (j:Int))))(ag:j<n){id:Nat}(hx:aL G s x= .dA id n){bt:TypeId}{cs:List aD}(bd:aE s.heap id=some (.box bt cs)):cN P G o s (.ptr id (j*vX)):=
 fun E a w β ro af=>by
  have h:=af.eval x
  rw[hx]at h;generalize hc:a.eval x=c at h
  cases h with
  |dA _ _ _ ar ak=>
   obtain⟨b,ad,rfl⟩:=ak _ _ bd;obtain⟨e,hu,bP⟩:=zy aI;refine⟨.pointer (some ⟨b,j*vX,none⟩),?_,.ptr _ _ _ ar fun bz cs' _=>⟨b,ad,rfl⟩⟩
   by_cases aQ:j*vX=0<;>simp[execOp,an,hc,af.ec ax,Instr.indexAt,asIntOf,run_underlying hu,ag,bP,Addr.add,aQ]
theorem zd4(cO:ByteArray)(c:Int):Extern.BytealgIndexByte.indexByte #[.string cO,.int .u8 c]=pure (.int .i64 (DD cO c)):=by
 have hi:Extern.BytealgIndexByte.indexByte #[.string cO,.int .u8 c]=(match(List.range cO.size).find? fun i=>cO[i]! ==c.toNat.toUInt8 with
  |some i=>pure (goInt i)
  |none=>pure (goInt (-1))):=rfl
 rw[hi]
 unfold DD
 cases List.find? (fun i=>cO[i]! ==c.toNat.toUInt8) (List.range cO.size)<;>rfl
theorem D5{a b:String}(h:(a==b)=true):a=b:=by simpa using h
theorem zd5{f:Operand}{aG:List Operand}{args:Array Operand}{ts:Array TypeId}{r:dt}(an:o.op= .call {callee:=.value f,args:=args,argTypes:=ts})(aY:args.toList=aG)(h:KY P S (S.aZ N f) (aG.map (S.aZ N))=some r):il P G N B M o S r:=fun e hf hx hn=>by
 unfold KY at h
 split at h
 rotate_left
 ·cases h
 rename_i SB vb
 have xo:aL G (S.den G N B e) f= .fn (.func SB) [] []:=by rw[bE hf,vb];rfl
 have start: ∀{ev:Array Value→Sem Value} {fn:Func},P.funcs[SB]? =some fn→fn.body.isNone=true→(fn.name== "runtime.NumGoroutine")=false→Extern.findNext fn=none→Extern.find fn=some ev→∀E a w β ro,c5 E G (S.den G N B e) a w β ro→(execOp a.eval o).run P w=((ev (args.map a.eval)).run P w).andThen fun v w'=>.ok (.value v) w':=fun {ev fn} aa ae au aR bA E a w β ro af=>by
  have hc:=af.eval f
  rw[xo]at hc;generalize he:a.eval f=JN at hc
  cases hc with
  |fn _ _ _ c d g1 g2 _ _=>
   have hC:c= #[]:=by simpa using g1
   have ox:d= #[]:=by simpa using g2
   subst hC ox;simp only[execOp,an,resolve,he,Deferred.ofValue,Sem.run_bind,Sem.run_pure,Result.andThen_ok,invoke,Array.empty_append,Array.append_empty];exact run_callFunc_extern aa au ae aR bA _ w
 split at h
 ·rename_i x aj ar
  cases h;unfold KX at aj
  split at aj
  rotate_left
  ·cases aj
  rename_i fn nM
  split at aj
  ·rename_i _ Al wD
   simp only[Bool.and_eq_true]at Al;obtain⟨ad,gJ⟩:=Al
   have hn:=D5 wD
   have gJ:=D5 gJ
   obtain⟨y,rfl⟩: ∃y,aG=[y]:=by
    match aG,ar with
    |[y],_=>exact⟨y,rfl⟩
   simp only[List.map_cons,List.map_nil,List.cons.injEq,and_true]at ar
   have h3:args= #[y]:=by rw[←Array.toList_inj];exact aY
   intro E a w β ro af;refine⟨a.eval y,?_,by have:=af.eval y;rw[bE hf,ar]at this;exact this⟩
   rw[start (ev:=Extern.AbiNoEscape.same) nM ad (by rw[hn];rfl) (by unfold Extern.findNext;simp only[hn,gJ]<;>rfl) (by unfold Extern.find;simp only[hn,gJ]<;>rfl) E a w β ro af,h3]
   have hm:(#[y]:Array Operand).map a.eval= #[a.eval y]:=by simp
   rw[hm];rfl
  ·cases aj
  ·cases aj
 ·rename_i x z aj ar
  split at h
  ·rename_i g1 g2
   cases h;unfold KX at aj
   split at aj
   rotate_left
   ·cases aj
   rename_i fn nM
   split at aj
   ·cases aj
   ·rename_i Al _ wD
    simp only[Bool.and_eq_true]at Al;obtain⟨ad,gJ⟩:=Al
    have hn:=D5 wD
    have gJ:=D5 gJ
    obtain⟨y,u,rfl⟩: ∃y u,aG=[y,u]:=by
     match aG,ar with
     |[y,u],_=>exact⟨y,u,rfl⟩
    simp only[List.map_cons,List.map_nil,List.cons.injEq,and_true]at ar
    have h3:args= #[y,u]:=by rw[←Array.toList_inj];exact aY
    have ax:aL G (S.den G N B e) y= .av (.v (.string (x.aA e .str))):=by rw[bE hf,ar.1];exact fW g1
    have hu:aL G (S.den G N B e) u= .av (.v (.int .u8 (z.aA e (.int .u8)))):=by rw[bE hf,ar.2];exact fW g2
    refine qA (f:=.w4) (hx 0 _ rfl) fun E a w β ro af=>?_
    refine⟨.int .i64 (DD (x.aA e .str) (z.aA e (.int .u8))),?_,.fz rfl⟩
    rw[start (ev:=Extern.BytealgIndexByte.indexByte) nM ad (by rw[hn];rfl) (by unfold Extern.findNext;simp only[hn,gJ]<;>rfl) (by unfold Extern.find;simp only[hn,gJ]<;>rfl) E a w β ro af,h3]
    have hm:(#[y,u]:Array Operand).map a.eval= #[.string (x.aA e .str),.int .u8 (z.aA e (.int .u8))]:=by simp[af.ec ax,af.ec hu]
    rw[hm];rw[zd4];rfl
   ·cases aj
  ·cases h
 ·cases h
theorem zd6{t:TypeId}{x i:Operand}{r:dt}(an:o.op= .indexAddr t x i)(h:KZ P S t (S.aZ N x) (S.aZ N i)=some r):il P G N B M o S r:=fun e hf hx hn=>by
 unfold KZ at h
 split at h
 ·rename_i k hi
  have hl:aL G (S.den G N B e) i=_:=(bE hf i).trans (jx hi)
  split at h
  ·rename_i n lQ
   split at h
   ·rename_i id bd
    split at h
    ·rename_i bz c y ah
     split at h
     ·rename_i ad
      cases h
      have ad:=Nat.eq_of_beq_eq_true ad
      obtain⟨g1,g2⟩:=xh hf hi hn;obtain⟨j,ag⟩: ∃j:Nat,(S.aZ N i).aA e (.int k)=(j:Int):=⟨_,(Int.toNat_of_nonneg g1).symm⟩;rw[ag]at hl g2
      have g2:(j:Int)<((List.length (y.aA e (.li c)):Nat):Int):=g2
      have:=Q5 t x i an lQ hl (p:=.cW id j 0) (by
       rw[bE hf,bd];simp only[ab.den,mq,aq.den,ef,ah,Option.map_some,bC.den]
       rw[if_pos ⟨ad.symm,by rw[List.length_map];omega⟩])
      simp only[ab.den,lP hi,ag,Int.toNat_natCast];exact this
     ·cases h
    ·cases h
   ·rename_i id m bd
    split at h
    ·rename_i bt l bk j ah rv
     split at h
     ·rename_i Q9
      cases h;exact zd3 an lQ (k:=bk) (j:=j) (by rw[bE hf,rv];rfl) (e7 Q9) (id:=id) (bt:=bt) (cs:=ab.bQ G e l) (by rw[bE hf,bd];rfl) (by simp only[aq.den,ef,ah,Option.map_some,bC.den])
     ·cases h
    ·cases h
   ·split at h
    ·rename_i c hc
     split at h
     ·rename_i ad
      cases h
      have ad:=Nat.eq_of_beq_eq_true ad
      rw[ad]at lQ;obtain⟨hd,Am⟩:=D4 (G:=G) (e:=e) hc;obtain⟨g1,g2⟩:=xh hf hi hn
      have:=(R6 c _ k _ an lQ hl ((bE hf x).trans hd) g1 g2).v
      have aH:Env.at e S.k=_:=hx 0 _ rfl
      have aa:=Sz (G:=G) (x:=List.getD ((S.aZ N x).aA e (.li c)) (Int.toNat ((S.aZ N i).aA e (.int k))) (az c)) aH
      show cN P G o _ ((ab.ip c S.k 0).den G e);rw[aa];exact this
     ·cases h
    ·split at h
     ·rename_i c rB _
      cases h
      have jr:=hn _ (List.mem_singleton.2 rfl)
      have aQ:(S.aZ N x).aA e (.li c)=[]:=by
       unfold ab.isNil at rB
       split at rB
       ·rename_i aJ
        simp only[aJ,ab.aA,ab.fo,cA]
       ·cases rB
      simp only[fe.ok,cC.u0,aQ]at jr
      have ae:(S.aZ N i).aA e (.int k)<((List.length ([]:List (fJ c)):Nat):Int):=jr.2
      have au:0≤(S.aZ N i).aA e (.int k):=jr.1
      exact absurd (Int.lt_of_le_of_lt au ae) (Int.lt_irrefl _)
     ·cases h
  ·split at h
   ·rename_i len n l aY ar
    have dI:=Ai (G:=G) (N:=N) (B:=B) (e:=e) ar
    rw[←bE (B:=B) hf]at dI
    split at h
    ·rename_i bk j ag
     split at h
     ·rename_i p cL ak
      cases h
      have cL:=e7 cL
      refine JT t x i an aY (k:=bk) (j:=j) (by rw[bE hf,ag];rfl) cL dI ?_
      have ai:=Aj (G:=G) (e:=e) ak
      rw[←ai,←bE (N:=N) (B:=B) hf];revert dI
      cases aL G (S.den G N B e) x<;>intro dI<;>first|(simp[fl]at dI;done)|skip
      all_goals rename_i y
      ·cases y<;>first|(simp[fl]at dI;done)|rfl
      ·rfl
      ·rfl
     ·cases h
    ·rename_i id off bd _
     cases h
     have jr:0≤ck ((S.aZ N i).dyn e)∧ck ((S.aZ N i).dyn e)<(len:Int):=DR hf hn
     obtain⟨j,ag⟩: ∃j:Nat,ck ((S.aZ N i).dyn e)=(j:Int):=⟨_,(Int.toNat_of_nonneg jr.1).symm⟩;rw[←lP hi,ag]at hl;refine JT t x i an aY hl (by omega) dI ?_
     rw[bE hf,bd];simp only[ab.den,iK,ag,Int.toNat_natCast]
    ·cases h
   ·cases h
 ·cases h
theorem zd7{t:TypeId}{x:Operand}{r:dt}(an:o.op= .load t x)(h:K0 P S t (S.aZ N x)=some r):il P G N B M o S r:=fun e hf hx hn=>by
 unfold K0 at h
 split at h
 ·rename_i id i off ak
  split at h
  ·rename_i bz c y k ah hi
   split at h
   ·rename_i v aw ax
    cases h;obtain⟨g1,g2⟩:=xh hf hi hn
    have aH:Env.at e S.k=⟨.st c,List.getD (y.aA e (.li c)) (i.aA e (.int k)).toNat (az c)⟩:=hx 0 _ rfl
    refine G1 an ?_ aw
    rw[bE hf,ak];simp only[ab.den,fl,aq.den,ef,ah,Option.map_some,bC.den,lP hi];rw[List.getElem?_map,SA g1 g2]
    simp only[Option.map_some,Option.some.injEq];rw[KQ,s0,aH,cA,List.map_drop]
   ·cases h
  ·cases h
 ·rename_i id off i ak
  split at h
  ·rename_i bz l k ah hi
   split at h
   ·rename_i q aJ
    split at h
    ·rename_i aY
     cases h;simp only[Bool.and_eq_true]at aY
     have jr:0≤ck (i.dyn e)∧ck (i.dyn e)<((l.drop off).length:Int):=DR hf hn
     obtain⟨j,ag⟩: ∃j:Nat,ck (i.dyn e)=(j:Int):=⟨_,(Int.toNat_of_nonneg jr.1).symm⟩
     have cL:j<(l.drop off).length:=by omega
     have aw:(l.drop off)[j]? =some (l.drop off)[j]:=List.getElem?_eq_getElem cL
     have hd:(l.drop off).drop j=(l.drop off)[j]::(l.drop off).drop (j+1):=List.drop_eq_getElem_cons cL
     have:=Jx t x an aY.2.2 (y:=((l.drop off)[j]).den G e) (cs:=ab.bQ G e ((l.drop off).drop (j+1))) (s:=S.den G N B e) (G:=G) (by
      rw[bE hf,ak];simp only[ab.den,fl,aq.den,ef,ah,Option.map_some,bC.den,ag,Int.toNat_natCast,Nat.mul_one,Option.some.injEq];rw[←KQ,←List.drop_drop,hd]
      rfl)
     refine this.sub ?_
     have aH:Env.at e S.k=_:=hx 0 _ rfl
     simp only[ab.den,aH,bJ.den,cA,ag,Int.toNat_natCast];exact Lf aY.1 aw
    ·cases h
   ·cases h
  ·cases h
 ·split at h
  ·rename_i l ar
   split at h
   ·rename_i v aw
    cases h;refine G1 an ?_ aw
    rw[bE hf];exact Ai ar
   ·cases h
  ·cases h
theorem zd8{t:TypeId}{x:Operand}{r:dt}(an:o.op= .call {callee:=.builtin .len,args:=#[x],argTypes:=#[t]})(h:K1 P S t (S.aZ N x)=some r):il P G N B M o S r:=fun e hf hx hn=>by
 unfold K1 at h
 split at h
 ·rename_i ak
  split at h
  ·rename_i aI
   cases h;exact JR x t an aI (m:=0) (by rw[bE hf,ak];rfl)
  ·cases h
 ·rename_i b ak
  split at h
  ·rename_i aI
   cases h;exact JS x t an (uH aI) (by rw[bE hf,ak];rfl)
  ·cases h
 ·rename_i id n ak
  split at h
  ·rename_i bt l ah aI
   cases h;exact zd2 an aI (id:=id) (bt:=bt) (cs:=ab.bQ G e l) (by rw[bE hf,ak];rfl) (by simp only[aq.den,ef,ah,Option.map_some,bC.den])
  ·cases h
 ·rename_i id ak
  split at h
  ·rename_i bz c y ah
   split at h
   ·rename_i aI
    cases h;refine qB (f:=.iQ c) (hx 0 _ rfl) (JR x t an aI (m:=List.length (y.aA e (.li c))) ?_)
    rw[bE hf,ak];simp only[ab.den,k7,aq.den,ef,ah,Option.map_some,bC.den,List.length_map]
   ·cases h
  ·cases h
 ·split at h
  ·rename_i af
   split at h
   ·rename_i aI
    cases h;exact qB (f:=.n6) (hx 0 _ rfl) (JS x t an (uH aI) ((bE hf x).trans (fW af)))
   ·cases h
  ·rename_i c af
   split at h
   ·rename_i aI
    cases h;exact qB (f:=.iQ c) (hx 0 _ rfl) (zdv c _ an aI ((bE hf x).trans (fW af)))
   ·cases h
  ·split at h
   ·rename_i n Lg
    cases h;exact Q3 x t an Lg
   ·cases h
theorem xp{e:Env}(hf: ∀c∈S.g,c.ok e){lo:Option Operand}{l:Option ab}(h:xn N S lo=some l):Ac G (S.den G N B e) lo (mC e l):=by
 unfold xn at h
 split at h
 ·cases h;trivial
 ·split at h
  ·rename_i y k af
   cases h;exact⟨k,by rw[bE hf,jx af,lP af]⟩
  ·cases h
theorem SC{t:TypeId}{x:Operand}{lo hi:Option Operand}{r:dt}(an:o.op= .slice t x lo hi none)(h:DY P N S t (S.aZ N x) lo hi=some r):il P G N B M o S r:=fun e hf hx hn=>by
 unfold DY at h
 split at h
 ·rename_i l h' ar bb
  split at h
  ·rename_i af
   split at h
   ·rename_i aI
    cases h
    have aH:Env.at e S.k=_:=hx 0 _ rfl
    simp only[ab.den,aH,bJ.den,cA];refine zdJ _ an (uH aI) ((bE hf x).trans (fW af)) (xp hf ar) (xp hf bb) ?_
    cases l<;>cases h'<;>first|trivial|exact hn _ (List.mem_singleton.2 rfl)
   ·cases h
  ·rename_i c af
   split at h
   ·rename_i n lQ
    split at h
    ·rename_i ad
     cases h;rw[Nat.eq_of_beq_eq_true ad]at lQ
     have aH:Env.at e S.k=_:=hx 0 _ rfl
     simp only[ab.den,aH,bJ.den,cA];refine(Sk c _ an lQ ((bE hf x).trans (fW af)) (xp hf ar) (xp hf bb) ?_).v
     cases l<;>cases h'<;>first|trivial|exact hn _ (List.mem_singleton.2 rfl)
    ·cases h
   ·cases h
  ·cases h
 ·cases h
theorem zd9{src dst:TypeId}{x:Operand}{r:dt}(an:o.op= .convert src dst x)(h:K2 P S src dst (S.aZ N x)=some r):il P G N B M o S r:=fun e hf hx hn=>by
 unfold K2 at h
 split at h
 ·rename_i id bd
  unfold Sx at h
  split at h
  ·rename_i bz y el ah ai
   split at h
   ·rename_i hu hd
    cases h;refine qB (f:=.cO) (hx 0 _ rfl) (Kv src dst el x an ai hu hd (l:=y.aA e (.li .u8)) ?_)
    rw[bE hf,bd];simp only[ab.den,fr,aq.den,ef,ah,Option.map_some,bC.den];rfl
   ·cases h
  ·cases h
 rename_i An
 split at h
 ·rename_i k af
  split at h
  ·rename_i ai hd
   cases h;exact qB (f:=.o7 k _) (hx 0 _ rfl) (Rj src dst x an (by rw[ai];rfl) hd ((bE hf x).trans (jx af)))
  ·cases h
 ·rename_i af
  split at h
  ·rename_i el ai
   split at h
   ·rename_i hu hd
    cases h;refine qB (f:=.cO) (hx 0 _ rfl) (Kv src dst el x an ai hu hd (l:=(S.aZ N x).aA e (.li .u8)) ?_)
    rw[bE hf,fW af];rfl
   ·cases h
  ·cases h
 ·cases h
theorem zea{op:UnOp}{t:TypeId}{x:Operand}{r:dt}(an:o.op= .unOp op t x)(h:K3 S op (S.aZ N x)=some r):il P G N B M o S r:=fun e hf hx hn=>by
 unfold K3 at h
 split at h
 ·rename_i af
  cases h;exact qB (f:=.nj) (hx 0 _ rfl) (QS t x an ((bE hf x).trans (fW af)))
 ·rename_i k af
  cases h;exact qB (f:=.z1 k) (hx 0 _ rfl) (QT t x an ((bE hf x).trans (jx af)))
 ·rename_i k af
  cases h
  have fN:aL G (S.den G N B e) x=_:=(bE hf x).trans (jx af)
  exact qB (f:=.ux k) (hx 0 _ rfl) fun _ bc w β ro h=>⟨_,by simp[execOp,an,h.ec fN,Op.unary,Op.intBits,gF.den,aM.iV],.fz rfl⟩
 ·cases h
theorem zeb{t:TypeId}{ps:Array (Nat × Operand)}{r:dt}(an:o.op= .build t ps)(h:K4 P N S t ps.toList=some r):il P G N B M o S r:=fun e hf hx hn=>by
 unfold K4 at h
 split at h
 ·rename_i pl zs ry aQ
  split at h
  ·rename_i ad
   simp only[Bool.and_eq_true]at ad
   split at h
   ·rename_i ds hd
    cases h
    have aa:=DT (G:=G) (e:=e) ad.2 hd
    have ae:ab.bQ G e (zs.map .cs)=zs.map fun z=>.av (.v z):=by rw[e6,List.map_map];rfl
    rw[ae]at aa
    have au:(ps.toList.map fun p=>(p.1,aL G (S.den G N B e) p.2))=(ps.toList.map fun p=>(p.1,S.aZ N p.2)).map fun p=>(p.1,p.2.den G e):=by
     rw[List.map_map];exact List.map_congr_left fun p _=>by simp[bE hf]
    refine Rc t ps an ry aQ ad.1 au ?_ aa
    rw[List.all_map];refine List.all_eq_true.2 fun p ak=>?_
    have:=List.all_eq_true.1 ad.2 p ak
    simp only[Function.comp];rw[u6 this];exact xj this
   ·cases h
  ·cases h
 ·cases h
theorem zec{t:TypeId}{x:Operand}{f:Nat}{r:dt}(an:o.op= .field t x f)(h:K5 P t (S.aZ N x) f=some r):il P G N B M o S r:=fun e hf hx hn=>by
 unfold K5 at h
 split at h
 ·rename_i l off ar ak
  split at h
  ·rename_i v aw
   cases h;exact Q7 t x f an ak (by rw[bE hf,ar];rfl) (D3 aw)
  ·cases h
 ·rename_i l off n ar ak
  split at h
  ·rename_i ad
   cases h
   have:=Q8 t x f an ak (s:=S.den G N B e) (G:=G) (cs:=ab.bQ G e l) (by rw[bE hf,ar];rfl) (by rw[me];exact Nat.le_of_ble_eq_true ad)
   simp only[ab.den];rw[e6,List.map_take,List.map_drop,←e6];exact this
  ·cases h
 ·cases h
theorem zed{b:Builtin}{x y:Operand}{ts:Array TypeId}{r:dt}(an:o.op= .call {callee:=.builtin b,args:=#[x,y],argTypes:=ts})(h:K6 S b (S.aZ N x) (S.aZ N y)=some r):il P G N B M o S r:=fun e hf hx hn=>by
 unfold K6 at h
 split at h
 ·rename_i k bk aa ae
  split at h
  ·rename_i aj
   cases h
   have aj:=of_decide_eq_true aj
   subst aj;exact qA (f:=.uy k) (hx 0 _ rfl) (Rk x y ts an ((bE hf x).trans (jx aa)) ((bE hf y).trans (jx ae)))
  ·cases h
 ·rename_i k bk aa ae
  split at h
  ·rename_i aj
   cases h
   have aj:=of_decide_eq_true aj
   subst aj;exact qA (f:=.mx k) (hx 0 _ rfl) (Rl x y ts an ((bE hf x).trans (jx aa)) ((bE hf y).trans (jx ae)))
  ·cases h
 ·cases h
theorem zee{t:TypeId}(h:DZ P t=true): ∃gN i,P.underlying t=some (.pointer gN)∧P.info? gN=some i∧i.size≠0:=by
 unfold DZ at h
 split at h
 ·rename_i e hu
  cases hi:P.info? e with
  |none=>rw[hi]at h;cases h
  |some i=>
   rw[hi]at h;simp only[Option.isSome_some,Bool.true_and,Option.map_some]at h;refine⟨e,i,hu,hi,fun aQ=>?_⟩
   rw[aQ]at h;cases h
 ·cases h
theorem Lh{id:Nat}{e:Env}(h:Ak S id=true): ∃t cs,aE (S.den G N B e).heap id=some (.box t cs):=by
 unfold Ak at h
 split at h
 ·rename_i t l ah
  exact⟨t,ab.bQ G e l,by simp only[aq.den,ef,ah,Option.map_some,bC.den]⟩
 ·cases h
theorem SD{s:aP}{b:Bool}{g:ab}{r:dt}{e:Env}(h:D0 S b g=some r)(hx: ∀(j:Nat) (x:bJ),r.xs[j]? =some x→Env.at e (S.k+j)=x.den M e)(ai:cN P G o s (.av (.v (.bool (bif b then g.aA e .bool else !(g.aA e .bool)))))):cN P G o s (r.v.den G e):=by
 unfold D0 at h
 split at h
 ·rename_i af
  cases h
  have:=fW (G:=G) (e:=e) af
  show cN P G o s (g.den G e);rw[this];exact ai
 ·rename_i af
  cases h;exact qB (f:=.nj) (hx 0 _ rfl) ai
 ·cases h
theorem zef{tp gN:TypeId}{j:TypeInfo}(w:World)(a:Addr)(ak:P.underlying tp=some (.pointer gN))(zeg:P.info? gN=some j):(Op.equal tp (.pointer (some a)) (.pointer (some a))).run P w= .ok true w:=by
 have h: ∀d:Nat,(Op.equalIn (d+1) tp (.pointer (some a)) (.pointer (some a))).run P w= .ok true w:=fun d=>by
  simp[Op.equalIn,run_underlying ak,sizeOf,typeInfo,zeg,run_sameAddr_same]
 exact h 9999
theorem eq_nil{tp gN:TypeId}(w:World)(q:Option Addr)(ak:P.underlying tp=some (.pointer gN)):(Op.equal tp (.pointer none) (.pointer q)).run P w= .ok q.isNone w:=by
 have h: ∀d:Nat,(Op.equalIn (d+1) tp (.pointer none) (.pointer q)).run P w= .ok q.isNone w:=fun d=>by
  cases q<;>simp[Op.equalIn,run_underlying ak]
 exact h 9999
theorem D6{s:aP}{op:BinOp}{cw ty:TypeId}{x y:Operand}{b c:Bool}(an:o.op= .binOp op cw x y ty)(aI:DZ P cw=true)(ad:K7 op=some b)
 (h: ∀E a w β ro,c5 E G s a w β ro→∃p q,a.eval x= .pointer p∧a.eval y= .pointer q∧((q=none∧c=p.isNone)∨(p=none∧c=q.isNone)∨(∃cY,p=some cY∧q=some cY∧c=true))):cN P G o s (.av (.v (.bool (bif b then c else !c)))):=
 fun E a w β ro af=>by
  obtain⟨gN,i,hu,hi,bP⟩:=zee aI;obtain⟨p,q,aa,ae,au⟩:=h E a w β ro af;refine⟨.bool (bif b then c else !c),?_,.fz rfl⟩
  have zeh:P.underlying cw=some (.pointer (P.pointee cw)):=by rw[hu];simp[Program.pointee,hu]
  have heq:(Op.equal cw (.pointer p) (.pointer q)).run P w= .ok c w:=by
   rcases au with⟨rfl,rfl⟩|⟨rfl,rfl⟩|⟨cY,rfl,rfl,rfl⟩
   ·exact run_equal_pointer_nil w cw p zeh
   ·exact eq_nil w q hu
   ·exact zef w cY hu hi
  unfold K7 at ad
  split at ad
  ·cases ad
   have:(binOp .eql cw (.pointer p) (.pointer q)).run P w= .ok (.bool c) w:=by
    simp only[binOp];simp[heq]
   simp[execOp,an,aa,ae,eqGuard_at_pointer,this]
  ·cases ad
   have:(binOp .neq cw (.pointer p) (.pointer q)).run P w= .ok (.bool (!c)) w:=by
    simp only[binOp];simp[heq]
   simp[execOp,an,aa,ae,eqGuard_at_pointer,this]
  ·cases ad
theorem Ao{E:Entry}{s:aP}{a:Act}{w:World}{β:Nat→Value}{ro:Nat→Prop}{x:Operand}(af:c5 E G s a w β ro)(hx:aL G s x= .av (.v (.pointer none))):a.eval x= .pointer none:=af.ec hx
theorem tf{E:Entry}{s:aP}{a:Act}{w:World}{β:Nat→Value}{ro:Nat→Prop}{x:Operand}{id off:Nat}{t:TypeId}{cs:List aD}(af:c5 E G s a w β ro)(hx:aL G s x= .ptr id off)(ah:aE s.heap id=some (.box t cs)):
 ∃b,β id= .pointer (some ⟨b,0,none⟩)∧a.eval x= .pointer (some ⟨b,off,none⟩):=by
 have h:=af.eval x
 rw[hx]at h
 generalize hc:a.eval x=c at h
 cases h with
 |ptr _ _ _ ar ak=>exact ak _ _ ah
theorem zei{op:BinOp}{cw ty:TypeId}{x y:Operand}{r:dt}(an:o.op= .binOp op cw x y ty)(h:K8 P S op cw (S.aZ N x) (S.aZ N y)=some r):il P G N B M o S r:=fun e hf hx hn=>by
 unfold K8 at h
 split at h
 rotate_left
 ·cases h
 rename_i b aI ad
 split at h
 ·rename_i aa ae
  cases h
  have:=D6 (G:=G) (s:=S.den G N B e) (c:=true) an aI ad fun E a w β ro af=>⟨none,none,Ao af (by rw[bE hf,aa];rfl),Ao af (by rw[bE hf,ae];rfl),.inl ⟨rfl,rfl⟩⟩
  cases b<;>exact this
 ·rename_i i q j q' aa ae
  split at h
  ·rename_i hc
   cases h;simp only[Bool.and_eq_true]at hc;obtain⟨⟨aU,da⟩,c9⟩:=hc
   have aU:=Nat.eq_of_beq_eq_true aU
   have da:=Nat.eq_of_beq_eq_true da
   subst aU da;obtain⟨bt,cs,ah⟩:=Lh (G:=G) (N:=N) (B:=B) (e:=e) c9
   have:=D6 (G:=G) (s:=S.den G N B e) (c:=true) an aI ad fun E a w β ro af=>by
    obtain⟨gU,g1,g2⟩:=tf af (by rw[bE hf,aa];rfl) ah
    obtain⟨jo,g3,g4⟩:=tf af (by rw[bE hf,ae];rfl) ah
    rw[g1]at g3
    cases g3
    exact⟨_,_,g2,g4,.inr (.inr ⟨_,rfl,rfl,rfl⟩)⟩
   cases b<;>exact this
  ·cases h
 ·rename_i g i off aa ae
  split at h
  ·rename_i hc
   obtain⟨bt,cs,ah⟩:=Lh (G:=G) (N:=N) (B:=B) (e:=e) hc;refine SD h hx ?_
   have:=D6 (G:=G) (s:=S.den G N B e) (c:=!(g.aA e .bool)) an aI ad fun E a w β ro af=>by
    have tU:a.eval y= .pointer none:=Ao af (by rw[bE hf,ae];rfl)
    have hd:aL G (S.den G N B e) x=(ab.fg g (some i) off).den G e:=by rw[bE hf,aa]
    simp only[ab.den]at hd
    cases th:g.aA e .bool with
    |true=>
     rw[th]at hd;obtain⟨gU,g1,g2⟩:=tf af hd ah;exact⟨_,_,g2,tU,.inl ⟨rfl,rfl⟩⟩
    |false=>
     rw[th]at hd;exact⟨_,_,Ao af hd,tU,.inl ⟨rfl,rfl⟩⟩
   cases b<;>simpa using this
  ·cases h
 ·rename_i g i q j q' aa ae
  split at h
  ·rename_i hc
   simp only[Bool.and_eq_true]at hc;obtain⟨⟨aU,da⟩,c9⟩:=hc
   have aU:=Nat.eq_of_beq_eq_true aU
   have da:=Nat.eq_of_beq_eq_true da
   subst aU da;obtain⟨bt,cs,ah⟩:=Lh (G:=G) (N:=N) (B:=B) (e:=e) c9;refine SD h hx ?_
   refine D6 (G:=G) (s:=S.den G N B e) (c:=g.aA e .bool) an aI ad fun E a w β ro af=>?_
   obtain⟨jo,g3,g4⟩:=tf af (by rw[bE hf,ae];rfl) ah
   have hd:aL G (S.den G N B e) x=(ab.fg g (some i) q).den G e:=by rw[bE hf,aa]
   simp only[ab.den]at hd
   cases th:g.aA e .bool with
   |true=>
    rw[th]at hd;obtain⟨gU,g1,g2⟩:=tf af hd ah;rw[g1]at g3
    cases g3
    exact⟨_,_,g2,g4,.inr (.inr ⟨_,rfl,rfl,rfl⟩)⟩
   |false=>
    rw[th]at hd;exact⟨_,_,Ao af hd,g4,.inr (.inl ⟨rfl,rfl⟩)⟩
  ·cases h
 ·cases h
theorem SE{E:Entry}{s:aP}{a:Act}{w:World}{β:Nat→Value}{ro:Nat→Prop}{id off b:Nat}{t:TypeId}{cs:List aD}(af:c5 E G s a w β ro)(ah:aE s.heap id=some (.box t cs))(ad:β id= .pointer (some ⟨b,0,none⟩))(ar:off<cs.length):
 ∃arr v,w.heap[b]? =some (.cells arr t (0,0))∧arr.size=cs.length∧w.cell? ⟨b,off,none⟩=some v:=by
 have dk:=af.heap.c7 id _ ah
 cases dk with
 |box _ _ b' arr aa ae au aR=>
  rw[ad]at aa;simp only[Value.pointer.injEq,Option.some.injEq,Addr.mk.injEq,and_true]at aa;subst aa;refine⟨arr,arr[off]'(by omega),ae,au,?_⟩
  have bI:off<arr.size:=by omega
  simp[World.cell?,ae,bI]
theorem zej{src dst:TypeId}{x:Operand}{r:dt}(an:o.op= .convert src dst x)(h:K9 P S src dst (S.aZ N x)=some r):il P G N B M o S r:=fun e hf hx hn=>by
 unfold K9 at h
 split at h
 rotate_left
 ·cases h
 rename_i id off aw
 have hd:aL G (S.den G N B e) x= .ptr id off:=by rw[bE hf,aw];rfl
 split at h
 ·rename_i bt l t ah ai qq
  split at h
  ·rename_i aQ bI
   cases h;rw[aw]
   have bb:aE (S.den G N B e).heap id=some (.box bt (ab.bQ G e l)):=by simp only[aq.den,ef,ah,Option.map_some,bC.den]
   intro E a w β ro af;obtain⟨b,ad,he⟩:=tf af hd bb;obtain⟨arr,v,_,_,hc⟩:=SE (off:=off) af bb ad (by rw[me];exact e7 bI)
   refine⟨.pointer (some ⟨b,off,none⟩),?_,by have:=af.eval x;rw[hd,he]at this;exact this⟩
   simp only[execOp,an,he,Sem.run_bind,run_convert_to_unsafe ai qq aQ hc,Result.andThen_ok,Sem.run_pure]
  ·cases h
 ·rename_i bt l u ah ai qq
  split at h
  ·rename_i xq bI
   cases h;rw[aw]
   have bb:aE (S.den G N B e).heap id=some (.box bt (ab.bQ G e l)):=by simp only[aq.den,ef,ah,Option.map_some,bC.den]
   intro E a w β ro af;obtain⟨b,ad,he⟩:=tf af hd bb;obtain⟨arr,v,eW,bP,hc⟩:=SE (off:=off) af bb ad (by rw[me];exact e7 bI)
   refine⟨.pointer (some ⟨b,off,none⟩),?_,by have:=af.eval x;rw[hd,he]at this;exact this⟩
   rw[me]at bP
   have SF:w.shape? b=some (bt,l.length):=by simp[World.shape?,eW,bP]
   have zek:(convert src dst (.pointer (some ⟨b,off,none⟩))).run P w= .ok (.pointer (some ⟨b,off,none⟩)) w:=by
    rw[Bool.and_eq_true]at xq;obtain⟨i,hi⟩:=Option.isSome_iff_exists.1 xq.2
    have xq:=xq.1
    by_cases aQ:i.size=0
    ·simp[convert,Conv.unsafePointer,Conv.seenAt,viewAt,variablesAt,sizeOf,typeInfo,run_underlying ai,run_underlying qq,hi,aQ,SF,xq,Result.andThen]
    ·simp[convert,Conv.unsafePointer,Conv.seenAt,viewAt,variablesAt,sizeOf,typeInfo,run_underlying ai,run_underlying qq,hi,aQ,SF,xq,Result.andThen]
   simp only[execOp,an,he,Sem.run_bind,zek,Result.andThen_ok,Sem.run_pure]
  ·cases h
 ·cases h
theorem zel{t:TypeId}{x:Operand}{r:dt}(an:o.op= .slice t x none none none)(h:La P S t (S.aZ N x)=some r):il P G N B M o S r:=fun e hf hx hn=>by
 unfold La at h
 split at h
 ·rename_i id n el aw aI
  split at h
  ·rename_i bt l ah hc
   cases h;simp only[Bool.and_eq_true]at hc
   have jr:=e7 hc.1
   obtain⟨ziH,m4⟩:=Option.isSome_iff_exists.1 hc.2
   have hd:aL G (S.den G N B e) x= .ptr id 0:=by rw[bE hf,aw];rfl
   have bb:aE (S.den G N B e).heap id=some (.box bt (ab.bQ G e l)):=by simp only[aq.den,ef,ah,Option.map_some,bC.den]
   intro E a w β ro af;obtain⟨b,ad,he⟩:=tf af hd bb
   have dS:=af.eval x
   rw[hd,he]at dS
   have bI:id<(S.den G N B e).next:=by cases dS with|ptr _ _ _ ar _=>exact ar
   refine⟨.slice (some ⟨b,0,none⟩) n n,?_,.dA _ _ _ bI fun _ _ _=>⟨b,ad,rfl⟩⟩
   have b5: ¬n=0:=by omega
   simp[execOp,an,he,Instr.sliceAt,run_underlying aI,Instr.sureAddr,Instr.sliceBounds,sizeOf,typeInfo,m4,b5,addLit,Result.andThen]
  ·cases h
 ·cases h
theorem SG{e:Env}: ∀{l:List ab},mD e .u8 (l.map fun x=>.ch [x])=l.map fun x=>x.aA e (.int .u8)
 |[]=>rfl
 |x::r=>by
  simp only[List.map_cons,mD,SG (l:=r)];rfl
theorem SH{e:Env}: ∀{l:List ab},l.all (ab.ew (.int .u8))=true→ab.bQ G e l=(l.map fun x=>x.aA e (.int .u8)).map fun n=>aD.av (.v (.int .u8 n))
 |[],_=>rfl
 |x::r,h=>by
  simp only[List.all_cons,Bool.and_eq_true]at h;simp only[ab.bQ,List.map_cons,DB h.1,SH h.2]
theorem zem{src dst:TypeId}{x:Operand}{r:dt}(an:o.op= .convert src dst x)(h:Lb P S src dst (S.aZ N x)=some r):il P G N B M o S r:=fun e hf hx hn=>by
 unfold Lb at h
 split at h
 ·rename_i id n el aw ai
  split at h
  ·rename_i bt l ah hu qq
   split at h
   ·rename_i hc
    cases h;simp only[Bool.and_eq_true]at hc
    have jr:=Nat.eq_of_beq_eq_true hc.1
    have aH:=hx 0 _ rfl
    have aa:=hx 1 _ rfl
    simp only[Nat.add_zero,bJ.den,gF.den,gF.a,gF.c]at aH aa
    have ar:(ab.aV (.li .u8) S.k).aA e (.li .u8)=l.map fun x=>x.aA e (.int .u8):=by
     simp only[ab.aA,ab.fo,ab.dyn,aH,cA];exact SG
    rw[ar]at aa;simp only[ab.den,aa,cA,fC,ke];generalize hm:(l.map fun x=>x.aA e (.int .u8))=m
    have nu:m.length=n:=by rw[←hm,List.length_map,jr]
    have hd:aL G (S.den G N B e) x= .dA id n:=by rw[bE hf,aw];rfl
    have bb:aE (S.den G N B e).heap id=some (.box bt (m.map fun n=>.av (.v (.int .u8 n)))):=by
     simp only[aq.den,ef,ah,Option.map_some,bC.den];rw[SH hc.2,hm]
    intro E a w β ro af
    have dS:=af.eval x
    rw[hd]at dS;generalize iN:a.eval x=c at dS
    cases dS with
    |dA _ _ _ ar ak=>
     obtain⟨b,ad,rfl⟩:=ak _ _ bb
     have eW: ∀(j:Nat) (v:Value),(m.map (Value.int .u8))[j]? =some v→w.cell? ((⟨b,0,none⟩:Addr).add j)=some v:=fun j v ag=>by
      have dk:=af.heap.c7 id _ bb
      cases dk with
      |box _ _ b' arr g1 g2 g3 g4=>
       rw[ad]at g1;simp only[Value.pointer.injEq,Option.some.injEq,Addr.mk.injEq,and_true]at g1;subst g1;rw[List.getElem?_map]at ag
       obtain⟨z,aQ,rfl⟩:=Option.map_eq_some_iff.1 ag
       have bI:j<arr.size:=by rw[g3,List.length_map];exact(List.getElem?_eq_some_iff.1 aQ).1
       have D7:=g4 j (.av (.v (.int .u8 z))) (by rw[List.getElem?_map,aQ];rfl)
       rw[Array.getD_eq_getD_getElem?,Array.getElem?_eq_getElem bI,Option.getD_some]at D7
       have zen:arr[j]= .int .u8 z:=bs.val D7
       rw[addLit,Nat.zero_add];simp[World.cell?,g2,bI,zen]
     have Dc:=run_loadCells_list (P:=P) (w:=w) ⟨b,0,none⟩ (m.map (Value.int .u8)) eW
     refine⟨.string (bytesOf m),?_,.fz rfl⟩
     have cp:(convert src dst (.slice (some ⟨b,0,none⟩) n n)).run P w= .ok (.string (bytesOf m)) w:=by
      rw[run_convert_bytes_string w src dst el (some ⟨b,0,none⟩) n n ai hu qq,←nu];exact run_bytesToString w ⟨b,0,none⟩ m.length m.length m (by simpa using Dc)
     simp[execOp,an,iN,cp]
   ·cases h
  ·cases h
 ·cases h
theorem D8{G:a8}{e:Env}: ∀{l:List ab} {rs:List aW},pr l=some rs→ab.bQ G e l=(fR e rs l).map fun d=>.av d.av
 |[],_,h=>by cases h;rfl
 |x::r,_,h=>by
  simp only[pr]at h
  split at h
  ·rename_i t l aa ae
   cases h;simp only[ab.bQ,fW aa,D8 ae,fR,List.map_cons];rfl
  ·cases h
theorem SI{t:TypeId}(h:D1 P t=false): ∃d,P.underlying t=some d∧∀m,d≠ .interface m:=by
 unfold D1 at h
 split at h
 ·cases h
 ·cases h
 ·rename_i d hd hn
  cases hu:P.underlying t with
  |none=>exact absurd hu hn
  |some d=>exact⟨d,rfl,fun m e=>hd m (by rw[hu,e])⟩
theorem zeo{w:World}{ro:Nat→Prop}{σ:Heap}{β:Nat→Value}{M:Nat}{t:TypeId}{ys:List a6}{c:Value}(h:bs w ro σ β M (.agg (ys.map .av)) c):cP w ro (.ep t true ys) (.iface t c):=by
 generalize aQ:ys.map aD.av=zs at h
 cases h with
 |agg _ arr aa ae=>
  subst aQ;refine .ep t true ys _ (fun i=>arr.getD i undef) ⟨arr,rfl,by rw[aa,List.length_map],fun i _=>rfl⟩ fun i x hx=>?_
  have:=ae i (.av x) (by rw[List.getElem?_map,hx];rfl)
  cases this with
  |av _ _ q=>exact q
theorem SJ{w:World}{ro:Nat→Prop}{σ:Heap}{β:Nat→Value}{M:Nat}{t:TypeId}{ys:List a6}{c:Value}(h:cP w ro (.ep t true ys) (.iface t c)):bs w ro σ β M (.agg (ys.map .av)) c:=by
 cases h with
 |ep _ _ _ _ p aa ae=>
  obtain⟨arr,rfl,au,aR⟩:=aa;refine .agg _ arr (by rw[au,List.length_map]) fun j x ag=>?_
  rw[List.getElem?_map]at ag
  obtain⟨y,ax,rfl⟩:=Option.map_eq_some_iff.1 ag
  have ar:=(List.getElem?_eq_some_iff.1 ax).1
  rw[aR j ar];exact .av _ _ (ae j y ax)
theorem zep{t:TypeId}{x:Operand}{r:dt}(an:o.op= .makeInterface t x)(h:Lc P t (S.aZ N x)=some r):il P G N B M o S r:=fun e hf hx hn=>by
 unfold Lc at h
 split at h
 ·cases h
 rename_i hi
 obtain⟨d,hd,eP⟩:=SI hi
 have cp: ∀(v:Value) (w:World),(Instr.makeInterface t v).run P w= .ok (.iface t v) w:=fun v w=>by
  unfold Instr.makeInterface
  cases d<;>first|exact absurd rfl (eP _)|simp[run_underlying hd,Result.andThen]
 split at h
 ·rename_i l aw
  split at h
  ·rename_i rs gL
   cases h;intro E a w β ro af
   have dS:=af.eval x
   rw[bE hf,aw]at dS;simp only[ab.den,D8 gL]at dS;rw[show((fR e rs l).map fun d=>aD.av d.av)=((fR e rs l).map aF.av).map .av by rw[List.map_map];rfl]at dS
   exact⟨_,by simp[execOp,an,cp],.av _ _ (zeo dS)⟩
  ·cases h
 ·rename_i D9
  split at h
  ·rename_i rt Am
   cases h;intro E a w β ro af
   have dS:=af.eval x
   rw[bE hf,fW Am]at dS;refine⟨_,by simp[execOp,an,cp];rfl,?_⟩
   cases dS with
   |av _ _ q=>
    refine .av _ _ (.ep t false _ _ (fun _=>a.eval x) ⟨rfl,rfl⟩ fun i y ax=>?_)
    cases i with
    |zero=>
     simp only[fR,List.map_cons,List.map_nil,List.getElem?_cons_zero,Option.some.injEq]at ax
     subst ax;exact q
    |succ i=>simp[fR]at ax
  ·cases h
theorem zeq{e:Env}{x:Operand}{u:TypeId}{ch:Bool}{rs:List aW}{l:List ab}{y:ab}(hf: ∀c∈S.g,c.ok e)(aw:S.aZ N x= .ep u ch rs l)(ax:rR ch l=some y)(gL:pr l=some rs){E:Entry}{a:Act}{w:World}{β:Nat→Value}{ro:Nat→Prop}(af:c5 E G (S.den G N B e) a w β ro):
 ∃v,a.eval x= .iface u v∧bs w ro (S.den G N B e).heap β (S.den G N B e).next (y.den G e) v:=by
 have dS:=af.eval x
 rw[bE hf,aw]at dS
 simp only[ab.den]at dS
 generalize hc:a.eval x=o7 at dS
 cases dS with
 |av _ _ q=>
  cases q with
  |ep _ _ _ v p aa ae=>
   refine⟨v,rfl,?_⟩
   unfold rR at ax
   split at ax
   ·cases ax
    have:=SJ (σ:=(S.den G N B e).heap) (β:=β) (M:=(S.den G N B e).next) (.ep u _ _ v p aa ae)
    rw[List.map_map]at this;simp only[ab.den,D8 gL];exact this
   ·rename_i ao
    cases ax;simp only[pr]at gL
    split at gL
    ·rename_i zer qx sO vN
     cases vN
     cases gL;rw[fW sO];obtain⟨_,rfl⟩:=aa;exact .av _ _ (ae 0 _ rfl)
    ·cases gL
   ·cases ax
theorem zes{k:Nat}{ch:Bool}{l:List ab}{y:ab}(h:ab.cK k l=true)(ax:rR ch l=some y):y.lt k=true:=by
 unfold rR at ax
 split at ax
 ·cases ax;exact h
 ·cases ax;simp only[ab.cK,Bool.and_true]at h;exact h
 ·cases ax
theorem zet{x:Operand}{ti t:TypeId}{c:Bool}{r:dt}(an:o.op= .typeAssert x ti t c)(h:Le P t (S.aZ N x) c=some r):il P G N B M o S r:=fun e hf hx hn=>by
 unfold Le at h
 split at h
 rotate_left
 ·cases h
 rename_i u ch rs l aw hi
 obtain⟨d,hd,eP⟩:=SI hi
 have aE: ∀{E:Entry} {a:Act} {w:World} {β:Nat→Value} {ro:Nat→Prop},c5 E G (S.den G N B e) a w β ro→∃v,a.eval x= .iface u v∧cP w ro (.ep u ch ((fR e rs l).map aF.av)) (.iface u v):=fun {E a w β ro} af=>by
  have dS:=af.eval x
  rw[bE hf,aw]at dS;simp only[ab.den]at dS;generalize hc:a.eval x=o7 at dS
  cases dS with
  |av _ _ q=>
   cases q with
   |ep _ _ _ v p aa ae=>exact⟨v,rfl,.ep _ _ _ v p aa ae⟩
 have sQ: ∀{y:ab} {w:World} {β:Nat→Value} {ro:Nat→Prop} {v:Value},rR ch l=some y→pr l=some rs→cP w ro (.ep u ch ((fR e rs l).map aF.av)) (.iface u v)→bs w ro (S.den G N B e).heap β (S.den G N B e).next (y.den G e) v:=fun {y w β ro v} ax gL q=>by
  unfold rR at ax
  split at ax
  ·cases ax
   have:=SJ (σ:=(S.den G N B e).heap) (β:=β) (M:=(S.den G N B e).next) q
   rw[List.map_map]at this;simp only[ab.den,D8 gL];exact this
  ·rename_i ao
   cases ax;simp only[pr]at gL
   split at gL
   ·rename_i zer qx aa ae
    cases ae;cases gL;rw[fW aa]
    cases q with
    |ep _ _ _ _ p g1 g2=>
     obtain⟨_,rfl⟩:=g1;exact .av _ _ (g2 0 _ rfl)
   ·cases gL
  ·cases ax
 have SK: ∀(v:Value) (w:World),u=t→(Instr.typeAssert (.iface u v) ti t c).run P w= .ok (match c with|true=>.tuple #[v,.bool true]|false=>v) w:=fun v w vc=>by
  unfold Instr.typeAssert
  cases d<;>first|exact absurd rfl (eP _)|(cases c<;>simp[run_underlying hd,Result.andThen,vc])
 split at h
 ·rename_i ad _
  have vc:=Nat.eq_of_beq_eq_true ad
  split at h
  ·rename_i y ax gL
   cases h;intro E a w β ro af;obtain⟨v,dS,q⟩:=aE af;refine⟨.tuple #[v,.bool true],by simp[execOp,an,dS,SK v w vc],.tuple _ _ rfl fun j z ag=>?_⟩
   match j,ag with
   |0,ag=>simp[ab.den,ab.bQ]at ag;subst ag;exact sQ ax (of_decide_eq_true gL) q
   |1,ag=>simp[ab.den,ab.bQ]at ag;subst ag;exact .fz rfl
   |j+2,ag=>simp[ab.den,ab.bQ]at ag
  ·cases h
 ·rename_i ad _
  have vc:=Nat.eq_of_beq_eq_true ad
  split at h
  ·rename_i y ax gL
   cases h;intro E a w β ro af;obtain⟨v,dS,q⟩:=aE af;exact⟨v,by simp[execOp,an,dS,SK v w vc],sQ ax (of_decide_eq_true gL) q⟩
  ·cases h
 ·rename_i ad _
  have vc: ¬u=t:=fun e=>by subst e;rw[show Nat.beq u u=true from Nat.beq_refl u]at ad;cases ad
  split at h
  ·rename_i z aQ
   split at h
   ·rename_i ni
    cases h;intro E a w β ro af;obtain⟨v,dS,q⟩:=aE af
    have Dt:(zeroValue t).run P w= .ok z w:=by
     cases hi:P.info? t with
     |none=>rw[hi]at aQ;cases aQ
     |some i=>
      rw[hi]at aQ
      have o9:i.zero=some z:=aQ
      simp[zeroValue,typeInfo,hi,o9]
    have cp:(Instr.typeAssert (.iface u v) ti t true).run P w= .ok (.tuple #[z,.bool false]) w:=by
     unfold Instr.typeAssert
     cases d<;>first|exact absurd rfl (eP _)|simp[run_underlying hd,Result.andThen,vc,Dt]
    have zeu:(Ld z).den G e=nh z:=by
     clear cp Dt ni aQ
     cases z with
     |agg a=>
      simp only[Ld,nh,ab.den,e6,List.map_map];rfl
     |_=>rfl
    refine⟨.tuple #[z,.bool false],by simp[execOp,an,dS,cp],.tuple _ _ rfl fun j y ag=>?_⟩
    match j,ag with
    |0,ag=>simp[ab.den,ab.bQ]at ag;subst ag;rw[zeu];exact Kp ni
    |1,ag=>simp[ab.den,ab.bQ]at ag;subst ag;exact .fz rfl
    |j+2,ag=>simp[ab.den,ab.bQ]at ag
   ·cases h
  ·cases h
 ·cases h
theorem vd{r:dt}(h:qD P N S o=some r):il P G N B M o S r:=by
 unfold qD at h
 split at h
 ·rename_i x an
  cases h;exact .nil fun e hf=>by have:=Qn (P:=P) (G:=G) (s:=S.den G N B e) x an;rw[bE hf]at this;exact this
 ·rename_i x an
  cases h;exact .nil fun e hf=>by have:=Qo (P:=P) (G:=G) (s:=S.den G N B e) x an;rw[bE hf]at this;exact this
 ·exact zd0 (by assumption) h
 ·rename_i x i an
  split at h
  ·rename_i l ar
   split at h
   ·rename_i v aw
    cases h;exact .nil fun e hf=>QU x i an (by rw[bE hf,ar];rfl) (D3 aw)
   ·cases h
  ·cases h
 ·rename_i x an
  split at h
  ·rename_i ak
   cases h
   exact .nil fun e hf=>by
    have:=Qt (P:=P) (G:=G) (s:=S.den G N B e) x an (by rw[bE hf];exact u7 ak)
    rw[bE hf]at this;exact this
  ·cases h
 ·rename_i t x f an
  split at h
  ·rename_i k aj ak
   split at h
   ·rename_i p ai
    cases h
    exact .nil fun e hf=>by
     have:=Qs (P:=P) (G:=G) (s:=S.den G N B e) t x f an aj (by rw[bE hf];exact u7 ak)
     rw[bE hf,Aj ai]at this;exact this
   ·cases h
  ·cases h
 ·exact zd7 (by assumption) h
 ·exact zec (by assumption) h
 ·exact zd6 (by assumption) h
 ·exact zd1 (by assumption) h
 ·split at h
  ·rename_i aJ
   cases h;exact zdS (by assumption) aJ
  ·exact zei (by assumption) h
 ·exact zea (by assumption) h
 ·split at h
  ·rename_i aJ
   cases h;exact zd9 (by assumption) aJ
  ·split at h
   ·rename_i aJ
    cases h;exact zej (by assumption) aJ
   ·exact zem (by assumption) h
 ·exact zeb (by assumption) h
 ·rename_i f p q an
  cases h
  exact .nil fun e hf=>by
   have:=zcY (P:=P) (G:=G) (s:=S.den G N B e) an
   simp only[ab.den];rw[e6,e6,List.map_map,List.map_map]
   have aa: ∀l:List Operand,l.map (aL G (S.den G N B e))=l.map (ab.den G e∘S.aZ N):=fun l=>List.map_congr_left fun x _=>bE hf x
   rw[aa,aa]at this;exact this
 ·exact zep (by assumption) h
 ·exact zet (by assumption) h
 ·exact zdX (by assumption) h
 ·split at h
  ·rename_i aJ
   cases h;exact SC (by assumption) aJ
  ·exact zel (by assumption) h
 ·exact SC (by assumption) h
 ·rename_i c an
  split at h
  ·rename_i x t hc hx aI
   obtain⟨callee,args,ts⟩:=c;simp only at hc hx aI;rw[hc,RO hx,RO aI]at an;exact zd8 an h
  ·rename_i b x y hc hx
   obtain⟨callee,args,ts⟩:=c;simp only at hc hx;rw[hc,zO hx]at an;exact zed an h
  ·rename_i f hc
   obtain⟨callee,args,ts⟩:=c;simp only at hc;rw[hc]at an;exact zd5 an rfl h
  ·cases h
 ·cases h
end
end Go.aM
