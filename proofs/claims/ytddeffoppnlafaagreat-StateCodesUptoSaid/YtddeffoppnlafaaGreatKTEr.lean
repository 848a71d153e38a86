/- The AV calculus, part Y: from data that is read to immutable values, and from a contract to what a row asks. Conditions: none. -/
import Derived.Test.YtddeffoppnlafaaGreatKSMz
import Derived.ProofKit
import Derived.LaidMore
import Derived.OpenShut
import Derived.MakeChecks
import Derived.ChangeArms
import Derived.ReadAgain
import Derived.ChangeBears
import Derived.Stop.Joined
import Derived.SizedLaws
import Derived.Test.YtddeffoppnlafaaGreatKTEk
import Derived.Test.YtddeffoppnlafaaGreatRows
namespace Go.aK
open Go Go.ChangeShapes Go.WideShapes Go.RowKit
inductive rb (P:Program):TypeId→List aU→Prop where
 |bool {t:TypeId} (b:Bool):P.underlying t=some .bool→rb P t [.v (.bool b)]
 |int {t:TypeId} {k:IntKind} (n:Int):P.underlying t=some (.int k)→(Lit.int k n).wf=true→rb P t [.v (.int k n)]
 |str {t:TypeId} (s:ByteArray):P.underlying t=some .string→s.size≤reachBytes→rb P t [.v (.string s)]
 |slice {t e:TypeId} (es:List (List aU)):P.underlying t=some (.slice e)→es.length≤maxLen∧es.length*P.bytesOf e≤reachBytes→(∀x∈es,rb P e x)→rb P t [.aq (P.cellsOf e) es]
 |struct {t:TypeId} {fs:Array Field} (parts:List (List aU)):P.underlying t=some (.struct fs)→parts.length=fs.toList.length→(∀(i:Nat) (f:Field) (p:List aU),fs.toList[i]? =some f→parts[i]? =some p→rb P f.type p)→rb P t parts.flatten
 |array {t e:TypeId} {n:Nat} (parts:List (List aU)):P.underlying t=some (.array n e)→parts.length=n→(∀p∈parts,rb P e p)→rb P t parts.flatten
theorem mapM_some{α β:Type}{f:α→Option β}: ∀{l:List α} {r:List β},l.mapM f=some r→r.length=l.length∧∀(i:Nat) (x:α),l[i]? =some x→∃y,f x=some y∧r[i]? =some y
 |[],r,h=>by
  simp at h;subst h;exact⟨rfl,by simp⟩
 |a::l,r,h=>by
  rw[List.mapM_cons]at h
  cases a6:f a with
  |none=>simp[a6]at h
  |some b=>
   cases av:l.mapM f with
   |none=>simp[a6,av]at h
   |some cE=>
    simp[a6,av]at h;subst h;obtain⟨ab,ae⟩:=mapM_some av;refine⟨by simp[ab],fun i x hx=>?_⟩
    cases i with
    |zero=>simp at hx;subst hx;exact⟨b,a6,rfl⟩
    |succ i=>simpa using ae i x (by simpa using hx)
section
variable {H:Type} {enc:TypeId × Value→H} {P:Program} {w:World}
abbrev ma(w:World):Nat→Prop:=fun b=>b<w.heap.size
theorem zhS{a:Addr}{c:Value}(h:w.cell? a=some c):a.block<w.heap.size:=by
 rcases Nat.lt_or_ge a.block w.heap.size with ab|ab
 ·exact ab
 ·exfalso
  have:w.heap[a.block]? =none:=Array.getElem?_eq_none ab
  simp[World.cell?,this]at h
def Fits(P:Program)(w:World)(t:TypeId)(cs:List Value):Prop:=∃rs,rb P t rs∧rs.length=cs.length∧∀j r,rs[j]? =some r→de w (ma w) r (cs.getD j undef)
theorem W1{base:Nat}{a:Addr}{n:Nat}{l:List Value}(h:w.cells? base a n=some l):l.length=n∧∀i,i<n→w.cell? (a.add i)=l[i]? :=by
 unfold World.cells? at h
 split at h
 ·obtain⟨ab,ae⟩:=mapM_some h
  refine⟨by simpa using ab,fun i hi=>?_⟩
  obtain⟨y,aA,av⟩:=ae i i (by simp[hi])
  rw[av,aA]
 ·cases h
theorem PC{e:TypeId}: ∀{l:List (DataW H)} {d:DataW H},d∈l→∀n∈d.weights P e,n∈DataW.weightsAll P e l
 |d0::l,d,hd,n,hn=>by
  simp only[DataW.weightsAll,List.mem_append]
  rcases List.mem_cons.1 hd with rfl|hd
  ·exact .inl hn
  ·exact .inr (PC hd n hn)
theorem Fits.one{t:TypeId}{v:Value}(h:Fits P w t v.cells.toList)(az:v.cells= #[v]){β:Nat→Value}{N:Nat}: ∃r,rb P t [r]∧bA w (ma w) [] β N (.ad r) v:=by
 obtain⟨rs,ab,ae,aw⟩:=h
 rw[az]at ae
 match rs,ae,ab,aw with
 |[r],_,ab,aw=>
  have:=aw 0 r rfl
  rw[az]at this;exact⟨r,ab,.ad _ _ (by simpa using this)⟩
def PD(P:Program)(t:TypeId):Option (List TypeId):=
 match P.underlying t with
 |some (.struct fs)=>some (fs.toList.map (·.type))
 |_=>none
def PE(P:Program)(t:TypeId):Bool:=
 match P.underlying t with
 |some .bool=>true
 |some (.int _)=>true
 |some .string=>true
 |some (.slice _)=>true
 |_=>false
theorem zhT{r:Reach}{pH:Nat}{t:TypeId}{v:Value}(h:Value.okWide P w r pH t v)(ao:PE P t=true):v.cells= #[v]:=by
 unfold PE at ao
 split at ao
 ·rename_i hu
  simp only[Value.okWide,hu,Cell.okWide,Cell.ok]at h
  cases v<;>first|rfl|exact h.elim
 ·rename_i hu
  simp only[Value.okWide,hu,Cell.okWide,Cell.ok]at h
  cases v<;>first|rfl|exact h.elim
 ·rename_i hu
  simp only[Value.okWide,hu,Cell.okWide,Cell.ok]at h
  cases v<;>first|rfl|exact h.elim
 ·rename_i hu
  simp only[Value.okWide,hu,Cell.okWide,Cell.ok]at h
  cases v<;>first|rfl|exact h.elim
 ·cases ao
theorem zhU{r:Reach}{pH:Nat}{t:TypeId}{v:Value}(h:Value.okWide P w r pH t v)(ao:(PD P t).isSome=true): ∃cs,v= .agg cs:=by
 unfold PD at ao
 split at ao
 ·rename_i hu
  simp only[Value.okWide,hu]at h;obtain⟨cs,rfl,_⟩:=h;exact⟨cs,rfl⟩
 ·cases ao
theorem zhV{w':World}{p:MemPlace}(ar:p.block<w.heap.size)(h: ∀b,b<w.heap.size→w'.heap[b]? =w.heap[b]?):w.sameAt w' p:=by
 cases p with
 |cell b off=>exact World.cell?_of_block (a:=⟨b,off,none⟩) (h b ar)
 |map b=>exact h b ar
theorem W2{w':World}(h: ∀b,b<w.heap.size→w'.heap[b]? =w.heap[b]?){base:Nat}{sp:Nat→Bool}{held:Bool}: ∀{ts:List TypeId} {vs:List Value} {ds:List (DataW H)} {ps:List MemPlace},DataW.TrodAll enc P w base sp held ts vs ds ps→DataW.TrodAll enc P w' base sp held ts vs ds ps
 |[],[],[],_,h=>h
 |_::_,_::_,_::_,_,⟨p,q,⟨n,hn⟩,ae,e⟩=>
  ⟨p,q,⟨n,DataW.trod_carry n _ _ _ hn fun x hx=>zhV (DataW.trod_lt n _ _ _ hn x hx) h⟩,W2 h ae,e⟩
theorem zhW{w':World}{may:MemPlace→Prop}(ab:w'.os=w.os)(ae:w'.output=w.output)(h: ∀b,b<w.heap.size→w'.heap[b]? =w.heap[b]?):w.keptBut w' may:=by
 refine⟨ab,ae,fun i hi=>?_⟩
 rw[h i hi]
 cases hw:w.heap[i]? with
 |none=>rfl
 |some o=>
  cases o with
  |cells c t FQ=>exact⟨rfl,rfl,rfl,fun _ _=>rfl⟩
  |map es clock=>exact .inr ⟨rfl,rfl⟩
  |_=>rfl
theorem zhX{G:aR}{f:FuncId}{fn:Func}{s:ChangeSpec}{args:Array Value}{ds gs:List (DataW H)}{before:List MemPlace}{tb:TypeId}{avs':List aC}{β:Nat→Value}
 (ln:DataW.Whole enc P fn.params.toList s.vars false w args.toList ds gs before)(az:s.vars=[])(ao:s.fn H (ds++gs)={results:=[.lit (.bool true)],args:=ds})(ko:fn.resultTypes= #[tb])(PF:P.underlying tb=some .bool)
 (K:Kids P (· < P.types.size))(aT: ∀t e,t<P.types.size→P.underlying t=some (.slice e)→0<P.cellsOf e)(sI: ∀t∈fn.params.toList,t<P.types.size)
 (hlen:args.size=avs'.length)(jc: ∀i x,avs'[i]? =some x→bA w (ma w) [] β 0 x (args.getD i undef))(PG:o4 w (ma w) G)(hc:eJ P G f avs' [] 0 fun r cc=>r=wq true∧cc=[]):
 Calls P f args w fun e w'=>∃v,e= .returned v∧s.post enc P fn false true false false w args v w':=by
 refine Calls.mono (hc w β (ma w) args hlen jc ⟨by simp[aE],by simp[aE],fun b _ ⟨_,_,ai,_⟩=>by simp[aE]at ai,fun b ag=>ag⟩ PG (by simp[aE])) fun e w' aG=>?_
 obtain⟨v,r,cU,cK,ro',bL,rfl,⟨rfl,rfl⟩,dE,_,aJ⟩:=aG
 obtain rfl:=bA.val dE
 have aV: ∀b,b<w.heap.size→w'.heap[b]? =w.heap[b]? :=fun b ag=>aJ.frame b ag fun⟨_,_,ai,_⟩=>by simp[aE]at ai
 refine⟨_,rfl,ds,gs,before,[],before,[],ln,?_,?_,?_,zhW aJ.os aJ.output aV,fun h=>by cases h⟩
 ·rw[ao,ko]
  exact trodAll_mk1 (shut_bool PF true)
 ·rw[ao]
  have bE: ∀p∈before,(fun b=>decide (b<w.heap.size)) p.block=true:=fun p ar=>by simpa using ln.lt p ar
  obtain⟨p,q,ab,ae,rfl,_⟩:=ln;rw[az]at ae
  have aG:q=[]:=by
   cases gs with
   |nil=>exact ae
   |cons=>cases ae
  subst aG;rw[List.append_nil]at bE⊢;exact W2 aV (ab.respare K aT sI bE)
 ·rw[ao,az]
  rfl
end
end Go.aK
namespace Go.aK
open Go Go.ChangeShapes Go.WideShapes
def Al:List (Option (List aX))→Option (List aX)
 |[]=>some []
 |none::_=>none
 |some l::r=>match Al r with
  |some m=>some (l++m)
  |none=>none
def DH:List aX→List aX→Bool
 |[],[]=>true
 |a::l,b::m=>iW a b&&DH l m
 |_,_=>false
theorem PH: ∀{l m:List aX},DH l m=true→l=m
 |[],[],_=>rfl
 |[],_::_,h=>by cases h
 |_::_,[],h=>by cases h
 |a::l,b::m,h=>by
  simp only[DH,Bool.and_eq_true]at h;rw[iz h.1,PH h.2]
def ki(P:Program)(T:List (Nat × bX)):Nat→TypeId→Option (List aX)
 |0,_=>none
 |n+1,t=>match P.underlying t with
  |some .bool=>some [.bool]
  |some (.int k)=>some [.int k]
  |some .string=>some [.str]
  |some (.slice e)=>match qX T e with
   |some c=>match Nat.beq (P.cellsOf e) (du c)with
    |true=>some [.li c]
    |false=>none
   |none=>none
  |some (.array k e)=>Al (List.replicate k (ki P T n e))
  |some (.struct fs)=>Al (fs.toList.map fun f=>ki P T n f.type)
  |_=>none
def DI(P:Program)(T:List (Nat × bX)):Bool:=T.all fun q=>match ki P T 20 q.1 with
 |some l=>DH l (ft q.2)
 |none=>false
inductive tN:List (List aU)→List (List aU)→Prop where
 |nil:tN [] []
 |cons {x y:List aU} {xs ys:List (List aU)}:hD x y→tN xs ys→tN (x::xs) (y::ys)
theorem tN.flat{xs ys:List (List aU)}(h:tN xs ys):hD xs.flatten ys.flatten:=by
 induction h with
 |nil=>exact .nil
 |cons h _ aY=>rw[List.flatten_cons,List.flatten_cons];exact h.append aY
theorem tN.len{xs ys:List (List aU)}(h:tN xs ys):xs.length=ys.length:=by
 induction h with
 |nil=>rfl
 |cons h _ aY=>simp[aY]
theorem zhY{c:bX}{n:Nat}{es:List (List aU)}{l:List (hg c)}(hn:n=du c)(h:tN es (l.map (df c))):m8 (.aq n es) (.li c l):=by
 subst hn
 intro w ro v ah
 refine .li _ _ _ ?_
 cases ah with
 |aq _ _ b cap zhZ ab ae aw aM bn=>
  have hlen:(l.map (df c)).length=es.length:=h.len.symm
  rw[←hlen];refine .aq _ _ b cap zhZ (by omega) ae (fun e he=>?_) (fun ar=>?_) fun j y aj=>?_
  ·obtain⟨x,_,rfl⟩:=List.mem_map.1 he
   exact Gc c x
  ·rw[hlen]at ar⊢
   exact aM ar
  ·obtain⟨x,hx,ao⟩:=h.flat.at.2 j y aj
   exact ao _ _ _ (bn j x hx)
section
variable {P:Program} {T:List (Nat × bX)}
theorem W3: ∀{T:List (Nat × bX)} {e:Nat} {c:bX},qX T e=some c→(e,c)∈T
 |(x,d)::r,e,c,h=>by
  unfold qX at h
  split at h
  ·rename_i hx
   cases h;rw[←Nat.eq_of_beq_eq_true hx];exact List.mem_cons_self
  ·exact List.mem_cons_of_mem _ (W3 h)
theorem zh0(dm:DI P T=true){e:TypeId}{c:bX}(h:qX T e=some c):ki P T 20 e=some (ft c):=by
 have:=List.all_eq_true.1 dm _ (W3 h)
 simp only at this
 split at this
 ·rename_i l av
  rw[av,PH this]
 ·cases this
def PI(P:Program)(T:List (Nat × bX))(t:TypeId):Option aX:=
 match(PD P t).isSome with
 |true=>match qX T t,ki P T 20 t with
  |some c,some l=>match DH l (ft c)with
   |true=>some (.st c)
   |false=>none
  |_,_=>none
 |false=>match PE P t,ki P T 20 t with
  |true,some [r]=>match r.one with
   |true=>some r
   |false=>none
  |_,_=>none
def tO(t:Nat):List Nat→Bool
 |[]=>false
 |x::r=>Nat.beq x t||tO t r
theorem W4{t:Nat}: ∀{S:List Nat},tO t S=true→t∈S
 |x::r,h=>by
  simp only[tO,Bool.or_eq_true]at h
  rcases h with h|h
  ·rw[Nat.eq_of_beq_eq_true h];exact List.mem_cons_self
  ·exact List.mem_cons_of_mem _ (W4 h)
def PJ(P:Program)(S:List TypeId)(t:TypeId):Bool:=decide (t<P.types.size)&&match P.underlying t with
 |some .bool=>true
 |some (.int _)=>true
 |some .string=>true
 |some (.slice e)=>tO e S
 |some (.array _ e)=>tO e S
 |some (.struct fs)=>fs.toList.all fun f=>tO f.type S
 |_=>false
def PK(P:Program):Nat→List TypeId→List TypeId→List TypeId
 |0,S,_=>S
 |_+1,S,[]=>S
 |n+1,S,t::r=>match tO t S with
  |true=>PK P n S r
  |false=>PK P n (t::S) (match P.underlying t with
   |some (.slice e)=>e::r
   |some (.array _ e)=>e::r
   |some (.struct fs)=>fs.toList.map (·.type)++r
   |_=>r)
def PL(P:Program)(t:TypeId):Bool:=match PK P 400 [] [t]with
 |S=>tO t S&&S.all (PJ P S)
def vz(P:Program)(T:List (Nat × bX)):List TypeId→Option (List aX)
 |[]=>match DI P T with
  |true=>some []
  |false=>none
 |t::ts=>match PL P t,PI P T t,vz P T ts with
  |true,some r,some rs=>some (r::rs)
  |_,_,_=>none
theorem W5: ∀{ts:List TypeId} {rs:List aX},vz P T ts=some rs→DI P T=true
 |[],_,h=>by
  unfold vz at h
  split at h
  ·assumption
  ·cases h
 |_::_,_,h=>by
  unfold vz at h
  split at h
  ·rename_i hl
   exact W5 hl
  ·cases h
variable {H:Type} {enc:TypeId × Value→H} {w:World}
end
end Go.aK
namespace Go.aK
open Go Go.ChangeShapes Go.WideShapes Go.RowKit Go.Proofs.YtddeffoppnlafaaGreat.Rows
inductive mI (P:Program) (B:Nat):TypeId→List aU→Prop where
 |bool {t:TypeId} (b:Bool):P.underlying t=some .bool→mI P B t [.v (.bool b)]
 |int {t:TypeId} {k:IntKind} (n:Int):P.underlying t=some (.int k)→(Lit.int k n).wf=true→mI P B t [.v (.int k n)]
 |str {t:TypeId} (s:ByteArray):P.underlying t=some .string→s.size≤B→mI P B t [.v (.string s)]
 |slice {t e:TypeId} (es:List (List aU)):P.underlying t=some (.slice e)→es.length≤B→(∀x∈es,mI P B e x)→mI P B t [.aq (P.cellsOf e) es]
 |struct {t:TypeId} {fs:Array Field} (parts:List (List aU)):P.underlying t=some (.struct fs)→parts.length=fs.toList.length→(∀(i:Nat) (f:Field) (p:List aU),fs.toList[i]? =some f→parts[i]? =some p→mI P B f.type p)→mI P B t parts.flatten
 |array {t e:TypeId} {n:Nat} (parts:List (List aU)):P.underlying t=some (.array n e)→parts.length=n→(∀p∈parts,mI P B e p)→mI P B t parts.flatten
section
variable {H:Type} {enc:TypeId × Value→H} {P:Program} {B:Nat} {w:World}
def oZ(P:Program)(B:Nat)(w:World)(t:TypeId)(cs:List Value):Prop:=∃rs,mI P B t rs∧rs.length=cs.length∧∀j r,rs[j]? =some r→de w (ma w) r (cs.getD j undef)
theorem W6: ∀(fs:List Field) (off:Nat) (cs:List Value),(∀(j:Nat) (f:Field),fs[j]? =some f→f.offset=off+((fs.take j).map fun f=>P.cellsOf f.type).sum)→
 (∀f∈fs,oZ P B w f.type ((cs.drop f.offset).take (P.cellsOf f.type)))→off+(fs.map fun f=>P.cellsOf f.type).sum≤cs.length→
 ∃parts:List (List aU),parts.length=fs.length∧(∀(i:Nat) (f:Field) (p:List aU),fs[i]? =some f→parts[i]? =some p→mI P B f.type p)∧parts.flatten.length=(fs.map fun f=>P.cellsOf f.type).sum∧
  ∀j r,parts.flatten[j]? =some r→de w (ma w) r (cs.getD (off+j) undef)
 |[],off,cs,_,_,_=>⟨[],rfl,by simp,by simp,by simp⟩
 |f::fs,off,cs,au,hf,av=>by
  have aS:f.offset=off:=by have:=au 0 f rfl;simpa using this
  obtain⟨rs,ab,ae,aw⟩:=hf f (by simp)
  simp only[List.map_cons,List.sum_cons]at av
  have hlen:rs.length=P.cellsOf f.type:=by rw[ae,aS];simp;omega
  obtain⟨parts,g1,g2,g3,g4⟩:=W6 fs (off+P.cellsOf f.type) cs (fun j q aG=>by
   have:=au (j+1) q (by simpa using aG)
   simp only[List.take_succ_cons,List.map_cons,List.sum_cons]at this
   omega) (fun q aG=>hf q (by simp[aG])) (by omega)
  refine⟨rs::parts,by simp[g1],fun i q p aG ar=>?_,by simp[g3,hlen],fun j r aj=>?_⟩
  ·cases i with
   |zero=>
    simp at aG ar;subst aG;subst ar;exact ab
   |succ i=>exact g2 i q p (by simpa using aG) (by simpa using ar)
  ·rw[List.flatten_cons]at aj
   by_cases dj:j<rs.length
   ·rw[List.getElem?_append_left dj]at aj
    have:=aw j r aj
    have B1:j<P.cellsOf f.type:=by omega
    rw[aS]at this;simpa[List.getD,List.getElem?_take,List.getElem?_drop,B1]using this
   ·rw[List.getElem?_append_right (by omega)]at aj
    have:=g4 _ r aj
    rw[show off+P.cellsOf f.type+(j-rs.length)=off+j from by omega]at this
    exact this
theorem PM{e:TypeId}(n:Nat): ∀(k:Nat) (DJ:Nat→List Value),(∀i,i<k→oZ P B w e (DJ i)∧(DJ i).length=n)→
 ∃es:List (List aU),es.length=k∧(∀x∈es,mI P B e x∧x.length=n)∧∀j r,es.flatten[j]? =some r→de w (ma w) r ((DJ (j/ n)).getD (j%n) undef)
 |0,_,_=>⟨[],rfl,by simp,by simp⟩
 |k+1,DJ,h=>by
  obtain⟨⟨rs,ab,ae,aw⟩,hn⟩:=h 0 (by omega)
  obtain⟨es,g1,g2,g3⟩:=PM n k (fun i=>DJ (i+1)) fun i hi=>h (i+1) (by omega)
  refine⟨rs::es,by simp[g1],fun x hx=>?_,fun j r aj=>?_⟩
  ·rcases List.mem_cons.1 hx with rfl|hx
   ·exact⟨ab,by omega⟩
   ·exact g2 x hx
  ·rw[List.flatten_cons]at aj
   by_cases dj:j<rs.length
   ·rw[List.getElem?_append_left dj]at aj
    have qt:j<n:=by omega
    rw[Nat.div_eq_of_lt qt,Nat.mod_eq_of_lt qt];exact aw j r aj
   ·rw[List.getElem?_append_right (by omega)]at aj
    have:=g3 _ r aj
    have Am:0<n:=by
     rcases Nat.eq_zero_or_pos n with aS|aS
     ·exfalso
      have qu:es.flatten.length=es.length*n:=jh fun x hx=>(g2 x hx).2
      have:=(List.getElem?_eq_some_iff.1 aj).1
      rw[qu,aS]at this;simp at this
     ·exact aS
    have aD:j-rs.length=j-n:=by omega
    rw[aD]at this
    have bg:(j-n)/ n+1=j/ n:=(Nat.div_eq_sub_div Am (by omega)).symm
    have cM:(j-n)%n=j%n:=(Nat.mod_eq_sub_mod (by omega)).symm
    simp only[bg,cM]at this;exact this
theorem DK{t:TypeId}{r:aU}{c:Value}(h:mI P B t [r])(ah:de w (ma w) r c):oZ P B w t [c]:=
 ⟨[r],h,rfl,fun j x aj=>by
  cases j with
  |zero=>simp at aj;subst aj;exact ah
  |succ j=>simp at aj⟩
theorem PN{d:DataW H}{l:List (DataW H)}(h:d∈l):uptoBulk d≤uptoBulkAll l:=by
 induction l with
 |nil=>cases h
 |cons x r aY=>
  simp only[uptoBulkAll]
  cases List.mem_cons.1 h with
  |inl e=>subst e;omega
  |inr e=>have:=aY e;omega
theorem zh1(d:DataW H):1≤uptoBulk d:=by
 cases d with
 |lit l=>cases l<;>simp[uptoBulk]
 |nil=>simp[uptoBulk]
 |ptr d=>simp[uptoBulk]
 |slice elems spare=>simp[uptoBulk]
 |agg parts=>simp[uptoBulk]
 |iface t d=>simp[uptoBulk]
 |map entries=>simp[uptoBulk]
 |held h=>simp[uptoBulk]
theorem zh2(l:List (DataW H)):l.length≤uptoBulkAll l:=by
 induction l with
 |nil=>simp[uptoBulkAll]
 |cons x r aY=>have:=zh1 x;simp only[uptoBulkAll,List.length_cons];omega
end
section
variable {P:Program} {T:List (Nat × bX)} {B:Nat}
variable {H:Type} {enc:TypeId × Value→H} {w:World}
theorem oZ.agg{t:TypeId}{cs:Array Value}(h:oZ P B w t cs.toList){β:Nat→Value}{N:Nat}: ∃rs,mI P B t rs∧bA w (ma w) [] β N (.agg (zdb rs)) (.agg cs):=by
 obtain⟨rs,ab,ae,aw⟩:=h
 refine⟨rs,ab,.agg _ cs (by simpa using ae.symm) fun j x aj=>?_⟩
 rw[List.getElem?_map]at aj
 cases ah:rs[j]? with
 |none=>simp[ah]at aj
 |some r=>
  simp[ah]at aj;subst aj
  have:=aw j r ah
  exact .ad _ _ (by simpa[List.getD,Array.getD_eq_getD_getElem?]using this)
theorem oZ.one{t:TypeId}{v:Value}(h:oZ P B w t v.cells.toList)(az:v.cells= #[v]){β:Nat→Value}{N:Nat}: ∃r,mI P B t [r]∧bA w (ma w) [] β N (.ad r) v:=by
 obtain⟨rs,ab,ae,aw⟩:=h
 rw[az]at ae
 match rs,ae,ab,aw with
 |[r],_,ab,aw=>
  have:=aw 0 r rfl
  rw[az]at this;exact⟨r,ab,.ad _ _ (by simpa using this)⟩
theorem zh3(K:Kids P (· < P.types.size)){S:List TypeId}(hS:S.all (PJ P S)=true): ∀(n:Nat) (t:TypeId) (cs:List Value) (x:DataW H × List MemPlace) {base:Nat} {sp:Nat→Bool} {held:Bool},tO t S=true→
 DataW.trod enc P w base sp held n t cs=some x→(∀q∈x.1.weights P t,q≤reachBytes)→uptoBulk x.1≤B→oZ P B w t cs:=by
 intro n
 induction n using Nat.strongRecOn with
 |ind n PO=>
 intro t cs x base sp held aJ h fH bc
 have ar:=List.all_eq_true.1 hS t (W4 aJ)
 simp only[PJ,Bool.and_eq_true,decide_eq_true_eq]at ar
 obtain⟨dM,ar⟩:=ar
 cases hu:P.underlying t with
 |none=>rw[hu]at ar;cases ar
 |some d=>
  rw[hu]at ar
  cases d with
  |bool=>
   obtain⟨b,rfl,_⟩:=DataW.trod_bool hu h;exact DK (.bool b hu) (.v _ rfl)
  |int k=>
   obtain⟨b,rfl,_,hw⟩:=DataW.trod_int hu h;exact DK (.int b hu hw) (.v _ rfl)
  |string=>
   obtain⟨b,rfl,hx,hw⟩:=DataW.trod_string hu h;rw[hx]at fH;rw[hx]at bc;exact DK (.str b hu (by simp only[uptoBulk,Array.length_toList]at bc;have:b.data.size=b.size:=rfl;omega)) (.v _ rfl)
  |slice e=>
   rcases DataW.trod_slice hu h with⟨rfl,_⟩|⟨a,len,cap,elems,rest,k,rfl,rfl,hx,_,hle,jN,pn,fq,_⟩
   ·exact DK (.slice [] hu (Nat.zero_le _) (by simp)) (.aq _ [] none 0 (fun _=>undef) (Nat.le_refl _) (Nat.zero_le _) (by simp) (by simp) (by simp))
   ·rw[hx]at fH bc
    simp only[uptoBulk]at bc;simp only[DataW.weights,hu,List.mem_cons,List.mem_append,List.length_map]at fH
    have F3:len*P.bytesOf e≤reachBytes:=Nat.le_trans (Nat.mul_le_mul_right _ (by rw[pn];exact Nat.le_add_right _ _)) (fH _ (.inl rfl))
    have W7: ∀i,i<len→∃l,w.cells? base (a.add (i*P.cellsOf e)) (P.cellsOf e)=some l∧oZ P B w e l:=by
     intro i hi
     have ab:=fq i hi
     rw[List.getElem?_eq_getElem (by omega)]at ab
     cases hc:w.cells? base (a.add (i*P.cellsOf e)) (P.cellsOf e)with
     |none=>rw[hc]at ab;cases ab
     |some l=>rw[hc]at ab;exact⟨l,rfl,PO k (Nat.lt_succ_self _) e l _ ar ab (fun q aG=>fH q (.inr (.inl (PC (List.mem_map_of_mem (List.getElem_mem _)) q aG)))) (Nat.le_trans (PN (l:=elems.map (fun x=>x.fst)) (List.mem_map_of_mem (List.getElem_mem _))) (by omega))⟩
    obtain⟨es,g1,g2,g3⟩:=PM (P:=P) (w:=w) (e:=e) (P.cellsOf e) len (fun i=>(w.cells? base (a.add (i*P.cellsOf e)) (P.cellsOf e)).getD []) fun i hi=>by
     obtain⟨l,ab,ae⟩:=W7 i hi;rw[ab];exact⟨ae,(W1 ab).1⟩
    have hlen:es.length=len:=g1
    refine DK (.slice es hu (by have:=zh2 (elems.map (·.1));rw[List.length_map]at this;omega) fun x hx=>(g2 x hx).1) ?_
    rw[←hlen];refine .aq _ es (some a) cap (fun j=>((w.cells? base (a.add (j/ P.cellsOf e*P.cellsOf e)) (P.cellsOf e)).getD []).getD (j%P.cellsOf e) undef) (by omega) jN (fun x hx=>(g2 x hx).2) (fun _=>⟨a,rfl,fun j aj=>?_⟩) g3
    have Am:0<P.cellsOf e:=by
     rcases Nat.eq_zero_or_pos (P.cellsOf e)with aS|aS
     ·rw[aS]at aj;simp at aj
     ·exact aS
    have lY:j/ P.cellsOf e<len:=by rw[Nat.div_lt_iff_lt_mul Am];rw[hlen]at aj;exact aj
    have lX:j%P.cellsOf e<P.cellsOf e:=Nat.mod_lt _ Am
    obtain⟨l,ab,_⟩:=W7 _ lY;obtain⟨ae,aw⟩:=W1 ab
    have aM:=aw _ lX
    rw[yH,Nat.mul_comm,Nat.div_add_mod]at aM;rw[ab]
    have bn:w.cell? (a.add j)=some (l.getD (j%P.cellsOf e) undef):=by
     rw[aM]
     have:j%P.cellsOf e<l.length:=by omega
     simp[List.getD,List.getElem?_eq_getElem this]
    exact⟨by have:=zhS bn;rwa[uN]at this,bn⟩
  |array k e=>
   obtain⟨xs,q,rfl,hx,e4,m6,fq⟩:=DataW.trod_array hu h;rw[hx]at fH bc;simp only[uptoBulk]at bc;simp only[DataW.weights,hu]at fH
   obtain⟨es,g1,g2,g3⟩:=PM (P:=P) (w:=w) (e:=e) (P.cellsOf e) k (fun i=>(cs.drop (i*P.cellsOf e)).take (P.cellsOf e)) fun i hi=>by
    have ab:=fq i hi
    rw[List.getElem?_eq_getElem (by omega)]at ab
    refine⟨PO q (Nat.lt_succ_self _) e _ _ ar ab (fun z aT=>fH z (PC (List.mem_map_of_mem (List.getElem_mem _)) z aT)) (Nat.le_trans (PN (l:=xs.map (fun x=>x.fst)) (List.mem_map_of_mem (List.getElem_mem _))) (by omega)),?_⟩
    have ae:=Nat.mul_le_mul_right (P.cellsOf e) (show i+1≤k from hi)
    rw[Nat.succ_mul]at ae
    have:=(K.array dM hu).2
    simp;omega
   refine⟨es.flatten,.array es hu g1 fun p ar=>(g2 p ar).1,?_,fun j r aj=>?_⟩
   ·rw[jh fun x hx=>(g2 x hx).2,g1,e4,(K.array dM hu).2]
   ·have:=g3 j r aj
    have dj:=(List.getElem?_eq_some_iff.1 aj).1
    have Am:0<P.cellsOf e:=by
     rcases Nat.eq_zero_or_pos (P.cellsOf e)with aS|aS
     ·rw[jh fun x hx=>(g2 x hx).2,aS]at dj;simp at dj
     ·exact aS
    have lX:j%P.cellsOf e<P.cellsOf e:=Nat.mod_lt _ Am
    have hm:j/ P.cellsOf e*P.cellsOf e+j%P.cellsOf e=j:=by rw[Nat.mul_comm];exact Nat.div_add_mod _ _
    simpa[List.getD,List.getElem?_take,List.getElem?_drop,lX,hm]using this
  |struct fs=>
   obtain⟨xs,q,rfl,hx,e4,m6,fq⟩:=DataW.trod_struct hu h;rw[hx]at fH bc;simp only[uptoBulk]at bc;simp only[DataW.weights,hu]at fH;obtain⟨_,vA,B2⟩:=K.struct dM hu
   obtain⟨parts,g1,g2,g3,g4⟩:=W6 (P:=P) (w:=w) fs.toList 0 cs (fun j f hf=>by rw[B2 j f hf];simp) (fun f hf=>by
    obtain⟨i,hi,rfl⟩:=List.mem_iff_getElem.1 hf
    have zh4:fs[i]? =some fs.toList[i]:=by simp at hi;simp[hi]
    have ab:=fq i _ zh4
    have Hz:i<xs.length:=by rw[m6];simpa using hi
    rw[List.getElem?_eq_getElem Hz]at ab
    rw[List.all_eq_true]at ar
    exact PO q (Nat.lt_succ_self _) _ _ _ (ar _ (List.getElem_mem hi)) ab (fun z aT=>fH z (DataW.weights_mem_each (j:=i) (by rw[List.getElem?_map,List.getElem?_eq_getElem hi];rfl) (by rw[List.getElem?_map,List.getElem?_eq_getElem Hz];rfl) z aT)) (Nat.le_trans (PN (l:=xs.map (fun x=>x.fst)) (List.mem_map_of_mem (List.getElem_mem _))) (by omega))) (by rw[e4,vA];omega)
   exact⟨parts.flatten,.struct parts hu g1 g2,by rw[g3,e4,vA],fun j r aj=>by have:=g4 j r aj;simpa using this⟩
  |_=>cases ar
theorem zh5(K:Kids P (· < P.types.size)){t:TypeId}(ar:PL P t=true){v:Value}{d:DataW H}{ps:List MemPlace}{base:Nat}{sp:Nat→Bool}{held:Bool}(h:DataW.Trod enc P w base sp held t v d ps)(fH: ∀q∈d.weights P t,q≤reachBytes)(bc:uptoBulk d≤B):oZ P B w t v.cells.toList:=by
 obtain⟨n,hn⟩:=h
 unfold PL at ar
 simp only[Bool.and_eq_true]at ar
 exact zh3 K ar.2 n t _ _ ar.1 hn fH bc
inductive gM (B:Nat):aL→Prop where
 |int (k:IntKind) (x:Int):(Lit.int k x).wf=true→gM B ⟨.int k,x⟩
 |bool (b:Bool):gM B ⟨.bool,b⟩
 |str (s:ByteArray):s.size≤B→gM B ⟨.str,s⟩
 |li (c:bX) (l:List (hg c)):l.length≤B→(∀x∈l,∀d∈hh c x,gM B d)→gM B ⟨.li c,l⟩
theorem PQ{n:Nat}: ∀(ts:List TypeId) (parts:List (List aU)) {l:List aX},parts.length=ts.length→(∀(i:Nat) (t:TypeId) (p:List aU),ts[i]? =some t→parts[i]? =some p→∀{l:List aX},ki P T n t=some l→∃ds:List aL,ds.map aL.r=l∧hD p (ds.map aL.ad)∧∀d∈ds,gM B d)→Al (ts.map (ki P T n))=some l→
 ∃ds:List aL,ds.map aL.r=l∧hD parts.flatten (ds.map aL.ad)∧∀d∈ds,gM B d
 |[],parts,l,av,_,hc=>by
  cases List.eq_nil_of_length_eq_zero av
  cases hc;exact⟨[],rfl,.nil,by simp⟩
 |t::ts,[],l,av,_,_=>by cases av
 |t::ts,p::parts,l,av,ao,hc=>by
  simp only[List.map_cons]at hc
  cases ab:ki P T n t with
  |none=>rw[ab]at hc;cases hc
  |some Bk=>
   rw[ab]at hc;simp only[Al]at hc
   cases ae:Al (ts.map (ki P T n))with
   |none=>rw[ae]at hc;cases hc
   |some ya=>
    rw[ae]at hc;cases hc;obtain⟨d1,ct,a2,a3⟩:=ao 0 t p rfl rfl ab;obtain⟨d2,fV,h3,iB⟩:=PQ ts parts (by simpa using av) (fun i t p hi ar=>ao (i+1) t p (by simpa using hi) (by simpa using ar)) ae
    refine⟨d1++d2,by simp[ct,fV],by rw[List.flatten_cons,List.map_append];exact a2.append h3,fun d hd=>?_⟩
    rcases List.mem_append.1 hd with hd|hd
    ·exact a3 d hd
    ·exact iB d hd
theorem W8{c:bX}: ∀(es:List (List aU)),(∀x∈es,∃ds:List aL,ds.map aL.r=ft c∧hD x (ds.map aL.ad)∧∀d∈ds,gM B d)→∃l:List (hg c),tN es (l.map (df c))∧∀x∈l,∀d∈hh c x,gM B d
 |[],_=>⟨[],.nil,by simp⟩
 |x::es,h=>by
  obtain⟨ds,ct,a2,a3⟩:=h x (by simp)
  obtain⟨l,fV,h3⟩:=W8 es fun y aA=>h y (by simp[aA])
  have hc:hh c (qG c ds)=ds:=Ge c ds ct
  refine⟨qG c ds::l,.cons (by unfold df;rw[hc];exact a2) fV,fun y aA d hd=>?_⟩
  rcases List.mem_cons.1 aA with rfl|aA
  ·rw[hc]at hd
   exact a3 d hd
  ·exact h3 y aA d hd
theorem W9(dm:DI P T=true){t:TypeId}{rs:List aU}(h:mI P B t rs): ∀(n:Nat) {l:List aX},ki P T n t=some l→∃ds:List aL,ds.map aL.r=l∧hD rs (ds.map aL.ad)∧∀d∈ds,gM B d:=by
 induction h with
 |bool b hu=>
  intro n l hf
  cases n with
  |zero=>cases hf
  |succ n=>
   unfold ki at hf;rw[hu]at hf;cases hf;exact⟨[⟨.bool,b⟩],rfl,.cons (m8.refl _) .nil,fun d hd=>by cases List.mem_singleton.1 hd;exact .bool b⟩
 |int x hu hw=>
  intro n l hf
  cases n with
  |zero=>cases hf
  |succ n=>
   unfold ki at hf;rw[hu]at hf;cases hf;exact⟨[⟨.int _,x⟩],rfl,.cons (m8.refl _) .nil,fun d hd=>by cases List.mem_singleton.1 hd;exact .int _ _ hw⟩
 |str s hu hw=>
  intro n l hf
  cases n with
  |zero=>cases hf
  |succ n=>
   unfold ki at hf;rw[hu]at hf;cases hf;exact⟨[⟨.str,s⟩],rfl,.cons (m8.refl _) .nil,fun d hd=>by cases List.mem_singleton.1 hd;exact .str _ hw⟩
 |slice es hu av hw aY=>
  intro n l hf
  cases n with
  |zero=>cases hf
  |succ n=>
   unfold ki at hf;rw[hu]at hf;simp only at hf
   split at hf
   ·rename_i c ae
    split at hf
    ·rename_i hc
     cases hf;obtain⟨l,ct,a2⟩:=W8 (c:=c) es fun x hx=>aY x hx 20 (zh0 dm ae);refine⟨[⟨.li c,l⟩],rfl,.cons (zhY (Nat.eq_of_beq_eq_true hc) ct) .nil,fun d hd=>?_⟩
     cases List.mem_singleton.1 hd
     exact .li _ _ (by have:=ct.len;rw[List.length_map]at this;omega) a2
    ·cases hf
   ·cases hf
 |struct parts hu ab ae aY=>
  intro n l hf
  cases n with
  |zero=>cases hf
  |succ n=>
   unfold ki at hf;rw[hu]at hf;simp only at hf;rename_i fs
   have hm:(fs.toList.map fun f=>ki P T n f.type)=(fs.toList.map (·.type)).map (ki P T n):=by rw[List.map_map];rfl
   rw[hm]at hf
   exact PQ _ parts (by rw[List.length_map];exact ab) (fun i u p hi ar l av=>by
    rw[List.getElem?_map]at hi
    cases PR:fs.toList[i]? with
    |none=>rw[PR]at hi;cases hi
    |some f=>
     rw[PR]at hi;cases hi
     exact aY i f p PR ar n av) hf
 |array parts hu ab ae aY=>
  intro n l hf
  cases n with
  |zero=>cases hf
  |succ n=>
   unfold ki at hf;rw[hu]at hf;simp only at hf;rename_i e k
   have hm:List.replicate k (ki P T n e)=(List.replicate k e).map (ki P T n):=by rw[List.map_replicate]
   rw[hm]at hf
   exact PQ _ parts (by rw[List.length_replicate];exact ab) (fun i u p hi ar l av=>by
    have:=List.mem_of_getElem? hi
    cases (List.mem_replicate.1 this).2
    exact aY p (List.mem_of_getElem? ar) n av) hf
def uG(B:Nat)(d:aL):Prop:=
 match d with
 |⟨.st c,x⟩=>∀q∈hh c x,gM B q
 |d=>gM B d
theorem zh6{β:Nat→Value}{t:TypeId}{v:Value}{r:aX}{reach:Reach}{pH:Nat}(hf:oZ P B w t v.cells.toList)(az:Value.okWide P w reach pH t v)(dm:DI P T=true)(h:PI P T t=some r): ∃x:r.den,bA w (ma w) [] β 0 (aL.cC ⟨r,x⟩) v∧uG B ⟨r,x⟩:=by
 unfold PI at h
 split at h
 ·rename_i ao
  split at h
  ·rename_i c l _ av
   split at h
   ·rename_i hc
    cases h;obtain rfl:=PH hc;obtain⟨cs,rfl⟩:=zhU az ao;obtain⟨rs,g1,g2⟩:=oZ.agg (P:=P) (w:=w) (cs:=cs) hf (β:=β) (N:=0);obtain⟨ds,ct,a2,a3⟩:=W9 dm g1 20 av
    have hc:hh c (qG c ds)=ds:=Ge c ds ct
    refine⟨qG c ds,?_,fun q aG=>a3 q (by rw[←hc];exact aG)⟩
    have xm:aL.cC ⟨.st c,qG c ds⟩= .agg ((ds.map aL.ad).map .ad):=by
     show aC.agg ((df c (qG c ds)).map .ad)=_;unfold df;rw[hc]
    rw[xm];exact(hD.cC a2).agg _ _ _ _ _ _ g2
   ·cases h
  ·cases h
 ·split at h
  ·rename_i eG au av
   split at h
   ·rename_i ab
    cases h;obtain⟨y,g1,g2⟩:=oZ.one (P:=P) (w:=w) hf (zhT az au) (β:=β) (N:=0);obtain⟨ds,ct,a2,a3⟩:=W9 dm g1 20 av;obtain⟨d,qI,rfl,rfl,hn⟩:=m7 ct
    cases nO hn
    cases a2 with
    |cons ao _=>
     have eC:=Wy ab
     refine⟨d.v,?_,?_⟩
     ·show bA w (ma w) [] β 0 (aL.cC d) v
      have:aL.cC d= .ad d.ad:=Wx (x:=d.v) eC
      rw[this];exact ao.cC _ _ _ _ _ _ g2
     ·have:=a3 d (List.mem_singleton.2 rfl)
      unfold uG
      split
      ·rename_i c x heq
       exact absurd (congrArg aL.r heq) (eC c)
      ·exact this
   ·cases h
  ·cases h
theorem Xa(K:Kids P (· < P.types.size)){β:Nat→Value}{base pH:Nat}{sp:Nat→Bool}{held:Bool}{reach:Reach}: ∀{ts:List TypeId} {vs:List Value} {ds:List (DataW H)} {ps:List MemPlace} {rs:List aX},DataW.TrodAll enc P w base sp held ts vs ds ps→vz P T ts=some rs→
 (∀q∈DataW.weightsEach P ts ds,q≤reachBytes)→uptoBulkAll ds≤B→(∀(j:Nat) t v,ts[j]? =some t→vs[j]? =some v→Value.okWide P w reach pH t v)→
 ds.length=ts.length∧∃dl:List aL,dl.map aL.r=rs∧dl.length=vs.length∧(∀(j:Nat) x,(dl.map aL.cC)[j]? =some x→∃v,vs[j]? =some v∧bA w (ma w) [] β 0 x v)∧∀d∈dl,uG B d
 |[],vs,ds,ps,rs,h,ar,_,_,_=>by
  obtain⟨rfl,rfl,rfl⟩:=trodAll_nil h;unfold vz at ar
  split at ar
  rotate_left
  ·cases ar
  cases ar;exact⟨rfl,[],rfl,rfl,by simp,by simp⟩
 |t::ts,vs,ds,ps,rs,h,ar,hw,ag,au=>by
  obtain⟨v,zks,d,qI,p,q,rfl,rfl,rfl,ab,ae⟩:=trodAll_cons h;unfold vz at ar
  split at ar
  ·rename_i r zkt s7 ah hl
   cases ar;obtain⟨g0,dl,g1,g2,g3,g4⟩:=Xa K ae hl (fun q aG=>hw q (by rw[DataW.weightsEach];exact List.mem_append_right _ aG)) (by simp only[uptoBulkAll]at ag;omega) fun j bh bu aj og=>au (j+1) bh bu (by simpa using aj) (by simpa using og)
   obtain⟨x,ct,a2⟩:=zh6 (B:=B) (β:=β) (zh5 K s7 ab (fun q aG=>hw q (by rw[DataW.weightsEach];exact List.mem_append_left _ aG)) (by simp only[uptoBulkAll]at ag;omega)) (au 0 t v rfl rfl) (W5 hl) ah
   refine⟨by simp[g0],⟨r,x⟩::dl,by simp[g1],by simp[g2],fun j y aj=>?_,fun d hd=>?_⟩
   ·cases j with
    |zero=>simp at aj;subst aj;exact⟨v,rfl,ct⟩
    |succ j=>simpa using g3 j y (by simpa using aj)
   ·rcases List.mem_cons.1 hd with rfl|hd
    ·exact a2
    ·exact g4 d hd
  ·cases ar
theorem zh7{G:aR}{f:FuncId}{fn:Func}{s:ChangeSpec}{args:Array Value}{ds gs:List (DataW H)}{before:List MemPlace}{tb:TypeId}{pH:Nat}{reach:Reach}{m:bo}
 (ln:DataW.Whole enc P fn.params.toList s.vars false w args.toList ds gs before)(az:s.vars=[])(ao: ∀ds:List (DataW H),ds.length=fn.params.toList.length→s.fn H ds={results:=[.lit (.bool true)],args:=ds})
 (fH:(DataW.weightsEach P (fn.params.toList++s.plain.varTypes P) (ds++gs)).all (· ≤reachBytes)=true)(p7: ∀(j:Nat) t v,fn.params[j]? =some t→args[j]? =some v→Value.okWide P w reach pH t v)
 (zh8:s.plain.varTypes P=[])(ko:fn.resultTypes= #[tb])(PF:P.underlying tb=some .bool)(K:Kids P (· < P.types.size))(aT: ∀t e,t<P.types.size→P.underlying t=some (.slice e)→0<P.cellsOf e)(sI: ∀t∈fn.params.toList,t<P.types.size)
 (s8:vz P T fn.params.toList=some m.ps)(PG:o4 w (ma w) G)(hc:eF P G f m)(ag:uptoBulkAll ds≤B)(hm: ∀x,(∀d∈eK m.ps x,uG B d)→ql m.pre x∧m0 m.rs (m.m x)=wq true):
 Calls P f args w fun e w'=>∃v,e= .returned v∧s.post enc P fn false true false false w args v w':=by
 have zh9:=ln
 obtain⟨p,q,eh,mJ,rfl,_,_⟩:=ln
 rw[az]at mJ
 obtain⟨rfl,rfl⟩:=trodVars_none mJ
 rw[zh8,List.append_nil,List.append_nil]at fH
 obtain⟨lY,dl,ct,a2,a3,a4⟩:=Xa (T:=T) (β:=fun _=>undef) K eh s8 (fun q aG=>by simpa using List.all_eq_true.1 fH q aG) ag fun j t v aj og=>p7 j t v (by simpa using aj) (by simpa using og)
 have DG:eK m.ps (cw m.ps dl)=dl:=Ah ct
 obtain⟨zia,ah⟩:=hm (cw m.ps dl) (by rw[DG];exact a4)
 have gY:=(hc (cw m.ps dl) zia).frame (σ:=[]) (n:=0) (HV _) fun r cc ah=>by rw[ah];exact O8
 refine zhX (β:=fun _=>undef) zh9 az (by rw[List.append_nil];exact ao ds lY) ko PF K aT sI (avs':=oX m.ps (cw m.ps dl)) ?_ (fun i x hx=>?_) PG (gY.res fun r cc ⟨ab,_,ae⟩=>⟨ae.trans ah,ab⟩)
 ·unfold oX
  rw[DG,List.length_map,a2];exact Array.length_toList.symm
 ·unfold oX at hx
  rw[DG]at hx;obtain⟨v,ab,ae⟩:=a3 i x hx
  have:args.getD i undef=v:=by
   have sK:args[i]? =some v:=by simpa using ab
   rw[Array.getD_eq_getD_getElem?,sK];rfl
  rw[this];exact ae
end
end Go.aK
