/- Conditions: none. -/
import Derived.Test.YtddeffoppnlafaaGreatJSMz
import Derived.ProofKit
import Derived.LaidMore
import Derived.OpenShut
import Derived.MakeChecks
import Derived.ChangeArms
import Derived.ReadAgain
import Derived.ChangeBears
import Derived.Stop.Joined
import Derived.SizedLaws
import Derived.Test.YtddeffoppnlafaaGreatJTEv
import Derived.Test.YtddeffoppnlafaaGreatRows
open Array renaming getD_eq_getD_getElem?->zYf,length_toList->zYg
open Bool renaming and_eq_true->zZr
open List renaming all_eq_true->zZ2,append_nil->zV3,flatten_cons->zYs,getD->zZ8,getElem?_append_left->zYr,getElem?_append_right->zYq,getElem?_drop->zYn,getElem?_eq_getElem->zZa,getElem?_eq_some_iff->zZ1,getElem?_map->zYo,getElem?_take->zYk,getElem_mem->zXj,length_map->zXe,map_cons->zXq,mem_append->zVs,mem_cons->zZf,mem_cons_of_mem->zVj,mem_cons_self->zVa,mem_map_of_mem->zV0,mem_of_getElem?->zZ4,mem_singleton->zW0,replicate->zZz,sum_cons->zV4
open Nat renaming div_add_mod->zXm,eq_of_beq_eq_true->zWi,eq_zero_or_pos->zXy,le_trans->zZx,lt_succ_self->zYi,mod_lt->zXl,mul_comm->zXn,mul_le_mul_right->zYb,zero_le->zXx
namespace Go.aH
open Go Go.ChangeShapes Go.WideShapes Go.RowKit
inductive sU (P:Program):TypeId->List a7->Prop where
 |bool {t:TypeId} (b:Bool):P.underlying t=some .bool->sU P t [.v (.bool b)]
 |int {t:TypeId} {k:IntKind} (n:Int):P.underlying t=some (.int k)->(Lit.int k n).wf=true->sU P t [.v (.int k n)]
 |str {t:TypeId} (s:ByteArray):P.underlying t=some .string->s.size<=reachBytes->sU P t [.v (.string s)]
 |slice {t e:TypeId} (es:List (List a7)):P.underlying t=some (.slice e)->es.length<=maxLen/\es.length*P.bytesOf e<=reachBytes->(∀x∈es,sU P e x)->sU P t [.aq (P.cellsOf e) es]
 |struct {t:TypeId} {fs:Array Field} (parts:List (List a7)):P.underlying t=some (.struct fs)->parts.length=fs.toList.length->(∀(i:Nat) (f:Field) (p:List a7),fs.toList[i]? =some f->parts[i]? =some p->sU P f.type p)->sU P t parts.flatten
 |array {t e:TypeId} {n:Nat} (parts:List (List a7)):P.underlying t=some (.array n e)->parts.length=n->(∀p∈parts,sU P e p)->sU P t parts.flatten
theorem mapM_some{α β:Type}{f:α->Option β}: ∀{l:List α} {r:List β},l.mapM f=some r->r.length=l.length/\∀(i:Nat) (x:α),l[i]? =some x->∃y,f x=some y/\r[i]? =some y
 |[],r,h=>by
  simp at h;subst h;exact⟨rfl,by simp⟩
 |a::l,r,h=>by
  rw[List.mapM_cons]at h
  cases ba:f a with
  |none=>simp[ba]at h|some b=>
   cases au:l.mapM f with
   |none=>simp[ba,au]at h|some cM=>
    simp[ba,au]at h;subst h;obtain⟨aa,ae⟩:=mapM_some au;refine⟨by simp[aa],λi x hx=>?_⟩
    cases i with
    |zero=>simp at hx;subst hx;exact⟨b,ba,rfl⟩|succ i=>simpa using ae i x (by simpa using hx)
section
variable {H:Type} {enc:TypeId × Value->H} {P:Program} {w:World}
abbrev nE(w:World):Nat->Prop:=λb=>b<w.heap.size
theorem zlO{a:Addr}{c:Value}(h:w.cell? a=some c):a.block<w.heap.size:=by
 rcases Nat.lt_or_ge a.block w.heap.size with aa|aa
 ·exact aa
 ·exfalso
  have:w.heap[a.block]? =none:=Array.getElem?_eq_none aa;simp[World.cell?,this]at h
def Fits(P:Program)(w:World)(t:TypeId)(cs:List Value):Prop:=∃rs,sU P t rs/\rs.length=cs.length/\∀j r,rs[j]? =some r->dq w (nE w) r (cs.getD j undef)
theorem zaH{base:Nat}{a:Addr}{n:Nat}{l:List Value}(h:w.cells? base a n=some l):l.length=n/\∀i,i<n->w.cell? (a.add i)=l[i]? :=by
 unfold World.cells? at h
 split at h
 ·obtain⟨aa,ae⟩:=mapM_some h
  refine⟨by simpa using aa,λi hi=>?_⟩
  obtain⟨y,aA,au⟩:=ae i i (by simp[hi])
  rw[au,aA]
 ·cases h
theorem RI{e:TypeId}: ∀{l:List (DataW H)} {d:DataW H},d∈l->∀n∈d.weights P e,n∈DataW.weightsAll P e l
 |d0::l,d,hd,n,hn=>by
  simp only[DataW.weightsAll,zVs]
  rcases zZf.1 hd with rfl|hd
  ·exact .inl hn
  ·exact .inr (RI hd n hn)
theorem Fits.one{t:TypeId}{v:Value}(h:Fits P w t v.cells.toList)(az:v.cells= #[v]){β:Nat->Value}{N:Nat}: ∃r,sU P t [r]/\bN w (nE w) [] β N (.ad r) v:=by
 obtain⟨rs,aa,ae,aw⟩:=h;rw[az]at ae
 match rs,ae,aa,aw with
 |[r],_,aa,aw=>
  have:=aw 0 r rfl;rw[az]at this;exact⟨r,aa,.ad _ _ (by simpa using this)⟩
def RJ(P:Program)(t:TypeId):Option (List TypeId):=
 match P.underlying t with
 |some (.struct fs)=>some (fs.toList.map (·.type))|_=>none
def RK(P:Program)(t:TypeId):Bool:=
 match P.underlying t with
 |some .bool=>true|some (.int _)=>true|some .string=>true|some (.slice _)=>true|_=>false
theorem zlP{r:Reach}{oa:Nat}{t:TypeId}{v:Value}(h:Value.okWide P w r oa t v)(ao:RK P t=true):v.cells= #[v]:=by
 unfold RK at ao
 split at ao
 ·rename_i hu
  simp only[Value.okWide,hu,Cell.okWide,Cell.ok]at h
  cases v<;>first|rfl|exact h.elim
 ·rename_i hu
  simp only[Value.okWide,hu,Cell.okWide,Cell.ok]at h
  cases v<;>first|rfl|exact h.elim
 ·rename_i hu
  simp only[Value.okWide,hu,Cell.okWide,Cell.ok]at h
  cases v<;>first|rfl|exact h.elim
 ·rename_i hu
  simp only[Value.okWide,hu,Cell.okWide,Cell.ok]at h
  cases v<;>first|rfl|exact h.elim
 ·cases ao
theorem zlQ{r:Reach}{oa:Nat}{t:TypeId}{v:Value}(h:Value.okWide P w r oa t v)(ao:(RJ P t).isSome=true): ∃cs,v= .agg cs:=by
 unfold RJ at ao
 split at ao
 ·rename_i hu
  simp only[Value.okWide,hu]at h;obtain⟨cs,rfl,_⟩:=h;exact⟨cs,rfl⟩
 ·cases ao
theorem zlR{w':World}{p:MemPlace}(ar:p.block<w.heap.size)(h: ∀b,b<w.heap.size->w'.heap[b]? =w.heap[b]?):w.sameAt w' p:=by
 cases p with
 |cell b off=>exact World.cell?_of_block (a:=⟨b,off,none⟩) (h b ar)
 |map b=>exact h b ar
theorem zaI{w':World}(h: ∀b,b<w.heap.size->w'.heap[b]? =w.heap[b]?){base:Nat}{sp:Nat->Bool}{held:Bool}: ∀{ts:List TypeId} {vs:List Value} {ds:List (DataW H)} {ps:List MemPlace},DataW.TrodAll enc P w base sp held ts vs ds ps->DataW.TrodAll enc P w' base sp held ts vs ds ps
 |[],[],[],_,h=>h|_::_,_::_,_::_,_,⟨p,q,⟨n,hn⟩,ae,e⟩=>
  ⟨p,q,⟨n,DataW.trod_carry n _ _ _ hn λx hx=>zlR (DataW.trod_lt n _ _ _ hn x hx) h⟩,zaI h ae,e⟩
theorem zlS{w':World}{may:MemPlace->Prop}(aa:w'.os=w.os)(ae:w'.output=w.output)(h: ∀b,b<w.heap.size->w'.heap[b]? =w.heap[b]?):w.keptBut w' may:=by
 refine⟨aa,ae,λi hi=>?_⟩;rw[h i hi]
 cases hw:w.heap[i]? with
 |none=>rfl|some o=>
  cases o with
  |cells c t I1=>exact⟨rfl,rfl,rfl,λ_ _=>rfl⟩
  |map es clock=>exact .inr ⟨rfl,rfl⟩|_=>rfl
theorem zlT{G:aV}{f:FuncId}{fn:Func}{s:ChangeSpec}{args:Array Value}{ds gs:List (DataW H)}{before:List MemPlace}{tb:TypeId}{avs':List aC}{β:Nat->Value}
 (mH:DataW.Whole enc P fn.params.toList s.vars false w args.toList ds gs before)(az:s.vars=[])(ao:s.fn H (ds++gs)={results:=[.lit (.bool true)],args:=ds})(ly:fn.resultTypes= #[tb])(RL:P.underlying tb=some .bool)
 (K:Kids P (· < P.types.size))(aW: ∀t e,t<P.types.size->P.underlying t=some (.slice e)->0<P.cellsOf e)(uS: ∀t∈fn.params.toList,t<P.types.size)
 (hlen:args.size=avs'.length)(jV: ∀i x,avs'[i]? =some x->bN w (nE w) [] β 0 x (args.getD i undef))(RM:qI w (nE w) G)(hc:fa P G f avs' [] 0 λr cu=>r=yA true/\cu=[]):
 Calls P f args w λe w'=>∃v,e= .returned v/\s.post enc P fn false true false false w args v w':=by
 refine Calls.mono (hc w β (nE w) args hlen jV ⟨by simp[aF],by simp[aF],λb _ ⟨_,_,ai,_⟩=>by simp[aF]at ai,λb af=>af⟩ RM (by simp[aF])) λe w' aB=>?_
 obtain⟨v,r,cZ,cS,ro',b0,rfl,⟨rfl,rfl⟩,dO,_,aJ⟩:=aB;obtain rfl:=bN.val dO;have a8: ∀b,b<w.heap.size->w'.heap[b]? =w.heap[b]? :=λb af=>aJ.frame b af λ⟨_,_,ai,_⟩=>by simp[aF]at ai
 refine⟨_,rfl,ds,gs,before,[],before,[],mH,?_,?_,?_,zlS aJ.os aJ.output a8,λh=>by cases h⟩
 ·rw[ao,ly]
  exact trodAll_mk1 (shut_bool RL true)
 ·rw[ao]
  have bR: ∀p∈before,(λb=>decide (b<w.heap.size)) p.block=true:=λp ar=>by simpa using mH.lt p ar
  obtain⟨p,q,aa,ae,rfl,_⟩:=mH;rw[az]at ae
  have aB:q=[]:=by
   cases gs with
   |nil=>exact ae|cons=>cases ae
  subst aB;rw[zV3]at bR⊢;exact zaI a8 (aa.respare K aW uS bR)
 ·rw[ao,az]
  rfl
end
end Go.aH
namespace Go.aH
open Go Go.ChangeShapes Go.WideShapes
def CO:List (Option (List a6))->Option (List a6)
 |[]=>some []|none::_=>none|some l::r=>match CO r with
  |some m=>some (l++m)|none=>none
def Gp:List a6->List a6->Bool
 |[],[]=>true|a::l,b::m=>jO a b&&Gp l m|_,_=>false
theorem RN: ∀{l m:List a6},Gp l m=true->l=m
 |[],[],_=>rfl|[],_::_,h=>by cases h
 |_::_,[],h=>by cases h
 |a::l,b::m,h=>by
  simp only[Gp,zZr]at h;rw[jr h.1,RN h.2]
def lh(P:Program)(T:List (Nat × bZ)):Nat->TypeId->Option (List a6)
 |0,_=>none|n+1,t=>match P.underlying t with
  |some .bool=>some [.bool]|some (.int k)=>some [.int k]|some .string=>some [.str]|some (.slice e)=>match sI T e with
   |some c=>match Nat.beq (P.cellsOf e) (dE c)with
    |true=>some [.li c]|false=>none
   |none=>none
  |some (.array k e)=>CO (zZz k (lh P T n e))|some (.struct fs)=>CO (fs.toList.map λf=>lh P T n f.type)
  |_=>none
def Gq(P:Program)(T:List (Nat × bZ)):Bool:=T.all λq=>match lh P T 20 q.1 with
 |some l=>Gp l (fR q.2)|none=>false
inductive vU:List (List a7)->List (List a7)->Prop where
 |nil:vU [] []
 |cons {x y:List a7} {xs ys:List (List a7)}:im x y->vU xs ys->vU (x::xs) (y::ys)
theorem vU.flat{xs ys:List (List a7)}(h:vU xs ys):im xs.flatten ys.flatten:=by
 induction h with
 |nil=>exact .nil|cons h _ bb=>rw[zYs,zYs];exact h.append bb
theorem vU.len{xs ys:List (List a7)}(h:vU xs ys):xs.length=ys.length:=by
 induction h with
 |nil=>rfl|cons h _ bb=>simp[bb]
theorem zlU{c:bZ}{n:Nat}{es:List (List a7)}{l:List (hY c)}(hn:n=dE c)(h:vU es (l.map (dr c))):oQ (.aq n es) (.li c l):=by
 subst hn;intro w ro v ah;refine .li _ _ _ ?_
 cases ah with
 |aq _ _ b cap zlV aa ae aw aN bx=>
  have hlen:(l.map (dr c)).length=es.length:=h.len.symm;rw[<-hlen];refine .aq _ _ b cap zlV (by omega) ae (λe he=>?_) (λar=>?_) λj y aj=>?_
  ·obtain⟨x,_,rfl⟩:=List.mem_map.1 he
   exact Jn c x
  ·rw[hlen]at ar⊢
   exact aN ar
  ·obtain⟨x,hx,ao⟩:=h.flat.at.2 j y aj
   exact ao _ _ _ (bx j x hx)
section
variable {P:Program} {T:List (Nat × bZ)}
theorem zaJ: ∀{T:List (Nat × bZ)} {e:Nat} {c:bZ},sI T e=some c->(e,c)∈T
 |(x,d)::r,e,c,h=>by
  unfold sI at h
  split at h
  ·rename_i hx
   cases h;rw[<-zWi hx];exact zVa
  ·exact zVj _ (zaJ h)
theorem zlW(dt:Gq P T=true){e:TypeId}{c:bZ}(h:sI T e=some c):lh P T 20 e=some (fR c):=by
 have:=zZ2.1 dt _ (zaJ h);simp only at this
 split at this
 ·rename_i l au
  rw[au,RN this]
 ·cases this
def RO(P:Program)(T:List (Nat × bZ))(t:TypeId):Option a6:=
 match(RJ P t).isSome with
 |true=>match sI T t,lh P T 20 t with
  |some c,some l=>match Gp l (fR c)with
   |true=>some (.st c)|false=>none
  |_,_=>none
 |false=>match RK P t,lh P T 20 t with
  |true,some [r]=>match r.one with
   |true=>some r|false=>none
  |_,_=>none
def vV(t:Nat):List Nat->Bool
 |[]=>false|x::r=>Nat.beq x t||vV t r
theorem zaK{t:Nat}: ∀{S:List Nat},vV t S=true->t∈S
 |x::r,h=>by
  simp only[vV,Bool.or_eq_true]at h
  rcases h with h|h
  ·rw[zWi h];exact zVa
  ·exact zVj _ (zaK h)
def RP(P:Program)(S:List TypeId)(t:TypeId):Bool:=decide (t<P.types.size)&&match P.underlying t with
 |some .bool=>true|some (.int _)=>true|some .string=>true|some (.slice e)=>vV e S|some (.array _ e)=>vV e S|some (.struct fs)=>fs.toList.all λf=>vV f.type S
 |_=>false
def RQ(P:Program):Nat->List TypeId->List TypeId->List TypeId
 |0,S,_=>S|_+1,S,[]=>S|n+1,S,t::r=>match vV t S with
  |true=>RQ P n S r
  |false=>RQ P n (t::S) (match P.underlying t with
   |some (.slice e)=>e::r|some (.array _ e)=>e::r|some (.struct fs)=>fs.toList.map (·.type)++r
   |_=>r)
def RR(P:Program)(t:TypeId):Bool:=match RQ P 400 [] [t]with
 |S=>vV t S&&S.all (RP P S)
def xR(P:Program)(T:List (Nat × bZ)):List TypeId->Option (List a6)
 |[]=>match Gq P T with
  |true=>some []|false=>none
 |t::ts=>match RR P t,RO P T t,xR P T ts with
  |true,some r,some rs=>some (r::rs)|_,_,_=>none
theorem zaL: ∀{ts:List TypeId} {rs:List a6},xR P T ts=some rs->Gq P T=true
 |[],_,h=>by
  unfold xR at h
  split at h
  ·assumption
  ·cases h
 |_::_,_,h=>by
  unfold xR at h
  split at h
  ·rename_i hZ
   exact zaL hZ
  ·cases h
variable {H:Type} {enc:TypeId × Value->H} {w:World}
end
end Go.aH
namespace Go.aH
open Go Go.ChangeShapes Go.WideShapes Go.RowKit Go.Proofs.YtddeffoppnlafaaGreat.Rows
inductive od (P:Program) (B:Nat):TypeId->List a7->Prop where
 |bool {t:TypeId} (b:Bool):P.underlying t=some .bool->od P B t [.v (.bool b)]
 |int {t:TypeId} {k:IntKind} (n:Int):P.underlying t=some (.int k)->(Lit.int k n).wf=true->od P B t [.v (.int k n)]
 |str {t:TypeId} (s:ByteArray):P.underlying t=some .string->s.size<=B->od P B t [.v (.string s)]
 |slice {t e:TypeId} (es:List (List a7)):P.underlying t=some (.slice e)->es.length<=B->(∀x∈es,od P B e x)->od P B t [.aq (P.cellsOf e) es]
 |struct {t:TypeId} {fs:Array Field} (parts:List (List a7)):P.underlying t=some (.struct fs)->parts.length=fs.toList.length->(∀(i:Nat) (f:Field) (p:List a7),fs.toList[i]? =some f->parts[i]? =some p->od P B f.type p)->od P B t parts.flatten
 |array {t e:TypeId} {n:Nat} (parts:List (List a7)):P.underlying t=some (.array n e)->parts.length=n->(∀p∈parts,od P B e p)->od P B t parts.flatten
section
variable {H:Type} {enc:TypeId × Value->H} {P:Program} {B:Nat} {w:World}
def qB(P:Program)(B:Nat)(w:World)(t:TypeId)(cs:List Value):Prop:=∃rs,od P B t rs/\rs.length=cs.length/\∀j r,rs[j]? =some r->dq w (nE w) r (cs.getD j undef)
theorem zaM: ∀(fs:List Field) (off:Nat) (cs:List Value),(∀(j:Nat) (f:Field),fs[j]? =some f->f.offset=off+((fs.take j).map λf=>P.cellsOf f.type).sum)->
 (∀f∈fs,qB P B w f.type ((cs.drop f.offset).take (P.cellsOf f.type)))->off+(fs.map λf=>P.cellsOf f.type).sum<=cs.length->
 ∃parts:List (List a7),parts.length=fs.length/\(∀(i:Nat) (f:Field) (p:List a7),fs[i]? =some f->parts[i]? =some p->od P B f.type p)/\parts.flatten.length=(fs.map λf=>P.cellsOf f.type).sum/\
  ∀j r,parts.flatten[j]? =some r->dq w (nE w) r (cs.getD (off+j) undef)
 |[],off,cs,_,_,_=>⟨[],rfl,by simp,by simp,by simp⟩|f::fs,off,cs,av,hf,au=>by
  have aP:f.offset=off:=by have:=av 0 f rfl;simpa using this
  obtain⟨rs,aa,ae,aw⟩:=hf f (by simp)
  simp only[zXq,zV4]at au;have hlen:rs.length=P.cellsOf f.type:=by rw[ae,aP];simp;omega
  obtain⟨parts,g1,g2,g3,g4⟩:=zaM fs (off+P.cellsOf f.type) cs (λj q aB=>by
   have:=av (j+1) q (by simpa using aB)
   simp only[List.take_succ_cons,zXq,zV4]at this
   omega) (λq aB=>hf q (by simp[aB])) (by omega)
  refine⟨rs::parts,by simp[g1],λi q p aB ar=>?_,by simp[g3,hlen],λj r aj=>?_⟩
  ·cases i with
   |zero=>
    simp at aB ar;subst aB;subst ar;exact aa
   |succ i=>exact g2 i q p (by simpa using aB) (by simpa using ar)
  ·rw[zYs]at aj
   by_cases dv:j<rs.length
   ·rw[zYr dv]at aj
    have:=aw j r aj;have EI:j<P.cellsOf f.type:=by omega
    rw[aP]at this;simpa[zZ8,zYk,zYn,EI]using this
   ·rw[zYq (by omega)]at aj
    have:=g4 _ r aj;rw[show off+P.cellsOf f.type+(j-rs.length)=off+j from by omega]at this
    exact this
theorem RS{e:TypeId}(n:Nat): ∀(k:Nat) (Gr:Nat->List Value),(∀i,i<k->qB P B w e (Gr i)/\(Gr i).length=n)->
 ∃es:List (List a7),es.length=k/\(∀x∈es,od P B e x/\x.length=n)/\∀j r,es.flatten[j]? =some r->dq w (nE w) r ((Gr (j/ n)).getD (j%n) undef)
 |0,_,_=>⟨[],rfl,by simp,by simp⟩|k+1,Gr,h=>by
  obtain⟨⟨rs,aa,ae,aw⟩,hn⟩:=h 0 (by omega)
  obtain⟨es,g1,g2,g3⟩:=RS n k (λi=>Gr (i+1)) λi hi=>h (i+1) (by omega)
  refine⟨rs::es,by simp[g1],λx hx=>?_,λj r aj=>?_⟩
  ·rcases zZf.1 hx with rfl|hx
   ·exact⟨aa,by omega⟩
   ·exact g2 x hx
  ·rw[zYs]at aj
   by_cases dv:j<rs.length
   ·rw[zYr dv]at aj
    have sd:j<n:=by omega
    rw[Nat.div_eq_of_lt sd,Nat.mod_eq_of_lt sd];exact aw j r aj
   ·rw[zYq (by omega)]at aj
    have:=g3 _ r aj
    have CP:0<n:=by
     rcases zXy n with aP|aP
     ·exfalso
      have se:es.flatten.length=es.length*n:=jZ λx hx=>(g2 x hx).2;have:=(zZ1.1 aj).1;rw[se,aP]at this;simp at this
     ·exact aP
    have aE:j-rs.length=j-n:=by omega
    rw[aE]at this;have bc:(j-n)/ n+1=j/ n:=(Nat.div_eq_sub_div CP (by omega)).symm
    have cJ:(j-n)%n=j%n:=(Nat.mod_eq_sub_mod (by omega)).symm
    simp only[bc,cJ]at this;exact this
theorem Gs{t:TypeId}{r:a7}{c:Value}(h:od P B t [r])(ah:dq w (nE w) r c):qB P B w t [c]:=
 ⟨[r],h,rfl,λj x aj=>by
  cases j with
  |zero=>simp at aj;subst aj;exact ah
  |succ j=>simp at aj⟩
theorem RT{d:DataW H}{l:List (DataW H)}(h:d∈l):uptoBulk d<=uptoBulkAll l:=by
 induction l with
 |nil=>cases h
 |cons x r bb=>
  simp only[uptoBulkAll]
  cases zZf.1 h with
  |inl e=>subst e;omega|inr e=>have:=bb e;omega
theorem zlX(d:DataW H):1<=uptoBulk d:=by
 cases d with
 |lit l=>cases l<;>simp[uptoBulk]
 |nil=>simp[uptoBulk]|ptr d=>simp[uptoBulk]|slice elems spare=>simp[uptoBulk]|agg parts=>simp[uptoBulk]|iface t d=>simp[uptoBulk]|map entries=>simp[uptoBulk]|held h=>simp[uptoBulk]
theorem zlY(l:List (DataW H)):l.length<=uptoBulkAll l:=by
 induction l with
 |nil=>simp[uptoBulkAll]|cons x r bb=>have:=zlX x;simp only[uptoBulkAll,List.length_cons];omega
end
section
variable {P:Program} {T:List (Nat × bZ)} {B:Nat}
variable {H:Type} {enc:TypeId × Value->H} {w:World}
theorem qB.agg{t:TypeId}{cs:Array Value}(h:qB P B w t cs.toList){β:Nat->Value}{N:Nat}: ∃rs,od P B t rs/\bN w (nE w) [] β N (.agg (zhs rs)) (.agg cs):=by
 obtain⟨rs,aa,ae,aw⟩:=h;refine⟨rs,aa,.agg _ cs (by simpa using ae.symm) λj x aj=>?_⟩
 rw[zYo]at aj
 cases ah:rs[j]? with
 |none=>simp[ah]at aj|some r=>
  simp[ah]at aj;subst aj;have:=aw j r ah;exact .ad _ _ (by simpa[zZ8,zYf]using this)
theorem qB.one{t:TypeId}{v:Value}(h:qB P B w t v.cells.toList)(az:v.cells= #[v]){β:Nat->Value}{N:Nat}: ∃r,od P B t [r]/\bN w (nE w) [] β N (.ad r) v:=by
 obtain⟨rs,aa,ae,aw⟩:=h;rw[az]at ae
 match rs,ae,aa,aw with
 |[r],_,aa,aw=>
  have:=aw 0 r rfl;rw[az]at this;exact⟨r,aa,.ad _ _ (by simpa using this)⟩
theorem zlZ(K:Kids P (· < P.types.size)){S:List TypeId}(hS:S.all (RP P S)=true): ∀(n:Nat) (t:TypeId) (cs:List Value) (x:DataW H × List MemPlace) {base:Nat} {sp:Nat->Bool} {held:Bool},vV t S=true->
 DataW.trod enc P w base sp held n t cs=some x->(∀q∈x.1.weights P t,q<=reachBytes)->uptoBulk x.1<=B->qB P B w t cs:=by
 intro n
 induction n using Nat.strongRecOn with
 |ind n RU=>
 intro t cs x base sp held aJ h gm bp;have ar:=zZ2.1 hS t (zaK aJ);simp only[RP,zZr,decide_eq_true_eq]at ar;obtain⟨ea,ar⟩:=ar
 cases hu:P.underlying t with
 |none=>rw[hu]at ar;cases ar
 |some d=>
  rw[hu]at ar
  cases d with
  |bool=>
   obtain⟨b,rfl,_⟩:=DataW.trod_bool hu h;exact Gs (.bool b hu) (.v _ rfl)
  |int k=>
   obtain⟨b,rfl,_,hw⟩:=DataW.trod_int hu h;exact Gs (.int b hu hw) (.v _ rfl)
  |string=>
   obtain⟨b,rfl,hx,hw⟩:=DataW.trod_string hu h;rw[hx]at gm;rw[hx]at bp;exact Gs (.str b hu (by simp only[uptoBulk,zYg]at bp;have:b.data.size=b.size:=rfl;omega)) (.v _ rfl)
  |slice e=>
   rcases DataW.trod_slice hu h with⟨rfl,_⟩|⟨a,len,cap,elems,rest,k,rfl,rfl,hx,_,hle,kE,q3,fM,_⟩
   ·exact Gs (.slice [] hu (zXx _) (by simp)) (.aq _ [] none 0 (λ_=>undef) (Nat.le_refl _) (zXx _) (by simp) (by simp) (by simp))
   ·rw[hx]at gm bp
    simp only[uptoBulk]at bp;simp only[DataW.weights,hu,zZf,zVs,zXe]at gm;have Je:len*P.bytesOf e<=reachBytes:=zZx (zYb _ (by rw[q3];exact Nat.le_add_right _ _)) (gm _ (.inl rfl))
    have zaN: ∀i,i<len->∃l,w.cells? base (a.add (i*P.cellsOf e)) (P.cellsOf e)=some l/\qB P B w e l:=by
     intro i hi;have aa:=fM i hi;rw[zZa (by omega)]at aa
     cases hc:w.cells? base (a.add (i*P.cellsOf e)) (P.cellsOf e)with
     |none=>rw[hc]at aa;cases aa
     |some l=>rw[hc]at aa;exact⟨l,rfl,RU k (zYi _) e l _ ar aa (λq aB=>gm q (.inr (.inl (RI (zV0 (zXj _)) q aB)))) (zZx (RT (l:=elems.map (λx=>x.fst)) (zV0 (zXj _))) (by omega))⟩
    obtain⟨es,g1,g2,g3⟩:=RS (P:=P) (w:=w) (e:=e) (P.cellsOf e) len (λi=>(w.cells? base (a.add (i*P.cellsOf e)) (P.cellsOf e)).getD []) λi hi=>by
     obtain⟨l,aa,ae⟩:=zaN i hi;rw[aa];exact⟨ae,(zaH aa).1⟩
    have hlen:es.length=len:=g1;refine Gs (.slice es hu (by have:=zlY (elems.map (·.1));rw[zXe]at this;omega) λx hx=>(g2 x hx).1) ?_
    rw[<-hlen];refine .aq _ es (some a) cap (λj=>((w.cells? base (a.add (j/ P.cellsOf e*P.cellsOf e)) (P.cellsOf e)).getD []).getD (j%P.cellsOf e) undef) (by omega) kE (λx hx=>(g2 x hx).2) (λ_=>⟨a,rfl,λj aj=>?_⟩) g3
    have CP:0<P.cellsOf e:=by
     rcases zXy (P.cellsOf e)with aP|aP
     ·rw[aP]at aj;simp at aj
     ·exact aP
    have nk:j/ P.cellsOf e<len:=by rw[Nat.div_lt_iff_lt_mul CP];rw[hlen]at aj;exact aj
    have nj:j%P.cellsOf e<P.cellsOf e:=zXl _ CP;obtain⟨l,aa,_⟩:=zaN _ nk;obtain⟨ae,aw⟩:=zaH aa;have aN:=aw _ nj;rw[Bm,zXn,zXm]at aN;rw[aa]
    have bx:w.cell? (a.add j)=some (l.getD (j%P.cellsOf e) undef):=by
     rw[aN];have:j%P.cellsOf e<l.length:=by omega
     simp[zZ8,zZa this]
    exact⟨by have:=zlO bx;rwa[w8]at this,bx⟩
  |array k e=>
   obtain⟨xs,q,rfl,hx,fv,oO,fM⟩:=DataW.trod_array hu h;rw[hx]at gm bp;simp only[uptoBulk]at bp;simp only[DataW.weights,hu]at gm
   obtain⟨es,g1,g2,g3⟩:=RS (P:=P) (w:=w) (e:=e) (P.cellsOf e) k (λi=>(cs.drop (i*P.cellsOf e)).take (P.cellsOf e)) λi hi=>by
    have aa:=fM i hi;rw[zZa (by omega)]at aa
    refine⟨RU q (zYi _) e _ _ ar aa (λz aW=>gm z (RI (zV0 (zXj _)) z aW)) (zZx (RT (l:=xs.map (λx=>x.fst)) (zV0 (zXj _))) (by omega)),?_⟩
    have ae:=zYb (P.cellsOf e) (show i+1<=k from hi)
    rw[Nat.succ_mul]at ae;have:=(K.array ea hu).2;simp;omega
   refine⟨es.flatten,.array es hu g1 λp ar=>(g2 p ar).1,?_,λj r aj=>?_⟩
   ·rw[jZ λx hx=>(g2 x hx).2,g1,fv,(K.array ea hu).2]
   ·have:=g3 j r aj
    have dv:=(zZ1.1 aj).1
    have CP:0<P.cellsOf e:=by
     rcases zXy (P.cellsOf e)with aP|aP
     ·rw[jZ λx hx=>(g2 x hx).2,aP]at dv;simp at dv
     ·exact aP
    have nj:j%P.cellsOf e<P.cellsOf e:=zXl _ CP;have hm:j/ P.cellsOf e*P.cellsOf e+j%P.cellsOf e=j:=by rw[zXn];exact zXm _ _
    simpa[zZ8,zYk,zYn,nj,hm]using this
  |struct fs=>
   obtain⟨xs,q,rfl,hx,fv,oO,fM⟩:=DataW.trod_struct hu h;rw[hx]at gm bp;simp only[uptoBulk]at bp;simp only[DataW.weights,hu]at gm;obtain⟨_,xS,EJ⟩:=K.struct ea hu
   obtain⟨parts,g1,g2,g3,g4⟩:=zaM (P:=P) (w:=w) fs.toList 0 cs (λj f hf=>by rw[EJ j f hf];simp) (λf hf=>by
    obtain⟨i,hi,rfl⟩:=List.mem_iff_getElem.1 hf;have zl0:fs[i]? =some fs.toList[i]:=by simp at hi;simp[hi]
    have aa:=fM i _ zl0;have KG:i<xs.length:=by rw[oO];simpa using hi
    rw[zZa KG]at aa;rw[zZ2]at ar
    exact RU q (zYi _) _ _ _ (ar _ (zXj hi)) aa (λz aW=>gm z (DataW.weights_mem_each (j:=i) (by rw[zYo,zZa hi];rfl) (by rw[zYo,zZa KG];rfl) z aW)) (zZx (RT (l:=xs.map (λx=>x.fst)) (zV0 (zXj _))) (by omega))) (by rw[fv,xS];omega)
   exact⟨parts.flatten,.struct parts hu g1 g2,by rw[g3,fv,xS],λj r aj=>by have:=g4 j r aj;simpa using this⟩
  |_=>cases ar
theorem zl1(K:Kids P (· < P.types.size)){t:TypeId}(ar:RR P t=true){v:Value}{d:DataW H}{ps:List MemPlace}{base:Nat}{sp:Nat->Bool}{held:Bool}(h:DataW.Trod enc P w base sp held t v d ps)(gm: ∀q∈d.weights P t,q<=reachBytes)(bp:uptoBulk d<=B):qB P B w t v.cells.toList:=by
 obtain⟨n,hn⟩:=h;unfold RR at ar;simp only[zZr]at ar;exact zlZ K ar.2 n t _ _ ar.1 hn gm bp
inductive hr (B:Nat):aK->Prop where
 |int (k:IntKind) (x:Int):(Lit.int k x).wf=true->hr B ⟨.int k,x⟩
 |bool (b:Bool):hr B ⟨.bool,b⟩
 |str (s:ByteArray):s.size<=B->hr B ⟨.str,s⟩
 |li (c:bZ) (l:List (hY c)):l.length<=B->(∀x∈l,∀d∈hN c x,hr B d)->hr B ⟨.li c,l⟩
theorem RV{n:Nat}: ∀(ts:List TypeId) (parts:List (List a7)) {l:List a6},parts.length=ts.length->(∀(i:Nat) (t:TypeId) (p:List a7),ts[i]? =some t->parts[i]? =some p->∀{l:List a6},lh P T n t=some l->∃ds:List aK,ds.map aK.r=l/\im p (ds.map aK.ad)/\∀d∈ds,hr B d)->CO (ts.map (lh P T n))=some l->
 ∃ds:List aK,ds.map aK.r=l/\im parts.flatten (ds.map aK.ad)/\∀d∈ds,hr B d
 |[],parts,l,au,_,hc=>by
  cases List.eq_nil_of_length_eq_zero au
  cases hc;exact⟨[],rfl,.nil,by simp⟩
 |t::ts,[],l,au,_,_=>by cases au
 |t::ts,p::parts,l,au,ao,hc=>by
  simp only[zXq]at hc
  cases aa:lh P T n t with
  |none=>rw[aa]at hc;cases hc
  |some DT=>
   rw[aa]at hc;simp only[CO]at hc
   cases ae:CO (ts.map (lh P T n))with
   |none=>rw[ae]at hc;cases hc
   |some yp=>
    rw[ae]at hc;cases hc;obtain⟨d1,cw,a2,a3⟩:=ao 0 t p rfl rfl aa;obtain⟨d2,e6,gl,iB⟩:=RV ts parts (by simpa using au) (λi t p hi ar=>ao (i+1) t p (by simpa using hi) (by simpa using ar)) ae
    refine⟨d1++d2,by simp[cw,e6],by rw[zYs,List.map_append];exact a2.append gl,λd hd=>?_⟩
    rcases zVs.1 hd with hd|hd
    ·exact a3 d hd
    ·exact iB d hd
theorem zaO{c:bZ}: ∀(es:List (List a7)),(∀x∈es,∃ds:List aK,ds.map aK.r=fR c/\im x (ds.map aK.ad)/\∀d∈ds,hr B d)->∃l:List (hY c),vU es (l.map (dr c))/\∀x∈l,∀d∈hN c x,hr B d
 |[],_=>⟨[],.nil,by simp⟩|x::es,h=>by
  obtain⟨ds,cw,a2,a3⟩:=h x (by simp)
  obtain⟨l,e6,gl⟩:=zaO es λy aA=>h y (by simp[aA])
  have hc:hN c (so c ds)=ds:=Jp c ds cw;refine⟨so c ds::l,.cons (by unfold dr;rw[hc];exact a2) e6,λy aA d hd=>?_⟩
  rcases zZf.1 aA with rfl|aA
  ·rw[hc]at hd
   exact a3 d hd
  ·exact gl y aA d hd
theorem zaP(dt:Gq P T=true){t:TypeId}{rs:List a7}(h:od P B t rs): ∀(n:Nat) {l:List a6},lh P T n t=some l->∃ds:List aK,ds.map aK.r=l/\im rs (ds.map aK.ad)/\∀d∈ds,hr B d:=by
 induction h with
 |bool b hu=>
  intro n l hf
  cases n with
  |zero=>cases hf
  |succ n=>
   unfold lh at hf;rw[hu]at hf;cases hf;exact⟨[⟨.bool,b⟩],rfl,.cons (oQ.refl _) .nil,λd hd=>by cases zW0.1 hd;exact .bool b⟩
 |int x hu hw=>
  intro n l hf
  cases n with
  |zero=>cases hf
  |succ n=>
   unfold lh at hf;rw[hu]at hf;cases hf;exact⟨[⟨.int _,x⟩],rfl,.cons (oQ.refl _) .nil,λd hd=>by cases zW0.1 hd;exact .int _ _ hw⟩
 |str s hu hw=>
  intro n l hf
  cases n with
  |zero=>cases hf
  |succ n=>
   unfold lh at hf;rw[hu]at hf;cases hf;exact⟨[⟨.str,s⟩],rfl,.cons (oQ.refl _) .nil,λd hd=>by cases zW0.1 hd;exact .str _ hw⟩
 |slice es hu au hw bb=>
  intro n l hf
  cases n with
  |zero=>cases hf
  |succ n=>
   unfold lh at hf;rw[hu]at hf;simp only at hf
   split at hf
   ·rename_i c ae
    split at hf
    ·rename_i hc
     cases hf;obtain⟨l,cw,a2⟩:=zaO (c:=c) es λx hx=>bb x hx 20 (zlW dt ae);refine⟨[⟨.li c,l⟩],rfl,.cons (zlU (zWi hc) cw) .nil,λd hd=>?_⟩
     cases zW0.1 hd
     exact .li _ _ (by have:=cw.len;rw[zXe]at this;omega) a2
    ·cases hf
   ·cases hf
 |struct parts hu aa ae bb=>
  intro n l hf
  cases n with
  |zero=>cases hf
  |succ n=>
   unfold lh at hf;rw[hu]at hf;simp only at hf;rename_i fs;have hm:(fs.toList.map λf=>lh P T n f.type)=(fs.toList.map (·.type)).map (lh P T n):=by rw[List.map_map];rfl
   rw[hm]at hf
   exact RV _ parts (by rw[zXe];exact aa) (λi u p hi ar l au=>by
    rw[zYo]at hi
    cases RX:fs.toList[i]? with
    |none=>rw[RX]at hi;cases hi
    |some f=>
     rw[RX]at hi;cases hi
     exact bb i f p RX ar n au) hf
 |array parts hu aa ae bb=>
  intro n l hf
  cases n with
  |zero=>cases hf
  |succ n=>
   unfold lh at hf;rw[hu]at hf;simp only at hf;rename_i e k;have hm:zZz k (lh P T n e)=(zZz k e).map (lh P T n):=by rw[List.map_replicate]
   rw[hm]at hf
   exact RV _ parts (by rw[List.length_replicate];exact aa) (λi u p hi ar l au=>by
    have:=zZ4 hi
    cases (List.mem_replicate.1 this).2
    exact bb p (zZ4 ar) n au) hf
def tE(B:Nat)(d:aK):Prop:=
 match d with
 |⟨.st c,x⟩=>∀q∈hN c x,hr B q|d=>hr B d
theorem zl2{β:Nat->Value}{t:TypeId}{v:Value}{r:a6}{reach:Reach}{oa:Nat}(hf:qB P B w t v.cells.toList)(az:Value.okWide P w reach oa t v)(dt:Gq P T=true)(h:RO P T t=some r): ∃x:r.den,bN w (nE w) [] β 0 (aK.cI ⟨r,x⟩) v/\tE B ⟨r,x⟩:=by
 unfold RO at h
 split at h
 ·rename_i ao
  split at h
  ·rename_i c l _ au
   split at h
   ·rename_i hc
    cases h;obtain rfl:=RN hc;obtain⟨cs,rfl⟩:=zlQ az ao;obtain⟨rs,g1,g2⟩:=qB.agg (P:=P) (w:=w) (cs:=cs) hf (β:=β) (N:=0);obtain⟨ds,cw,a2,a3⟩:=zaP dt g1 20 au
    have hc:hN c (so c ds)=ds:=Jp c ds cw;refine⟨so c ds,?_,λq aB=>a3 q (by rw[<-hc];exact aB)⟩
    have zR:aK.cI ⟨.st c,so c ds⟩= .agg ((ds.map aK.ad).map .ad):=by
     show aC.agg ((dr c (so c ds)).map .ad)=_;unfold dr;rw[hc]
    rw[zR];exact(im.cI a2).agg _ _ _ _ _ _ g2
   ·cases h
  ·cases h
 ·split at h
  ·rename_i e5 av au
   split at h
   ·rename_i aa
    cases h;obtain⟨y,g1,g2⟩:=qB.one (P:=P) (w:=w) hf (zlP az av) (β:=β) (N:=0);obtain⟨ds,cw,a2,a3⟩:=zaP dt g1 20 au;obtain⟨d,sr,rfl,rfl,hn⟩:=oP cw
    cases py hn
    cases a2 with
    |cons ao _=>
     have e1:=zao aa;refine⟨d.v,?_,?_⟩
     ·show bN w (nE w) [] β 0 (aK.cI d) v
      have:aK.cI d= .ad d.ad:=zan (x:=d.v) e1;rw[this];exact ao.cI _ _ _ _ _ _ g2
     ·have:=a3 d (zW0.2 rfl)
      unfold tE
      split
      ·rename_i c x heq
       exact absurd (congrArg aK.r heq) (e1 c)
      ·exact this
   ·cases h
  ·cases h
theorem zaQ(K:Kids P (· < P.types.size)){β:Nat->Value}{base oa:Nat}{sp:Nat->Bool}{held:Bool}{reach:Reach}: ∀{ts:List TypeId} {vs:List Value} {ds:List (DataW H)} {ps:List MemPlace} {rs:List a6},DataW.TrodAll enc P w base sp held ts vs ds ps->xR P T ts=some rs->
 (∀q∈DataW.weightsEach P ts ds,q<=reachBytes)->uptoBulkAll ds<=B->(∀(j:Nat) t v,ts[j]? =some t->vs[j]? =some v->Value.okWide P w reach oa t v)->
 ds.length=ts.length/\∃dl:List aK,dl.map aK.r=rs/\dl.length=vs.length/\(∀(j:Nat) x,(dl.map aK.cI)[j]? =some x->∃v,vs[j]? =some v/\bN w (nE w) [] β 0 x v)/\∀d∈dl,tE B d
 |[],vs,ds,ps,rs,h,ar,_,_,_=>by
  obtain⟨rfl,rfl,rfl⟩:=trodAll_nil h;unfold xR at ar
  split at ar
  rotate_left
  ·cases ar
  cases ar;exact⟨rfl,[],rfl,rfl,by simp,by simp⟩
 |t::ts,vs,ds,ps,rs,h,ar,hw,af,av=>by
  obtain⟨v,zo8,d,sr,p,q,rfl,rfl,rfl,aa,ae⟩:=trodAll_cons h;unfold xR at ar
  split at ar
  ·rename_i r zo9 vo ah hZ
   cases ar;obtain⟨g0,dl,g1,g2,g3,g4⟩:=zaQ K ae hZ (λq aB=>hw q (by rw[DataW.weightsEach];exact List.mem_append_right _ aB)) (by simp only[uptoBulkAll]at af;omega) λj br bC aj pY=>av (j+1) br bC (by simpa using aj) (by simpa using pY)
   obtain⟨x,cw,a2⟩:=zl2 (B:=B) (β:=β) (zl1 K vo aa (λq aB=>hw q (by rw[DataW.weightsEach];exact List.mem_append_left _ aB)) (by simp only[uptoBulkAll]at af;omega)) (av 0 t v rfl rfl) (zaL hZ) ah
   refine⟨by simp[g0],⟨r,x⟩::dl,by simp[g1],by simp[g2],λj y aj=>?_,λd hd=>?_⟩
   ·cases j with
    |zero=>simp at aj;subst aj;exact⟨v,rfl,cw⟩|succ j=>simpa using g3 j y (by simpa using aj)
   ·rcases zZf.1 hd with rfl|hd
    ·exact a2
    ·exact g4 d hd
  ·cases ar
theorem zl3{G:aV}{f:FuncId}{fn:Func}{s:ChangeSpec}{args:Array Value}{ds gs:List (DataW H)}{before:List MemPlace}{tb:TypeId}{oa:Nat}{reach:Reach}{m:bs}
 (mH:DataW.Whole enc P fn.params.toList s.vars false w args.toList ds gs before)(az:s.vars=[])(ao: ∀ds:List (DataW H),ds.length=fn.params.toList.length->s.fn H ds={results:=[.lit (.bool true)],args:=ds})
 (gm:(DataW.weightsEach P (fn.params.toList++s.plain.varTypes P) (ds++gs)).all (· <=reachBytes)=true)(rT: ∀(j:Nat) t v,fn.params[j]? =some t->args[j]? =some v->Value.okWide P w reach oa t v)
 (zl4:s.plain.varTypes P=[])(ly:fn.resultTypes= #[tb])(RL:P.underlying tb=some .bool)(K:Kids P (· < P.types.size))(aW: ∀t e,t<P.types.size->P.underlying t=some (.slice e)->0<P.cellsOf e)(uS: ∀t∈fn.params.toList,t<P.types.size)
 (vp:xR P T fn.params.toList=some m.ps)(RM:qI w (nE w) G)(hc:eU P G f m)(af:uptoBulkAll ds<=B)(hm: ∀x,(∀d∈eH m.ps x,tE B d)->p3 m.pre x/\oF m.rs (m.m x)=yA true):
 Calls P f args w λe w'=>∃v,e= .returned v/\s.post enc P fn false true false false w args v w':=by
 have zl5:=mH;obtain⟨p,q,ej,oe,rfl,_,_⟩:=mH;rw[az]at oe;obtain⟨rfl,rfl⟩:=trodVars_none oe;rw[zl4,zV3,zV3]at gm;obtain⟨nk,dl,cw,a2,a3,a4⟩:=zaQ (T:=T) (β:=λ_=>undef) K ej vp (λq aB=>by simpa using zZ2.1 gm q aB) af λj t v aj pY=>rT j t v (by simpa using aj) (by simpa using pY)
 have Gt:eH m.ps (cr m.ps dl)=dl:=zX cw;obtain⟨zl6,ah⟩:=hm (cr m.ps dl) (by rw[Gt];exact a4)
 have hP:=(hc (cr m.ps dl) zl6).frame (σ:=[]) (n:=0) (K2 _) λr cu ah=>by rw[ah];exact Ro
 refine zlT (β:=λ_=>undef) zl5 az (by rw[zV3];exact ao ds nk) ly RL K aW uS (avs':=qz m.ps (cr m.ps dl)) ?_ (λi x hx=>?_) RM (hP.res λr cu ⟨aa,_,ae⟩=>⟨ae.trans ah,aa⟩)
 ·unfold qz
  rw[Gt,zXe,a2];exact zYg.symm
 ·unfold qz at hx
  rw[Gt]at hx;obtain⟨v,aa,ae⟩:=a3 i x hx
  have:args.getD i undef=v:=by
   have uU:args[i]? =some v:=by simpa using aa
   rw[zYf,uU];rfl
  rw[this];exact ae
end
end Go.aH
