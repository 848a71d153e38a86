/- TE, part E: contracts out of trees, of functions that are handed an own box. Conditions: none. -/
import Derived.Test.YtmkpmgfieagphaaGreatDoorQTEd
import Derived.Test.YtmkpmgfieagphaaGreatDoorQTDa
import Derived.ProofKit
import Derived.LaidMore
import Derived.OpenShut
import Derived.MakeChecks
import Derived.ChangeArms
import Derived.ReadAgain
import Derived.ChangeBears
import Derived.Stop.Joined
import Derived.SizedLaws
import Derived.Shelf.Strings.Builder1
namespace Go.aK
open Go
section
variable {P:Program} {G:a8} {f:FuncId} {args:List aC} {t:TypeId} {σ:Heap} {R:aC→Heap→Prop}
theorem dE.zgu(h:dE P G f args σ 1 R){Q:aC→List aC→Prop}(fQ: ∀r bU,R r bU→∃v k5 cs,aD bU 0=some (.box t k5)∧fU k5 cs∧e3 cs=true∧Sub r v∧fD v=true∧Q v cs):
 dE P G f args σ 1 fun v bU=>∃cs,bU=[(0,.box t cs)]∧Q v cs:=by
 intro w β ro ea aa ae av aQ bL
 refine Calls.mono (h w β ro ea aa ae av aQ bL) fun e w' ⟨v,r,bU,dK,ro',cH,he,ag,dy,hG,cD⟩=>?_
 obtain⟨u,k5,cs,ah,gx,ak,hu,Mf,aJ⟩:=fQ r bU ag
 have xA: ∀{id:Nat} {o:eg},aD [(0,eg.box t cs)] id=some o→id=0∧o= .box t cs:=fun {id o} ah=>by
  simp only[aD]at ah
  split at ah
  ·rename_i hi;cases ah;exact⟨hi.symm,rfl⟩
  ·cases ah
 have own: ∀b,Own [(0,eg.box t cs)] dK b→Own bU dK b:=fun b ⟨id,o,rA,_,ad⟩=>by
  obtain⟨rfl,rfl⟩:=xA rA;exact⟨0,_,ah,rfl,ad⟩
 refine⟨v,u,[(0,.box t cs)],dK,ro',cH,he,⟨cs,rfl,aJ⟩,np (hu _ _ _ _ _ _ dy) Mf,⟨fun id o rA=>?_,fun id gp o cy b rA zgv _ _ _ _=>?_,fun b ad an=>hG.fe b ad (own b an),hG.lt⟩,
  ⟨cD.os,cD.tape,cD.output,cD.size,cD.frame,cD.jb,cD.jR,fun b ad=>cD.gY b (own b ad),fun id bb o rA=>?_,fun id o rA=>?_,cD.le⟩⟩
 ·obtain⟨rfl,rfl⟩:=xA rA
  have dj:=hG.c6 0 _ ah
  cases dj with
  |box _ _ b arr aA bh ct e1=>
   refine .box t cs b arr aA bh (by rw[ct,gx.at.1]) fun j x af=>?_
   obtain⟨y,ax,ai⟩:=gx.at.2 j x af;exact np (ai _ _ _ _ _ _ (e1 j y ax)) (mD ak af)
 ·rw[(xA rA).1,(xA zgv).1]
 ·obtain⟨rfl,rfl⟩:=xA rA
  exact cD.dJ 0 bb _ ah
 ·obtain⟨rfl,rfl⟩:=xA rA
  exact cD.new 0 _ ah
end
def sU(t:TypeId)(c:bF)(n:Nat):aq:=⟨.emp,[(0,.dm t (iI c 0 0 (eM c)))],1,n+1,[]⟩
def My(t:TypeId)(c:bF)(rs:List aU)(C:aq):Option (List ab):=
 match da C.h 0 with
 |some (.dm bz l)=>match(Nat.beq bz t&&hk (eM c) l)&&(Ms rs (C.at 0)&&sQ (uT rs (C.at 0)))with
  |true=>match ry C rs (uT rs (C.at 0))with
   |some xs=>some (.ch l::xs)
   |none=>none
  |false=>none
 |_=>none
def Mz(t:TypeId)(c:bF)(rs:List aU)(C:aq):Bool:=(My t c rs C).isSome
def T1(t:TypeId)(c:bF)(rs:List aU)(C:aq)(e:Env):(fa (.st c::rs)).den:=
 match My t c rs C with
 |some l=>b8 (.st c::rs) (gA e (.st c::rs) l)
 |none=>(fa (.st c::rs)).fv
def EA(M:List aR)(T:aB)(t:TypeId)(c:bF)(rs:List aU)(e:Env):(fa (.st c::rs)).den:=T.j9 M e (fun _ C ay=>T1 t c rs C ay) (fa (.st c::rs)).fv
section
variable {P:Program} {G:a8} {M:List aR} {inl:Nat→List ab→aq→aB}
theorem zgw{c:bF}{i k:Nat}(h:i<k):ab.cI k (iI c i 0 (eM c))=true:=Ep h
theorem zgx{rs:List aU}{S:aq}{e:Env}{xs:List ab}(aH:Ms rs (S.at 0)=true)(gf:sQ (uT rs (S.at 0))=true)(h:ry S rs (uT rs (S.at 0))=some xs):
 Sub ((S.at 0).den G e) (match(gA e rs xs).map aF.fk with|[v]=>v|l=>.tuple l):=by
 obtain⟨cb,_,a3,a4⟩:=xy (G:=G) (e:=e) h
 rw[a3 gf]at cb
 match rs,cb,a4,aH with
 |[r],cb,a4,aH=>
  obtain⟨d,oJ,aw,aa,ae⟩:=ln a4
  cases l5 ae
  rw[aw]at cb⊢;simp only[uT,ab.bO,List.map_cons,List.map_nil]at cb⊢
  cases cb with
  |cons h _=>exact h
 |[],cb,a4,aH=>
  cases aw:S.at 0 with
  |tp m=>
   rw[aw]at cb;rw[l5 a4]at cb⊢;exact cb.tuple
  |_=>rw[aw]at aH;cases aH
 |r::s::q,cb,a4,aH=>
  cases aw:S.at 0 with
  |tp m=>
   rw[aw]at cb
   have ar:=congrArg List.length a4
   simp only[List.length_map,List.length_cons]at ar;generalize gA e (r::s::q) xs=ds at cb ar⊢
   match ds,ar with
   |d::d2::ds,_=>exact cb.tuple
  |_=>rw[aw]at aH;cases aH
theorem T2(bW:fP P G M inl){f:Nat}{t:TypeId}{c:bF}{ps rs:List aU}{pre:Option ((fa (.st c::ps)).den→Prop)}{nN:(fa (.st c::ps)).den→(fa (.st c::rs)).den}(T:aB)(aH:inl f (.eb 0 0::hr 1 ps) (sU t c ps.length)=T)
 (he:T.gv.all (Mz t c rs)=true)(ai: ∀x,kz pre x→T.safe M (gw 0 (dv (.st c::ps) x)))(hm: ∀x,EA M T t c rs (gw 0 (dv (.st c::ps) x))=nN x):my P G f t ⟨.st c::ps,.st c::rs,pre,nN⟩:=fun x hx=>by
 subst aH
 obtain⟨d0,sT,mF,nS,hdr⟩:=ln (sR (rs:=.st c::ps) (x:=x))
 obtain⟨zgs,c7⟩:=d0
 simp only at nS
 subst nS
 have ar:sT.length=ps.length:=by have:=congrArg List.length hdr;rw[List.length_map]at this;exact this
 have ad:(sU t c ps.length).cp:=⟨fun i x hi=>by simp[sU,ba.get]at hi,by
  show(ab.cI (ps.length+1) (iI c 0 0 (eM c))&&true)=true;rw[zgw (Nat.succ_pos _)]
  rfl,rfl⟩
 have h:=bW f (.eb 0 0::hr 1 ps) (sU t c ps.length) (gw 0 (dv (.st c::ps) x)) ad (by
  show(true&&ab.cI (ps.length+1) (hr 1 ps))=true;rw[Ap (by omega)]
  rfl) (fun c hc=>by cases hc) (ai x hx)
 have eH: ∀j d,(⟨.st c,c7⟩::sT)[j]? =some d→Env.at (gw 0 (dv (.st c::ps) x)) j=d:=fun j d af=>by
  have:=Mr (ds:=dv (.st c::ps) x) (i:=0) (j:=j) (d:=d) (by rw[mF];exact af)
  rwa[Nat.zero_add]at this
 have hd:ab.bO G (gw 0 (dv (.st c::ps) x)) (hr 1 ps)=sT.map aF.fk:=Ao hdr fun j d af=>by rw[Nat.add_comm];exact eH (j+1) d (by simpa using af)
 have ng:cw G (gw 0 (dv (.st c::ps) x)) (sU t c ps.length).h=[(0,.box t ((b9 c c7).map .au))]:=by
  have aP:=eH 0 ⟨.st c,c7⟩ rfl
  simp only[sU,cw,bB.den];rw[sk,aP,cz]
 have hV:ab.bO G (gw 0 (dv (.st c::ps) x)) (.eb 0 0::hr 1 ps)= .ptr 0 0::sT.map aF.fk:=by
  show aC.ptr 0 0::_=_;rw[hd]
 rw[hV,ng]at h
 show dE P G f (.ptr 0 0::(dv (.st c::ps) x).tail.map aF.fk) [(0,.box t (xz (dv (.st c::ps) x)))] 1 _
 rw[mF]
 refine dE.zgu (Q:=fun v cs=>v=Eu (dv (.st c::rs) (nN x))∧cs=xz (dv (.st c::rs) (nN x))) h fun r bU ag=>?_
 obtain⟨aS,ay,cn,rfl,rfl,_⟩:=ag
 have nH:=TU he cn
 obtain⟨l,lZ⟩:=Option.isSome_iff_exists.1 nH
 have r7:=hm x
 unfold EA at r7
 rw[mi,j4 cn]at r7
 unfold T1 at r7
 rw[lZ]at r7
 simp only at r7
 unfold My at lZ
 split at lZ
 rotate_left
 ·cases lZ
 rename_i bz Cs ah
 split at lZ
 rotate_left
 ·cases lZ
 rename_i hc
 simp only[Bool.and_eq_true]at hc
 obtain⟨⟨aW,dp⟩,c9,gl⟩:=hc
 have aW:=Nat.eq_of_beq_eq_true aW
 subst aW
 split at lZ
 rotate_left
 ·cases lZ
 rename_i xs nk
 cases lZ
 obtain⟨_,_,_,a4⟩:=xy (G:=G) (e:=ay) nk
 have uR:(gA ay (.st c::rs) (.ch Cs::xs)).map aF.r= .st c::rs:=by simp only[gA,List.map_cons,a4]
 rw[←r7,xx uR]
 exact⟨_,_,_,by rw[ef,ah];rfl,zi dp,Ce _,zgx c9 gl nk,by
  have ak:=En (gA ay rs xs)
  split
  ·rename_i v aw
   rw[aw]at ak;simpa[e3]using ak
  ·exact ak,rfl,rfl⟩
theorem B3(bW:fP P G M inl){f:Nat}{t:TypeId}{c:bF}{ps rs:List aU}{nN:(fa (.st c::ps)).den→(fa (.st c::rs)).den}(T:aB)(aH:inl f (.eb 0 0::hr 1 ps) (sU t c ps.length)=T)
 (he:(T.clean&&T.gv.all (Mz t c rs))=true)(hm: ∀x,EA M T t c rs (gw 0 (dv (.st c::ps) x))=nN x):my P G f t ⟨.st c::ps,.st c::rs,none,nN⟩:=by
 simp only[Bool.and_eq_true]at he
 exact T2 bW T aH he.2 (fun _ _=>q8 M he.1) hm
end
end Go.aK
namespace Go.aK
open Go Go.ChangeShapes Go.WideShapes Go.RowKit
inductive k4 (P:Program):TypeId→List a1→Prop where
 |bool {t:TypeId} (b:Bool):P.underlying t=some .bool→k4 P t [.v (.bool b)]
 |int {t:TypeId} {k:IntKind} (n:Int):P.underlying t=some (.int k)→(Lit.int k n).wf=true→k4 P t [.v (.int k n)]
 |str {t:TypeId} (s:ByteArray):P.underlying t=some .string→s.size≤reachBytes→k4 P t [.v (.string s)]
 |slice {t e:TypeId} (es:List (List a1)):P.underlying t=some (.slice e)→es.length≤maxLen∧es.length*P.bytesOf e≤reachBytes→(∀x∈es,k4 P e x)→k4 P t [.aM (P.cellsOf e) es]
 |struct {t:TypeId} {fs:Array Field} (parts:List (List a1)):P.underlying t=some (.struct fs)→parts.length=fs.toList.length→(∀(i:Nat) (f:Field) (p:List a1),fs.toList[i]? =some f→parts[i]? =some p→k4 P f.type p)→k4 P t parts.flatten
 |array {t e:TypeId} {n:Nat} (parts:List (List a1)):P.underlying t=some (.array n e)→parts.length=n→(∀p∈parts,k4 P e p)→k4 P t parts.flatten
theorem mapM_some{α β:Type}{f:α→Option β}: ∀{l:List α} {r:List β},l.mapM f=some r→r.length=l.length∧∀(i:Nat) (x:α),l[i]? =some x→∃y,f x=some y∧r[i]? =some y
 |[],r,h=>by
  simp at h;subst h;exact⟨rfl,by simp⟩
 |a::l,r,h=>by
  rw[List.mapM_cons]at h
  cases a6:f a with
  |none=>simp[a6]at h
  |some b=>
   cases ar:l.mapM f with
   |none=>simp[a6,ar]at h
   |some cM=>
    simp[a6,ar]at h;subst h;obtain⟨aa,ae⟩:=mapM_some ar;refine⟨by simp[aa],fun i x hx=>?_⟩
    cases i with
    |zero=>simp at hx;subst hx;exact⟨b,a6,rfl⟩
    |succ i=>simpa using ae i x (by simpa using hx)
section
variable {H:Type} {enc:TypeId × Value→H} {P:Program} {w:World}
abbrev lH(w:World):Nat→Prop:=fun b=>b<w.heap.size
theorem Ni{a:Addr}{c:Value}(h:w.cell? a=some c):a.block<w.heap.size:=by
 rcases Nat.lt_or_ge a.block w.heap.size with aa|aa
 ·exact aa
 ·exfalso
  have:w.heap[a.block]? =none:=Array.getElem?_eq_none aa
  simp[World.cell?,this]at h
def Fits(P:Program)(w:World)(t:TypeId)(cs:List Value):Prop:=∃rs,k4 P t rs∧rs.length=cs.length∧∀j r,rs[j]? =some r→cN w (lH w) r (cs.getD j undef)
theorem T3: ∀(fs:List Field) (off:Nat) (cs:List Value),(∀(j:Nat) (f:Field),fs[j]? =some f→f.offset=off+((fs.take j).map fun f=>P.cellsOf f.type).sum)→
 (∀f∈fs,Fits P w f.type ((cs.drop f.offset).take (P.cellsOf f.type)))→off+(fs.map fun f=>P.cellsOf f.type).sum≤cs.length→
 ∃parts:List (List a1),parts.length=fs.length∧(∀(i:Nat) (f:Field) (p:List a1),fs[i]? =some f→parts[i]? =some p→k4 P f.type p)∧parts.flatten.length=(fs.map fun f=>P.cellsOf f.type).sum∧
  ∀j r,parts.flatten[j]? =some r→cN w (lH w) r (cs.getD (off+j) undef)
 |[],off,cs,_,_,_=>⟨[],rfl,by simp,by simp,by simp⟩
 |f::fs,off,cs,an,hf,ar=>by
  have aP:f.offset=off:=by have:=an 0 f rfl;simpa using this
  obtain⟨rs,aa,ae,av⟩:=hf f (by simp)
  simp only[List.map_cons,List.sum_cons]at ar
  have hlen:rs.length=P.cellsOf f.type:=by rw[ae,aP];simp;omega
  obtain⟨parts,g1,g2,g3,g4⟩:=T3 fs (off+P.cellsOf f.type) cs (fun j q aJ=>by
   have:=an (j+1) q (by simpa using aJ)
   simp only[List.take_succ_cons,List.map_cons,List.sum_cons]at this
   omega) (fun q aJ=>hf q (by simp[aJ])) (by omega)
  refine⟨rs::parts,by simp[g1],fun i q p aJ ak=>?_,by simp[g3,hlen],fun j r af=>?_⟩
  ·cases i with
   |zero=>
    simp at aJ ak;subst aJ;subst ak;exact aa
   |succ i=>exact g2 i q p (by simpa using aJ) (by simpa using ak)
  ·rw[List.flatten_cons]at af
   by_cases cJ:j<rs.length
   ·rw[List.getElem?_append_left cJ]at af
    have:=av j r af
    have yF:j<P.cellsOf f.type:=by omega
    rw[aP]at this;simpa[List.getD,List.getElem?_take,List.getElem?_drop,yF]using this
   ·rw[List.getElem?_append_right (by omega)]at af
    have:=g4 _ r af
    rw[show off+P.cellsOf f.type+(j-rs.length)=off+j from by omega]at this
    exact this
theorem MA{e:TypeId}(n:Nat): ∀(k:Nat) (Aw:Nat→List Value),(∀i,i<k→Fits P w e (Aw i)∧(Aw i).length=n)→
 ∃es:List (List a1),es.length=k∧(∀x∈es,k4 P e x∧x.length=n)∧∀j r,es.flatten[j]? =some r→cN w (lH w) r ((Aw (j/ n)).getD (j%n) undef)
 |0,_,_=>⟨[],rfl,by simp,by simp⟩
 |k+1,Aw,h=>by
  obtain⟨⟨rs,aa,ae,av⟩,hn⟩:=h 0 (by omega)
  obtain⟨es,g1,g2,g3⟩:=MA n k (fun i=>Aw (i+1)) fun i hi=>h (i+1) (by omega)
  refine⟨rs::es,by simp[g1],fun x hx=>?_,fun j r af=>?_⟩
  ·rcases List.mem_cons.1 hx with rfl|hx
   ·exact⟨aa,by omega⟩
   ·exact g2 x hx
  ·rw[List.flatten_cons]at af
   by_cases cJ:j<rs.length
   ·rw[List.getElem?_append_left cJ]at af
    have mo:j<n:=by omega
    rw[Nat.div_eq_of_lt mo,Nat.mod_eq_of_lt mo];exact av j r af
   ·rw[List.getElem?_append_right (by omega)]at af
    have:=g3 _ r af
    have xB:0<n:=by
     rcases Nat.eq_zero_or_pos n with aP|aP
     ·exfalso
      have lU:es.flatten.length=es.length*n:=jS fun x hx=>(g2 x hx).2
      have:=(List.getElem?_eq_some_iff.1 af).1
      rw[lU,aP]at this;simp at this
     ·exact aP
    have aA:j-rs.length=j-n:=by omega
    rw[aA]at this
    have bh:(j-n)/ n+1=j/ n:=(Nat.div_eq_sub_div xB (by omega)).symm
    have ct:(j-n)%n=j%n:=(Nat.mod_eq_sub_mod (by omega)).symm
    simp only[bh,ct]at this;exact this
theorem Ax{t:TypeId}{r:a1}{c:Value}(h:k4 P t [r])(ag:cN w (lH w) r c):Fits P w t [c]:=
 ⟨[r],h,rfl,fun j x af=>by
  cases j with
  |zero=>simp at af;subst af;exact ag
  |succ j=>simp at af⟩
theorem T4{base:Nat}{a:Addr}{n:Nat}{l:List Value}(h:w.cells? base a n=some l):l.length=n∧∀i,i<n→w.cell? (a.add i)=l[i]? :=by
 unfold World.cells? at h
 split at h
 ·obtain⟨aa,ae⟩:=mapM_some h
  refine⟨by simpa using aa,fun i hi=>?_⟩
  obtain⟨y,ax,ar⟩:=ae i i (by simp[hi])
  rw[ar,ax]
 ·cases h
theorem MB{e:TypeId}: ∀{l:List (DataW H)} {d:DataW H},d∈l→∀n∈d.weights P e,n∈DataW.weightsAll P e l
 |d0::l,d,hd,n,hn=>by
  simp only[DataW.weightsAll,List.mem_append]
  rcases List.mem_cons.1 hd with rfl|hd
  ·exact .inl hn
  ·exact .inr (MB hd n hn)
theorem Fits.agg{t:TypeId}{cs:Array Value}(h:Fits P w t cs.toList){β:Nat→Value}{N:Nat}: ∃rs,k4 P t rs∧bp w (lH w) [] β N (.agg (zcd rs)) (.agg cs):=by
 obtain⟨rs,aa,ae,av⟩:=h
 refine⟨rs,aa,.agg _ cs (by simpa using ae.symm) fun j x af=>?_⟩
 rw[List.getElem?_map]at af
 cases ag:rs[j]? with
 |none=>simp[ag]at af
 |some r=>
  simp[ag]at af;subst af
  have:=av j r ag
  exact .au _ _ (by simpa[List.getD,Array.getD_eq_getD_getElem?]using this)
theorem Fits.one{t:TypeId}{v:Value}(h:Fits P w t v.cells.toList)(aw:v.cells= #[v]){β:Nat→Value}{N:Nat}: ∃r,k4 P t [r]∧bp w (lH w) [] β N (.au r) v:=by
 obtain⟨rs,aa,ae,av⟩:=h
 rw[aw]at ae
 match rs,ae,aa,av with
 |[r],_,aa,av=>
  have:=av 0 r rfl
  rw[aw]at this;exact⟨r,aa,.au _ _ (by simpa using this)⟩
def fieldTypes(P:Program)(t:TypeId):Option (List TypeId):=
 match P.underlying t with
 |some (.struct fs)=>some (fs.toList.map (·.type))
 |_=>none
def MC(P:Program)(t:TypeId):Bool:=
 match P.underlying t with
 |some .bool=>true
 |some (.int _)=>true
 |some .string=>true
 |some (.slice _)=>true
 |_=>false
theorem zgy{r:Reach}{nF:Nat}{t:TypeId}{v:Value}(h:Value.okWide P w r nF t v)(ai:MC P t=true):v.cells= #[v]:=by
 unfold MC at ai
 split at ai
 ·rename_i hu
  simp only[Value.okWide,hu,Cell.okWide,Cell.ok]at h
  cases v<;>first|rfl|exact h.elim
 ·rename_i hu
  simp only[Value.okWide,hu,Cell.okWide,Cell.ok]at h
  cases v<;>first|rfl|exact h.elim
 ·rename_i hu
  simp only[Value.okWide,hu,Cell.okWide,Cell.ok]at h
  cases v<;>first|rfl|exact h.elim
 ·rename_i hu
  simp only[Value.okWide,hu,Cell.okWide,Cell.ok]at h
  cases v<;>first|rfl|exact h.elim
 ·cases ai
theorem zgz{r:Reach}{nF:Nat}{t:TypeId}{v:Value}(h:Value.okWide P w r nF t v)(ai:(fieldTypes P t).isSome=true): ∃cs,v= .agg cs:=by
 unfold fieldTypes at ai
 split at ai
 ·rename_i hu
  simp only[Value.okWide,hu]at h;obtain⟨cs,rfl,_⟩:=h;exact⟨cs,rfl⟩
 ·cases ai
theorem UJ{t e n:Nat}{cs:List Value}{d:DataW H}{ps:List MemPlace}{fuel base:Nat}{sp:Nat→Bool}{held:Bool}(K:Kids P (· < P.types.size))(cZ:t<P.types.size)(hu:P.underlying t=some (.array n e))(he:P.underlying e=some .string)(hc:P.cellsOf e=1)
 (h:DataW.trod enc P w base sp held fuel t cs=some (d,ps)): ∃l:List ByteArray,cs=l.map Value.string∧d= .agg (l.map fun s=>.lit (.string s.data.toList)):=by
 obtain⟨xs,q,rfl,hx,je,jB,eH⟩:=DataW.trod_array hu h
 have T5:cs.length=n:=by rw[je,(K.array cZ hu).2,hc,Nat.mul_one]
 have ot: ∀i (hi:i<n),∃s:ByteArray,cs[i]? =some (.string s)∧(xs[i]?).map (·.1)=some (.lit (.string s.data.toList)):=by
  intro i hi
  have aa:=eH i hi
  have uN:i<xs.length:=by omega
  rw[List.getElem?_eq_getElem uN]at aa
  obtain⟨s,ae,av,_⟩:=DataW.trod_string he aa;rw[hc,Nat.mul_one]at ae;refine⟨s,?_,by rw[List.getElem?_eq_getElem uN,Option.map_some,av]⟩
  have:=congrArg (·[0]?) ae
  simpa[List.getElem?_take,List.getElem?_drop]using this
 have key: ∀(m:Nat),m≤n→∃l:List ByteArray,cs.take m=l.map Value.string∧(xs.take m).map (·.1)=l.map fun s=>.lit (.string s.data.toList):=by
  intro m
  induction m with
  |zero=>intro _;exact⟨[],by simp,by simp⟩
  |succ m aZ=>
   intro hm;obtain⟨l,aa,ae⟩:=aZ (by omega)
   obtain⟨s,g1,g2⟩:=ot m (by omega)
   refine⟨l++[s],?_,?_⟩
   ·rw[List.take_add_one,aa,g1];simp
   ·rw[List.take_add_one,List.map_append,ae,List.map_append]
    cases fS:xs[m]? with
    |none=>rw[fS]at g2;cases g2
    |some y=>rw[fS]at g2;simp at g2;simp[g2]
 obtain⟨l,aa,ae⟩:=key n (Nat.le_refl _)
 rw[List.take_of_length_le (by omega)]at aa ae
 simp only[Prod.mk.injEq]at hx
 exact⟨l,aa,by rw[hx.1,ae]⟩
theorem UK{l m:List ByteArray}(h:(l.map fun s=>(DataW.lit (H:=H) (.string s.data.toList)))=m.map fun s=>.lit (.string s.data.toList)):l=m:=by
 induction l generalizing m with
 |nil=>cases m with
  |nil=>rfl
  |cons=>simp at h
 |cons a l aZ=>cases m with
  |nil=>simp at h
  |cons b m=>
   simp only[List.map_cons,List.cons.injEq,DataW.lit.injEq,Lit.string.injEq]at h;obtain⟨aa,ae⟩:=h
   have:a=b:=by
    cases a;cases b
    simp only[ByteArray.mk.injEq];exact Array.ext' aa
   rw[this,aZ ae]
theorem zgA{w':World}{p:MemPlace}(ak:p.block<w.heap.size)(h: ∀b,b<w.heap.size→w'.heap[b]? =w.heap[b]?):w.sameAt w' p:=by
 cases p with
 |cell b off=>exact World.cell?_of_block (a:=⟨b,off,none⟩) (h b ak)
 |map b=>exact h b ak
theorem T6{w':World}(h: ∀b,b<w.heap.size→w'.heap[b]? =w.heap[b]?){base:Nat}{sp:Nat→Bool}{held:Bool}: ∀{ts:List TypeId} {vs:List Value} {ds:List (DataW H)} {ps:List MemPlace},DataW.TrodAll enc P w base sp held ts vs ds ps→DataW.TrodAll enc P w' base sp held ts vs ds ps
 |[],[],[],_,h=>h
 |_::_,_::_,_::_,_,⟨p,q,⟨n,hn⟩,ae,e⟩=>
  ⟨p,q,⟨n,DataW.trod_carry n _ _ _ hn fun x hx=>zgA (DataW.trod_lt n _ _ _ hn x hx) h⟩,T6 h ae,e⟩
theorem zgB{w':World}{may:MemPlace→Prop}(aa:w'.os=w.os)(ae:w'.output=w.output)(h: ∀b,b<w.heap.size→w'.heap[b]? =w.heap[b]?):w.keptBut w' may:=by
 refine⟨aa,ae,fun i hi=>?_⟩
 rw[h i hi]
 cases hw:w.heap[i]? with
 |none=>rfl
 |some o=>
  cases o with
  |cells c t sZ=>exact⟨rfl,rfl,rfl,fun _ _=>rfl⟩
  |map es clock=>exact .inr ⟨rfl,rfl⟩
  |_=>rfl
theorem zgC{G:a8}{f:FuncId}{fn:Func}{s:ChangeSpec}{args:Array Value}{ds gs:List (DataW H)}{before:List MemPlace}{tb:TypeId}{avs':List aC}{β:Nat→Value}
 (hz:DataW.Whole enc P fn.params.toList s.vars false w args.toList ds gs before)(aw:s.vars=[])(ai:s.fn H (ds++gs)={results:=[.lit (.bool true)],args:=ds})(qN:fn.resultTypes= #[tb])(MD:P.underlying tb=some .bool)
 (K:Kids P (· < P.types.size))(aV: ∀t e,t<P.types.size→P.underlying t=some (.slice e)→0<P.cellsOf e)(tt: ∀t∈fn.params.toList,t<P.types.size)
 (hlen:args.size=avs'.length)(hV: ∀i x,avs'[i]? =some x→bp w (lH w) [] β 0 x (args.getD i undef))(kJ:rK w (lH w) G)(hc:dE P G f avs' [] 0 fun r bU=>r=ph true∧bU=[]):
 Calls P f args w fun e w'=>∃v,e= .returned v∧s.post enc P fn false true false false w args v w':=by
 refine Calls.mono (hc w β (lH w) args hlen hV ⟨by simp[aD],by simp[aD],fun b _ ⟨_,_,ah,_⟩=>by simp[aD]at ah,fun b ad=>ad⟩ kJ (by simp[aD])) fun e w' aJ=>?_
 obtain⟨v,r,eU,dK,ro',cH,rfl,⟨rfl,rfl⟩,dy,_,aH⟩:=aJ
 obtain rfl:=bp.val dy
 have bd: ∀b,b<w.heap.size→w'.heap[b]? =w.heap[b]? :=fun b ad=>aH.frame b ad fun⟨_,_,ah,_⟩=>by simp[aD]at ah
 refine⟨_,rfl,ds,gs,before,[],before,[],hz,?_,?_,?_,zgB aH.os aH.output bd,fun h=>by cases h⟩
 ·rw[ai,qN]
  exact trodAll_mk1 (shut_bool MD true)
 ·rw[ai]
  have bI: ∀p∈before,(fun b=>decide (b<w.heap.size)) p.block=true:=fun p ak=>by simpa using hz.lt p ak
  obtain⟨p,q,aa,ae,rfl,_⟩:=hz;rw[aw]at ae
  have aJ:q=[]:=by
   cases gs with
   |nil=>exact ae
   |cons=>cases ae
  subst aJ;rw[List.append_nil]at bI⊢;exact T6 bd (aa.respare K aV tt bI)
 ·rw[ai,aw]
  rfl
end
end Go.aK
namespace Go.aK
open Go Go.ChangeShapes Go.WideShapes
def xC:List (Option (List aU))→Option (List aU)
 |[]=>some []
 |none::_=>none
 |some l::r=>match xC r with
  |some m=>some (l++m)
  |none=>none
def Ay:List aU→List aU→Bool
 |[],[]=>true
 |a::l,b::m=>hJ a b&&Ay l m
 |_,_=>false
theorem ME: ∀{l m:List aU},Ay l m=true→l=m
 |[],[],_=>rfl
 |[],_::_,h=>by cases h
 |_::_,[],h=>by cases h
 |a::l,b::m,h=>by
  simp only[Ay,Bool.and_eq_true]at h;rw[hj h.1,ME h.2]
def iO(P:Program)(T:List (Nat × bF)):Nat→TypeId→Option (List aU)
 |0,_=>none
 |n+1,t=>match P.underlying t with
  |some .bool=>some [.bool]
  |some (.int k)=>some [.int k]
  |some .string=>some [.str]
  |some (.slice e)=>match oV T e with
   |some c=>match Nat.beq (P.cellsOf e) (bZ c)with
    |true=>some [.li c]
    |false=>none
   |none=>none
  |some (.array k e)=>xC (List.replicate k (iO P T n e))
  |some (.struct fs)=>xC (fs.toList.map fun f=>iO P T n f.type)
  |_=>none
def Az(P:Program)(T:List (Nat × bF)):Bool:=T.all fun q=>match iO P T 20 q.1 with
 |some l=>Ay l (eM q.2)
 |none=>false
inductive k7:aF→Prop where
 |int (k:IntKind) (x:Int):(Lit.int k x).wf=true→k7 ⟨.int k,x⟩
 |bool (b:Bool):k7 ⟨.bool,b⟩
 |str (s:ByteArray):s.size≤reachBytes→k7 ⟨.str,s⟩
 |li (c:bF) (l:List (fO c)):l.length≤maxLen→(∀x∈l,∀d∈ll c x,k7 d)→k7 ⟨.li c,l⟩
inductive rB:List (List a1)→List (List a1)→Prop where
 |nil:rB [] []
 |cons {x y:List a1} {xs ys:List (List a1)}:fZ x y→rB xs ys→rB (x::xs) (y::ys)
theorem rB.flat{xs ys:List (List a1)}(h:rB xs ys):fZ xs.flatten ys.flatten:=by
 induction h with
 |nil=>exact .nil
 |cons h _ aZ=>rw[List.flatten_cons,List.flatten_cons];exact h.append aZ
theorem rB.len{xs ys:List (List a1)}(h:rB xs ys):xs.length=ys.length:=by
 induction h with
 |nil=>rfl
 |cons h _ aZ=>simp[aZ]
theorem zgD{c:bF}{n:Nat}{es:List (List a1)}{l:List (fO c)}(hn:n=bZ c)(h:rB es (l.map (b9 c))):lq (.aM n es) (.li c l):=by
 subst hn
 intro w ro v ag
 refine .li _ _ _ ?_
 cases ag with
 |aM _ _ b cap zgE aa ae av aQ bL=>
  have hlen:(l.map (b9 c)).length=es.length:=h.len.symm
  rw[←hlen];refine .aM _ _ b cap zgE (by omega) ae (fun e he=>?_) (fun ak=>?_) fun j y af=>?_
  ·obtain⟨x,_,rfl⟩:=List.mem_map.1 he
   exact Cx c x
  ·rw[hlen]at ak⊢
   exact aQ ak
  ·obtain⟨x,hx,ai⟩:=h.flat.at.2 j y af
   exact ai _ _ _ (bL j x hx)
section
variable {P:Program} {T:List (Nat × bF)}
theorem MF{n:Nat}: ∀(ts:List TypeId) (parts:List (List a1)) {l:List aU},parts.length=ts.length→(∀(i:Nat) (t:TypeId) (p:List a1),ts[i]? =some t→parts[i]? =some p→∀{l:List aU},iO P T n t=some l→∃ds:List aF,ds.map aF.r=l∧fZ p (ds.map aF.au)∧∀d∈ds,k7 d)→xC (ts.map (iO P T n))=some l→
 ∃ds:List aF,ds.map aF.r=l∧fZ parts.flatten (ds.map aF.au)∧∀d∈ds,k7 d
 |[],parts,l,ar,_,hc=>by
  cases List.eq_nil_of_length_eq_zero ar
  cases hc;exact⟨[],rfl,.nil,by simp⟩
 |t::ts,[],l,ar,_,_=>by cases ar
 |t::ts,p::parts,l,ar,ai,hc=>by
  simp only[List.map_cons]at hc
  cases aa:iO P T n t with
  |none=>rw[aa]at hc;cases hc
  |some nT=>
   rw[aa]at hc;simp only[xC]at hc
   cases ae:xC (ts.map (iO P T n))with
   |none=>rw[ae]at hc;cases hc
   |some u1=>
    rw[ae]at hc;cases hc;obtain⟨d1,cb,a2,a3⟩:=ai 0 t p rfl rfl aa;obtain⟨d2,gP,jf,hL⟩:=MF ts parts (by simpa using ar) (fun i t p hi ak=>ai (i+1) t p (by simpa using hi) (by simpa using ak)) ae
    refine⟨d1++d2,by simp[cb,gP],by rw[List.flatten_cons,List.map_append];exact a2.append jf,fun d hd=>?_⟩
    rcases List.mem_append.1 hd with hd|hd
    ·exact a3 d hd
    ·exact hL d hd
theorem T7{c:bF}: ∀(es:List (List a1)),(∀x∈es,∃ds:List aF,ds.map aF.r=eM c∧fZ x (ds.map aF.au)∧∀d∈ds,k7 d)→∃l:List (fO c),rB es (l.map (b9 c))∧∀x∈l,∀d∈ll c x,k7 d
 |[],_=>⟨[],.nil,by simp⟩
 |x::es,h=>by
  obtain⟨ds,cb,a2,a3⟩:=h x (by simp)
  obtain⟨l,gP,jf⟩:=T7 es fun y ax=>h y (by simp[ax])
  have hc:ll c (oG c ds)=ds:=Cz c ds cb
  refine⟨oG c ds::l,.cons (by unfold b9;rw[hc];exact a2) gP,fun y ax d hd=>?_⟩
  rcases List.mem_cons.1 ax with rfl|ax
  ·rw[hc]at hd
   exact a3 d hd
  ·exact jf y ax d hd
theorem T8: ∀{T:List (Nat × bF)} {e:Nat} {c:bF},oV T e=some c→(e,c)∈T
 |(x,d)::r,e,c,h=>by
  unfold oV at h
  split at h
  ·rename_i hx
   cases h;rw[←Nat.eq_of_beq_eq_true hx];exact List.mem_cons_self
  ·exact List.mem_cons_of_mem _ (T8 h)
theorem zgF(fL:Az P T=true){e:TypeId}{c:bF}(h:oV T e=some c):iO P T 20 e=some (eM c):=by
 have:=List.all_eq_true.1 fL _ (T8 h)
 simp only at this
 split at this
 ·rename_i l ar
  rw[ar,ME this]
 ·cases this
theorem T9(fL:Az P T=true){t:TypeId}{rs:List a1}(h:k4 P t rs): ∀(n:Nat) {l:List aU},iO P T n t=some l→∃ds:List aF,ds.map aF.r=l∧fZ rs (ds.map aF.au)∧∀d∈ds,k7 d:=by
 induction h with
 |bool b hu=>
  intro n l hf
  cases n with
  |zero=>cases hf
  |succ n=>
   unfold iO at hf;rw[hu]at hf;cases hf;exact⟨[⟨.bool,b⟩],rfl,.cons (lq.refl _) .nil,fun d hd=>by cases List.mem_singleton.1 hd;exact .bool b⟩
 |int x hu hw=>
  intro n l hf
  cases n with
  |zero=>cases hf
  |succ n=>
   unfold iO at hf;rw[hu]at hf;cases hf;exact⟨[⟨.int _,x⟩],rfl,.cons (lq.refl _) .nil,fun d hd=>by cases List.mem_singleton.1 hd;exact .int _ _ hw⟩
 |str s hu hw=>
  intro n l hf
  cases n with
  |zero=>cases hf
  |succ n=>
   unfold iO at hf;rw[hu]at hf;cases hf;exact⟨[⟨.str,s⟩],rfl,.cons (lq.refl _) .nil,fun d hd=>by cases List.mem_singleton.1 hd;exact .str _ hw⟩
 |slice es hu ar hw aZ=>
  intro n l hf
  cases n with
  |zero=>cases hf
  |succ n=>
   unfold iO at hf;rw[hu]at hf;simp only at hf
   split at hf
   ·rename_i c ae
    split at hf
    ·rename_i hc
     cases hf;obtain⟨l,cb,a2⟩:=T7 (c:=c) es fun x hx=>aZ x hx 20 (zgF fL ae);refine⟨[⟨.li c,l⟩],rfl,.cons (zgD (Nat.eq_of_beq_eq_true hc) cb) .nil,fun d hd=>?_⟩
     cases List.mem_singleton.1 hd
     exact .li _ _ (by have:=cb.len;rw[List.length_map]at this;have:=ar.1;omega) a2
    ·cases hf
   ·cases hf
 |struct parts hu aa ae aZ=>
  intro n l hf
  cases n with
  |zero=>cases hf
  |succ n=>
   unfold iO at hf;rw[hu]at hf;simp only at hf;rename_i fs
   have hm:(fs.toList.map fun f=>iO P T n f.type)=(fs.toList.map (·.type)).map (iO P T n):=by rw[List.map_map];rfl
   rw[hm]at hf
   exact MF _ parts (by rw[List.length_map];exact aa) (fun i u p hi ak l ar=>by
    rw[List.getElem?_map]at hi
    cases MG:fs.toList[i]? with
    |none=>rw[MG]at hi;cases hi
    |some f=>
     rw[MG]at hi;cases hi
     exact aZ i f p MG ak n ar) hf
 |array parts hu aa ae aZ=>
  intro n l hf
  cases n with
  |zero=>cases hf
  |succ n=>
   unfold iO at hf;rw[hu]at hf;simp only at hf;rename_i e k
   have hm:List.replicate k (iO P T n e)=(List.replicate k e).map (iO P T n):=by rw[List.map_replicate]
   rw[hm]at hf
   exact MF _ parts (by rw[List.length_replicate];exact aa) (fun i u p hi ak l ar=>by
    have:=List.mem_of_getElem? hi
    cases (List.mem_replicate.1 this).2
    exact aZ p (List.mem_of_getElem? ak) n ar) hf
def MH(P:Program)(T:List (Nat × bF))(t:TypeId):Option aU:=
 match(fieldTypes P t).isSome with
 |true=>match oV T t,iO P T 20 t with
  |some c,some l=>match Ay l (eM c)with
   |true=>some (.st c)
   |false=>none
  |_,_=>none
 |false=>match MC P t,iO P T 20 t with
  |true,some [r]=>match r.one with
   |true=>some r
   |false=>none
  |_,_=>none
def rC(t:Nat):List Nat→Bool
 |[]=>false
 |x::r=>Nat.beq x t||rC t r
theorem Ua{t:Nat}: ∀{S:List Nat},rC t S=true→t∈S
 |x::r,h=>by
  simp only[rC,Bool.or_eq_true]at h
  rcases h with h|h
  ·rw[Nat.eq_of_beq_eq_true h];exact List.mem_cons_self
  ·exact List.mem_cons_of_mem _ (Ua h)
def MI(P:Program)(S:List TypeId)(t:TypeId):Bool:=decide (t<P.types.size)&&match P.underlying t with
 |some .bool=>true
 |some (.int _)=>true
 |some .string=>true
 |some (.slice e)=>rC e S
 |some (.array _ e)=>rC e S
 |some (.struct fs)=>fs.toList.all fun f=>rC f.type S
 |_=>false
def MJ(P:Program):Nat→List TypeId→List TypeId→List TypeId
 |0,S,_=>S
 |_+1,S,[]=>S
 |n+1,S,t::r=>match rC t S with
  |true=>MJ P n S r
  |false=>MJ P n (t::S) (match P.underlying t with
   |some (.slice e)=>e::r
   |some (.array _ e)=>e::r
   |some (.struct fs)=>fs.toList.map (·.type)++r
   |_=>r)
def MK(P:Program)(t:TypeId):Bool:=match MJ P 400 [] [t]with
 |S=>rC t S&&S.all (MI P S)
def sV(P:Program)(T:List (Nat × bF)):List TypeId→Option (List aU)
 |[]=>match Az P T with
  |true=>some []
  |false=>none
 |t::ts=>match MK P t,MH P T t,sV P T ts with
  |true,some r,some rs=>some (r::rs)
  |_,_,_=>none
theorem Ub: ∀{ts:List TypeId} {rs:List aU},sV P T ts=some rs→Az P T=true
 |[],_,h=>by
  unfold sV at h
  split at h
  ·assumption
  ·cases h
 |_::_,_,h=>by
  unfold sV at h
  split at h
  ·rename_i gg
   exact Ub gg
  ·cases h
def pf(d:aF):Prop:=
 match d with
 |⟨.st c,x⟩=>∀q∈ll c x,k7 q
 |d=>k7 d
variable {H:Type} {enc:TypeId × Value→H} {w:World}
theorem zgG(K:Kids P (· < P.types.size)){S:List TypeId}(hS:S.all (MI P S)=true): ∀(n:Nat) (t:TypeId) (cs:List Value) (x:DataW H × List MemPlace) {base:Nat} {sp:Nat→Bool} {held:Bool},rC t S=true→
 DataW.trod enc P w base sp held n t cs=some x→(∀q∈x.1.weights P t,q≤reachBytes)→Fits P w t cs:=by
 intro n
 induction n using Nat.strongRecOn with
 |ind n ML=>
 intro t cs x base sp held aH h ff
 have ak:=List.all_eq_true.1 hS t (Ua aH)
 simp only[MI,Bool.and_eq_true,decide_eq_true_eq]at ak
 obtain⟨cZ,ak⟩:=ak
 cases hu:P.underlying t with
 |none=>rw[hu]at ak;cases ak
 |some d=>
  rw[hu]at ak
  cases d with
  |bool=>
   obtain⟨b,rfl,_⟩:=DataW.trod_bool hu h;exact Ax (.bool b hu) (.v _ rfl)
  |int k=>
   obtain⟨b,rfl,_,hw⟩:=DataW.trod_int hu h;exact Ax (.int b hu hw) (.v _ rfl)
  |string=>
   obtain⟨b,rfl,hx,hw⟩:=DataW.trod_string hu h;rw[hx]at ff;exact Ax (.str b hu (by simpa[DataW.weights]using ff)) (.v _ rfl)
  |slice e=>
   rcases DataW.trod_slice hu h with⟨rfl,_⟩|⟨a,len,cap,elems,rest,k,rfl,rfl,hx,_,hle,h5,ni,eH,_⟩
   ·exact Ax (.slice [] hu ⟨Nat.zero_le _,by simp⟩ (by simp)) (.aM _ [] none 0 (fun _=>undef) (Nat.le_refl _) (Nat.zero_le _) (by simp) (by simp) (by simp))
   ·rw[hx]at ff
    simp only[DataW.weights,hu,List.mem_cons,List.mem_append,List.length_map]at ff
    have yV:len*P.bytesOf e≤reachBytes:=Nat.le_trans (Nat.mul_le_mul_right _ (by rw[ni];exact Nat.le_add_right _ _)) (ff _ (.inl rfl))
    have Uc: ∀i,i<len→∃l,w.cells? base (a.add (i*P.cellsOf e)) (P.cellsOf e)=some l∧Fits P w e l:=by
     intro i hi
     have aa:=eH i hi
     rw[List.getElem?_eq_getElem (by omega)]at aa
     cases hc:w.cells? base (a.add (i*P.cellsOf e)) (P.cellsOf e)with
     |none=>rw[hc]at aa;cases aa
     |some l=>rw[hc]at aa;exact⟨l,rfl,ML k (Nat.lt_succ_self _) e l _ ak aa fun q aJ=>ff q (.inr (.inl (MB (List.mem_map_of_mem (List.getElem_mem _)) q aJ)))⟩
    obtain⟨es,g1,g2,g3⟩:=MA (P:=P) (w:=w) (e:=e) (P.cellsOf e) len (fun i=>(w.cells? base (a.add (i*P.cellsOf e)) (P.cellsOf e)).getD []) fun i hi=>by
     obtain⟨l,aa,ae⟩:=Uc i hi;rw[aa];exact⟨ae,(T4 aa).1⟩
    have hlen:es.length=len:=g1
    refine Ax (.slice es hu ⟨by omega,by rw[hlen];exact yV⟩ fun x hx=>(g2 x hx).1) ?_
    rw[←hlen];refine .aM _ es (some a) cap (fun j=>((w.cells? base (a.add (j/ P.cellsOf e*P.cellsOf e)) (P.cellsOf e)).getD []).getD (j%P.cellsOf e) undef) (by omega) h5 (fun x hx=>(g2 x hx).2) (fun _=>⟨a,rfl,fun j af=>?_⟩) g3
    have xB:0<P.cellsOf e:=by
     rcases Nat.eq_zero_or_pos (P.cellsOf e)with aP|aP
     ·rw[aP]at af;simp at af
     ·exact aP
    have nr:j/ P.cellsOf e<len:=by rw[Nat.div_lt_iff_lt_mul xB];rw[hlen]at af;exact af
    have nq:j%P.cellsOf e<P.cellsOf e:=Nat.mod_lt _ xB
    obtain⟨l,aa,_⟩:=Uc _ nr;obtain⟨ae,av⟩:=T4 aa
    have aQ:=av _ nq
    rw[yy,Nat.mul_comm,Nat.div_add_mod]at aQ;rw[aa]
    have bL:w.cell? (a.add j)=some (l.getD (j%P.cellsOf e) undef):=by
     rw[aQ]
     have:j%P.cellsOf e<l.length:=by omega
     simp[List.getD,List.getElem?_eq_getElem this]
    exact⟨by have:=Ni bL;rwa[pK]at this,bL⟩
  |array k e=>
   obtain⟨xs,q,rfl,hx,je,jB,eH⟩:=DataW.trod_array hu h;rw[hx]at ff;simp only[DataW.weights,hu]at ff
   obtain⟨es,g1,g2,g3⟩:=MA (P:=P) (w:=w) (e:=e) (P.cellsOf e) k (fun i=>(cs.drop (i*P.cellsOf e)).take (P.cellsOf e)) fun i hi=>by
    have aa:=eH i hi
    rw[List.getElem?_eq_getElem (by omega)]at aa
    refine⟨ML q (Nat.lt_succ_self _) e _ _ ak aa fun z aV=>ff z (MB (List.mem_map_of_mem (List.getElem_mem _)) z aV),?_⟩
    have ae:=Nat.mul_le_mul_right (P.cellsOf e) (show i+1≤k from hi)
    rw[Nat.succ_mul]at ae
    have:=(K.array cZ hu).2
    simp;omega
   refine⟨es.flatten,.array es hu g1 fun p ak=>(g2 p ak).1,?_,fun j r af=>?_⟩
   ·rw[jS fun x hx=>(g2 x hx).2,g1,je,(K.array cZ hu).2]
   ·have:=g3 j r af
    have cJ:=(List.getElem?_eq_some_iff.1 af).1
    have xB:0<P.cellsOf e:=by
     rcases Nat.eq_zero_or_pos (P.cellsOf e)with aP|aP
     ·rw[jS fun x hx=>(g2 x hx).2,aP]at cJ;simp at cJ
     ·exact aP
    have nq:j%P.cellsOf e<P.cellsOf e:=Nat.mod_lt _ xB
    have hm:j/ P.cellsOf e*P.cellsOf e+j%P.cellsOf e=j:=by rw[Nat.mul_comm];exact Nat.div_add_mod _ _
    simpa[List.getD,List.getElem?_take,List.getElem?_drop,nq,hm]using this
  |struct fs=>
   obtain⟨xs,q,rfl,hx,je,jB,eH⟩:=DataW.trod_struct hu h;rw[hx]at ff;simp only[DataW.weights,hu]at ff;obtain⟨_,xO,yH⟩:=K.struct cZ hu
   obtain⟨parts,g1,g2,g3,g4⟩:=T3 (P:=P) (w:=w) fs.toList 0 cs (fun j f hf=>by rw[yH j f hf];simp) (fun f hf=>by
    obtain⟨i,hi,rfl⟩:=List.mem_iff_getElem.1 hf
    have zgH:fs[i]? =some fs.toList[i]:=by simp at hi;simp[hi]
    have aa:=eH i _ zgH
    have uN:i<xs.length:=by rw[jB];simpa using hi
    rw[List.getElem?_eq_getElem uN]at aa
    rw[List.all_eq_true]at ak
    exact ML q (Nat.lt_succ_self _) _ _ _ (ak _ (List.getElem_mem hi)) aa fun z aV=>ff z (DataW.weights_mem_each (j:=i) (by rw[List.getElem?_map,List.getElem?_eq_getElem hi];rfl) (by rw[List.getElem?_map,List.getElem?_eq_getElem uN];rfl) z aV)) (by rw[je,xO];omega)
   exact⟨parts.flatten,.struct parts hu g1 g2,by rw[g3,je,xO],fun j r af=>by have:=g4 j r af;simpa using this⟩
  |_=>cases ak
theorem zgI(K:Kids P (· < P.types.size)){t:TypeId}(ak:MK P t=true){v:Value}{d:DataW H}{ps:List MemPlace}{base:Nat}{sp:Nat→Bool}{held:Bool}(h:DataW.Trod enc P w base sp held t v d ps)(ff: ∀q∈d.weights P t,q≤reachBytes):Fits P w t v.cells.toList:=by
 obtain⟨n,hn⟩:=h
 unfold MK at ak
 simp only[Bool.and_eq_true]at ak
 exact zgG K ak.2 n t _ _ ak.1 hn ff
theorem zgJ{β:Nat→Value}{t:TypeId}{v:Value}{r:aU}{reach:Reach}{nF:Nat}(hf:Fits P w t v.cells.toList)(aw:Value.okWide P w reach nF t v)(fL:Az P T=true)(h:MH P T t=some r): ∃x:r.den,bp w (lH w) [] β 0 (aF.fk ⟨r,x⟩) v∧pf ⟨r,x⟩:=by
 unfold MH at h
 split at h
 ·rename_i ai
  split at h
  ·rename_i c l _ ar
   split at h
   ·rename_i hc
    cases h;obtain rfl:=ME hc;obtain⟨cs,rfl⟩:=zgz aw ai;obtain⟨rs,g1,g2⟩:=Fits.agg (P:=P) (w:=w) (cs:=cs) hf (β:=β) (N:=0);obtain⟨ds,cb,a2,a3⟩:=T9 fL g1 20 ar
    have hc:ll c (oG c ds)=ds:=Cz c ds cb
    refine⟨oG c ds,?_,fun q aJ=>a3 q (by rw[←hc];exact aJ)⟩
    have uO:aF.fk ⟨.st c,oG c ds⟩= .agg ((ds.map aF.au).map .au):=by
     show aC.agg ((b9 c (oG c ds)).map .au)=_;unfold b9;rw[hc]
    rw[uO];exact(fZ.fk a2).agg _ _ _ _ _ _ g2
   ·cases h
  ·cases h
 ·split at h
  ·rename_i eP an ar
   split at h
   ·rename_i aa
    cases h;obtain⟨y,g1,g2⟩:=Fits.one (P:=P) (w:=w) hf (zgy aw an) (β:=β) (N:=0);obtain⟨ds,cb,a2,a3⟩:=T9 fL g1 20 ar;obtain⟨d,oJ,rfl,rfl,hn⟩:=ln cb
    cases l5 hn
    cases a2 with
    |cons ai _=>
     have dB:=TK aa
     refine⟨d.v,?_,?_⟩
     ·show bp w (lH w) [] β 0 (aF.fk d) v
      have:aF.fk d= .au d.au:=TJ (x:=d.v) dB
      rw[this];exact ai.fk _ _ _ _ _ _ g2
     ·have:=a3 d (List.mem_singleton.2 rfl)
      unfold pf
      split
      ·rename_i c x heq
       exact absurd (congrArg aF.r heq) (dB c)
      ·exact this
   ·cases h
  ·cases h
theorem Ud(K:Kids P (· < P.types.size)){β:Nat→Value}{base nF:Nat}{sp:Nat→Bool}{held:Bool}{reach:Reach}: ∀{ts:List TypeId} {vs:List Value} {ds:List (DataW H)} {ps:List MemPlace} {rs:List aU},DataW.TrodAll enc P w base sp held ts vs ds ps→sV P T ts=some rs→
 (∀q∈DataW.weightsEach P ts ds,q≤reachBytes)→(∀(j:Nat) t v,ts[j]? =some t→vs[j]? =some v→Value.okWide P w reach nF t v)→
 ds.length=ts.length∧∃dl:List aF,dl.map aF.r=rs∧dl.length=vs.length∧(∀(j:Nat) x,(dl.map aF.fk)[j]? =some x→∃v,vs[j]? =some v∧bp w (lH w) [] β 0 x v)∧∀d∈dl,pf d
 |[],vs,ds,ps,rs,h,ak,_,_=>by
  obtain⟨rfl,rfl,rfl⟩:=trodAll_nil h;unfold sV at ak
  split at ak
  rotate_left
  ·cases ak
  cases ak;exact⟨rfl,[],rfl,rfl,by simp,by simp⟩
 |t::ts,vs,ds,ps,rs,h,ak,hw,an=>by
  obtain⟨v,ziE,d,oJ,p,q,rfl,rfl,rfl,aa,ae⟩:=trodAll_cons h;unfold sV at ak
  split at ak
  ·rename_i r ziF qS ag gg
   cases ak;obtain⟨g0,dl,g1,g2,g3,g4⟩:=Ud K ae gg (fun q aJ=>hw q (by rw[DataW.weightsEach];exact List.mem_append_right _ aJ)) fun j bz bg af si=>an (j+1) bz bg (by simpa using af) (by simpa using si)
   obtain⟨x,cb,a2⟩:=zgJ (β:=β) (zgI K qS aa fun q aJ=>hw q (by rw[DataW.weightsEach];exact List.mem_append_left _ aJ)) (an 0 t v rfl rfl) (Ub gg) ag
   refine⟨by simp[g0],⟨r,x⟩::dl,by simp[g1],by simp[g2],fun j y af=>?_,fun d hd=>?_⟩
   ·cases j with
    |zero=>simp at af;subst af;exact⟨v,rfl,cb⟩
    |succ j=>simpa using g3 j y (by simpa using af)
   ·rcases List.mem_cons.1 hd with rfl|hd
    ·exact a2
    ·exact g4 d hd
  ·cases ak
theorem Ue{G:a8}{f:FuncId}{fn:Func}{s:ChangeSpec}{args:Array Value}{ds gs:List (DataW H)}{before:List MemPlace}{tb:TypeId}{nF:Nat}{reach:Reach}{m:aR}
 (hz:DataW.Whole enc P fn.params.toList s.vars false w args.toList ds gs before)(aw:s.vars=[])(ai: ∀ds:List (DataW H),ds.length=fn.params.toList.length→s.fn H ds={results:=[.lit (.bool true)],args:=ds})
 (ff:(DataW.weightsEach P (fn.params.toList++s.plain.varTypes P) (ds++gs)).all (· ≤reachBytes)=true)(pY: ∀(j:Nat) t v,fn.params[j]? =some t→args[j]? =some v→Value.okWide P w reach nF t v)
 (zgK:s.plain.varTypes P=[])(qN:fn.resultTypes= #[tb])(MD:P.underlying tb=some .bool)(K:Kids P (· < P.types.size))(aV: ∀t e,t<P.types.size→P.underlying t=some (.slice e)→0<P.cellsOf e)(tt: ∀t∈fn.params.toList,t<P.types.size)
 (qT:sV P T fn.params.toList=some m.ps)(kJ:rK w (lH w) G)(hc:bE P G f m)(hm: ∀x,(∀d∈dv m.ps x,pf d)→kz m.pre x∧kA m.rs (m.m x)=ph true):
 Calls P f args w fun e w'=>∃v,e= .returned v∧s.post enc P fn false true false false w args v w':=by
 have zgL:=hz
 obtain⟨p,q,c8,Uf,rfl,_,_⟩:=hz
 rw[aw]at Uf
 obtain⟨rfl,rfl⟩:=trodVars_none Uf
 rw[zgK,List.append_nil,List.append_nil]at ff
 obtain⟨nr,dl,cb,a2,a3,a4⟩:=Ud (T:=T) (β:=fun _=>undef) K c8 qT (fun q aJ=>by simpa using List.all_eq_true.1 ff q aJ) fun j t v af si=>pY j t v (by simpa using af) (by simpa using si)
 have Av:dv m.ps (b8 m.ps dl)=dl:=xx cb
 obtain⟨zgM,ag⟩:=hm (b8 m.ps dl) (by rw[Av];exact a4)
 have hb:=(hc (b8 m.ps dl) zgM).frame (σ:=[]) (n:=0) (En _) fun r bU ag=>by rw[ag];exact Mk
 refine zgC (β:=fun _=>undef) zgL aw (by rw[List.append_nil];exact ai ds nr) qN MD K aV tt (avs':=mZ m.ps (b8 m.ps dl)) ?_ (fun i x hx=>?_) kJ (hb.res fun r bU ⟨aa,_,ae⟩=>⟨ae.trans ag,aa⟩)
 ·unfold mZ
  rw[Av,List.length_map,a2];exact Array.length_toList.symm
 ·unfold mZ at hx
  rw[Av]at hx;obtain⟨v,aa,ae⟩:=a3 i x hx
  have:args.getD i undef=v:=by
   have r9:args[i]? =some v:=by simpa using aa
   rw[Array.getD_eq_getD_getElem?,r9];rfl
  rw[this];exact ae
end
end Go.aK
namespace Go.aK
open Go Go.Proofs Go.Shelf Go.RowKit
variable {P:Program} {a7:Ren}
theorem Ug(w:World): ∀(l:List Int) (a:Addr) (acc:ByteArray),(∀j x,l[j]? =some x→w.cell? (a.add j)=some (.int .u8 x))→
 (loadBytes a acc l.length).run P w= .ok (l.foldl (fun r n=>r.push (UInt8.ofNat n.toNat)) acc) w
 |[],a,acc,_=>by simp[loadBytes]
 |x::l,a,acc,h=>by
  have aP:w.cell? a=some (.int .u8 x):=by
   have:=h 0 x rfl
   simpa[Addr.add]using this
  have aZ:=Ug w l (a.add 1) (acc.push (UInt8.ofNat x.toNat)) (fun j y ax=>by
   have:=h (j+1) y (by simpa using ax)
   have e:(a.add 1).add j=a.add (j+1):=by
    unfold Addr.add
    by_cases af:j=0
    ·subst af;simp
    ·simp[af];omega
   rw[e];exact this)
  simp only[List.length_cons,loadBytes,Sem.run_bind,run_load,aP,Result.andThen];exact aZ
theorem zgN(w:World)(EB it ty e:TypeId)(ak:P.underlying EB=some (.pointer e))(hc:P.cellsOf e=1)(g cells:Nat)(I7:w.shape? g=some (e,cells))(l:List Int)(aP:l≠[])(hn:l.length≤cells)(r6:l.length≤9223372036854775807)
 (kO: ∀j x,l[j]? =some x→w.cell? ((⟨g,0,none⟩:Addr).add j)=some (.int .u8 x)):
 (Builtin.unsafeString_ #[EB,it] ty #[.pointer (some ⟨g,0,none⟩),.int .i64 l.length]).run P w= .ok (.string (bytesOf l)) (w.freeze ⟨g,0,none⟩ l.length):=by
 have ar:l.length≠0:=by simpa using aP
 have ym:=Ug (P:=P) w l ⟨g,0,none⟩ .empty kO
 have zgO:=Lib.liesAt_bytes (P:=P) hc (cells/ P.cellsOf e) l.length (by rw[hc];simpa using hn)
 have zgP: ¬(9223372036854775807:Int)<(l.length:Int):=by omega
 have MM:Builtin.unsafeString_ #[EB,it] ty #[.pointer (some ⟨g,0,none⟩),.int .i64 l.length]=
  (do
   let n ←asInt (.int .i64 l.length)
   if n<0 then runtimePanic (.error "unsafe.String: len out of range")
   if n>IntKind.i64.max then unsupported (.unsafePointer "String: a length above the largest int")
   if n=0 then pure (.string .empty)
   else if ←variablesAt ⟨g,0,none⟩ (←elemOf EB) n.toNat then do
    let s ←loadBytes ⟨g,0,none⟩ .empty n.toNat
    freeze ⟨g,0,none⟩ n.toNat
    pure (.string s)
   else unsupported (.unsafePointer "String: not so many bytes at ptr")):=rfl
 rw[MM]
 have zgQ:IntKind.i64.max=9223372036854775807:=rfl
 have zgR: ¬(l.length:Int)<0:=by omega
 simp[asInt,asIntOf,zgQ,zgP,zgR,ar,variablesAt,I7,elemOf,run_underlying ak,zgO,ym,bytesOf]
set_option maxHeartbeats 2000000 in
set_option maxRecDepth 100000 in
theorem zgS(L:Lays.n169 P a7)(X:Builder.Extra P a7)(b g cap:Nat)(p:Value)(cur:Array Value)(l:List Int)(w:World)(aP:l≠[])(bf:w.heap[b]? =some (.cells #[p,.slice (some ⟨g,0,none⟩) l.length cap] (a7.t 72) (0,0)))
 (ah:w.heap[g]? =some (.cells cur (a7.t 5) (0,0)))(zG:l.length≤cap)(h5:cap≤maxLen)(dH:cur.size=cap*1)(kO: ∀j x,l[j]? =some x→w.cell? ((⟨g,0,none⟩:Addr).add j)=some (.int .u8 x)):
 Calls P (a7.f 169) #[.pointer (some ⟨b,0,none⟩)] w fun e w'=>e= .returned (.string (bytesOf l))∧w'=w.drew.freeze ⟨g,0,none⟩ l.length:=by
 have Cd:l.length≠0:=by simpa using aP
 have aW:w.drew.cell? ⟨b,1,none⟩=some (.slice (some ⟨g,0,none⟩) l.length cap):=by
  have:w.drew.heap[b]? =some (.cells #[p,.slice (some ⟨g,0,none⟩) l.length cap] (a7.t 72) (0,0)):=bf
  rw[Lib.cell_of_heap this];rfl
 have MN:(Builtin.unsafeSliceData_ #[(a7.t 37)] (a7.t 127) #[.slice (some ⟨g,0,none⟩) l.length cap]).run P w.drew= .ok (.pointer (some ⟨g,0,none⟩)) w.drew:=
  Lib.run_unsafeSliceData_row _ _ _ _ _ _ (by omega)
 have MO:(Builtin.unsafeString_ #[(a7.t 127),(a7.t 3)] (a7.t 9) #[.pointer (some ⟨g,0,none⟩),.int .i64 l.length]).run P w.drew= .ok (.string (bytesOf l)) (w.drew.freeze ⟨g,0,none⟩ l.length):=by
  refine zgN w.drew (a7.t 127) (a7.t 3) (a7.t 9) (a7.t 5) L.t127 X.cellsByte g cur.size (by have dU:w.drew.heap[g]? =some (.cells cur (a7.t 5) (0,0)):=ah;simp[World.shape?,dU]) l aP (by omega) (by unfold maxLen at h5;omega) ?_
  intro j x hx;exact kO j x hx
 have mixed:=L.mixed
 have t72:=L.t72;have a72:=L.a72;have z72:=L.z72;have v72:=L.v72;have MP:=run_underlying L.t72
 have t70:=L.t70;have a70:=L.a70;have z70:=L.z70;have v70:=L.v70;have MQ:=run_underlying L.t70
 have t37:=L.t37;have a37:=L.a37;have z37:=L.z37;have v37:=L.v37;have MR:=run_underlying L.t37
 have t127:=L.t127;have a127:=L.a127;have z127:=L.z127;have v127:=L.v127;have MS:=run_underlying L.t127
 have t3:=L.t3;have a3:=L.a3;have z3:=L.z3;have v3:=L.v3;have xD:=run_underlying L.t3
 have t9:=L.t9;have a9:=L.a9;have z9:=L.z9;have v9:=L.v9;have MT:=run_underlying L.t9
 have t5:=X.t5;have a5:=X.a5;have z5:=X.z5;have v5:=X.v5;have MU:=run_underlying X.t5
 go_enter L.f169,Body.n169_ntmps a7
 go_wp2
 go_region_o
 all_goals (go_wp2;go_ret;exact⟨rfl,rfl⟩)
set_option maxHeartbeats 2000000 in
set_option maxRecDepth 100000 in
theorem Uh(L:Lays.n169 P a7)(X:Builder.Extra P a7)(b:Nat)(p:Value)(w:World)(bf:w.heap[b]? =some (.cells #[p,.slice none 0 0] (a7.t 72) (0,0))):
 Calls P (a7.f 169) #[.pointer (some ⟨b,0,none⟩)] w fun e w'=>e= .returned (.string ⟨#[]⟩)∧w'=w.drew:=by
 have MO:=Any.unsafeString_none L X
 have aW:w.drew.cell? ⟨b,1,none⟩=some (.slice none 0 0):=by
  have:w.drew.heap[b]? =some (.cells #[p,.slice none 0 0] (a7.t 72) (0,0)):=bf
  rw[Lib.cell_of_heap this];rfl
 have MN:(Builtin.unsafeSliceData_ #[(a7.t 37)] (a7.t 127) #[.slice none 0 0]).run P w.drew= .ok (.pointer none) w.drew:=rfl
 have mixed:=L.mixed
 have t72:=L.t72;have a72:=L.a72;have z72:=L.z72;have v72:=L.v72;have MP:=run_underlying L.t72
 have t70:=L.t70;have a70:=L.a70;have z70:=L.z70;have v70:=L.v70;have MQ:=run_underlying L.t70
 have t37:=L.t37;have a37:=L.a37;have z37:=L.z37;have v37:=L.v37;have MR:=run_underlying L.t37
 have t127:=L.t127;have a127:=L.a127;have z127:=L.z127;have v127:=L.v127;have MS:=run_underlying L.t127
 have t3:=L.t3;have a3:=L.a3;have z3:=L.z3;have v3:=L.v3;have xD:=run_underlying L.t3
 have t9:=L.t9;have a9:=L.a9;have z9:=L.z9;have v9:=L.v9;have MT:=run_underlying L.t9
 have t5:=X.t5;have a5:=X.a5;have z5:=X.z5;have v5:=X.v5;have MU:=run_underlying X.t5
 go_enter L.f169,Body.n169_ntmps a7
 go_wp2
 go_region_o
 all_goals (go_wp2;go_ret;exact⟨rfl,rfl⟩)
set_option maxHeartbeats 2000000 in
set_option maxRecDepth 100000 in
theorem zgT(L:Lays.n169 P a7)(X:Builder.Extra P a7)(b g cap:Nat)(p:Value)(w:World)(hv:cap≠0)(bf:w.heap[b]? =some (.cells #[p,.slice (some ⟨g,0,none⟩) 0 cap] (a7.t 72) (0,0))):
 Calls P (a7.f 169) #[.pointer (some ⟨b,0,none⟩)] w fun e w'=>e= .returned (.string ⟨#[]⟩)∧w'=w.drew:=by
 have MO:=Any.unsafeString_none L X
 have aW:w.drew.cell? ⟨b,1,none⟩=some (.slice (some ⟨g,0,none⟩) 0 cap):=by
  have:w.drew.heap[b]? =some (.cells #[p,.slice (some ⟨g,0,none⟩) 0 cap] (a7.t 72) (0,0)):=bf
  rw[Lib.cell_of_heap this];rfl
 have MN:(Builtin.unsafeSliceData_ #[(a7.t 37)] (a7.t 127) #[.slice (some ⟨g,0,none⟩) 0 cap]).run P w.drew= .ok (.pointer (some ⟨g,0,none⟩)) w.drew:=
  Lib.run_unsafeSliceData_row _ _ _ _ _ _ hv
 clear hv
 have mixed:=L.mixed
 have t72:=L.t72;have a72:=L.a72;have z72:=L.z72;have v72:=L.v72;have MP:=run_underlying L.t72
 have t70:=L.t70;have a70:=L.a70;have z70:=L.z70;have v70:=L.v70;have MQ:=run_underlying L.t70
 have t37:=L.t37;have a37:=L.a37;have z37:=L.z37;have v37:=L.v37;have MR:=run_underlying L.t37
 have t127:=L.t127;have a127:=L.a127;have z127:=L.z127;have v127:=L.v127;have MS:=run_underlying L.t127
 have t3:=L.t3;have a3:=L.a3;have z3:=L.z3;have v3:=L.v3;have xD:=run_underlying L.t3
 have t9:=L.t9;have a9:=L.a9;have z9:=L.z9;have v9:=L.v9;have MT:=run_underlying L.t9
 have t5:=X.t5;have a5:=X.a5;have z5:=X.z5;have v5:=X.v5;have MU:=run_underlying X.t5
 go_enter L.f169,Body.n169_ntmps a7
 go_wp2
 go_region_o
 all_goals (go_wp2;go_ret;exact⟨rfl,rfl⟩)
set_option maxHeartbeats 2000000 in
set_option maxRecDepth 100000 in
theorem zgU(L:Lays.n169 P a7)(X:Builder.Extra P a7)(b:Nat)(cW q:Addr)(p:Value)(w eu:World)(bf:w.heap[b]? =some (.cells #[p,.slice (some cW) 0 0] (a7.t 72) (0,0)))(oE:eu.heap[b]? =w.heap[b]?)
 (MN:(Builtin.unsafeSliceData_ #[(a7.t 37)] (a7.t 127) #[.slice (some cW) 0 0]).run P w.drew= .ok (.pointer (some q)) eu):
 Calls P (a7.f 169) #[.pointer (some ⟨b,0,none⟩)] w fun e w'=>e= .returned (.string ⟨#[]⟩)∧w'=eu:=by
 have MO:=Any.unsafeString_none L X
 have aW:w.drew.cell? ⟨b,1,none⟩=some (.slice (some cW) 0 0):=by
  have:w.drew.heap[b]? =some (.cells #[p,.slice (some cW) 0 0] (a7.t 72) (0,0)):=bf
  rw[Lib.cell_of_heap this];rfl
 have dp:eu.cell? ⟨b,1,none⟩=some (.slice (some cW) 0 0):=by
  have:eu.heap[b]? =some (.cells #[p,.slice (some cW) 0 0] (a7.t 72) (0,0)):=oE.trans bf
  rw[Lib.cell_of_heap this];rfl
 clear oE
 have mixed:=L.mixed
 have t72:=L.t72;have a72:=L.a72;have z72:=L.z72;have v72:=L.v72;have MP:=run_underlying L.t72
 have t70:=L.t70;have a70:=L.a70;have z70:=L.z70;have v70:=L.v70;have MQ:=run_underlying L.t70
 have t37:=L.t37;have a37:=L.a37;have z37:=L.z37;have v37:=L.v37;have MR:=run_underlying L.t37
 have t127:=L.t127;have a127:=L.a127;have z127:=L.z127;have v127:=L.v127;have MS:=run_underlying L.t127
 have t3:=L.t3;have a3:=L.a3;have z3:=L.z3;have v3:=L.v3;have xD:=run_underlying L.t3
 have t9:=L.t9;have a9:=L.a9;have z9:=L.z9;have v9:=L.v9;have MT:=run_underlying L.t9
 have t5:=X.t5;have a5:=X.a5;have z5:=X.z5;have v5:=X.v5;have MU:=run_underlying X.t5
 go_enter L.f169,Body.n169_ntmps a7
 go_wp2
 go_region_o
 all_goals (go_wp2;go_ret;exact⟨rfl,rfl⟩)
theorem zgV(L:Lays.n169 P a7)(cW:Addr)(w:World)(hex:cW.block<w.heap.size): ∃q eu,(Builtin.unsafeSliceData_ #[(a7.t 37)] (a7.t 127) #[.slice (some cW) 0 0]).run P w= .ok (.pointer (some q)) eu∧(eu=w∨∃o,eu=w.alloc o):=by
 obtain⟨o,an⟩: ∃o,w.heap[cW.block]? =some o:=⟨_,Array.getElem?_eq_getElem hex⟩
 have he:(elemOf (a7.t 127)).run P w= .ok (a7.t 5) w:=by simp[elemOf,run_underlying L.t127]
 have MM:Builtin.unsafeSliceData_ #[(a7.t 37)] (a7.t 127) #[.slice (some cW) 0 0]=
  (do
   if(0:Nat)≠0 then pure (.pointer (some cW))
   else if(←viewAt cW.block).isSome then pure (.pointer (some cW))
   else pure (.pointer (some ⟨←newObj (.view cW (←elemOf (a7.t 127))),0,none⟩))):=rfl
 rw[MM]
 unfold viewAt
 cases ai:w.shape? cW.block with
 |some s=>exact⟨⟨w.heap.size,0,none⟩,w.alloc (.view cW (a7.t 5)),by simp[ai,he],.inr ⟨_,rfl⟩⟩
 |none=>
  cases o with
  |cells c e f=>simp[World.shape?,an]at ai
  |view a t=>exact⟨cW,w,by simp[ai,getObj,Sem.run,an],.inl rfl⟩
  |_=>exact⟨⟨w.heap.size,0,none⟩,w.alloc (.view cW (a7.t 5)),by simp[ai,getObj,Sem.run,an,he],.inr ⟨_,rfl⟩⟩
section
variable {w w':World} {ro:Nat→Prop} {σ:Heap} {β:Nat→Value} {n rid:Nat}
theorem gX.drop(h:gX w ro σ β n){t:TypeId}{m:Nat}{es:List (List a1)}(ag:aD σ rid=some (.row false t m es))(hw: ∀k,k<w.heap.size→b5 (β rid)≠some k→w'.heap[k]? =w.heap[k]?)(bQ:w.heap.size≤w'.heap.size):
 gX w' ro (gm σ rid) β n:=by
 have cc: ∀b,ro b→w'.heap[b]? =w.heap[b]? :=fun b ad=>hw b (h.lt b ad) fun e=>h.fe b ad ⟨rid,_,ag,rfl,e⟩
 have sub: ∀k o,aD (gm σ rid) k=some o→aD σ k=some o∧k≠rid:=by
  intro k o aj;rw[yz]at aj
  split at aj
  ·cases aj
  ·rename_i b7
   exact⟨aj,fun e=>b7 e.symm⟩
 have key: ∀x c,bp w ro σ β n x c→bp w' ro (gm σ rid) β n x c:=fun x c hx=>hx.keep cc (fun _ h=>h) (Nat.le_refl _) (fun id t cs aj=>⟨rfl,t,cs,(sub _ _ aj).1⟩) (fun id z t n es aj=>⟨rfl,z,t,es,(sub _ _ aj).1⟩) (fun id bM aj=>⟨rfl,bM,(sub _ _ aj).1⟩)
 refine⟨fun k o aj=>?_,fun k bk o cy b aj ey=>h.inj k bk o cy b (sub _ _ aj).1 (sub _ _ ey).1,fun b ad ⟨k,o,aj,ar,bf⟩=>h.fe b ad ⟨k,o,(sub _ _ aj).1,ar,bf⟩,fun b ad=>Nat.lt_of_lt_of_le (h.lt b ad) bQ⟩
 obtain⟨gi,b7⟩:=sub k o aj
 have gH:=h.c6 k o gi
 have MV:o.live=true→∀b,b5 (β k)=some b→w'.heap[b]? =w.heap[b]? :=fun ar b ad=>hw b (gH.hB ar ad) fun e=>b7 (h.inj k rid o _ b gi ag ar rfl ad e)
 cases gH with
 |box t cs b arr aa ae av aQ=>exact .box t cs b arr aa ((MV rfl b (by rw[aa];rfl)).trans ae) av fun j x af=>key _ _ (aQ j x af)
 |row t n es xs aa ae av=>exact .row t n es xs (aa.keep (fun b ad=>MV rfl b ad) bQ) ae fun j x af=>(av j x af).keep cc fun _ h=>h
 |gb t n es aa=>exact .gb t n es (aa.keep cc fun _ h=>h)
 |bK bM b o aa ae av=>exact .bK bM b o aa ((MV rfl b aa).trans ae) (bM.mono _ _ _ _ (fun x c h=>h.keep cc fun _ h=>h) av)
theorem zgW(w:World)(g m k:Nat)(aj:k≠g):(w.freeze ⟨g,0,none⟩ m).heap[k]? =w.heap[k]? :=by
 unfold World.freeze
 split
 ·rfl
 ·simp only[Array.getElem?_modify]
  rw[if_neg (fun e=>aj e.symm)]
theorem zgX(w:World)(a:Addr)(m:Nat):(w.freeze a m).os=w.os∧(w.freeze a m).tape=w.tape∧(w.freeze a m).output=w.output∧(w.freeze a m).heap.size=w.heap.size:=by
 unfold World.freeze
 split
 ·exact⟨rfl,rfl,rfl,rfl⟩
 ·exact⟨rfl,rfl,rfl,by simp⟩
theorem zgY(L:Lays.n169 P a7)(X:Builder.Extra P a7){G:a8}{id:Nat}{x0:aC}{l:List Int}(aP:l≠[])(bb:aD σ id=some (.box (a7.t 72) [x0,.aM rid]))(ag:aD σ rid=some (.row false (a7.t 5) 1 (l.map fun z=>[.v (.int .u8 z)]))):
 dE P G (a7.f 169) [.ptr id 0] σ n fun r bU=>r= .au (.v (.string (bytesOf l)))∧bU=gm σ rid:=by
 intro w β ro ea aa ae av aQ bL
 have dj:=av.c6 id _ bb
 have fQ:=av.c6 rid _ ag
 cases dj with
 |box _ _ b arr aA bh ct e1=>
  cases fQ with
  |row _ _ _ xs cZ b7 eV=>
   have hv:ea.getD 0 undef= .pointer (some ⟨b,0,none⟩):=by
    have:=ae 0 _ rfl
    generalize ea.getD 0 undef=bP at this⊢
    cases this with
    |ptr _ _ _ ar j5=>
     obtain⟨b',c1,di⟩:=j5 _ _ bb;rw[aA]at c1
     cases c1
     exact di
   have rD:ea= #[.pointer (some ⟨b,0,none⟩)]:=by
    have ai:ea.size=1:=aa
    apply Array.ext
    ·simpa using ai
    ·intro i xE l4
     have:i=0:=by omega
     subst this;simpa[Array.getD,ai]using hv
   have AA:arr.getD 1 undef=β rid:=by
    have:=e1 1 _ rfl
    generalize arr.getD 1 undef=bP at this⊢
    cases this with
    |aM _ _ _ ak=>exact ak _ _ _ _ ag
   have re:arr= #[arr.getD 0 undef,β rid]:=by
    have ai:arr.size=2:=ct
    apply Array.ext
    ·simpa using ai
    ·intro i xE l4
     have hi:i=0∨i=1:=by omega
     rcases hi with rfl|rfl
     ·simp[Array.getD,ai]
     ·have:=AA
      simp only[Array.getD,ai]at this;simpa using this
   have hlen:(l.map fun z=>[a1.v (.int .u8 z)]).length=l.length:=List.length_map ..
   rcases cZ.2 with⟨_,aV⟩|⟨g,cap,cur,aw,ak,ah,hle,h5,dH,ld⟩
   ·rw[hlen]at aV
    exact absurd (List.eq_nil_of_length_eq_zero aV) aP
   ·rw[hlen]at aw hle ld
    have xH:b5 (β rid)=some g:=by rw[aw];simp[b5,Nat.ne_of_gt ak]
    rw[rD];refine Calls.mono (zgS L X b g cap (arr.getD 0 undef) cur l w aP (by rw[bh,←aw,←re]) ah hle h5 dH fun j x hx=>?_) fun e w' ⟨he,hw⟩=>?_
    ·have af:=(List.getElem?_eq_some_iff.1 hx).1
     have hc:=eV j (.v (.int .u8 x)) (by rw[Jy,List.getElem?_map,hx];rfl)
     have zgZ:xs.getD j undef= .int .u8 x:=by
      generalize xs.getD j undef=bP at hc⊢
      cases hc with
      |v=>rfl
     have EC:xs[j]? =some (.int .u8 x):=by
      have jB:j<xs.length:=by rw[cZ.1,hlen];omega
      rw[←zgZ];simp[List.getD,List.getElem?_eq_getElem jB]
     rw[addLit,Nat.zero_add,cell_of_row w g j cur (a7.t 5) (0,0) ah];rw[←ld,List.getElem?_take]at EC
     split at EC
     ·simpa using EC
     ·cases EC
    ·subst hw
     obtain⟨f1,f2,f3,f4⟩:=zgX w.drew ⟨g,0,none⟩ l.length
     have nh: ∀k,k<w.heap.size→b5 (β rid)≠some k→(w.drew.freeze ⟨g,0,none⟩ l.length).heap[k]? =w.heap[k]? :=fun k _ aj=>zgW w.drew g l.length k fun e=>aj (by rw[xH,e])
     have bQ:w.heap.size≤(w.drew.freeze ⟨g,0,none⟩ l.length).heap.size:=Nat.le_of_eq f4.symm
     have sub: ∀k o,aD (gm σ rid) k=some o→aD σ k=some o:=by
      intro k o aj;rw[yz]at aj
      split at aj
      ·cases aj
      ·exact aj
     refine⟨_,_,gm σ rid,β,ro,n,he,⟨rfl,rfl⟩,.fC rfl,av.drop ag nh bQ,⟨f1,f2,f3,bQ,fun k aj an=>nh k aj fun e=>an ⟨rid,_,ag,rfl,e⟩,fun _ h=>.inl h,fun _ h=>h,fun k ⟨j,o,af,ar,ad⟩=>.inl ⟨j,o,sub _ _ af,ar,ad⟩,fun k aj o ah=>⟨by rw[sub _ _ ah];simp,rfl⟩,fun k o ah=>bL k o (sub _ _ ah),Nat.le_refl _⟩⟩
theorem gX.same(h:gX w ro σ β n)(he:w'.heap=w.heap):gX w' ro σ β n:=by
 have cc: ∀b,ro b→w'.heap[b]? =w.heap[b]? :=fun b _=>by rw[he]
 have key: ∀x c,bp w ro σ β n x c→bp w' ro σ β n x c:=fun x c hx=>hx.keep cc (fun _ h=>h) (Nat.le_refl _) (fun id t cs aj=>⟨rfl,t,cs,aj⟩) (fun id z t n es aj=>⟨rfl,z,t,es,aj⟩) (fun id bM aj=>⟨rfl,bM,aj⟩)
 refine⟨fun k o aj=>?_,h.inj,h.fe,fun b ad=>by rw[he];exact h.lt b ad⟩
 have gH:=h.c6 k o aj
 cases gH with
 |box t cs b arr aa ae av aQ=>exact .box t cs b arr aa (by rw[he];exact ae) av fun j x af=>key _ _ (aQ j x af)
 |row t n es xs aa ae av=>exact .row t n es xs (aa.keep (fun b ad=>by rw[he]) (Nat.le_of_eq (by rw[he]))) ae fun j x af=>(av j x af).keep cc fun _ h=>h
 |gb t n es aa=>exact .gb t n es (aa.keep cc fun _ h=>h)
 |bK bM b o aa ae av=>exact .bK bM b o aa (by rw[he];exact ae) (bM.mono _ _ _ _ (fun x c h=>h.keep cc fun _ h=>h) av)
theorem Trans.drew(hx: ∀id o,aD σ id=some o→id<n):Trans ⟨w,ro,σ,β,n⟩ w.drew ro σ β n:=
 ⟨rfl,rfl,rfl,Nat.le_refl _,fun _ _ _=>rfl,fun _ h=>.inl h,fun _ h=>h,fun _ h=>.inl h,fun k _ o ah=>⟨by rw[ah];simp,rfl⟩,hx,Nat.le_refl _⟩
theorem Zs(L:Lays.n169 P a7)(X:Builder.Extra P a7){G:a8}{id:Nat}{x0:aC}(bb:aD σ id=some (.box (a7.t 72) [x0,.au (.v (.slice none 0 0))])):
 dE P G (a7.f 169) [.ptr id 0] σ n fun r bU=>r= .au (.v (.string ⟨#[]⟩))∧bU=σ:=by
 intro w β ro ea aa ae av aQ bL
 have dj:=av.c6 id _ bb
 cases dj with
 |box _ _ b arr aA bh ct e1=>
  have hv:ea.getD 0 undef= .pointer (some ⟨b,0,none⟩):=by
   have:=ae 0 _ rfl
   generalize ea.getD 0 undef=bP at this⊢
   cases this with
   |ptr _ _ _ ar j5=>
    obtain⟨b',c1,di⟩:=j5 _ _ bb;rw[aA]at c1
    cases c1
    exact di
  have rD:ea= #[.pointer (some ⟨b,0,none⟩)]:=by
   have ai:ea.size=1:=aa
   apply Array.ext
   ·simpa using ai
   ·intro i xE l4
    have:i=0:=by omega
    subst this;simpa[Array.getD,ai]using hv
  have AA:arr.getD 1 undef= .slice none 0 0:=bp.val (e1 1 _ rfl)
  have re:arr= #[arr.getD 0 undef,.slice none 0 0]:=by
   have ai:arr.size=2:=ct
   apply Array.ext
   ·simpa using ai
   ·intro i xE l4
    have hi:i=0∨i=1:=by omega
    rcases hi with rfl|rfl
    ·simp[Array.getD,ai]
    ·have:=AA
     simp only[Array.getD,ai]at this;simpa using this
  rw[rD];refine Calls.mono (Uh L X b (arr.getD 0 undef) w (by rw[bh,←re])) fun e w' ⟨he,hw⟩=>?_
  subst hw;exact⟨_,_,σ,β,ro,n,he,⟨rfl,rfl⟩,.fC rfl,av.same rfl,Trans.drew bL⟩
theorem zg0(L:Lays.n169 P a7)(X:Builder.Extra P a7){G:a8}{id:Nat}{x0:aC}(bb:aD σ id=some (.box (a7.t 72) [x0,.aM rid]))(ag:aD σ rid=some (.row false (a7.t 5) 1 [])):
 dE P G (a7.f 169) [.ptr id 0] σ n fun r bU=>r= .au (.v (.string ⟨#[]⟩))∧bU=gm σ rid:=by
 intro w β ro ea aa ae av aQ bL
 have dj:=av.c6 id _ bb
 have fQ:=av.c6 rid _ ag
 cases dj with
 |box _ _ b arr aA bh ct e1=>
  cases fQ with
  |row _ _ _ xs cZ b7 eV=>
   have hv:ea.getD 0 undef= .pointer (some ⟨b,0,none⟩):=by
    have:=ae 0 _ rfl
    generalize ea.getD 0 undef=bP at this⊢
    cases this with
    |ptr _ _ _ ar j5=>
     obtain⟨b',c1,di⟩:=j5 _ _ bb;rw[aA]at c1
     cases c1
     exact di
   have rD:ea= #[.pointer (some ⟨b,0,none⟩)]:=by
    have ai:ea.size=1:=aa
    apply Array.ext
    ·simpa using ai
    ·intro i xE l4
     have:i=0:=by omega
     subst this;simpa[Array.getD,ai]using hv
   have AA:arr.getD 1 undef=β rid:=by
    have:=e1 1 _ rfl
    generalize arr.getD 1 undef=bP at this⊢
    cases this with
    |aM _ _ _ ak=>exact ak _ _ _ _ ag
   have re:arr= #[arr.getD 0 undef,β rid]:=by
    have ai:arr.size=2:=ct
    apply Array.ext
    ·simpa using ai
    ·intro i xE l4
     have hi:i=0∨i=1:=by omega
     rcases hi with rfl|rfl
     ·simp[Array.getD,ai]
     ·have:=AA
      simp only[Array.getD,ai]at this;simpa using this
   have bI:b<w.heap.size:=(Array.getElem?_eq_some_iff.1 bh).1
   have fin:Calls P (a7.f 169) #[.pointer (some ⟨b,0,none⟩)] w fun e w'=>e= .returned (.string ⟨#[]⟩)∧(w'=w.drew∨∃o,w'=w.drew.alloc o):=by
    rcases cZ.2 with⟨⟨c,aw,tI⟩,_⟩|⟨g,cap,cur,aw,ak,_⟩
    ·cases c with
     |none=>exact Calls.mono (Uh L X b (arr.getD 0 undef) w (by rw[bh,←aw,←re])) fun e w' ⟨he,hw⟩=>⟨he,.inl hw⟩
     |some cW=>
      obtain⟨q,eu,aJ,AN⟩:=zgV L cW w.drew (tI cW rfl);refine Calls.mono (zgU L X b cW q (arr.getD 0 undef) w eu (by rw[bh,←aw,←re]) ?_ aJ) fun e w' ⟨he,hw⟩=>⟨he,by rw[hw];exact AN⟩
      rcases AN with rfl|⟨o,rfl⟩
      ·rfl
      ·exact Lib.alloc_old w.drew _ b bI
    ·exact Calls.mono (zgT L X b g cap (arr.getD 0 undef) w (Nat.ne_of_gt ak) (by rw[bh,←(show β rid= .slice (some ⟨g,0,none⟩) 0 cap from aw),←re])) fun e w' ⟨he,hw⟩=>⟨he,.inl hw⟩
   rw[rD];refine Calls.mono fin fun e w' ⟨he,hw⟩=>?_
   have hold: ∀k,k<w.heap.size→w'.heap[k]? =w.heap[k]? :=fun k aj=>by
    rcases hw with rfl|⟨o,rfl⟩
    ·rfl
    ·exact Lib.alloc_old w.drew _ k aj
   have bQ:w.heap.size≤w'.heap.size:=by
    rcases hw with rfl|⟨o,rfl⟩
    ·exact Nat.le_refl _
    ·show w.heap.size≤(w.heap.push _).size
     rw[Array.size_push];exact Nat.le_succ _
   have om:w'.os=w.os∧w'.tape=w.drew.tape∧w'.output=w.output:=by
    rcases hw with rfl|⟨o,rfl⟩<;>exact⟨rfl,rfl,rfl⟩
   have sub: ∀k o,aD (gm σ rid) k=some o→aD σ k=some o:=by
    intro k o aj;rw[yz]at aj
    split at aj
    ·cases aj
    ·exact aj
   refine⟨_,_,gm σ rid,β,ro,n,he,⟨rfl,rfl⟩,.fC rfl,av.drop ag (fun k aj _=>hold k aj) bQ,⟨om.1,om.2.1,om.2.2,bQ,fun k aj _=>hold k aj,fun _ h=>.inl h,fun _ h=>h,fun k ⟨j,o,af,ar,ad⟩=>.inl ⟨j,o,sub _ _ af,ar,ad⟩,fun k aj o ah=>⟨by rw[sub _ _ ah];simp,rfl⟩,fun k o ah=>bL k o (sub _ _ ah),Nat.le_refl _⟩⟩
theorem Zr(L:Lays.n169 P a7)(X:Builder.Extra P a7){G:a8}{id:Nat}{x0:aC}{l:List Int}(bb:aD σ id=some (.box (a7.t 72) [x0,.aM rid]))(ag:aD σ rid=some (.row false (a7.t 5) 1 (l.map fun z=>[.v (.int .u8 z)]))):
 dE P G (a7.f 169) [.ptr id 0] σ n fun r bU=>r= .au (.v (.string (bytesOf l)))∧bU=gm σ rid:=by
 cases l with
 |nil=>exact zg0 L X bb ag
 |cons z l=>exact zgY L X (by simp) bb ag
end
end Go.aK
namespace Go.aK
open Go
def qm:List (Nat × bB)→Nat→List (Nat × bB)
 |[],_=>[]
 |(k,x)::r,id=>match Nat.beq k id with
  |true=>qm r id
  |false=>(k,x)::qm r id
theorem MW{G:a8}{e:Env}{id:Nat}: ∀(h:List (Nat × bB)),cw G e (qm h id)=gm (cw G e h) id
 |[]=>rfl
 |(k,x)::r=>by
  simp only[qm,cw,gm]
  by_cases aj:k=id
  ·subst aj
   simp only[Nat.beq_refl,if_true];exact MW r
  ·have:Nat.beq k id=false:=by cases aJ:Nat.beq k id with|true=>exact absurd (Nat.eq_of_beq_eq_true aJ) aj|false=>rfl
   simp only[this,if_neg aj,cw,MW r]
theorem MX{k id:Nat}: ∀{h:List (Nat × bB)},eE k h=true→eE k (qm h id)=true
 |[],h=>h
 |(j,x)::r,h=>by
  have bd:x.lt k=true∧eE k r=true:=by cases x<;>simpa only[eE,Bool.and_eq_true]using h
  simp only[qm]
  split
  ·exact MX bd.2
  ·show(x.lt k&&eE k (qm r id))=true
   rw[bd.1,MX bd.2];rfl
def MY(uV qn t5:Nat)(inl:Nat→List ab→aq→aB)(f:Nat)(aG:List ab)(S:aq):aB:=
 match Nat.beq f uV,aG with
 |true,[.eb id 0]=>match da S.h id with
  |some (.dm t [x0,.aM r])=>match da S.h r with
   |some (.rw bz .u8 x)=>match(Nat.beq t qn&&Nat.beq bz t5)&&(x.er (.li .u8)&&x.lt S.k)with
    |true=>emit S.k [.f1 .cM x] [] (.cG .cj ⟨ba.put .emp 0 (.aT .str S.k),qm S.h r,S.n,S.k+1,S.g⟩)
    |false=>inl f aG S
   |_=>inl f aG S
  |some (.dm t [x0,.cs (.slice none 0 0)])=>match Nat.beq t qn with
   |true=>.cG .cj ⟨ba.put .emp 0 (.cs (.string ⟨#[]⟩)),S.h,S.n,S.k,S.g⟩
   |false=>inl f aG S
  |_=>inl f aG S
 |_,_=>inl f aG S
section
variable {P:Program} {G:a8} {M:List aR} {inl:Nat→List ab→aq→aB} {uV qn t5:Nat}
def tz(P:Program)(G:a8)(uV qn t5:Nat):Prop:=
 (∀{σ:Heap} {n rid id:Nat} {x0:aC} {l:List Int},aD σ id=some (.box qn [x0,.aM rid])→aD σ rid=some (.row false t5 1 (l.map fun z=>[.v (.int .u8 z)]))→
  dE P G uV [.ptr id 0] σ n fun r bU=>r= .au (.v (.string (bytesOf l)))∧bU=gm σ rid)∧
 ∀{σ:Heap} {n id:Nat} {x0:aC},aD σ id=some (.box qn [x0,.au (.v (.slice none 0 0))])→dE P G uV [.ptr id 0] σ n fun r bU=>r= .au (.v (.string ⟨#[]⟩))∧bU=σ
theorem zg1(c8:tz P G uV qn t5)(bW:fP P G M inl):fP P G M (MY uV qn t5 inl):=fun f aG S e ad ar hf ai=>by
 unfold MY at ai⊢
 split at ai
 rotate_left
 ·exact bW _ _ S e ad ar hf ai
 rename_i id zg2
 have aX:=Nat.eq_of_beq_eq_true zg2
 subst aX
 split at ai
 ·rename_i t x0 r ah
  split at ai
  rotate_left
  ·exact bW _ _ S e ad ar hf ai
  rename_i bz x MZ
  split at ai
  rotate_left
  ·exact bW _ _ S e ad ar hf ai
  rename_i aj;simp only[Bool.and_eq_true]at aj;obtain⟨⟨fu,gE⟩,kM,r2⟩:=aj
  have fu:=Nat.eq_of_beq_eq_true fu
  have gE:=Nat.eq_of_beq_eq_true gE
  subst fu gE
  have uS:ho S.k [bJ.f1 .cM x]=true:=by
   simp only[ho,bJ.lt,r2,Bool.and_self]
  have bS:bX S.k e (dh M e S.k [bJ.f1 .cM x]):=jJ (Nat.le_refl _)
  have eH:=jq (M:=M) (e:=e) uS 0 _ rfl
  have zg3:x.az (dh M e S.k [bJ.f1 .cM x]) (.li .u8)=x.az e (.li .u8):=eC bS r2
  simp only[Nat.add_zero,bJ.den,gD.den,gD.a,zg3]at eH
  have lA:=c8.1 (σ:=cw G e S.h) (n:=S.n) (rid:=r) (id:=id) (x0:=x0.den G e) (l:=x.az e (.li .u8)) (by rw[ef,ah];rfl) (by rw[ef,MZ];rfl)
  refine lA.res fun zg4 bU ⟨aa,ae⟩=>⟨⟨ba.put .emp 0 (.aT .str S.k),qm S.h r,S.n,S.k+1,S.g⟩,dh M e S.k [bJ.f1 .cM x],by rw[ly];rfl,?_,?_,?_,h8 bS ad.g hf,bS,Nat.le_succ _⟩
  ·rw[aa]
   show _=ab.den G _ (aq.at _ 0);unfold aq.at
   simp only[ba.hR,if_true,ab.den,ab.dyn,eH];rfl
  ·rw[ae]
   show _=cw G _ (qm S.h r);rw[MW,wF bS ad.h]
  ·refine⟨fun i y hi=>?_,MX (ss (Nat.le_succ _) ad.h),nD (Nat.le_succ _) ad.g⟩
   simp only[ba.hR]at hi
   split at hi
   ·cases hi
    exact jI (Nat.lt_succ_self _)
   ·simp[ba.get]at hi
 ·rename_i t x0 ah
  split at ai
  rotate_left
  ·exact bW _ _ S e ad ar hf ai
  rename_i fu
  have fu:=Nat.eq_of_beq_eq_true fu
  subst fu
  have lA:=c8.2 (σ:=cw G e S.h) (n:=S.n) (id:=id) (x0:=x0.den G e) (by rw[ef,ah];rfl)
  refine lA.res fun zg4 bU ⟨aa,ae⟩=>⟨⟨ba.put .emp 0 (.cs (.string ⟨#[]⟩)),S.h,S.n,S.k,S.g⟩,e,rfl,?_,?_,?_,hf,bX.refl _ _,Nat.le_refl _⟩
  ·rw[aa]
   show _=ab.den G _ (aq.at _ 0);unfold aq.at
   simp only[ba.hR,if_true,ab.den]
  ·rw[ae]
  ·refine⟨fun i y hi=>?_,ad.h,ad.g⟩
   simp only[ba.hR]at hi
   split at hi
   ·cases hi
    rfl
   ·simp[ba.get]at hi
 ·exact bW _ _ S e ad ar hf ai
end
end Go.aK
namespace Go.aK
open Go
def nO(n:Nat)(b:Bool)(f:b0→Bool)(x:b0):Bool:=
 match x.bT n with
 |true=>b
 |false=>f x
def rE(n:Nat)(b:Bool)(f:b0→Bool)(x:b0):Bool:=
 match x.cX n with
 |true=>b
 |false=>f x
def aB.e2:aB→(b0→Bool)→Bool
 | .cG x _,f=>f x
 | .lt _ _ t,f=>t.e2 f
 | .eD _ _,_=>false
 | .it _ a b,f=>a.e2 f&&b.e2 f
 | .dz n a _ k,f=>a.e2 (nO n (k.e2 f) f)
 | .ei m xid _ _ _ a k,f=>k.e2 f&&a.e2 (nO m true (rE xid true f))
 | .eY _ _ _ _ _,_=>false
 | .bad _,_=>false
def aB.hZ(M:List aR):aB→Env→(b0→Bool)→(b0→aq→Env→Prop)→Prop
 | .cG x S,e,_,Q=>Q x S e
 | .lt i x t,e,f,Q=>t.hZ M (ba.put e i (x.den M e)) f Q
 | .eD n t,e,f,Q=>match t.e2 f with
  |true=>n.ok M e
  |false=>n.ok M e∧t.hZ M e f Q
 | .it g a b,e,f,Q=>match a.e2 f,b.e2 f with
  |true,true=>True
  |true,false=>g.az e .bool=false→b.hZ M e f Q
  |false,true=>g.az e .bool=true→a.hZ M e f Q
  |false,false=>(g.az e .bool=true→a.hZ M e f Q)∧(g.az e .bool=false→b.hZ M e f Q)
 | .dz n a ps k,e,f,Q=>a.hZ M e (nO n (k.e2 f) f) fun x S ay=>bif x.bT n then k.hZ M (fR e (fun r p=>⟨r,(p.dg S).get ay r⟩) ps) f Q else Q x S ay
 | .ei m xid dn b1 ca a k,e,f,Q=>match k.e2 f with
  |true=>∃I:Nat→bY ca→Prop,I 0 (b8 _ (dC e ca))∧∀(i:Nat) (v:bY ca),i<(ck (dn.den M e)).toNat→I i v→
   a.hZ M (bl (ba.put e b1 ⟨.int .i64,(i:Int)⟩) ca v) (nO m false (rE xid true f)) fun x S ay=>bif x.bT m then I (i+1) (b8 _ (fw S ay ca))else bif x.cX xid then True else Q x S ay
  |false=>∃I:Nat→bY ca→Prop,I 0 (b8 _ (dC e ca))∧(∀(i:Nat) (v:bY ca),i<(ck (dn.den M e)).toNat→I i v→
   a.hZ M (bl (ba.put e b1 ⟨.int .i64,(i:Int)⟩) ca v) (nO m false (rE xid false f)) fun x S ay=>bif x.bT m then I (i+1) (b8 _ (fw S ay ca))else bif x.cX xid then k.hZ M (bl e ca (b8 _ (fw S ay ca))) f Q else Q x S ay)∧
   ∀v,I (ck (dn.den M e)).toNat v→k.hZ M (bl e ca v) f Q
 | .eY m xid ca a k,e,f,Q=>∃(I:bY ca→Prop) (jt:bY ca→Nat),I (b8 _ (dC e ca))∧jt (b8 _ (dC e ca))<dT∧∀(v:bY ca),I v→
  a.hZ M (bl e ca v) (nO m false (rE xid (k.e2 f) f)) fun x S ay=>bif x.bT m then I (b8 _ (fw S ay ca))∧jt (b8 _ (fw S ay ca))<jt v else bif x.cX xid then k.hZ M (bl e ca (b8 _ (fw S ay ca))) f Q else Q x S ay
 | .bad _,_,_,_=>False
section
variable {M:List aR}
def kb(f:b0→Bool)(Q:b0→aq→Env→Prop):Prop:=∀x,f x=true→∀S e,Q x S e
theorem kb.dz{f:b0→Bool}{Q R:b0→aq→Env→Prop}{n:Nat}{b:Bool}(h:kb f R)(ad:b=true→∀x S e,x.bT n=true→Q x S e)(ag: ∀x S e,x.bT n=false→R x S e→Q x S e):kb (nO n b f) Q:=fun x hx S e=>by
 unfold nO at hx
 cases af:x.bT n with
 |true=>rw[af]at hx;exact ad hx x S e af
 |false=>rw[af]at hx;exact ag x S e af (h x hx S e)
theorem kb.sA{f:b0→Bool}{Q R:b0→aq→Env→Prop}{n:Nat}{b:Bool}(h:kb f R)(ad:b=true→∀x S e,x.cX n=true→Q x S e)(ag: ∀x S e,x.cX n=false→R x S e→Q x S e):kb (rE n b f) Q:=fun x hx S e=>by
 unfold rE at hx
 cases af:x.cX n with
 |true=>rw[af]at hx;exact ad hx x S e af
 |false=>rw[af]at hx;exact ag x S e af (h x hx S e)
theorem kc: ∀(t:aB) {e:Env} {f:b0→Bool} {Q:b0→aq→Env→Prop},kb f Q→t.e2 f=true→t.wp M e Q
 | .cG x S,e,_,_,h,c=>h x c S e
 | .lt _ _ t,_,_,_,h,c=>kc t h c
 | .eD _ _,_,_,_,_,c=>by cases c
 | .it _ a b,_,_,_,h,c=>by
  simp only[aB.e2,Bool.and_eq_true]at c;exact⟨fun _=>kc a h c.1,fun _=>kc b h c.2⟩
 | .dz n a ps k,e,f,Q,h,c=>kc a (kb.dz h (fun ad x S ay af=>by rw[af];exact kc k h ad) (fun x S ay af aJ=>by rw[af];exact aJ)) c
 | .ei m xid dn b1 ca a k,e,f,Q,h,c=>by
  simp only[aB.e2,Bool.and_eq_true]at c;refine⟨fun _ _=>True,trivial,fun i v _ _=>kc a (kb.dz (kb.sA h (Q:=fun x S ay=>bif x.cX xid then k.wp M (bl e ca (b8 _ (fw S ay ca))) Q else Q x S ay) (fun _ x S ay af=>by rw[af];exact kc k h c.1) (fun x S ay af aJ=>by rw[af];exact aJ)) (fun _ x S ay af=>by rw[af];trivial) (fun x S ay af aJ=>by rw[af];exact aJ)) c.2,fun v _=>kc k h c.1⟩
 | .eY _ _ _ _ _,_,_,_,_,c=>by cases c
 | .bad _,_,_,_,_,c=>by cases c
theorem kd: ∀(t:aB) {e:Env} {f:b0→Bool} {Q R:b0→aq→Env→Prop},(∀x S ay,Q x S ay→R x S ay)→t.hZ M e f Q→t.hZ M e f R
 | .cG _ _,_,_,_,_,h,q=>h _ _ _ q
 | .lt _ _ t,_,_,_,_,h,q=>kd t h q
 | .eD n t,e,f,Q,R,h,q=>by
  simp only[aB.hZ]at q⊢
  cases hc:t.e2 f with
  |true=>rw[hc]at q;exact q
  |false=>rw[hc]at q;exact⟨q.1,kd t h q.2⟩
 | .it g a b,e,f,Q,R,h,q=>by
  simp only[aB.hZ]at q⊢
  cases a6:a.e2 f<;>cases ad:b.e2 f<;>rw[a6,ad]at q<;>simp only at q⊢
  ·exact⟨fun ah=>kd a h (q.1 ah),fun ah=>kd b h (q.2 ah)⟩
  ·exact fun ah=>kd a h (q ah)
  ·exact fun ah=>kd b h (q ah)
 | .dz n a ps k,e,f,Q,R,h,q=>kd a (fun x S ay r=>by
  cases hx:x.bT n with
  |true=>rw[hx]at r;exact kd k h r
  |false=>rw[hx]at r;exact h _ _ _ r) q
 | .ei m xid dn b1 ca a k,e,f,Q,R,h,q=>by
  simp only[aB.hZ]at q⊢
  cases hc:k.e2 f with
  |true=>
   rw[hc]at q;obtain⟨I,aa,ae⟩:=q;refine⟨I,aa,fun i v hi aw=>kd a (fun x S ay r=>?_) (ae i v hi aw)⟩
   cases hx:x.bT m with
   |true=>rw[hx]at r;exact r
   |false=>
    rw[hx]at r
    cases ax:x.cX xid with
    |true=>trivial
    |false=>rw[ax]at r;exact h _ _ _ r
  |false=>
   rw[hc]at q;obtain⟨I,aa,ae,av⟩:=q;refine⟨I,aa,fun i v hi aw=>kd a (fun x S ay r=>?_) (ae i v hi aw),fun v aw=>kd k h (av v aw)⟩
   cases hx:x.bT m with
   |true=>rw[hx]at r;exact r
   |false=>
    rw[hx]at r
    cases ax:x.cX xid with
    |true=>rw[ax]at r;exact kd k h r
    |false=>rw[ax]at r;exact h _ _ _ r
 | .eY m xid ca a k,e,f,Q,R,h,q=>by
  obtain⟨I,jt,aa,ae,av⟩:=q;refine⟨I,jt,aa,ae,fun v aw=>kd a (fun x S ay r=>?_) (av v aw)⟩
  cases hx:x.bT m with
  |true=>rw[hx]at r;exact r
  |false=>
   rw[hx]at r
   cases ax:x.cX xid with
   |true=>rw[ax]at r;exact kd k h r
   |false=>rw[ax]at r;exact h _ _ _ r
 | .bad _,_,_,_,_,_,q=>q.elim
theorem lD: ∀(t:aB) {e:Env} {f:b0→Bool} {Q:b0→aq→Env→Prop},kb f Q→t.hZ M e f Q→t.wp M e Q
 | .cG _ _,_,_,_,_,q=>q
 | .lt _ _ t,_,_,_,h,q=>lD t h q
 | .eD n t,e,f,Q,h,q=>by
  simp only[aB.hZ]at q
  cases hc:t.e2 f with
  |true=>rw[hc]at q;exact⟨q,kc t h hc⟩
  |false=>rw[hc]at q;exact⟨q.1,lD t h q.2⟩
 | .it g a b,e,f,Q,h,q=>by
  simp only[aB.hZ]at q
  cases a6:a.e2 f<;>cases ad:b.e2 f<;>rw[a6,ad]at q<;>simp only at q
  ·exact⟨fun ah=>lD a h (q.1 ah),fun ah=>lD b h (q.2 ah)⟩
  ·exact⟨fun ah=>lD a h (q ah),fun _=>kc b h ad⟩
  ·exact⟨fun _=>kc a h a6,fun ah=>lD b h (q ah)⟩
  ·exact⟨fun _=>kc a h a6,fun _=>kc b h ad⟩
 | .dz n a ps k,e,f,Q,h,q=>by
  refine lD a (f:=nO n (k.e2 f) f) (kb.dz h (fun ad x S ay af=>?_) (fun x S ay af aJ=>by rw[af];exact aJ)) ?_
  ·rw[af];exact kc k h ad
  ·exact kd a (fun x S ay r=>by
    cases hx:x.bT n with
    |true=>rw[hx]at r;exact lD k h r
    |false=>rw[hx]at r;exact r) q
 | .ei m xid dn b1 ca a k,e,f,Q,h,q=>by
  simp only[aB.hZ]at q
  cases hc:k.e2 f with
  |true=>
   rw[hc]at q;obtain⟨I,aa,ae⟩:=q;refine⟨I,aa,fun i v hi aw=>?_,fun v _=>kc k h hc⟩
   refine lD a (f:=nO m false (rE xid true f)) (kb.dz (kb.sA h (Q:=fun x S ay=>bif x.cX xid then k.wp M (bl e ca (b8 _ (fw S ay ca))) Q else Q x S ay) (fun _ x S ay af=>by rw[af];exact kc k h hc) (fun x S ay af aJ=>by rw[af];exact aJ)) (fun ad=>by cases ad) (fun x S ay af aJ=>by rw[af];exact aJ)) ?_
   refine kd a (fun x S ay r=>?_) (ae i v hi aw)
   cases hx:x.bT m with
   |true=>rw[hx]at r;exact r
   |false=>
    rw[hx]at r
    cases ax:x.cX xid with
    |true=>exact kc k h hc
    |false=>rw[ax]at r;exact r
  |false=>
   rw[hc]at q;obtain⟨I,aa,ae,av⟩:=q;refine⟨I,aa,fun i v hi aw=>?_,fun v aw=>lD k h (av v aw)⟩
   refine lD a (f:=nO m false (rE xid false f)) (kb.dz (kb.sA h (Q:=fun x S ay=>bif x.cX xid then k.wp M (bl e ca (b8 _ (fw S ay ca))) Q else Q x S ay) (fun ad=>by cases ad) (fun x S ay af aJ=>by rw[af];exact aJ)) (fun ad=>by cases ad) (fun x S ay af aJ=>by rw[af];exact aJ)) ?_
   refine kd a (fun x S ay r=>?_) (ae i v hi aw)
   cases hx:x.bT m with
   |true=>rw[hx]at r;exact r
   |false=>
    rw[hx]at r
    cases ax:x.cX xid with
    |true=>rw[ax]at r;exact lD k h r
    |false=>rw[ax]at r;exact r
 | .eY m xid ca a k,e,f,Q,h,q=>by
  obtain⟨I,jt,aa,ae,av⟩:=q;refine⟨I,jt,aa,ae,fun v aw=>?_⟩
  refine lD a (f:=nO m false (rE xid (k.e2 f) f)) (kb.dz (kb.sA h (Q:=fun x S ay=>bif x.cX xid then k.wp M (bl e ca (b8 _ (fw S ay ca))) Q else Q x S ay) (fun ad x S ay af=>by rw[af];exact kc k h ad) (fun x S ay af aJ=>by rw[af];exact aJ)) (fun ad=>by cases ad) (fun x S ay af aJ=>by rw[af];exact aJ)) ?_
  refine kd a (fun x S ay r=>?_) (av v aw)
  cases hx:x.bT m with
  |true=>rw[hx]at r;exact r
  |false=>
   rw[hx]at r
   cases ax:x.cX xid with
   |true=>rw[ax]at r;exact lD k h r
   |false=>rw[ax]at r;exact r
 | .bad _,_,_,_,_,q=>q.elim
end
def vD(M:List aR)(t:aB)(e:Env):Prop:=t.hZ M e (fun _=>true) fun _ _ _=>True
theorem M0{M:List aR}{t:aB}{e:Env}(h:vD M t e):t.wp M e fun _ _ _=>True:=lD t (fun _ _ _ _=>trivial) h
section
variable {P:Program} {G:a8} {M:List aR} {inl:Nat→List ab→aq→aB}
theorem cx(bW:fP P G M inl){f:Nat}{m:aR}(t:aB)(aH:inl f (hr 0 m.ps) (pI m.ps.length)=t)(he:t.gv.all (tx m.rs)=true)
 (ai: ∀x,vD M t (gw 0 (dv m.ps x))=kz m.pre x)(hm: ∀x,vE M t m.rs (gw 0 (dv m.ps x))=m.m x):bE P G f m:=
 zgg bW t aH he (fun x hx=>M0 (by rw[ai x];exact hx)) hm
theorem Zq(bW:fP P G M inl){f:Nat}{m:aR}(t:aB)(aH:inl f (hr 0 m.ps) (pI m.ps.length)=t)(he:t.gv.all (tx m.rs)=true)
 (ai: ∀x,kz m.pre x→vD M t (gw 0 (dv m.ps x)))(hm: ∀x,kz m.pre x→vE M t m.rs (gw 0 (dv m.ps x))=m.m x):bE P G f m:=
 Mv bW t aH he (fun x hx=>(ka t (M0 (ai x hx))).1) fun x hx=>by rw[←hm x hx];exact(mi t _ _ _).symm
theorem B4(bW:fP P G M inl){f:Nat}{t:TypeId}{c:bF}{ps rs:List aU}{pre:Option ((fa (.st c::ps)).den→Prop)}{nN:(fa (.st c::ps)).den→(fa (.st c::rs)).den}(T:aB)(aH:inl f (.eb 0 0::hr 1 ps) (sU t c ps.length)=T)
 (he:T.gv.all (Mz t c rs)=true)(ai: ∀x,vD M T (gw 0 (dv (.st c::ps) x))=kz pre x)(hm: ∀x,EA M T t c rs (gw 0 (dv (.st c::ps) x))=nN x):my P G f t ⟨.st c::ps,.st c::rs,pre,nN⟩:=
 T2 bW T aH he (fun x hx=>(ka T (M0 (by rw[ai x];exact hx))).1) hm
end
end Go.aK
