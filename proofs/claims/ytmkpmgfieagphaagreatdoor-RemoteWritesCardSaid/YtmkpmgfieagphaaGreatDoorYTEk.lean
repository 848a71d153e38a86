/- TE, part E: contracts out of trees, of functions that are handed an own box. Conditions: none. -/
import Derived.Test.YtmkpmgfieagphaaGreatDoorYTEd
import Derived.Test.YtmkpmgfieagphaaGreatDoorYTDa
import Derived.ProofKit
import Derived.LaidMore
import Derived.OpenShut
import Derived.MakeChecks
import Derived.ChangeArms
import Derived.ReadAgain
import Derived.ChangeBears
import Derived.Stop.Joined
import Derived.SizedLaws
import Derived.Shelf.Strings.Builder1
namespace Go.aO
open Go
section
variable {P:Program} {G:bd} {f:FuncId} {args:List aF} {t:TypeId} {σ:Heap} {R:aF→Heap→Prop}
theorem dJ.zhT(h:dJ P G f args σ 1 R){Q:aF→List aF→Prop}(fS: ∀r b1,R r b1→∃v k7 cs,aG b1 0=some (.box t k7)∧fW k7 cs∧e8 cs=true∧Sub r v∧fH v=true∧Q v cs):
 dJ P G f args σ 1 fun v b1=>∃cs,b1=[(0,.box t cs)]∧Q v cs:=by
 intro w β ro ed aa ae au aW bN
 refine Calls.mono (h w β ro ed aa ae au aW bN) fun e w' ⟨v,r,b1,dN,ro',cT,he,ag,dD,hL,cL⟩=>?_
 obtain⟨u,k7,cs,ah,gC,ak,hu,NN,aN⟩:=fS r b1 ag
 have xW: ∀{id:Nat} {o:ei},aG [(0,ei.box t cs)] id=some o→id=0∧o= .box t cs:=fun {id o} ah=>by
  simp only[aG]at ah
  split at ah
  ·rename_i hi;cases ah;exact⟨hi.symm,rfl⟩
  ·cases ah
 have own: ∀b,Own [(0,ei.box t cs)] dN b→Own b1 dN b:=fun b ⟨id,o,rI,_,ad⟩=>by
  obtain⟨rfl,rfl⟩:=xW rI;exact⟨0,_,ah,rfl,ad⟩
 refine⟨v,u,[(0,.box t cs)],dN,ro',cT,he,⟨cs,rfl,aN⟩,nC (hu _ _ _ _ _ _ dD) NN,⟨fun id o rI=>?_,fun id gv o ct b rI zhU _ _ _ _=>?_,fun b ad ao=>hL.fk b ad (own b ao),hL.lt⟩,
  ⟨cL.os,cL.tape,cL.output,cL.size,cL.frame,cL.jk,cL.jZ,fun b ad=>cL.gZ b (own b ad),fun id bh o rI=>?_,fun id o rI=>?_,cL.le⟩⟩
 ·obtain⟨rfl,rfl⟩:=xW rI
  have dr:=hL.dh 0 _ ah
  cases dr with
  |box _ _ b arr aE bo cv eC=>
   refine .box t cs b arr aE bo (by rw[cv,gC.at.1]) fun j x af=>?_
   obtain⟨y,ay,ai⟩:=gC.at.2 j x af;exact nC (ai _ _ _ _ _ _ (eC j y ay)) (mO ak af)
 ·rw[(xW rI).1,(xW zhU).1]
 ·obtain⟨rfl,rfl⟩:=xW rI
  exact cL.dM 0 bh _ ah
 ·obtain⟨rfl,rfl⟩:=xW rI
  exact cL.new 0 _ ah
end
def te(t:TypeId)(c:bJ)(n:Nat):aq:=⟨.emp,[(0,.cQ t (iV c 0 0 (eR c)))],1,n+1,[]⟩
def N7(t:TypeId)(c:bJ)(rs:List a6)(C:aq):Option (List ab):=
 match dj C.h 0 with
 |some (.cQ bI l)=>match(Nat.beq bI t&&hl (eR c) l)&&(N1 rs (C.at 0)&&s9 (vf rs (C.at 0)))with
  |true=>match rG C rs (vf rs (C.at 0))with
   |some xs=>some (.bO l::xs)
   |none=>none
  |false=>none
 |_=>none
def N8(t:TypeId)(c:bJ)(rs:List a6)(C:aq):Bool:=(N7 t c rs C).isSome
def Vu(t:TypeId)(c:bJ)(rs:List a6)(C:aq)(e:Env):(fg (.st c::rs)).den:=
 match N7 t c rs C with
 |some l=>cg (.st c::rs) (gF e (.st c::rs) l)
 |none=>(fg (.st c::rs)).fz
def FE(M:List aV)(T:aD)(t:TypeId)(c:bJ)(rs:List a6)(e:Env):(fg (.st c::rs)).den:=T.kg M e (fun _ C aB=>Vu t c rs C aB) (fg (.st c::rs)).fz
section
variable {P:Program} {G:bd} {M:List aV} {inl:Nat→List ab→aq→aD}
theorem zhV{c:bJ}{i k:Nat}(h:i<k):ab.cV k (iV c i 0 (eR c))=true:=Fu h
theorem zhW{rs:List a6}{S:aq}{e:Env}{xs:List ab}(aK:N1 rs (S.at 0)=true)(gk:s9 (vf rs (S.at 0))=true)(h:rG S rs (vf rs (S.at 0))=some xs):
 Sub ((S.at 0).den G e) (match(gF e rs xs).map aI.fq with|[v]=>v|l=>.tuple l):=by
 obtain⟨cf,_,a3,a4⟩:=xU (G:=G) (e:=e) h
 rw[a3 gk]at cf
 match rs,cf,a4,aK with
 |[r],cf,a4,aK=>
  obtain⟨d,oU,ax,aa,ae⟩:=ly a4
  cases me ae
  rw[ax]at cf⊢;simp only[vf,ab.bX,List.map_cons,List.map_nil]at cf⊢
  cases cf with
  |cons h _=>exact h
 |[],cf,a4,aK=>
  cases ax:S.at 0 with
  |tp m=>
   rw[ax]at cf;rw[me a4]at cf⊢;exact cf.tuple
  |_=>rw[ax]at aK;cases aK
 |r::s::q,cf,a4,aK=>
  cases ax:S.at 0 with
  |tp m=>
   rw[ax]at cf
   have ar:=congrArg List.length a4
   simp only[List.length_map,List.length_cons]at ar;generalize gF e (r::s::q) xs=ds at cf ar⊢
   match ds,ar with
   |d::d2::ds,_=>exact cf.tuple
  |_=>rw[ax]at aK;cases aK
theorem Vv(b2:fE P G M inl){f:Nat}{t:TypeId}{c:bJ}{ps rs:List a6}{pre:Option ((fg (.st c::ps)).den→Prop)}{nZ:(fg (.st c::ps)).den→(fg (.st c::rs)).den}(T:aD)(aK:inl f (.cq 0 0::ht 1 ps) (te t c ps.length)=T)
 (he:T.gA.all (N8 t c rs)=true)(ai: ∀x,k8 pre x→T.safe M (gB 0 (dB (.st c::ps) x)))(hm: ∀x,FE M T t c rs (gB 0 (dB (.st c::ps) x))=nZ x):mJ P G f t ⟨.st c::ps,.st c::rs,pre,nZ⟩:=fun x hx=>by
 subst aK
 obtain⟨d0,td,mQ,n5,hdr⟩:=ly (ta (rs:=.st c::ps) (x:=x))
 obtain⟨zhR,di⟩:=d0
 simp only at n5
 subst n5
 have ar:td.length=ps.length:=by have:=congrArg List.length hdr;rw[List.length_map]at this;exact this
 have ad:(te t c ps.length).cz:=⟨fun i x hi=>by simp[te,bg.get]at hi,by
  show(ab.cV (ps.length+1) (iV c 0 0 (eR c))&&true)=true;rw[zhV (Nat.succ_pos _)]
  rfl,rfl⟩
 have h:=b2 f (.cq 0 0::ht 1 ps) (te t c ps.length) (gB 0 (dB (.st c::ps) x)) ad (by
  show(true&&ab.cV (ps.length+1) (ht 1 ps))=true;rw[A5 (by omega)]
  rfl) (fun c hc=>by cases hc) (ai x hx)
 have eM: ∀j d,(⟨.st c,di⟩::td)[j]? =some d→Env.at (gB 0 (dB (.st c::ps) x)) j=d:=fun j d af=>by
  have:=N0 (ds:=dB (.st c::ps) x) (i:=0) (j:=j) (d:=d) (by rw[mQ];exact af)
  rwa[Nat.zero_add]at this
 have hd:ab.bX G (gB 0 (dB (.st c::ps) x)) (ht 1 ps)=td.map aI.fq:=A4 hdr fun j d af=>by rw[Nat.add_comm];exact eM (j+1) d (by simpa using af)
 have nw:cH G (gB 0 (dB (.st c::ps) x)) (te t c ps.length).h=[(0,.box t ((cj c di).map .aw))]:=by
  have aP:=eM 0 ⟨.st c,di⟩ rfl
  simp only[te,cH,bK.den];rw[sC,aP,cI]
 have hX:ab.bX G (gB 0 (dB (.st c::ps) x)) (.cq 0 0::ht 1 ps)= .ptr 0 0::td.map aI.fq:=by
  show aF.ptr 0 0::_=_;rw[hd]
 rw[hX,nw]at h
 show dJ P G f (.ptr 0 0::(dB (.st c::ps) x).tail.map aI.fq) [(0,.box t (xV (dB (.st c::ps) x)))] 1 _
 rw[mQ]
 refine dJ.zhT (Q:=fun v cs=>v=Fy (dB (.st c::rs) (nZ x))∧cs=xV (dB (.st c::rs) (nZ x))) h fun r b1 ag=>?_
 obtain⟨aZ,aB,cy,rfl,rfl,_⟩:=ag
 have nT:=Vn he cy
 obtain⟨l,l7⟩:=Option.isSome_iff_exists.1 nT
 have sm:=hm x
 unfold FE at sm
 rw[mr,kb cy]at sm
 unfold Vu at sm
 rw[l7]at sm
 simp only at sm
 unfold N7 at l7
 split at l7
 rotate_left
 ·cases l7
 rename_i bI Dq ah
 split at l7
 rotate_left
 ·cases l7
 rename_i hc
 simp only[Bool.and_eq_true]at hc
 obtain⟨⟨aY,bW⟩,cK,eo⟩:=hc
 have aY:=Nat.eq_of_beq_eq_true aY
 subst aY
 split at l7
 rotate_left
 ·cases l7
 rename_i xs nA
 cases l7
 obtain⟨_,_,_,a4⟩:=xU (G:=G) (e:=aB) nA
 have vc:(gF aB (.st c::rs) (.bO Dq::xs)).map aI.r= .st c::rs:=by simp only[gF,List.map_cons,a4]
 rw[←sm,xT vc]
 exact⟨_,_,_,by rw[eh,ah];rfl,zW bW,Db _,zhW cK eo nA,by
  have ak:=Fs (gF aB rs xs)
  split
  ·rename_i v ax
   rw[ax]at ak;simpa[e8]using ak
  ·exact ak,rfl,rfl⟩
theorem C0(b2:fE P G M inl){f:Nat}{t:TypeId}{c:bJ}{ps rs:List a6}{nZ:(fg (.st c::ps)).den→(fg (.st c::rs)).den}(T:aD)(aK:inl f (.cq 0 0::ht 1 ps) (te t c ps.length)=T)
 (he:(T.clean&&T.gA.all (N8 t c rs))=true)(hm: ∀x,FE M T t c rs (gB 0 (dB (.st c::ps) x))=nZ x):mJ P G f t ⟨.st c::ps,.st c::rs,none,nZ⟩:=by
 simp only[Bool.and_eq_true]at he
 exact Vv b2 T aK he.2 (fun _ _=>rk M he.1) hm
end
end Go.aO
namespace Go.aO
open Go Go.ChangeShapes Go.WideShapes Go.RowKit
inductive k6 (P:Program):TypeId→List bb→Prop where
 |bool {t:TypeId} (b:Bool):P.underlying t=some .bool→k6 P t [.v (.bool b)]
 |int {t:TypeId} {k:IntKind} (n:Int):P.underlying t=some (.int k)→(Lit.int k n).wf=true→k6 P t [.v (.int k n)]
 |str {t:TypeId} (s:ByteArray):P.underlying t=some .string→s.size≤reachBytes→k6 P t [.v (.string s)]
 |slice {t e:TypeId} (es:List (List bb)):P.underlying t=some (.slice e)→es.length≤maxLen∧es.length*P.bytesOf e≤reachBytes→(∀x∈es,k6 P e x)→k6 P t [.aR (P.cellsOf e) es]
 |struct {t:TypeId} {fs:Array Field} (parts:List (List bb)):P.underlying t=some (.struct fs)→parts.length=fs.toList.length→(∀(i:Nat) (f:Field) (p:List bb),fs.toList[i]? =some f→parts[i]? =some p→k6 P f.type p)→k6 P t parts.flatten
 |array {t e:TypeId} {n:Nat} (parts:List (List bb)):P.underlying t=some (.array n e)→parts.length=n→(∀p∈parts,k6 P e p)→k6 P t parts.flatten
theorem mapM_some{α β:Type}{f:α→Option β}: ∀{l:List α} {r:List β},l.mapM f=some r→r.length=l.length∧∀(i:Nat) (x:α),l[i]? =some x→∃y,f x=some y∧r[i]? =some y
 |[],r,h=>by
  simp at h;subst h;exact⟨rfl,by simp⟩
 |a::l,r,h=>by
  rw[List.mapM_cons]at h
  cases ba:f a with
  |none=>simp[ba]at h
  |some b=>
   cases ar:l.mapM f with
   |none=>simp[ba,ar]at h
   |some cY=>
    simp[ba,ar]at h;subst h;obtain⟨aa,ae⟩:=mapM_some ar;refine⟨by simp[aa],fun i x hx=>?_⟩
    cases i with
    |zero=>simp at hx;subst hx;exact⟨b,ba,rfl⟩
    |succ i=>simpa using ae i x (by simpa using hx)
section
variable {H:Type} {enc:TypeId × Value→H} {P:Program} {w:World}
abbrev lO(w:World):Nat→Prop:=fun b=>b<w.heap.size
theorem OR{a:Addr}{c:Value}(h:w.cell? a=some c):a.block<w.heap.size:=by
 rcases Nat.lt_or_ge a.block w.heap.size with aa|aa
 ·exact aa
 ·exfalso
  have:w.heap[a.block]? =none:=Array.getElem?_eq_none aa
  simp[World.cell?,this]at h
def Fits(P:Program)(w:World)(t:TypeId)(cs:List Value):Prop:=∃rs,k6 P t rs∧rs.length=cs.length∧∀j r,rs[j]? =some r→cZ w (lO w) r (cs.getD j undef)
theorem Vw: ∀(fs:List Field) (off:Nat) (cs:List Value),(∀(j:Nat) (f:Field),fs[j]? =some f→f.offset=off+((fs.take j).map fun f=>P.cellsOf f.type).sum)→
 (∀f∈fs,Fits P w f.type ((cs.drop f.offset).take (P.cellsOf f.type)))→off+(fs.map fun f=>P.cellsOf f.type).sum≤cs.length→
 ∃parts:List (List bb),parts.length=fs.length∧(∀(i:Nat) (f:Field) (p:List bb),fs[i]? =some f→parts[i]? =some p→k6 P f.type p)∧parts.flatten.length=(fs.map fun f=>P.cellsOf f.type).sum∧
  ∀j r,parts.flatten[j]? =some r→cZ w (lO w) r (cs.getD (off+j) undef)
 |[],off,cs,_,_,_=>⟨[],rfl,by simp,by simp,by simp⟩
 |f::fs,off,cs,ao,hf,ar=>by
  have aP:f.offset=off:=by have:=ao 0 f rfl;simpa using this
  obtain⟨rs,aa,ae,au⟩:=hf f (by simp)
  simp only[List.map_cons,List.sum_cons]at ar
  have hlen:rs.length=P.cellsOf f.type:=by rw[ae,aP];simp;omega
  obtain⟨parts,g1,g2,g3,g4⟩:=Vw fs (off+P.cellsOf f.type) cs (fun j q aN=>by
   have:=ao (j+1) q (by simpa using aN)
   simp only[List.take_succ_cons,List.map_cons,List.sum_cons]at this
   omega) (fun q aN=>hf q (by simp[aN])) (by omega)
  refine⟨rs::parts,by simp[g1],fun i q p aN ak=>?_,by simp[g3,hlen],fun j r af=>?_⟩
  ·cases i with
   |zero=>
    simp at aN ak;subst aN;subst ak;exact aa
   |succ i=>exact g2 i q p (by simpa using aN) (by simpa using ak)
  ·rw[List.flatten_cons]at af
   by_cases cU:j<rs.length
   ·rw[List.getElem?_append_left cU]at af
    have:=au j r af
    have zk:j<P.cellsOf f.type:=by omega
    rw[aP]at this;simpa[List.getD,List.getElem?_take,List.getElem?_drop,zk]using this
   ·rw[List.getElem?_append_right (by omega)]at af
    have:=g4 _ r af
    rw[show off+P.cellsOf f.type+(j-rs.length)=off+j from by omega]at this
    exact this
theorem N9{e:TypeId}(n:Nat): ∀(k:Nat) (Bc:Nat→List Value),(∀i,i<k→Fits P w e (Bc i)∧(Bc i).length=n)→
 ∃es:List (List bb),es.length=k∧(∀x∈es,k6 P e x∧x.length=n)∧∀j r,es.flatten[j]? =some r→cZ w (lO w) r ((Bc (j/ n)).getD (j%n) undef)
 |0,_,_=>⟨[],rfl,by simp,by simp⟩
 |k+1,Bc,h=>by
  obtain⟨⟨rs,aa,ae,au⟩,hn⟩:=h 0 (by omega)
  obtain⟨es,g1,g2,g3⟩:=N9 n k (fun i=>Bc (i+1)) fun i hi=>h (i+1) (by omega)
  refine⟨rs::es,by simp[g1],fun x hx=>?_,fun j r af=>?_⟩
  ·rcases List.mem_cons.1 hx with rfl|hx
   ·exact⟨aa,by omega⟩
   ·exact g2 x hx
  ·rw[List.flatten_cons]at af
   by_cases cU:j<rs.length
   ·rw[List.getElem?_append_left cU]at af
    have mC:j<n:=by omega
    rw[Nat.div_eq_of_lt mC,Nat.mod_eq_of_lt mC];exact au j r af
   ·rw[List.getElem?_append_right (by omega)]at af
    have:=g3 _ r af
    have xX:0<n:=by
     rcases Nat.eq_zero_or_pos n with aP|aP
     ·exfalso
      have l2:es.flatten.length=es.length*n:=j0 fun x hx=>(g2 x hx).2
      have:=(List.getElem?_eq_some_iff.1 af).1
      rw[l2,aP]at this;simp at this
     ·exact aP
    have aE:j-rs.length=j-n:=by omega
    rw[aE]at this
    have bo:(j-n)/ n+1=j/ n:=(Nat.div_eq_sub_div xX (by omega)).symm
    have cv:(j-n)%n=j%n:=(Nat.mod_eq_sub_mod (by omega)).symm
    simp only[bo,cv]at this;exact this
theorem Bd{t:TypeId}{r:bb}{c:Value}(h:k6 P t [r])(ag:cZ w (lO w) r c):Fits P w t [c]:=
 ⟨[r],h,rfl,fun j x af=>by
  cases j with
  |zero=>simp at af;subst af;exact ag
  |succ j=>simp at af⟩
theorem Vx{base:Nat}{a:Addr}{n:Nat}{l:List Value}(h:w.cells? base a n=some l):l.length=n∧∀i,i<n→w.cell? (a.add i)=l[i]? :=by
 unfold World.cells? at h
 split at h
 ·obtain⟨aa,ae⟩:=mapM_some h
  refine⟨by simpa using aa,fun i hi=>?_⟩
  obtain⟨y,ay,ar⟩:=ae i i (by simp[hi])
  rw[ar,ay]
 ·cases h
theorem Oa{e:TypeId}: ∀{l:List (DataW H)} {d:DataW H},d∈l→∀n∈d.weights P e,n∈DataW.weightsAll P e l
 |d0::l,d,hd,n,hn=>by
  simp only[DataW.weightsAll,List.mem_append]
  rcases List.mem_cons.1 hd with rfl|hd
  ·exact .inl hn
  ·exact .inr (Oa hd n hn)
theorem Fits.agg{t:TypeId}{cs:Array Value}(h:Fits P w t cs.toList){β:Nat→Value}{N:Nat}: ∃rs,k6 P t rs∧bF w (lO w) [] β N (.agg (zdD rs)) (.agg cs):=by
 obtain⟨rs,aa,ae,au⟩:=h
 refine⟨rs,aa,.agg _ cs (by simpa using ae.symm) fun j x af=>?_⟩
 rw[List.getElem?_map]at af
 cases ag:rs[j]? with
 |none=>simp[ag]at af
 |some r=>
  simp[ag]at af;subst af
  have:=au j r ag
  exact .aw _ _ (by simpa[List.getD,Array.getD_eq_getD_getElem?]using this)
theorem Fits.one{t:TypeId}{v:Value}(h:Fits P w t v.cells.toList)(ax:v.cells= #[v]){β:Nat→Value}{N:Nat}: ∃r,k6 P t [r]∧bF w (lO w) [] β N (.aw r) v:=by
 obtain⟨rs,aa,ae,au⟩:=h
 rw[ax]at ae
 match rs,ae,aa,au with
 |[r],_,aa,au=>
  have:=au 0 r rfl
  rw[ax]at this;exact⟨r,aa,.aw _ _ (by simpa using this)⟩
def fieldTypes(P:Program)(t:TypeId):Option (List TypeId):=
 match P.underlying t with
 |some (.struct fs)=>some (fs.toList.map (·.type))
 |_=>none
def Ob(P:Program)(t:TypeId):Bool:=
 match P.underlying t with
 |some .bool=>true
 |some (.int _)=>true
 |some .string=>true
 |some (.slice _)=>true
 |_=>false
theorem zhX{r:Reach}{nR:Nat}{t:TypeId}{v:Value}(h:Value.okWide P w r nR t v)(ai:Ob P t=true):v.cells= #[v]:=by
 unfold Ob at ai
 split at ai
 ·rename_i hu
  simp only[Value.okWide,hu,Cell.okWide,Cell.ok]at h
  cases v<;>first|rfl|exact h.elim
 ·rename_i hu
  simp only[Value.okWide,hu,Cell.okWide,Cell.ok]at h
  cases v<;>first|rfl|exact h.elim
 ·rename_i hu
  simp only[Value.okWide,hu,Cell.okWide,Cell.ok]at h
  cases v<;>first|rfl|exact h.elim
 ·rename_i hu
  simp only[Value.okWide,hu,Cell.okWide,Cell.ok]at h
  cases v<;>first|rfl|exact h.elim
 ·cases ai
theorem zhY{r:Reach}{nR:Nat}{t:TypeId}{v:Value}(h:Value.okWide P w r nR t v)(ai:(fieldTypes P t).isSome=true): ∃cs,v= .agg cs:=by
 unfold fieldTypes at ai
 split at ai
 ·rename_i hu
  simp only[Value.okWide,hu]at h;obtain⟨cs,rfl,_⟩:=h;exact⟨cs,rfl⟩
 ·cases ai
theorem Wh{t e n:Nat}{cs:List Value}{d:DataW H}{ps:List MemPlace}{fuel base:Nat}{sp:Nat→Bool}{held:Bool}(K:Kids P (· < P.types.size))(db:t<P.types.size)(hu:P.underlying t=some (.array n e))(he:P.underlying e=some .string)(hc:P.cellsOf e=1)
 (h:DataW.trod enc P w base sp held fuel t cs=some (d,ps)): ∃l:List ByteArray,cs=l.map Value.string∧d= .agg (l.map fun s=>.lit (.string s.data.toList)):=by
 obtain⟨xs,q,rfl,hx,jn,jI,eM⟩:=DataW.trod_array hu h
 have Vy:cs.length=n:=by rw[jn,(K.array db hu).2,hc,Nat.mul_one]
 have oE: ∀i (hi:i<n),∃s:ByteArray,cs[i]? =some (.string s)∧(xs[i]?).map (·.1)=some (.lit (.string s.data.toList)):=by
  intro i hi
  have aa:=eM i hi
  have u7:i<xs.length:=by omega
  rw[List.getElem?_eq_getElem u7]at aa
  obtain⟨s,ae,au,_⟩:=DataW.trod_string he aa;rw[hc,Nat.mul_one]at ae;refine⟨s,?_,by rw[List.getElem?_eq_getElem u7,Option.map_some,au]⟩
  have:=congrArg (·[0]?) ae
  simpa[List.getElem?_take,List.getElem?_drop]using this
 have key: ∀(m:Nat),m≤n→∃l:List ByteArray,cs.take m=l.map Value.string∧(xs.take m).map (·.1)=l.map fun s=>.lit (.string s.data.toList):=by
  intro m
  induction m with
  |zero=>intro _;exact⟨[],by simp,by simp⟩
  |succ m a7=>
   intro hm;obtain⟨l,aa,ae⟩:=a7 (by omega)
   obtain⟨s,g1,g2⟩:=oE m (by omega)
   refine⟨l++[s],?_,?_⟩
   ·rw[List.take_add_one,aa,g1];simp
   ·rw[List.take_add_one,List.map_append,ae,List.map_append]
    cases fU:xs[m]? with
    |none=>rw[fU]at g2;cases g2
    |some y=>rw[fU]at g2;simp at g2;simp[g2]
 obtain⟨l,aa,ae⟩:=key n (Nat.le_refl _)
 rw[List.take_of_length_le (by omega)]at aa ae
 simp only[Prod.mk.injEq]at hx
 exact⟨l,aa,by rw[hx.1,ae]⟩
theorem Wi{l m:List ByteArray}(h:(l.map fun s=>(DataW.lit (H:=H) (.string s.data.toList)))=m.map fun s=>.lit (.string s.data.toList)):l=m:=by
 induction l generalizing m with
 |nil=>cases m with
  |nil=>rfl
  |cons=>simp at h
 |cons a l a7=>cases m with
  |nil=>simp at h
  |cons b m=>
   simp only[List.map_cons,List.cons.injEq,DataW.lit.injEq,Lit.string.injEq]at h;obtain⟨aa,ae⟩:=h
   have:a=b:=by
    cases a;cases b
    simp only[ByteArray.mk.injEq];exact Array.ext' aa
   rw[this,a7 ae]
theorem zhZ{w':World}{p:MemPlace}(ak:p.block<w.heap.size)(h: ∀b,b<w.heap.size→w'.heap[b]? =w.heap[b]?):w.sameAt w' p:=by
 cases p with
 |cell b off=>exact World.cell?_of_block (a:=⟨b,off,none⟩) (h b ak)
 |map b=>exact h b ak
theorem Vz{w':World}(h: ∀b,b<w.heap.size→w'.heap[b]? =w.heap[b]?){base:Nat}{sp:Nat→Bool}{held:Bool}: ∀{ts:List TypeId} {vs:List Value} {ds:List (DataW H)} {ps:List MemPlace},DataW.TrodAll enc P w base sp held ts vs ds ps→DataW.TrodAll enc P w' base sp held ts vs ds ps
 |[],[],[],_,h=>h
 |_::_,_::_,_::_,_,⟨p,q,⟨n,hn⟩,ae,e⟩=>
  ⟨p,q,⟨n,DataW.trod_carry n _ _ _ hn fun x hx=>zhZ (DataW.trod_lt n _ _ _ hn x hx) h⟩,Vz h ae,e⟩
theorem zh0{w':World}{may:MemPlace→Prop}(aa:w'.os=w.os)(ae:w'.output=w.output)(h: ∀b,b<w.heap.size→w'.heap[b]? =w.heap[b]?):w.keptBut w' may:=by
 refine⟨aa,ae,fun i hi=>?_⟩
 rw[h i hi]
 cases hw:w.heap[i]? with
 |none=>rfl
 |some o=>
  cases o with
  |cells c t tj=>exact⟨rfl,rfl,rfl,fun _ _=>rfl⟩
  |map es clock=>exact .inr ⟨rfl,rfl⟩
  |_=>rfl
theorem zh1{G:bd}{f:FuncId}{fn:Func}{s:ChangeSpec}{args:Array Value}{ds gs:List (DataW H)}{before:List MemPlace}{tb:TypeId}{avs':List aF}{β:Nat→Value}
 (h2:DataW.Whole enc P fn.params.toList s.vars false w args.toList ds gs before)(ax:s.vars=[])(ai:s.fn H (ds++gs)={results:=[.lit (.bool true)],args:=ds})(qX:fn.resultTypes= #[tb])(Oc:P.underlying tb=some .bool)
 (K:Kids P (· < P.types.size))(aS: ∀t e,t<P.types.size→P.underlying t=some (.slice e)→0<P.cellsOf e)(tT: ∀t∈fn.params.toList,t<P.types.size)
 (hlen:args.size=avs'.length)(hX: ∀i x,avs'[i]? =some x→bF w (lO w) [] β 0 x (args.getD i undef))(kL:rR w (lO w) G)(hc:dJ P G f avs' [] 0 fun r b1=>r=tq true∧b1=[]):
 Calls P f args w fun e w'=>∃v,e= .returned v∧s.post enc P fn false true false false w args v w':=by
 refine Calls.mono (hc w β (lO w) args hlen hX ⟨by simp[aG],by simp[aG],fun b _ ⟨_,_,ah,_⟩=>by simp[aG]at ah,fun b ad=>ad⟩ kL (by simp[aG])) fun e w' aN=>?_
 obtain⟨v,r,e0,dN,ro',cT,rfl,⟨rfl,rfl⟩,dD,_,aK⟩:=aN
 obtain rfl:=bF.val dD
 have bk: ∀b,b<w.heap.size→w'.heap[b]? =w.heap[b]? :=fun b ad=>aK.frame b ad fun⟨_,_,ah,_⟩=>by simp[aG]at ah
 refine⟨_,rfl,ds,gs,before,[],before,[],h2,?_,?_,?_,zh0 aK.os aK.output bk,fun h=>by cases h⟩
 ·rw[ai,qX]
  exact trodAll_mk1 (shut_bool Oc true)
 ·rw[ai]
  have bR: ∀p∈before,(fun b=>decide (b<w.heap.size)) p.block=true:=fun p ak=>by simpa using h2.lt p ak
  obtain⟨p,q,aa,ae,rfl,_⟩:=h2;rw[ax]at ae
  have aN:q=[]:=by
   cases gs with
   |nil=>exact ae
   |cons=>cases ae
  subst aN;rw[List.append_nil]at bR⊢;exact Vz bk (aa.respare K aS tT bR)
 ·rw[ai,ax]
  rfl
end
end Go.aO
namespace Go.aO
open Go Go.ChangeShapes Go.WideShapes
def xY:List (Option (List a6))→Option (List a6)
 |[]=>some []
 |none::_=>none
 |some l::r=>match xY r with
  |some m=>some (l++m)
  |none=>none
def Be:List a6→List a6→Bool
 |[],[]=>true
 |a::l,b::m=>hO a b&&Be l m
 |_,_=>false
theorem Od: ∀{l m:List a6},Be l m=true→l=m
 |[],[],_=>rfl
 |[],_::_,h=>by cases h
 |_::_,[],h=>by cases h
 |a::l,b::m,h=>by
  simp only[Be,Bool.and_eq_true]at h;rw[hk h.1,Od h.2]
def ja(P:Program)(T:List (Nat × bJ)):Nat→TypeId→Option (List a6)
 |0,_=>none
 |n+1,t=>match P.underlying t with
  |some .bool=>some [.bool]
  |some (.int k)=>some [.int k]
  |some .string=>some [.str]
  |some (.slice e)=>match o6 T e with
   |some c=>match Nat.beq (P.cellsOf e) (b5 c)with
    |true=>some [.li c]
    |false=>none
   |none=>none
  |some (.array k e)=>xY (List.replicate k (ja P T n e))
  |some (.struct fs)=>xY (fs.toList.map fun f=>ja P T n f.type)
  |_=>none
def Bf(P:Program)(T:List (Nat × bJ)):Bool:=T.all fun q=>match ja P T 20 q.1 with
 |some l=>Be l (eR q.2)
 |none=>false
inductive mE:aI→Prop where
 |int (k:IntKind) (x:Int):(Lit.int k x).wf=true→mE ⟨.int k,x⟩
 |bool (b:Bool):mE ⟨.bool,b⟩
 |str (s:ByteArray):s.size≤reachBytes→mE ⟨.str,s⟩
 |li (c:bJ) (l:List (fQ c)):l.length≤maxLen→(∀x∈l,∀d∈lx c x,mE d)→mE ⟨.li c,l⟩
inductive rJ:List (List bb)→List (List bb)→Prop where
 |nil:rJ [] []
 |cons {x y:List bb} {xs ys:List (List bb)}:gh x y→rJ xs ys→rJ (x::xs) (y::ys)
theorem rJ.flat{xs ys:List (List bb)}(h:rJ xs ys):gh xs.flatten ys.flatten:=by
 induction h with
 |nil=>exact .nil
 |cons h _ a7=>rw[List.flatten_cons,List.flatten_cons];exact h.append a7
theorem rJ.len{xs ys:List (List bb)}(h:rJ xs ys):xs.length=ys.length:=by
 induction h with
 |nil=>rfl
 |cons h _ a7=>simp[a7]
theorem zh2{c:bJ}{n:Nat}{es:List (List bb)}{l:List (fQ c)}(hn:n=b5 c)(h:rJ es (l.map (cj c))):lA (.aR n es) (.li c l):=by
 subst hn
 intro w ro v ag
 refine .li _ _ _ ?_
 cases ag with
 |aR _ _ b cap zh3 aa ae au aW bN=>
  have hlen:(l.map (cj c)).length=es.length:=h.len.symm
  rw[←hlen];refine .aR _ _ b cap zh3 (by omega) ae (fun e he=>?_) (fun ak=>?_) fun j y af=>?_
  ·obtain⟨x,_,rfl⟩:=List.mem_map.1 he
   exact Dv c x
  ·rw[hlen]at ak⊢
   exact aW ak
  ·obtain⟨x,hx,ai⟩:=h.flat.at.2 j y af
   exact ai _ _ _ (bN j x hx)
section
variable {P:Program} {T:List (Nat × bJ)}
theorem Oe{n:Nat}: ∀(ts:List TypeId) (parts:List (List bb)) {l:List a6},parts.length=ts.length→(∀(i:Nat) (t:TypeId) (p:List bb),ts[i]? =some t→parts[i]? =some p→∀{l:List a6},ja P T n t=some l→∃ds:List aI,ds.map aI.r=l∧gh p (ds.map aI.aw)∧∀d∈ds,mE d)→xY (ts.map (ja P T n))=some l→
 ∃ds:List aI,ds.map aI.r=l∧gh parts.flatten (ds.map aI.aw)∧∀d∈ds,mE d
 |[],parts,l,ar,_,hc=>by
  cases List.eq_nil_of_length_eq_zero ar
  cases hc;exact⟨[],rfl,.nil,by simp⟩
 |t::ts,[],l,ar,_,_=>by cases ar
 |t::ts,p::parts,l,ar,ai,hc=>by
  simp only[List.map_cons]at hc
  cases aa:ja P T n t with
  |none=>rw[aa]at hc;cases hc
  |some tK=>
   rw[aa]at hc;simp only[xY]at hc
   cases ae:xY (ts.map (ja P T n))with
   |none=>rw[ae]at hc;cases hc
   |some Ck=>
    rw[ae]at hc;cases hc;obtain⟨d1,cf,a2,a3⟩:=ai 0 t p rfl rfl aa;obtain⟨d2,fY,hr,gP⟩:=Oe ts parts (by simpa using ar) (fun i t p hi ak=>ai (i+1) t p (by simpa using hi) (by simpa using ak)) ae
    refine⟨d1++d2,by simp[cf,fY],by rw[List.flatten_cons,List.map_append];exact a2.append hr,fun d hd=>?_⟩
    rcases List.mem_append.1 hd with hd|hd
    ·exact a3 d hd
    ·exact gP d hd
theorem VA{c:bJ}: ∀(es:List (List bb)),(∀x∈es,∃ds:List aI,ds.map aI.r=eR c∧gh x (ds.map aI.aw)∧∀d∈ds,mE d)→∃l:List (fQ c),rJ es (l.map (cj c))∧∀x∈l,∀d∈lx c x,mE d
 |[],_=>⟨[],.nil,by simp⟩
 |x::es,h=>by
  obtain⟨ds,cf,a2,a3⟩:=h x (by simp)
  obtain⟨l,fY,hr⟩:=VA es fun y ay=>h y (by simp[ay])
  have hc:lx c (oR c ds)=ds:=Dx c ds cf
  refine⟨oR c ds::l,.cons (by unfold cj;rw[hc];exact a2) fY,fun y ay d hd=>?_⟩
  rcases List.mem_cons.1 ay with rfl|ay
  ·rw[hc]at hd
   exact a3 d hd
  ·exact hr y ay d hd
theorem VB: ∀{T:List (Nat × bJ)} {e:Nat} {c:bJ},o6 T e=some c→(e,c)∈T
 |(x,d)::r,e,c,h=>by
  unfold o6 at h
  split at h
  ·rename_i hx
   cases h;rw[←Nat.eq_of_beq_eq_true hx];exact List.mem_cons_self
  ·exact List.mem_cons_of_mem _ (VB h)
theorem zh4(fO:Bf P T=true){e:TypeId}{c:bJ}(h:o6 T e=some c):ja P T 20 e=some (eR c):=by
 have:=List.all_eq_true.1 fO _ (VB h)
 simp only at this
 split at this
 ·rename_i l ar
  rw[ar,Od this]
 ·cases this
theorem VC(fO:Bf P T=true){t:TypeId}{rs:List bb}(h:k6 P t rs): ∀(n:Nat) {l:List a6},ja P T n t=some l→∃ds:List aI,ds.map aI.r=l∧gh rs (ds.map aI.aw)∧∀d∈ds,mE d:=by
 induction h with
 |bool b hu=>
  intro n l hf
  cases n with
  |zero=>cases hf
  |succ n=>
   unfold ja at hf;rw[hu]at hf;cases hf;exact⟨[⟨.bool,b⟩],rfl,.cons (lA.refl _) .nil,fun d hd=>by cases List.mem_singleton.1 hd;exact .bool b⟩
 |int x hu hw=>
  intro n l hf
  cases n with
  |zero=>cases hf
  |succ n=>
   unfold ja at hf;rw[hu]at hf;cases hf;exact⟨[⟨.int _,x⟩],rfl,.cons (lA.refl _) .nil,fun d hd=>by cases List.mem_singleton.1 hd;exact .int _ _ hw⟩
 |str s hu hw=>
  intro n l hf
  cases n with
  |zero=>cases hf
  |succ n=>
   unfold ja at hf;rw[hu]at hf;cases hf;exact⟨[⟨.str,s⟩],rfl,.cons (lA.refl _) .nil,fun d hd=>by cases List.mem_singleton.1 hd;exact .str _ hw⟩
 |slice es hu ar hw a7=>
  intro n l hf
  cases n with
  |zero=>cases hf
  |succ n=>
   unfold ja at hf;rw[hu]at hf;simp only at hf
   split at hf
   ·rename_i c ae
    split at hf
    ·rename_i hc
     cases hf;obtain⟨l,cf,a2⟩:=VA (c:=c) es fun x hx=>a7 x hx 20 (zh4 fO ae);refine⟨[⟨.li c,l⟩],rfl,.cons (zh2 (Nat.eq_of_beq_eq_true hc) cf) .nil,fun d hd=>?_⟩
     cases List.mem_singleton.1 hd
     exact .li _ _ (by have:=cf.len;rw[List.length_map]at this;have:=ar.1;omega) a2
    ·cases hf
   ·cases hf
 |struct parts hu aa ae a7=>
  intro n l hf
  cases n with
  |zero=>cases hf
  |succ n=>
   unfold ja at hf;rw[hu]at hf;simp only at hf;rename_i fs
   have hm:(fs.toList.map fun f=>ja P T n f.type)=(fs.toList.map (·.type)).map (ja P T n):=by rw[List.map_map];rfl
   rw[hm]at hf
   exact Oe _ parts (by rw[List.length_map];exact aa) (fun i u p hi ak l ar=>by
    rw[List.getElem?_map]at hi
    cases Of:fs.toList[i]? with
    |none=>rw[Of]at hi;cases hi
    |some f=>
     rw[Of]at hi;cases hi
     exact a7 i f p Of ak n ar) hf
 |array parts hu aa ae a7=>
  intro n l hf
  cases n with
  |zero=>cases hf
  |succ n=>
   unfold ja at hf;rw[hu]at hf;simp only at hf;rename_i e k
   have hm:List.replicate k (ja P T n e)=(List.replicate k e).map (ja P T n):=by rw[List.map_replicate]
   rw[hm]at hf
   exact Oe _ parts (by rw[List.length_replicate];exact aa) (fun i u p hi ak l ar=>by
    have:=List.mem_of_getElem? hi
    cases (List.mem_replicate.1 this).2
    exact a7 p (List.mem_of_getElem? ak) n ar) hf
def Og(P:Program)(T:List (Nat × bJ))(t:TypeId):Option a6:=
 match(fieldTypes P t).isSome with
 |true=>match o6 T t,ja P T 20 t with
  |some c,some l=>match Be l (eR c)with
   |true=>some (.st c)
   |false=>none
  |_,_=>none
 |false=>match Ob P t,ja P T 20 t with
  |true,some [r]=>match r.one with
   |true=>some r
   |false=>none
  |_,_=>none
def rK(t:Nat):List Nat→Bool
 |[]=>false
 |x::r=>Nat.beq x t||rK t r
theorem VD{t:Nat}: ∀{S:List Nat},rK t S=true→t∈S
 |x::r,h=>by
  simp only[rK,Bool.or_eq_true]at h
  rcases h with h|h
  ·rw[Nat.eq_of_beq_eq_true h];exact List.mem_cons_self
  ·exact List.mem_cons_of_mem _ (VD h)
def Oh(P:Program)(S:List TypeId)(t:TypeId):Bool:=decide (t<P.types.size)&&match P.underlying t with
 |some .bool=>true
 |some (.int _)=>true
 |some .string=>true
 |some (.slice e)=>rK e S
 |some (.array _ e)=>rK e S
 |some (.struct fs)=>fs.toList.all fun f=>rK f.type S
 |_=>false
def Oi(P:Program):Nat→List TypeId→List TypeId→List TypeId
 |0,S,_=>S
 |_+1,S,[]=>S
 |n+1,S,t::r=>match rK t S with
  |true=>Oi P n S r
  |false=>Oi P n (t::S) (match P.underlying t with
   |some (.slice e)=>e::r
   |some (.array _ e)=>e::r
   |some (.struct fs)=>fs.toList.map (·.type)++r
   |_=>r)
def Oj(P:Program)(t:TypeId):Bool:=match Oi P 400 [] [t]with
 |S=>rK t S&&S.all (Oh P S)
def tf(P:Program)(T:List (Nat × bJ)):List TypeId→Option (List a6)
 |[]=>match Bf P T with
  |true=>some []
  |false=>none
 |t::ts=>match Oj P t,Og P T t,tf P T ts with
  |true,some r,some rs=>some (r::rs)
  |_,_,_=>none
theorem VE: ∀{ts:List TypeId} {rs:List a6},tf P T ts=some rs→Bf P T=true
 |[],_,h=>by
  unfold tf at h
  split at h
  ·assumption
  ·cases h
 |_::_,_,h=>by
  unfold tf at h
  split at h
  ·rename_i gl
   exact VE gl
  ·cases h
def tn(d:aI):Prop:=
 match d with
 |⟨.st c,x⟩=>∀q∈lx c x,mE q
 |d=>mE d
variable {H:Type} {enc:TypeId × Value→H} {w:World}
theorem zh5(K:Kids P (· < P.types.size)){S:List TypeId}(hS:S.all (Oh P S)=true): ∀(n:Nat) (t:TypeId) (cs:List Value) (x:DataW H × List MemPlace) {base:Nat} {sp:Nat→Bool} {held:Bool},rK t S=true→
 DataW.trod enc P w base sp held n t cs=some x→(∀q∈x.1.weights P t,q≤reachBytes)→Fits P w t cs:=by
 intro n
 induction n using Nat.strongRecOn with
 |ind n Ok=>
 intro t cs x base sp held aK h fA
 have ak:=List.all_eq_true.1 hS t (VD aK)
 simp only[Oh,Bool.and_eq_true,decide_eq_true_eq]at ak
 obtain⟨db,ak⟩:=ak
 cases hu:P.underlying t with
 |none=>rw[hu]at ak;cases ak
 |some d=>
  rw[hu]at ak
  cases d with
  |bool=>
   obtain⟨b,rfl,_⟩:=DataW.trod_bool hu h;exact Bd (.bool b hu) (.v _ rfl)
  |int k=>
   obtain⟨b,rfl,_,hw⟩:=DataW.trod_int hu h;exact Bd (.int b hu hw) (.v _ rfl)
  |string=>
   obtain⟨b,rfl,hx,hw⟩:=DataW.trod_string hu h;rw[hx]at fA;exact Bd (.str b hu (by simpa[DataW.weights]using fA)) (.v _ rfl)
  |slice e=>
   rcases DataW.trod_slice hu h with⟨rfl,_⟩|⟨a,len,cap,elems,rest,k,rfl,rfl,hx,_,hle,h9,ny,eM,_⟩
   ·exact Bd (.slice [] hu ⟨Nat.zero_le _,by simp⟩ (by simp)) (.aR _ [] none 0 (fun _=>undef) (Nat.le_refl _) (Nat.zero_le _) (by simp) (by simp) (by simp))
   ·rw[hx]at fA
    simp only[DataW.weights,hu,List.mem_cons,List.mem_append,List.length_map]at fA
    have zB:len*P.bytesOf e≤reachBytes:=Nat.le_trans (Nat.mul_le_mul_right _ (by rw[ny];exact Nat.le_add_right _ _)) (fA _ (.inl rfl))
    have VF: ∀i,i<len→∃l,w.cells? base (a.add (i*P.cellsOf e)) (P.cellsOf e)=some l∧Fits P w e l:=by
     intro i hi
     have aa:=eM i hi
     rw[List.getElem?_eq_getElem (by omega)]at aa
     cases hc:w.cells? base (a.add (i*P.cellsOf e)) (P.cellsOf e)with
     |none=>rw[hc]at aa;cases aa
     |some l=>rw[hc]at aa;exact⟨l,rfl,Ok k (Nat.lt_succ_self _) e l _ ak aa fun q aN=>fA q (.inr (.inl (Oa (List.mem_map_of_mem (List.getElem_mem _)) q aN)))⟩
    obtain⟨es,g1,g2,g3⟩:=N9 (P:=P) (w:=w) (e:=e) (P.cellsOf e) len (fun i=>(w.cells? base (a.add (i*P.cellsOf e)) (P.cellsOf e)).getD []) fun i hi=>by
     obtain⟨l,aa,ae⟩:=VF i hi;rw[aa];exact⟨ae,(Vx aa).1⟩
    have hlen:es.length=len:=g1
    refine Bd (.slice es hu ⟨by omega,by rw[hlen];exact zB⟩ fun x hx=>(g2 x hx).1) ?_
    rw[←hlen];refine .aR _ es (some a) cap (fun j=>((w.cells? base (a.add (j/ P.cellsOf e*P.cellsOf e)) (P.cellsOf e)).getD []).getD (j%P.cellsOf e) undef) (by omega) h9 (fun x hx=>(g2 x hx).2) (fun _=>⟨a,rfl,fun j af=>?_⟩) g3
    have xX:0<P.cellsOf e:=by
     rcases Nat.eq_zero_or_pos (P.cellsOf e)with aP|aP
     ·rw[aP]at af;simp at af
     ·exact aP
    have nE:j/ P.cellsOf e<len:=by rw[Nat.div_lt_iff_lt_mul xX];rw[hlen]at af;exact af
    have nD:j%P.cellsOf e<P.cellsOf e:=Nat.mod_lt _ xX
    obtain⟨l,aa,_⟩:=VF _ nE;obtain⟨ae,au⟩:=Vx aa
    have aW:=au _ nD
    rw[zd,Nat.mul_comm,Nat.div_add_mod]at aW;rw[aa]
    have bN:w.cell? (a.add j)=some (l.getD (j%P.cellsOf e) undef):=by
     rw[aW]
     have:j%P.cellsOf e<l.length:=by omega
     simp[List.getD,List.getElem?_eq_getElem this]
    exact⟨by have:=OR bN;rwa[pP]at this,bN⟩
  |array k e=>
   obtain⟨xs,q,rfl,hx,jn,jI,eM⟩:=DataW.trod_array hu h;rw[hx]at fA;simp only[DataW.weights,hu]at fA
   obtain⟨es,g1,g2,g3⟩:=N9 (P:=P) (w:=w) (e:=e) (P.cellsOf e) k (fun i=>(cs.drop (i*P.cellsOf e)).take (P.cellsOf e)) fun i hi=>by
    have aa:=eM i hi
    rw[List.getElem?_eq_getElem (by omega)]at aa
    refine⟨Ok q (Nat.lt_succ_self _) e _ _ ak aa fun z aS=>fA z (Oa (List.mem_map_of_mem (List.getElem_mem _)) z aS),?_⟩
    have ae:=Nat.mul_le_mul_right (P.cellsOf e) (show i+1≤k from hi)
    rw[Nat.succ_mul]at ae
    have:=(K.array db hu).2
    simp;omega
   refine⟨es.flatten,.array es hu g1 fun p ak=>(g2 p ak).1,?_,fun j r af=>?_⟩
   ·rw[j0 fun x hx=>(g2 x hx).2,g1,jn,(K.array db hu).2]
   ·have:=g3 j r af
    have cU:=(List.getElem?_eq_some_iff.1 af).1
    have xX:0<P.cellsOf e:=by
     rcases Nat.eq_zero_or_pos (P.cellsOf e)with aP|aP
     ·rw[j0 fun x hx=>(g2 x hx).2,aP]at cU;simp at cU
     ·exact aP
    have nD:j%P.cellsOf e<P.cellsOf e:=Nat.mod_lt _ xX
    have hm:j/ P.cellsOf e*P.cellsOf e+j%P.cellsOf e=j:=by rw[Nat.mul_comm];exact Nat.div_add_mod _ _
    simpa[List.getD,List.getElem?_take,List.getElem?_drop,nD,hm]using this
  |struct fs=>
   obtain⟨xs,q,rfl,hx,jn,jI,eM⟩:=DataW.trod_struct hu h;rw[hx]at fA;simp only[DataW.weights,hu]at fA;obtain⟨_,yj,zm⟩:=K.struct db hu
   obtain⟨parts,g1,g2,g3,g4⟩:=Vw (P:=P) (w:=w) fs.toList 0 cs (fun j f hf=>by rw[zm j f hf];simp) (fun f hf=>by
    obtain⟨i,hi,rfl⟩:=List.mem_iff_getElem.1 hf
    have zh6:fs[i]? =some fs.toList[i]:=by simp at hi;simp[hi]
    have aa:=eM i _ zh6
    have u7:i<xs.length:=by rw[jI];simpa using hi
    rw[List.getElem?_eq_getElem u7]at aa
    rw[List.all_eq_true]at ak
    exact Ok q (Nat.lt_succ_self _) _ _ _ (ak _ (List.getElem_mem hi)) aa fun z aS=>fA z (DataW.weights_mem_each (j:=i) (by rw[List.getElem?_map,List.getElem?_eq_getElem hi];rfl) (by rw[List.getElem?_map,List.getElem?_eq_getElem u7];rfl) z aS)) (by rw[jn,yj];omega)
   exact⟨parts.flatten,.struct parts hu g1 g2,by rw[g3,jn,yj],fun j r af=>by have:=g4 j r af;simpa using this⟩
  |_=>cases ak
theorem zh7(K:Kids P (· < P.types.size)){t:TypeId}(ak:Oj P t=true){v:Value}{d:DataW H}{ps:List MemPlace}{base:Nat}{sp:Nat→Bool}{held:Bool}(h:DataW.Trod enc P w base sp held t v d ps)(fA: ∀q∈d.weights P t,q≤reachBytes):Fits P w t v.cells.toList:=by
 obtain⟨n,hn⟩:=h
 unfold Oj at ak
 simp only[Bool.and_eq_true]at ak
 exact zh5 K ak.2 n t _ _ ak.1 hn fA
theorem zh8{β:Nat→Value}{t:TypeId}{v:Value}{r:a6}{reach:Reach}{nR:Nat}(hf:Fits P w t v.cells.toList)(ax:Value.okWide P w reach nR t v)(fO:Bf P T=true)(h:Og P T t=some r): ∃x:r.den,bF w (lO w) [] β 0 (aI.fq ⟨r,x⟩) v∧tn ⟨r,x⟩:=by
 unfold Og at h
 split at h
 ·rename_i ai
  split at h
  ·rename_i c l _ ar
   split at h
   ·rename_i hc
    cases h;obtain rfl:=Od hc;obtain⟨cs,rfl⟩:=zhY ax ai;obtain⟨rs,g1,g2⟩:=Fits.agg (P:=P) (w:=w) (cs:=cs) hf (β:=β) (N:=0);obtain⟨ds,cf,a2,a3⟩:=VC fO g1 20 ar
    have hc:lx c (oR c ds)=ds:=Dx c ds cf
    refine⟨oR c ds,?_,fun q aN=>a3 q (by rw[←hc];exact aN)⟩
    have u9:aI.fq ⟨.st c,oR c ds⟩= .agg ((ds.map aI.aw).map .aw):=by
     show aF.agg ((cj c (oR c ds)).map .aw)=_;unfold cj;rw[hc]
    rw[u9];exact(gh.fq a2).agg _ _ _ _ _ _ g2
   ·cases h
  ·cases h
 ·split at h
  ·rename_i eV ao ar
   split at h
   ·rename_i aa
    cases h;obtain⟨y,g1,g2⟩:=Fits.one (P:=P) (w:=w) hf (zhX ax ao) (β:=β) (N:=0);obtain⟨ds,cf,a2,a3⟩:=VC fO g1 20 ar;obtain⟨d,oU,rfl,rfl,hn⟩:=ly cf
    cases me hn
    cases a2 with
    |cons ai _=>
     have dH:=Vd aa
     refine⟨d.v,?_,?_⟩
     ·show bF w (lO w) [] β 0 (aI.fq d) v
      have:aI.fq d= .aw d.aw:=Vc (x:=d.v) dH
      rw[this];exact ai.fq _ _ _ _ _ _ g2
     ·have:=a3 d (List.mem_singleton.2 rfl)
      unfold tn
      split
      ·rename_i c x heq
       exact absurd (congrArg aI.r heq) (dH c)
      ·exact this
   ·cases h
  ·cases h
theorem VG(K:Kids P (· < P.types.size)){β:Nat→Value}{base nR:Nat}{sp:Nat→Bool}{held:Bool}{reach:Reach}: ∀{ts:List TypeId} {vs:List Value} {ds:List (DataW H)} {ps:List MemPlace} {rs:List a6},DataW.TrodAll enc P w base sp held ts vs ds ps→tf P T ts=some rs→
 (∀q∈DataW.weightsEach P ts ds,q≤reachBytes)→(∀(j:Nat) t v,ts[j]? =some t→vs[j]? =some v→Value.okWide P w reach nR t v)→
 ds.length=ts.length∧∃dl:List aI,dl.map aI.r=rs∧dl.length=vs.length∧(∀(j:Nat) x,(dl.map aI.fq)[j]? =some x→∃v,vs[j]? =some v∧bF w (lO w) [] β 0 x v)∧∀d∈dl,tn d
 |[],vs,ds,ps,rs,h,ak,_,_=>by
  obtain⟨rfl,rfl,rfl⟩:=trodAll_nil h;unfold tf at ak
  split at ak
  rotate_left
  ·cases ak
  cases ak;exact⟨rfl,[],rfl,rfl,by simp,by simp⟩
 |t::ts,vs,ds,ps,rs,h,ak,hw,ao=>by
  obtain⟨v,zj1,d,oU,p,q,rfl,rfl,rfl,aa,ae⟩:=trodAll_cons h;unfold tf at ak
  split at ak
  ·rename_i r zj2 q1 ag gl
   cases ak;obtain⟨g0,dl,g1,g2,g3,g4⟩:=VG K ae gl (fun q aN=>hw q (by rw[DataW.weightsEach];exact List.mem_append_right _ aN)) fun j bI bp af sA=>ao (j+1) bI bp (by simpa using af) (by simpa using sA)
   obtain⟨x,cf,a2⟩:=zh8 (β:=β) (zh7 K q1 aa fun q aN=>hw q (by rw[DataW.weightsEach];exact List.mem_append_left _ aN)) (ao 0 t v rfl rfl) (VE gl) ag
   refine⟨by simp[g0],⟨r,x⟩::dl,by simp[g1],by simp[g2],fun j y af=>?_,fun d hd=>?_⟩
   ·cases j with
    |zero=>simp at af;subst af;exact⟨v,rfl,cf⟩
    |succ j=>simpa using g3 j y (by simpa using af)
   ·rcases List.mem_cons.1 hd with rfl|hd
    ·exact a2
    ·exact g4 d hd
  ·cases ak
theorem zh9{G:bd}{f:FuncId}{fn:Func}{s:ChangeSpec}{args:Array Value}{ds gs:List (DataW H)}{before:List MemPlace}{tb:TypeId}{nR:Nat}{reach:Reach}{m:aV}
 (h2:DataW.Whole enc P fn.params.toList s.vars false w args.toList ds gs before)(ax:s.vars=[])(ai: ∀ds:List (DataW H),ds.length=fn.params.toList.length→s.fn H ds={results:=[.lit (.bool true)],args:=ds})
 (fA:(DataW.weightsEach P (fn.params.toList++s.plain.varTypes P) (ds++gs)).all (· ≤reachBytes)=true)(sr: ∀(j:Nat) t v,fn.params[j]? =some t→args[j]? =some v→Value.okWide P w reach nR t v)
 (zia:s.plain.varTypes P=[])(qX:fn.resultTypes= #[tb])(Oc:P.underlying tb=some .bool)(K:Kids P (· < P.types.size))(aS: ∀t e,t<P.types.size→P.underlying t=some (.slice e)→0<P.cellsOf e)(tT: ∀t∈fn.params.toList,t<P.types.size)
 (q2:tf P T fn.params.toList=some m.ps)(kL:rR w (lO w) G)(hc:bG P G f m)(hm: ∀x,(∀d∈dB m.ps x,tn d)→k8 m.pre x∧k9 m.rs (m.m x)=tq true):
 Calls P f args w fun e w'=>∃v,e= .returned v∧s.post enc P fn false true false false w args v w':=by
 have zib:=h2
 obtain⟨p,q,dt,VH,rfl,_,_⟩:=h2
 rw[ax]at VH
 obtain⟨rfl,rfl⟩:=trodVars_none VH
 rw[zia,List.append_nil,List.append_nil]at fA
 obtain⟨nE,dl,cf,a2,a3,a4⟩:=VG (T:=T) (β:=fun _=>undef) K dt q2 (fun q aN=>by simpa using List.all_eq_true.1 fA q aN) fun j t v af sA=>sr j t v (by simpa using af) (by simpa using sA)
 have Bb:dB m.ps (cg m.ps dl)=dl:=xT cf
 obtain⟨zic,ag⟩:=hm (cg m.ps dl) (by rw[Bb];exact a4)
 have hg:=(hc (cg m.ps dl) zic).frame (σ:=[]) (n:=0) (Fs _) fun r b1 ag=>by rw[ag];exact NS
 refine zh1 (β:=fun _=>undef) zib ax (by rw[List.append_nil];exact ai ds nE) qX Oc K aS tT (avs':=na m.ps (cg m.ps dl)) ?_ (fun i x hx=>?_) kL (hg.res fun r b1 ⟨aa,_,ae⟩=>⟨ae.trans ag,aa⟩)
 ·unfold na
  rw[Bb,List.length_map,a2];exact Array.length_toList.symm
 ·unfold na at hx
  rw[Bb]at hx;obtain⟨v,aa,ae⟩:=a3 i x hx
  have:args.getD i undef=v:=by
   have so:args[i]? =some v:=by simpa using aa
   rw[Array.getD_eq_getD_getElem?,so];rfl
  rw[this];exact ae
end
end Go.aO
namespace Go.aO
open Go Go.Proofs Go.Shelf Go.RowKit
variable {P:Program} {bc:Ren}
theorem VI(w:World): ∀(l:List Int) (a:Addr) (acc:ByteArray),(∀j x,l[j]? =some x→w.cell? (a.add j)=some (.int .u8 x))→
 (loadBytes a acc l.length).run P w= .ok (l.foldl (fun r n=>r.push (UInt8.ofNat n.toNat)) acc) w
 |[],a,acc,_=>by simp[loadBytes]
 |x::l,a,acc,h=>by
  have aP:w.cell? a=some (.int .u8 x):=by
   have:=h 0 x rfl
   simpa[Addr.add]using this
  have a7:=VI w l (a.add 1) (acc.push (UInt8.ofNat x.toNat)) (fun j y ay=>by
   have:=h (j+1) y (by simpa using ay)
   have e:(a.add 1).add j=a.add (j+1):=by
    unfold Addr.add
    by_cases af:j=0
    ·subst af;simp
    ·simp[af];omega
   rw[e];exact this)
  simp only[List.length_cons,loadBytes,Sem.run_bind,run_load,aP,Result.andThen];exact a7
theorem zid(w:World)(FF it ty e:TypeId)(ak:P.underlying FF=some (.pointer e))(hc:P.cellsOf e=1)(g cells:Nat)(KH:w.shape? g=some (e,cells))(l:List Int)(aP:l≠[])(hn:l.length≤cells)(sl:l.length≤9223372036854775807)
 (kP: ∀j x,l[j]? =some x→w.cell? ((⟨g,0,none⟩:Addr).add j)=some (.int .u8 x)):
 (Builtin.unsafeString_ #[FF,it] ty #[.pointer (some ⟨g,0,none⟩),.int .i64 l.length]).run P w= .ok (.string (bytesOf l)) (w.freeze ⟨g,0,none⟩ l.length):=by
 have ar:l.length≠0:=by simpa using aP
 have y4:=VI (P:=P) w l ⟨g,0,none⟩ .empty kP
 have zie:=Lib.liesAt_bytes (P:=P) hc (cells/ P.cellsOf e) l.length (by rw[hc];simpa using hn)
 have zif: ¬(9223372036854775807:Int)<(l.length:Int):=by omega
 have Ol:Builtin.unsafeString_ #[FF,it] ty #[.pointer (some ⟨g,0,none⟩),.int .i64 l.length]=
  (do
   let n ←asInt (.int .i64 l.length)
   if n<0 then runtimePanic (.error "unsafe.String: len out of range")
   if n>IntKind.i64.max then unsupported (.unsafePointer "String: a length above the largest int")
   if n=0 then pure (.string .empty)
   else if ←variablesAt ⟨g,0,none⟩ (←elemOf FF) n.toNat then do
    let s ←loadBytes ⟨g,0,none⟩ .empty n.toNat
    freeze ⟨g,0,none⟩ n.toNat
    pure (.string s)
   else unsupported (.unsafePointer "String: not so many bytes at ptr")):=rfl
 rw[Ol]
 have zig:IntKind.i64.max=9223372036854775807:=rfl
 have zih: ¬(l.length:Int)<0:=by omega
 simp[asInt,asIntOf,zig,zif,zih,ar,variablesAt,KH,elemOf,run_underlying ak,zie,y4,bytesOf]
set_option maxHeartbeats 2000000 in
set_option maxRecDepth 100000 in
theorem zii(L:Lays.n169 P bc)(X:Builder.Extra P bc)(b g cap:Nat)(p:Value)(cur:Array Value)(l:List Int)(w:World)(aP:l≠[])(bm:w.heap[b]? =some (.cells #[p,.slice (some ⟨g,0,none⟩) l.length cap] (bc.t 72) (0,0)))
 (ah:w.heap[g]? =some (.cells cur (bc.t 5) (0,0)))(Ap:l.length≤cap)(h9:cap≤maxLen)(dL:cur.size=cap*1)(kP: ∀j x,l[j]? =some x→w.cell? ((⟨g,0,none⟩:Addr).add j)=some (.int .u8 x)):
 Calls P (bc.f 169) #[.pointer (some ⟨b,0,none⟩)] w fun e w'=>e= .returned (.string (bytesOf l))∧w'=w.drew.freeze ⟨g,0,none⟩ l.length:=by
 have Da:l.length≠0:=by simpa using aP
 have aY:w.drew.cell? ⟨b,1,none⟩=some (.slice (some ⟨g,0,none⟩) l.length cap):=by
  have:w.drew.heap[b]? =some (.cells #[p,.slice (some ⟨g,0,none⟩) l.length cap] (bc.t 72) (0,0)):=bm
  rw[Lib.cell_of_heap this];rfl
 have Om:(Builtin.unsafeSliceData_ #[(bc.t 37)] (bc.t 127) #[.slice (some ⟨g,0,none⟩) l.length cap]).run P w.drew= .ok (.pointer (some ⟨g,0,none⟩)) w.drew:=
  Lib.run_unsafeSliceData_row _ _ _ _ _ _ (by omega)
 have On:(Builtin.unsafeString_ #[(bc.t 127),(bc.t 3)] (bc.t 9) #[.pointer (some ⟨g,0,none⟩),.int .i64 l.length]).run P w.drew= .ok (.string (bytesOf l)) (w.drew.freeze ⟨g,0,none⟩ l.length):=by
  refine zid w.drew (bc.t 127) (bc.t 3) (bc.t 9) (bc.t 5) L.t127 X.cellsByte g cur.size (by have dX:w.drew.heap[g]? =some (.cells cur (bc.t 5) (0,0)):=ah;simp[World.shape?,dX]) l aP (by omega) (by unfold maxLen at h9;omega) ?_
  intro j x hx;exact kP j x hx
 have mixed:=L.mixed
 have t72:=L.t72;have a72:=L.a72;have z72:=L.z72;have v72:=L.v72;have Oo:=run_underlying L.t72
 have t70:=L.t70;have a70:=L.a70;have z70:=L.z70;have v70:=L.v70;have Oq:=run_underlying L.t70
 have t37:=L.t37;have a37:=L.a37;have z37:=L.z37;have v37:=L.v37;have Ot:=run_underlying L.t37
 have t127:=L.t127;have a127:=L.a127;have z127:=L.z127;have v127:=L.v127;have Ou:=run_underlying L.t127
 have t3:=L.t3;have a3:=L.a3;have z3:=L.z3;have v3:=L.v3;have xZ:=run_underlying L.t3
 have t9:=L.t9;have a9:=L.a9;have z9:=L.z9;have v9:=L.v9;have Ov:=run_underlying L.t9
 have t5:=X.t5;have a5:=X.a5;have z5:=X.z5;have v5:=X.v5;have Ow:=run_underlying X.t5
 go_enter L.f169,Body.n169_ntmps bc
 go_wp2
 go_region_o
 all_goals (go_wp2;go_ret;exact⟨rfl,rfl⟩)
set_option maxHeartbeats 2000000 in
set_option maxRecDepth 100000 in
theorem VJ(L:Lays.n169 P bc)(X:Builder.Extra P bc)(b:Nat)(p:Value)(w:World)(bm:w.heap[b]? =some (.cells #[p,.slice none 0 0] (bc.t 72) (0,0))):
 Calls P (bc.f 169) #[.pointer (some ⟨b,0,none⟩)] w fun e w'=>e= .returned (.string ⟨#[]⟩)∧w'=w.drew:=by
 have On:=Any.unsafeString_none L X
 have aY:w.drew.cell? ⟨b,1,none⟩=some (.slice none 0 0):=by
  have:w.drew.heap[b]? =some (.cells #[p,.slice none 0 0] (bc.t 72) (0,0)):=bm
  rw[Lib.cell_of_heap this];rfl
 have Om:(Builtin.unsafeSliceData_ #[(bc.t 37)] (bc.t 127) #[.slice none 0 0]).run P w.drew= .ok (.pointer none) w.drew:=rfl
 have mixed:=L.mixed
 have t72:=L.t72;have a72:=L.a72;have z72:=L.z72;have v72:=L.v72;have Oo:=run_underlying L.t72
 have t70:=L.t70;have a70:=L.a70;have z70:=L.z70;have v70:=L.v70;have Oq:=run_underlying L.t70
 have t37:=L.t37;have a37:=L.a37;have z37:=L.z37;have v37:=L.v37;have Ot:=run_underlying L.t37
 have t127:=L.t127;have a127:=L.a127;have z127:=L.z127;have v127:=L.v127;have Ou:=run_underlying L.t127
 have t3:=L.t3;have a3:=L.a3;have z3:=L.z3;have v3:=L.v3;have xZ:=run_underlying L.t3
 have t9:=L.t9;have a9:=L.a9;have z9:=L.z9;have v9:=L.v9;have Ov:=run_underlying L.t9
 have t5:=X.t5;have a5:=X.a5;have z5:=X.z5;have v5:=X.v5;have Ow:=run_underlying X.t5
 go_enter L.f169,Body.n169_ntmps bc
 go_wp2
 go_region_o
 all_goals (go_wp2;go_ret;exact⟨rfl,rfl⟩)
set_option maxHeartbeats 2000000 in
set_option maxRecDepth 100000 in
theorem zij(L:Lays.n169 P bc)(X:Builder.Extra P bc)(b g cap:Nat)(p:Value)(w:World)(gw:cap≠0)(bm:w.heap[b]? =some (.cells #[p,.slice (some ⟨g,0,none⟩) 0 cap] (bc.t 72) (0,0))):
 Calls P (bc.f 169) #[.pointer (some ⟨b,0,none⟩)] w fun e w'=>e= .returned (.string ⟨#[]⟩)∧w'=w.drew:=by
 have On:=Any.unsafeString_none L X
 have aY:w.drew.cell? ⟨b,1,none⟩=some (.slice (some ⟨g,0,none⟩) 0 cap):=by
  have:w.drew.heap[b]? =some (.cells #[p,.slice (some ⟨g,0,none⟩) 0 cap] (bc.t 72) (0,0)):=bm
  rw[Lib.cell_of_heap this];rfl
 have Om:(Builtin.unsafeSliceData_ #[(bc.t 37)] (bc.t 127) #[.slice (some ⟨g,0,none⟩) 0 cap]).run P w.drew= .ok (.pointer (some ⟨g,0,none⟩)) w.drew:=
  Lib.run_unsafeSliceData_row _ _ _ _ _ _ gw
 clear gw
 have mixed:=L.mixed
 have t72:=L.t72;have a72:=L.a72;have z72:=L.z72;have v72:=L.v72;have Oo:=run_underlying L.t72
 have t70:=L.t70;have a70:=L.a70;have z70:=L.z70;have v70:=L.v70;have Oq:=run_underlying L.t70
 have t37:=L.t37;have a37:=L.a37;have z37:=L.z37;have v37:=L.v37;have Ot:=run_underlying L.t37
 have t127:=L.t127;have a127:=L.a127;have z127:=L.z127;have v127:=L.v127;have Ou:=run_underlying L.t127
 have t3:=L.t3;have a3:=L.a3;have z3:=L.z3;have v3:=L.v3;have xZ:=run_underlying L.t3
 have t9:=L.t9;have a9:=L.a9;have z9:=L.z9;have v9:=L.v9;have Ov:=run_underlying L.t9
 have t5:=X.t5;have a5:=X.a5;have z5:=X.z5;have v5:=X.v5;have Ow:=run_underlying X.t5
 go_enter L.f169,Body.n169_ntmps bc
 go_wp2
 go_region_o
 all_goals (go_wp2;go_ret;exact⟨rfl,rfl⟩)
set_option maxHeartbeats 2000000 in
set_option maxRecDepth 100000 in
theorem zik(L:Lays.n169 P bc)(X:Builder.Extra P bc)(b:Nat)(c8 q:Addr)(p:Value)(w eW:World)(bm:w.heap[b]? =some (.cells #[p,.slice (some c8) 0 0] (bc.t 72) (0,0)))(oP:eW.heap[b]? =w.heap[b]?)
 (Om:(Builtin.unsafeSliceData_ #[(bc.t 37)] (bc.t 127) #[.slice (some c8) 0 0]).run P w.drew= .ok (.pointer (some q)) eW):
 Calls P (bc.f 169) #[.pointer (some ⟨b,0,none⟩)] w fun e w'=>e= .returned (.string ⟨#[]⟩)∧w'=eW:=by
 have On:=Any.unsafeString_none L X
 have aY:w.drew.cell? ⟨b,1,none⟩=some (.slice (some c8) 0 0):=by
  have:w.drew.heap[b]? =some (.cells #[p,.slice (some c8) 0 0] (bc.t 72) (0,0)):=bm
  rw[Lib.cell_of_heap this];rfl
 have bW:eW.cell? ⟨b,1,none⟩=some (.slice (some c8) 0 0):=by
  have:eW.heap[b]? =some (.cells #[p,.slice (some c8) 0 0] (bc.t 72) (0,0)):=oP.trans bm
  rw[Lib.cell_of_heap this];rfl
 clear oP
 have mixed:=L.mixed
 have t72:=L.t72;have a72:=L.a72;have z72:=L.z72;have v72:=L.v72;have Oo:=run_underlying L.t72
 have t70:=L.t70;have a70:=L.a70;have z70:=L.z70;have v70:=L.v70;have Oq:=run_underlying L.t70
 have t37:=L.t37;have a37:=L.a37;have z37:=L.z37;have v37:=L.v37;have Ot:=run_underlying L.t37
 have t127:=L.t127;have a127:=L.a127;have z127:=L.z127;have v127:=L.v127;have Ou:=run_underlying L.t127
 have t3:=L.t3;have a3:=L.a3;have z3:=L.z3;have v3:=L.v3;have xZ:=run_underlying L.t3
 have t9:=L.t9;have a9:=L.a9;have z9:=L.z9;have v9:=L.v9;have Ov:=run_underlying L.t9
 have t5:=X.t5;have a5:=X.a5;have z5:=X.z5;have v5:=X.v5;have Ow:=run_underlying X.t5
 go_enter L.f169,Body.n169_ntmps bc
 go_wp2
 go_region_o
 all_goals (go_wp2;go_ret;exact⟨rfl,rfl⟩)
theorem zil(L:Lays.n169 P bc)(c8:Addr)(w:World)(hex:c8.block<w.heap.size): ∃q eW,(Builtin.unsafeSliceData_ #[(bc.t 37)] (bc.t 127) #[.slice (some c8) 0 0]).run P w= .ok (.pointer (some q)) eW∧(eW=w∨∃o,eW=w.alloc o):=by
 obtain⟨o,ao⟩: ∃o,w.heap[c8.block]? =some o:=⟨_,Array.getElem?_eq_getElem hex⟩
 have he:(elemOf (bc.t 127)).run P w= .ok (bc.t 5) w:=by simp[elemOf,run_underlying L.t127]
 have Ol:Builtin.unsafeSliceData_ #[(bc.t 37)] (bc.t 127) #[.slice (some c8) 0 0]=
  (do
   if(0:Nat)≠0 then pure (.pointer (some c8))
   else if(←viewAt c8.block).isSome then pure (.pointer (some c8))
   else pure (.pointer (some ⟨←newObj (.view c8 (←elemOf (bc.t 127))),0,none⟩))):=rfl
 rw[Ol]
 unfold viewAt
 cases ai:w.shape? c8.block with
 |some s=>exact⟨⟨w.heap.size,0,none⟩,w.alloc (.view c8 (bc.t 5)),by simp[ai,he],.inr ⟨_,rfl⟩⟩
 |none=>
  cases o with
  |cells c e f=>simp[World.shape?,ao]at ai
  |view a t=>exact⟨c8,w,by simp[ai,getObj,Sem.run,ao],.inl rfl⟩
  |_=>exact⟨⟨w.heap.size,0,none⟩,w.alloc (.view c8 (bc.t 5)),by simp[ai,getObj,Sem.run,ao,he],.inr ⟨_,rfl⟩⟩
section
variable {w w':World} {ro:Nat→Prop} {σ:Heap} {β:Nat→Value} {n rid:Nat}
theorem gY.drop(h:gY w ro σ β n){t:TypeId}{m:Nat}{es:List (List bb)}(ag:aG σ rid=some (.row false t m es))(hw: ∀k,k<w.heap.size→b9 (β rid)≠some k→w'.heap[k]? =w.heap[k]?)(bY:w.heap.size≤w'.heap.size):
 gY w' ro (gu σ rid) β n:=by
 have cl: ∀b,ro b→w'.heap[b]? =w.heap[b]? :=fun b ad=>hw b (h.lt b ad) fun e=>h.fk b ad ⟨rid,_,ag,rfl,e⟩
 have sub: ∀k o,aG (gu σ rid) k=some o→aG σ k=some o∧k≠rid:=by
  intro k o aj;rw[ze]at aj
  split at aj
  ·cases aj
  ·rename_i cb
   exact⟨aj,fun e=>cb e.symm⟩
 have key: ∀x c,bF w ro σ β n x c→bF w' ro (gu σ rid) β n x c:=fun x c hx=>hx.keep cl (fun _ h=>h) (Nat.le_refl _) (fun id t cs aj=>⟨rfl,t,cs,(sub _ _ aj).1⟩) (fun id z t n es aj=>⟨rfl,z,t,es,(sub _ _ aj).1⟩) (fun id bU aj=>⟨rfl,bU,(sub _ _ aj).1⟩)
 refine⟨fun k o aj=>?_,fun k bu o ct b aj eA=>h.inj k bu o ct b (sub _ _ aj).1 (sub _ _ eA).1,fun b ad ⟨k,o,aj,ar,bm⟩=>h.fk b ad ⟨k,o,(sub _ _ aj).1,ar,bm⟩,fun b ad=>Nat.lt_of_lt_of_le (h.lt b ad) bY⟩
 obtain⟨fV,cb⟩:=sub k o aj
 have gL:=h.dh k o fV
 have Ox:o.live=true→∀b,b9 (β k)=some b→w'.heap[b]? =w.heap[b]? :=fun ar b ad=>hw b (gL.hG ar ad) fun e=>cb (h.inj k rid o _ b fV ag ar rfl ad e)
 cases gL with
 |box t cs b arr aa ae au aW=>exact .box t cs b arr aa ((Ox rfl b (by rw[aa];rfl)).trans ae) au fun j x af=>key _ _ (aW j x af)
 |row t n es xs aa ae au=>exact .row t n es xs (aa.keep (fun b ad=>Ox rfl b ad) bY) ae fun j x af=>(au j x af).keep cl fun _ h=>h
 |gi t n es aa=>exact .gi t n es (aa.keep cl fun _ h=>h)
 |bT bU b o aa ae au=>exact .bT bU b o aa ((Ox rfl b aa).trans ae) (bU.mono _ _ _ _ (fun x c h=>h.keep cl fun _ h=>h) au)
theorem zim(w:World)(g m k:Nat)(aj:k≠g):(w.freeze ⟨g,0,none⟩ m).heap[k]? =w.heap[k]? :=by
 unfold World.freeze
 split
 ·rfl
 ·simp only[Array.getElem?_modify]
  rw[if_neg (fun e=>aj e.symm)]
theorem zin(w:World)(a:Addr)(m:Nat):(w.freeze a m).os=w.os∧(w.freeze a m).tape=w.tape∧(w.freeze a m).output=w.output∧(w.freeze a m).heap.size=w.heap.size:=by
 unfold World.freeze
 split
 ·exact⟨rfl,rfl,rfl,rfl⟩
 ·exact⟨rfl,rfl,rfl,by simp⟩
theorem zio(L:Lays.n169 P bc)(X:Builder.Extra P bc){G:bd}{id:Nat}{x0:aF}{l:List Int}(aP:l≠[])(bh:aG σ id=some (.box (bc.t 72) [x0,.aR rid]))(ag:aG σ rid=some (.row false (bc.t 5) 1 (l.map fun z=>[.v (.int .u8 z)]))):
 dJ P G (bc.f 169) [.ptr id 0] σ n fun r b1=>r= .aw (.v (.string (bytesOf l)))∧b1=gu σ rid:=by
 intro w β ro ed aa ae au aW bN
 have dr:=au.dh id _ bh
 have fS:=au.dh rid _ ag
 cases dr with
 |box _ _ b arr aE bo cv eC=>
  cases fS with
  |row _ _ _ xs db cb e1=>
   have gw:ed.getD 0 undef= .pointer (some ⟨b,0,none⟩):=by
    have:=ae 0 _ rfl
    generalize ed.getD 0 undef=bl at this⊢
    cases this with
    |ptr _ _ _ ar kc=>
     obtain⟨b',da,dm⟩:=kc _ _ bh;rw[aE]at da
     cases da
     exact dm
   have rL:ed= #[.pointer (some ⟨b,0,none⟩)]:=by
    have ai:ed.size=1:=aa
    apply Array.ext
    ·simpa using ai
    ·intro i x1 mc
     have:i=0:=by omega
     subst this;simpa[Array.getD,ai]using gw
   have Bg:arr.getD 1 undef=β rid:=by
    have:=eC 1 _ rfl
    generalize arr.getD 1 undef=bl at this⊢
    cases this with
    |aR _ _ _ ak=>exact ak _ _ _ _ ag
   have rq:arr= #[arr.getD 0 undef,β rid]:=by
    have ai:arr.size=2:=cv
    apply Array.ext
    ·simpa using ai
    ·intro i x1 mc
     have hi:i=0∨i=1:=by omega
     rcases hi with rfl|rfl
     ·simp[Array.getD,ai]
     ·have:=Bg
      simp only[Array.getD,ai]at this;simpa using this
   have hlen:(l.map fun z=>[bb.v (.int .u8 z)]).length=l.length:=List.length_map ..
   rcases db.2 with⟨_,aS⟩|⟨g,cap,cur,ax,ak,ah,hle,h9,dL,lp⟩
   ·rw[hlen]at aS
    exact absurd (List.eq_nil_of_length_eq_zero aS) aP
   ·rw[hlen]at ax hle lp
    have x6:b9 (β rid)=some g:=by rw[ax];simp[b9,Nat.ne_of_gt ak]
    rw[rL];refine Calls.mono (zii L X b g cap (arr.getD 0 undef) cur l w aP (by rw[bo,←ax,←rq]) ah hle h9 dL fun j x hx=>?_) fun e w' ⟨he,hw⟩=>?_
    ·have af:=(List.getElem?_eq_some_iff.1 hx).1
     have hc:=e1 j (.v (.int .u8 x)) (by rw[K8,List.getElem?_map,hx];rfl)
     have ziq:xs.getD j undef= .int .u8 x:=by
      generalize xs.getD j undef=bl at hc⊢
      cases hc with
      |v=>rfl
     have FG:xs[j]? =some (.int .u8 x):=by
      have jI:j<xs.length:=by rw[db.1,hlen];omega
      rw[←ziq];simp[List.getD,List.getElem?_eq_getElem jI]
     rw[addLit,Nat.zero_add,cell_of_row w g j cur (bc.t 5) (0,0) ah];rw[←lp,List.getElem?_take]at FG
     split at FG
     ·simpa using FG
     ·cases FG
    ·subst hw
     obtain⟨f1,f2,f3,f4⟩:=zin w.drew ⟨g,0,none⟩ l.length
     have nx: ∀k,k<w.heap.size→b9 (β rid)≠some k→(w.drew.freeze ⟨g,0,none⟩ l.length).heap[k]? =w.heap[k]? :=fun k _ aj=>zim w.drew g l.length k fun e=>aj (by rw[x6,e])
     have bY:w.heap.size≤(w.drew.freeze ⟨g,0,none⟩ l.length).heap.size:=Nat.le_of_eq f4.symm
     have sub: ∀k o,aG (gu σ rid) k=some o→aG σ k=some o:=by
      intro k o aj;rw[ze]at aj
      split at aj
      ·cases aj
      ·exact aj
     refine⟨_,_,gu σ rid,β,ro,n,he,⟨rfl,rfl⟩,.fG rfl,au.drop ag nx bY,⟨f1,f2,f3,bY,fun k aj ao=>nx k aj fun e=>ao ⟨rid,_,ag,rfl,e⟩,fun _ h=>.inl h,fun _ h=>h,fun k ⟨j,o,af,ar,ad⟩=>.inl ⟨j,o,sub _ _ af,ar,ad⟩,fun k aj o ah=>⟨by rw[sub _ _ ah];simp,rfl⟩,fun k o ah=>bN k o (sub _ _ ah),Nat.le_refl _⟩⟩
theorem gY.same(h:gY w ro σ β n)(he:w'.heap=w.heap):gY w' ro σ β n:=by
 have cl: ∀b,ro b→w'.heap[b]? =w.heap[b]? :=fun b _=>by rw[he]
 have key: ∀x c,bF w ro σ β n x c→bF w' ro σ β n x c:=fun x c hx=>hx.keep cl (fun _ h=>h) (Nat.le_refl _) (fun id t cs aj=>⟨rfl,t,cs,aj⟩) (fun id z t n es aj=>⟨rfl,z,t,es,aj⟩) (fun id bU aj=>⟨rfl,bU,aj⟩)
 refine⟨fun k o aj=>?_,h.inj,h.fk,fun b ad=>by rw[he];exact h.lt b ad⟩
 have gL:=h.dh k o aj
 cases gL with
 |box t cs b arr aa ae au aW=>exact .box t cs b arr aa (by rw[he];exact ae) au fun j x af=>key _ _ (aW j x af)
 |row t n es xs aa ae au=>exact .row t n es xs (aa.keep (fun b ad=>by rw[he]) (Nat.le_of_eq (by rw[he]))) ae fun j x af=>(au j x af).keep cl fun _ h=>h
 |gi t n es aa=>exact .gi t n es (aa.keep cl fun _ h=>h)
 |bT bU b o aa ae au=>exact .bT bU b o aa (by rw[he];exact ae) (bU.mono _ _ _ _ (fun x c h=>h.keep cl fun _ h=>h) au)
theorem Trans.drew(hx: ∀id o,aG σ id=some o→id<n):Trans ⟨w,ro,σ,β,n,[]⟩ w.drew ro σ β n:=
 ⟨rfl,rfl,rfl,Nat.le_refl _,fun _ _ _=>rfl,fun _ h=>.inl h,fun _ h=>h,fun _ h=>.inl h,fun k _ o ah=>⟨by rw[ah];simp,rfl⟩,hx,Nat.le_refl _⟩
theorem zaA(L:Lays.n169 P bc)(X:Builder.Extra P bc){G:bd}{id:Nat}{x0:aF}(bh:aG σ id=some (.box (bc.t 72) [x0,.aw (.v (.slice none 0 0))])):
 dJ P G (bc.f 169) [.ptr id 0] σ n fun r b1=>r= .aw (.v (.string ⟨#[]⟩))∧b1=σ:=by
 intro w β ro ed aa ae au aW bN
 have dr:=au.dh id _ bh
 cases dr with
 |box _ _ b arr aE bo cv eC=>
  have gw:ed.getD 0 undef= .pointer (some ⟨b,0,none⟩):=by
   have:=ae 0 _ rfl
   generalize ed.getD 0 undef=bl at this⊢
   cases this with
   |ptr _ _ _ ar kc=>
    obtain⟨b',da,dm⟩:=kc _ _ bh;rw[aE]at da
    cases da
    exact dm
  have rL:ed= #[.pointer (some ⟨b,0,none⟩)]:=by
   have ai:ed.size=1:=aa
   apply Array.ext
   ·simpa using ai
   ·intro i x1 mc
    have:i=0:=by omega
    subst this;simpa[Array.getD,ai]using gw
  have Bg:arr.getD 1 undef= .slice none 0 0:=bF.val (eC 1 _ rfl)
  have rq:arr= #[arr.getD 0 undef,.slice none 0 0]:=by
   have ai:arr.size=2:=cv
   apply Array.ext
   ·simpa using ai
   ·intro i x1 mc
    have hi:i=0∨i=1:=by omega
    rcases hi with rfl|rfl
    ·simp[Array.getD,ai]
    ·have:=Bg
     simp only[Array.getD,ai]at this;simpa using this
  rw[rL];refine Calls.mono (VJ L X b (arr.getD 0 undef) w (by rw[bo,←rq])) fun e w' ⟨he,hw⟩=>?_
  subst hw;exact⟨_,_,σ,β,ro,n,he,⟨rfl,rfl⟩,.fG rfl,au.same rfl,Trans.drew bN⟩
theorem zir(L:Lays.n169 P bc)(X:Builder.Extra P bc){G:bd}{id:Nat}{x0:aF}(bh:aG σ id=some (.box (bc.t 72) [x0,.aR rid]))(ag:aG σ rid=some (.row false (bc.t 5) 1 [])):
 dJ P G (bc.f 169) [.ptr id 0] σ n fun r b1=>r= .aw (.v (.string ⟨#[]⟩))∧b1=gu σ rid:=by
 intro w β ro ed aa ae au aW bN
 have dr:=au.dh id _ bh
 have fS:=au.dh rid _ ag
 cases dr with
 |box _ _ b arr aE bo cv eC=>
  cases fS with
  |row _ _ _ xs db cb e1=>
   have gw:ed.getD 0 undef= .pointer (some ⟨b,0,none⟩):=by
    have:=ae 0 _ rfl
    generalize ed.getD 0 undef=bl at this⊢
    cases this with
    |ptr _ _ _ ar kc=>
     obtain⟨b',da,dm⟩:=kc _ _ bh;rw[aE]at da
     cases da
     exact dm
   have rL:ed= #[.pointer (some ⟨b,0,none⟩)]:=by
    have ai:ed.size=1:=aa
    apply Array.ext
    ·simpa using ai
    ·intro i x1 mc
     have:i=0:=by omega
     subst this;simpa[Array.getD,ai]using gw
   have Bg:arr.getD 1 undef=β rid:=by
    have:=eC 1 _ rfl
    generalize arr.getD 1 undef=bl at this⊢
    cases this with
    |aR _ _ _ ak=>exact ak _ _ _ _ ag
   have rq:arr= #[arr.getD 0 undef,β rid]:=by
    have ai:arr.size=2:=cv
    apply Array.ext
    ·simpa using ai
    ·intro i x1 mc
     have hi:i=0∨i=1:=by omega
     rcases hi with rfl|rfl
     ·simp[Array.getD,ai]
     ·have:=Bg
      simp only[Array.getD,ai]at this;simpa using this
   have bR:b<w.heap.size:=(Array.getElem?_eq_some_iff.1 bo).1
   have fin:Calls P (bc.f 169) #[.pointer (some ⟨b,0,none⟩)] w fun e w'=>e= .returned (.string ⟨#[]⟩)∧(w'=w.drew∨∃o,w'=w.drew.alloc o):=by
    rcases db.2 with⟨⟨c,ax,uf⟩,_⟩|⟨g,cap,cur,ax,ak,_⟩
    ·cases c with
     |none=>exact Calls.mono (VJ L X b (arr.getD 0 undef) w (by rw[bo,←ax,←rq])) fun e w' ⟨he,hw⟩=>⟨he,.inl hw⟩
     |some c8=>
      obtain⟨q,eW,aN,VK⟩:=zil L c8 w.drew (uf c8 rfl);refine Calls.mono (zik L X b c8 q (arr.getD 0 undef) w eW (by rw[bo,←ax,←rq]) ?_ aN) fun e w' ⟨he,hw⟩=>⟨he,by rw[hw];exact VK⟩
      rcases VK with rfl|⟨o,rfl⟩
      ·rfl
      ·exact Lib.alloc_old w.drew _ b bR
    ·exact Calls.mono (zij L X b g cap (arr.getD 0 undef) w (Nat.ne_of_gt ak) (by rw[bo,←(show β rid= .slice (some ⟨g,0,none⟩) 0 cap from ax),←rq])) fun e w' ⟨he,hw⟩=>⟨he,.inl hw⟩
   rw[rL];refine Calls.mono fin fun e w' ⟨he,hw⟩=>?_
   have hold: ∀k,k<w.heap.size→w'.heap[k]? =w.heap[k]? :=fun k aj=>by
    rcases hw with rfl|⟨o,rfl⟩
    ·rfl
    ·exact Lib.alloc_old w.drew _ k aj
   have bY:w.heap.size≤w'.heap.size:=by
    rcases hw with rfl|⟨o,rfl⟩
    ·exact Nat.le_refl _
    ·show w.heap.size≤(w.heap.push _).size
     rw[Array.size_push];exact Nat.le_succ _
   have oB:w'.os=w.os∧w'.tape=w.drew.tape∧w'.output=w.output:=by
    rcases hw with rfl|⟨o,rfl⟩<;>exact⟨rfl,rfl,rfl⟩
   have sub: ∀k o,aG (gu σ rid) k=some o→aG σ k=some o:=by
    intro k o aj;rw[ze]at aj
    split at aj
    ·cases aj
    ·exact aj
   refine⟨_,_,gu σ rid,β,ro,n,he,⟨rfl,rfl⟩,.fG rfl,au.drop ag (fun k aj _=>hold k aj) bY,⟨oB.1,oB.2.1,oB.2.2,bY,fun k aj _=>hold k aj,fun _ h=>.inl h,fun _ h=>h,fun k ⟨j,o,af,ar,ad⟩=>.inl ⟨j,o,sub _ _ af,ar,ad⟩,fun k aj o ah=>⟨by rw[sub _ _ ah];simp,rfl⟩,fun k o ah=>bN k o (sub _ _ ah),Nat.le_refl _⟩⟩
theorem zaz(L:Lays.n169 P bc)(X:Builder.Extra P bc){G:bd}{id:Nat}{x0:aF}{l:List Int}(bh:aG σ id=some (.box (bc.t 72) [x0,.aR rid]))(ag:aG σ rid=some (.row false (bc.t 5) 1 (l.map fun z=>[.v (.int .u8 z)]))):
 dJ P G (bc.f 169) [.ptr id 0] σ n fun r b1=>r= .aw (.v (.string (bytesOf l)))∧b1=gu σ rid:=by
 cases l with
 |nil=>exact zir L X bh ag
 |cons z l=>exact zio L X (by simp) bh ag
end
end Go.aO
namespace Go.aO
open Go
def qt:List (Nat × bK)→Nat→List (Nat × bK)
 |[],_=>[]
 |(k,x)::r,id=>match Nat.beq k id with
  |true=>qt r id
  |false=>(k,x)::qt r id
theorem Oy{G:bd}{e:Env}{id:Nat}: ∀(h:List (Nat × bK)),cH G e (qt h id)=gu (cH G e h) id
 |[]=>rfl
 |(k,x)::r=>by
  simp only[qt,cH,gu]
  by_cases aj:k=id
  ·subst aj
   simp only[Nat.beq_refl,if_true];exact Oy r
  ·have:Nat.beq k id=false:=by cases aN:Nat.beq k id with|true=>exact absurd (Nat.eq_of_beq_eq_true aN) aj|false=>rfl
   simp only[this,if_neg aj,cH,Oy r]
theorem Oz{k id:Nat}: ∀{h:List (Nat × bK)},eI k h=true→eI k (qt h id)=true
 |[],h=>h
 |(j,x)::r,h=>by
  have bk:x.lt k=true∧eI k r=true:=by cases x<;>simpa only[eI,Bool.and_eq_true]using h
  simp only[qt]
  split
  ·exact Oz bk.2
  ·show(x.lt k&&eI k (qt r id))=true
   rw[bk.1,Oz bk.2];rfl
def OA(vh qu t5:Nat)(inl:Nat→List ab→aq→aD)(f:Nat)(aJ:List ab)(S:aq):aD:=
 match Nat.beq f vh,aJ with
 |true,[.cq id 0]=>match dj S.h id with
  |some (.cQ t [x0,.aR r])=>match dj S.h r with
   |some (.rw bI .u8 x)=>match(Nat.beq t qu&&Nat.beq bI t5)&&(x.ew (.li .u8)&&x.lt S.k)with
    |true=>emit S.k [.f1 .cY x] [] (.cR .cp ⟨bg.put .emp 0 (.aQ .str S.k),qt S.h r,S.n,S.k+1,S.g⟩)
    |false=>inl f aJ S
   |_=>inl f aJ S
  |some (.cQ t [x0,.cs (.slice none 0 0)])=>match Nat.beq t qu with
   |true=>.cR .cp ⟨bg.put .emp 0 (.cs (.string ⟨#[]⟩)),S.h,S.n,S.k,S.g⟩
   |false=>inl f aJ S
  |_=>inl f aJ S
 |_,_=>inl f aJ S
section
variable {P:Program} {G:bd} {M:List aV} {inl:Nat→List ab→aq→aD} {vh qu t5:Nat}
def tX(P:Program)(G:bd)(vh qu t5:Nat):Prop:=
 (∀{σ:Heap} {n rid id:Nat} {x0:aF} {l:List Int},aG σ id=some (.box qu [x0,.aR rid])→aG σ rid=some (.row false t5 1 (l.map fun z=>[.v (.int .u8 z)]))→
  dJ P G vh [.ptr id 0] σ n fun r b1=>r= .aw (.v (.string (bytesOf l)))∧b1=gu σ rid)∧
 ∀{σ:Heap} {n id:Nat} {x0:aF},aG σ id=some (.box qu [x0,.aw (.v (.slice none 0 0))])→dJ P G vh [.ptr id 0] σ n fun r b1=>r= .aw (.v (.string ⟨#[]⟩))∧b1=σ
theorem zis(dt:tX P G vh qu t5)(b2:fE P G M inl):fE P G M (OA vh qu t5 inl):=fun f aJ S e ad ar hf ai=>by
 unfold OA at ai⊢
 split at ai
 rotate_left
 ·exact b2 _ _ S e ad ar hf ai
 rename_i id zit
 have a1:=Nat.eq_of_beq_eq_true zit
 subst a1
 split at ai
 ·rename_i t x0 r ah
  split at ai
  rotate_left
  ·exact b2 _ _ S e ad ar hf ai
  rename_i bI x OB
  split at ai
  rotate_left
  ·exact b2 _ _ S e ad ar hf ai
  rename_i aj;simp only[Bool.and_eq_true]at aj;obtain⟨⟨eP,fx⟩,iv,lY⟩:=aj
  have eP:=Nat.eq_of_beq_eq_true eP
  have fx:=Nat.eq_of_beq_eq_true fx
  subst eP fx
  have ve:gS S.k [bQ.f1 .cY x]=true:=by
   simp only[gS,bQ.lt,lY,Bool.and_self]
  have bZ:b3 S.k e (dq M e S.k [bQ.f1 .cY x]):=jy (Nat.le_refl _)
  have eM:=jz (M:=M) (e:=e) ve 0 _ rfl
  have ziu:x.aC (dq M e S.k [bQ.f1 .cY x]) (.li .u8)=x.aC e (.li .u8):=eG bZ lY
  simp only[Nat.add_zero,bQ.den,gI.den,gI.a,ziu]at eM
  have lH:=dt.1 (σ:=cH G e S.h) (n:=S.n) (rid:=r) (id:=id) (x0:=x0.den G e) (l:=x.aC e (.li .u8)) (by rw[eh,ah];rfl) (by rw[eh,OB];rfl)
  refine lH.res fun ziv b1 ⟨aa,ae⟩=>⟨⟨bg.put .emp 0 (.aQ .str S.k),qt S.h r,S.n,S.k+1,S.g⟩,dq M e S.k [bQ.f1 .cY x],by rw[k4];rfl,?_,?_,?_,ic bZ ad.g hf,bZ,Nat.le_succ _⟩
  ·rw[aa]
   show _=ab.den G _ (aq.at _ 0);unfold aq.at
   simp only[bg.hV,if_true,ab.den,ab.dyn,eM];rfl
  ·rw[ae]
   show _=cH G _ (qt S.h r);rw[Oy,w0 bZ ad.h]
  ·refine⟨fun i y hi=>?_,Oz (sJ (Nat.le_succ _) ad.h),nP (Nat.le_succ _) ad.g⟩
   simp only[bg.hV]at hi
   split at hi
   ·cases hi
    exact jP (Nat.lt_succ_self _)
   ·simp[bg.get]at hi
 ·rename_i t x0 ah
  split at ai
  rotate_left
  ·exact b2 _ _ S e ad ar hf ai
  rename_i eP
  have eP:=Nat.eq_of_beq_eq_true eP
  subst eP
  have lH:=dt.2 (σ:=cH G e S.h) (n:=S.n) (id:=id) (x0:=x0.den G e) (by rw[eh,ah];rfl)
  refine lH.res fun ziv b1 ⟨aa,ae⟩=>⟨⟨bg.put .emp 0 (.cs (.string ⟨#[]⟩)),S.h,S.n,S.k,S.g⟩,e,rfl,?_,?_,?_,hf,b3.refl _ _,Nat.le_refl _⟩
  ·rw[aa]
   show _=ab.den G _ (aq.at _ 0);unfold aq.at
   simp only[bg.hV,if_true,ab.den]
  ·rw[ae]
  ·refine⟨fun i y hi=>?_,ad.h,ad.g⟩
   simp only[bg.hV]at hi
   split at hi
   ·cases hi
    rfl
   ·simp[bg.get]at hi
 ·exact b2 _ _ S e ad ar hf ai
end
end Go.aO
namespace Go.aO
open Go
def n1(n:Nat)(b:Bool)(f:b7→Bool)(x:b7):Bool:=
 match x.b0 n with
 |true=>b
 |false=>f x
def rM(n:Nat)(b:Bool)(f:b7→Bool)(x:b7):Bool:=
 match x.c9 n with
 |true=>b
 |false=>f x
def aD.eU:aD→(b7→Bool)→Bool
 | .cR x _,f=>f x
 | .lt _ _ t,f=>t.eU f
 | .eH _ _,_=>false
 | .it _ a b,f=>a.eU f&&b.eU f
 | .dE n a _ k,f=>a.eU (n1 n (k.eU f) f)
 | .dW m xid _ _ _ a k,f=>k.eU f&&a.eU (n1 m true (rM xid true f))
 | .ep _ _ _ _ _,_=>false
 | .bad _,_=>false
def aD.h3(M:List aV):aD→Env→(b7→Bool)→(b7→aq→Env→Prop)→Prop
 | .cR x S,e,_,Q=>Q x S e
 | .lt i x t,e,f,Q=>t.h3 M (bg.put e i (x.den M e)) f Q
 | .eH n t,e,f,Q=>match t.eU f with
  |true=>n.ok M e
  |false=>n.ok M e∧t.h3 M e f Q
 | .it g a b,e,f,Q=>match a.eU f,b.eU f with
  |true,true=>True
  |true,false=>g.aC e .bool=false→b.h3 M e f Q
  |false,true=>g.aC e .bool=true→a.h3 M e f Q
  |false,false=>(g.aC e .bool=true→a.h3 M e f Q)∧(g.aC e .bool=false→b.h3 M e f Q)
 | .dE n a ps k,e,f,Q=>a.h3 M e (n1 n (k.eU f) f) fun x S aB=>bif x.b0 n then k.h3 M (fT e (fun r p=>⟨r,(p.dp S).get aB r⟩) ps) f Q else Q x S aB
 | .dW m xid du b8 ca a k,e,f,Q=>match k.eU f with
  |true=>∃I:Nat→b4 ca→Prop,I 0 (cg _ (dI e ca))∧∀(i:Nat) (v:b4 ca),i<(cr (du.den M e)).toNat→I i v→
   a.h3 M (bw (bg.put e b8 ⟨.int .i64,(i:Int)⟩) ca v) (n1 m false (rM xid true f)) fun x S aB=>bif x.b0 m then I (i+1) (cg _ (fB S aB ca))else bif x.c9 xid then True else Q x S aB
  |false=>∃I:Nat→b4 ca→Prop,I 0 (cg _ (dI e ca))∧(∀(i:Nat) (v:b4 ca),i<(cr (du.den M e)).toNat→I i v→
   a.h3 M (bw (bg.put e b8 ⟨.int .i64,(i:Int)⟩) ca v) (n1 m false (rM xid false f)) fun x S aB=>bif x.b0 m then I (i+1) (cg _ (fB S aB ca))else bif x.c9 xid then k.h3 M (bw e ca (cg _ (fB S aB ca))) f Q else Q x S aB)∧
   ∀v,I (cr (du.den M e)).toNat v→k.h3 M (bw e ca v) f Q
 | .ep m xid ca a k,e,f,Q=>∃(I:b4 ca→Prop) (jB:b4 ca→Nat),I (cg _ (dI e ca))∧jB (cg _ (dI e ca))<dG∧∀(v:b4 ca),I v→
  a.h3 M (bw e ca v) (n1 m false (rM xid (k.eU f) f)) fun x S aB=>bif x.b0 m then I (cg _ (fB S aB ca))∧jB (cg _ (fB S aB ca))<jB v else bif x.c9 xid then k.h3 M (bw e ca (cg _ (fB S aB ca))) f Q else Q x S aB
 | .bad _,_,_,_=>False
section
variable {M:List aV}
def ki(f:b7→Bool)(Q:b7→aq→Env→Prop):Prop:=∀x,f x=true→∀S e,Q x S e
theorem ki.dE{f:b7→Bool}{Q R:b7→aq→Env→Prop}{n:Nat}{b:Bool}(h:ki f R)(ad:b=true→∀x S e,x.b0 n=true→Q x S e)(ag: ∀x S e,x.b0 n=false→R x S e→Q x S e):ki (n1 n b f) Q:=fun x hx S e=>by
 unfold n1 at hx
 cases af:x.b0 n with
 |true=>rw[af]at hx;exact ad hx x S e af
 |false=>rw[af]at hx;exact ag x S e af (h x hx S e)
theorem ki.sQ{f:b7→Bool}{Q R:b7→aq→Env→Prop}{n:Nat}{b:Bool}(h:ki f R)(ad:b=true→∀x S e,x.c9 n=true→Q x S e)(ag: ∀x S e,x.c9 n=false→R x S e→Q x S e):ki (rM n b f) Q:=fun x hx S e=>by
 unfold rM at hx
 cases af:x.c9 n with
 |true=>rw[af]at hx;exact ad hx x S e af
 |false=>rw[af]at hx;exact ag x S e af (h x hx S e)
theorem kj: ∀(t:aD) {e:Env} {f:b7→Bool} {Q:b7→aq→Env→Prop},ki f Q→t.eU f=true→t.wp M e Q
 | .cR x S,e,_,_,h,c=>h x c S e
 | .lt _ _ t,_,_,_,h,c=>kj t h c
 | .eH _ _,_,_,_,_,c=>by cases c
 | .it _ a b,_,_,_,h,c=>by
  simp only[aD.eU,Bool.and_eq_true]at c;exact⟨fun _=>kj a h c.1,fun _=>kj b h c.2⟩
 | .dE n a ps k,e,f,Q,h,c=>kj a (ki.dE h (fun ad x S aB af=>by rw[af];exact kj k h ad) (fun x S aB af aN=>by rw[af];exact aN)) c
 | .dW m xid du b8 ca a k,e,f,Q,h,c=>by
  simp only[aD.eU,Bool.and_eq_true]at c;refine⟨fun _ _=>True,trivial,fun i v _ _=>kj a (ki.dE (ki.sQ h (Q:=fun x S aB=>bif x.c9 xid then k.wp M (bw e ca (cg _ (fB S aB ca))) Q else Q x S aB) (fun _ x S aB af=>by rw[af];exact kj k h c.1) (fun x S aB af aN=>by rw[af];exact aN)) (fun _ x S aB af=>by rw[af];trivial) (fun x S aB af aN=>by rw[af];exact aN)) c.2,fun v _=>kj k h c.1⟩
 | .ep _ _ _ _ _,_,_,_,_,c=>by cases c
 | .bad _,_,_,_,_,c=>by cases c
theorem kk: ∀(t:aD) {e:Env} {f:b7→Bool} {Q R:b7→aq→Env→Prop},(∀x S aB,Q x S aB→R x S aB)→t.h3 M e f Q→t.h3 M e f R
 | .cR _ _,_,_,_,_,h,q=>h _ _ _ q
 | .lt _ _ t,_,_,_,_,h,q=>kk t h q
 | .eH n t,e,f,Q,R,h,q=>by
  simp only[aD.h3]at q⊢
  cases hc:t.eU f with
  |true=>rw[hc]at q;exact q
  |false=>rw[hc]at q;exact⟨q.1,kk t h q.2⟩
 | .it g a b,e,f,Q,R,h,q=>by
  simp only[aD.h3]at q⊢
  cases ba:a.eU f<;>cases ad:b.eU f<;>rw[ba,ad]at q<;>simp only at q⊢
  ·exact⟨fun ah=>kk a h (q.1 ah),fun ah=>kk b h (q.2 ah)⟩
  ·exact fun ah=>kk a h (q ah)
  ·exact fun ah=>kk b h (q ah)
 | .dE n a ps k,e,f,Q,R,h,q=>kk a (fun x S aB r=>by
  cases hx:x.b0 n with
  |true=>rw[hx]at r;exact kk k h r
  |false=>rw[hx]at r;exact h _ _ _ r) q
 | .dW m xid du b8 ca a k,e,f,Q,R,h,q=>by
  simp only[aD.h3]at q⊢
  cases hc:k.eU f with
  |true=>
   rw[hc]at q;obtain⟨I,aa,ae⟩:=q;refine⟨I,aa,fun i v hi ax=>kk a (fun x S aB r=>?_) (ae i v hi ax)⟩
   cases hx:x.b0 m with
   |true=>rw[hx]at r;exact r
   |false=>
    rw[hx]at r
    cases ay:x.c9 xid with
    |true=>trivial
    |false=>rw[ay]at r;exact h _ _ _ r
  |false=>
   rw[hc]at q;obtain⟨I,aa,ae,au⟩:=q;refine⟨I,aa,fun i v hi ax=>kk a (fun x S aB r=>?_) (ae i v hi ax),fun v ax=>kk k h (au v ax)⟩
   cases hx:x.b0 m with
   |true=>rw[hx]at r;exact r
   |false=>
    rw[hx]at r
    cases ay:x.c9 xid with
    |true=>rw[ay]at r;exact kk k h r
    |false=>rw[ay]at r;exact h _ _ _ r
 | .ep m xid ca a k,e,f,Q,R,h,q=>by
  obtain⟨I,jB,aa,ae,au⟩:=q;refine⟨I,jB,aa,ae,fun v ax=>kk a (fun x S aB r=>?_) (au v ax)⟩
  cases hx:x.b0 m with
  |true=>rw[hx]at r;exact r
  |false=>
   rw[hx]at r
   cases ay:x.c9 xid with
   |true=>rw[ay]at r;exact kk k h r
   |false=>rw[ay]at r;exact h _ _ _ r
 | .bad _,_,_,_,_,_,q=>q.elim
theorem lK: ∀(t:aD) {e:Env} {f:b7→Bool} {Q:b7→aq→Env→Prop},ki f Q→t.h3 M e f Q→t.wp M e Q
 | .cR _ _,_,_,_,_,q=>q
 | .lt _ _ t,_,_,_,h,q=>lK t h q
 | .eH n t,e,f,Q,h,q=>by
  simp only[aD.h3]at q
  cases hc:t.eU f with
  |true=>rw[hc]at q;exact⟨q,kj t h hc⟩
  |false=>rw[hc]at q;exact⟨q.1,lK t h q.2⟩
 | .it g a b,e,f,Q,h,q=>by
  simp only[aD.h3]at q
  cases ba:a.eU f<;>cases ad:b.eU f<;>rw[ba,ad]at q<;>simp only at q
  ·exact⟨fun ah=>lK a h (q.1 ah),fun ah=>lK b h (q.2 ah)⟩
  ·exact⟨fun ah=>lK a h (q ah),fun _=>kj b h ad⟩
  ·exact⟨fun _=>kj a h ba,fun ah=>lK b h (q ah)⟩
  ·exact⟨fun _=>kj a h ba,fun _=>kj b h ad⟩
 | .dE n a ps k,e,f,Q,h,q=>by
  refine lK a (f:=n1 n (k.eU f) f) (ki.dE h (fun ad x S aB af=>?_) (fun x S aB af aN=>by rw[af];exact aN)) ?_
  ·rw[af];exact kj k h ad
  ·exact kk a (fun x S aB r=>by
    cases hx:x.b0 n with
    |true=>rw[hx]at r;exact lK k h r
    |false=>rw[hx]at r;exact r) q
 | .dW m xid du b8 ca a k,e,f,Q,h,q=>by
  simp only[aD.h3]at q
  cases hc:k.eU f with
  |true=>
   rw[hc]at q;obtain⟨I,aa,ae⟩:=q;refine⟨I,aa,fun i v hi ax=>?_,fun v _=>kj k h hc⟩
   refine lK a (f:=n1 m false (rM xid true f)) (ki.dE (ki.sQ h (Q:=fun x S aB=>bif x.c9 xid then k.wp M (bw e ca (cg _ (fB S aB ca))) Q else Q x S aB) (fun _ x S aB af=>by rw[af];exact kj k h hc) (fun x S aB af aN=>by rw[af];exact aN)) (fun ad=>by cases ad) (fun x S aB af aN=>by rw[af];exact aN)) ?_
   refine kk a (fun x S aB r=>?_) (ae i v hi ax)
   cases hx:x.b0 m with
   |true=>rw[hx]at r;exact r
   |false=>
    rw[hx]at r
    cases ay:x.c9 xid with
    |true=>exact kj k h hc
    |false=>rw[ay]at r;exact r
  |false=>
   rw[hc]at q;obtain⟨I,aa,ae,au⟩:=q;refine⟨I,aa,fun i v hi ax=>?_,fun v ax=>lK k h (au v ax)⟩
   refine lK a (f:=n1 m false (rM xid false f)) (ki.dE (ki.sQ h (Q:=fun x S aB=>bif x.c9 xid then k.wp M (bw e ca (cg _ (fB S aB ca))) Q else Q x S aB) (fun ad=>by cases ad) (fun x S aB af aN=>by rw[af];exact aN)) (fun ad=>by cases ad) (fun x S aB af aN=>by rw[af];exact aN)) ?_
   refine kk a (fun x S aB r=>?_) (ae i v hi ax)
   cases hx:x.b0 m with
   |true=>rw[hx]at r;exact r
   |false=>
    rw[hx]at r
    cases ay:x.c9 xid with
    |true=>rw[ay]at r;exact lK k h r
    |false=>rw[ay]at r;exact r
 | .ep m xid ca a k,e,f,Q,h,q=>by
  obtain⟨I,jB,aa,ae,au⟩:=q;refine⟨I,jB,aa,ae,fun v ax=>?_⟩
  refine lK a (f:=n1 m false (rM xid (k.eU f) f)) (ki.dE (ki.sQ h (Q:=fun x S aB=>bif x.c9 xid then k.wp M (bw e ca (cg _ (fB S aB ca))) Q else Q x S aB) (fun ad x S aB af=>by rw[af];exact kj k h ad) (fun x S aB af aN=>by rw[af];exact aN)) (fun ad=>by cases ad) (fun x S aB af aN=>by rw[af];exact aN)) ?_
  refine kk a (fun x S aB r=>?_) (au v ax)
  cases hx:x.b0 m with
  |true=>rw[hx]at r;exact r
  |false=>
   rw[hx]at r
   cases ay:x.c9 xid with
   |true=>rw[ay]at r;exact lK k h r
   |false=>rw[ay]at r;exact r
 | .bad _,_,_,_,_,q=>q.elim
end
def vX(M:List aV)(t:aD)(e:Env):Prop:=t.h3 M e (fun _=>true) fun _ _ _=>True
theorem OC{M:List aV}{t:aD}{e:Env}(h:vX M t e):t.wp M e fun _ _ _=>True:=lK t (fun _ _ _ _=>trivial) h
section
variable {P:Program} {G:bd} {M:List aV} {inl:Nat→List ab→aq→aD}
theorem cn(b2:fE P G M inl){f:Nat}{m:aV}(t:aD)(aK:inl f (ht 0 m.ps) (pN m.ps.length)=t)(he:t.gA.all (tW m.rs)=true)
 (ai: ∀x,vX M t (gB 0 (dB m.ps x))=k8 m.pre x)(hm: ∀x,vY M t m.rs (gB 0 (dB m.ps x))=m.m x):bG P G f m:=
 zhE b2 t aK he (fun x hx=>OC (by rw[ai x];exact hx)) hm
theorem zay(b2:fE P G M inl){f:Nat}{m:aV}(t:aD)(aK:inl f (ht 0 m.ps) (pN m.ps.length)=t)(he:t.gA.all (tW m.rs)=true)
 (ai: ∀x,k8 m.pre x→vX M t (gB 0 (dB m.ps x)))(hm: ∀x,k8 m.pre x→vY M t m.rs (gB 0 (dB m.ps x))=m.m x):bG P G f m:=
 N4 b2 t aK he (fun x hx=>(kh t (OC (ai x hx))).1) fun x hx=>by rw[←hm x hx];exact(mr t _ _ _).symm
theorem C1(b2:fE P G M inl){f:Nat}{t:TypeId}{c:bJ}{ps rs:List a6}{pre:Option ((fg (.st c::ps)).den→Prop)}{nZ:(fg (.st c::ps)).den→(fg (.st c::rs)).den}(T:aD)(aK:inl f (.cq 0 0::ht 1 ps) (te t c ps.length)=T)
 (he:T.gA.all (N8 t c rs)=true)(ai: ∀x,vX M T (gB 0 (dB (.st c::ps) x))=k8 pre x)(hm: ∀x,FE M T t c rs (gB 0 (dB (.st c::ps) x))=nZ x):mJ P G f t ⟨.st c::ps,.st c::rs,pre,nZ⟩:=
 Vv b2 T aK he (fun x hx=>(kh T (OC (by rw[ai x];exact hx))).1) hm
end
end Go.aO
