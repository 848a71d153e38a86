/- TE, part E: contracts out of trees, of functions that are handed an own box. Conditions: none. -/
import Derived.Test.YtmkpmgfieagphaaGreatDoorHTEd
import Derived.Test.YtmkpmgfieagphaaGreatDoorHTDa
import Derived.ProofKit
import Derived.LaidMore
import Derived.OpenShut
import Derived.MakeChecks
import Derived.ChangeArms
import Derived.ReadAgain
import Derived.ChangeBears
import Derived.Stop.Joined
import Derived.SizedLaws
import Derived.Shelf.Strings.Builder1
namespace Go.aN
open Go
section
variable {P:Program} {G:bc} {f:FuncId} {args:List aD} {t:TypeId} {σ:Heap} {R:aD→Heap→Prop}
theorem dN.zkf(h:dN P G f args σ 1 R){Q:aD→List aD→Prop}(fl: ∀r b0,R r b0→∃v ly cs,aE b0 0=some (.box t ly)∧fW ly cs∧e7 cs=true∧Sub r v∧fJ v=true∧Q v cs):
 dN P G f args σ 1 fun v b0=>∃cs,b0=[(0,.box t cs)]∧Q v cs:=by
 intro w β ro ei aa ae au aR bN
 refine Calls.mono (h w β ro ei aa ae au aR bN) fun e w' ⟨v,r,b0,dU,ro',cS,he,ag,dG,hR,cN⟩=>?_
 obtain⟨u,ly,cs,ah,gE,ak,hu,O8,aK⟩:=fl r b0 ag
 have yO: ∀{id:Nat} {o:ew},aE [(0,ew.box t cs)] id=some o→id=0∧o= .box t cs:=fun {id o} ah=>by
  simp only[aE]at ah
  split at ah
  ·rename_i hi;cases ah;exact⟨hi.symm,rfl⟩
  ·cases ah
 have own: ∀b,Own [(0,ew.box t cs)] dU b→Own b0 dU b:=fun b ⟨id,o,sf,_,ad⟩=>by
  obtain⟨rfl,rfl⟩:=yO sf;exact⟨0,_,ah,rfl,ad⟩
 refine⟨v,u,[(0,.box t cs)],dU,ro',cS,he,⟨cs,rfl,aK⟩,n5 (hu _ _ _ _ _ _ dG) O8,⟨fun id o sf=>?_,fun id gv o cG b sf zkg _ _ _ _=>?_,fun b ad ao=>hR.fo b ad (own b ao),hR.lt⟩,
  ⟨cN.os,cN.tape,cN.output,cN.size,cN.frame,cN.jo,cN.j9,fun b ad=>cN.hp b (own b ad),fun id bj o sf=>?_,fun id o sf=>?_,cN.le⟩⟩
 ·obtain⟨rfl,rfl⟩:=yO sf
  have du:=hR.dh 0 _ ah
  cases du with
  |box _ _ b arr aB bl cx eR=>
   refine .box t cs b arr aB bl (by rw[cx,gE.at.1]) fun j x af=>?_
   obtain⟨y,ay,ai⟩:=gE.at.2 j x af;exact n5 (ai _ _ _ _ _ _ (eR j y ay)) (nc ak af)
 ·rw[(yO sf).1,(yO zkg).1]
 ·obtain⟨rfl,rfl⟩:=yO sf
  exact cN.dT 0 bj _ ah
 ·obtain⟨rfl,rfl⟩:=yO sf
  exact cN.new 0 _ ah
end
def tP(t:TypeId)(c:bR)(n:Nat):ar:=⟨.emp,[(0,.dv t (iW c 0 0 (eV c)))],1,n+1,[]⟩
def Pt(t:TypeId)(c:bR)(rs:List aW)(C:ar):Option (List ab):=
 match dm C.h 0 with
 |some (.dv bL l)=>match(Nat.beq bL t&&hz (eV c) l)&&(Pn rs (C.at 0)&&tL (vX rs (C.at 0)))with
  |true=>match sd C rs (vX rs (C.at 0))with
   |some xs=>some (.cr l::xs)
   |none=>none
  |false=>none
 |_=>none
def Pu(t:TypeId)(c:bR)(rs:List aW)(C:ar):Bool:=(Pt t c rs C).isSome
def WO(t:TypeId)(c:bR)(rs:List aW)(C:ar)(e:Env):(fg (.st c::rs)).den:=
 match Pt t c rs C with
 |some l=>ch (.st c::rs) (gH e (.st c::rs) l)
 |none=>(fg (.st c::rs)).fC
def GI(M:List aS)(T:aC)(t:TypeId)(c:bR)(rs:List aW)(e:Env):(fg (.st c::rs)).den:=T.kr M e (fun _ C az=>WO t c rs C az) (fg (.st c::rs)).fC
section
variable {P:Program} {G:bc} {M:List aS} {inl:Nat→List ab→ar→aC}
theorem zkh{c:bR}{i k:Nat}(h:i<k):ab.cV k (iW c i 0 (eV c))=true:=Gx h
theorem zki{rs:List aW}{S:ar}{e:Env}{xs:List ab}(aH:Pn rs (S.at 0)=true)(gh:tL (vX rs (S.at 0))=true)(h:sd S rs (vX rs (S.at 0))=some xs):
 Sub ((S.at 0).den G e) (match(gH e rs xs).map aF.ft with|[v]=>v|l=>.tuple l):=by
 obtain⟨cg,_,a3,a4⟩:=yM (G:=G) (e:=e) h
 rw[a3 gh]at cg
 match rs,cg,a4,aH with
 |[r],cg,a4,aH=>
  obtain⟨d,pn,ax,aa,ae⟩:=lS a4
  cases mF ae
  rw[ax]at cg⊢;simp only[vX,ab.bX,List.map_cons,List.map_nil]at cg⊢
  cases cg with
  |cons h _=>exact h
 |[],cg,a4,aH=>
  cases ax:S.at 0 with
  |tp m=>
   rw[ax]at cg;rw[mF a4]at cg⊢;exact cg.tuple
  |_=>rw[ax]at aH;cases aH
 |r::s::q,cg,a4,aH=>
  cases ax:S.at 0 with
  |tp m=>
   rw[ax]at cg
   have aq:=congrArg List.length a4
   simp only[List.length_map,List.length_cons]at aq;generalize gH e (r::s::q) xs=ds at cg aq⊢
   match ds,aq with
   |d::d2::ds,_=>exact cg.tuple
  |_=>rw[ax]at aH;cases aH
theorem WQ(b1:fT P G M inl){f:Nat}{t:TypeId}{c:bR}{ps rs:List aW}{pre:Option ((fg (.st c::ps)).den→Prop)}{oz:(fg (.st c::ps)).den→(fg (.st c::rs)).den}(T:aC)(aH:inl f (.ej 0 0::hE 1 ps) (tP t c ps.length)=T)
 (he:T.gB.all (Pu t c rs)=true)(ai: ∀x,lz pre x→T.safe M (gC 0 (dE (.st c::ps) x)))(hm: ∀x,GI M T t c rs (gC 0 (dE (.st c::ps) x))=oz x):j8 P G f t ⟨.st c::ps,.st c::rs,pre,oz⟩:=fun x hx=>by
 subst aH
 obtain⟨d0,tO,nf,oE,hdr⟩:=lS (tM (rs:=.st c::ps) (x:=x))
 obtain⟨zkd,di⟩:=d0
 simp only at oE
 subst oE
 have aq:tO.length=ps.length:=by have:=congrArg List.length hdr;rw[List.length_map]at this;exact this
 have ad:(tP t c ps.length).cB:=⟨fun i x hi=>by simp[tP,bd.get]at hi,by
  show(ab.cV (ps.length+1) (iW c 0 0 (eV c))&&true)=true;rw[zkh (Nat.succ_pos _)]
  rfl,rfl⟩
 have h:=b1 f (.ej 0 0::hE 1 ps) (tP t c ps.length) (gC 0 (dE (.st c::ps) x)) ad (by
  show(true&&ab.cV (ps.length+1) (hE 1 ps))=true;rw[Cc (by omega)]
  rfl) (fun c hc=>by cases hc) (ai x hx)
 have eQ: ∀j d,(⟨.st c,di⟩::tO)[j]? =some d→Env.at (gC 0 (dE (.st c::ps) x)) j=d:=fun j d af=>by
  have:=Pm (ds:=dE (.st c::ps) x) (i:=0) (j:=j) (d:=d) (by rw[nf];exact af)
  rwa[Nat.zero_add]at this
 have hd:ab.bX G (gC 0 (dE (.st c::ps) x)) (hE 1 ps)=tO.map aF.ft:=Cb hdr fun j d af=>by rw[Nat.add_comm];exact eQ (j+1) d (by simpa using af)
 have nY:cF G (gC 0 (dE (.st c::ps) x)) (tP t c ps.length).h=[(0,.box t ((ck c di).map .av))]:=by
  have aJ:=eQ 0 ⟨.st c,di⟩ rfl
  simp only[tP,cF,bO.den];rw[tc,aJ,cH]
 have h8:ab.bX G (gC 0 (dE (.st c::ps) x)) (.ej 0 0::hE 1 ps)= .ptr 0 0::tO.map aF.ft:=by
  show aD.ptr 0 0::_=_;rw[hd]
 rw[h8,nY]at h
 show dN P G f (.ptr 0 0::(dE (.st c::ps) x).tail.map aF.ft) [(0,.box t (yN (dE (.st c::ps) x)))] 1 _
 rw[nf]
 refine dN.zkf (Q:=fun v cs=>v=GB (dE (.st c::rs) (oz x))∧cs=yN (dE (.st c::rs) (oz x))) h fun r b0 ag=>?_
 obtain⟨aU,az,cA,rfl,rfl,_⟩:=ag
 have mi:=WH he cA
 obtain⟨l,mz⟩:=Option.isSome_iff_exists.1 mi
 have sV:=hm x
 unfold GI at sV
 rw[mR,km cA]at sV
 unfold WO at sV
 rw[mz]at sV
 simp only at sV
 unfold Pt at mz
 split at mz
 rotate_left
 ·cases mz
 rename_i bL Ev ah
 split at mz
 rotate_left
 ·cases mz
 rename_i hc
 simp only[Bool.and_eq_true]at hc
 obtain⟨⟨aM,dg⟩,cn,gr⟩:=hc
 have aM:=Nat.eq_of_beq_eq_true aM
 subst aM
 split at mz
 rotate_left
 ·cases mz
 rename_i xs n3
 cases mz
 obtain⟨_,_,_,a4⟩:=yM (G:=G) (e:=az) n3
 have vU:(gH az (.st c::rs) (.cr Ev::xs)).map aF.r= .st c::rs:=by simp only[gH,List.map_cons,a4]
 rw[←sV,yL vU]
 exact⟨_,_,_,by rw[er,ah];rfl,Bc dg,Eg _,zki cn gr n3,by
  have ak:=Gv (gH az rs xs)
  split
  ·rename_i v ax
   rw[ax]at ak;simpa[e7]using ak
  ·exact ak,rfl,rfl⟩
theorem xd(b1:fT P G M inl){f:Nat}{t:TypeId}{c:bR}{ps rs:List aW}{oz:(fg (.st c::ps)).den→(fg (.st c::rs)).den}(T:aC)(aH:inl f (.ej 0 0::hE 1 ps) (tP t c ps.length)=T)
 (he:(T.clean&&T.gB.all (Pu t c rs))=true)(hm: ∀x,GI M T t c rs (gC 0 (dE (.st c::ps) x))=oz x):j8 P G f t ⟨.st c::ps,.st c::rs,none,oz⟩:=by
 simp only[Bool.and_eq_true]at he
 exact WQ b1 T aH he.2 (fun _ _=>rW M he.1) hm
end
end Go.aN
namespace Go.aN
open Go Go.ChangeShapes Go.WideShapes Go.RowKit
inductive lx (P:Program):TypeId→List ba→Prop where
 |bool {t:TypeId} (b:Bool):P.underlying t=some .bool→lx P t [.v (.bool b)]
 |int {t:TypeId} {k:IntKind} (n:Int):P.underlying t=some (.int k)→(Lit.int k n).wf=true→lx P t [.v (.int k n)]
 |str {t:TypeId} (s:ByteArray):P.underlying t=some .string→s.size≤reachBytes→lx P t [.v (.string s)]
 |slice {t e:TypeId} (es:List (List ba)):P.underlying t=some (.slice e)→es.length≤maxLen∧es.length*P.bytesOf e≤reachBytes→(∀x∈es,lx P e x)→lx P t [.aP (P.cellsOf e) es]
 |struct {t:TypeId} {fs:Array Field} (parts:List (List ba)):P.underlying t=some (.struct fs)→parts.length=fs.toList.length→(∀(i:Nat) (f:Field) (p:List ba),fs.toList[i]? =some f→parts[i]? =some p→lx P f.type p)→lx P t parts.flatten
 |array {t e:TypeId} {n:Nat} (parts:List (List ba)):P.underlying t=some (.array n e)→parts.length=n→(∀p∈parts,lx P e p)→lx P t parts.flatten
theorem mapM_some{α β:Type}{f:α→Option β}: ∀{l:List α} {r:List β},l.mapM f=some r→r.length=l.length∧∀(i:Nat) (x:α),l[i]? =some x→∃y,f x=some y∧r[i]? =some y
 |[],r,h=>by
  simp at h;subst h;exact⟨rfl,by simp⟩
 |a::l,r,h=>by
  rw[List.mapM_cons]at h
  cases aY:f a with
  |none=>simp[aY]at h
  |some b=>
   cases aq:l.mapM f with
   |none=>simp[aY,aq]at h
   |some cM=>
    simp[aY,aq]at h;subst h;obtain⟨aa,ae⟩:=mapM_some aq;refine⟨by simp[aa],fun i x hx=>?_⟩
    cases i with
    |zero=>simp at hx;subst hx;exact⟨b,aY,rfl⟩
    |succ i=>simpa using ae i x (by simpa using hx)
section
variable {H:Type} {enc:TypeId × Value→H} {P:Program} {w:World}
abbrev l7(w:World):Nat→Prop:=fun b=>b<w.heap.size
theorem Qa{a:Addr}{c:Value}(h:w.cell? a=some c):a.block<w.heap.size:=by
 rcases Nat.lt_or_ge a.block w.heap.size with aa|aa
 ·exact aa
 ·exfalso
  have:w.heap[a.block]? =none:=Array.getElem?_eq_none aa
  simp[World.cell?,this]at h
def Fits(P:Program)(w:World)(t:TypeId)(cs:List Value):Prop:=∃rs,lx P t rs∧rs.length=cs.length∧∀j r,rs[j]? =some r→cZ w (l7 w) r (cs.getD j undef)
theorem WR: ∀(fs:List Field) (off:Nat) (cs:List Value),(∀(j:Nat) (f:Field),fs[j]? =some f→f.offset=off+((fs.take j).map fun f=>P.cellsOf f.type).sum)→
 (∀f∈fs,Fits P w f.type ((cs.drop f.offset).take (P.cellsOf f.type)))→off+(fs.map fun f=>P.cellsOf f.type).sum≤cs.length→
 ∃parts:List (List ba),parts.length=fs.length∧(∀(i:Nat) (f:Field) (p:List ba),fs[i]? =some f→parts[i]? =some p→lx P f.type p)∧parts.flatten.length=(fs.map fun f=>P.cellsOf f.type).sum∧
  ∀j r,parts.flatten[j]? =some r→cZ w (l7 w) r (cs.getD (off+j) undef)
 |[],off,cs,_,_,_=>⟨[],rfl,by simp,by simp,by simp⟩
 |f::fs,off,cs,ao,hf,aq=>by
  have aJ:f.offset=off:=by have:=ao 0 f rfl;simpa using this
  obtain⟨rs,aa,ae,au⟩:=hf f (by simp)
  simp only[List.map_cons,List.sum_cons]at aq
  have hlen:rs.length=P.cellsOf f.type:=by rw[ae,aJ];simp;omega
  obtain⟨parts,g1,g2,g3,g4⟩:=WR fs (off+P.cellsOf f.type) cs (fun j q aK=>by
   have:=ao (j+1) q (by simpa using aK)
   simp only[List.take_succ_cons,List.map_cons,List.sum_cons]at this
   omega) (fun q aK=>hf q (by simp[aK])) (by omega)
  refine⟨rs::parts,by simp[g1],fun i q p aK ak=>?_,by simp[g3,hlen],fun j r af=>?_⟩
  ·cases i with
   |zero=>
    simp at aK ak;subst aK;subst ak;exact aa
   |succ i=>exact g2 i q p (by simpa using aK) (by simpa using ak)
  ·rw[List.flatten_cons]at af
   by_cases cW:j<rs.length
   ·rw[List.getElem?_append_left cW]at af
    have:=au j r af
    have AA:j<P.cellsOf f.type:=by omega
    rw[aJ]at this;simpa[List.getD,List.getElem?_take,List.getElem?_drop,AA]using this
   ·rw[List.getElem?_append_right (by omega)]at af
    have:=g4 _ r af
    rw[show off+P.cellsOf f.type+(j-rs.length)=off+j from by omega]at this
    exact this
theorem Pv{e:TypeId}(n:Nat): ∀(k:Nat) (Cj:Nat→List Value),(∀i,i<k→Fits P w e (Cj i)∧(Cj i).length=n)→
 ∃es:List (List ba),es.length=k∧(∀x∈es,lx P e x∧x.length=n)∧∀j r,es.flatten[j]? =some r→cZ w (l7 w) r ((Cj (j/ n)).getD (j%n) undef)
 |0,_,_=>⟨[],rfl,by simp,by simp⟩
 |k+1,Cj,h=>by
  obtain⟨⟨rs,aa,ae,au⟩,hn⟩:=h 0 (by omega)
  obtain⟨es,g1,g2,g3⟩:=Pv n k (fun i=>Cj (i+1)) fun i hi=>h (i+1) (by omega)
  refine⟨rs::es,by simp[g1],fun x hx=>?_,fun j r af=>?_⟩
  ·rcases List.mem_cons.1 hx with rfl|hx
   ·exact⟨aa,by omega⟩
   ·exact g2 x hx
  ·rw[List.flatten_cons]at af
   by_cases cW:j<rs.length
   ·rw[List.getElem?_append_left cW]at af
    have mY:j<n:=by omega
    rw[Nat.div_eq_of_lt mY,Nat.mod_eq_of_lt mY];exact au j r af
   ·rw[List.getElem?_append_right (by omega)]at af
    have:=g3 _ r af
    have yP:0<n:=by
     rcases Nat.eq_zero_or_pos n with aJ|aJ
     ·exfalso
      have mq:es.flatten.length=es.length*n:=ka fun x hx=>(g2 x hx).2
      have:=(List.getElem?_eq_some_iff.1 af).1
      rw[mq,aJ]at this;simp at this
     ·exact aJ
    have aB:j-rs.length=j-n:=by omega
    rw[aB]at this
    have bl:(j-n)/ n+1=j/ n:=(Nat.div_eq_sub_div yP (by omega)).symm
    have cx:(j-n)%n=j%n:=(Nat.mod_eq_sub_mod (by omega)).symm
    simp only[bl,cx]at this;exact this
theorem Ck{t:TypeId}{r:ba}{c:Value}(h:lx P t [r])(ag:cZ w (l7 w) r c):Fits P w t [c]:=
 ⟨[r],h,rfl,fun j x af=>by
  cases j with
  |zero=>simp at af;subst af;exact ag
  |succ j=>simp at af⟩
theorem WS{base:Nat}{a:Addr}{n:Nat}{l:List Value}(h:w.cells? base a n=some l):l.length=n∧∀i,i<n→w.cell? (a.add i)=l[i]? :=by
 unfold World.cells? at h
 split at h
 ·obtain⟨aa,ae⟩:=mapM_some h
  refine⟨by simpa using aa,fun i hi=>?_⟩
  obtain⟨y,ay,aq⟩:=ae i i (by simp[hi])
  rw[aq,ay]
 ·cases h
theorem Pw{e:TypeId}: ∀{l:List (DataW H)} {d:DataW H},d∈l→∀n∈d.weights P e,n∈DataW.weightsAll P e l
 |d0::l,d,hd,n,hn=>by
  simp only[DataW.weightsAll,List.mem_append]
  rcases List.mem_cons.1 hd with rfl|hd
  ·exact .inl hn
  ·exact .inr (Pw hd n hn)
theorem Fits.agg{t:TypeId}{cs:Array Value}(h:Fits P w t cs.toList){β:Nat→Value}{N:Nat}: ∃rs,lx P t rs∧bG w (l7 w) [] β N (.agg (zfX rs)) (.agg cs):=by
 obtain⟨rs,aa,ae,au⟩:=h
 refine⟨rs,aa,.agg _ cs (by simpa using ae.symm) fun j x af=>?_⟩
 rw[List.getElem?_map]at af
 cases ag:rs[j]? with
 |none=>simp[ag]at af
 |some r=>
  simp[ag]at af;subst af
  have:=au j r ag
  exact .av _ _ (by simpa[List.getD,Array.getD_eq_getD_getElem?]using this)
theorem Fits.one{t:TypeId}{v:Value}(h:Fits P w t v.cells.toList)(ax:v.cells= #[v]){β:Nat→Value}{N:Nat}: ∃r,lx P t [r]∧bG w (l7 w) [] β N (.av r) v:=by
 obtain⟨rs,aa,ae,au⟩:=h
 rw[ax]at ae
 match rs,ae,aa,au with
 |[r],_,aa,au=>
  have:=au 0 r rfl
  rw[ax]at this;exact⟨r,aa,.av _ _ (by simpa using this)⟩
def fieldTypes(P:Program)(t:TypeId):Option (List TypeId):=
 match P.underlying t with
 |some (.struct fs)=>some (fs.toList.map (·.type))
 |_=>none
def Px(P:Program)(t:TypeId):Bool:=
 match P.underlying t with
 |some .bool=>true
 |some (.int _)=>true
 |some .string=>true
 |some (.slice _)=>true
 |_=>false
theorem zkj{r:Reach}{oq:Nat}{t:TypeId}{v:Value}(h:Value.okWide P w r oq t v)(ai:Px P t=true):v.cells= #[v]:=by
 unfold Px at ai
 split at ai
 ·rename_i hu
  simp only[Value.okWide,hu,Cell.okWide,Cell.ok]at h
  cases v<;>first|rfl|exact h.elim
 ·rename_i hu
  simp only[Value.okWide,hu,Cell.okWide,Cell.ok]at h
  cases v<;>first|rfl|exact h.elim
 ·rename_i hu
  simp only[Value.okWide,hu,Cell.okWide,Cell.ok]at h
  cases v<;>first|rfl|exact h.elim
 ·rename_i hu
  simp only[Value.okWide,hu,Cell.okWide,Cell.ok]at h
  cases v<;>first|rfl|exact h.elim
 ·cases ai
theorem zkk{r:Reach}{oq:Nat}{t:TypeId}{v:Value}(h:Value.okWide P w r oq t v)(ai:(fieldTypes P t).isSome=true): ∃cs,v= .agg cs:=by
 unfold fieldTypes at ai
 split at ai
 ·rename_i hu
  simp only[Value.okWide,hu]at h;obtain⟨cs,rfl,_⟩:=h;exact⟨cs,rfl⟩
 ·cases ai
theorem XA{t e n:Nat}{cs:List Value}{d:DataW H}{ps:List MemPlace}{fuel base:Nat}{sp:Nat→Bool}{held:Bool}(K:Kids P (· < P.types.size))(da:t<P.types.size)(hu:P.underlying t=some (.array n e))(he:P.underlying e=some .string)(hc:P.cellsOf e=1)
 (h:DataW.trod enc P w base sp held fuel t cs=some (d,ps)): ∃l:List ByteArray,cs=l.map Value.string∧d= .agg (l.map fun s=>.lit (.string s.data.toList)):=by
 obtain⟨xs,q,rfl,hx,js,jQ,eQ⟩:=DataW.trod_array hu h
 have WT:cs.length=n:=by rw[js,(K.array da hu).2,hc,Nat.mul_one]
 have o5: ∀i (hi:i<n),∃s:ByteArray,cs[i]? =some (.string s)∧(xs[i]?).map (·.1)=some (.lit (.string s.data.toList)):=by
  intro i hi
  have aa:=eQ i hi
  have vQ:i<xs.length:=by omega
  rw[List.getElem?_eq_getElem vQ]at aa
  obtain⟨s,ae,au,_⟩:=DataW.trod_string he aa;rw[hc,Nat.mul_one]at ae;refine⟨s,?_,by rw[List.getElem?_eq_getElem vQ,Option.map_some,au]⟩
  have:=congrArg (·[0]?) ae
  simpa[List.getElem?_take,List.getElem?_drop]using this
 have key: ∀(m:Nat),m≤n→∃l:List ByteArray,cs.take m=l.map Value.string∧(xs.take m).map (·.1)=l.map fun s=>.lit (.string s.data.toList):=by
  intro m
  induction m with
  |zero=>intro _;exact⟨[],by simp,by simp⟩
  |succ m aZ=>
   intro hm;obtain⟨l,aa,ae⟩:=aZ (by omega)
   obtain⟨s,g1,g2⟩:=o5 m (by omega)
   refine⟨l++[s],?_,?_⟩
   ·rw[List.take_add_one,aa,g1];simp
   ·rw[List.take_add_one,List.map_append,ae,List.map_append]
    cases fA:xs[m]? with
    |none=>rw[fA]at g2;cases g2
    |some y=>rw[fA]at g2;simp at g2;simp[g2]
 obtain⟨l,aa,ae⟩:=key n (Nat.le_refl _)
 rw[List.take_of_length_le (by omega)]at aa ae
 simp only[Prod.mk.injEq]at hx
 exact⟨l,aa,by rw[hx.1,ae]⟩
theorem XB{l m:List ByteArray}(h:(l.map fun s=>(DataW.lit (H:=H) (.string s.data.toList)))=m.map fun s=>.lit (.string s.data.toList)):l=m:=by
 induction l generalizing m with
 |nil=>cases m with
  |nil=>rfl
  |cons=>simp at h
 |cons a l aZ=>cases m with
  |nil=>simp at h
  |cons b m=>
   simp only[List.map_cons,List.cons.injEq,DataW.lit.injEq,Lit.string.injEq]at h;obtain⟨aa,ae⟩:=h
   have:a=b:=by
    cases a;cases b
    simp only[ByteArray.mk.injEq];exact Array.ext' aa
   rw[this,aZ ae]
theorem zkl{w':World}{p:MemPlace}(ak:p.block<w.heap.size)(h: ∀b,b<w.heap.size→w'.heap[b]? =w.heap[b]?):w.sameAt w' p:=by
 cases p with
 |cell b off=>exact World.cell?_of_block (a:=⟨b,off,none⟩) (h b ak)
 |map b=>exact h b ak
theorem WU{w':World}(h: ∀b,b<w.heap.size→w'.heap[b]? =w.heap[b]?){base:Nat}{sp:Nat→Bool}{held:Bool}: ∀{ts:List TypeId} {vs:List Value} {ds:List (DataW H)} {ps:List MemPlace},DataW.TrodAll enc P w base sp held ts vs ds ps→DataW.TrodAll enc P w' base sp held ts vs ds ps
 |[],[],[],_,h=>h
 |_::_,_::_,_::_,_,⟨p,q,⟨n,hn⟩,ae,e⟩=>
  ⟨p,q,⟨n,DataW.trod_carry n _ _ _ hn fun x hx=>zkl (DataW.trod_lt n _ _ _ hn x hx) h⟩,WU h ae,e⟩
theorem zkm{w':World}{may:MemPlace→Prop}(aa:w'.os=w.os)(ae:w'.output=w.output)(h: ∀b,b<w.heap.size→w'.heap[b]? =w.heap[b]?):w.keptBut w' may:=by
 refine⟨aa,ae,fun i hi=>?_⟩
 rw[h i hi]
 cases hw:w.heap[i]? with
 |none=>rfl
 |some o=>
  cases o with
  |cells c t tT=>exact⟨rfl,rfl,rfl,fun _ _=>rfl⟩
  |map es clock=>exact .inr ⟨rfl,rfl⟩
  |_=>rfl
theorem zkn{G:bc}{f:FuncId}{fn:Func}{s:ChangeSpec}{args:Array Value}{ds gs:List (DataW H)}{before:List MemPlace}{tb:TypeId}{avs':List aD}{β:Nat→Value}
 (ic:DataW.Whole enc P fn.params.toList s.vars false w args.toList ds gs before)(ax:s.vars=[])(ai:s.fn H (ds++gs)={results:=[.lit (.bool true)],args:=ds})(rC:fn.resultTypes= #[tb])(Py:P.underlying tb=some .bool)
 (K:Kids P (· < P.types.size))(aT: ∀t e,t<P.types.size→P.underlying t=some (.slice e)→0<P.cellsOf e)(uO: ∀t∈fn.params.toList,t<P.types.size)
 (hlen:args.size=avs'.length)(h8: ∀i x,avs'[i]? =some x→bG w (l7 w) [] β 0 x (args.getD i undef))(k3:so w (l7 w) G)(hc:dN P G f avs' [] 0 fun r b0=>r=tW true∧b0=[]):
 Calls P f args w fun e w'=>∃v,e= .returned v∧s.post enc P fn false true false false w args v w':=by
 refine Calls.mono (hc w β (l7 w) args hlen h8 ⟨by simp[aE],by simp[aE],fun b _ ⟨_,_,ah,_⟩=>by simp[aE]at ah,fun b ad=>ad⟩ k3 (by simp[aE])) fun e w' aK=>?_
 obtain⟨v,r,eZ,dU,ro',cS,rfl,⟨rfl,rfl⟩,dG,_,aH⟩:=aK
 obtain rfl:=bG.val dG
 have a6: ∀b,b<w.heap.size→w'.heap[b]? =w.heap[b]? :=fun b ad=>aH.frame b ad fun⟨_,_,ah,_⟩=>by simp[aE]at ah
 refine⟨_,rfl,ds,gs,before,[],before,[],ic,?_,?_,?_,zkm aH.os aH.output a6,fun h=>by cases h⟩
 ·rw[ai,rC]
  exact trodAll_mk1 (shut_bool Py true)
 ·rw[ai]
  have bM: ∀p∈before,(fun b=>decide (b<w.heap.size)) p.block=true:=fun p ak=>by simpa using ic.lt p ak
  obtain⟨p,q,aa,ae,rfl,_⟩:=ic;rw[ax]at ae
  have aK:q=[]:=by
   cases gs with
   |nil=>exact ae
   |cons=>cases ae
  subst aK;rw[List.append_nil]at bM⊢;exact WU a6 (aa.respare K aT uO bM)
 ·rw[ai,ax]
  rfl
end
end Go.aN
namespace Go.aN
open Go Go.ChangeShapes Go.WideShapes
def yQ:List (Option (List aW))→Option (List aW)
 |[]=>some []
 |none::_=>none
 |some l::r=>match yQ r with
  |some m=>some (l++m)
  |none=>none
def Cl:List aW→List aW→Bool
 |[],[]=>true
 |a::l,b::m=>hV a b&&Cl l m
 |_,_=>false
theorem Pz: ∀{l m:List aW},Cl l m=true→l=m
 |[],[],_=>rfl
 |[],_::_,h=>by cases h
 |_::_,[],h=>by cases h
 |a::l,b::m,h=>by
  simp only[Cl,Bool.and_eq_true]at h;rw[hy h.1,Pz h.2]
def jb(P:Program)(T:List (Nat × bR)):Nat→TypeId→Option (List aW)
 |0,_=>none
 |n+1,t=>match P.underlying t with
  |some .bool=>some [.bool]
  |some (.int k)=>some [.int k]
  |some .string=>some [.str]
  |some (.slice e)=>match pC T e with
   |some c=>match Nat.beq (P.cellsOf e) (b4 c)with
    |true=>some [.li c]
    |false=>none
   |none=>none
  |some (.array k e)=>yQ (List.replicate k (jb P T n e))
  |some (.struct fs)=>yQ (fs.toList.map fun f=>jb P T n f.type)
  |_=>none
def Cm(P:Program)(T:List (Nat × bR)):Bool:=T.all fun q=>match jb P T 20 q.1 with
 |some l=>Cl l (eV q.2)
 |none=>false
inductive lC:aF→Prop where
 |int (k:IntKind) (x:Int):(Lit.int k x).wf=true→lC ⟨.int k,x⟩
 |bool (b:Bool):lC ⟨.bool,b⟩
 |str (s:ByteArray):s.size≤reachBytes→lC ⟨.str,s⟩
 |li (c:bR) (l:List (fS c)):l.length≤maxLen→(∀x∈l,∀d∈lR c x,lC d)→lC ⟨.li c,l⟩
inductive sg:List (List ba)→List (List ba)→Prop where
 |nil:sg [] []
 |cons {x y:List ba} {xs ys:List (List ba)}:gd x y→sg xs ys→sg (x::xs) (y::ys)
theorem sg.flat{xs ys:List (List ba)}(h:sg xs ys):gd xs.flatten ys.flatten:=by
 induction h with
 |nil=>exact .nil
 |cons h _ aZ=>rw[List.flatten_cons,List.flatten_cons];exact h.append aZ
theorem sg.len{xs ys:List (List ba)}(h:sg xs ys):xs.length=ys.length:=by
 induction h with
 |nil=>rfl
 |cons h _ aZ=>simp[aZ]
theorem zko{c:bR}{n:Nat}{es:List (List ba)}{l:List (fS c)}(hn:n=b4 c)(h:sg es (l.map (ck c))):lT (.aP n es) (.li c l):=by
 subst hn
 intro w ro v ag
 refine .li _ _ _ ?_
 cases ag with
 |aP _ _ b cap zkp aa ae au aR bN=>
  have hlen:(l.map (ck c)).length=es.length:=h.len.symm
  rw[←hlen];refine .aP _ _ b cap zkp (by omega) ae (fun e he=>?_) (fun ak=>?_) fun j y af=>?_
  ·obtain⟨x,_,rfl⟩:=List.mem_map.1 he
   exact EA c x
  ·rw[hlen]at ak⊢
   exact aR ak
  ·obtain⟨x,hx,ai⟩:=h.flat.at.2 j y af
   exact ai _ _ _ (bN j x hx)
section
variable {P:Program} {T:List (Nat × bR)}
theorem PA{n:Nat}: ∀(ts:List TypeId) (parts:List (List ba)) {l:List aW},parts.length=ts.length→(∀(i:Nat) (t:TypeId) (p:List ba),ts[i]? =some t→parts[i]? =some p→∀{l:List aW},jb P T n t=some l→∃ds:List aF,ds.map aF.r=l∧gd p (ds.map aF.av)∧∀d∈ds,lC d)→yQ (ts.map (jb P T n))=some l→
 ∃ds:List aF,ds.map aF.r=l∧gd parts.flatten (ds.map aF.av)∧∀d∈ds,lC d
 |[],parts,l,aq,_,hc=>by
  cases List.eq_nil_of_length_eq_zero aq
  cases hc;exact⟨[],rfl,.nil,by simp⟩
 |t::ts,[],l,aq,_,_=>by cases aq
 |t::ts,p::parts,l,aq,ai,hc=>by
  simp only[List.map_cons]at hc
  cases aa:jb P T n t with
  |none=>rw[aa]at hc;cases hc
  |some nR=>
   rw[aa]at hc;simp only[yQ]at hc
   cases ae:yQ (ts.map (jb P T n))with
   |none=>rw[ae]at hc;cases hc
   |some re=>
    rw[ae]at hc;cases hc;obtain⟨d1,cg,a2,a3⟩:=ai 0 t p rfl rfl aa;obtain⟨d2,gZ,jt,hX⟩:=PA ts parts (by simpa using aq) (fun i t p hi ak=>ai (i+1) t p (by simpa using hi) (by simpa using ak)) ae
    refine⟨d1++d2,by simp[cg,gZ],by rw[List.flatten_cons,List.map_append];exact a2.append jt,fun d hd=>?_⟩
    rcases List.mem_append.1 hd with hd|hd
    ·exact a3 d hd
    ·exact hX d hd
theorem WV{c:bR}: ∀(es:List (List ba)),(∀x∈es,∃ds:List aF,ds.map aF.r=eV c∧gd x (ds.map aF.av)∧∀d∈ds,lC d)→∃l:List (fS c),sg es (l.map (ck c))∧∀x∈l,∀d∈lR c x,lC d
 |[],_=>⟨[],.nil,by simp⟩
 |x::es,h=>by
  obtain⟨ds,cg,a2,a3⟩:=h x (by simp)
  obtain⟨l,gZ,jt⟩:=WV es fun y ay=>h y (by simp[ay])
  have hc:lR c (ph c ds)=ds:=EC c ds cg
  refine⟨ph c ds::l,.cons (by unfold ck;rw[hc];exact a2) gZ,fun y ay d hd=>?_⟩
  rcases List.mem_cons.1 ay with rfl|ay
  ·rw[hc]at hd
   exact a3 d hd
  ·exact jt y ay d hd
theorem WW: ∀{T:List (Nat × bR)} {e:Nat} {c:bR},pC T e=some c→(e,c)∈T
 |(x,d)::r,e,c,h=>by
  unfold pC at h
  split at h
  ·rename_i hx
   cases h;rw[←Nat.eq_of_beq_eq_true hx];exact List.mem_cons_self
  ·exact List.mem_cons_of_mem _ (WW h)
theorem zkq(fQ:Cm P T=true){e:TypeId}{c:bR}(h:pC T e=some c):jb P T 20 e=some (eV c):=by
 have:=List.all_eq_true.1 fQ _ (WW h)
 simp only at this
 split at this
 ·rename_i l aq
  rw[aq,Pz this]
 ·cases this
theorem WX(fQ:Cm P T=true){t:TypeId}{rs:List ba}(h:lx P t rs): ∀(n:Nat) {l:List aW},jb P T n t=some l→∃ds:List aF,ds.map aF.r=l∧gd rs (ds.map aF.av)∧∀d∈ds,lC d:=by
 induction h with
 |bool b hu=>
  intro n l hf
  cases n with
  |zero=>cases hf
  |succ n=>
   unfold jb at hf;rw[hu]at hf;cases hf;exact⟨[⟨.bool,b⟩],rfl,.cons (lT.refl _) .nil,fun d hd=>by cases List.mem_singleton.1 hd;exact .bool b⟩
 |int x hu hw=>
  intro n l hf
  cases n with
  |zero=>cases hf
  |succ n=>
   unfold jb at hf;rw[hu]at hf;cases hf;exact⟨[⟨.int _,x⟩],rfl,.cons (lT.refl _) .nil,fun d hd=>by cases List.mem_singleton.1 hd;exact .int _ _ hw⟩
 |str s hu hw=>
  intro n l hf
  cases n with
  |zero=>cases hf
  |succ n=>
   unfold jb at hf;rw[hu]at hf;cases hf;exact⟨[⟨.str,s⟩],rfl,.cons (lT.refl _) .nil,fun d hd=>by cases List.mem_singleton.1 hd;exact .str _ hw⟩
 |slice es hu aq hw aZ=>
  intro n l hf
  cases n with
  |zero=>cases hf
  |succ n=>
   unfold jb at hf;rw[hu]at hf;simp only at hf
   split at hf
   ·rename_i c ae
    split at hf
    ·rename_i hc
     cases hf;obtain⟨l,cg,a2⟩:=WV (c:=c) es fun x hx=>aZ x hx 20 (zkq fQ ae);refine⟨[⟨.li c,l⟩],rfl,.cons (zko (Nat.eq_of_beq_eq_true hc) cg) .nil,fun d hd=>?_⟩
     cases List.mem_singleton.1 hd
     exact .li _ _ (by have:=cg.len;rw[List.length_map]at this;have:=aq.1;omega) a2
    ·cases hf
   ·cases hf
 |struct parts hu aa ae aZ=>
  intro n l hf
  cases n with
  |zero=>cases hf
  |succ n=>
   unfold jb at hf;rw[hu]at hf;simp only at hf;rename_i fs
   have hm:(fs.toList.map fun f=>jb P T n f.type)=(fs.toList.map (·.type)).map (jb P T n):=by rw[List.map_map];rfl
   rw[hm]at hf
   exact PA _ parts (by rw[List.length_map];exact aa) (fun i u p hi ak l aq=>by
    rw[List.getElem?_map]at hi
    cases PB:fs.toList[i]? with
    |none=>rw[PB]at hi;cases hi
    |some f=>
     rw[PB]at hi;cases hi
     exact aZ i f p PB ak n aq) hf
 |array parts hu aa ae aZ=>
  intro n l hf
  cases n with
  |zero=>cases hf
  |succ n=>
   unfold jb at hf;rw[hu]at hf;simp only at hf;rename_i e k
   have hm:List.replicate k (jb P T n e)=(List.replicate k e).map (jb P T n):=by rw[List.map_replicate]
   rw[hm]at hf
   exact PA _ parts (by rw[List.length_replicate];exact aa) (fun i u p hi ak l aq=>by
    have:=List.mem_of_getElem? hi
    cases (List.mem_replicate.1 this).2
    exact aZ p (List.mem_of_getElem? ak) n aq) hf
def PC(P:Program)(T:List (Nat × bR))(t:TypeId):Option aW:=
 match(fieldTypes P t).isSome with
 |true=>match pC T t,jb P T 20 t with
  |some c,some l=>match Cl l (eV c)with
   |true=>some (.st c)
   |false=>none
  |_,_=>none
 |false=>match Px P t,jb P T 20 t with
  |true,some [r]=>match r.one with
   |true=>some r
   |false=>none
  |_,_=>none
def sh(t:Nat):List Nat→Bool
 |[]=>false
 |x::r=>Nat.beq x t||sh t r
theorem WY{t:Nat}: ∀{S:List Nat},sh t S=true→t∈S
 |x::r,h=>by
  simp only[sh,Bool.or_eq_true]at h
  rcases h with h|h
  ·rw[Nat.eq_of_beq_eq_true h];exact List.mem_cons_self
  ·exact List.mem_cons_of_mem _ (WY h)
def PD(P:Program)(S:List TypeId)(t:TypeId):Bool:=decide (t<P.types.size)&&match P.underlying t with
 |some .bool=>true
 |some (.int _)=>true
 |some .string=>true
 |some (.slice e)=>sh e S
 |some (.array _ e)=>sh e S
 |some (.struct fs)=>fs.toList.all fun f=>sh f.type S
 |_=>false
def PE(P:Program):Nat→List TypeId→List TypeId→List TypeId
 |0,S,_=>S
 |_+1,S,[]=>S
 |n+1,S,t::r=>match sh t S with
  |true=>PE P n S r
  |false=>PE P n (t::S) (match P.underlying t with
   |some (.slice e)=>e::r
   |some (.array _ e)=>e::r
   |some (.struct fs)=>fs.toList.map (·.type)++r
   |_=>r)
def PF(P:Program)(t:TypeId):Bool:=match PE P 400 [] [t]with
 |S=>sh t S&&S.all (PD P S)
def tQ(P:Program)(T:List (Nat × bR)):List TypeId→Option (List aW)
 |[]=>match Cm P T with
  |true=>some []
  |false=>none
 |t::ts=>match PF P t,PC P T t,tQ P T ts with
  |true,some r,some rs=>some (r::rs)
  |_,_,_=>none
theorem WZ: ∀{ts:List TypeId} {rs:List aW},tQ P T ts=some rs→Cm P T=true
 |[],_,h=>by
  unfold tQ at h
  split at h
  ·assumption
  ·cases h
 |_::_,_,h=>by
  unfold tQ at h
  split at h
  ·rename_i gi
   exact WZ gi
  ·cases h
def sq(d:aF):Prop:=
 match d with
 |⟨.st c,x⟩=>∀q∈lR c x,lC q
 |d=>lC d
variable {H:Type} {enc:TypeId × Value→H} {w:World}
theorem zkr(K:Kids P (· < P.types.size)){S:List TypeId}(hS:S.all (PD P S)=true): ∀(n:Nat) (t:TypeId) (cs:List Value) (x:DataW H × List MemPlace) {base:Nat} {sp:Nat→Bool} {held:Bool},sh t S=true→
 DataW.trod enc P w base sp held n t cs=some x→(∀q∈x.1.weights P t,q≤reachBytes)→Fits P w t cs:=by
 intro n
 induction n using Nat.strongRecOn with
 |ind n PG=>
 intro t cs x base sp held aH h fD
 have ak:=List.all_eq_true.1 hS t (WY aH)
 simp only[PD,Bool.and_eq_true,decide_eq_true_eq]at ak
 obtain⟨da,ak⟩:=ak
 cases hu:P.underlying t with
 |none=>rw[hu]at ak;cases ak
 |some d=>
  rw[hu]at ak
  cases d with
  |bool=>
   obtain⟨b,rfl,_⟩:=DataW.trod_bool hu h;exact Ck (.bool b hu) (.v _ rfl)
  |int k=>
   obtain⟨b,rfl,_,hw⟩:=DataW.trod_int hu h;exact Ck (.int b hu hw) (.v _ rfl)
  |string=>
   obtain⟨b,rfl,hx,hw⟩:=DataW.trod_string hu h;rw[hx]at fD;exact Ck (.str b hu (by simpa[DataW.weights]using fD)) (.v _ rfl)
  |slice e=>
   rcases DataW.trod_slice hu h with⟨rfl,_⟩|⟨a,len,cap,elems,rest,k,rfl,rfl,hx,_,hle,im,n1,eQ,_⟩
   ·exact Ck (.slice [] hu ⟨Nat.zero_le _,by simp⟩ (by simp)) (.aP _ [] none 0 (fun _=>undef) (Nat.le_refl _) (Nat.zero_le _) (by simp) (by simp) (by simp))
   ·rw[hx]at fD
    simp only[DataW.weights,hu,List.mem_cons,List.mem_append,List.length_map]at fD
    have AR:len*P.bytesOf e≤reachBytes:=Nat.le_trans (Nat.mul_le_mul_right _ (by rw[n1];exact Nat.le_add_right _ _)) (fD _ (.inl rfl))
    have W0: ∀i,i<len→∃l,w.cells? base (a.add (i*P.cellsOf e)) (P.cellsOf e)=some l∧Fits P w e l:=by
     intro i hi
     have aa:=eQ i hi
     rw[List.getElem?_eq_getElem (by omega)]at aa
     cases hc:w.cells? base (a.add (i*P.cellsOf e)) (P.cellsOf e)with
     |none=>rw[hc]at aa;cases aa
     |some l=>rw[hc]at aa;exact⟨l,rfl,PG k (Nat.lt_succ_self _) e l _ ak aa fun q aK=>fD q (.inr (.inl (Pw (List.mem_map_of_mem (List.getElem_mem _)) q aK)))⟩
    obtain⟨es,g1,g2,g3⟩:=Pv (P:=P) (w:=w) (e:=e) (P.cellsOf e) len (fun i=>(w.cells? base (a.add (i*P.cellsOf e)) (P.cellsOf e)).getD []) fun i hi=>by
     obtain⟨l,aa,ae⟩:=W0 i hi;rw[aa];exact⟨ae,(WS aa).1⟩
    have hlen:es.length=len:=g1
    refine Ck (.slice es hu ⟨by omega,by rw[hlen];exact AR⟩ fun x hx=>(g2 x hx).1) ?_
    rw[←hlen];refine .aP _ es (some a) cap (fun j=>((w.cells? base (a.add (j/ P.cellsOf e*P.cellsOf e)) (P.cellsOf e)).getD []).getD (j%P.cellsOf e) undef) (by omega) im (fun x hx=>(g2 x hx).2) (fun _=>⟨a,rfl,fun j af=>?_⟩) g3
    have yP:0<P.cellsOf e:=by
     rcases Nat.eq_zero_or_pos (P.cellsOf e)with aJ|aJ
     ·rw[aJ]at af;simp at af
     ·exact aJ
    have n7:j/ P.cellsOf e<len:=by rw[Nat.div_lt_iff_lt_mul yP];rw[hlen]at af;exact af
    have n6:j%P.cellsOf e<P.cellsOf e:=Nat.mod_lt _ yP
    obtain⟨l,aa,_⟩:=W0 _ n7;obtain⟨ae,au⟩:=WS aa
    have aR:=au _ n6
    rw[At,Nat.mul_comm,Nat.div_add_mod]at aR;rw[aa]
    have bN:w.cell? (a.add j)=some (l.getD (j%P.cellsOf e) undef):=by
     rw[aR]
     have:j%P.cellsOf e<l.length:=by omega
     simp[List.getD,List.getElem?_eq_getElem this]
    exact⟨by have:=Qa bN;rwa[qg]at this,bN⟩
  |array k e=>
   obtain⟨xs,q,rfl,hx,js,jQ,eQ⟩:=DataW.trod_array hu h;rw[hx]at fD;simp only[DataW.weights,hu]at fD
   obtain⟨es,g1,g2,g3⟩:=Pv (P:=P) (w:=w) (e:=e) (P.cellsOf e) k (fun i=>(cs.drop (i*P.cellsOf e)).take (P.cellsOf e)) fun i hi=>by
    have aa:=eQ i hi
    rw[List.getElem?_eq_getElem (by omega)]at aa
    refine⟨PG q (Nat.lt_succ_self _) e _ _ ak aa fun z aT=>fD z (Pw (List.mem_map_of_mem (List.getElem_mem _)) z aT),?_⟩
    have ae:=Nat.mul_le_mul_right (P.cellsOf e) (show i+1≤k from hi)
    rw[Nat.succ_mul]at ae
    have:=(K.array da hu).2
    simp;omega
   refine⟨es.flatten,.array es hu g1 fun p ak=>(g2 p ak).1,?_,fun j r af=>?_⟩
   ·rw[ka fun x hx=>(g2 x hx).2,g1,js,(K.array da hu).2]
   ·have:=g3 j r af
    have cW:=(List.getElem?_eq_some_iff.1 af).1
    have yP:0<P.cellsOf e:=by
     rcases Nat.eq_zero_or_pos (P.cellsOf e)with aJ|aJ
     ·rw[ka fun x hx=>(g2 x hx).2,aJ]at cW;simp at cW
     ·exact aJ
    have n6:j%P.cellsOf e<P.cellsOf e:=Nat.mod_lt _ yP
    have hm:j/ P.cellsOf e*P.cellsOf e+j%P.cellsOf e=j:=by rw[Nat.mul_comm];exact Nat.div_add_mod _ _
    simpa[List.getD,List.getElem?_take,List.getElem?_drop,n6,hm]using this
  |struct fs=>
   obtain⟨xs,q,rfl,hx,js,jQ,eQ⟩:=DataW.trod_struct hu h;rw[hx]at fD;simp only[DataW.weights,hu]at fD;obtain⟨_,zd,AD⟩:=K.struct da hu
   obtain⟨parts,g1,g2,g3,g4⟩:=WR (P:=P) (w:=w) fs.toList 0 cs (fun j f hf=>by rw[AD j f hf];simp) (fun f hf=>by
    obtain⟨i,hi,rfl⟩:=List.mem_iff_getElem.1 hf
    have zks:fs[i]? =some fs.toList[i]:=by simp at hi;simp[hi]
    have aa:=eQ i _ zks
    have vQ:i<xs.length:=by rw[jQ];simpa using hi
    rw[List.getElem?_eq_getElem vQ]at aa
    rw[List.all_eq_true]at ak
    exact PG q (Nat.lt_succ_self _) _ _ _ (ak _ (List.getElem_mem hi)) aa fun z aT=>fD z (DataW.weights_mem_each (j:=i) (by rw[List.getElem?_map,List.getElem?_eq_getElem hi];rfl) (by rw[List.getElem?_map,List.getElem?_eq_getElem vQ];rfl) z aT)) (by rw[js,zd];omega)
   exact⟨parts.flatten,.struct parts hu g1 g2,by rw[g3,js,zd],fun j r af=>by have:=g4 j r af;simpa using this⟩
  |_=>cases ak
theorem zkt(K:Kids P (· < P.types.size)){t:TypeId}(ak:PF P t=true){v:Value}{d:DataW H}{ps:List MemPlace}{base:Nat}{sp:Nat→Bool}{held:Bool}(h:DataW.Trod enc P w base sp held t v d ps)(fD: ∀q∈d.weights P t,q≤reachBytes):Fits P w t v.cells.toList:=by
 obtain⟨n,hn⟩:=h
 unfold PF at ak
 simp only[Bool.and_eq_true]at ak
 exact zkr K ak.2 n t _ _ ak.1 hn fD
theorem zku{β:Nat→Value}{t:TypeId}{v:Value}{r:aW}{reach:Reach}{oq:Nat}(hf:Fits P w t v.cells.toList)(ax:Value.okWide P w reach oq t v)(fQ:Cm P T=true)(h:PC P T t=some r): ∃x:r.den,bG w (l7 w) [] β 0 (aF.ft ⟨r,x⟩) v∧sq ⟨r,x⟩:=by
 unfold PC at h
 split at h
 ·rename_i ai
  split at h
  ·rename_i c l _ aq
   split at h
   ·rename_i hc
    cases h;obtain rfl:=Pz hc;obtain⟨cs,rfl⟩:=zkk ax ai;obtain⟨rs,g1,g2⟩:=Fits.agg (P:=P) (w:=w) (cs:=cs) hf (β:=β) (N:=0);obtain⟨ds,cg,a2,a3⟩:=WX fQ g1 20 aq
    have hc:lR c (ph c ds)=ds:=EC c ds cg
    refine⟨ph c ds,?_,fun q aK=>a3 q (by rw[←hc];exact aK)⟩
    have vR:aF.ft ⟨.st c,ph c ds⟩= .agg ((ds.map aF.av).map .av):=by
     show aD.agg ((ck c (ph c ds)).map .av)=_;unfold ck;rw[hc]
    rw[vR];exact(gd.ft a2).agg _ _ _ _ _ _ g2
   ·cases h
  ·cases h
 ·split at h
  ·rename_i eY ao aq
   split at h
   ·rename_i aa
    cases h;obtain⟨y,g1,g2⟩:=Fits.one (P:=P) (w:=w) hf (zkj ax ao) (β:=β) (N:=0);obtain⟨ds,cg,a2,a3⟩:=WX fQ g1 20 aq;obtain⟨d,pn,rfl,rfl,hn⟩:=lS cg
    cases mF hn
    cases a2 with
    |cons ai _=>
     have dJ:=Ww aa
     refine⟨d.v,?_,?_⟩
     ·show bG w (l7 w) [] β 0 (aF.ft d) v
      have:aF.ft d= .av d.av:=Wv (x:=d.v) dJ
      rw[this];exact ai.ft _ _ _ _ _ _ g2
     ·have:=a3 d (List.mem_singleton.2 rfl)
      unfold sq
      split
      ·rename_i c x heq
       exact absurd (congrArg aF.r heq) (dJ c)
      ·exact this
   ·cases h
  ·cases h
theorem W1(K:Kids P (· < P.types.size)){β:Nat→Value}{base oq:Nat}{sp:Nat→Bool}{held:Bool}{reach:Reach}: ∀{ts:List TypeId} {vs:List Value} {ds:List (DataW H)} {ps:List MemPlace} {rs:List aW},DataW.TrodAll enc P w base sp held ts vs ds ps→tQ P T ts=some rs→
 (∀q∈DataW.weightsEach P ts ds,q≤reachBytes)→(∀(j:Nat) t v,ts[j]? =some t→vs[j]? =some v→Value.okWide P w reach oq t v)→
 ds.length=ts.length∧∃dl:List aF,dl.map aF.r=rs∧dl.length=vs.length∧(∀(j:Nat) x,(dl.map aF.ft)[j]? =some x→∃v,vs[j]? =some v∧bG w (l7 w) [] β 0 x v)∧∀d∈dl,sq d
 |[],vs,ds,ps,rs,h,ak,_,_=>by
  obtain⟨rfl,rfl,rfl⟩:=trodAll_nil h;unfold tQ at ak
  split at ak
  rotate_left
  ·cases ak
  cases ak;exact⟨rfl,[],rfl,rfl,by simp,by simp⟩
 |t::ts,vs,ds,ps,rs,h,ak,hw,ao=>by
  obtain⟨v,zmq,d,pn,p,q,rfl,rfl,rfl,aa,ae⟩:=trodAll_cons h;unfold tQ at ak
  split at ak
  ·rename_i r zmr rG ag gi
   cases ak;obtain⟨g0,dl,g1,g2,g3,g4⟩:=W1 K ae gi (fun q aK=>hw q (by rw[DataW.weightsEach];exact List.mem_append_right _ aK)) fun j bL bo af s9=>ao (j+1) bL bo (by simpa using af) (by simpa using s9)
   obtain⟨x,cg,a2⟩:=zku (β:=β) (zkt K rG aa fun q aK=>hw q (by rw[DataW.weightsEach];exact List.mem_append_left _ aK)) (ao 0 t v rfl rfl) (WZ gi) ag
   refine⟨by simp[g0],⟨r,x⟩::dl,by simp[g1],by simp[g2],fun j y af=>?_,fun d hd=>?_⟩
   ·cases j with
    |zero=>simp at af;subst af;exact⟨v,rfl,cg⟩
    |succ j=>simpa using g3 j y (by simpa using af)
   ·rcases List.mem_cons.1 hd with rfl|hd
    ·exact a2
    ·exact g4 d hd
  ·cases ak
theorem zkv{G:bc}{f:FuncId}{fn:Func}{s:ChangeSpec}{args:Array Value}{ds gs:List (DataW H)}{before:List MemPlace}{tb:TypeId}{oq:Nat}{reach:Reach}{m:aS}
 (ic:DataW.Whole enc P fn.params.toList s.vars false w args.toList ds gs before)(ax:s.vars=[])(ai: ∀ds:List (DataW H),ds.length=fn.params.toList.length→s.fn H ds={results:=[.lit (.bool true)],args:=ds})
 (fD:(DataW.weightsEach P (fn.params.toList++s.plain.varTypes P) (ds++gs)).all (· ≤reachBytes)=true)(sZ: ∀(j:Nat) t v,fn.params[j]? =some t→args[j]? =some v→Value.okWide P w reach oq t v)
 (zkw:s.plain.varTypes P=[])(rC:fn.resultTypes= #[tb])(Py:P.underlying tb=some .bool)(K:Kids P (· < P.types.size))(aT: ∀t e,t<P.types.size→P.underlying t=some (.slice e)→0<P.cellsOf e)(uO: ∀t∈fn.params.toList,t<P.types.size)
 (rH:tQ P T fn.params.toList=some m.ps)(k3:so w (l7 w) G)(hc:bE P G f m)(hm: ∀x,(∀d∈dE m.ps x,sq d)→lz m.pre x∧lA m.rs (m.m x)=tW true):
 Calls P f args w fun e w'=>∃v,e= .returned v∧s.post enc P fn false true false false w args v w':=by
 have zkx:=ic
 obtain⟨p,q,c4,W2,rfl,_,_⟩:=ic
 rw[ax]at W2
 obtain⟨rfl,rfl⟩:=trodVars_none W2
 rw[zkw,List.append_nil,List.append_nil]at fD
 obtain⟨n7,dl,cg,a2,a3,a4⟩:=W1 (T:=T) (β:=fun _=>undef) K c4 rH (fun q aK=>by simpa using List.all_eq_true.1 fD q aK) fun j t v af s9=>sZ j t v (by simpa using af) (by simpa using s9)
 have Ci:dE m.ps (ch m.ps dl)=dl:=yL cg
 obtain⟨zky,ag⟩:=hm (ch m.ps dl) (by rw[Ci];exact a4)
 have hs:=(hc (ch m.ps dl) zky).frame (σ:=[]) (n:=0) (Gv _) fun r b0 ag=>by rw[ag];exact Pe
 refine zkn (β:=fun _=>undef) zkx ax (by rw[List.append_nil];exact ai ds n7) rC Py K aT uO (avs':=nD m.ps (ch m.ps dl)) ?_ (fun i x hx=>?_) k3 (hs.res fun r b0 ⟨aa,_,ae⟩=>⟨ae.trans ag,aa⟩)
 ·unfold nD
  rw[Ci,List.length_map,a2];exact Array.length_toList.symm
 ·unfold nD at hx
  rw[Ci]at hx;obtain⟨v,aa,ae⟩:=a3 i x hx
  have:args.getD i undef=v:=by
   have sX:args[i]? =some v:=by simpa using aa
   rw[Array.getD_eq_getD_getElem?,sX];rfl
  rw[this];exact ae
end
end Go.aN
namespace Go.aN
open Go Go.Proofs Go.Shelf Go.RowKit
variable {P:Program} {bb:Ren}
theorem W3(w:World): ∀(l:List Int) (a:Addr) (acc:ByteArray),(∀j x,l[j]? =some x→w.cell? (a.add j)=some (.int .u8 x))→
 (loadBytes a acc l.length).run P w= .ok (l.foldl (fun r n=>r.push (UInt8.ofNat n.toNat)) acc) w
 |[],a,acc,_=>by simp[loadBytes]
 |x::l,a,acc,h=>by
  have aJ:w.cell? a=some (.int .u8 x):=by
   have:=h 0 x rfl
   simpa[Addr.add]using this
  have aZ:=W3 w l (a.add 1) (acc.push (UInt8.ofNat x.toNat)) (fun j y ay=>by
   have:=h (j+1) y (by simpa using ay)
   have e:(a.add 1).add j=a.add (j+1):=by
    unfold Addr.add
    by_cases af:j=0
    ·subst af;simp
    ·simp[af];omega
   rw[e];exact this)
  simp only[List.length_cons,loadBytes,Sem.run_bind,run_load,aJ,Result.andThen];exact aZ
theorem zkz(w:World)(GJ it ty e:TypeId)(ak:P.underlying GJ=some (.pointer e))(hc:P.cellsOf e=1)(g cells:Nat)(LY:w.shape? g=some (e,cells))(l:List Int)(aJ:l≠[])(hn:l.length≤cells)(oW:l.length≤9223372036854775807)
 (k8: ∀j x,l[j]? =some x→w.cell? ((⟨g,0,none⟩:Addr).add j)=some (.int .u8 x)):
 (Builtin.unsafeString_ #[GJ,it] ty #[.pointer (some ⟨g,0,none⟩),.int .i64 l.length]).run P w= .ok (.string (bytesOf l)) (w.freeze ⟨g,0,none⟩ l.length):=by
 have aq:l.length≠0:=by simpa using aJ
 have An:=W3 (P:=P) w l ⟨g,0,none⟩ .empty k8
 have zkA:=Lib.liesAt_bytes (P:=P) hc (cells/ P.cellsOf e) l.length (by rw[hc];simpa using hn)
 have zkB: ¬(9223372036854775807:Int)<(l.length:Int):=by omega
 have PH:Builtin.unsafeString_ #[GJ,it] ty #[.pointer (some ⟨g,0,none⟩),.int .i64 l.length]=
  (do
   let n ←asInt (.int .i64 l.length)
   if n<0 then runtimePanic (.error "unsafe.String: len out of range")
   if n>IntKind.i64.max then unsupported (.unsafePointer "String: a length above the largest int")
   if n=0 then pure (.string .empty)
   else if ←variablesAt ⟨g,0,none⟩ (←elemOf GJ) n.toNat then do
    let s ←loadBytes ⟨g,0,none⟩ .empty n.toNat
    freeze ⟨g,0,none⟩ n.toNat
    pure (.string s)
   else unsupported (.unsafePointer "String: not so many bytes at ptr")):=rfl
 rw[PH]
 have zkC:IntKind.i64.max=9223372036854775807:=rfl
 have zkD: ¬(l.length:Int)<0:=by omega
 simp[asInt,asIntOf,zkC,zkB,zkD,aq,variablesAt,LY,elemOf,run_underlying ak,zkA,An,bytesOf]
set_option maxHeartbeats 2000000 in
set_option maxRecDepth 100000 in
theorem zkE(L:Lays.n169 P bb)(X:Builder.Extra P bb)(b g cap:Nat)(p:Value)(cur:Array Value)(l:List Int)(w:World)(aJ:l≠[])(bk:w.heap[b]? =some (.cells #[p,.slice (some ⟨g,0,none⟩) l.length cap] (bb.t 72) (0,0)))
 (ah:w.heap[g]? =some (.cells cur (bb.t 5) (0,0)))(Bz:l.length≤cap)(im:cap≤maxLen)(dR:cur.size=cap*1)(k8: ∀j x,l[j]? =some x→w.cell? ((⟨g,0,none⟩:Addr).add j)=some (.int .u8 x)):
 Calls P (bb.f 169) #[.pointer (some ⟨b,0,none⟩)] w fun e w'=>e= .returned (.string (bytesOf l))∧w'=w.drew.freeze ⟨g,0,none⟩ l.length:=by
 have Ef:l.length≠0:=by simpa using aJ
 have aM:w.drew.cell? ⟨b,1,none⟩=some (.slice (some ⟨g,0,none⟩) l.length cap):=by
  have:w.drew.heap[b]? =some (.cells #[p,.slice (some ⟨g,0,none⟩) l.length cap] (bb.t 72) (0,0)):=bk
  rw[Lib.cell_of_heap this];rfl
 have PI:(Builtin.unsafeSliceData_ #[(bb.t 37)] (bb.t 127) #[.slice (some ⟨g,0,none⟩) l.length cap]).run P w.drew= .ok (.pointer (some ⟨g,0,none⟩)) w.drew:=
  Lib.run_unsafeSliceData_row _ _ _ _ _ _ (by omega)
 have PJ:(Builtin.unsafeString_ #[(bb.t 127),(bb.t 3)] (bb.t 9) #[.pointer (some ⟨g,0,none⟩),.int .i64 l.length]).run P w.drew= .ok (.string (bytesOf l)) (w.drew.freeze ⟨g,0,none⟩ l.length):=by
  refine zkz w.drew (bb.t 127) (bb.t 3) (bb.t 9) (bb.t 5) L.t127 X.cellsByte g cur.size (by have ec:w.drew.heap[g]? =some (.cells cur (bb.t 5) (0,0)):=ah;simp[World.shape?,ec]) l aJ (by omega) (by unfold maxLen at im;omega) ?_
  intro j x hx;exact k8 j x hx
 have mixed:=L.mixed
 have t72:=L.t72;have a72:=L.a72;have z72:=L.z72;have v72:=L.v72;have PK:=run_underlying L.t72
 have t70:=L.t70;have a70:=L.a70;have z70:=L.z70;have v70:=L.v70;have PL:=run_underlying L.t70
 have t37:=L.t37;have a37:=L.a37;have z37:=L.z37;have v37:=L.v37;have PM:=run_underlying L.t37
 have t127:=L.t127;have a127:=L.a127;have z127:=L.z127;have v127:=L.v127;have PN:=run_underlying L.t127
 have t3:=L.t3;have a3:=L.a3;have z3:=L.z3;have v3:=L.v3;have yR:=run_underlying L.t3
 have t9:=L.t9;have a9:=L.a9;have z9:=L.z9;have v9:=L.v9;have PO:=run_underlying L.t9
 have t5:=X.t5;have a5:=X.a5;have z5:=X.z5;have v5:=X.v5;have PQ:=run_underlying X.t5
 go_enter L.f169,Body.n169_ntmps bb
 go_wp2
 go_region_o
 all_goals (go_wp2;go_ret;exact⟨rfl,rfl⟩)
set_option maxHeartbeats 2000000 in
set_option maxRecDepth 100000 in
theorem W4(L:Lays.n169 P bb)(X:Builder.Extra P bb)(b:Nat)(p:Value)(w:World)(bk:w.heap[b]? =some (.cells #[p,.slice none 0 0] (bb.t 72) (0,0))):
 Calls P (bb.f 169) #[.pointer (some ⟨b,0,none⟩)] w fun e w'=>e= .returned (.string ⟨#[]⟩)∧w'=w.drew:=by
 have PJ:=Any.unsafeString_none L X
 have aM:w.drew.cell? ⟨b,1,none⟩=some (.slice none 0 0):=by
  have:w.drew.heap[b]? =some (.cells #[p,.slice none 0 0] (bb.t 72) (0,0)):=bk
  rw[Lib.cell_of_heap this];rfl
 have PI:(Builtin.unsafeSliceData_ #[(bb.t 37)] (bb.t 127) #[.slice none 0 0]).run P w.drew= .ok (.pointer none) w.drew:=rfl
 have mixed:=L.mixed
 have t72:=L.t72;have a72:=L.a72;have z72:=L.z72;have v72:=L.v72;have PK:=run_underlying L.t72
 have t70:=L.t70;have a70:=L.a70;have z70:=L.z70;have v70:=L.v70;have PL:=run_underlying L.t70
 have t37:=L.t37;have a37:=L.a37;have z37:=L.z37;have v37:=L.v37;have PM:=run_underlying L.t37
 have t127:=L.t127;have a127:=L.a127;have z127:=L.z127;have v127:=L.v127;have PN:=run_underlying L.t127
 have t3:=L.t3;have a3:=L.a3;have z3:=L.z3;have v3:=L.v3;have yR:=run_underlying L.t3
 have t9:=L.t9;have a9:=L.a9;have z9:=L.z9;have v9:=L.v9;have PO:=run_underlying L.t9
 have t5:=X.t5;have a5:=X.a5;have z5:=X.z5;have v5:=X.v5;have PQ:=run_underlying X.t5
 go_enter L.f169,Body.n169_ntmps bb
 go_wp2
 go_region_o
 all_goals (go_wp2;go_ret;exact⟨rfl,rfl⟩)
set_option maxHeartbeats 2000000 in
set_option maxRecDepth 100000 in
theorem zkF(L:Lays.n169 P bb)(X:Builder.Extra P bb)(b g cap:Nat)(p:Value)(w:World)(hI:cap≠0)(bk:w.heap[b]? =some (.cells #[p,.slice (some ⟨g,0,none⟩) 0 cap] (bb.t 72) (0,0))):
 Calls P (bb.f 169) #[.pointer (some ⟨b,0,none⟩)] w fun e w'=>e= .returned (.string ⟨#[]⟩)∧w'=w.drew:=by
 have PJ:=Any.unsafeString_none L X
 have aM:w.drew.cell? ⟨b,1,none⟩=some (.slice (some ⟨g,0,none⟩) 0 cap):=by
  have:w.drew.heap[b]? =some (.cells #[p,.slice (some ⟨g,0,none⟩) 0 cap] (bb.t 72) (0,0)):=bk
  rw[Lib.cell_of_heap this];rfl
 have PI:(Builtin.unsafeSliceData_ #[(bb.t 37)] (bb.t 127) #[.slice (some ⟨g,0,none⟩) 0 cap]).run P w.drew= .ok (.pointer (some ⟨g,0,none⟩)) w.drew:=
  Lib.run_unsafeSliceData_row _ _ _ _ _ _ hI
 clear hI
 have mixed:=L.mixed
 have t72:=L.t72;have a72:=L.a72;have z72:=L.z72;have v72:=L.v72;have PK:=run_underlying L.t72
 have t70:=L.t70;have a70:=L.a70;have z70:=L.z70;have v70:=L.v70;have PL:=run_underlying L.t70
 have t37:=L.t37;have a37:=L.a37;have z37:=L.z37;have v37:=L.v37;have PM:=run_underlying L.t37
 have t127:=L.t127;have a127:=L.a127;have z127:=L.z127;have v127:=L.v127;have PN:=run_underlying L.t127
 have t3:=L.t3;have a3:=L.a3;have z3:=L.z3;have v3:=L.v3;have yR:=run_underlying L.t3
 have t9:=L.t9;have a9:=L.a9;have z9:=L.z9;have v9:=L.v9;have PO:=run_underlying L.t9
 have t5:=X.t5;have a5:=X.a5;have z5:=X.z5;have v5:=X.v5;have PQ:=run_underlying X.t5
 go_enter L.f169,Body.n169_ntmps bb
 go_wp2
 go_region_o
 all_goals (go_wp2;go_ret;exact⟨rfl,rfl⟩)
set_option maxHeartbeats 2000000 in
set_option maxRecDepth 100000 in
theorem zkG(L:Lays.n169 P bb)(X:Builder.Extra P bb)(b:Nat)(c8 q:Addr)(p:Value)(w dC:World)(bk:w.heap[b]? =some (.cells #[p,.slice (some c8) 0 0] (bb.t 72) (0,0)))(pf:dC.heap[b]? =w.heap[b]?)
 (PI:(Builtin.unsafeSliceData_ #[(bb.t 37)] (bb.t 127) #[.slice (some c8) 0 0]).run P w.drew= .ok (.pointer (some q)) dC):
 Calls P (bb.f 169) #[.pointer (some ⟨b,0,none⟩)] w fun e w'=>e= .returned (.string ⟨#[]⟩)∧w'=dC:=by
 have PJ:=Any.unsafeString_none L X
 have aM:w.drew.cell? ⟨b,1,none⟩=some (.slice (some c8) 0 0):=by
  have:w.drew.heap[b]? =some (.cells #[p,.slice (some c8) 0 0] (bb.t 72) (0,0)):=bk
  rw[Lib.cell_of_heap this];rfl
 have dg:dC.cell? ⟨b,1,none⟩=some (.slice (some c8) 0 0):=by
  have:dC.heap[b]? =some (.cells #[p,.slice (some c8) 0 0] (bb.t 72) (0,0)):=pf.trans bk
  rw[Lib.cell_of_heap this];rfl
 clear pf
 have mixed:=L.mixed
 have t72:=L.t72;have a72:=L.a72;have z72:=L.z72;have v72:=L.v72;have PK:=run_underlying L.t72
 have t70:=L.t70;have a70:=L.a70;have z70:=L.z70;have v70:=L.v70;have PL:=run_underlying L.t70
 have t37:=L.t37;have a37:=L.a37;have z37:=L.z37;have v37:=L.v37;have PM:=run_underlying L.t37
 have t127:=L.t127;have a127:=L.a127;have z127:=L.z127;have v127:=L.v127;have PN:=run_underlying L.t127
 have t3:=L.t3;have a3:=L.a3;have z3:=L.z3;have v3:=L.v3;have yR:=run_underlying L.t3
 have t9:=L.t9;have a9:=L.a9;have z9:=L.z9;have v9:=L.v9;have PO:=run_underlying L.t9
 have t5:=X.t5;have a5:=X.a5;have z5:=X.z5;have v5:=X.v5;have PQ:=run_underlying X.t5
 go_enter L.f169,Body.n169_ntmps bb
 go_wp2
 go_region_o
 all_goals (go_wp2;go_ret;exact⟨rfl,rfl⟩)
theorem zkH(L:Lays.n169 P bb)(c8:Addr)(w:World)(hex:c8.block<w.heap.size): ∃q dC,(Builtin.unsafeSliceData_ #[(bb.t 37)] (bb.t 127) #[.slice (some c8) 0 0]).run P w= .ok (.pointer (some q)) dC∧(dC=w∨∃o,dC=w.alloc o):=by
 obtain⟨o,ao⟩: ∃o,w.heap[c8.block]? =some o:=⟨_,Array.getElem?_eq_getElem hex⟩
 have he:(elemOf (bb.t 127)).run P w= .ok (bb.t 5) w:=by simp[elemOf,run_underlying L.t127]
 have PH:Builtin.unsafeSliceData_ #[(bb.t 37)] (bb.t 127) #[.slice (some c8) 0 0]=
  (do
   if(0:Nat)≠0 then pure (.pointer (some c8))
   else if(←viewAt c8.block).isSome then pure (.pointer (some c8))
   else pure (.pointer (some ⟨←newObj (.view c8 (←elemOf (bb.t 127))),0,none⟩))):=rfl
 rw[PH]
 unfold viewAt
 cases ai:w.shape? c8.block with
 |some s=>exact⟨⟨w.heap.size,0,none⟩,w.alloc (.view c8 (bb.t 5)),by simp[ai,he],.inr ⟨_,rfl⟩⟩
 |none=>
  cases o with
  |cells c e f=>simp[World.shape?,ao]at ai
  |view a t=>exact⟨c8,w,by simp[ai,getObj,Sem.run,ao],.inl rfl⟩
  |_=>exact⟨⟨w.heap.size,0,none⟩,w.alloc (.view c8 (bb.t 5)),by simp[ai,getObj,Sem.run,ao,he],.inr ⟨_,rfl⟩⟩
section
variable {w w':World} {ro:Nat→Prop} {σ:Heap} {β:Nat→Value} {n rid:Nat}
theorem ho.drop(h:ho w ro σ β n){t:TypeId}{m:Nat}{es:List (List ba)}(ag:aE σ rid=some (.row false t m es))(hw: ∀k,k<w.heap.size→cb (β rid)≠some k→w'.heap[k]? =w.heap[k]?)(bV:w.heap.size≤w'.heap.size):
 ho w' ro (gu σ rid) β n:=by
 have cm: ∀b,ro b→w'.heap[b]? =w.heap[b]? :=fun b ad=>hw b (h.lt b ad) fun e=>h.fo b ad ⟨rid,_,ag,rfl,e⟩
 have sub: ∀k o,aE (gu σ rid) k=some o→aE σ k=some o∧k≠rid:=by
  intro k o aj;rw[Au]at aj
  split at aj
  ·cases aj
  ·rename_i b9
   exact⟨aj,fun e=>b9 e.symm⟩
 have key: ∀x c,bG w ro σ β n x c→bG w' ro (gu σ rid) β n x c:=fun x c hx=>hx.keep cm (fun _ h=>h) (Nat.le_refl _) (fun id t cs aj=>⟨rfl,t,cs,(sub _ _ aj).1⟩) (fun id z t n es aj=>⟨rfl,z,t,es,(sub _ _ aj).1⟩) (fun id bW aj=>⟨rfl,bW,(sub _ _ aj).1⟩)
 refine⟨fun k o aj=>?_,fun k bs o cG b aj eu=>h.inj k bs o cG b (sub _ _ aj).1 (sub _ _ eu).1,fun b ad ⟨k,o,aj,aq,bk⟩=>h.fo b ad ⟨k,o,(sub _ _ aj).1,aq,bk⟩,fun b ad=>Nat.lt_of_lt_of_le (h.lt b ad) bV⟩
 obtain⟨gk,b9⟩:=sub k o aj
 have gP:=h.dh k o gk
 have PR:o.live=true→∀b,cb (β k)=some b→w'.heap[b]? =w.heap[b]? :=fun aq b ad=>hw b (gP.hO aq ad) fun e=>b9 (h.inj k rid o _ b gk ag aq rfl ad e)
 cases gP with
 |box t cs b arr aa ae au aR=>exact .box t cs b arr aa ((PR rfl b (by rw[aa];rfl)).trans ae) au fun j x af=>key _ _ (aR j x af)
 |row t n es xs aa ae au=>exact .row t n es xs (aa.keep (fun b ad=>PR rfl b ad) bV) ae fun j x af=>(au j x af).keep cm fun _ h=>h
 |gf t n es aa=>exact .gf t n es (aa.keep cm fun _ h=>h)
 |bU bW b o aa ae au=>exact .bU bW b o aa ((PR rfl b aa).trans ae) (bW.mono _ _ _ _ (fun x c h=>h.keep cm fun _ h=>h) au)
theorem zkI(w:World)(g m k:Nat)(aj:k≠g):(w.freeze ⟨g,0,none⟩ m).heap[k]? =w.heap[k]? :=by
 unfold World.freeze
 split
 ·rfl
 ·simp only[Array.getElem?_modify]
  rw[if_neg (fun e=>aj e.symm)]
theorem zkJ(w:World)(a:Addr)(m:Nat):(w.freeze a m).os=w.os∧(w.freeze a m).tape=w.tape∧(w.freeze a m).output=w.output∧(w.freeze a m).heap.size=w.heap.size:=by
 unfold World.freeze
 split
 ·exact⟨rfl,rfl,rfl,rfl⟩
 ·exact⟨rfl,rfl,rfl,by simp⟩
theorem zkK(L:Lays.n169 P bb)(X:Builder.Extra P bb){G:bc}{id:Nat}{x0:aD}{l:List Int}(aJ:l≠[])(bj:aE σ id=some (.box (bb.t 72) [x0,.aP rid]))(ag:aE σ rid=some (.row false (bb.t 5) 1 (l.map fun z=>[.v (.int .u8 z)]))):
 dN P G (bb.f 169) [.ptr id 0] σ n fun r b0=>r= .av (.v (.string (bytesOf l)))∧b0=gu σ rid:=by
 intro w β ro ei aa ae au aR bN
 have du:=au.dh id _ bj
 have fl:=au.dh rid _ ag
 cases du with
 |box _ _ b arr aB bl cx eR=>
  cases fl with
  |row _ _ _ xs da b9 e0=>
   have hI:ei.getD 0 undef= .pointer (some ⟨b,0,none⟩):=by
    have:=ae 0 _ rfl
    generalize ei.getD 0 undef=bD at this⊢
    cases this with
    |ptr _ _ _ aq kn=>
     obtain⟨b',cR,c7⟩:=kn _ _ bj;rw[aB]at cR
     cases cR
     exact c7
   have si:ei= #[.pointer (some ⟨b,0,none⟩)]:=by
    have ai:ei.size=1:=aa
    apply Array.ext
    ·simpa using ai
    ·intro i yS mE
     have:i=0:=by omega
     subst this;simpa[Array.getD,ai]using hI
   have Cn:arr.getD 1 undef=β rid:=by
    have:=eR 1 _ rfl
    generalize arr.getD 1 undef=bD at this⊢
    cases this with
    |aP _ _ _ ak=>exact ak _ _ _ _ ag
   have r0:arr= #[arr.getD 0 undef,β rid]:=by
    have ai:arr.size=2:=cx
    apply Array.ext
    ·simpa using ai
    ·intro i yS mE
     have hi:i=0∨i=1:=by omega
     rcases hi with rfl|rfl
     ·simp[Array.getD,ai]
     ·have:=Cn
      simp only[Array.getD,ai]at this;simpa using this
   have hlen:(l.map fun z=>[ba.v (.int .u8 z)]).length=l.length:=List.length_map ..
   rcases da.2 with⟨_,aT⟩|⟨g,cap,cur,ax,ak,ah,hle,im,dR,lM⟩
   ·rw[hlen]at aT
    exact absurd (List.eq_nil_of_length_eq_zero aT) aJ
   ·rw[hlen]at ax hle lM
    have yX:cb (β rid)=some g:=by rw[ax];simp[cb,Nat.ne_of_gt ak]
    rw[si];refine Calls.mono (zkE L X b g cap (arr.getD 0 undef) cur l w aJ (by rw[bl,←ax,←r0]) ah hle im dR fun j x hx=>?_) fun e w' ⟨he,hw⟩=>?_
    ·have af:=(List.getElem?_eq_some_iff.1 hx).1
     have hc:=e0 j (.v (.int .u8 x)) (by rw[Mp,List.getElem?_map,hx];rfl)
     have zkL:xs.getD j undef= .int .u8 x:=by
      generalize xs.getD j undef=bD at hc⊢
      cases hc with
      |v=>rfl
     have GK:xs[j]? =some (.int .u8 x):=by
      have jQ:j<xs.length:=by rw[da.1,hlen];omega
      rw[←zkL];simp[List.getD,List.getElem?_eq_getElem jQ]
     rw[addLit,Nat.zero_add,cell_of_row w g j cur (bb.t 5) (0,0) ah];rw[←lM,List.getElem?_take]at GK
     split at GK
     ·simpa using GK
     ·cases GK
    ·subst hw
     obtain⟨f1,f2,f3,f4⟩:=zkJ w.drew ⟨g,0,none⟩ l.length
     have nZ: ∀k,k<w.heap.size→cb (β rid)≠some k→(w.drew.freeze ⟨g,0,none⟩ l.length).heap[k]? =w.heap[k]? :=fun k _ aj=>zkI w.drew g l.length k fun e=>aj (by rw[yX,e])
     have bV:w.heap.size≤(w.drew.freeze ⟨g,0,none⟩ l.length).heap.size:=Nat.le_of_eq f4.symm
     have sub: ∀k o,aE (gu σ rid) k=some o→aE σ k=some o:=by
      intro k o aj;rw[Au]at aj
      split at aj
      ·cases aj
      ·exact aj
     refine⟨_,_,gu σ rid,β,ro,n,he,⟨rfl,rfl⟩,.fI rfl,au.drop ag nZ bV,⟨f1,f2,f3,bV,fun k aj ao=>nZ k aj fun e=>ao ⟨rid,_,ag,rfl,e⟩,fun _ h=>.inl h,fun _ h=>h,fun k ⟨j,o,af,aq,ad⟩=>.inl ⟨j,o,sub _ _ af,aq,ad⟩,fun k aj o ah=>⟨by rw[sub _ _ ah];simp,rfl⟩,fun k o ah=>bN k o (sub _ _ ah),Nat.le_refl _⟩⟩
theorem ho.same(h:ho w ro σ β n)(he:w'.heap=w.heap):ho w' ro σ β n:=by
 have cm: ∀b,ro b→w'.heap[b]? =w.heap[b]? :=fun b _=>by rw[he]
 have key: ∀x c,bG w ro σ β n x c→bG w' ro σ β n x c:=fun x c hx=>hx.keep cm (fun _ h=>h) (Nat.le_refl _) (fun id t cs aj=>⟨rfl,t,cs,aj⟩) (fun id z t n es aj=>⟨rfl,z,t,es,aj⟩) (fun id bW aj=>⟨rfl,bW,aj⟩)
 refine⟨fun k o aj=>?_,h.inj,h.fo,fun b ad=>by rw[he];exact h.lt b ad⟩
 have gP:=h.dh k o aj
 cases gP with
 |box t cs b arr aa ae au aR=>exact .box t cs b arr aa (by rw[he];exact ae) au fun j x af=>key _ _ (aR j x af)
 |row t n es xs aa ae au=>exact .row t n es xs (aa.keep (fun b ad=>by rw[he]) (Nat.le_of_eq (by rw[he]))) ae fun j x af=>(au j x af).keep cm fun _ h=>h
 |gf t n es aa=>exact .gf t n es (aa.keep cm fun _ h=>h)
 |bU bW b o aa ae au=>exact .bU bW b o aa (by rw[he];exact ae) (bW.mono _ _ _ _ (fun x c h=>h.keep cm fun _ h=>h) au)
theorem Trans.drew(hx: ∀id o,aE σ id=some o→id<n):Trans ⟨w,ro,σ,β,n⟩ w.drew ro σ β n:=
 ⟨rfl,rfl,rfl,Nat.le_refl _,fun _ _ _=>rfl,fun _ h=>.inl h,fun _ h=>h,fun _ h=>.inl h,fun k _ o ah=>⟨by rw[ah];simp,rfl⟩,hx,Nat.le_refl _⟩
theorem zcJ(L:Lays.n169 P bb)(X:Builder.Extra P bb){G:bc}{id:Nat}{x0:aD}(bj:aE σ id=some (.box (bb.t 72) [x0,.av (.v (.slice none 0 0))])):
 dN P G (bb.f 169) [.ptr id 0] σ n fun r b0=>r= .av (.v (.string ⟨#[]⟩))∧b0=σ:=by
 intro w β ro ei aa ae au aR bN
 have du:=au.dh id _ bj
 cases du with
 |box _ _ b arr aB bl cx eR=>
  have hI:ei.getD 0 undef= .pointer (some ⟨b,0,none⟩):=by
   have:=ae 0 _ rfl
   generalize ei.getD 0 undef=bD at this⊢
   cases this with
   |ptr _ _ _ aq kn=>
    obtain⟨b',cR,c7⟩:=kn _ _ bj;rw[aB]at cR
    cases cR
    exact c7
  have si:ei= #[.pointer (some ⟨b,0,none⟩)]:=by
   have ai:ei.size=1:=aa
   apply Array.ext
   ·simpa using ai
   ·intro i yS mE
    have:i=0:=by omega
    subst this;simpa[Array.getD,ai]using hI
  have Cn:arr.getD 1 undef= .slice none 0 0:=bG.val (eR 1 _ rfl)
  have r0:arr= #[arr.getD 0 undef,.slice none 0 0]:=by
   have ai:arr.size=2:=cx
   apply Array.ext
   ·simpa using ai
   ·intro i yS mE
    have hi:i=0∨i=1:=by omega
    rcases hi with rfl|rfl
    ·simp[Array.getD,ai]
    ·have:=Cn
     simp only[Array.getD,ai]at this;simpa using this
  rw[si];refine Calls.mono (W4 L X b (arr.getD 0 undef) w (by rw[bl,←r0])) fun e w' ⟨he,hw⟩=>?_
  subst hw;exact⟨_,_,σ,β,ro,n,he,⟨rfl,rfl⟩,.fI rfl,au.same rfl,Trans.drew bN⟩
theorem zkM(L:Lays.n169 P bb)(X:Builder.Extra P bb){G:bc}{id:Nat}{x0:aD}(bj:aE σ id=some (.box (bb.t 72) [x0,.aP rid]))(ag:aE σ rid=some (.row false (bb.t 5) 1 [])):
 dN P G (bb.f 169) [.ptr id 0] σ n fun r b0=>r= .av (.v (.string ⟨#[]⟩))∧b0=gu σ rid:=by
 intro w β ro ei aa ae au aR bN
 have du:=au.dh id _ bj
 have fl:=au.dh rid _ ag
 cases du with
 |box _ _ b arr aB bl cx eR=>
  cases fl with
  |row _ _ _ xs da b9 e0=>
   have hI:ei.getD 0 undef= .pointer (some ⟨b,0,none⟩):=by
    have:=ae 0 _ rfl
    generalize ei.getD 0 undef=bD at this⊢
    cases this with
    |ptr _ _ _ aq kn=>
     obtain⟨b',cR,c7⟩:=kn _ _ bj;rw[aB]at cR
     cases cR
     exact c7
   have si:ei= #[.pointer (some ⟨b,0,none⟩)]:=by
    have ai:ei.size=1:=aa
    apply Array.ext
    ·simpa using ai
    ·intro i yS mE
     have:i=0:=by omega
     subst this;simpa[Array.getD,ai]using hI
   have Cn:arr.getD 1 undef=β rid:=by
    have:=eR 1 _ rfl
    generalize arr.getD 1 undef=bD at this⊢
    cases this with
    |aP _ _ _ ak=>exact ak _ _ _ _ ag
   have r0:arr= #[arr.getD 0 undef,β rid]:=by
    have ai:arr.size=2:=cx
    apply Array.ext
    ·simpa using ai
    ·intro i yS mE
     have hi:i=0∨i=1:=by omega
     rcases hi with rfl|rfl
     ·simp[Array.getD,ai]
     ·have:=Cn
      simp only[Array.getD,ai]at this;simpa using this
   have bM:b<w.heap.size:=(Array.getElem?_eq_some_iff.1 bl).1
   have fin:Calls P (bb.f 169) #[.pointer (some ⟨b,0,none⟩)] w fun e w'=>e= .returned (.string ⟨#[]⟩)∧(w'=w.drew∨∃o,w'=w.drew.alloc o):=by
    rcases da.2 with⟨⟨c,ax,u0⟩,_⟩|⟨g,cap,cur,ax,ak,_⟩
    ·cases c with
     |none=>exact Calls.mono (W4 L X b (arr.getD 0 undef) w (by rw[bl,←ax,←r0])) fun e w' ⟨he,hw⟩=>⟨he,.inl hw⟩
     |some c8=>
      obtain⟨q,dC,aK,W5⟩:=zkH L c8 w.drew (u0 c8 rfl);refine Calls.mono (zkG L X b c8 q (arr.getD 0 undef) w dC (by rw[bl,←ax,←r0]) ?_ aK) fun e w' ⟨he,hw⟩=>⟨he,by rw[hw];exact W5⟩
      rcases W5 with rfl|⟨o,rfl⟩
      ·rfl
      ·exact Lib.alloc_old w.drew _ b bM
    ·exact Calls.mono (zkF L X b g cap (arr.getD 0 undef) w (Nat.ne_of_gt ak) (by rw[bl,←(show β rid= .slice (some ⟨g,0,none⟩) 0 cap from ax),←r0])) fun e w' ⟨he,hw⟩=>⟨he,.inl hw⟩
   rw[si];refine Calls.mono fin fun e w' ⟨he,hw⟩=>?_
   have hold: ∀k,k<w.heap.size→w'.heap[k]? =w.heap[k]? :=fun k aj=>by
    rcases hw with rfl|⟨o,rfl⟩
    ·rfl
    ·exact Lib.alloc_old w.drew _ k aj
   have bV:w.heap.size≤w'.heap.size:=by
    rcases hw with rfl|⟨o,rfl⟩
    ·exact Nat.le_refl _
    ·show w.heap.size≤(w.heap.push _).size
     rw[Array.size_push];exact Nat.le_succ _
   have mW:w'.os=w.os∧w'.tape=w.drew.tape∧w'.output=w.output:=by
    rcases hw with rfl|⟨o,rfl⟩<;>exact⟨rfl,rfl,rfl⟩
   have sub: ∀k o,aE (gu σ rid) k=some o→aE σ k=some o:=by
    intro k o aj;rw[Au]at aj
    split at aj
    ·cases aj
    ·exact aj
   refine⟨_,_,gu σ rid,β,ro,n,he,⟨rfl,rfl⟩,.fI rfl,au.drop ag (fun k aj _=>hold k aj) bV,⟨mW.1,mW.2.1,mW.2.2,bV,fun k aj _=>hold k aj,fun _ h=>.inl h,fun _ h=>h,fun k ⟨j,o,af,aq,ad⟩=>.inl ⟨j,o,sub _ _ af,aq,ad⟩,fun k aj o ah=>⟨by rw[sub _ _ ah];simp,rfl⟩,fun k o ah=>bN k o (sub _ _ ah),Nat.le_refl _⟩⟩
theorem zcI(L:Lays.n169 P bb)(X:Builder.Extra P bb){G:bc}{id:Nat}{x0:aD}{l:List Int}(bj:aE σ id=some (.box (bb.t 72) [x0,.aP rid]))(ag:aE σ rid=some (.row false (bb.t 5) 1 (l.map fun z=>[.v (.int .u8 z)]))):
 dN P G (bb.f 169) [.ptr id 0] σ n fun r b0=>r= .av (.v (.string (bytesOf l)))∧b0=gu σ rid:=by
 cases l with
 |nil=>exact zkM L X bj ag
 |cons z l=>exact zkK L X (by simp) bj ag
end
end Go.aN
namespace Go.aN
open Go
def qT:List (Nat × bO)→Nat→List (Nat × bO)
 |[],_=>[]
 |(k,x)::r,id=>match Nat.beq k id with
  |true=>qT r id
  |false=>(k,x)::qT r id
theorem PS{G:bc}{e:Env}{id:Nat}: ∀(h:List (Nat × bO)),cF G e (qT h id)=gu (cF G e h) id
 |[]=>rfl
 |(k,x)::r=>by
  simp only[qT,cF,gu]
  by_cases aj:k=id
  ·subst aj
   simp only[Nat.beq_refl,if_true];exact PS r
  ·have:Nat.beq k id=false:=by cases aK:Nat.beq k id with|true=>exact absurd (Nat.eq_of_beq_eq_true aK) aj|false=>rfl
   simp only[this,if_neg aj,cF,PS r]
theorem PT{k id:Nat}: ∀{h:List (Nat × bO)},eM k h=true→eM k (qT h id)=true
 |[],h=>h
 |(j,x)::r,h=>by
  have a6:x.lt k=true∧eM k r=true:=by cases x<;>simpa only[eM,Bool.and_eq_true]using h
  simp only[qT]
  split
  ·exact PT a6.2
  ·show(x.lt k&&eM k (qT r id))=true
   rw[a6.1,PT a6.2];rfl
def PU(vZ qU t5:Nat)(inl:Nat→List ab→ar→aC)(f:Nat)(aG:List ab)(S:ar):aC:=
 match Nat.beq f vZ,aG with
 |true,[.ej id 0]=>match dm S.h id with
  |some (.dv t [x0,.aP r])=>match dm S.h r with
   |some (.rw bL .u8 x)=>match(Nat.beq t qU&&Nat.beq bL t5)&&(x.eE (.li .u8)&&x.lt S.k)with
    |true=>emit S.k [.f1 .cM x] [] (.cQ .ct ⟨bd.put .emp 0 (.aV .str S.k),qT S.h r,S.n,S.k+1,S.g⟩)
    |false=>inl f aG S
   |_=>inl f aG S
  |some (.dv t [x0,.cs (.slice none 0 0)])=>match Nat.beq t qU with
   |true=>.cQ .ct ⟨bd.put .emp 0 (.cs (.string ⟨#[]⟩)),S.h,S.n,S.k,S.g⟩
   |false=>inl f aG S
  |_=>inl f aG S
 |_,_=>inl f aG S
section
variable {P:Program} {G:bc} {M:List aS} {inl:Nat→List ab→ar→aC} {vZ qU t5:Nat}
def uS(P:Program)(G:bc)(vZ qU t5:Nat):Prop:=
 (∀{σ:Heap} {n rid id:Nat} {x0:aD} {l:List Int},aE σ id=some (.box qU [x0,.aP rid])→aE σ rid=some (.row false t5 1 (l.map fun z=>[.v (.int .u8 z)]))→
  dN P G vZ [.ptr id 0] σ n fun r b0=>r= .av (.v (.string (bytesOf l)))∧b0=gu σ rid)∧
 ∀{σ:Heap} {n id:Nat} {x0:aD},aE σ id=some (.box qU [x0,.av (.v (.slice none 0 0))])→dN P G vZ [.ptr id 0] σ n fun r b0=>r= .av (.v (.string ⟨#[]⟩))∧b0=σ
theorem zkN(c4:uS P G vZ qU t5)(b1:fT P G M inl):fT P G M (PU vZ qU t5 inl):=fun f aG S e ad aq hf ai=>by
 unfold PU at ai⊢
 split at ai
 rotate_left
 ·exact b1 _ _ S e ad aq hf ai
 rename_i id zkO
 have a1:=Nat.eq_of_beq_eq_true zkO
 subst a1
 split at ai
 ·rename_i t x0 r ah
  split at ai
  rotate_left
  ·exact b1 _ _ S e ad aq hf ai
  rename_i bL x PV
  split at ai
  rotate_left
  ·exact b1 _ _ S e ad aq hf ai
  rename_i aj;simp only[Bool.and_eq_true]at aj;obtain⟨⟨eT,gM⟩,k6,sR⟩:=aj
  have eT:=Nat.eq_of_beq_eq_true eT
  have gM:=Nat.eq_of_beq_eq_true gM
  subst eT gM
  have vW:hB S.k [bT.f1 .cM x]=true:=by
   simp only[hB,bT.lt,sR,Bool.and_self]
  have bY:b2 S.k e (dt M e S.k [bT.f1 .cM x]):=jY (Nat.le_refl _)
  have eQ:=jD (M:=M) (e:=e) vW 0 _ rfl
  have zkP:x.aA (dt M e S.k [bT.f1 .cM x]) (.li .u8)=x.aA e (.li .u8):=eK bY sR
  simp only[Nat.add_zero,bT.den,gL.den,gL.a,zkP]at eQ
  have l0:=c4.1 (σ:=cF G e S.h) (n:=S.n) (rid:=r) (id:=id) (x0:=x0.den G e) (l:=x.aA e (.li .u8)) (by rw[er,ah];rfl) (by rw[er,PV];rfl)
  refine l0.res fun zkQ b0 ⟨aa,ae⟩=>⟨⟨bd.put .emp 0 (.aV .str S.k),qT S.h r,S.n,S.k+1,S.g⟩,dt M e S.k [bT.f1 .cM x],by rw[lY];rfl,?_,?_,?_,iu bY ad.g hf,bY,Nat.le_succ _⟩
  ·rw[aa]
   show _=ab.den G _ (ar.at _ 0);unfold ar.at
   simp only[bd.h5,if_true,ab.den,ab.dyn,eQ];rfl
  ·rw[ae]
   show _=cF G _ (qT S.h r);rw[PS,xR bY ad.h]
  ·refine⟨fun i y hi=>?_,PT (tk (Nat.le_succ _) ad.h),om (Nat.le_succ _) ad.g⟩
   simp only[bd.h5]at hi
   split at hi
   ·cases hi
    exact jX (Nat.lt_succ_self _)
   ·simp[bd.get]at hi
 ·rename_i t x0 ah
  split at ai
  rotate_left
  ·exact b1 _ _ S e ad aq hf ai
  rename_i eT
  have eT:=Nat.eq_of_beq_eq_true eT
  subst eT
  have l0:=c4.2 (σ:=cF G e S.h) (n:=S.n) (id:=id) (x0:=x0.den G e) (by rw[er,ah];rfl)
  refine l0.res fun zkQ b0 ⟨aa,ae⟩=>⟨⟨bd.put .emp 0 (.cs (.string ⟨#[]⟩)),S.h,S.n,S.k,S.g⟩,e,rfl,?_,?_,?_,hf,b2.refl _ _,Nat.le_refl _⟩
  ·rw[aa]
   show _=ab.den G _ (ar.at _ 0);unfold ar.at
   simp only[bd.h5,if_true,ab.den]
  ·rw[ae]
  ·refine⟨fun i y hi=>?_,ad.h,ad.g⟩
   simp only[bd.h5]at hi
   split at hi
   ·cases hi
    rfl
   ·simp[bd.get]at hi
 ·exact b1 _ _ S e ad aq hf ai
end
end Go.aN
namespace Go.aN
open Go
def oA(n:Nat)(b:Bool)(f:b5→Bool)(x:b5):Bool:=
 match x.bZ n with
 |true=>b
 |false=>f x
def sj(n:Nat)(b:Bool)(f:b5→Bool)(x:b5):Bool:=
 match x.c9 n with
 |true=>b
 |false=>f x
def aC.eX:aC→(b5→Bool)→Bool
 | .cQ x _,f=>f x
 | .lt _ _ t,f=>t.eX f
 | .eL _ _,_=>false
 | .it _ a b,f=>a.eX f&&b.eX f
 | .dH n a _ k,f=>a.eX (oA n (k.eX f) f)
 | .eA m xid _ _ _ a k,f=>k.eX f&&a.eX (oA m true (sj xid true f))
 | .e3 _ _ _ _ _,_=>false
 | .bad _,_=>false
def aC.ie(M:List aS):aC→Env→(b5→Bool)→(b5→ar→Env→Prop)→Prop
 | .cQ x S,e,_,Q=>Q x S e
 | .lt i x t,e,f,Q=>t.ie M (bd.put e i (x.den M e)) f Q
 | .eL n t,e,f,Q=>match t.eX f with
  |true=>n.ok M e
  |false=>n.ok M e∧t.ie M e f Q
 | .it g a b,e,f,Q=>match a.eX f,b.eX f with
  |true,true=>True
  |true,false=>g.aA e .bool=false→b.ie M e f Q
  |false,true=>g.aA e .bool=true→a.ie M e f Q
  |false,false=>(g.aA e .bool=true→a.ie M e f Q)∧(g.aA e .bool=false→b.ie M e f Q)
 | .dH n a ps k,e,f,Q=>a.ie M e (oA n (k.eX f) f) fun x S az=>bif x.bZ n then k.ie M (fU e (fun r p=>⟨r,(p.dr S).get az r⟩) ps) f Q else Q x S az
 | .eA m xid dw b6 ca a k,e,f,Q=>match k.eX f with
  |true=>∃I:Nat→b3 ca→Prop,I 0 (ch _ (dL e ca))∧∀(i:Nat) (v:b3 ca),i<(cu (dw.den M e)).toNat→I i v→
   a.ie M (bu (bd.put e b6 ⟨.int .i64,(i:Int)⟩) ca v) (oA m false (sj xid true f)) fun x S az=>bif x.bZ m then I (i+1) (ch _ (fE S az ca))else bif x.c9 xid then True else Q x S az
  |false=>∃I:Nat→b3 ca→Prop,I 0 (ch _ (dL e ca))∧(∀(i:Nat) (v:b3 ca),i<(cu (dw.den M e)).toNat→I i v→
   a.ie M (bu (bd.put e b6 ⟨.int .i64,(i:Int)⟩) ca v) (oA m false (sj xid false f)) fun x S az=>bif x.bZ m then I (i+1) (ch _ (fE S az ca))else bif x.c9 xid then k.ie M (bu e ca (ch _ (fE S az ca))) f Q else Q x S az)∧
   ∀v,I (cu (dw.den M e)).toNat v→k.ie M (bu e ca v) f Q
 | .e3 m xid ca a k,e,f,Q=>∃(I:b3 ca→Prop) (jG:b3 ca→Nat),I (ch _ (dL e ca))∧jG (ch _ (dL e ca))<dk∧∀(v:b3 ca),I v→
  a.ie M (bu e ca v) (oA m false (sj xid (k.eX f) f)) fun x S az=>bif x.bZ m then I (ch _ (fE S az ca))∧jG (ch _ (fE S az ca))<jG v else bif x.c9 xid then k.ie M (bu e ca (ch _ (fE S az ca))) f Q else Q x S az
 | .bad _,_,_,_=>False
section
variable {M:List aS}
def ku(f:b5→Bool)(Q:b5→ar→Env→Prop):Prop:=∀x,f x=true→∀S e,Q x S e
theorem ku.dH{f:b5→Bool}{Q R:b5→ar→Env→Prop}{n:Nat}{b:Bool}(h:ku f R)(ad:b=true→∀x S e,x.bZ n=true→Q x S e)(ag: ∀x S e,x.bZ n=false→R x S e→Q x S e):ku (oA n b f) Q:=fun x hx S e=>by
 unfold oA at hx
 cases af:x.bZ n with
 |true=>rw[af]at hx;exact ad hx x S e af
 |false=>rw[af]at hx;exact ag x S e af (h x hx S e)
theorem ku.tu{f:b5→Bool}{Q R:b5→ar→Env→Prop}{n:Nat}{b:Bool}(h:ku f R)(ad:b=true→∀x S e,x.c9 n=true→Q x S e)(ag: ∀x S e,x.c9 n=false→R x S e→Q x S e):ku (sj n b f) Q:=fun x hx S e=>by
 unfold sj at hx
 cases af:x.c9 n with
 |true=>rw[af]at hx;exact ad hx x S e af
 |false=>rw[af]at hx;exact ag x S e af (h x hx S e)
theorem kv: ∀(t:aC) {e:Env} {f:b5→Bool} {Q:b5→ar→Env→Prop},ku f Q→t.eX f=true→t.wp M e Q
 | .cQ x S,e,_,_,h,c=>h x c S e
 | .lt _ _ t,_,_,_,h,c=>kv t h c
 | .eL _ _,_,_,_,_,c=>by cases c
 | .it _ a b,_,_,_,h,c=>by
  simp only[aC.eX,Bool.and_eq_true]at c;exact⟨fun _=>kv a h c.1,fun _=>kv b h c.2⟩
 | .dH n a ps k,e,f,Q,h,c=>kv a (ku.dH h (fun ad x S az af=>by rw[af];exact kv k h ad) (fun x S az af aK=>by rw[af];exact aK)) c
 | .eA m xid dw b6 ca a k,e,f,Q,h,c=>by
  simp only[aC.eX,Bool.and_eq_true]at c;refine⟨fun _ _=>True,trivial,fun i v _ _=>kv a (ku.dH (ku.tu h (Q:=fun x S az=>bif x.c9 xid then k.wp M (bu e ca (ch _ (fE S az ca))) Q else Q x S az) (fun _ x S az af=>by rw[af];exact kv k h c.1) (fun x S az af aK=>by rw[af];exact aK)) (fun _ x S az af=>by rw[af];trivial) (fun x S az af aK=>by rw[af];exact aK)) c.2,fun v _=>kv k h c.1⟩
 | .e3 _ _ _ _ _,_,_,_,_,c=>by cases c
 | .bad _,_,_,_,_,c=>by cases c
theorem ky: ∀(t:aC) {e:Env} {f:b5→Bool} {Q R:b5→ar→Env→Prop},(∀x S az,Q x S az→R x S az)→t.ie M e f Q→t.ie M e f R
 | .cQ _ _,_,_,_,_,h,q=>h _ _ _ q
 | .lt _ _ t,_,_,_,_,h,q=>ky t h q
 | .eL n t,e,f,Q,R,h,q=>by
  simp only[aC.ie]at q⊢
  cases hc:t.eX f with
  |true=>rw[hc]at q;exact q
  |false=>rw[hc]at q;exact⟨q.1,ky t h q.2⟩
 | .it g a b,e,f,Q,R,h,q=>by
  simp only[aC.ie]at q⊢
  cases aY:a.eX f<;>cases ad:b.eX f<;>rw[aY,ad]at q<;>simp only at q⊢
  ·exact⟨fun ah=>ky a h (q.1 ah),fun ah=>ky b h (q.2 ah)⟩
  ·exact fun ah=>ky a h (q ah)
  ·exact fun ah=>ky b h (q ah)
 | .dH n a ps k,e,f,Q,R,h,q=>ky a (fun x S az r=>by
  cases hx:x.bZ n with
  |true=>rw[hx]at r;exact ky k h r
  |false=>rw[hx]at r;exact h _ _ _ r) q
 | .eA m xid dw b6 ca a k,e,f,Q,R,h,q=>by
  simp only[aC.ie]at q⊢
  cases hc:k.eX f with
  |true=>
   rw[hc]at q;obtain⟨I,aa,ae⟩:=q;refine⟨I,aa,fun i v hi ax=>ky a (fun x S az r=>?_) (ae i v hi ax)⟩
   cases hx:x.bZ m with
   |true=>rw[hx]at r;exact r
   |false=>
    rw[hx]at r
    cases ay:x.c9 xid with
    |true=>trivial
    |false=>rw[ay]at r;exact h _ _ _ r
  |false=>
   rw[hc]at q;obtain⟨I,aa,ae,au⟩:=q;refine⟨I,aa,fun i v hi ax=>ky a (fun x S az r=>?_) (ae i v hi ax),fun v ax=>ky k h (au v ax)⟩
   cases hx:x.bZ m with
   |true=>rw[hx]at r;exact r
   |false=>
    rw[hx]at r
    cases ay:x.c9 xid with
    |true=>rw[ay]at r;exact ky k h r
    |false=>rw[ay]at r;exact h _ _ _ r
 | .e3 m xid ca a k,e,f,Q,R,h,q=>by
  obtain⟨I,jG,aa,ae,au⟩:=q;refine⟨I,jG,aa,ae,fun v ax=>ky a (fun x S az r=>?_) (au v ax)⟩
  cases hx:x.bZ m with
  |true=>rw[hx]at r;exact r
  |false=>
   rw[hx]at r
   cases ay:x.c9 xid with
   |true=>rw[ay]at r;exact ky k h r
   |false=>rw[ay]at r;exact h _ _ _ r
 | .bad _,_,_,_,_,_,q=>q.elim
theorem l3: ∀(t:aC) {e:Env} {f:b5→Bool} {Q:b5→ar→Env→Prop},ku f Q→t.ie M e f Q→t.wp M e Q
 | .cQ _ _,_,_,_,_,q=>q
 | .lt _ _ t,_,_,_,h,q=>l3 t h q
 | .eL n t,e,f,Q,h,q=>by
  simp only[aC.ie]at q
  cases hc:t.eX f with
  |true=>rw[hc]at q;exact⟨q,kv t h hc⟩
  |false=>rw[hc]at q;exact⟨q.1,l3 t h q.2⟩
 | .it g a b,e,f,Q,h,q=>by
  simp only[aC.ie]at q
  cases aY:a.eX f<;>cases ad:b.eX f<;>rw[aY,ad]at q<;>simp only at q
  ·exact⟨fun ah=>l3 a h (q.1 ah),fun ah=>l3 b h (q.2 ah)⟩
  ·exact⟨fun ah=>l3 a h (q ah),fun _=>kv b h ad⟩
  ·exact⟨fun _=>kv a h aY,fun ah=>l3 b h (q ah)⟩
  ·exact⟨fun _=>kv a h aY,fun _=>kv b h ad⟩
 | .dH n a ps k,e,f,Q,h,q=>by
  refine l3 a (f:=oA n (k.eX f) f) (ku.dH h (fun ad x S az af=>?_) (fun x S az af aK=>by rw[af];exact aK)) ?_
  ·rw[af];exact kv k h ad
  ·exact ky a (fun x S az r=>by
    cases hx:x.bZ n with
    |true=>rw[hx]at r;exact l3 k h r
    |false=>rw[hx]at r;exact r) q
 | .eA m xid dw b6 ca a k,e,f,Q,h,q=>by
  simp only[aC.ie]at q
  cases hc:k.eX f with
  |true=>
   rw[hc]at q;obtain⟨I,aa,ae⟩:=q;refine⟨I,aa,fun i v hi ax=>?_,fun v _=>kv k h hc⟩
   refine l3 a (f:=oA m false (sj xid true f)) (ku.dH (ku.tu h (Q:=fun x S az=>bif x.c9 xid then k.wp M (bu e ca (ch _ (fE S az ca))) Q else Q x S az) (fun _ x S az af=>by rw[af];exact kv k h hc) (fun x S az af aK=>by rw[af];exact aK)) (fun ad=>by cases ad) (fun x S az af aK=>by rw[af];exact aK)) ?_
   refine ky a (fun x S az r=>?_) (ae i v hi ax)
   cases hx:x.bZ m with
   |true=>rw[hx]at r;exact r
   |false=>
    rw[hx]at r
    cases ay:x.c9 xid with
    |true=>exact kv k h hc
    |false=>rw[ay]at r;exact r
  |false=>
   rw[hc]at q;obtain⟨I,aa,ae,au⟩:=q;refine⟨I,aa,fun i v hi ax=>?_,fun v ax=>l3 k h (au v ax)⟩
   refine l3 a (f:=oA m false (sj xid false f)) (ku.dH (ku.tu h (Q:=fun x S az=>bif x.c9 xid then k.wp M (bu e ca (ch _ (fE S az ca))) Q else Q x S az) (fun ad=>by cases ad) (fun x S az af aK=>by rw[af];exact aK)) (fun ad=>by cases ad) (fun x S az af aK=>by rw[af];exact aK)) ?_
   refine ky a (fun x S az r=>?_) (ae i v hi ax)
   cases hx:x.bZ m with
   |true=>rw[hx]at r;exact r
   |false=>
    rw[hx]at r
    cases ay:x.c9 xid with
    |true=>rw[ay]at r;exact l3 k h r
    |false=>rw[ay]at r;exact r
 | .e3 m xid ca a k,e,f,Q,h,q=>by
  obtain⟨I,jG,aa,ae,au⟩:=q;refine⟨I,jG,aa,ae,fun v ax=>?_⟩
  refine l3 a (f:=oA m false (sj xid (k.eX f) f)) (ku.dH (ku.tu h (Q:=fun x S az=>bif x.c9 xid then k.wp M (bu e ca (ch _ (fE S az ca))) Q else Q x S az) (fun ad x S az af=>by rw[af];exact kv k h ad) (fun x S az af aK=>by rw[af];exact aK)) (fun ad=>by cases ad) (fun x S az af aK=>by rw[af];exact aK)) ?_
  refine ky a (fun x S az r=>?_) (au v ax)
  cases hx:x.bZ m with
  |true=>rw[hx]at r;exact r
  |false=>
   rw[hx]at r
   cases ay:x.c9 xid with
   |true=>rw[ay]at r;exact l3 k h r
   |false=>rw[ay]at r;exact r
 | .bad _,_,_,_,_,q=>q.elim
end
def w6(M:List aS)(t:aC)(e:Env):Prop:=t.ie M e (fun _=>true) fun _ _ _=>True
theorem PW{M:List aS}{t:aC}{e:Env}(h:w6 M t e):t.wp M e fun _ _ _=>True:=l3 t (fun _ _ _ _=>trivial) h
section
variable {P:Program} {G:bc} {M:List aS} {inl:Nat→List ab→ar→aC}
theorem cl(b1:fT P G M inl){f:Nat}{m:aS}(t:aC)(aH:inl f (hE 0 m.ps) (qe m.ps.length)=t)(he:t.gB.all (uR m.rs)=true)
 (ai: ∀x,w6 M t (gC 0 (dE m.ps x))=lz m.pre x)(hm: ∀x,w7 M t m.rs (gC 0 (dE m.ps x))=m.m x):bE P G f m:=
 zj0 b1 t aH he (fun x hx=>PW (by rw[ai x];exact hx)) hm
theorem zcH(b1:fT P G M inl){f:Nat}{m:aS}(t:aC)(aH:inl f (hE 0 m.ps) (qe m.ps.length)=t)(he:t.gB.all (uR m.rs)=true)
 (ai: ∀x,lz m.pre x→w6 M t (gC 0 (dE m.ps x)))(hm: ∀x,lz m.pre x→w7 M t m.rs (gC 0 (dE m.ps x))=m.m x):bE P G f m:=
 Pq b1 t aH he (fun x hx=>(kt t (PW (ai x hx))).1) fun x hx=>by rw[←hm x hx];exact(mR t _ _ _).symm
theorem uW(b1:fT P G M inl){f:Nat}{t:TypeId}{c:bR}{ps rs:List aW}{pre:Option ((fg (.st c::ps)).den→Prop)}{oz:(fg (.st c::ps)).den→(fg (.st c::rs)).den}(T:aC)(aH:inl f (.ej 0 0::hE 1 ps) (tP t c ps.length)=T)
 (he:T.gB.all (Pu t c rs)=true)(ai: ∀x,w6 M T (gC 0 (dE (.st c::ps) x))=lz pre x)(hm: ∀x,GI M T t c rs (gC 0 (dE (.st c::ps) x))=oz x):j8 P G f t ⟨.st c::ps,.st c::rs,pre,oz⟩:=
 WQ b1 T aH he (fun x hx=>(kt T (PW (by rw[ai x];exact hx))).1) hm
end
end Go.aN
