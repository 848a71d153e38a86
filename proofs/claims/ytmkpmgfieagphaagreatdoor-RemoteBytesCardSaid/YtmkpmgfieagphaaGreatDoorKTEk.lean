/- TE, part E: contracts out of trees, of functions that are handed an own box. Conditions: none. -/
import Derived.Test.YtmkpmgfieagphaaGreatDoorKTEd
import Derived.Test.YtmkpmgfieagphaaGreatDoorKTDa
import Derived.ProofKit
import Derived.LaidMore
import Derived.OpenShut
import Derived.MakeChecks
import Derived.ChangeArms
import Derived.ReadAgain
import Derived.ChangeBears
import Derived.Stop.Joined
import Derived.SizedLaws
import Derived.Shelf.Strings.Builder1
namespace Go.aL
open Go
section
variable {P:Program} {G:a8} {f:FuncId} {args:List aD} {t:TypeId} {σ:Heap} {R:aD→Heap→Prop}
theorem dG.zh4(h:dG P G f args σ 1 R){Q:aD→List aD→Prop}(fQ: ∀r bV,R r bV→∃v lz cs,aE bV 0=some (.box t lz)∧fU lz cs∧e4 cs=true∧Sub r v∧fF v=true∧Q v cs):
 dG P G f args σ 1 fun v bV=>∃cs,bV=[(0,.box t cs)]∧Q v cs:=by
 intro w β ro ed aa ae au aQ bF
 refine Calls.mono (h w β ro ed aa ae au aQ bF) fun e w' ⟨v,r,bV,dM,ro',cJ,he,ag,dB,hP,cE⟩=>?_
 obtain⟨u,lz,cs,ah,gA,ak,hu,NH,aI⟩:=fQ r bV ag
 have yq: ∀{id:Nat} {o:ek},aE [(0,ek.box t cs)] id=some o→id=0∧o= .box t cs:=fun {id o} ah=>by
  simp only[aE]at ah
  split at ah
  ·rename_i hi;cases ah;exact⟨hi.symm,rfl⟩
  ·cases ah
 have own: ∀b,Own [(0,ek.box t cs)] dM b→Own bV dM b:=fun b ⟨id,o,sg,_,ad⟩=>by
  obtain⟨rfl,rfl⟩:=yq sg;exact⟨0,_,ah,rfl,ad⟩
 refine⟨v,u,[(0,.box t cs)],dM,ro',cJ,he,⟨cs,rfl,aI⟩,nW (hu _ _ _ _ _ _ dB) NH,⟨fun id o sg=>?_,fun id gl o cA b sg zh5 _ _ _ _=>?_,fun b ad an=>hP.fh b ad (own b an),hP.lt⟩,
  ⟨cE.os,cE.tape,cE.output,cE.size,cE.frame,cE.jl,cE.j2,fun b ad=>cE.hk b (own b ad),fun id bd o sg=>?_,fun id o sg=>?_,cE.le⟩⟩
 ·obtain⟨rfl,rfl⟩:=yq sg
  have dh:=hP.c6 0 _ ah
  cases dh with
  |box _ _ b arr aB bf ck ep=>
   refine .box t cs b arr aB bf (by rw[ck,gA.at.1]) fun j x af=>?_
   obtain⟨y,ax,ai⟩:=gA.at.2 j x af;exact nW (ai _ _ _ _ _ _ (ep j y ax)) (m4 ak af)
 ·rw[(yq sg).1,(yq zh5).1]
 ·obtain⟨rfl,rfl⟩:=yq sg
  exact cE.dL 0 bd _ ah
 ·obtain⟨rfl,rfl⟩:=yq sg
  exact cE.new 0 _ ah
end
def tQ(t:TypeId)(c:bL)(n:Nat):ao:=⟨.emp,[(0,.dj t (iT c 0 0 (eY c)))],1,n+1,[]⟩
def N1(t:TypeId)(c:bL)(rs:List aV)(C:ao):Option (List ab):=
 match da C.h 0 with
 |some (.dj bD l)=>match(Nat.beq bD t&&ht (eY c) l)&&(NU rs (C.at 0)&&tM (vQ rs (C.at 0)))with
  |true=>match se C rs (vQ rs (C.at 0))with
   |some xs=>some (.ch l::xs)
   |none=>none
  |false=>none
 |_=>none
def N2(t:TypeId)(c:bL)(rs:List aV)(C:ao):Bool:=(N1 t c rs C).isSome
def Vp(t:TypeId)(c:bL)(rs:List aV)(C:ao)(e:Env):(fc (.st c::rs)).den:=
 match N1 t c rs C with
 |some l=>b9 (.st c::rs) (gD e (.st c::rs) l)
 |none=>(fc (.st c::rs)).fz
def FR(M:List aR)(T:aC)(t:TypeId)(c:bL)(rs:List aV)(e:Env):(fc (.st c::rs)).den:=T.kk M e (fun _ C ay=>Vp t c rs C ay) (fc (.st c::rs)).fz
section
variable {P:Program} {G:a8} {M:List aR} {inl:Nat→List ab→ao→aC}
theorem zh6{c:bL}{i k:Nat}(h:i<k):ab.cL k (iT c i 0 (eY c))=true:=FH h
theorem zh7{rs:List aV}{S:ao}{e:Env}{xs:List ab}(aH:NU rs (S.at 0)=true)(gf:tM (vQ rs (S.at 0))=true)(h:se S rs (vQ rs (S.at 0))=some xs):
 Sub ((S.at 0).den G e) (match(gD e rs xs).map aF.fo with|[v]=>v|l=>.tuple l):=by
 obtain⟨b6,_,a3,a4⟩:=yo (G:=G) (e:=e) h
 rw[a3 gf]at b6
 match rs,b6,a4,aH with
 |[r],b6,a4,aH=>
  obtain⟨d,pg,aw,aa,ae⟩:=lO a4
  cases my ae
  rw[aw]at b6⊢;simp only[vQ,ab.bQ,List.map_cons,List.map_nil]at b6⊢
  cases b6 with
  |cons h _=>exact h
 |[],b6,a4,aH=>
  cases aw:S.at 0 with
  |tp m=>
   rw[aw]at b6;rw[my a4]at b6⊢;exact b6.tuple
  |_=>rw[aw]at aH;cases aH
 |r::s::q,b6,a4,aH=>
  cases aw:S.at 0 with
  |tp m=>
   rw[aw]at b6
   have aq:=congrArg List.length a4
   simp only[List.length_map,List.length_cons]at aq;generalize gD e (r::s::q) xs=ds at b6 aq⊢
   match ds,aq with
   |d::d2::ds,_=>exact b6.tuple
  |_=>rw[aw]at aH;cases aH
theorem Vq(bW:fP P G M inl){f:Nat}{t:TypeId}{c:bL}{ps rs:List aV}{pre:Option ((fc (.st c::ps)).den→Prop)}{oq:(fc (.st c::ps)).den→(fc (.st c::rs)).den}(T:aC)(aH:inl f (.ee 0 0::hA 1 ps) (tQ t c ps.length)=T)
 (he:T.gw.all (N2 t c rs)=true)(ai: ∀x,kP pre x→T.safe M (gx 0 (dy (.st c::ps) x)))(hm: ∀x,FR M T t c rs (gx 0 (dy (.st c::ps) x))=oq x):jk P G f t ⟨.st c::ps,.st c::rs,pre,oq⟩:=fun x hx=>by
 subst aH
 obtain⟨d0,tP,m6,ox,hdr⟩:=lO (tN (rs:=.st c::ps) (x:=x))
 obtain⟨zh2,c7⟩:=d0
 simp only at ox
 subst ox
 have aq:tP.length=ps.length:=by have:=congrArg List.length hdr;rw[List.length_map]at this;exact this
 have ad:(tQ t c ps.length).ct:=⟨fun i x hi=>by simp[tQ,ba.get]at hi,by
  show(ab.cL (ps.length+1) (iT c 0 0 (eY c))&&true)=true;rw[zh6 (Nat.succ_pos _)]
  rfl,rfl⟩
 have h:=bW f (.ee 0 0::hA 1 ps) (tQ t c ps.length) (gx 0 (dy (.st c::ps) x)) ad (by
  show(true&&ab.cL (ps.length+1) (hA 1 ps))=true;rw[Br (by omega)]
  rfl) (fun c hc=>by cases hc) (ai x hx)
 have eK: ∀j d,(⟨.st c,c7⟩::tP)[j]? =some d→Env.at (gx 0 (dy (.st c::ps) x)) j=d:=fun j d af=>by
  have:=NT (ds:=dy (.st c::ps) x) (i:=0) (j:=j) (d:=d) (by rw[m6];exact af)
  rwa[Nat.zero_add]at this
 have hd:ab.bQ G (gx 0 (dy (.st c::ps) x)) (hA 1 ps)=tP.map aF.fo:=Bq hdr fun j d af=>by rw[Nat.add_comm];exact eK (j+1) d (by simpa using af)
 have nQ:cy G (gx 0 (dy (.st c::ps) x)) (tQ t c ps.length).h=[(0,.box t ((cb c c7).map .av))]:=by
  have aM:=eK 0 ⟨.st c,c7⟩ rfl
  simp only[tQ,cy,bG.den];rw[tc,aM,cB]
 have h3:ab.bQ G (gx 0 (dy (.st c::ps) x)) (.ee 0 0::hA 1 ps)= .ptr 0 0::tP.map aF.fo:=by
  show aD.ptr 0 0::_=_;rw[hd]
 rw[h3,nQ]at h
 show dG P G f (.ptr 0 0::(dy (.st c::ps) x).tail.map aF.fo) [(0,.box t (yp (dy (.st c::ps) x)))] 1 _
 rw[m6]
 refine dG.zh4 (Q:=fun v cs=>v=FL (dy (.st c::rs) (oq x))∧cs=yp (dy (.st c::rs) (oq x))) h fun r bV ag=>?_
 obtain⟨aT,ay,cr,rfl,rfl,_⟩:=ag
 have oe:=Vi he cr
 obtain⟨l,mn⟩:=Option.isSome_iff_exists.1 oe
 have sW:=hm x
 unfold FR at sW
 rw[mK,kf cr]at sW
 unfold Vp at sW
 rw[mn]at sW
 simp only at sW
 unfold N1 at mn
 split at mn
 rotate_left
 ·cases mn
 rename_i bD DG ah
 split at mn
 rotate_left
 ·cases mn
 rename_i hc
 simp only[Bool.and_eq_true]at hc
 obtain⟨⟨aW,dq⟩,c8,gj⟩:=hc
 have aW:=Nat.eq_of_beq_eq_true aW
 subst aW
 split at mn
 rotate_left
 ·cases mn
 rename_i xs nU
 cases mn
 obtain⟨_,_,_,a4⟩:=yo (G:=G) (e:=ay) nU
 have vO:(gD ay (.st c::rs) (.ch DG::xs)).map aF.r= .st c::rs:=by simp only[gD,List.map_cons,a4]
 rw[←sW,yn vO]
 exact⟨_,_,_,by rw[ei,ah];rfl,Aq dq,Ds _,zh7 c8 gj nU,by
  have ak:=FF (gD ay rs xs)
  split
  ·rename_i v aw
   rw[aw]at ak;simpa[e4]using ak
  ·exact ak,rfl,rfl⟩
theorem uQ(bW:fP P G M inl){f:Nat}{t:TypeId}{c:bL}{ps rs:List aV}{oq:(fc (.st c::ps)).den→(fc (.st c::rs)).den}(T:aC)(aH:inl f (.ee 0 0::hA 1 ps) (tQ t c ps.length)=T)
 (he:(T.clean&&T.gw.all (N2 t c rs))=true)(hm: ∀x,FR M T t c rs (gx 0 (dy (.st c::ps) x))=oq x):jk P G f t ⟨.st c::ps,.st c::rs,none,oq⟩:=by
 simp only[Bool.and_eq_true]at he
 exact Vq bW T aH he.2 (fun _ _=>rX M he.1) hm
end
end Go.aL
namespace Go.aL
open Go Go.ChangeShapes Go.WideShapes Go.RowKit
inductive jD (P:Program):TypeId→List a6→Prop where
 |bool {t:TypeId} (b:Bool):P.underlying t=some .bool→jD P t [.v (.bool b)]
 |int {t:TypeId} {k:IntKind} (n:Int):P.underlying t=some (.int k)→(Lit.int k n).wf=true→jD P t [.v (.int k n)]
 |str {t:TypeId} (s:ByteArray):P.underlying t=some .string→s.size≤reachBytes→jD P t [.v (.string s)]
 |slice {t e:TypeId} (es:List (List a6)):P.underlying t=some (.slice e)→es.length≤maxLen∧es.length*P.bytesOf e≤reachBytes→(∀x∈es,jD P e x)→jD P t [.aO (P.cellsOf e) es]
 |struct {t:TypeId} {fs:Array Field} (parts:List (List a6)):P.underlying t=some (.struct fs)→parts.length=fs.toList.length→(∀(i:Nat) (f:Field) (p:List a6),fs.toList[i]? =some f→parts[i]? =some p→jD P f.type p)→jD P t parts.flatten
 |array {t e:TypeId} {n:Nat} (parts:List (List a6)):P.underlying t=some (.array n e)→parts.length=n→(∀p∈parts,jD P e p)→jD P t parts.flatten
def tR(P:Program):Nat→TypeId→Bool
 |0,_=>false
 |n+1,t=>decide (t<P.types.size)&&match P.underlying t with
  |some .bool=>true
  |some (.int _)=>true
  |some .string=>true
  |some (.slice e)=>tR P n e
  |some (.array _ e)=>tR P n e
  |some (.struct fs)=>fs.toList.all fun f=>tR P n f.type
  |_=>false
theorem mapM_some{α β:Type}{f:α→Option β}: ∀{l:List α} {r:List β},l.mapM f=some r→r.length=l.length∧∀(i:Nat) (x:α),l[i]? =some x→∃y,f x=some y∧r[i]? =some y
 |[],r,h=>by
  simp at h;subst h;exact⟨rfl,by simp⟩
 |a::l,r,h=>by
  rw[List.mapM_cons]at h
  cases a1:f a with
  |none=>simp[a1]at h
  |some b=>
   cases aq:l.mapM f with
   |none=>simp[a1,aq]at h
   |some cC=>
    simp[a1,aq]at h;subst h;obtain⟨aa,ae⟩:=mapM_some aq;refine⟨by simp[aa],fun i x hx=>?_⟩
    cases i with
    |zero=>simp at hx;subst hx;exact⟨b,a1,rfl⟩
    |succ i=>simpa using ae i x (by simpa using hx)
section
variable {H:Type} {enc:TypeId × Value→H} {P:Program} {w:World}
abbrev l5(w:World):Nat→Prop:=fun b=>b<w.heap.size
theorem OI{a:Addr}{c:Value}(h:w.cell? a=some c):a.block<w.heap.size:=by
 rcases Nat.lt_or_ge a.block w.heap.size with aa|aa
 ·exact aa
 ·exfalso
  have:w.heap[a.block]? =none:=Array.getElem?_eq_none aa
  simp[World.cell?,this]at h
def Fits(P:Program)(w:World)(t:TypeId)(cs:List Value):Prop:=∃rs,jD P t rs∧rs.length=cs.length∧∀j r,rs[j]? =some r→cR w (l5 w) r (cs.getD j undef)
theorem Vr: ∀(fs:List Field) (off:Nat) (cs:List Value),(∀(j:Nat) (f:Field),fs[j]? =some f→f.offset=off+((fs.take j).map fun f=>P.cellsOf f.type).sum)→
 (∀f∈fs,Fits P w f.type ((cs.drop f.offset).take (P.cellsOf f.type)))→off+(fs.map fun f=>P.cellsOf f.type).sum≤cs.length→
 ∃parts:List (List a6),parts.length=fs.length∧(∀(i:Nat) (f:Field) (p:List a6),fs[i]? =some f→parts[i]? =some p→jD P f.type p)∧parts.flatten.length=(fs.map fun f=>P.cellsOf f.type).sum∧
  ∀j r,parts.flatten[j]? =some r→cR w (l5 w) r (cs.getD (off+j) undef)
 |[],off,cs,_,_,_=>⟨[],rfl,by simp,by simp,by simp⟩
 |f::fs,off,cs,an,hf,aq=>by
  have aM:f.offset=off:=by have:=an 0 f rfl;simpa using this
  obtain⟨rs,aa,ae,au⟩:=hf f (by simp)
  simp only[List.map_cons,List.sum_cons]at aq
  have hlen:rs.length=P.cellsOf f.type:=by rw[ae,aM];simp;omega
  obtain⟨parts,g1,g2,g3,g4⟩:=Vr fs (off+P.cellsOf f.type) cs (fun j q aI=>by
   have:=an (j+1) q (by simpa using aI)
   simp only[List.take_succ_cons,List.map_cons,List.sum_cons]at this
   omega) (fun q aI=>hf q (by simp[aI])) (by omega)
  refine⟨rs::parts,by simp[g1],fun i q p aI ak=>?_,by simp[g3,hlen],fun j r af=>?_⟩
  ·cases i with
   |zero=>
    simp at aI ak;subst aI;subst ak;exact aa
   |succ i=>exact g2 i q p (by simpa using aI) (by simpa using ak)
  ·rw[List.flatten_cons]at af
   by_cases cM:j<rs.length
   ·rw[List.getElem?_append_left cM]at af
    have:=au j r af
    have zJ:j<P.cellsOf f.type:=by omega
    rw[aM]at this;simpa[List.getD,List.getElem?_take,List.getElem?_drop,zJ]using this
   ·rw[List.getElem?_append_right (by omega)]at af
    have:=g4 _ r af
    rw[show off+P.cellsOf f.type+(j-rs.length)=off+j from by omega]at this
    exact this
theorem N3{e:TypeId}(n:Nat): ∀(k:Nat) (By:Nat→List Value),(∀i,i<k→Fits P w e (By i)∧(By i).length=n)→
 ∃es:List (List a6),es.length=k∧(∀x∈es,jD P e x∧x.length=n)∧∀j r,es.flatten[j]? =some r→cR w (l5 w) r ((By (j/ n)).getD (j%n) undef)
 |0,_,_=>⟨[],rfl,by simp,by simp⟩
 |k+1,By,h=>by
  obtain⟨⟨rs,aa,ae,au⟩,hn⟩:=h 0 (by omega)
  obtain⟨es,g1,g2,g3⟩:=N3 n k (fun i=>By (i+1)) fun i hi=>h (i+1) (by omega)
  refine⟨rs::es,by simp[g1],fun x hx=>?_,fun j r af=>?_⟩
  ·rcases List.mem_cons.1 hx with rfl|hx
   ·exact⟨aa,by omega⟩
   ·exact g2 x hx
  ·rw[List.flatten_cons]at af
   by_cases cM:j<rs.length
   ·rw[List.getElem?_append_left cM]at af
    have mU:j<n:=by omega
    rw[Nat.div_eq_of_lt mU,Nat.mod_eq_of_lt mU];exact au j r af
   ·rw[List.getElem?_append_right (by omega)]at af
    have:=g3 _ r af
    have yr:0<n:=by
     rcases Nat.eq_zero_or_pos n with aM|aM
     ·exfalso
      have mh:es.flatten.length=es.length*n:=j3 fun x hx=>(g2 x hx).2
      have:=(List.getElem?_eq_some_iff.1 af).1
      rw[mh,aM]at this;simp at this
     ·exact aM
    have aB:j-rs.length=j-n:=by omega
    rw[aB]at this
    have bf:(j-n)/ n+1=j/ n:=(Nat.div_eq_sub_div yr (by omega)).symm
    have ck:(j-n)%n=j%n:=(Nat.mod_eq_sub_mod (by omega)).symm
    simp only[bf,ck]at this;exact this
theorem Bz{t:TypeId}{r:a6}{c:Value}(h:jD P t [r])(ag:cR w (l5 w) r c):Fits P w t [c]:=
 ⟨[r],h,rfl,fun j x af=>by
  cases j with
  |zero=>simp at af;subst af;exact ag
  |succ j=>simp at af⟩
theorem Vs{base:Nat}{a:Addr}{n:Nat}{l:List Value}(h:w.cells? base a n=some l):l.length=n∧∀i,i<n→w.cell? (a.add i)=l[i]? :=by
 unfold World.cells? at h
 split at h
 ·obtain⟨aa,ae⟩:=mapM_some h
  refine⟨by simpa using aa,fun i hi=>?_⟩
  obtain⟨y,ax,aq⟩:=ae i i (by simp[hi])
  rw[aq,ax]
 ·cases h
theorem N4{e:TypeId}: ∀{l:List (DataW H)} {d:DataW H},d∈l→∀n∈d.weights P e,n∈DataW.weightsAll P e l
 |d0::l,d,hd,n,hn=>by
  simp only[DataW.weightsAll,List.mem_append]
  rcases List.mem_cons.1 hd with rfl|hd
  ·exact .inl hn
  ·exact .inr (N4 hd n hn)
theorem FT(K:Kids P (· < P.types.size)): ∀(m n:Nat) (t:TypeId) (cs:List Value) (x:DataW H × List MemPlace) {base:Nat} {sp:Nat→Bool} {held:Bool},tR P m t=true→
 DataW.trod enc P w base sp held n t cs=some x→(∀q∈x.1.weights P t,q≤reachBytes)→Fits P w t cs
 |0,_,_,_,_,_,_,_,ak,_,_=>by simp[tR]at ak
 |m+1,n,t,cs,x,base,sp,held,ak,h,fi=>by
  simp only[tR,Bool.and_eq_true,decide_eq_true_eq]at ak;obtain⟨cZ,ak⟩:=ak
  cases hu:P.underlying t with
  |none=>rw[hu]at ak;cases ak
  |some d=>
   rw[hu]at ak
   cases d with
   |bool=>
    obtain⟨b,rfl,_⟩:=DataW.trod_bool hu h;exact Bz (.bool b hu) (.v _ rfl)
   |int k=>
    obtain⟨b,rfl,_,hw⟩:=DataW.trod_int hu h;exact Bz (.int b hu hw) (.v _ rfl)
   |string=>
    obtain⟨b,rfl,hx,hw⟩:=DataW.trod_string hu h;rw[hx]at fi;exact Bz (.str b hu (by simpa[DataW.weights]using fi)) (.v _ rfl)
   |slice e=>
    rcases DataW.trod_slice hu h with⟨rfl,_⟩|⟨a,len,cap,elems,rest,k,rfl,rfl,hx,_,hle,ig,nS,eK,_⟩
    ·exact Bz (.slice [] hu ⟨Nat.zero_le _,by simp⟩ (by simp)) (.aO _ [] none 0 (fun _=>undef) (Nat.le_refl _) (Nat.zero_le _) (by simp) (by simp) (by simp))
    ·rw[hx]at fi
     simp only[DataW.weights,hu,List.mem_cons,List.mem_append,List.length_map]at fi
     have zZ:len*P.bytesOf e≤reachBytes:=Nat.le_trans (Nat.mul_le_mul_right _ (by rw[nS];exact Nat.le_add_right _ _)) (fi _ (.inl rfl))
     have Vt: ∀i,i<len→∃l,w.cells? base (a.add (i*P.cellsOf e)) (P.cellsOf e)=some l∧Fits P w e l:=by
      intro i hi
      have aa:=eK i hi
      rw[List.getElem?_eq_getElem (by omega)]at aa
      cases hc:w.cells? base (a.add (i*P.cellsOf e)) (P.cellsOf e)with
      |none=>rw[hc]at aa;cases aa
      |some l=>rw[hc]at aa;exact⟨l,rfl,FT K m k e l _ ak aa fun q aI=>fi q (.inr (.inl (N4 (List.mem_map_of_mem (List.getElem_mem _)) q aI)))⟩
     obtain⟨es,g1,g2,g3⟩:=N3 (P:=P) (w:=w) (e:=e) (P.cellsOf e) len (fun i=>(w.cells? base (a.add (i*P.cellsOf e)) (P.cellsOf e)).getD []) fun i hi=>by
      obtain⟨l,aa,ae⟩:=Vt i hi;rw[aa];exact⟨ae,(Vs aa).1⟩
     have hlen:es.length=len:=g1
     refine Bz (.slice es hu ⟨by omega,by rw[hlen];exact zZ⟩ fun x hx=>(g2 x hx).1) ?_
     rw[←hlen];refine .aO _ es (some a) cap (fun j=>((w.cells? base (a.add (j/ P.cellsOf e*P.cellsOf e)) (P.cellsOf e)).getD []).getD (j%P.cellsOf e) undef) (by omega) ig (fun x hx=>(g2 x hx).2) (fun _=>⟨a,rfl,fun j af=>?_⟩) g3
     have yr:0<P.cellsOf e:=by
      rcases Nat.eq_zero_or_pos (P.cellsOf e)with aM|aM
      ·rw[aM]at af;simp at af
      ·exact aM
     have nY:j/ P.cellsOf e<len:=by rw[Nat.div_lt_iff_lt_mul yr];rw[hlen]at af;exact af
     have nX:j%P.cellsOf e<P.cellsOf e:=Nat.mod_lt _ yr
     obtain⟨l,aa,_⟩:=Vt _ nY;obtain⟨ae,au⟩:=Vs aa
     have aQ:=au _ nX
     rw[zC,Nat.mul_comm,Nat.div_add_mod]at aQ;rw[aa]
     have bF:w.cell? (a.add j)=some (l.getD (j%P.cellsOf e) undef):=by
      rw[aQ]
      have:j%P.cellsOf e<l.length:=by omega
      simp[List.getD,List.getElem?_eq_getElem this]
     exact⟨by have:=OI bF;rwa[qi]at this,bF⟩
   |array k e=>
    obtain⟨xs,q,rfl,hx,jo,jL,eK⟩:=DataW.trod_array hu h;rw[hx]at fi;simp only[DataW.weights,hu]at fi
    obtain⟨es,g1,g2,g3⟩:=N3 (P:=P) (w:=w) (e:=e) (P.cellsOf e) k (fun i=>(cs.drop (i*P.cellsOf e)).take (P.cellsOf e)) fun i hi=>by
     have aa:=eK i hi
     rw[List.getElem?_eq_getElem (by omega)]at aa
     refine⟨FT K m q e _ _ ak aa fun z aS=>fi z (N4 (List.mem_map_of_mem (List.getElem_mem _)) z aS),?_⟩
     have ae:=Nat.mul_le_mul_right (P.cellsOf e) (show i+1≤k from hi)
     rw[Nat.succ_mul]at ae
     have:=(K.array cZ hu).2
     simp;omega
    refine⟨es.flatten,.array es hu g1 fun p ak=>(g2 p ak).1,?_,fun j r af=>?_⟩
    ·rw[j3 fun x hx=>(g2 x hx).2,g1,jo,(K.array cZ hu).2]
    ·have:=g3 j r af
     have cM:=(List.getElem?_eq_some_iff.1 af).1
     have yr:0<P.cellsOf e:=by
      rcases Nat.eq_zero_or_pos (P.cellsOf e)with aM|aM
      ·rw[j3 fun x hx=>(g2 x hx).2,aM]at cM;simp at cM
      ·exact aM
     have nX:j%P.cellsOf e<P.cellsOf e:=Nat.mod_lt _ yr
     have hm:j/ P.cellsOf e*P.cellsOf e+j%P.cellsOf e=j:=by rw[Nat.mul_comm];exact Nat.div_add_mod _ _
     simpa[List.getD,List.getElem?_take,List.getElem?_drop,nX,hm]using this
   |struct fs=>
    obtain⟨xs,q,rfl,hx,jo,jL,eK⟩:=DataW.trod_struct hu h;rw[hx]at fi;simp only[DataW.weights,hu]at fi;obtain⟨_,yH,zL⟩:=K.struct cZ hu
    obtain⟨parts,g1,g2,g3,g4⟩:=Vr (P:=P) (w:=w) fs.toList 0 cs (fun j f hf=>by rw[zL j f hf];simp) (fun f hf=>by
     obtain⟨i,hi,rfl⟩:=List.mem_iff_getElem.1 hf
     have zh8:fs[i]? =some fs.toList[i]:=by simp at hi;simp[hi]
     have aa:=eK i _ zh8
     have vK:i<xs.length:=by rw[jL];simpa using hi
     rw[List.getElem?_eq_getElem vK]at aa
     rw[List.all_eq_true]at ak
     exact FT K m q _ _ _ (ak _ (List.getElem_mem hi)) aa fun z aS=>fi z (DataW.weights_mem_each (j:=i) (by rw[List.getElem?_map,List.getElem?_eq_getElem hi];rfl) (by rw[List.getElem?_map,List.getElem?_eq_getElem vK];rfl) z aS)) (by rw[jo,yH];omega)
    exact⟨parts.flatten,.struct parts hu g1 g2,by rw[g3,jo,yH],fun j r af=>by have:=g4 j r af;simpa using this⟩
   |_=>cases ak
theorem zh9(K:Kids P (· < P.types.size)){m:Nat}{t:TypeId}(ak:tR P m t=true){v:Value}{d:DataW H}{ps:List MemPlace}{base:Nat}{sp:Nat→Bool}{held:Bool}(h:DataW.Trod enc P w base sp held t v d ps)(fi: ∀q∈d.weights P t,q≤reachBytes):Fits P w t v.cells.toList:=by
 obtain⟨n,hn⟩:=h
 exact FT K m n t _ _ ak hn fi
theorem Fits.agg{t:TypeId}{cs:Array Value}(h:Fits P w t cs.toList){β:Nat→Value}{N:Nat}: ∃rs,jD P t rs∧bs w (l5 w) [] β N (.agg (zdI rs)) (.agg cs):=by
 obtain⟨rs,aa,ae,au⟩:=h
 refine⟨rs,aa,.agg _ cs (by simpa using ae.symm) fun j x af=>?_⟩
 rw[List.getElem?_map]at af
 cases ag:rs[j]? with
 |none=>simp[ag]at af
 |some r=>
  simp[ag]at af;subst af
  have:=au j r ag
  exact .av _ _ (by simpa[List.getD,Array.getD_eq_getD_getElem?]using this)
theorem Fits.one{t:TypeId}{v:Value}(h:Fits P w t v.cells.toList)(aw:v.cells= #[v]){β:Nat→Value}{N:Nat}: ∃r,jD P t [r]∧bs w (l5 w) [] β N (.av r) v:=by
 obtain⟨rs,aa,ae,au⟩:=h
 rw[aw]at ae
 match rs,ae,aa,au with
 |[r],_,aa,au=>
  have:=au 0 r rfl
  rw[aw]at this;exact⟨r,aa,.av _ _ (by simpa using this)⟩
def fieldTypes(P:Program)(t:TypeId):Option (List TypeId):=
 match P.underlying t with
 |some (.struct fs)=>some (fs.toList.map (·.type))
 |_=>none
def N5(P:Program)(t:TypeId):Bool:=
 match P.underlying t with
 |some .bool=>true
 |some (.int _)=>true
 |some .string=>true
 |some (.slice _)=>true
 |_=>false
theorem zia{r:Reach}{oc:Nat}{t:TypeId}{v:Value}(h:Value.okWide P w r oc t v)(ai:N5 P t=true):v.cells= #[v]:=by
 unfold N5 at ai
 split at ai
 ·rename_i hu
  simp only[Value.okWide,hu,Cell.okWide,Cell.ok]at h
  cases v<;>first|rfl|exact h.elim
 ·rename_i hu
  simp only[Value.okWide,hu,Cell.okWide,Cell.ok]at h
  cases v<;>first|rfl|exact h.elim
 ·rename_i hu
  simp only[Value.okWide,hu,Cell.okWide,Cell.ok]at h
  cases v<;>first|rfl|exact h.elim
 ·rename_i hu
  simp only[Value.okWide,hu,Cell.okWide,Cell.ok]at h
  cases v<;>first|rfl|exact h.elim
 ·cases ai
theorem zib{r:Reach}{oc:Nat}{t:TypeId}{v:Value}(h:Value.okWide P w r oc t v)(ai:(fieldTypes P t).isSome=true): ∃cs,v= .agg cs:=by
 unfold fieldTypes at ai
 split at ai
 ·rename_i hu
  simp only[Value.okWide,hu]at h;obtain⟨cs,rfl,_⟩:=h;exact⟨cs,rfl⟩
 ·cases ai
theorem V4{t e n:Nat}{cs:List Value}{d:DataW H}{ps:List MemPlace}{fuel base:Nat}{sp:Nat→Bool}{held:Bool}(K:Kids P (· < P.types.size))(cZ:t<P.types.size)(hu:P.underlying t=some (.array n e))(he:P.underlying e=some .string)(hc:P.cellsOf e=1)
 (h:DataW.trod enc P w base sp held fuel t cs=some (d,ps)): ∃l:List ByteArray,cs=l.map Value.string∧d= .agg (l.map fun s=>.lit (.string s.data.toList)):=by
 obtain⟨xs,q,rfl,hx,jo,jL,eK⟩:=DataW.trod_array hu h
 have Vu:cs.length=n:=by rw[jo,(K.array cZ hu).2,hc,Nat.mul_one]
 have o0: ∀i (hi:i<n),∃s:ByteArray,cs[i]? =some (.string s)∧(xs[i]?).map (·.1)=some (.lit (.string s.data.toList)):=by
  intro i hi
  have aa:=eK i hi
  have vK:i<xs.length:=by omega
  rw[List.getElem?_eq_getElem vK]at aa
  obtain⟨s,ae,au,_⟩:=DataW.trod_string he aa;rw[hc,Nat.mul_one]at ae;refine⟨s,?_,by rw[List.getElem?_eq_getElem vK,Option.map_some,au]⟩
  have:=congrArg (·[0]?) ae
  simpa[List.getElem?_take,List.getElem?_drop]using this
 have key: ∀(m:Nat),m≤n→∃l:List ByteArray,cs.take m=l.map Value.string∧(xs.take m).map (·.1)=l.map fun s=>.lit (.string s.data.toList):=by
  intro m
  induction m with
  |zero=>intro _;exact⟨[],by simp,by simp⟩
  |succ m aY=>
   intro hm;obtain⟨l,aa,ae⟩:=aY (by omega)
   obtain⟨s,g1,g2⟩:=o0 m (by omega)
   refine⟨l++[s],?_,?_⟩
   ·rw[List.take_add_one,aa,g1];simp
   ·rw[List.take_add_one,List.map_append,ae,List.map_append]
    cases fS:xs[m]? with
    |none=>rw[fS]at g2;cases g2
    |some y=>rw[fS]at g2;simp at g2;simp[g2]
 obtain⟨l,aa,ae⟩:=key n (Nat.le_refl _)
 rw[List.take_of_length_le (by omega)]at aa ae
 simp only[Prod.mk.injEq]at hx
 exact⟨l,aa,by rw[hx.1,ae]⟩
theorem V5{l m:List ByteArray}(h:(l.map fun s=>(DataW.lit (H:=H) (.string s.data.toList)))=m.map fun s=>.lit (.string s.data.toList)):l=m:=by
 induction l generalizing m with
 |nil=>cases m with
  |nil=>rfl
  |cons=>simp at h
 |cons a l aY=>cases m with
  |nil=>simp at h
  |cons b m=>
   simp only[List.map_cons,List.cons.injEq,DataW.lit.injEq,Lit.string.injEq]at h;obtain⟨aa,ae⟩:=h
   have:a=b:=by
    cases a;cases b
    simp only[ByteArray.mk.injEq];exact Array.ext' aa
   rw[this,aY ae]
theorem zic{w':World}{p:MemPlace}(ak:p.block<w.heap.size)(h: ∀b,b<w.heap.size→w'.heap[b]? =w.heap[b]?):w.sameAt w' p:=by
 cases p with
 |cell b off=>exact World.cell?_of_block (a:=⟨b,off,none⟩) (h b ak)
 |map b=>exact h b ak
theorem Vv{w':World}(h: ∀b,b<w.heap.size→w'.heap[b]? =w.heap[b]?){base:Nat}{sp:Nat→Bool}{held:Bool}: ∀{ts:List TypeId} {vs:List Value} {ds:List (DataW H)} {ps:List MemPlace},DataW.TrodAll enc P w base sp held ts vs ds ps→DataW.TrodAll enc P w' base sp held ts vs ds ps
 |[],[],[],_,h=>h
 |_::_,_::_,_::_,_,⟨p,q,⟨n,hn⟩,ae,e⟩=>
  ⟨p,q,⟨n,DataW.trod_carry n _ _ _ hn fun x hx=>zic (DataW.trod_lt n _ _ _ hn x hx) h⟩,Vv h ae,e⟩
theorem zid{w':World}{may:MemPlace→Prop}(aa:w'.os=w.os)(ae:w'.output=w.output)(h: ∀b,b<w.heap.size→w'.heap[b]? =w.heap[b]?):w.keptBut w' may:=by
 refine⟨aa,ae,fun i hi=>?_⟩
 rw[h i hi]
 cases hw:w.heap[i]? with
 |none=>rfl
 |some o=>
  cases o with
  |cells c t tV=>exact⟨rfl,rfl,rfl,fun _ _=>rfl⟩
  |map es clock=>exact .inr ⟨rfl,rfl⟩
  |_=>rfl
theorem zie{G:a8}{f:FuncId}{fn:Func}{s:ChangeSpec}{args:Array Value}{ds gs:List (DataW H)}{before:List MemPlace}{tb:TypeId}{avs':List aD}{β:Nat→Value}
 (hG:DataW.Whole enc P fn.params.toList s.vars false w args.toList ds gs before)(aw:s.vars=[])(ai:s.fn H (ds++gs)={results:=[.lit (.bool true)],args:=ds})(rD:fn.resultTypes= #[tb])(N6:P.underlying tb=some .bool)
 (K:Kids P (· < P.types.size))(aS: ∀t e,t<P.types.size→P.underlying t=some (.slice e)→0<P.cellsOf e)(uG: ∀t∈fn.params.toList,t<P.types.size)
 (hlen:args.size=avs'.length)(h3: ∀i x,avs'[i]? =some x→bs w (l5 w) [] β 0 x (args.getD i undef))(k5:sq w (l5 w) G)(hc:dG P G f avs' [] 0 fun r bV=>r=pM true∧bV=[]):
 Calls P f args w fun e w'=>∃v,e= .returned v∧s.post enc P fn false true false false w args v w':=by
 refine Calls.mono (hc w β (l5 w) args hlen h3 ⟨by simp[aE],by simp[aE],fun b _ ⟨_,_,ah,_⟩=>by simp[aE]at ah,fun b ad=>ad⟩ k5 (by simp[aE])) fun e w' aI=>?_
 obtain⟨v,r,eV,dM,ro',cJ,rfl,⟨rfl,rfl⟩,dB,_,aH⟩:=aI
 obtain rfl:=bs.val dB
 have bb: ∀b,b<w.heap.size→w'.heap[b]? =w.heap[b]? :=fun b ad=>aH.frame b ad fun⟨_,_,ah,_⟩=>by simp[aE]at ah
 refine⟨_,rfl,ds,gs,before,[],before,[],hG,?_,?_,?_,zid aH.os aH.output bb,fun h=>by cases h⟩
 ·rw[ai,rD]
  exact trodAll_mk1 (shut_bool N6 true)
 ·rw[ai]
  have bH: ∀p∈before,(fun b=>decide (b<w.heap.size)) p.block=true:=fun p ak=>by simpa using hG.lt p ak
  obtain⟨p,q,aa,ae,rfl,_⟩:=hG;rw[aw]at ae
  have aI:q=[]:=by
   cases gs with
   |nil=>exact ae
   |cons=>cases ae
  subst aI;rw[List.append_nil]at bH⊢;exact Vv bb (aa.respare K aS uG bH)
 ·rw[ai,aw]
  rfl
end
end Go.aL
namespace Go.aL
open Go Go.ChangeShapes Go.WideShapes
def yt:List (Option (List aV))→Option (List aV)
 |[]=>some []
 |none::_=>none
 |some l::r=>match yt r with
  |some m=>some (l++m)
  |none=>none
def BA:List aV→List aV→Bool
 |[],[]=>true
 |a::l,b::m=>hT a b&&BA l m
 |_,_=>false
theorem N7: ∀{l m:List aV},BA l m=true→l=m
 |[],[],_=>rfl
 |[],_::_,h=>by cases h
 |_::_,[],h=>by cases h
 |a::l,b::m,h=>by
  simp only[BA,Bool.and_eq_true]at h;rw[hs h.1,N7 h.2]
def l0(P:Program)(T:List (Nat × bL)):Nat→TypeId→Option (List aV)
 |0,_=>none
 |n+1,t=>match P.underlying t with
  |some .bool=>some [.bool]
  |some (.int k)=>some [.int k]
  |some .string=>some [.str]
  |some (.slice e)=>match tw T e,l0 P T n e with
   |some c,some l=>match BA l (eY c)&&Nat.beq (P.cellsOf e) (bZ c)with
    |true=>some [.li c]
    |false=>none
   |_,_=>none
  |some (.array k e)=>yt (List.replicate k (l0 P T n e))
  |some (.struct fs)=>yt (fs.toList.map fun f=>l0 P T n f.type)
  |_=>none
inductive lG:aF→Prop where
 |int (k:IntKind) (x:Int):(Lit.int k x).wf=true→lG ⟨.int k,x⟩
 |bool (b:Bool):lG ⟨.bool,b⟩
 |str (s:ByteArray):s.size≤reachBytes→lG ⟨.str,s⟩
 |li (c:bL) (l:List (fO c)):l.length≤maxLen→(∀x∈l,∀d∈k2 c x,lG d)→lG ⟨.li c,l⟩
inductive sh:List (List a6)→List (List a6)→Prop where
 |nil:sh [] []
 |cons {x y:List a6} {xs ys:List (List a6)}:ga x y→sh xs ys→sh (x::xs) (y::ys)
theorem sh.flat{xs ys:List (List a6)}(h:sh xs ys):ga xs.flatten ys.flatten:=by
 induction h with
 |nil=>exact .nil
 |cons h _ aY=>rw[List.flatten_cons,List.flatten_cons];exact h.append aY
theorem sh.len{xs ys:List (List a6)}(h:sh xs ys):xs.length=ys.length:=by
 induction h with
 |nil=>rfl
 |cons h _ aY=>simp[aY]
theorem zif{c:bL}{n:Nat}{es:List (List a6)}{l:List (fO c)}(hn:n=bZ c)(h:sh es (l.map (cb c))):lQ (.aO n es) (.li c l):=by
 subst hn
 intro w ro v ag
 refine .li _ _ _ ?_
 cases ag with
 |aO _ _ b cap zig aa ae au aQ bF=>
  have hlen:(l.map (cb c)).length=es.length:=h.len.symm
  rw[←hlen];refine .aO _ _ b cap zig (by omega) ae (fun e he=>?_) (fun ak=>?_) fun j y af=>?_
  ·obtain⟨x,_,rfl⟩:=List.mem_map.1 he
   exact DL c x
  ·rw[hlen]at ak⊢
   exact aQ ak
  ·obtain⟨x,hx,ai⟩:=h.flat.at.2 j y af
   exact ai _ _ _ (bF j x hx)
section
variable {P:Program} {T:List (Nat × bL)}
theorem N8{n:Nat}(aY: ∀{t:TypeId} {rs:List a6} {l:List aV},jD P t rs→l0 P T n t=some l→∃ds:List aF,ds.map aF.r=l∧ga rs (ds.map aF.av)∧∀d∈ds,lG d):
 ∀(ts:List TypeId) (parts:List (List a6)) {l:List aV},parts.length=ts.length→(∀(i:Nat) (t:TypeId) (p:List a6),ts[i]? =some t→parts[i]? =some p→jD P t p)→yt (ts.map (l0 P T n))=some l→
 ∃ds:List aF,ds.map aF.r=l∧ga parts.flatten (ds.map aF.av)∧∀d∈ds,lG d
 |[],parts,l,aq,_,hc=>by
  cases List.eq_nil_of_length_eq_zero aq
  cases hc;exact⟨[],rfl,.nil,by simp⟩
 |t::ts,[],l,aq,_,_=>by cases aq
 |t::ts,p::parts,l,aq,ai,hc=>by
  simp only[List.map_cons]at hc
  cases aa:l0 P T n t with
  |none=>rw[aa]at hc;cases hc
  |some sM=>
   rw[aa]at hc;simp only[yt]at hc
   cases ae:yt (ts.map (l0 P T n))with
   |none=>rw[ae]at hc;cases hc
   |some CH=>
    rw[ae]at hc;cases hc;obtain⟨d1,b6,a2,a3⟩:=aY (ai 0 t p rfl rfl) aa;obtain⟨d2,gq,iq,hV⟩:=N8 aY ts parts (by simpa using aq) (fun i t p hi ak=>ai (i+1) t p (by simpa using hi) (by simpa using ak)) ae
    refine⟨d1++d2,by simp[b6,gq],by rw[List.flatten_cons,List.map_append];exact a2.append iq,fun d hd=>?_⟩
    rcases List.mem_append.1 hd with hd|hd
    ·exact a3 d hd
    ·exact hV d hd
theorem Vw{c:bL}{e:TypeId}(aY: ∀{rs:List a6},jD P e rs→∃ds:List aF,ds.map aF.r=eY c∧ga rs (ds.map aF.av)∧∀d∈ds,lG d):
 ∀(es:List (List a6)),(∀x∈es,jD P e x)→∃l:List (fO c),sh es (l.map (cb c))∧∀x∈l,∀d∈k2 c x,lG d
 |[],_=>⟨[],.nil,by simp⟩
 |x::es,h=>by
  obtain⟨ds,b6,a2,a3⟩:=aY (h x (by simp))
  obtain⟨l,gq,iq⟩:=Vw aY es fun y ax=>h y (by simp[ax])
  have hc:k2 c (pd c ds)=ds:=DN c ds b6
  refine⟨pd c ds::l,.cons (by unfold cb;rw[hc];exact a2) gq,fun y ax d hd=>?_⟩
  rcases List.mem_cons.1 ax with rfl|ax
  ·rw[hc]at hd
   exact a3 d hd
  ·exact iq y ax d hd
theorem BB: ∀(n:Nat) {t:TypeId} {rs:List a6} {l:List aV},jD P t rs→l0 P T n t=some l→∃ds:List aF,ds.map aF.r=l∧ga rs (ds.map aF.av)∧∀d∈ds,lG d
 |0,_,_,_,_,h=>by cases h
 |n+1,t,rs,l,h,hf=>by
  unfold l0 at hf
  cases h with
  |bool b hu=>
   rw[hu]at hf;cases hf;exact⟨[⟨.bool,b⟩],rfl,.cons (lQ.refl _) .nil,fun d hd=>by cases List.mem_singleton.1 hd;exact .bool b⟩
  |int x hu hw=>
   rw[hu]at hf;cases hf;exact⟨[⟨.int _,x⟩],rfl,.cons (lQ.refl _) .nil,fun d hd=>by cases List.mem_singleton.1 hd;exact .int _ _ hw⟩
  |str s hu hw=>
   rw[hu]at hf;cases hf;exact⟨[⟨.str,s⟩],rfl,.cons (lQ.refl _) .nil,fun d hd=>by cases List.mem_singleton.1 hd;exact .str _ hw⟩
  |slice es hu aq hw=>
   rw[hu]at hf;simp only at hf
   split at hf
   ·rename_i c sM _ ae
    split at hf
    ·rename_i hc
     cases hf;simp only[Bool.and_eq_true]at hc
     have au:=N7 hc.1
     subst au;obtain⟨l,b6,a2⟩:=Vw (c:=c) (fun hx=>BB n hx ae) es hw;refine⟨[⟨.li c,l⟩],rfl,.cons (zif (Nat.eq_of_beq_eq_true hc.2) b6) .nil,fun d hd=>?_⟩
     cases List.mem_singleton.1 hd
     exact .li _ _ (by have:=b6.len;rw[List.length_map]at this;have:=aq.1;omega) a2
    ·cases hf
   ·cases hf
  |struct parts hu aa ae=>
   rw[hu]at hf;simp only at hf;rename_i fs
   have hm:(fs.toList.map fun f=>l0 P T n f.type)=(fs.toList.map (·.type)).map (l0 P T n):=by rw[List.map_map];rfl
   rw[hm]at hf
   obtain⟨ds,b6,a2,a3⟩:=N8 (fun hx ax=>BB n hx ax) _ parts (by rw[List.length_map];exact aa) (fun i u p hi ak=>by
    rw[List.getElem?_map]at hi
    cases N9:fs.toList[i]? with
    |none=>rw[N9]at hi;cases hi
    |some f=>
     rw[N9]at hi;cases hi
     exact ae i f p N9 ak) hf
   exact⟨ds,b6,a2,a3⟩
  |array parts hu aa ae=>
   rw[hu]at hf;simp only at hf;rename_i e k
   have hm:List.replicate k (l0 P T n e)=(List.replicate k e).map (l0 P T n):=by rw[List.map_replicate]
   rw[hm]at hf
   obtain⟨ds,b6,a2,a3⟩:=N8 (fun hx ax=>BB n hx ax) _ parts (by rw[List.length_replicate];exact aa) (fun i u p hi ak=>by
    have:=List.mem_of_getElem? hi
    cases (List.mem_replicate.1 this).2
    exact ae p (List.mem_of_getElem? ak)) hf
   exact⟨ds,b6,a2,a3⟩
def Oa(P:Program)(T:List (Nat × bL))(t:TypeId):Option aV:=
 match(fieldTypes P t).isSome with
 |true=>match tw T t,l0 P T 20 t with
  |some c,some l=>match BA l (eY c)with
   |true=>some (.st c)
   |false=>none
  |_,_=>none
 |false=>match N5 P t,l0 P T 20 t with
  |true,some [r]=>match r.one with
   |true=>some r
   |false=>none
  |_,_=>none
def FU(P:Program)(T:List (Nat × bL)):List TypeId→Option (List aV)
 |[]=>some []
 |t::ts=>match tR P 20 t,Oa P T t,FU P T ts with
  |true,some r,some rs=>some (r::rs)
  |_,_,_=>none
def tW(d:aF):Prop:=
 match d with
 |⟨.st c,x⟩=>∀q∈k2 c x,lG q
 |d=>lG d
variable {H:Type} {enc:TypeId × Value→H} {w:World}
theorem zih{β:Nat→Value}{t:TypeId}{v:Value}{r:aV}{reach:Reach}{oc:Nat}(hf:Fits P w t v.cells.toList)(aw:Value.okWide P w reach oc t v)(h:Oa P T t=some r): ∃x:r.den,bs w (l5 w) [] β 0 (aF.fo ⟨r,x⟩) v∧tW ⟨r,x⟩:=by
 unfold Oa at h
 split at h
 ·rename_i ai
  split at h
  ·rename_i c l _ aq
   split at h
   ·rename_i hc
    cases h;obtain rfl:=N7 hc;obtain⟨cs,rfl⟩:=zib aw ai;obtain⟨rs,g1,g2⟩:=Fits.agg (P:=P) (w:=w) (cs:=cs) hf (β:=β) (N:=0);obtain⟨ds,b6,a2,a3⟩:=BB 20 g1 aq
    have hc:k2 c (pd c ds)=ds:=DN c ds b6
    refine⟨pd c ds,?_,fun q aI=>a3 q (by rw[←hc];exact aI)⟩
    have vL:aF.fo ⟨.st c,pd c ds⟩= .agg ((ds.map aF.av).map .av):=by
     show aD.agg ((cb c (pd c ds)).map .av)=_;unfold cb;rw[hc]
    rw[vL];exact(ga.fo a2).agg _ _ _ _ _ _ g2
   ·cases h
  ·cases h
 ·split at h
  ·rename_i eQ an aq
   split at h
   ·rename_i aa
    cases h;obtain⟨y,g1,g2⟩:=Fits.one (P:=P) (w:=w) hf (zia aw an) (β:=β) (N:=0);obtain⟨ds,b6,a2,a3⟩:=BB 20 g1 aq;obtain⟨d,pg,rfl,rfl,hn⟩:=lO b6
    cases my hn
    cases a2 with
    |cons ai _=>
     have dD:=U8 aa
     refine⟨d.v,?_,?_⟩
     ·show bs w (l5 w) [] β 0 (aF.fo d) v
      have:aF.fo d= .av d.av:=U7 (x:=d.v) dD
      rw[this];exact ai.fo _ _ _ _ _ _ g2
     ·have:=a3 d (List.mem_singleton.2 rfl)
      unfold tW
      split
      ·rename_i c x heq
       exact absurd (congrArg aF.r heq) (dD c)
      ·exact this
   ·cases h
  ·cases h
theorem Vx(K:Kids P (· < P.types.size)){β:Nat→Value}{base oc:Nat}{sp:Nat→Bool}{held:Bool}{reach:Reach}: ∀{ts:List TypeId} {vs:List Value} {ds:List (DataW H)} {ps:List MemPlace} {rs:List aV},DataW.TrodAll enc P w base sp held ts vs ds ps→FU P T ts=some rs→
 (∀q∈DataW.weightsEach P ts ds,q≤reachBytes)→(∀(j:Nat) t v,ts[j]? =some t→vs[j]? =some v→Value.okWide P w reach oc t v)→
 ds.length=ts.length∧∃dl:List aF,dl.map aF.r=rs∧dl.length=vs.length∧(∀(j:Nat) x,(dl.map aF.fo)[j]? =some x→∃v,vs[j]? =some v∧bs w (l5 w) [] β 0 x v)∧∀d∈dl,tW d
 |[],vs,ds,ps,rs,h,ak,_,_=>by
  obtain⟨rfl,rfl,rfl⟩:=trodAll_nil h;cases ak;exact⟨rfl,[],rfl,rfl,by simp,by simp⟩
 |t::ts,vs,ds,ps,rs,h,ak,hw,an=>by
  obtain⟨v,zkb,d,pg,p,q,rfl,rfl,rfl,aa,ae⟩:=trodAll_cons h;unfold FU at ak
  split at ak
  ·rename_i r zkc rH ag gM
   cases ak;obtain⟨g0,dl,g1,g2,g3,g4⟩:=Vx K ae gM (fun q aI=>hw q (by rw[DataW.weightsEach];exact List.mem_append_right _ aI)) fun j bD bh af s9=>an (j+1) bD bh (by simpa using af) (by simpa using s9)
   obtain⟨x,b6,a2⟩:=zih (β:=β) (zh9 K rH aa fun q aI=>hw q (by rw[DataW.weightsEach];exact List.mem_append_left _ aI)) (an 0 t v rfl rfl) ag
   refine⟨by simp[g0],⟨r,x⟩::dl,by simp[g1],by simp[g2],fun j y af=>?_,fun d hd=>?_⟩
   ·cases j with
    |zero=>simp at af;subst af;exact⟨v,rfl,b6⟩
    |succ j=>simpa using g3 j y (by simpa using af)
   ·rcases List.mem_cons.1 hd with rfl|hd
    ·exact a2
    ·exact g4 d hd
  ·cases ak
theorem Vy{G:a8}{f:FuncId}{fn:Func}{s:ChangeSpec}{args:Array Value}{ds gs:List (DataW H)}{before:List MemPlace}{tb:TypeId}{oc:Nat}{reach:Reach}{m:aR}
 (hG:DataW.Whole enc P fn.params.toList s.vars false w args.toList ds gs before)(aw:s.vars=[])(ai: ∀ds:List (DataW H),ds.length=fn.params.toList.length→s.fn H ds={results:=[.lit (.bool true)],args:=ds})
 (fi:(DataW.weightsEach P (fn.params.toList++s.plain.varTypes P) (ds++gs)).all (· ≤reachBytes)=true)(qy: ∀(j:Nat) t v,fn.params[j]? =some t→args[j]? =some v→Value.okWide P w reach oc t v)
 (zii:s.plain.varTypes P=[])(rD:fn.resultTypes= #[tb])(N6:P.underlying tb=some .bool)(K:Kids P (· < P.types.size))(aS: ∀t e,t<P.types.size→P.underlying t=some (.slice e)→0<P.cellsOf e)(uG: ∀t∈fn.params.toList,t<P.types.size)
 (rI:FU P T fn.params.toList=some m.ps)(k5:sq w (l5 w) G)(hc:bJ P G f m)(hm: ∀x,(∀d∈dy m.ps x,tW d)→kP m.pre x∧kQ m.rs (m.m x)=pM true):
 Calls P f args w fun e w'=>∃v,e= .returned v∧s.post enc P fn false true false false w args v w':=by
 have zij:=hG
 obtain⟨p,q,dp,Vz,rfl,_,_⟩:=hG
 rw[aw]at Vz
 obtain⟨rfl,rfl⟩:=trodVars_none Vz
 rw[zii,List.append_nil,List.append_nil]at fi
 obtain⟨nY,dl,b6,a2,a3,a4⟩:=Vx (T:=T) (β:=fun _=>undef) K dp rI (fun q aI=>by simpa using List.all_eq_true.1 fi q aI) fun j t v af s9=>qy j t v (by simpa using af) (by simpa using s9)
 have Bx:dy m.ps (b9 m.ps dl)=dl:=yn b6
 obtain⟨zik,ag⟩:=hm (b9 m.ps dl) (by rw[Bx];exact a4)
 have hp:=(hc (b9 m.ps dl) zik).frame (σ:=[]) (n:=0) (FF _) fun r bV ag=>by rw[ag];exact NM
 refine zie (β:=fun _=>undef) zij aw (by rw[List.append_nil];exact ai ds nY) rD N6 K aS uG (avs':=nv m.ps (b9 m.ps dl)) ?_ (fun i x hx=>?_) k5 (hp.res fun r bV ⟨aa,_,ae⟩=>⟨ae.trans ag,aa⟩)
 ·unfold nv
  rw[Bx,List.length_map,a2];exact Array.length_toList.symm
 ·unfold nv at hx
  rw[Bx]at hx;obtain⟨v,aa,ae⟩:=a3 i x hx
  have:args.getD i undef=v:=by
   have sY:args[i]? =some v:=by simpa using aa
   rw[Array.getD_eq_getD_getElem?,sY];rfl
  rw[this];exact ae
end
end Go.aL
namespace Go.aL
open Go Go.Proofs Go.Shelf Go.RowKit
variable {P:Program} {a7:Ren}
theorem VA(w:World): ∀(l:List Int) (a:Addr) (acc:ByteArray),(∀j x,l[j]? =some x→w.cell? (a.add j)=some (.int .u8 x))→
 (loadBytes a acc l.length).run P w= .ok (l.foldl (fun r n=>r.push (UInt8.ofNat n.toNat)) acc) w
 |[],a,acc,_=>by simp[loadBytes]
 |x::l,a,acc,h=>by
  have aM:w.cell? a=some (.int .u8 x):=by
   have:=h 0 x rfl
   simpa[Addr.add]using this
  have aY:=VA w l (a.add 1) (acc.push (UInt8.ofNat x.toNat)) (fun j y ax=>by
   have:=h (j+1) y (by simpa using ax)
   have e:(a.add 1).add j=a.add (j+1):=by
    unfold Addr.add
    by_cases af:j=0
    ·subst af;simp
    ·simp[af];omega
   rw[e];exact this)
  simp only[List.length_cons,loadBytes,Sem.run_bind,run_load,aM,Result.andThen];exact aY
theorem zil(w:World)(FV it ty e:TypeId)(ak:P.underlying FV=some (.pointer e))(hc:P.cellsOf e=1)(g cells:Nat)(Kw:w.shape? g=some (e,cells))(l:List Int)(aM:l≠[])(hn:l.length≤cells)(sV:l.length≤9223372036854775807)
 (la: ∀j x,l[j]? =some x→w.cell? ((⟨g,0,none⟩:Addr).add j)=some (.int .u8 x)):
 (Builtin.unsafeString_ #[FV,it] ty #[.pointer (some ⟨g,0,none⟩),.int .i64 l.length]).run P w= .ok (.string (bytesOf l)) (w.freeze ⟨g,0,none⟩ l.length):=by
 have aq:l.length≠0:=by simpa using aM
 have zu:=VA (P:=P) w l ⟨g,0,none⟩ .empty la
 have zim:=Lib.liesAt_bytes (P:=P) hc (cells/ P.cellsOf e) l.length (by rw[hc];simpa using hn)
 have zin: ¬(9223372036854775807:Int)<(l.length:Int):=by omega
 have Ob:Builtin.unsafeString_ #[FV,it] ty #[.pointer (some ⟨g,0,none⟩),.int .i64 l.length]=
  (do
   let n ←asInt (.int .i64 l.length)
   if n<0 then runtimePanic (.error "unsafe.String: len out of range")
   if n>IntKind.i64.max then unsupported (.unsafePointer "String: a length above the largest int")
   if n=0 then pure (.string .empty)
   else if ←variablesAt ⟨g,0,none⟩ (←elemOf FV) n.toNat then do
    let s ←loadBytes ⟨g,0,none⟩ .empty n.toNat
    freeze ⟨g,0,none⟩ n.toNat
    pure (.string s)
   else unsupported (.unsafePointer "String: not so many bytes at ptr")):=rfl
 rw[Ob]
 have zio:IntKind.i64.max=9223372036854775807:=rfl
 have ziq: ¬(l.length:Int)<0:=by omega
 simp[asInt,asIntOf,zio,zin,ziq,aq,variablesAt,Kw,elemOf,run_underlying ak,zim,zu,bytesOf]
set_option maxHeartbeats 2000000 in
set_option maxRecDepth 100000 in
theorem zir(L:Lays.n169 P a7)(X:Builder.Extra P a7)(b g cap:Nat)(p:Value)(cur:Array Value)(l:List Int)(w:World)(aM:l≠[])(bg:w.heap[b]? =some (.cells #[p,.slice (some ⟨g,0,none⟩) l.length cap] (a7.t 72) (0,0)))
 (ah:w.heap[g]? =some (.cells cur (a7.t 5) (0,0)))(AO:l.length≤cap)(ig:cap≤maxLen)(dJ:cur.size=cap*1)(la: ∀j x,l[j]? =some x→w.cell? ((⟨g,0,none⟩:Addr).add j)=some (.int .u8 x)):
 Calls P (a7.f 169) #[.pointer (some ⟨b,0,none⟩)] w fun e w'=>e= .returned (.string (bytesOf l))∧w'=w.drew.freeze ⟨g,0,none⟩ l.length:=by
 have Dr:l.length≠0:=by simpa using aM
 have aW:w.drew.cell? ⟨b,1,none⟩=some (.slice (some ⟨g,0,none⟩) l.length cap):=by
  have:w.drew.heap[b]? =some (.cells #[p,.slice (some ⟨g,0,none⟩) l.length cap] (a7.t 72) (0,0)):=bg
  rw[Lib.cell_of_heap this];rfl
 have Oc:(Builtin.unsafeSliceData_ #[(a7.t 37)] (a7.t 127) #[.slice (some ⟨g,0,none⟩) l.length cap]).run P w.drew= .ok (.pointer (some ⟨g,0,none⟩)) w.drew:=
  Lib.run_unsafeSliceData_row _ _ _ _ _ _ (by omega)
 have Od:(Builtin.unsafeString_ #[(a7.t 127),(a7.t 3)] (a7.t 9) #[.pointer (some ⟨g,0,none⟩),.int .i64 l.length]).run P w.drew= .ok (.string (bytesOf l)) (w.drew.freeze ⟨g,0,none⟩ l.length):=by
  refine zil w.drew (a7.t 127) (a7.t 3) (a7.t 9) (a7.t 5) L.t127 X.cellsByte g cur.size (by have dW:w.drew.heap[g]? =some (.cells cur (a7.t 5) (0,0)):=ah;simp[World.shape?,dW]) l aM (by omega) (by unfold maxLen at ig;omega) ?_
  intro j x hx;exact la j x hx
 have mixed:=L.mixed
 have t72:=L.t72;have a72:=L.a72;have z72:=L.z72;have v72:=L.v72;have Oe:=run_underlying L.t72
 have t70:=L.t70;have a70:=L.a70;have z70:=L.z70;have v70:=L.v70;have Of:=run_underlying L.t70
 have t37:=L.t37;have a37:=L.a37;have z37:=L.z37;have v37:=L.v37;have Og:=run_underlying L.t37
 have t127:=L.t127;have a127:=L.a127;have z127:=L.z127;have v127:=L.v127;have Oh:=run_underlying L.t127
 have t3:=L.t3;have a3:=L.a3;have z3:=L.z3;have v3:=L.v3;have yu:=run_underlying L.t3
 have t9:=L.t9;have a9:=L.a9;have z9:=L.z9;have v9:=L.v9;have Oi:=run_underlying L.t9
 have t5:=X.t5;have a5:=X.a5;have z5:=X.z5;have v5:=X.v5;have Oj:=run_underlying X.t5
 go_enter L.f169,Body.n169_ntmps a7
 go_wp2
 go_region_o
 all_goals (go_wp2;go_ret;exact⟨rfl,rfl⟩)
set_option maxHeartbeats 2000000 in
set_option maxRecDepth 100000 in
theorem VB(L:Lays.n169 P a7)(X:Builder.Extra P a7)(b:Nat)(p:Value)(w:World)(bg:w.heap[b]? =some (.cells #[p,.slice none 0 0] (a7.t 72) (0,0))):
 Calls P (a7.f 169) #[.pointer (some ⟨b,0,none⟩)] w fun e w'=>e= .returned (.string ⟨#[]⟩)∧w'=w.drew:=by
 have Od:=Any.unsafeString_none L X
 have aW:w.drew.cell? ⟨b,1,none⟩=some (.slice none 0 0):=by
  have:w.drew.heap[b]? =some (.cells #[p,.slice none 0 0] (a7.t 72) (0,0)):=bg
  rw[Lib.cell_of_heap this];rfl
 have Oc:(Builtin.unsafeSliceData_ #[(a7.t 37)] (a7.t 127) #[.slice none 0 0]).run P w.drew= .ok (.pointer none) w.drew:=rfl
 have mixed:=L.mixed
 have t72:=L.t72;have a72:=L.a72;have z72:=L.z72;have v72:=L.v72;have Oe:=run_underlying L.t72
 have t70:=L.t70;have a70:=L.a70;have z70:=L.z70;have v70:=L.v70;have Of:=run_underlying L.t70
 have t37:=L.t37;have a37:=L.a37;have z37:=L.z37;have v37:=L.v37;have Og:=run_underlying L.t37
 have t127:=L.t127;have a127:=L.a127;have z127:=L.z127;have v127:=L.v127;have Oh:=run_underlying L.t127
 have t3:=L.t3;have a3:=L.a3;have z3:=L.z3;have v3:=L.v3;have yu:=run_underlying L.t3
 have t9:=L.t9;have a9:=L.a9;have z9:=L.z9;have v9:=L.v9;have Oi:=run_underlying L.t9
 have t5:=X.t5;have a5:=X.a5;have z5:=X.z5;have v5:=X.v5;have Oj:=run_underlying X.t5
 go_enter L.f169,Body.n169_ntmps a7
 go_wp2
 go_region_o
 all_goals (go_wp2;go_ret;exact⟨rfl,rfl⟩)
set_option maxHeartbeats 2000000 in
set_option maxRecDepth 100000 in
theorem zis(L:Lays.n169 P a7)(X:Builder.Extra P a7)(b g cap:Nat)(p:Value)(w:World)(hD:cap≠0)(bg:w.heap[b]? =some (.cells #[p,.slice (some ⟨g,0,none⟩) 0 cap] (a7.t 72) (0,0))):
 Calls P (a7.f 169) #[.pointer (some ⟨b,0,none⟩)] w fun e w'=>e= .returned (.string ⟨#[]⟩)∧w'=w.drew:=by
 have Od:=Any.unsafeString_none L X
 have aW:w.drew.cell? ⟨b,1,none⟩=some (.slice (some ⟨g,0,none⟩) 0 cap):=by
  have:w.drew.heap[b]? =some (.cells #[p,.slice (some ⟨g,0,none⟩) 0 cap] (a7.t 72) (0,0)):=bg
  rw[Lib.cell_of_heap this];rfl
 have Oc:(Builtin.unsafeSliceData_ #[(a7.t 37)] (a7.t 127) #[.slice (some ⟨g,0,none⟩) 0 cap]).run P w.drew= .ok (.pointer (some ⟨g,0,none⟩)) w.drew:=
  Lib.run_unsafeSliceData_row _ _ _ _ _ _ hD
 clear hD
 have mixed:=L.mixed
 have t72:=L.t72;have a72:=L.a72;have z72:=L.z72;have v72:=L.v72;have Oe:=run_underlying L.t72
 have t70:=L.t70;have a70:=L.a70;have z70:=L.z70;have v70:=L.v70;have Of:=run_underlying L.t70
 have t37:=L.t37;have a37:=L.a37;have z37:=L.z37;have v37:=L.v37;have Og:=run_underlying L.t37
 have t127:=L.t127;have a127:=L.a127;have z127:=L.z127;have v127:=L.v127;have Oh:=run_underlying L.t127
 have t3:=L.t3;have a3:=L.a3;have z3:=L.z3;have v3:=L.v3;have yu:=run_underlying L.t3
 have t9:=L.t9;have a9:=L.a9;have z9:=L.z9;have v9:=L.v9;have Oi:=run_underlying L.t9
 have t5:=X.t5;have a5:=X.a5;have z5:=X.z5;have v5:=X.v5;have Oj:=run_underlying X.t5
 go_enter L.f169,Body.n169_ntmps a7
 go_wp2
 go_region_o
 all_goals (go_wp2;go_ret;exact⟨rfl,rfl⟩)
set_option maxHeartbeats 2000000 in
set_option maxRecDepth 100000 in
theorem zit(L:Lays.n169 P a7)(X:Builder.Extra P a7)(b:Nat)(cX q:Addr)(p:Value)(w dI:World)(bg:w.heap[b]? =some (.cells #[p,.slice (some cX) 0 0] (a7.t 72) (0,0)))(pb:dI.heap[b]? =w.heap[b]?)
 (Oc:(Builtin.unsafeSliceData_ #[(a7.t 37)] (a7.t 127) #[.slice (some cX) 0 0]).run P w.drew= .ok (.pointer (some q)) dI):
 Calls P (a7.f 169) #[.pointer (some ⟨b,0,none⟩)] w fun e w'=>e= .returned (.string ⟨#[]⟩)∧w'=dI:=by
 have Od:=Any.unsafeString_none L X
 have aW:w.drew.cell? ⟨b,1,none⟩=some (.slice (some cX) 0 0):=by
  have:w.drew.heap[b]? =some (.cells #[p,.slice (some cX) 0 0] (a7.t 72) (0,0)):=bg
  rw[Lib.cell_of_heap this];rfl
 have dq:dI.cell? ⟨b,1,none⟩=some (.slice (some cX) 0 0):=by
  have:dI.heap[b]? =some (.cells #[p,.slice (some cX) 0 0] (a7.t 72) (0,0)):=pb.trans bg
  rw[Lib.cell_of_heap this];rfl
 clear pb
 have mixed:=L.mixed
 have t72:=L.t72;have a72:=L.a72;have z72:=L.z72;have v72:=L.v72;have Oe:=run_underlying L.t72
 have t70:=L.t70;have a70:=L.a70;have z70:=L.z70;have v70:=L.v70;have Of:=run_underlying L.t70
 have t37:=L.t37;have a37:=L.a37;have z37:=L.z37;have v37:=L.v37;have Og:=run_underlying L.t37
 have t127:=L.t127;have a127:=L.a127;have z127:=L.z127;have v127:=L.v127;have Oh:=run_underlying L.t127
 have t3:=L.t3;have a3:=L.a3;have z3:=L.z3;have v3:=L.v3;have yu:=run_underlying L.t3
 have t9:=L.t9;have a9:=L.a9;have z9:=L.z9;have v9:=L.v9;have Oi:=run_underlying L.t9
 have t5:=X.t5;have a5:=X.a5;have z5:=X.z5;have v5:=X.v5;have Oj:=run_underlying X.t5
 go_enter L.f169,Body.n169_ntmps a7
 go_wp2
 go_region_o
 all_goals (go_wp2;go_ret;exact⟨rfl,rfl⟩)
theorem ziu(L:Lays.n169 P a7)(cX:Addr)(w:World)(hex:cX.block<w.heap.size): ∃q dI,(Builtin.unsafeSliceData_ #[(a7.t 37)] (a7.t 127) #[.slice (some cX) 0 0]).run P w= .ok (.pointer (some q)) dI∧(dI=w∨∃o,dI=w.alloc o):=by
 obtain⟨o,an⟩: ∃o,w.heap[cX.block]? =some o:=⟨_,Array.getElem?_eq_getElem hex⟩
 have he:(elemOf (a7.t 127)).run P w= .ok (a7.t 5) w:=by simp[elemOf,run_underlying L.t127]
 have Ob:Builtin.unsafeSliceData_ #[(a7.t 37)] (a7.t 127) #[.slice (some cX) 0 0]=
  (do
   if(0:Nat)≠0 then pure (.pointer (some cX))
   else if(←viewAt cX.block).isSome then pure (.pointer (some cX))
   else pure (.pointer (some ⟨←newObj (.view cX (←elemOf (a7.t 127))),0,none⟩))):=rfl
 rw[Ob]
 unfold viewAt
 cases ai:w.shape? cX.block with
 |some s=>exact⟨⟨w.heap.size,0,none⟩,w.alloc (.view cX (a7.t 5)),by simp[ai,he],.inr ⟨_,rfl⟩⟩
 |none=>
  cases o with
  |cells c e f=>simp[World.shape?,an]at ai
  |view a t=>exact⟨cX,w,by simp[ai,getObj,Sem.run,an],.inl rfl⟩
  |_=>exact⟨⟨w.heap.size,0,none⟩,w.alloc (.view cX (a7.t 5)),by simp[ai,getObj,Sem.run,an,he],.inr ⟨_,rfl⟩⟩
section
variable {w w':World} {ro:Nat→Prop} {σ:Heap} {β:Nat→Value} {n rid:Nat}
theorem hj.drop(h:hj w ro σ β n){t:TypeId}{m:Nat}{es:List (List a6)}(ag:aE σ rid=some (.row false t m es))(hw: ∀k,k<w.heap.size→b3 (β rid)≠some k→w'.heap[k]? =w.heap[k]?)(bN:w.heap.size≤w'.heap.size):
 hj w' ro (gk σ rid) β n:=by
 have cc: ∀b,ro b→w'.heap[b]? =w.heap[b]? :=fun b ad=>hw b (h.lt b ad) fun e=>h.fh b ad ⟨rid,_,ag,rfl,e⟩
 have sub: ∀k o,aE (gk σ rid) k=some o→aE σ k=some o∧k≠rid:=by
  intro k o aj;rw[zD]at aj
  split at aj
  ·cases aj
  ·rename_i b4
   exact⟨aj,fun e=>b4 e.symm⟩
 have key: ∀x c,bs w ro σ β n x c→bs w' ro (gk σ rid) β n x c:=fun x c hx=>hx.keep cc (fun _ h=>h) (Nat.le_refl _) (fun id t cs aj=>⟨rfl,t,cs,(sub _ _ aj).1⟩) (fun id z t n es aj=>⟨rfl,z,t,es,(sub _ _ aj).1⟩) (fun id bP aj=>⟨rfl,bP,(sub _ _ aj).1⟩)
 refine⟨fun k o aj=>?_,fun k bk o cA b aj eB=>h.inj k bk o cA b (sub _ _ aj).1 (sub _ _ eB).1,fun b ad ⟨k,o,aj,aq,bg⟩=>h.fh b ad ⟨k,o,(sub _ _ aj).1,aq,bg⟩,fun b ad=>Nat.lt_of_lt_of_le (h.lt b ad) bN⟩
 obtain⟨gh,b4⟩:=sub k o aj
 have gK:=h.c6 k o gh
 have Ok:o.live=true→∀b,b3 (β k)=some b→w'.heap[b]? =w.heap[b]? :=fun aq b ad=>hw b (gK.hL aq ad) fun e=>b4 (h.inj k rid o _ b gh ag aq rfl ad e)
 cases gK with
 |box t cs b arr aa ae au aQ=>exact .box t cs b arr aa ((Ok rfl b (by rw[aa];rfl)).trans ae) au fun j x af=>key _ _ (aQ j x af)
 |row t n es xs aa ae au=>exact .row t n es xs (aa.keep (fun b ad=>Ok rfl b ad) bN) ae fun j x af=>(au j x af).keep cc fun _ h=>h
 |gb t n es aa=>exact .gb t n es (aa.keep cc fun _ h=>h)
 |bM bP b o aa ae au=>exact .bM bP b o aa ((Ok rfl b aa).trans ae) (bP.mono _ _ _ _ (fun x c h=>h.keep cc fun _ h=>h) au)
theorem ziv(w:World)(g m k:Nat)(aj:k≠g):(w.freeze ⟨g,0,none⟩ m).heap[k]? =w.heap[k]? :=by
 unfold World.freeze
 split
 ·rfl
 ·simp only[Array.getElem?_modify]
  rw[if_neg (fun e=>aj e.symm)]
theorem ziw(w:World)(a:Addr)(m:Nat):(w.freeze a m).os=w.os∧(w.freeze a m).tape=w.tape∧(w.freeze a m).output=w.output∧(w.freeze a m).heap.size=w.heap.size:=by
 unfold World.freeze
 split
 ·exact⟨rfl,rfl,rfl,rfl⟩
 ·exact⟨rfl,rfl,rfl,by simp⟩
theorem zix(L:Lays.n169 P a7)(X:Builder.Extra P a7){G:a8}{id:Nat}{x0:aD}{l:List Int}(aM:l≠[])(bd:aE σ id=some (.box (a7.t 72) [x0,.aO rid]))(ag:aE σ rid=some (.row false (a7.t 5) 1 (l.map fun z=>[.v (.int .u8 z)]))):
 dG P G (a7.f 169) [.ptr id 0] σ n fun r bV=>r= .av (.v (.string (bytesOf l)))∧bV=gk σ rid:=by
 intro w β ro ed aa ae au aQ bF
 have dh:=au.c6 id _ bd
 have fQ:=au.c6 rid _ ag
 cases dh with
 |box _ _ b arr aB bf ck ep=>
  cases fQ with
  |row _ _ _ xs cZ b4 eW=>
   have hD:ed.getD 0 undef= .pointer (some ⟨b,0,none⟩):=by
    have:=ae 0 _ rfl
    generalize ed.getD 0 undef=bS at this⊢
    cases this with
    |ptr _ _ _ aq kg=>
     obtain⟨b',c1,dg⟩:=kg _ _ bd;rw[aB]at c1
     cases c1
     exact dg
   have si:ed= #[.pointer (some ⟨b,0,none⟩)]:=by
    have ai:ed.size=1:=aa
    apply Array.ext
    ·simpa using ai
    ·intro i yv mw
     have:i=0:=by omega
     subst this;simpa[Array.getD,ai]using hD
   have BC:arr.getD 1 undef=β rid:=by
    have:=ep 1 _ rfl
    generalize arr.getD 1 undef=bS at this⊢
    cases this with
    |aO _ _ _ ak=>exact ak _ _ _ _ ag
   have r1:arr= #[arr.getD 0 undef,β rid]:=by
    have ai:arr.size=2:=ck
    apply Array.ext
    ·simpa using ai
    ·intro i yv mw
     have hi:i=0∨i=1:=by omega
     rcases hi with rfl|rfl
     ·simp[Array.getD,ai]
     ·have:=BC
      simp only[Array.getD,ai]at this;simpa using this
   have hlen:(l.map fun z=>[a6.v (.int .u8 z)]).length=l.length:=List.length_map ..
   rcases cZ.2 with⟨_,aS⟩|⟨g,cap,cur,aw,ak,ah,hle,ig,dJ,lJ⟩
   ·rw[hlen]at aS
    exact absurd (List.eq_nil_of_length_eq_zero aS) aM
   ·rw[hlen]at aw hle lJ
    have yy:b3 (β rid)=some g:=by rw[aw];simp[b3,Nat.ne_of_gt ak]
    rw[si];refine Calls.mono (zir L X b g cap (arr.getD 0 undef) cur l w aM (by rw[bf,←aw,←r1]) ah hle ig dJ fun j x hx=>?_) fun e w' ⟨he,hw⟩=>?_
    ·have af:=(List.getElem?_eq_some_iff.1 hx).1
     have hc:=eW j (.v (.int .u8 x)) (by rw[KX,List.getElem?_map,hx];rfl)
     have ziy:xs.getD j undef= .int .u8 x:=by
      generalize xs.getD j undef=bS at hc⊢
      cases hc with
      |v=>rfl
     have FW:xs[j]? =some (.int .u8 x):=by
      have jL:j<xs.length:=by rw[cZ.1,hlen];omega
      rw[←ziy];simp[List.getD,List.getElem?_eq_getElem jL]
     rw[addLit,Nat.zero_add,cell_of_row w g j cur (a7.t 5) (0,0) ah];rw[←lJ,List.getElem?_take]at FW
     split at FW
     ·simpa using FW
     ·cases FW
    ·subst hw
     obtain⟨f1,f2,f3,f4⟩:=ziw w.drew ⟨g,0,none⟩ l.length
     have nR: ∀k,k<w.heap.size→b3 (β rid)≠some k→(w.drew.freeze ⟨g,0,none⟩ l.length).heap[k]? =w.heap[k]? :=fun k _ aj=>ziv w.drew g l.length k fun e=>aj (by rw[yy,e])
     have bN:w.heap.size≤(w.drew.freeze ⟨g,0,none⟩ l.length).heap.size:=Nat.le_of_eq f4.symm
     have sub: ∀k o,aE (gk σ rid) k=some o→aE σ k=some o:=by
      intro k o aj;rw[zD]at aj
      split at aj
      ·cases aj
      ·exact aj
     refine⟨_,_,gk σ rid,β,ro,n,he,⟨rfl,rfl⟩,.fE rfl,au.drop ag nR bN,⟨f1,f2,f3,bN,fun k aj an=>nR k aj fun e=>an ⟨rid,_,ag,rfl,e⟩,fun _ h=>.inl h,fun _ h=>h,fun k ⟨j,o,af,aq,ad⟩=>.inl ⟨j,o,sub _ _ af,aq,ad⟩,fun k aj o ah=>⟨by rw[sub _ _ ah];simp,rfl⟩,fun k o ah=>bF k o (sub _ _ ah),Nat.le_refl _⟩⟩
theorem hj.same(h:hj w ro σ β n)(he:w'.heap=w.heap):hj w' ro σ β n:=by
 have cc: ∀b,ro b→w'.heap[b]? =w.heap[b]? :=fun b _=>by rw[he]
 have key: ∀x c,bs w ro σ β n x c→bs w' ro σ β n x c:=fun x c hx=>hx.keep cc (fun _ h=>h) (Nat.le_refl _) (fun id t cs aj=>⟨rfl,t,cs,aj⟩) (fun id z t n es aj=>⟨rfl,z,t,es,aj⟩) (fun id bP aj=>⟨rfl,bP,aj⟩)
 refine⟨fun k o aj=>?_,h.inj,h.fh,fun b ad=>by rw[he];exact h.lt b ad⟩
 have gK:=h.c6 k o aj
 cases gK with
 |box t cs b arr aa ae au aQ=>exact .box t cs b arr aa (by rw[he];exact ae) au fun j x af=>key _ _ (aQ j x af)
 |row t n es xs aa ae au=>exact .row t n es xs (aa.keep (fun b ad=>by rw[he]) (Nat.le_of_eq (by rw[he]))) ae fun j x af=>(au j x af).keep cc fun _ h=>h
 |gb t n es aa=>exact .gb t n es (aa.keep cc fun _ h=>h)
 |bM bP b o aa ae au=>exact .bM bP b o aa (by rw[he];exact ae) (bP.mono _ _ _ _ (fun x c h=>h.keep cc fun _ h=>h) au)
theorem Trans.drew(hx: ∀id o,aE σ id=some o→id<n):Trans ⟨w,ro,σ,β,n⟩ w.drew ro σ β n:=
 ⟨rfl,rfl,rfl,Nat.le_refl _,fun _ _ _=>rfl,fun _ h=>.inl h,fun _ h=>h,fun _ h=>.inl h,fun k _ o ah=>⟨by rw[ah];simp,rfl⟩,hx,Nat.le_refl _⟩
theorem zaU(L:Lays.n169 P a7)(X:Builder.Extra P a7){G:a8}{id:Nat}{x0:aD}(bd:aE σ id=some (.box (a7.t 72) [x0,.av (.v (.slice none 0 0))])):
 dG P G (a7.f 169) [.ptr id 0] σ n fun r bV=>r= .av (.v (.string ⟨#[]⟩))∧bV=σ:=by
 intro w β ro ed aa ae au aQ bF
 have dh:=au.c6 id _ bd
 cases dh with
 |box _ _ b arr aB bf ck ep=>
  have hD:ed.getD 0 undef= .pointer (some ⟨b,0,none⟩):=by
   have:=ae 0 _ rfl
   generalize ed.getD 0 undef=bS at this⊢
   cases this with
   |ptr _ _ _ aq kg=>
    obtain⟨b',c1,dg⟩:=kg _ _ bd;rw[aB]at c1
    cases c1
    exact dg
  have si:ed= #[.pointer (some ⟨b,0,none⟩)]:=by
   have ai:ed.size=1:=aa
   apply Array.ext
   ·simpa using ai
   ·intro i yv mw
    have:i=0:=by omega
    subst this;simpa[Array.getD,ai]using hD
  have BC:arr.getD 1 undef= .slice none 0 0:=bs.val (ep 1 _ rfl)
  have r1:arr= #[arr.getD 0 undef,.slice none 0 0]:=by
   have ai:arr.size=2:=ck
   apply Array.ext
   ·simpa using ai
   ·intro i yv mw
    have hi:i=0∨i=1:=by omega
    rcases hi with rfl|rfl
    ·simp[Array.getD,ai]
    ·have:=BC
     simp only[Array.getD,ai]at this;simpa using this
  rw[si];refine Calls.mono (VB L X b (arr.getD 0 undef) w (by rw[bf,←r1])) fun e w' ⟨he,hw⟩=>?_
  subst hw;exact⟨_,_,σ,β,ro,n,he,⟨rfl,rfl⟩,.fE rfl,au.same rfl,Trans.drew bF⟩
theorem ziz(L:Lays.n169 P a7)(X:Builder.Extra P a7){G:a8}{id:Nat}{x0:aD}(bd:aE σ id=some (.box (a7.t 72) [x0,.aO rid]))(ag:aE σ rid=some (.row false (a7.t 5) 1 [])):
 dG P G (a7.f 169) [.ptr id 0] σ n fun r bV=>r= .av (.v (.string ⟨#[]⟩))∧bV=gk σ rid:=by
 intro w β ro ed aa ae au aQ bF
 have dh:=au.c6 id _ bd
 have fQ:=au.c6 rid _ ag
 cases dh with
 |box _ _ b arr aB bf ck ep=>
  cases fQ with
  |row _ _ _ xs cZ b4 eW=>
   have hD:ed.getD 0 undef= .pointer (some ⟨b,0,none⟩):=by
    have:=ae 0 _ rfl
    generalize ed.getD 0 undef=bS at this⊢
    cases this with
    |ptr _ _ _ aq kg=>
     obtain⟨b',c1,dg⟩:=kg _ _ bd;rw[aB]at c1
     cases c1
     exact dg
   have si:ed= #[.pointer (some ⟨b,0,none⟩)]:=by
    have ai:ed.size=1:=aa
    apply Array.ext
    ·simpa using ai
    ·intro i yv mw
     have:i=0:=by omega
     subst this;simpa[Array.getD,ai]using hD
   have BC:arr.getD 1 undef=β rid:=by
    have:=ep 1 _ rfl
    generalize arr.getD 1 undef=bS at this⊢
    cases this with
    |aO _ _ _ ak=>exact ak _ _ _ _ ag
   have r1:arr= #[arr.getD 0 undef,β rid]:=by
    have ai:arr.size=2:=ck
    apply Array.ext
    ·simpa using ai
    ·intro i yv mw
     have hi:i=0∨i=1:=by omega
     rcases hi with rfl|rfl
     ·simp[Array.getD,ai]
     ·have:=BC
      simp only[Array.getD,ai]at this;simpa using this
   have bH:b<w.heap.size:=(Array.getElem?_eq_some_iff.1 bf).1
   have fin:Calls P (a7.f 169) #[.pointer (some ⟨b,0,none⟩)] w fun e w'=>e= .returned (.string ⟨#[]⟩)∧(w'=w.drew∨∃o,w'=w.drew.alloc o):=by
    rcases cZ.2 with⟨⟨c,aw,uU⟩,_⟩|⟨g,cap,cur,aw,ak,_⟩
    ·cases c with
     |none=>exact Calls.mono (VB L X b (arr.getD 0 undef) w (by rw[bf,←aw,←r1])) fun e w' ⟨he,hw⟩=>⟨he,.inl hw⟩
     |some cX=>
      obtain⟨q,dI,aI,VC⟩:=ziu L cX w.drew (uU cX rfl);refine Calls.mono (zit L X b cX q (arr.getD 0 undef) w dI (by rw[bf,←aw,←r1]) ?_ aI) fun e w' ⟨he,hw⟩=>⟨he,by rw[hw];exact VC⟩
      rcases VC with rfl|⟨o,rfl⟩
      ·rfl
      ·exact Lib.alloc_old w.drew _ b bH
    ·exact Calls.mono (zis L X b g cap (arr.getD 0 undef) w (Nat.ne_of_gt ak) (by rw[bf,←(show β rid= .slice (some ⟨g,0,none⟩) 0 cap from aw),←r1])) fun e w' ⟨he,hw⟩=>⟨he,.inl hw⟩
   rw[si];refine Calls.mono fin fun e w' ⟨he,hw⟩=>?_
   have hold: ∀k,k<w.heap.size→w'.heap[k]? =w.heap[k]? :=fun k aj=>by
    rcases hw with rfl|⟨o,rfl⟩
    ·rfl
    ·exact Lib.alloc_old w.drew _ k aj
   have bN:w.heap.size≤w'.heap.size:=by
    rcases hw with rfl|⟨o,rfl⟩
    ·exact Nat.le_refl _
    ·show w.heap.size≤(w.heap.push _).size
     rw[Array.size_push];exact Nat.le_succ _
   have mP:w'.os=w.os∧w'.tape=w.drew.tape∧w'.output=w.output:=by
    rcases hw with rfl|⟨o,rfl⟩<;>exact⟨rfl,rfl,rfl⟩
   have sub: ∀k o,aE (gk σ rid) k=some o→aE σ k=some o:=by
    intro k o aj;rw[zD]at aj
    split at aj
    ·cases aj
    ·exact aj
   refine⟨_,_,gk σ rid,β,ro,n,he,⟨rfl,rfl⟩,.fE rfl,au.drop ag (fun k aj _=>hold k aj) bN,⟨mP.1,mP.2.1,mP.2.2,bN,fun k aj _=>hold k aj,fun _ h=>.inl h,fun _ h=>h,fun k ⟨j,o,af,aq,ad⟩=>.inl ⟨j,o,sub _ _ af,aq,ad⟩,fun k aj o ah=>⟨by rw[sub _ _ ah];simp,rfl⟩,fun k o ah=>bF k o (sub _ _ ah),Nat.le_refl _⟩⟩
theorem zaT(L:Lays.n169 P a7)(X:Builder.Extra P a7){G:a8}{id:Nat}{x0:aD}{l:List Int}(bd:aE σ id=some (.box (a7.t 72) [x0,.aO rid]))(ag:aE σ rid=some (.row false (a7.t 5) 1 (l.map fun z=>[.v (.int .u8 z)]))):
 dG P G (a7.f 169) [.ptr id 0] σ n fun r bV=>r= .av (.v (.string (bytesOf l)))∧bV=gk σ rid:=by
 cases l with
 |nil=>exact ziz L X bd ag
 |cons z l=>exact zix L X (by simp) bd ag
end
end Go.aL
namespace Go.aL
open Go
def qW:List (Nat × bG)→Nat→List (Nat × bG)
 |[],_=>[]
 |(k,x)::r,id=>match Nat.beq k id with
  |true=>qW r id
  |false=>(k,x)::qW r id
theorem Ol{G:a8}{e:Env}{id:Nat}: ∀(h:List (Nat × bG)),cy G e (qW h id)=gk (cy G e h) id
 |[]=>rfl
 |(k,x)::r=>by
  simp only[qW,cy,gk]
  by_cases aj:k=id
  ·subst aj
   simp only[Nat.beq_refl,if_true];exact Ol r
  ·have:Nat.beq k id=false:=by cases aI:Nat.beq k id with|true=>exact absurd (Nat.eq_of_beq_eq_true aI) aj|false=>rfl
   simp only[this,if_neg aj,cy,Ol r]
theorem Om{k id:Nat}: ∀{h:List (Nat × bG)},eH k h=true→eH k (qW h id)=true
 |[],h=>h
 |(j,x)::r,h=>by
  have bb:x.lt k=true∧eH k r=true:=by cases x<;>simpa only[eH,Bool.and_eq_true]using h
  simp only[qW]
  split
  ·exact Om bb.2
  ·show(x.lt k&&eH k (qW r id))=true
   rw[bb.1,Om bb.2];rfl
def On(vS qX t5:Nat)(inl:Nat→List ab→ao→aC)(f:Nat)(aG:List ab)(S:ao):aC:=
 match Nat.beq f vS,aG with
 |true,[.ee id 0]=>match da S.h id with
  |some (.dj t [x0,.aO r])=>match da S.h r with
   |some (.rw bD .u8 x)=>match(Nat.beq t qX&&Nat.beq bD t5)&&(x.ez (.li .u8)&&x.lt S.k)with
    |true=>emit S.k [.f1 .cC x] [] (.cH .cj ⟨ba.put .emp 0 (.aU .str S.k),qW S.h r,S.n,S.k+1,S.g⟩)
    |false=>inl f aG S
   |_=>inl f aG S
  |some (.dj t [x0,.cs (.slice none 0 0)])=>match Nat.beq t qX with
   |true=>.cH .cj ⟨ba.put .emp 0 (.cs (.string ⟨#[]⟩)),S.h,S.n,S.k,S.g⟩
   |false=>inl f aG S
  |_=>inl f aG S
 |_,_=>inl f aG S
section
variable {P:Program} {G:a8} {M:List aR} {inl:Nat→List ab→ao→aC} {vS qX t5:Nat}
def uL(P:Program)(G:a8)(vS qX t5:Nat):Prop:=
 (∀{σ:Heap} {n rid id:Nat} {x0:aD} {l:List Int},aE σ id=some (.box qX [x0,.aO rid])→aE σ rid=some (.row false t5 1 (l.map fun z=>[.v (.int .u8 z)]))→
  dG P G vS [.ptr id 0] σ n fun r bV=>r= .av (.v (.string (bytesOf l)))∧bV=gk σ rid)∧
 ∀{σ:Heap} {n id:Nat} {x0:aD},aE σ id=some (.box qX [x0,.av (.v (.slice none 0 0))])→dG P G vS [.ptr id 0] σ n fun r bV=>r= .av (.v (.string ⟨#[]⟩))∧bV=σ
theorem ziA(dp:uL P G vS qX t5)(bW:fP P G M inl):fP P G M (On vS qX t5 inl):=fun f aG S e ad aq hf ai=>by
 unfold On at ai⊢
 split at ai
 rotate_left
 ·exact bW _ _ S e ad aq hf ai
 rename_i id ziB
 have aX:=Nat.eq_of_beq_eq_true ziB
 subst aX
 split at ai
 ·rename_i t x0 r ah
  split at ai
  rotate_left
  ·exact bW _ _ S e ad aq hf ai
  rename_i bD x Oo
  split at ai
  rotate_left
  ·exact bW _ _ S e ad aq hf ai
  rename_i aj;simp only[Bool.and_eq_true]at aj;obtain⟨⟨fy,gH⟩,k8,sQ⟩:=aj
  have fy:=Nat.eq_of_beq_eq_true fy
  have gH:=Nat.eq_of_beq_eq_true gH
  subst fy gH
  have vP:hy S.k [bK.f1 .cC x]=true:=by
   simp only[hy,bK.lt,sQ,Bool.and_self]
  have bR:bX S.k e (df M e S.k [bK.f1 .cC x]):=jT (Nat.le_refl _)
  have eK:=jz (M:=M) (e:=e) vP 0 _ rfl
  have ziC:x.az (df M e S.k [bK.f1 .cC x]) (.li .u8)=x.az e (.li .u8):=eF bR sQ
  simp only[Nat.add_zero,bK.den,gG.den,gG.a,ziC]at eK
  have lX:=dp.1 (σ:=cy G e S.h) (n:=S.n) (rid:=r) (id:=id) (x0:=x0.den G e) (l:=x.az e (.li .u8)) (by rw[ei,ah];rfl) (by rw[ei,Oo];rfl)
  refine lX.res fun ziD bV ⟨aa,ae⟩=>⟨⟨ba.put .emp 0 (.aU .str S.k),qW S.h r,S.n,S.k+1,S.g⟩,df M e S.k [bK.f1 .cC x],by rw[lV];rfl,?_,?_,?_,ik bR ad.g hf,bR,Nat.le_succ _⟩
  ·rw[aa]
   show _=ab.den G _ (ao.at _ 0);unfold ao.at
   simp only[ba.h0,if_true,ab.den,ab.dyn,eK];rfl
  ·rw[ae]
   show _=cy G _ (qW S.h r);rw[Ol,xu bR ad.h]
  ·refine⟨fun i y hi=>?_,Om (tk (Nat.le_succ _) ad.h),oa (Nat.le_succ _) ad.g⟩
   simp only[ba.h0]at hi
   split at hi
   ·cases hi
    exact jS (Nat.lt_succ_self _)
   ·simp[ba.get]at hi
 ·rename_i t x0 ah
  split at ai
  rotate_left
  ·exact bW _ _ S e ad aq hf ai
  rename_i fy
  have fy:=Nat.eq_of_beq_eq_true fy
  subst fy
  have lX:=dp.2 (σ:=cy G e S.h) (n:=S.n) (id:=id) (x0:=x0.den G e) (by rw[ei,ah];rfl)
  refine lX.res fun ziD bV ⟨aa,ae⟩=>⟨⟨ba.put .emp 0 (.cs (.string ⟨#[]⟩)),S.h,S.n,S.k,S.g⟩,e,rfl,?_,?_,?_,hf,bX.refl _ _,Nat.le_refl _⟩
  ·rw[aa]
   show _=ab.den G _ (ao.at _ 0);unfold ao.at
   simp only[ba.h0,if_true,ab.den]
  ·rw[ae]
  ·refine⟨fun i y hi=>?_,ad.h,ad.g⟩
   simp only[ba.h0]at hi
   split at hi
   ·cases hi
    rfl
   ·simp[ba.get]at hi
 ·exact bW _ _ S e ad aq hf ai
end
end Go.aL
namespace Go.aL
open Go
def ot(n:Nat)(b:Bool)(f:b0→Bool)(x:b0):Bool:=
 match x.bT n with
 |true=>b
 |false=>f x
def sj(n:Nat)(b:Bool)(f:b0→Bool)(x:b0):Bool:=
 match x.cY n with
 |true=>b
 |false=>f x
def aC.eP:aC→(b0→Bool)→Bool
 | .cH x _,f=>f x
 | .lt _ _ t,f=>t.eP f
 | .eG _ _,_=>false
 | .it _ a b,f=>a.eP f&&b.eP f
 | .dC n a _ k,f=>a.eP (ot n (k.eP f) f)
 | .eo m xid _ _ _ a k,f=>k.eP f&&a.eP (ot m true (sj xid true f))
 | .e0 _ _ _ _ _,_=>false
 | .bad _,_=>false
def aC.h7(M:List aR):aC→Env→(b0→Bool)→(b0→ao→Env→Prop)→Prop
 | .cH x S,e,_,Q=>Q x S e
 | .lt i x t,e,f,Q=>t.h7 M (ba.put e i (x.den M e)) f Q
 | .eG n t,e,f,Q=>match t.eP f with
  |true=>n.ok M e
  |false=>n.ok M e∧t.h7 M e f Q
 | .it g a b,e,f,Q=>match a.eP f,b.eP f with
  |true,true=>True
  |true,false=>g.az e .bool=false→b.h7 M e f Q
  |false,true=>g.az e .bool=true→a.h7 M e f Q
  |false,false=>(g.az e .bool=true→a.h7 M e f Q)∧(g.az e .bool=false→b.h7 M e f Q)
 | .dC n a ps k,e,f,Q=>a.h7 M e (ot n (k.eP f) f) fun x S ay=>bif x.bT n then k.h7 M (fR e (fun r p=>⟨r,(p.de S).get ay r⟩) ps) f Q else Q x S ay
 | .eo m xid dk b1 ca a k,e,f,Q=>match k.eP f with
  |true=>∃I:Nat→bY ca→Prop,I 0 (b9 _ (dE e ca))∧∀(i:Nat) (v:bY ca),i<(cm (dk.den M e)).toNat→I i v→
   a.h7 M (bl (ba.put e b1 ⟨.int .i64,(i:Int)⟩) ca v) (ot m false (sj xid true f)) fun x S ay=>bif x.bT m then I (i+1) (b9 _ (fA S ay ca))else bif x.cY xid then True else Q x S ay
  |false=>∃I:Nat→bY ca→Prop,I 0 (b9 _ (dE e ca))∧(∀(i:Nat) (v:bY ca),i<(cm (dk.den M e)).toNat→I i v→
   a.h7 M (bl (ba.put e b1 ⟨.int .i64,(i:Int)⟩) ca v) (ot m false (sj xid false f)) fun x S ay=>bif x.bT m then I (i+1) (b9 _ (fA S ay ca))else bif x.cY xid then k.h7 M (bl e ca (b9 _ (fA S ay ca))) f Q else Q x S ay)∧
   ∀v,I (cm (dk.den M e)).toNat v→k.h7 M (bl e ca v) f Q
 | .e0 m xid ca a k,e,f,Q=>∃(I:bY ca→Prop) (jC:bY ca→Nat),I (b9 _ (dE e ca))∧jC (b9 _ (dE e ca))<dV∧∀(v:bY ca),I v→
  a.h7 M (bl e ca v) (ot m false (sj xid (k.eP f) f)) fun x S ay=>bif x.bT m then I (b9 _ (fA S ay ca))∧jC (b9 _ (fA S ay ca))<jC v else bif x.cY xid then k.h7 M (bl e ca (b9 _ (fA S ay ca))) f Q else Q x S ay
 | .bad _,_,_,_=>False
section
variable {M:List aR}
def km(f:b0→Bool)(Q:b0→ao→Env→Prop):Prop:=∀x,f x=true→∀S e,Q x S e
theorem km.dC{f:b0→Bool}{Q R:b0→ao→Env→Prop}{n:Nat}{b:Bool}(h:km f R)(ad:b=true→∀x S e,x.bT n=true→Q x S e)(ag: ∀x S e,x.bT n=false→R x S e→Q x S e):km (ot n b f) Q:=fun x hx S e=>by
 unfold ot at hx
 cases af:x.bT n with
 |true=>rw[af]at hx;exact ad hx x S e af
 |false=>rw[af]at hx;exact ag x S e af (h x hx S e)
theorem km.tu{f:b0→Bool}{Q R:b0→ao→Env→Prop}{n:Nat}{b:Bool}(h:km f R)(ad:b=true→∀x S e,x.cY n=true→Q x S e)(ag: ∀x S e,x.cY n=false→R x S e→Q x S e):km (sj n b f) Q:=fun x hx S e=>by
 unfold sj at hx
 cases af:x.cY n with
 |true=>rw[af]at hx;exact ad hx x S e af
 |false=>rw[af]at hx;exact ag x S e af (h x hx S e)
theorem kn: ∀(t:aC) {e:Env} {f:b0→Bool} {Q:b0→ao→Env→Prop},km f Q→t.eP f=true→t.wp M e Q
 | .cH x S,e,_,_,h,c=>h x c S e
 | .lt _ _ t,_,_,_,h,c=>kn t h c
 | .eG _ _,_,_,_,_,c=>by cases c
 | .it _ a b,_,_,_,h,c=>by
  simp only[aC.eP,Bool.and_eq_true]at c;exact⟨fun _=>kn a h c.1,fun _=>kn b h c.2⟩
 | .dC n a ps k,e,f,Q,h,c=>kn a (km.dC h (fun ad x S ay af=>by rw[af];exact kn k h ad) (fun x S ay af aI=>by rw[af];exact aI)) c
 | .eo m xid dk b1 ca a k,e,f,Q,h,c=>by
  simp only[aC.eP,Bool.and_eq_true]at c;refine⟨fun _ _=>True,trivial,fun i v _ _=>kn a (km.dC (km.tu h (Q:=fun x S ay=>bif x.cY xid then k.wp M (bl e ca (b9 _ (fA S ay ca))) Q else Q x S ay) (fun _ x S ay af=>by rw[af];exact kn k h c.1) (fun x S ay af aI=>by rw[af];exact aI)) (fun _ x S ay af=>by rw[af];trivial) (fun x S ay af aI=>by rw[af];exact aI)) c.2,fun v _=>kn k h c.1⟩
 | .e0 _ _ _ _ _,_,_,_,_,c=>by cases c
 | .bad _,_,_,_,_,c=>by cases c
theorem ko: ∀(t:aC) {e:Env} {f:b0→Bool} {Q R:b0→ao→Env→Prop},(∀x S ay,Q x S ay→R x S ay)→t.h7 M e f Q→t.h7 M e f R
 | .cH _ _,_,_,_,_,h,q=>h _ _ _ q
 | .lt _ _ t,_,_,_,_,h,q=>ko t h q
 | .eG n t,e,f,Q,R,h,q=>by
  simp only[aC.h7]at q⊢
  cases hc:t.eP f with
  |true=>rw[hc]at q;exact q
  |false=>rw[hc]at q;exact⟨q.1,ko t h q.2⟩
 | .it g a b,e,f,Q,R,h,q=>by
  simp only[aC.h7]at q⊢
  cases a1:a.eP f<;>cases ad:b.eP f<;>rw[a1,ad]at q<;>simp only at q⊢
  ·exact⟨fun ah=>ko a h (q.1 ah),fun ah=>ko b h (q.2 ah)⟩
  ·exact fun ah=>ko a h (q ah)
  ·exact fun ah=>ko b h (q ah)
 | .dC n a ps k,e,f,Q,R,h,q=>ko a (fun x S ay r=>by
  cases hx:x.bT n with
  |true=>rw[hx]at r;exact ko k h r
  |false=>rw[hx]at r;exact h _ _ _ r) q
 | .eo m xid dk b1 ca a k,e,f,Q,R,h,q=>by
  simp only[aC.h7]at q⊢
  cases hc:k.eP f with
  |true=>
   rw[hc]at q;obtain⟨I,aa,ae⟩:=q;refine⟨I,aa,fun i v hi aw=>ko a (fun x S ay r=>?_) (ae i v hi aw)⟩
   cases hx:x.bT m with
   |true=>rw[hx]at r;exact r
   |false=>
    rw[hx]at r
    cases ax:x.cY xid with
    |true=>trivial
    |false=>rw[ax]at r;exact h _ _ _ r
  |false=>
   rw[hc]at q;obtain⟨I,aa,ae,au⟩:=q;refine⟨I,aa,fun i v hi aw=>ko a (fun x S ay r=>?_) (ae i v hi aw),fun v aw=>ko k h (au v aw)⟩
   cases hx:x.bT m with
   |true=>rw[hx]at r;exact r
   |false=>
    rw[hx]at r
    cases ax:x.cY xid with
    |true=>rw[ax]at r;exact ko k h r
    |false=>rw[ax]at r;exact h _ _ _ r
 | .e0 m xid ca a k,e,f,Q,R,h,q=>by
  obtain⟨I,jC,aa,ae,au⟩:=q;refine⟨I,jC,aa,ae,fun v aw=>ko a (fun x S ay r=>?_) (au v aw)⟩
  cases hx:x.bT m with
  |true=>rw[hx]at r;exact r
  |false=>
   rw[hx]at r
   cases ax:x.cY xid with
   |true=>rw[ax]at r;exact ko k h r
   |false=>rw[ax]at r;exact h _ _ _ r
 | .bad _,_,_,_,_,_,q=>q.elim
theorem l1: ∀(t:aC) {e:Env} {f:b0→Bool} {Q:b0→ao→Env→Prop},km f Q→t.h7 M e f Q→t.wp M e Q
 | .cH _ _,_,_,_,_,q=>q
 | .lt _ _ t,_,_,_,h,q=>l1 t h q
 | .eG n t,e,f,Q,h,q=>by
  simp only[aC.h7]at q
  cases hc:t.eP f with
  |true=>rw[hc]at q;exact⟨q,kn t h hc⟩
  |false=>rw[hc]at q;exact⟨q.1,l1 t h q.2⟩
 | .it g a b,e,f,Q,h,q=>by
  simp only[aC.h7]at q
  cases a1:a.eP f<;>cases ad:b.eP f<;>rw[a1,ad]at q<;>simp only at q
  ·exact⟨fun ah=>l1 a h (q.1 ah),fun ah=>l1 b h (q.2 ah)⟩
  ·exact⟨fun ah=>l1 a h (q ah),fun _=>kn b h ad⟩
  ·exact⟨fun _=>kn a h a1,fun ah=>l1 b h (q ah)⟩
  ·exact⟨fun _=>kn a h a1,fun _=>kn b h ad⟩
 | .dC n a ps k,e,f,Q,h,q=>by
  refine l1 a (f:=ot n (k.eP f) f) (km.dC h (fun ad x S ay af=>?_) (fun x S ay af aI=>by rw[af];exact aI)) ?_
  ·rw[af];exact kn k h ad
  ·exact ko a (fun x S ay r=>by
    cases hx:x.bT n with
    |true=>rw[hx]at r;exact l1 k h r
    |false=>rw[hx]at r;exact r) q
 | .eo m xid dk b1 ca a k,e,f,Q,h,q=>by
  simp only[aC.h7]at q
  cases hc:k.eP f with
  |true=>
   rw[hc]at q;obtain⟨I,aa,ae⟩:=q;refine⟨I,aa,fun i v hi aw=>?_,fun v _=>kn k h hc⟩
   refine l1 a (f:=ot m false (sj xid true f)) (km.dC (km.tu h (Q:=fun x S ay=>bif x.cY xid then k.wp M (bl e ca (b9 _ (fA S ay ca))) Q else Q x S ay) (fun _ x S ay af=>by rw[af];exact kn k h hc) (fun x S ay af aI=>by rw[af];exact aI)) (fun ad=>by cases ad) (fun x S ay af aI=>by rw[af];exact aI)) ?_
   refine ko a (fun x S ay r=>?_) (ae i v hi aw)
   cases hx:x.bT m with
   |true=>rw[hx]at r;exact r
   |false=>
    rw[hx]at r
    cases ax:x.cY xid with
    |true=>exact kn k h hc
    |false=>rw[ax]at r;exact r
  |false=>
   rw[hc]at q;obtain⟨I,aa,ae,au⟩:=q;refine⟨I,aa,fun i v hi aw=>?_,fun v aw=>l1 k h (au v aw)⟩
   refine l1 a (f:=ot m false (sj xid false f)) (km.dC (km.tu h (Q:=fun x S ay=>bif x.cY xid then k.wp M (bl e ca (b9 _ (fA S ay ca))) Q else Q x S ay) (fun ad=>by cases ad) (fun x S ay af aI=>by rw[af];exact aI)) (fun ad=>by cases ad) (fun x S ay af aI=>by rw[af];exact aI)) ?_
   refine ko a (fun x S ay r=>?_) (ae i v hi aw)
   cases hx:x.bT m with
   |true=>rw[hx]at r;exact r
   |false=>
    rw[hx]at r
    cases ax:x.cY xid with
    |true=>rw[ax]at r;exact l1 k h r
    |false=>rw[ax]at r;exact r
 | .e0 m xid ca a k,e,f,Q,h,q=>by
  obtain⟨I,jC,aa,ae,au⟩:=q;refine⟨I,jC,aa,ae,fun v aw=>?_⟩
  refine l1 a (f:=ot m false (sj xid (k.eP f) f)) (km.dC (km.tu h (Q:=fun x S ay=>bif x.cY xid then k.wp M (bl e ca (b9 _ (fA S ay ca))) Q else Q x S ay) (fun ad x S ay af=>by rw[af];exact kn k h ad) (fun x S ay af aI=>by rw[af];exact aI)) (fun ad=>by cases ad) (fun x S ay af aI=>by rw[af];exact aI)) ?_
  refine ko a (fun x S ay r=>?_) (au v aw)
  cases hx:x.bT m with
  |true=>rw[hx]at r;exact r
  |false=>
   rw[hx]at r
   cases ax:x.cY xid with
   |true=>rw[ax]at r;exact l1 k h r
   |false=>rw[ax]at r;exact r
 | .bad _,_,_,_,_,q=>q.elim
end
def wK(M:List aR)(t:aC)(e:Env):Prop:=t.h7 M e (fun _=>true) fun _ _ _=>True
theorem Oq{M:List aR}{t:aC}{e:Env}(h:wK M t e):t.wp M e fun _ _ _=>True:=l1 t (fun _ _ _ _=>trivial) h
section
variable {P:Program} {G:a8} {M:List aR} {inl:Nat→List ab→ao→aC}
theorem cz(bW:fP P G M inl){f:Nat}{m:aR}(t:aC)(aH:inl f (hA 0 m.ps) (qg m.ps.length)=t)(he:t.gw.all (uK m.rs)=true)
 (ai: ∀x,wK M t (gx 0 (dy m.ps x))=kP m.pre x)(hm: ∀x,wL M t m.rs (gx 0 (dy m.ps x))=m.m x):bJ P G f m:=
 zhP bW t aH he (fun x hx=>Oq (by rw[ai x];exact hx)) hm
theorem zaS(bW:fP P G M inl){f:Nat}{m:aR}(t:aC)(aH:inl f (hA 0 m.ps) (qg m.ps.length)=t)(he:t.gw.all (uK m.rs)=true)
 (ai: ∀x,kP m.pre x→wK M t (gx 0 (dy m.ps x)))(hm: ∀x,kP m.pre x→wL M t m.rs (gx 0 (dy m.ps x))=m.m x):bJ P G f m:=
 NY bW t aH he (fun x hx=>(kl t (Oq (ai x hx))).1) fun x hx=>by rw[←hm x hx];exact(mK t _ _ _).symm
theorem sR(bW:fP P G M inl){f:Nat}{t:TypeId}{c:bL}{ps rs:List aV}{pre:Option ((fc (.st c::ps)).den→Prop)}{oq:(fc (.st c::ps)).den→(fc (.st c::rs)).den}(T:aC)(aH:inl f (.ee 0 0::hA 1 ps) (tQ t c ps.length)=T)
 (he:T.gw.all (N2 t c rs)=true)(ai: ∀x,wK M T (gx 0 (dy (.st c::ps) x))=kP pre x)(hm: ∀x,FR M T t c rs (gx 0 (dy (.st c::ps) x))=oq x):jk P G f t ⟨.st c::ps,.st c::rs,pre,oq⟩:=
 Vq bW T aH he (fun x hx=>(kl T (Oq (by rw[ai x];exact hx))).1) hm
end
end Go.aL
