/- TE, part E: contracts out of trees, of functions that are handed an own box. Conditions: none. -/
import Derived.Test.YtmkpmgfieagphaaDoorKTEd
import Derived.Test.YtmkpmgfieagphaaDoorKTDb
import Derived.ProofKit
import Derived.LaidMore
import Derived.OpenShut
import Derived.MakeChecks
import Derived.ChangeArms
import Derived.ReadAgain
import Derived.ChangeBears
import Derived.Stop.Joined
import Derived.SizedLaws
namespace Go.aG
open Go
section
variable {P:Program} {G:aY} {f:FuncId} {args:List az} {t:TypeId} {σ:bp} {R:az→bp→Prop}
theorem dn.WO(h:dn P G f args σ 1 R){Q:az→List az→Prop}(fk: ∀r bE,R r bE→∃v q3 cs,aA bE 0=some (.box t q3)∧fI q3 cs∧ep cs=true∧Sub r v∧e1 v=true∧Q v cs):
 dn P G f args σ 1 fun v bE=>∃cs,bE=[(0,.box t cs)]∧Q v cs:=by
 intro w β ro ek aa af ar aQ bx
 refine Calls.mono (h w β ro ek aa af ar aQ bx) fun e w' ⟨v,r,bE,dB,ro',cy,he,ae,c1,gO,cb⟩=>?_
 obtain⟨u,q3,cs,ag,fP,ak,hu,GM,aH⟩:=fk r bE ae
 have uV: ∀{id:Nat} {o:dS},aA [(0,dS.box t cs)] id=some o→id=0∧o= .box t cs:=fun {id o} ag=>by
  simp only[aA]at ag
  split at ag
  ·rename_i hi;cases ag;exact⟨hi.symm,rfl⟩
  ·cases ag
 have own: ∀b,Own [(0,dS.box t cs)] dB b→Own bE dB b:=fun b ⟨id,o,pN,_,ad⟩=>by
  obtain⟨rfl,rfl⟩:=uV pN;exact⟨0,_,ag,rfl,ad⟩
 refine⟨v,u,[(0,.box t cs)],dB,ro',cy,he,⟨cs,rfl,aH⟩,mf (hu _ _ _ _ _ _ c1) GM,⟨fun id o pN=>?_,fun id gl o b6 b pN WQ _ _ _ _=>?_,fun b ad ao=>gO.fe b ad (own b ao),gO.lt⟩,
  ⟨cb.os,cb.tape,cb.output,cb.size,cb.frame,cb.h3,cb.iV,fun b ad=>cb.gm b (own b ad),fun id hid o pN=>?_,fun id o pN=>?_,cb.le⟩⟩
 ·obtain⟨rfl,rfl⟩:=uV pN
  have c7:=gO.cL 0 _ ag
  cases c7 with
  |box _ _ b arr aC a6 ck eT=>
   refine .box t cs b arr aC a6 (by rw[ck,fP.at.1]) fun j x ai=>?_
   obtain⟨y,ax,ah⟩:=fP.at.2 j x ai;exact mf (ah _ _ _ _ _ _ (eT j y ax)) (lG ak ai)
 ·rw[(uV pN).1,(uV WQ).1]
 ·obtain⟨rfl,rfl⟩:=uV pN
  exact cb.dj 0 hid _ ag
 ·obtain⟨rfl,rfl⟩:=uV pN
  exact cb.new 0 _ ag
end
def q5(t:TypeId)(c:bC)(n:Nat):aq:=⟨.emp,[(0,.cT t (ib c 0 0 (e3 c)))],1,n+1,[]⟩
def Hn(t:TypeId)(c:bC)(rs:List aU)(C:aq):Option (List ab):=
 match c2 C.h 0 with
 |some (.cT bn l)=>match(Nat.beq bn t&&gX (e3 c) l)&&(G5 rs (C.at 0)&&q0 (sF rs (C.at 0)))with
  |true=>match pL C rs (sF rs (C.at 0))with
   |some xs=>some (.cm l::xs)
   |none=>none
  |false=>none
 |_=>none
def Ho(t:TypeId)(c:bC)(rs:List aU)(C:aq):Bool:=(Hn t c rs C).isSome
def Nx(t:TypeId)(c:bC)(rs:List aU)(C:aq)(e:Env):(eQ (.st c::rs)).den:=
 match Hn t c rs C with
 |some l=>bQ (.st c::rs) (fS e (.st c::rs) l)
 |none=>(eQ (.st c::rs)).gb
def Bu(M:List bc)(T:ay)(t:TypeId)(c:bC)(rs:List aU)(e:Env):(eQ (.st c::rs)).den:=T.ju M e (fun _ C aw=>Nx t c rs C aw) (eQ (.st c::rs)).gb
section
variable {P:Program} {G:aY} {M:List bc} {inl:Nat→List ab→aq→ay}
theorem WR{c:bC}{i k:Nat}(h:i<k):ab.cj k (ib c i 0 (e3 c))=true:=Bi h
theorem WS{rs:List aU}{S:aq}{e:Env}{xs:List ab}(aB:G5 rs (S.at 0)=true)(gM:q0 (sF rs (S.at 0))=true)(h:pL S rs (sF rs (S.at 0))=some xs):
 Sub ((S.at 0).den G e) (match(fS e rs xs).map aS.e5 with|[v]=>v|l=>.tuple l):=by
 obtain⟨bN,_,a3,a4⟩:=uT (G:=G) (e:=e) h
 rw[a3 gM]at bN
 match rs,bN,a4,aB with
 |[r],bN,a4,aB=>
  obtain⟨d,nr,av,aa,af⟩:=kE a4
  cases la af
  rw[av]at bN⊢;simp only[sF,ab.bF,List.map_cons,List.map_nil]at bN⊢
  cases bN with
  |cons h _=>exact h
 |[],bN,a4,aB=>
  cases av:S.at 0 with
  |tp m=>
   rw[av]at bN;rw[la a4]at bN⊢;exact bN.tuple
  |_=>rw[av]at aB;cases aB
 |r::s::q,bN,a4,aB=>
  cases av:S.at 0 with
  |tp m=>
   rw[av]at bN
   have an:=congrArg List.length a4
   simp only[List.length_map,List.length_cons]at an;generalize fS e (r::s::q) xs=ds at bN an⊢
   match ds,an with
   |d::d2::ds,_=>exact bN.tuple
  |_=>rw[av]at aB;cases aB
theorem Ny(b5:gC P G M inl){f:Nat}{t:TypeId}{c:bC}{ps rs:List aU}{pre:Option ((eQ (.st c::ps)).den→Prop)}{mB:(eQ (.st c::ps)).den→(eQ (.st c::rs)).den}(T:ay)(aB:inl f (.de 0 0::hj 1 ps) (q5 t c ps.length)=T)
 (he:T.gh.all (Ho t c rs)=true)(ah: ∀x,mD pre x→T.safe M (gY 0 (dm (.st c::ps) x)))(hm: ∀x,Bu M T t c rs (gY 0 (dm (.st c::ps) x))=mB x):lA P G f t ⟨.st c::ps,.st c::rs,pre,mB⟩:=fun x hx=>by
 subst aB
 obtain⟨d0,q4,lJ,o7,hdr⟩:=kE (q1 (rs:=.st c::ps) (x:=x))
 obtain⟨Ww,dI⟩:=d0
 simp only at o7
 subst o7
 have an:q4.length=ps.length:=by have:=congrArg List.length hdr;rw[List.length_map]at this;exact this
 have ad:(q5 t c ps.length).cd:=⟨fun i x hi=>by simp[q5,aZ.get]at hi,by
  show(ab.cj (ps.length+1) (ib c 0 0 (e3 c))&&true)=true;rw[WR (Nat.succ_pos _)]
  rfl,rfl⟩
 have h:=b5 f (.de 0 0::hj 1 ps) (q5 t c ps.length) (gY 0 (dm (.st c::ps) x)) ad (by
  show(true&&ab.cj (ps.length+1) (hj 1 ps))=true;rw[xQ (by omega)]
  rfl) (fun c hc=>by cases hc) (ah x hx)
 have ef: ∀j d,(⟨.st c,dI⟩::q4)[j]? =some d→Env.at (gY 0 (dm (.st c::ps) x)) j=d:=fun j d ai=>by
  have:=G4 (ds:=dm (.st c::ps) x) (i:=0) (j:=j) (d:=d) (by rw[lJ];exact ai)
  rwa[Nat.zero_add]at this
 have hd:ab.bF G (gY 0 (dm (.st c::ps) x)) (hj 1 ps)=q4.map aS.e5:=xP hdr fun j d ai=>by rw[Nat.add_comm];exact ef (j+1) d (by simpa using ai)
 have ma:cv G (gY 0 (dm (.st c::ps) x)) (q5 t c ps.length).h=[(0,.box t ((cF c dI).map .au))]:=by
  have aP:=ef 0 ⟨.st c,dI⟩ rfl
  simp only[q5,cv,bq.den];rw[tH,aP,cA]
 have hy:ab.bF G (gY 0 (dm (.st c::ps) x)) (.de 0 0::hj 1 ps)= .ptr 0 0::q4.map aS.e5:=by
  show az.ptr 0 0::_=_;rw[hd]
 rw[hy,ma]at h
 show dn P G f (.ptr 0 0::(dm (.st c::ps) x).tail.map aS.e5) [(0,.box t (uU (dm (.st c::ps) x)))] 1 _
 rw[lJ]
 refine dn.WO (Q:=fun v cs=>v=Bl (dm (.st c::rs) (mB x))∧cs=uU (dm (.st c::rs) (mB x))) h fun r bE ae=>?_
 obtain⟨aN,aw,cD,rfl,rfl,_⟩:=ae
 have iR:=Nj he cD
 obtain⟨l,k5⟩:=Option.isSome_iff_exists.1 iR
 have qi:=hm x
 unfold Bu at qi
 rw[l0,jk cD]at qi
 unfold Nx at qi
 rw[k5]at qi
 simp only at qi
 unfold Hn at k5
 split at k5
 rotate_left
 ·cases k5
 rename_i bn DX ag
 split at k5
 rotate_left
 ·cases k5
 rename_i hc
 simp only[Bool.and_eq_true]at hc
 obtain⟨⟨aF,ea⟩,fU,kk⟩:=hc
 have aF:=Nat.eq_of_beq_eq_true aF
 subst aF
 split at k5
 rotate_left
 ·cases k5
 rename_i xs lD
 cases k5
 obtain⟨_,_,_,a4⟩:=uT (G:=G) (e:=aw) lD
 have sD:(fS aw (.st c::rs) (.cm DX::xs)).map aS.r= .st c::rs:=by simp only[fS,List.map_cons,a4]
 rw[←qi,uS sD]
 exact⟨_,_,_,by rw[et,ag];rfl,wG ea,zd _,WS fU kk lD,by
  have ak:=Bg (fS aw rs xs)
  split
  ·rename_i v av
   rw[av]at ak;simpa[ep]using ak
  ·exact ak,rfl,rfl⟩
theorem yZ(b5:gC P G M inl){f:Nat}{t:TypeId}{c:bC}{ps rs:List aU}{mB:(eQ (.st c::ps)).den→(eQ (.st c::rs)).den}(T:ay)(aB:inl f (.de 0 0::hj 1 ps) (q5 t c ps.length)=T)
 (he:(T.clean&&T.gh.all (Ho t c rs))=true)(hm: ∀x,Bu M T t c rs (gY 0 (dm (.st c::ps) x))=mB x):lA P G f t ⟨.st c::ps,.st c::rs,none,mB⟩:=by
 simp only[Bool.and_eq_true]at he
 exact Ny b5 T aB he.2 (fun _ _=>pq M he.1) hm
end
end Go.aG
namespace Go.aG
open Go Go.ChangeShapes Go.WideShapes Go.RowKit
inductive iu (P:Program):TypeId→List ba→Prop where
 |bool {t:TypeId} (b:Bool):P.underlying t=some .bool→iu P t [.v (.bool b)]
 |int {t:TypeId} {k:IntKind} (n:Int):P.underlying t=some (.int k)→(Lit.int k n).wf=true→iu P t [.v (.int k n)]
 |str {t:TypeId} (s:ByteArray):P.underlying t=some .string→s.size≤reachBytes→iu P t [.v (.string s)]
 |slice {t e:TypeId} (es:List (List ba)):P.underlying t=some (.slice e)→es.length≤maxLen∧es.length*P.bytesOf e≤reachBytes→(∀x∈es,iu P e x)→iu P t [.aL (P.cellsOf e) es]
 |struct {t:TypeId} {fs:Array Field} (parts:List (List ba)):P.underlying t=some (.struct fs)→parts.length=fs.toList.length→(∀(i:Nat) (f:Field) (p:List ba),fs.toList[i]? =some f→parts[i]? =some p→iu P f.type p)→iu P t parts.flatten
 |array {t e:TypeId} {n:Nat} (parts:List (List ba)):P.underlying t=some (.array n e)→parts.length=n→(∀p∈parts,iu P e p)→iu P t parts.flatten
def q6(P:Program):Nat→TypeId→Bool
 |0,_=>false
 |n+1,t=>decide (t<P.types.size)&&match P.underlying t with
  |some .bool=>true
  |some (.int _)=>true
  |some .string=>true
  |some (.slice e)=>q6 P n e
  |some (.array _ e)=>q6 P n e
  |some (.struct fs)=>fs.toList.all fun f=>q6 P n f.type
  |_=>false
theorem mapM_some{α β:Type}{f:α→Option β}: ∀{l:List α} {r:List β},l.mapM f=some r→r.length=l.length∧∀(i:Nat) (x:α),l[i]? =some x→∃y,f x=some y∧r[i]? =some y
 |[],r,h=>by
  simp at h;subst h;exact⟨rfl,by simp⟩
 |a::l,r,h=>by
  rw[List.mapM_cons]at h
  cases aI:f a with
  |none=>simp[aI]at h
  |some b=>
   cases an:l.mapM f with
   |none=>simp[aI,an]at h
   |some cC=>
    simp[aI,an]at h;subst h;obtain⟨aa,af⟩:=mapM_some an;refine⟨by simp[aa],fun i x hx=>?_⟩
    cases i with
    |zero=>simp at hx;subst hx;exact⟨b,aI,rfl⟩
    |succ i=>simpa using af i x (by simpa using hx)
section
variable {H:Type} {enc:TypeId × Value→H} {P:Program} {w:World}
abbrev kR(w:World):Nat→Prop:=fun b=>b<w.heap.size
theorem WT{a:Addr}{c:Value}(h:w.cell? a=some c):a.block<w.heap.size:=by
 rcases Nat.lt_or_ge a.block w.heap.size with aa|aa
 ·exact aa
 ·exfalso
  have:w.heap[a.block]? =none:=Array.getElem?_eq_none aa
  simp[World.cell?,this]at h
def Fits(P:Program)(w:World)(t:TypeId)(cs:List Value):Prop:=∃rs,iu P t rs∧rs.length=cs.length∧∀j r,rs[j]? =some r→c6 w (kR w) r (cs.getD j undef)
theorem Nz: ∀(fs:List Field) (off:Nat) (cs:List Value),(∀(j:Nat) (f:Field),fs[j]? =some f→f.offset=off+((fs.take j).map fun f=>P.cellsOf f.type).sum)→
 (∀f∈fs,Fits P w f.type ((cs.drop f.offset).take (P.cellsOf f.type)))→off+(fs.map fun f=>P.cellsOf f.type).sum≤cs.length→
 ∃parts:List (List ba),parts.length=fs.length∧(∀(i:Nat) (f:Field) (p:List ba),fs[i]? =some f→parts[i]? =some p→iu P f.type p)∧parts.flatten.length=(fs.map fun f=>P.cellsOf f.type).sum∧
  ∀j r,parts.flatten[j]? =some r→c6 w (kR w) r (cs.getD (off+j) undef)
 |[],off,cs,_,_,_=>⟨[],rfl,by simp,by simp,by simp⟩
 |f::fs,off,cs,ao,hf,an=>by
  have aP:f.offset=off:=by have:=ao 0 f rfl;simpa using this
  obtain⟨rs,aa,af,ar⟩:=hf f (by simp)
  simp only[List.map_cons,List.sum_cons]at an
  have hlen:rs.length=P.cellsOf f.type:=by rw[af,aP];simp;omega
  obtain⟨parts,g1,g2,g3,g4⟩:=Nz fs (off+P.cellsOf f.type) cs (fun j q aH=>by
   have:=ao (j+1) q (by simpa using aH)
   simp only[List.take_succ_cons,List.map_cons,List.sum_cons]at this
   omega) (fun q aH=>hf q (by simp[aH])) (by omega)
  refine⟨rs::parts,by simp[g1],fun i q p aH ak=>?_,by simp[g3,hlen],fun j r ai=>?_⟩
  ·cases i with
   |zero=>
    simp at aH ak;subst aH;subst ak;exact aa
   |succ i=>exact g2 i q p (by simpa using aH) (by simpa using ak)
  ·rw[List.flatten_cons]at ai
   by_cases dv:j<rs.length
   ·rw[List.getElem?_append_left dv]at ai
    have:=ar j r ai
    have vN:j<P.cellsOf f.type:=by omega
    rw[aP]at this;simpa[List.getD,List.getElem?_take,List.getElem?_drop,vN]using this
   ·rw[List.getElem?_append_right (by omega)]at ai
    have:=g4 _ r ai
    rw[show off+P.cellsOf f.type+(j-rs.length)=off+j from by omega]at this
    exact this
theorem Hp{e:TypeId}(n:Nat): ∀(k:Nat) (xZ:Nat→List Value),(∀i,i<k→Fits P w e (xZ i)∧(xZ i).length=n)→
 ∃es:List (List ba),es.length=k∧(∀x∈es,iu P e x∧x.length=n)∧∀j r,es.flatten[j]? =some r→c6 w (kR w) r ((xZ (j/ n)).getD (j%n) undef)
 |0,_,_=>⟨[],rfl,by simp,by simp⟩
 |k+1,xZ,h=>by
  obtain⟨⟨rs,aa,af,ar⟩,hn⟩:=h 0 (by omega)
  obtain⟨es,g1,g2,g3⟩:=Hp n k (fun i=>xZ (i+1)) fun i hi=>h (i+1) (by omega)
  refine⟨rs::es,by simp[g1],fun x hx=>?_,fun j r ai=>?_⟩
  ·rcases List.mem_cons.1 hx with rfl|hx
   ·exact⟨aa,by omega⟩
   ·exact g2 x hx
  ·rw[List.flatten_cons]at ai
   by_cases dv:j<rs.length
   ·rw[List.getElem?_append_left dv]at ai
    have mY:j<n:=by omega
    rw[Nat.div_eq_of_lt mY,Nat.mod_eq_of_lt mY];exact ar j r ai
   ·rw[List.getElem?_append_right (by omega)]at ai
    have:=g3 _ r ai
    have uW:0<n:=by
     rcases Nat.eq_zero_or_pos n with aP|aP
     ·exfalso
      have mZ:es.flatten.length=es.length*n:=iW fun x hx=>(g2 x hx).2
      have:=(List.getElem?_eq_some_iff.1 ai).1
      rw[mZ,aP]at this;simp at this
     ·exact aP
    have aC:j-rs.length=j-n:=by omega
    rw[aC]at this
    have a6:(j-n)/ n+1=j/ n:=(Nat.div_eq_sub_div uW (by omega)).symm
    have ck:(j-n)%n=j%n:=(Nat.mod_eq_sub_mod (by omega)).symm
    simp only[a6,ck]at this;exact this
theorem x1{t:TypeId}{r:ba}{c:Value}(h:iu P t [r])(ae:c6 w (kR w) r c):Fits P w t [c]:=
 ⟨[r],h,rfl,fun j x ai=>by
  cases j with
  |zero=>simp at ai;subst ai;exact ae
  |succ j=>simp at ai⟩
theorem NA{base:Nat}{a:Addr}{n:Nat}{l:List Value}(h:w.cells? base a n=some l):l.length=n∧∀i,i<n→w.cell? (a.add i)=l[i]? :=by
 unfold World.cells? at h
 split at h
 ·obtain⟨aa,af⟩:=mapM_some h
  refine⟨by simpa using aa,fun i hi=>?_⟩
  obtain⟨y,ax,an⟩:=af i i (by simp[hi])
  rw[an,ax]
 ·cases h
theorem Hq{e:TypeId}: ∀{l:List (DataW H)} {d:DataW H},d∈l→∀n∈d.weights P e,n∈DataW.weightsAll P e l
 |d0::l,d,hd,n,hn=>by
  simp only[DataW.weightsAll,List.mem_append]
  rcases List.mem_cons.1 hd with rfl|hd
  ·exact .inl hn
  ·exact .inr (Hq hd n hn)
theorem Bv(K:Kids P (· < P.types.size)): ∀(m n:Nat) (t:TypeId) (cs:List Value) (x:DataW H × List MemPlace) {base:Nat} {sp:Nat→Bool} {held:Bool},q6 P m t=true→
 DataW.trod enc P w base sp held n t cs=some x→(∀q∈x.1.weights P t,q≤reachBytes)→Fits P w t cs
 |0,_,_,_,_,_,_,_,ak,_,_=>by simp[q6]at ak
 |m+1,n,t,cs,x,base,sp,held,ak,h,eV=>by
  simp only[q6,Bool.and_eq_true,decide_eq_true_eq]at ak;obtain⟨dk,ak⟩:=ak
  cases hu:P.underlying t with
  |none=>rw[hu]at ak;cases ak
  |some d=>
   rw[hu]at ak
   cases d with
   |bool=>
    obtain⟨b,rfl,_⟩:=DataW.trod_bool hu h;exact x1 (.bool b hu) (.v _ rfl)
   |int k=>
    obtain⟨b,rfl,_,hw⟩:=DataW.trod_int hu h;exact x1 (.int b hu hw) (.v _ rfl)
   |string=>
    obtain⟨b,rfl,hx,hw⟩:=DataW.trod_string hu h;rw[hx]at eV;exact x1 (.str b hu (by simpa[DataW.weights]using eV)) (.v _ rfl)
   |slice e=>
    rcases DataW.trod_slice hu h with⟨rfl,_⟩|⟨a,len,cap,elems,rest,k,rfl,rfl,hx,_,hle,h4,mc,ef,_⟩
    ·exact x1 (.slice [] hu ⟨Nat.zero_le _,by simp⟩ (by simp)) (.aL _ [] none 0 (fun _=>undef) (Nat.le_refl _) (Nat.zero_le _) (by simp) (by simp) (by simp))
    ·rw[hx]at eV
     simp only[DataW.weights,hu,List.mem_cons,List.mem_append,List.length_map]at eV
     have wb:len*P.bytesOf e≤reachBytes:=Nat.le_trans (Nat.mul_le_mul_right _ (by rw[mc];exact Nat.le_add_right _ _)) (eV _ (.inl rfl))
     have NB: ∀i,i<len→∃l,w.cells? base (a.add (i*P.cellsOf e)) (P.cellsOf e)=some l∧Fits P w e l:=by
      intro i hi
      have aa:=ef i hi
      rw[List.getElem?_eq_getElem (by omega)]at aa
      cases hc:w.cells? base (a.add (i*P.cellsOf e)) (P.cellsOf e)with
      |none=>rw[hc]at aa;cases aa
      |some l=>rw[hc]at aa;exact⟨l,rfl,Bv K m k e l _ ak aa fun q aH=>eV q (.inr (.inl (Hq (List.mem_map_of_mem (List.getElem_mem _)) q aH)))⟩
     obtain⟨es,g1,g2,g3⟩:=Hp (P:=P) (w:=w) (e:=e) (P.cellsOf e) len (fun i=>(w.cells? base (a.add (i*P.cellsOf e)) (P.cellsOf e)).getD []) fun i hi=>by
      obtain⟨l,aa,af⟩:=NB i hi;rw[aa];exact⟨af,(NA aa).1⟩
     have hlen:es.length=len:=g1
     refine x1 (.slice es hu ⟨by omega,by rw[hlen];exact wb⟩ fun x hx=>(g2 x hx).1) ?_
     rw[←hlen];refine .aL _ es (some a) cap (fun j=>((w.cells? base (a.add (j/ P.cellsOf e*P.cellsOf e)) (P.cellsOf e)).getD []).getD (j%P.cellsOf e) undef) (by omega) h4 (fun x hx=>(g2 x hx).2) (fun _=>⟨a,rfl,fun j ai=>?_⟩) g3
     have uW:0<P.cellsOf e:=by
      rcases Nat.eq_zero_or_pos (P.cellsOf e)with aP|aP
      ·rw[aP]at ai;simp at ai
      ·exact aP
     have mi:j/ P.cellsOf e<len:=by rw[Nat.div_lt_iff_lt_mul uW];rw[hlen]at ai;exact ai
     have mh:j%P.cellsOf e<P.cellsOf e:=Nat.mod_lt _ uW
     obtain⟨l,aa,_⟩:=NB _ mi;obtain⟨af,ar⟩:=NA aa
     have aQ:=ar _ mh
     rw[vH,Nat.mul_comm,Nat.div_add_mod]at aQ;rw[aa]
     have bx:w.cell? (a.add j)=some (l.getD (j%P.cellsOf e) undef):=by
      rw[aQ]
      have:j%P.cellsOf e<l.length:=by omega
      simp[List.getD,List.getElem?_eq_getElem this]
     exact⟨by have:=WT bx;rwa[rL]at this,bx⟩
   |array k e=>
    obtain⟨xs,q,rfl,hx,o0,iD,ef⟩:=DataW.trod_array hu h;rw[hx]at eV;simp only[DataW.weights,hu]at eV
    obtain⟨es,g1,g2,g3⟩:=Hp (P:=P) (w:=w) (e:=e) (P.cellsOf e) k (fun i=>(cs.drop (i*P.cellsOf e)).take (P.cellsOf e)) fun i hi=>by
     have aa:=ef i hi
     rw[List.getElem?_eq_getElem (by omega)]at aa
     refine⟨Bv K m q e _ _ ak aa fun z bl=>eV z (Hq (List.mem_map_of_mem (List.getElem_mem _)) z bl),?_⟩
     have af:=Nat.mul_le_mul_right (P.cellsOf e) (show i+1≤k from hi)
     rw[Nat.succ_mul]at af
     have:=(K.array dk hu).2
     simp;omega
    refine⟨es.flatten,.array es hu g1 fun p ak=>(g2 p ak).1,?_,fun j r ai=>?_⟩
    ·rw[iW fun x hx=>(g2 x hx).2,g1,o0,(K.array dk hu).2]
    ·have:=g3 j r ai
     have dv:=(List.getElem?_eq_some_iff.1 ai).1
     have uW:0<P.cellsOf e:=by
      rcases Nat.eq_zero_or_pos (P.cellsOf e)with aP|aP
      ·rw[iW fun x hx=>(g2 x hx).2,aP]at dv;simp at dv
      ·exact aP
     have mh:j%P.cellsOf e<P.cellsOf e:=Nat.mod_lt _ uW
     have hm:j/ P.cellsOf e*P.cellsOf e+j%P.cellsOf e=j:=by rw[Nat.mul_comm];exact Nat.div_add_mod _ _
     simpa[List.getD,List.getElem?_take,List.getElem?_drop,mh,hm]using this
   |struct fs=>
    obtain⟨xs,q,rfl,hx,o0,iD,ef⟩:=DataW.trod_struct hu h;rw[hx]at eV;simp only[DataW.weights,hu]at eV;obtain⟨_,vk,vP⟩:=K.struct dk hu
    obtain⟨parts,g1,g2,g3,g4⟩:=Nz (P:=P) (w:=w) fs.toList 0 cs (fun j f hf=>by rw[vP j f hf];simp) (fun f hf=>by
     obtain⟨i,hi,rfl⟩:=List.mem_iff_getElem.1 hf
     have WU:fs[i]? =some fs.toList[i]:=by simp at hi;simp[hi]
     have aa:=ef i _ WU
     have AU:i<xs.length:=by rw[iD];simpa using hi
     rw[List.getElem?_eq_getElem AU]at aa
     rw[List.all_eq_true]at ak
     exact Bv K m q _ _ _ (ak _ (List.getElem_mem hi)) aa fun z bl=>eV z (DataW.weights_mem_each (j:=i) (by rw[List.getElem?_map,List.getElem?_eq_getElem hi];rfl) (by rw[List.getElem?_map,List.getElem?_eq_getElem AU];rfl) z bl)) (by rw[o0,vk];omega)
    exact⟨parts.flatten,.struct parts hu g1 g2,by rw[g3,o0,vk],fun j r ai=>by have:=g4 j r ai;simpa using this⟩
   |_=>cases ak
theorem WV(K:Kids P (· < P.types.size)){m:Nat}{t:TypeId}(ak:q6 P m t=true){v:Value}{d:DataW H}{ps:List MemPlace}{base:Nat}{sp:Nat→Bool}{held:Bool}(h:DataW.Trod enc P w base sp held t v d ps)(eV: ∀q∈d.weights P t,q≤reachBytes):Fits P w t v.cells.toList:=by
 obtain⟨n,hn⟩:=h
 exact Bv K m n t _ _ ak hn eV
theorem Fits.agg{t:TypeId}{cs:Array Value}(h:Fits P w t cs.toList){β:Nat→Value}{N:Nat}: ∃rs,iu P t rs∧bk w (kR w) [] β N (.agg (Sw rs)) (.agg cs):=by
 obtain⟨rs,aa,af,ar⟩:=h
 refine⟨rs,aa,.agg _ cs (by simpa using af.symm) fun j x ai=>?_⟩
 rw[List.getElem?_map]at ai
 cases ae:rs[j]? with
 |none=>simp[ae]at ai
 |some r=>
  simp[ae]at ai;subst ai
  have:=ar j r ae
  exact .au _ _ (by simpa[List.getD,Array.getD_eq_getD_getElem?]using this)
theorem Fits.one{t:TypeId}{v:Value}(h:Fits P w t v.cells.toList)(av:v.cells= #[v]){β:Nat→Value}{N:Nat}: ∃r,iu P t [r]∧bk w (kR w) [] β N (.au r) v:=by
 obtain⟨rs,aa,af,ar⟩:=h
 rw[av]at af
 match rs,af,aa,ar with
 |[r],_,aa,ar=>
  have:=ar 0 r rfl
  rw[av]at this;exact⟨r,aa,.au _ _ (by simpa using this)⟩
def fieldTypes(P:Program)(t:TypeId):Option (List TypeId):=
 match P.underlying t with
 |some (.struct fs)=>some (fs.toList.map (·.type))
 |_=>none
def Hr(P:Program)(t:TypeId):Bool:=
 match P.underlying t with
 |some .bool=>true
 |some (.int _)=>true
 |some .string=>true
 |some (.slice _)=>true
 |_=>false
theorem WW{r:Reach}{gR:Nat}{t:TypeId}{v:Value}(h:Value.okWide P w r gR t v)(ah:Hr P t=true):v.cells= #[v]:=by
 unfold Hr at ah
 split at ah
 ·rename_i hu
  simp only[Value.okWide,hu,Cell.okWide,Cell.ok]at h
  cases v<;>first|rfl|exact h.elim
 ·rename_i hu
  simp only[Value.okWide,hu,Cell.okWide,Cell.ok]at h
  cases v<;>first|rfl|exact h.elim
 ·rename_i hu
  simp only[Value.okWide,hu,Cell.okWide,Cell.ok]at h
  cases v<;>first|rfl|exact h.elim
 ·rename_i hu
  simp only[Value.okWide,hu,Cell.okWide,Cell.ok]at h
  cases v<;>first|rfl|exact h.elim
 ·cases ah
theorem WX{r:Reach}{gR:Nat}{t:TypeId}{v:Value}(h:Value.okWide P w r gR t v)(ah:(fieldTypes P t).isSome=true): ∃cs,v= .agg cs:=by
 unfold fieldTypes at ah
 split at ah
 ·rename_i hu
  simp only[Value.okWide,hu]at h;obtain⟨cs,rfl,_⟩:=h;exact⟨cs,rfl⟩
 ·cases ah
theorem WY{w':World}{p:MemPlace}(ak:p.block<w.heap.size)(h: ∀b,b<w.heap.size→w'.heap[b]? =w.heap[b]?):w.sameAt w' p:=by
 cases p with
 |cell b off=>exact World.cell?_of_block (a:=⟨b,off,none⟩) (h b ak)
 |map b=>exact h b ak
theorem NC{w':World}(h: ∀b,b<w.heap.size→w'.heap[b]? =w.heap[b]?){base:Nat}{sp:Nat→Bool}{held:Bool}: ∀{ts:List TypeId} {vs:List Value} {ds:List (DataW H)} {ps:List MemPlace},DataW.TrodAll enc P w base sp held ts vs ds ps→DataW.TrodAll enc P w' base sp held ts vs ds ps
 |[],[],[],_,h=>h
 |_::_,_::_,_::_,_,⟨p,q,⟨n,hn⟩,af,e⟩=>
  ⟨p,q,⟨n,DataW.trod_carry n _ _ _ hn fun x hx=>WY (DataW.trod_lt n _ _ _ hn x hx) h⟩,NC h af,e⟩
theorem WZ{w':World}{may:MemPlace→Prop}(aa:w'.os=w.os)(af:w'.output=w.output)(h: ∀b,b<w.heap.size→w'.heap[b]? =w.heap[b]?):w.keptBut w' may:=by
 refine⟨aa,af,fun i hi=>?_⟩
 rw[h i hi]
 cases hw:w.heap[i]? with
 |none=>rfl
 |some o=>
  cases o with
  |cells c t oO=>exact⟨rfl,rfl,rfl,fun _ _=>rfl⟩
  |map es clock=>exact .inr ⟨rfl,rfl⟩
  |_=>rfl
theorem W0{G:aY}{f:FuncId}{fn:Func}{s:ChangeSpec}{args:Array Value}{ds gs:List (DataW H)}{before:List MemPlace}{tb:TypeId}{avs':List az}{β:Nat→Value}
 (q7:DataW.Whole enc P fn.params.toList s.vars false w args.toList ds gs before)(av:s.vars=[])(ah:s.fn H (ds++gs)={results:=[.lit (.bool true)],args:=ds})(o4:fn.resultTypes= #[tb])(Hs:P.underlying tb=some .bool)
 (K:Kids P (· < P.types.size))(bl: ∀t e,t<P.types.size→P.underlying t=some (.slice e)→0<P.cellsOf e)(xv: ∀t∈fn.params.toList,t<P.types.size)
 (hlen:args.size=avs'.length)(hy: ∀i x,avs'[i]? =some x→bk w (kR w) [] β 0 x (args.getD i undef))(vF:oN w (kR w) G)(hc:dn P G f avs' [] 0 fun r bE=>r=l4 true∧bE=[]):
 Calls P f args w fun e w'=>∃v,e= .returned v∧s.post enc P fn false true false false w args v w':=by
 refine Calls.mono (hc w β (kR w) args hlen hy ⟨by simp[aA],by simp[aA],fun b _ ⟨_,_,ag,_⟩=>by simp[aA]at ag,fun b ad=>ad⟩ vF (by simp[aA])) fun e w' aH=>?_
 obtain⟨v,r,eU,dB,ro',cy,rfl,⟨rfl,rfl⟩,c1,_,aB⟩:=aH
 obtain rfl:=bk.val c1
 have aV: ∀b,b<w.heap.size→w'.heap[b]? =w.heap[b]? :=fun b ad=>aB.frame b ad fun⟨_,_,ag,_⟩=>by simp[aA]at ag
 refine⟨_,rfl,ds,gs,before,[],before,[],q7,?_,?_,?_,WZ aB.os aB.output aV,fun h=>by cases h⟩
 ·rw[ah,o4]
  exact trodAll_mk1 (shut_bool Hs true)
 ·rw[ah]
  have bz: ∀p∈before,(fun b=>decide (b<w.heap.size)) p.block=true:=fun p ak=>by simpa using q7.lt p ak
  obtain⟨p,q,aa,af,rfl,_⟩:=q7;rw[av]at af
  have aH:q=[]:=by
   cases gs with
   |nil=>exact af
   |cons=>cases af
  subst aH;rw[List.append_nil]at bz⊢;exact NC aV (aa.respare K bl xv bz)
 ·rw[ah,av]
  rfl
end
end Go.aG
namespace Go.aG
open Go Go.ChangeShapes Go.WideShapes
def uX:List (Option (List aU))→Option (List aU)
 |[]=>some []
 |none::_=>none
 |some l::r=>match uX r with
  |some m=>some (l++m)
  |none=>none
def x2:List aU→List aU→Bool
 |[],[]=>true
 |a::l,b::m=>iH a b&&x2 l m
 |_,_=>false
theorem Ht: ∀{l m:List aU},x2 l m=true→l=m
 |[],[],_=>rfl
 |[],_::_,h=>by cases h
 |_::_,[],h=>by cases h
 |a::l,b::m,h=>by
  simp only[x2,Bool.and_eq_true]at h;rw[hT h.1,Ht h.2]
def kO(P:Program)(T:List (Nat × bC)):Nat→TypeId→Option (List aU)
 |0,_=>none
 |n+1,t=>match P.underlying t with
  |some .bool=>some [.bool]
  |some (.int k)=>some [.int k]
  |some .string=>some [.str]
  |some (.slice e)=>match ui T e,kO P T n e with
   |some c,some l=>match x2 l (e3 c)&&Nat.beq (P.cellsOf e) (cO c)with
    |true=>some [.li c]
    |false=>none
   |_,_=>none
  |some (.array k e)=>uX (List.replicate k (kO P T n e))
  |some (.struct fs)=>uX (fs.toList.map fun f=>kO P T n f.type)
  |_=>none
inductive jY:aS→Prop where
 |int (k:IntKind) (x:Int):(Lit.int k x).wf=true→jY ⟨.int k,x⟩
 |bool (b:Bool):jY ⟨.bool,b⟩
 |str (s:ByteArray):s.size≤reachBytes→jY ⟨.str,s⟩
 |li (c:bC) (l:List (fN c)):l.length≤maxLen→(∀x∈l,∀d∈kW c x,jY d)→jY ⟨.li c,l⟩
inductive pO:List (List ba)→List (List ba)→Prop where
 |nil:pO [] []
 |cons {x y:List ba} {xs ys:List (List ba)}:fH x y→pO xs ys→pO (x::xs) (y::ys)
theorem pO.flat{xs ys:List (List ba)}(h:pO xs ys):fH xs.flatten ys.flatten:=by
 induction h with
 |nil=>exact .nil
 |cons h _ aO=>rw[List.flatten_cons,List.flatten_cons];exact h.append aO
theorem pO.len{xs ys:List (List ba)}(h:pO xs ys):xs.length=ys.length:=by
 induction h with
 |nil=>rfl
 |cons h _ aO=>simp[aO]
theorem W1{c:bC}{n:Nat}{es:List (List ba)}{l:List (fN c)}(hn:n=cO c)(h:pO es (l.map (cF c))):lb (.aL n es) (.li c l):=by
 subst hn
 intro w ro v ae
 refine .li _ _ _ ?_
 cases ae with
 |aL _ _ b cap W2 aa af ar aQ bx=>
  have hlen:(l.map (cF c)).length=es.length:=h.len.symm
  rw[←hlen];refine .aL _ _ b cap W2 (by omega) af (fun e he=>?_) (fun ak=>?_) fun j y ai=>?_
  ·obtain⟨x,_,rfl⟩:=List.mem_map.1 he
   exact zv c x
  ·rw[hlen]at ak⊢
   exact aQ ak
  ·obtain⟨x,hx,ah⟩:=h.flat.at.2 j y ai
   exact ah _ _ _ (bx j x hx)
section
variable {P:Program} {T:List (Nat × bC)}
theorem Hu{n:Nat}(aO: ∀{t:TypeId} {rs:List ba} {l:List aU},iu P t rs→kO P T n t=some l→∃ds:List aS,ds.map aS.r=l∧fH rs (ds.map aS.au)∧∀d∈ds,jY d):
 ∀(ts:List TypeId) (parts:List (List ba)) {l:List aU},parts.length=ts.length→(∀(i:Nat) (t:TypeId) (p:List ba),ts[i]? =some t→parts[i]? =some p→iu P t p)→uX (ts.map (kO P T n))=some l→
 ∃ds:List aS,ds.map aS.r=l∧fH parts.flatten (ds.map aS.au)∧∀d∈ds,jY d
 |[],parts,l,an,_,hc=>by
  cases List.eq_nil_of_length_eq_zero an
  cases hc;exact⟨[],rfl,.nil,by simp⟩
 |t::ts,[],l,an,_,_=>by cases an
 |t::ts,p::parts,l,an,ah,hc=>by
  simp only[List.map_cons]at hc
  cases aa:kO P T n t with
  |none=>rw[aa]at hc;cases hc
  |some Ao=>
   rw[aa]at hc;simp only[uX]at hc
   cases af:uX (ts.map (kO P T n))with
   |none=>rw[af]at hc;cases hc
   |some YK=>
    rw[af]at hc;cases hc;obtain⟨d1,bN,a2,a3⟩:=aO (ah 0 t p rfl rfl) aa;obtain⟨d2,ez,gB,fE⟩:=Hu aO ts parts (by simpa using an) (fun i t p hi ak=>ah (i+1) t p (by simpa using hi) (by simpa using ak)) af
    refine⟨d1++d2,by simp[bN,ez],by rw[List.flatten_cons,List.map_append];exact a2.append gB,fun d hd=>?_⟩
    rcases List.mem_append.1 hd with hd|hd
    ·exact a3 d hd
    ·exact fE d hd
theorem ND{c:bC}{e:TypeId}(aO: ∀{rs:List ba},iu P e rs→∃ds:List aS,ds.map aS.r=e3 c∧fH rs (ds.map aS.au)∧∀d∈ds,jY d):
 ∀(es:List (List ba)),(∀x∈es,iu P e x)→∃l:List (fN c),pO es (l.map (cF c))∧∀x∈l,∀d∈kW c x,jY d
 |[],_=>⟨[],.nil,by simp⟩
 |x::es,h=>by
  obtain⟨ds,bN,a2,a3⟩:=aO (h x (by simp))
  obtain⟨l,ez,gB⟩:=ND aO es fun y ax=>h y (by simp[ax])
  have hc:kW c (np c ds)=ds:=Ec c ds bN
  refine⟨np c ds::l,.cons (by unfold cF;rw[hc];exact a2) ez,fun y ax d hd=>?_⟩
  rcases List.mem_cons.1 ax with rfl|ax
  ·rw[hc]at hd
   exact a3 d hd
  ·exact gB y ax d hd
theorem x3: ∀(n:Nat) {t:TypeId} {rs:List ba} {l:List aU},iu P t rs→kO P T n t=some l→∃ds:List aS,ds.map aS.r=l∧fH rs (ds.map aS.au)∧∀d∈ds,jY d
 |0,_,_,_,_,h=>by cases h
 |n+1,t,rs,l,h,hf=>by
  unfold kO at hf
  cases h with
  |bool b hu=>
   rw[hu]at hf;cases hf;exact⟨[⟨.bool,b⟩],rfl,.cons (lb.refl _) .nil,fun d hd=>by cases List.mem_singleton.1 hd;exact .bool b⟩
  |int x hu hw=>
   rw[hu]at hf;cases hf;exact⟨[⟨.int _,x⟩],rfl,.cons (lb.refl _) .nil,fun d hd=>by cases List.mem_singleton.1 hd;exact .int _ _ hw⟩
  |str s hu hw=>
   rw[hu]at hf;cases hf;exact⟨[⟨.str,s⟩],rfl,.cons (lb.refl _) .nil,fun d hd=>by cases List.mem_singleton.1 hd;exact .str _ hw⟩
  |slice es hu an hw=>
   rw[hu]at hf;simp only at hf
   split at hf
   ·rename_i c Ao _ af
    split at hf
    ·rename_i hc
     cases hf;simp only[Bool.and_eq_true]at hc
     have ar:=Ht hc.1
     subst ar;obtain⟨l,bN,a2⟩:=ND (c:=c) (fun hx=>x3 n hx af) es hw;refine⟨[⟨.li c,l⟩],rfl,.cons (W1 (Nat.eq_of_beq_eq_true hc.2) bN) .nil,fun d hd=>?_⟩
     cases List.mem_singleton.1 hd
     exact .li _ _ (by have:=bN.len;rw[List.length_map]at this;have:=an.1;omega) a2
    ·cases hf
   ·cases hf
  |struct parts hu aa af=>
   rw[hu]at hf;simp only at hf;rename_i fs
   have hm:(fs.toList.map fun f=>kO P T n f.type)=(fs.toList.map (·.type)).map (kO P T n):=by rw[List.map_map];rfl
   rw[hm]at hf
   obtain⟨ds,bN,a2,a3⟩:=Hu (fun hx ax=>x3 n hx ax) _ parts (by rw[List.length_map];exact aa) (fun i u p hi ak=>by
    rw[List.getElem?_map]at hi
    cases Hv:fs.toList[i]? with
    |none=>rw[Hv]at hi;cases hi
    |some f=>
     rw[Hv]at hi;cases hi
     exact af i f p Hv ak) hf
   exact⟨ds,bN,a2,a3⟩
  |array parts hu aa af=>
   rw[hu]at hf;simp only at hf;rename_i e k
   have hm:List.replicate k (kO P T n e)=(List.replicate k e).map (kO P T n):=by rw[List.map_replicate]
   rw[hm]at hf
   obtain⟨ds,bN,a2,a3⟩:=Hu (fun hx ax=>x3 n hx ax) _ parts (by rw[List.length_replicate];exact aa) (fun i u p hi ak=>by
    have:=List.mem_of_getElem? hi
    cases (List.mem_replicate.1 this).2
    exact af p (List.mem_of_getElem? ak)) hf
   exact⟨ds,bN,a2,a3⟩
def Hw(P:Program)(T:List (Nat × bC))(t:TypeId):Option aU:=
 match(fieldTypes P t).isSome with
 |true=>match ui T t,kO P T 20 t with
  |some c,some l=>match x2 l (e3 c)with
   |true=>some (.st c)
   |false=>none
  |_,_=>none
 |false=>match Hr P t,kO P T 20 t with
  |true,some [r]=>match r.one with
   |true=>some r
   |false=>none
  |_,_=>none
def Bw(P:Program)(T:List (Nat × bC)):List TypeId→Option (List aU)
 |[]=>some []
 |t::ts=>match q6 P 20 t,Hw P T t,Bw P T ts with
  |true,some r,some rs=>some (r::rs)
  |_,_,_=>none
def q9(d:aS):Prop:=
 match d with
 |⟨.st c,x⟩=>∀q∈kW c x,jY q
 |d=>jY d
variable {H:Type} {enc:TypeId × Value→H} {w:World}
theorem W3{β:Nat→Value}{t:TypeId}{v:Value}{r:aU}{reach:Reach}{gR:Nat}(hf:Fits P w t v.cells.toList)(av:Value.okWide P w reach gR t v)(h:Hw P T t=some r): ∃x:r.den,bk w (kR w) [] β 0 (aS.e5 ⟨r,x⟩) v∧q9 ⟨r,x⟩:=by
 unfold Hw at h
 split at h
 ·rename_i ah
  split at h
  ·rename_i c l _ an
   split at h
   ·rename_i hc
    cases h;obtain rfl:=Ht hc;obtain⟨cs,rfl⟩:=WX av ah;obtain⟨rs,g1,g2⟩:=Fits.agg (P:=P) (w:=w) (cs:=cs) hf (β:=β) (N:=0);obtain⟨ds,bN,a2,a3⟩:=x3 20 g1 an
    have hc:kW c (np c ds)=ds:=Ec c ds bN
    refine⟨np c ds,?_,fun q aH=>a3 q (by rw[←hc];exact aH)⟩
    have sB:aS.e5 ⟨.st c,np c ds⟩= .agg ((ds.map aS.au).map .au):=by
     show az.agg ((cF c (np c ds)).map .au)=_;unfold cF;rw[hc]
    rw[sB];exact(fH.e5 a2).agg _ _ _ _ _ _ g2
   ·cases h
  ·cases h
 ·split at h
  ·rename_i dW ao an
   split at h
   ·rename_i aa
    cases h;obtain⟨y,g1,g2⟩:=Fits.one (P:=P) (w:=w) hf (WW av ao) (β:=β) (N:=0);obtain⟨ds,bN,a2,a3⟩:=x3 20 g1 an;obtain⟨d,nr,rfl,rfl,hn⟩:=kE bN
    cases la hn
    cases a2 with
    |cons ah _=>
     have di:=M8 aa
     refine⟨d.v,?_,?_⟩
     ·show bk w (kR w) [] β 0 (aS.e5 d) v
      have:aS.e5 d= .au d.au:=M7 (x:=d.v) di
      rw[this];exact ah.e5 _ _ _ _ _ _ g2
     ·have:=a3 d (List.mem_singleton.2 rfl)
      unfold q9
      split
      ·rename_i c x heq
       exact absurd (congrArg aS.r heq) (di c)
      ·exact this
   ·cases h
  ·cases h
theorem NF(K:Kids P (· < P.types.size)){β:Nat→Value}{base gR:Nat}{sp:Nat→Bool}{held:Bool}{reach:Reach}: ∀{ts:List TypeId} {vs:List Value} {ds:List (DataW H)} {ps:List MemPlace} {rs:List aU},DataW.TrodAll enc P w base sp held ts vs ds ps→Bw P T ts=some rs→
 (∀q∈DataW.weightsEach P ts ds,q≤reachBytes)→(∀(j:Nat) t v,ts[j]? =some t→vs[j]? =some v→Value.okWide P w reach gR t v)→
 ds.length=ts.length∧∃dl:List aS,dl.map aS.r=rs∧dl.length=vs.length∧(∀(j:Nat) x,(dl.map aS.e5)[j]? =some x→∃v,vs[j]? =some v∧bk w (kR w) [] β 0 x v)∧∀d∈dl,q9 d
 |[],vs,ds,ps,rs,h,ak,_,_=>by
  obtain⟨rfl,rfl,rfl⟩:=trodAll_nil h;cases ak;exact⟨rfl,[],rfl,rfl,by simp,by simp⟩
 |t::ts,vs,ds,ps,rs,h,ak,hw,ao=>by
  obtain⟨v,YL,d,nr,p,q,rfl,rfl,rfl,aa,af⟩:=trodAll_cons h;unfold Bw at ak
  split at ak
  ·rename_i r YM n9 ae mg
   cases ak;obtain⟨g0,dl,g1,g2,g3,g4⟩:=NF K af mg (fun q aH=>hw q (by rw[DataW.weightsEach];exact List.mem_append_right _ aH)) fun j bn bo ai qt=>ao (j+1) bn bo (by simpa using ai) (by simpa using qt)
   obtain⟨x,bN,a2⟩:=W3 (β:=β) (WV K n9 aa fun q aH=>hw q (by rw[DataW.weightsEach];exact List.mem_append_left _ aH)) (ao 0 t v rfl rfl) ae
   refine⟨by simp[g0],⟨r,x⟩::dl,by simp[g1],by simp[g2],fun j y ai=>?_,fun d hd=>?_⟩
   ·cases j with
    |zero=>simp at ai;subst ai;exact⟨v,rfl,bN⟩
    |succ j=>simpa using g3 j y (by simpa using ai)
   ·rcases List.mem_cons.1 hd with rfl|hd
    ·exact a2
    ·exact g4 d hd
  ·cases ak
theorem W4{G:aY}{f:FuncId}{fn:Func}{s:ChangeSpec}{args:Array Value}{ds gs:List (DataW H)}{before:List MemPlace}{tb:TypeId}{gR:Nat}{reach:Reach}{m:bc}
 (q7:DataW.Whole enc P fn.params.toList s.vars false w args.toList ds gs before)(av:s.vars=[])(ah: ∀ds:List (DataW H),ds.length=fn.params.toList.length→s.fn H ds={results:=[.lit (.bool true)],args:=ds})
 (eV:(DataW.weightsEach P (fn.params.toList++s.plain.varTypes P) (ds++gs)).all (· ≤reachBytes)=true)(wo: ∀(j:Nat) t v,fn.params[j]? =some t→args[j]? =some v→Value.okWide P w reach gR t v)
 (W5:s.plain.varTypes P=[])(o4:fn.resultTypes= #[tb])(Hs:P.underlying tb=some .bool)(K:Kids P (· < P.types.size))(bl: ∀t e,t<P.types.size→P.underlying t=some (.slice e)→0<P.cellsOf e)(xv: ∀t∈fn.params.toList,t<P.types.size)
 (o9:Bw P T fn.params.toList=some m.ps)(vF:oN w (kR w) G)(hc:df P G f m)(hm: ∀x,(∀d∈dm m.ps x,q9 d)→mD m.pre x∧kn m.rs (m.m x)=l4 true):
 Calls P f args w fun e w'=>∃v,e= .returned v∧s.post enc P fn false true false false w args v w':=by
 have W6:=q7
 obtain⟨p,q,cW,NG,rfl,_,_⟩:=q7
 rw[av]at NG
 obtain⟨rfl,rfl⟩:=trodVars_none NG
 rw[W5,List.append_nil,List.append_nil]at eV
 obtain⟨mi,dl,bN,a2,a3,a4⟩:=NF (T:=T) (β:=fun _=>undef) K cW o9 (fun q aH=>by simpa using List.all_eq_true.1 eV q aH) fun j t v ai qt=>wo j t v (by simpa using ai) (by simpa using qt)
 have xX:dm m.ps (bQ m.ps dl)=dl:=uS bN
 obtain⟨W7,ae⟩:=hm (bQ m.ps dl) (by rw[xX];exact a4)
 have gv:=(hc (bQ m.ps dl) W7).frame (σ:=[]) (n:=0) (Bg _) fun r bE ae=>by rw[ae];exact GX
 refine W0 (β:=fun _=>undef) W6 av (by rw[List.append_nil];exact ah ds mi) o4 Hs K bl xv (avs':=lZ m.ps (bQ m.ps dl)) ?_ (fun i x hx=>?_) vF (gv.res fun r bE ⟨aa,_,af⟩=>⟨af.trans ae,aa⟩)
 ·unfold lZ
  rw[xX,List.length_map,a2];exact Array.length_toList.symm
 ·unfold lZ at hx
  rw[xX]at hx;obtain⟨v,aa,af⟩:=a3 i x hx
  have:args.getD i undef=v:=by
   have tn:args[i]? =some v:=by simpa using aa
   rw[Array.getD_eq_getD_getElem?,tn];rfl
  rw[this];exact af
end
end Go.aG
namespace Go.aG
open Go
def oL:List (Nat × bq)→Nat→List (Nat × bq)
 |[],_=>[]
 |(k,x)::r,id=>match Nat.beq k id with
  |true=>oL r id
  |false=>(k,x)::oL r id
theorem Hx{G:aY}{e:Env}{id:Nat}: ∀(h:List (Nat × bq)),cv G e (oL h id)=fF (cv G e h) id
 |[]=>rfl
 |(k,x)::r=>by
  simp only[oL,cv,fF]
  by_cases aj:k=id
  ·subst aj
   simp only[Nat.beq_refl,if_true];exact Hx r
  ·have:Nat.beq k id=false:=by cases aH:Nat.beq k id with|true=>exact absurd (Nat.eq_of_beq_eq_true aH) aj|false=>rfl
   simp only[this,if_neg aj,cv,Hx r]
theorem Hy{k id:Nat}: ∀{h:List (Nat × bq)},ei k h=true→ei k (oL h id)=true
 |[],h=>h
 |(j,x)::r,h=>by
  have aV:x.lt k=true∧ei k r=true:=by cases x<;>simpa only[ei,Bool.and_eq_true]using h
  simp only[oL]
  split
  ·exact Hy aV.2
  ·show(x.lt k&&ei k (oL r id))=true
   rw[aV.1,Hy aV.2];rfl
def Hz(sI jv t5:Nat)(inl:Nat→List ab→aq→ay)(f:Nat)(as:List ab)(S:aq):ay:=
 match Nat.beq f sI,as with
 |true,[.de id 0]=>match c2 S.h id with
  |some (.cT t [x0,.aL r])=>match c2 S.h r with
   |some (.rw bn .u8 x)=>match(Nat.beq t jv&&Nat.beq bn t5)&&(x.fl (.li .u8)&&x.lt S.k)with
    |true=>emit S.k [.f1 .cC x] [] (.cc .bY ⟨aZ.put .emp 0 (.bb .str S.k),oL S.h r,S.n,S.k+1,S.g⟩)
    |false=>inl f as S
   |_=>inl f as S
  |some (.cT t [x0,.cs (.slice none 0 0)])=>match Nat.beq t jv with
   |true=>.cc .bY ⟨aZ.put .emp 0 (.cs (.string ⟨#[]⟩)),S.h,S.n,S.k,S.g⟩
   |false=>inl f as S
  |_=>inl f as S
 |_,_=>inl f as S
section
variable {P:Program} {G:aY} {M:List bc} {inl:Nat→List ab→aq→ay} {sI jv t5:Nat}
def vE(P:Program)(G:aY)(sI jv t5:Nat):Prop:=
 (∀{σ:bp} {n rid id:Nat} {x0:az} {l:List Int},aA σ id=some (.box jv [x0,.aL rid])→aA σ rid=some (.row false t5 1 (l.map fun z=>[.v (.int .u8 z)]))→
  dn P G sI [.ptr id 0] σ n fun r bE=>r= .au (.v (.string (bytesOf l)))∧bE=fF σ rid)∧
 ∀{σ:bp} {n id:Nat} {x0:az},aA σ id=some (.box jv [x0,.au (.v (.slice none 0 0))])→dn P G sI [.ptr id 0] σ n fun r bE=>r= .au (.v (.string ⟨#[]⟩))∧bE=σ
theorem W8(cW:vE P G sI jv t5)(b5:gC P G M inl):gC P G M (Hz sI jv t5 inl):=fun f as S e ad an hf ah=>by
 unfold Hz at ah⊢
 split at ah
 rotate_left
 ·exact b5 _ _ S e ad an hf ah
 rename_i id W9
 have aR:=Nat.eq_of_beq_eq_true W9
 subst aR
 split at ah
 ·rename_i t x0 r ag
  split at ah
  rotate_left
  ·exact b5 _ _ S e ad an hf ah
  rename_i bn x Xa
  split at ah
  rotate_left
  ·exact b5 _ _ S e ad an hf ah
  rename_i aj;simp only[Bool.and_eq_true]at aj;obtain⟨⟨eN,hb⟩,tQ,Bp⟩:=aj
  have eN:=Nat.eq_of_beq_eq_true eN
  have hb:=Nat.eq_of_beq_eq_true hb
  subst eN hb
  have sE:gx S.k [bG.f1 .cC x]=true:=by
   simp only[gx,bG.lt,Bp,Bool.and_self]
  have bs:bM S.k e (cK M e S.k [bG.f1 .cC x]):=iN (Nat.le_refl _)
  have ef:=ij (M:=M) (e:=e) sE 0 _ rfl
  have Xb:x.aD (cK M e S.k [bG.f1 .cC x]) (.li .u8)=x.aD e (.li .u8):=e7 bs Bp
  simp only[Nat.add_zero,bG.den,dc.den,dc.a,Xb]at ef
  have oH:=cW.1 (σ:=cv G e S.h) (n:=S.n) (rid:=r) (id:=id) (x0:=x0.den G e) (l:=x.aD e (.li .u8)) (by rw[et,ag];rfl) (by rw[et,Xa];rfl)
  refine oH.res fun Xc bE ⟨aa,af⟩=>⟨⟨aZ.put .emp 0 (.bb .str S.k),oL S.h r,S.n,S.k+1,S.g⟩,cK M e S.k [bG.f1 .cC x],by rw[kJ];rfl,?_,?_,?_,hE bs ad.g hf,bs,Nat.le_succ _⟩
  ·rw[aa]
   show _=ab.den G _ (aq.at _ 0);unfold aq.at
   simp only[aZ.jf,if_true,ab.den,ab.dyn,ef];rfl
  ·rw[af]
   show _=cv G _ (oL S.h r);rw[Hx,wP bs ad.h]
  ·refine⟨fun i y hi=>?_,Hy (sd (Nat.le_succ _) ad.h),ny (Nat.le_succ _) ad.g⟩
   simp only[aZ.jf]at hi
   split at hi
   ·cases hi
    exact iS (Nat.lt_succ_self _)
   ·simp[aZ.get]at hi
 ·rename_i t x0 ag
  split at ah
  rotate_left
  ·exact b5 _ _ S e ad an hf ah
  rename_i eN
  have eN:=Nat.eq_of_beq_eq_true eN
  subst eN
  have oH:=cW.2 (σ:=cv G e S.h) (n:=S.n) (id:=id) (x0:=x0.den G e) (by rw[et,ag];rfl)
  refine oH.res fun Xc bE ⟨aa,af⟩=>⟨⟨aZ.put .emp 0 (.cs (.string ⟨#[]⟩)),S.h,S.n,S.k,S.g⟩,e,rfl,?_,?_,?_,hf,bM.refl _ _,Nat.le_refl _⟩
  ·rw[aa]
   show _=ab.den G _ (aq.at _ 0);unfold aq.at
   simp only[aZ.jf,if_true,ab.den]
  ·rw[af]
  ·refine⟨fun i y hi=>?_,ad.h,ad.g⟩
   simp only[aZ.jf]at hi
   split at hi
   ·cases hi
    rfl
   ·simp[aZ.get]at hi
 ·exact b5 _ _ S e ad an hf ah
end
end Go.aG
namespace Go.aG
open Go
def Dj(P:Program)(H:n4)(T:List (Nat × bC))(Z:Nat × Nat × Nat)(B:List iU)(C:List hs):Nat→Nat→List ab→aq→ay
 |0=>fun _ _ _=>.bad 40
 |n+1=>Ga P H T (Hz Z.1 Z.2.1 Z.2.2 (Ha B (GV C (Dj P H T Z B C n))))
section
variable {P:Program} {G:aY} {M:List bc}
theorem I6{Z:Nat × Nat × Nat}{B:List iU}{C:List hs}{H:n4}{T:List (Nat × bC)}(sz:Gb P G M H)(AX:vE P G Z.1 Z.2.1 Z.2.2)(gi:Dk P G M B)(lq:p9 P G M C): ∀n,gC P G M (Dj P H T Z B C n)
 |0=>fun _ _ _ _ _ _ _ h=>h.elim
 |n+1=>U9 sz (W8 AX (Ws gi (V9 lq (I6 sz AX gi lq n))))
end
end Go.aG
namespace Go.aG
open Go
def mC(n:Nat)(b:Bool)(f:bH→Bool)(x:bH):Bool:=
 match x.bu n with
 |true=>b
 |false=>f x
def pP(n:Nat)(b:Bool)(f:bH→Bool)(x:bH):Bool:=
 match x.cp n with
 |true=>b
 |false=>f x
def ay.eo:ay→(bH→Bool)→Bool
 | .cc x _,f=>f x
 | .lt _ _ t,f=>t.eo f
 | .eW _ _,_=>false
 | .it _ a b,f=>a.eo f&&b.eo f
 | .c3 n a _ k,f=>a.eo (mC n (k.eo f) f)
 | .dJ m xid _ _ _ a k,f=>k.eo f&&a.eo (mC m true (pP xid true f))
 | .eh _ _ _ _ _,_=>false
 | .bad _,_=>false
def ay.gZ(M:List bc):ay→Env→(bH→Bool)→(bH→aq→Env→Prop)→Prop
 | .cc x S,e,_,Q=>Q x S e
 | .lt i x t,e,f,Q=>t.gZ M (aZ.put e i (x.den M e)) f Q
 | .eW n t,e,f,Q=>match t.eo f with
  |true=>n.ok M e
  |false=>n.ok M e∧t.gZ M e f Q
 | .it g a b,e,f,Q=>match a.eo f,b.eo f with
  |true,true=>True
  |true,false=>g.aD e .bool=false→b.gZ M e f Q
  |false,true=>g.aD e .bool=true→a.gZ M e f Q
  |false,false=>(g.aD e .bool=true→a.gZ M e f Q)∧(g.aD e .bool=false→b.gZ M e f Q)
 | .c3 n a ps k,e,f,Q=>a.gZ M e (mC n (k.eo f) f) fun x S aw=>bif x.bu n then k.gZ M (fg e (fun r p=>⟨r,(p.cH S).get aw r⟩) ps) f Q else Q x S aw
 | .dJ m xid cQ bI ca a k,e,f,Q=>match k.eo f with
  |true=>∃I:Nat→bB ca→Prop,I 0 (bQ _ (c9 e ca))∧∀(i:Nat) (v:bB ca),i<(b1 (cQ.den M e)).toNat→I i v→
   a.gZ M (a7 (aZ.put e bI ⟨.int .i64,(i:Int)⟩) ca v) (mC m false (pP xid true f)) fun x S aw=>bif x.bu m then I (i+1) (bQ _ (eX S aw ca))else bif x.cp xid then True else Q x S aw
  |false=>∃I:Nat→bB ca→Prop,I 0 (bQ _ (c9 e ca))∧(∀(i:Nat) (v:bB ca),i<(b1 (cQ.den M e)).toNat→I i v→
   a.gZ M (a7 (aZ.put e bI ⟨.int .i64,(i:Int)⟩) ca v) (mC m false (pP xid false f)) fun x S aw=>bif x.bu m then I (i+1) (bQ _ (eX S aw ca))else bif x.cp xid then k.gZ M (a7 e ca (bQ _ (eX S aw ca))) f Q else Q x S aw)∧
   ∀v,I (b1 (cQ.den M e)).toNat v→k.gZ M (a7 e ca v) f Q
 | .eh m xid ca a k,e,f,Q=>∃(I:bB ca→Prop) (ir:bB ca→Nat),I (bQ _ (c9 e ca))∧ir (bQ _ (c9 e ca))<cX∧∀(v:bB ca),I v→
  a.gZ M (a7 e ca v) (mC m false (pP xid (k.eo f) f)) fun x S aw=>bif x.bu m then I (bQ _ (eX S aw ca))∧ir (bQ _ (eX S aw ca))<ir v else bif x.cp xid then k.gZ M (a7 e ca (bQ _ (eX S aw ca))) f Q else Q x S aw
 | .bad _,_,_,_=>False
section
variable {M:List bc}
def jw(f:bH→Bool)(Q:bH→aq→Env→Prop):Prop:=∀x,f x=true→∀S e,Q x S e
theorem jw.c3{f:bH→Bool}{Q R:bH→aq→Env→Prop}{n:Nat}{b:Bool}(h:jw f R)(ad:b=true→∀x S e,x.bu n=true→Q x S e)(ae: ∀x S e,x.bu n=false→R x S e→Q x S e):jw (mC n b f) Q:=fun x hx S e=>by
 unfold mC at hx
 cases ai:x.bu n with
 |true=>rw[ai]at hx;exact ad hx x S e ai
 |false=>rw[ai]at hx;exact ae x S e ai (h x hx S e)
theorem jw.Bx{f:bH→Bool}{Q R:bH→aq→Env→Prop}{n:Nat}{b:Bool}(h:jw f R)(ad:b=true→∀x S e,x.cp n=true→Q x S e)(ae: ∀x S e,x.cp n=false→R x S e→Q x S e):jw (pP n b f) Q:=fun x hx S e=>by
 unfold pP at hx
 cases ai:x.cp n with
 |true=>rw[ai]at hx;exact ad hx x S e ai
 |false=>rw[ai]at hx;exact ae x S e ai (h x hx S e)
theorem jx: ∀(t:ay) {e:Env} {f:bH→Bool} {Q:bH→aq→Env→Prop},jw f Q→t.eo f=true→t.wp M e Q
 | .cc x S,e,_,_,h,c=>h x c S e
 | .lt _ _ t,_,_,_,h,c=>jx t h c
 | .eW _ _,_,_,_,_,c=>by cases c
 | .it _ a b,_,_,_,h,c=>by
  simp only[ay.eo,Bool.and_eq_true]at c;exact⟨fun _=>jx a h c.1,fun _=>jx b h c.2⟩
 | .c3 n a ps k,e,f,Q,h,c=>jx a (jw.c3 h (fun ad x S aw ai=>by rw[ai];exact jx k h ad) (fun x S aw ai aH=>by rw[ai];exact aH)) c
 | .dJ m xid cQ bI ca a k,e,f,Q,h,c=>by
  simp only[ay.eo,Bool.and_eq_true]at c;refine⟨fun _ _=>True,trivial,fun i v _ _=>jx a (jw.c3 (jw.Bx h (Q:=fun x S aw=>bif x.cp xid then k.wp M (a7 e ca (bQ _ (eX S aw ca))) Q else Q x S aw) (fun _ x S aw ai=>by rw[ai];exact jx k h c.1) (fun x S aw ai aH=>by rw[ai];exact aH)) (fun _ x S aw ai=>by rw[ai];trivial) (fun x S aw ai aH=>by rw[ai];exact aH)) c.2,fun v _=>jx k h c.1⟩
 | .eh _ _ _ _ _,_,_,_,_,c=>by cases c
 | .bad _,_,_,_,_,c=>by cases c
theorem jy: ∀(t:ay) {e:Env} {f:bH→Bool} {Q R:bH→aq→Env→Prop},(∀x S aw,Q x S aw→R x S aw)→t.gZ M e f Q→t.gZ M e f R
 | .cc _ _,_,_,_,_,h,q=>h _ _ _ q
 | .lt _ _ t,_,_,_,_,h,q=>jy t h q
 | .eW n t,e,f,Q,R,h,q=>by
  simp only[ay.gZ]at q⊢
  cases hc:t.eo f with
  |true=>rw[hc]at q;exact q
  |false=>rw[hc]at q;exact⟨q.1,jy t h q.2⟩
 | .it g a b,e,f,Q,R,h,q=>by
  simp only[ay.gZ]at q⊢
  cases aI:a.eo f<;>cases ad:b.eo f<;>rw[aI,ad]at q<;>simp only at q⊢
  ·exact⟨fun ag=>jy a h (q.1 ag),fun ag=>jy b h (q.2 ag)⟩
  ·exact fun ag=>jy a h (q ag)
  ·exact fun ag=>jy b h (q ag)
 | .c3 n a ps k,e,f,Q,R,h,q=>jy a (fun x S aw r=>by
  cases hx:x.bu n with
  |true=>rw[hx]at r;exact jy k h r
  |false=>rw[hx]at r;exact h _ _ _ r) q
 | .dJ m xid cQ bI ca a k,e,f,Q,R,h,q=>by
  simp only[ay.gZ]at q⊢
  cases hc:k.eo f with
  |true=>
   rw[hc]at q;obtain⟨I,aa,af⟩:=q;refine⟨I,aa,fun i v hi av=>jy a (fun x S aw r=>?_) (af i v hi av)⟩
   cases hx:x.bu m with
   |true=>rw[hx]at r;exact r
   |false=>
    rw[hx]at r
    cases ax:x.cp xid with
    |true=>trivial
    |false=>rw[ax]at r;exact h _ _ _ r
  |false=>
   rw[hc]at q;obtain⟨I,aa,af,ar⟩:=q;refine⟨I,aa,fun i v hi av=>jy a (fun x S aw r=>?_) (af i v hi av),fun v av=>jy k h (ar v av)⟩
   cases hx:x.bu m with
   |true=>rw[hx]at r;exact r
   |false=>
    rw[hx]at r
    cases ax:x.cp xid with
    |true=>rw[ax]at r;exact jy k h r
    |false=>rw[ax]at r;exact h _ _ _ r
 | .eh m xid ca a k,e,f,Q,R,h,q=>by
  obtain⟨I,ir,aa,af,ar⟩:=q;refine⟨I,ir,aa,af,fun v av=>jy a (fun x S aw r=>?_) (ar v av)⟩
  cases hx:x.bu m with
  |true=>rw[hx]at r;exact r
  |false=>
   rw[hx]at r
   cases ax:x.cp xid with
   |true=>rw[ax]at r;exact jy k h r
   |false=>rw[ax]at r;exact h _ _ _ r
 | .bad _,_,_,_,_,_,q=>q.elim
theorem kP: ∀(t:ay) {e:Env} {f:bH→Bool} {Q:bH→aq→Env→Prop},jw f Q→t.gZ M e f Q→t.wp M e Q
 | .cc _ _,_,_,_,_,q=>q
 | .lt _ _ t,_,_,_,h,q=>kP t h q
 | .eW n t,e,f,Q,h,q=>by
  simp only[ay.gZ]at q
  cases hc:t.eo f with
  |true=>rw[hc]at q;exact⟨q,jx t h hc⟩
  |false=>rw[hc]at q;exact⟨q.1,kP t h q.2⟩
 | .it g a b,e,f,Q,h,q=>by
  simp only[ay.gZ]at q
  cases aI:a.eo f<;>cases ad:b.eo f<;>rw[aI,ad]at q<;>simp only at q
  ·exact⟨fun ag=>kP a h (q.1 ag),fun ag=>kP b h (q.2 ag)⟩
  ·exact⟨fun ag=>kP a h (q ag),fun _=>jx b h ad⟩
  ·exact⟨fun _=>jx a h aI,fun ag=>kP b h (q ag)⟩
  ·exact⟨fun _=>jx a h aI,fun _=>jx b h ad⟩
 | .c3 n a ps k,e,f,Q,h,q=>by
  refine kP a (f:=mC n (k.eo f) f) (jw.c3 h (fun ad x S aw ai=>?_) (fun x S aw ai aH=>by rw[ai];exact aH)) ?_
  ·rw[ai];exact jx k h ad
  ·exact jy a (fun x S aw r=>by
    cases hx:x.bu n with
    |true=>rw[hx]at r;exact kP k h r
    |false=>rw[hx]at r;exact r) q
 | .dJ m xid cQ bI ca a k,e,f,Q,h,q=>by
  simp only[ay.gZ]at q
  cases hc:k.eo f with
  |true=>
   rw[hc]at q;obtain⟨I,aa,af⟩:=q;refine⟨I,aa,fun i v hi av=>?_,fun v _=>jx k h hc⟩
   refine kP a (f:=mC m false (pP xid true f)) (jw.c3 (jw.Bx h (Q:=fun x S aw=>bif x.cp xid then k.wp M (a7 e ca (bQ _ (eX S aw ca))) Q else Q x S aw) (fun _ x S aw ai=>by rw[ai];exact jx k h hc) (fun x S aw ai aH=>by rw[ai];exact aH)) (fun ad=>by cases ad) (fun x S aw ai aH=>by rw[ai];exact aH)) ?_
   refine jy a (fun x S aw r=>?_) (af i v hi av)
   cases hx:x.bu m with
   |true=>rw[hx]at r;exact r
   |false=>
    rw[hx]at r
    cases ax:x.cp xid with
    |true=>exact jx k h hc
    |false=>rw[ax]at r;exact r
  |false=>
   rw[hc]at q;obtain⟨I,aa,af,ar⟩:=q;refine⟨I,aa,fun i v hi av=>?_,fun v av=>kP k h (ar v av)⟩
   refine kP a (f:=mC m false (pP xid false f)) (jw.c3 (jw.Bx h (Q:=fun x S aw=>bif x.cp xid then k.wp M (a7 e ca (bQ _ (eX S aw ca))) Q else Q x S aw) (fun ad=>by cases ad) (fun x S aw ai aH=>by rw[ai];exact aH)) (fun ad=>by cases ad) (fun x S aw ai aH=>by rw[ai];exact aH)) ?_
   refine jy a (fun x S aw r=>?_) (af i v hi av)
   cases hx:x.bu m with
   |true=>rw[hx]at r;exact r
   |false=>
    rw[hx]at r
    cases ax:x.cp xid with
    |true=>rw[ax]at r;exact kP k h r
    |false=>rw[ax]at r;exact r
 | .eh m xid ca a k,e,f,Q,h,q=>by
  obtain⟨I,ir,aa,af,ar⟩:=q;refine⟨I,ir,aa,af,fun v av=>?_⟩
  refine kP a (f:=mC m false (pP xid (k.eo f) f)) (jw.c3 (jw.Bx h (Q:=fun x S aw=>bif x.cp xid then k.wp M (a7 e ca (bQ _ (eX S aw ca))) Q else Q x S aw) (fun ad x S aw ai=>by rw[ai];exact jx k h ad) (fun x S aw ai aH=>by rw[ai];exact aH)) (fun ad=>by cases ad) (fun x S aw ai aH=>by rw[ai];exact aH)) ?_
  refine jy a (fun x S aw r=>?_) (ar v av)
  cases hx:x.bu m with
  |true=>rw[hx]at r;exact r
  |false=>
   rw[hx]at r
   cases ax:x.cp xid with
   |true=>rw[ax]at r;exact kP k h r
   |false=>rw[ax]at r;exact r
 | .bad _,_,_,_,_,q=>q.elim
end
def HA(M:List bc)(t:ay)(e:Env):Prop:=t.gZ M e (fun _=>true) fun _ _ _=>True
theorem NH{M:List bc}{t:ay}{e:Env}(h:HA M t e):t.wp M e fun _ _ _=>True:=kP t (fun _ _ _ _=>trivial) h
section
variable {P:Program} {G:aY} {M:List bc} {inl:Nat→List ab→aq→ay}
theorem fx(b5:gC P G M inl){f:Nat}{m:bc}(t:ay)(aB:inl f (hj 0 m.ps) (sG m.ps.length)=t)(he:t.gh.all (xT m.rs)=true)
 (ah: ∀x,HA M t (gY 0 (dm m.ps x))=mD m.pre x)(hm: ∀x,G9 M t m.rs (gY 0 (dm m.ps x))=m.m x):df P G f m:=
 Wh b5 t aB he (fun x hx=>NH (by rw[ah x];exact hx)) hm
theorem yY(b5:gC P G M inl){f:Nat}{t:TypeId}{c:bC}{ps rs:List aU}{pre:Option ((eQ (.st c::ps)).den→Prop)}{mB:(eQ (.st c::ps)).den→(eQ (.st c::rs)).den}(T:ay)(aB:inl f (.de 0 0::hj 1 ps) (q5 t c ps.length)=T)
 (he:T.gh.all (Ho t c rs)=true)(ah: ∀x,HA M T (gY 0 (dm (.st c::ps) x))=mD pre x)(hm: ∀x,Bu M T t c rs (gY 0 (dm (.st c::ps) x))=mB x):lA P G f t ⟨.st c::ps,.st c::rs,pre,mB⟩:=
 Ny b5 T aB he (fun x hx=>(jU T (NH (by rw[ah x];exact hx))).1) hm
end
end Go.aG
