/- TE, part E: contracts out of trees, of functions that are handed an own box. Conditions: none. -/
import Derived.Test.YtmkpmgfieagphaaGreatDoorJTEd
import Derived.Test.YtmkpmgfieagphaaGreatDoorJTDa
import Derived.ProofKit
import Derived.LaidMore
import Derived.OpenShut
import Derived.MakeChecks
import Derived.ChangeArms
import Derived.ReadAgain
import Derived.ChangeBears
import Derived.Stop.Joined
import Derived.SizedLaws
import Derived.Shelf.Strings.Builder1
namespace Go.aM
open Go
section
variable {P:Program} {G:a8} {f:FuncId} {args:List aD} {t:TypeId} {σ:Heap} {R:aD→Heap→Prop}
theorem dF.zgV(h:dF P G f args σ 1 R){Q:aD→List aD→Prop}(fL: ∀r bV,R r bV→∃v ln cs,aE bV 0=some (.box t ln)∧fQ ln cs∧e4 cs=true∧Sub r v∧fA v=true∧Q v cs):
 dF P G f args σ 1 fun v bV=>∃cs,bV=[(0,.box t cs)]∧Q v cs:=by
 intro w β ro ea aa ae au aR bA
 refine Calls.mono (h w β ro ea aa ae au aR bA) fun e w' ⟨v,r,bV,dL,ro',cJ,he,af,dB,hO,cE⟩=>?_
 obtain⟨u,ln,cs,ah,gA,ak,hu,Nc,aJ⟩:=fL r bV af
 have x9: ∀{id:Nat} {o:eh},aE [(0,eh.box t cs)] id=some o→id=0∧o= .box t cs:=fun {id o} ah=>by
  simp only[aE]at ah
  split at ah
  ·rename_i hi;cases ah;exact⟨hi.symm,rfl⟩
  ·cases ah
 have own: ∀b,Own [(0,eh.box t cs)] dL b→Own bV dL b:=fun b ⟨id,o,r7,_,ad⟩=>by
  obtain⟨rfl,rfl⟩:=x9 r7;exact⟨0,_,ah,rfl,ad⟩
 refine⟨v,u,[(0,.box t cs)],dL,ro',cJ,he,⟨cs,rfl,aJ⟩,nX (hu _ _ _ _ _ _ dB) Nc,⟨fun id o r7=>?_,fun id gm o cz b r7 zgW _ _ _ _=>?_,fun b ad an=>hO.ff b ad (own b an),hO.lt⟩,
  ⟨cE.os,cE.tape,cE.output,cE.size,cE.frame,cE.jk,cE.j7,fun b ad=>cE.hg b (own b ad),fun id bd o r7=>?_,fun id o r7=>?_,cE.le⟩⟩
 ·obtain⟨rfl,rfl⟩:=x9 r7
  have dk:=hO.c7 0 _ ah
  cases dk with
  |box _ _ b arr aC bf cg ek=>
   refine .box t cs b arr aC bf (by rw[cg,gA.at.1]) fun j x ag=>?_
   obtain⟨y,ax,ai⟩:=gA.at.2 j x ag;exact nX (ai _ _ _ _ _ _ (ek j y ax)) (m8 ak ag)
 ·rw[(x9 r7).1,(x9 zgW).1]
 ·obtain⟨rfl,rfl⟩:=x9 r7
  exact cE.dK 0 bd _ ah
 ·obtain⟨rfl,rfl⟩:=x9 r7
  exact cE.new 0 _ ah
end
def tH(t:TypeId)(c:bL)(n:Nat):aq:=⟨.emp,[(0,.dn t (iP c 0 0 (eY c)))],1,n+1,[]⟩
def Nx(t:TypeId)(c:bL)(rs:List aW)(C:aq):Option (List ab):=
 match db C.h 0 with
 |some (.dn bz l)=>match(Nat.beq bz t&&hq (eY c) l)&&(Nr rs (C.at 0)&&tD (vA rs (C.at 0)))with
  |true=>match r5 C rs (vA rs (C.at 0))with
   |some xs=>some (.ch l::xs)
   |none=>none
  |false=>none
 |_=>none
def Ny(t:TypeId)(c:bL)(rs:List aW)(C:aq):Bool:=(Nx t c rs C).isSome
def UQ(t:TypeId)(c:bL)(rs:List aW)(C:aq)(e:Env):(fb (.st c::rs)).den:=
 match Nx t c rs C with
 |some l=>b9 (.st c::rs) (gD e (.st c::rs) l)
 |none=>(fb (.st c::rs)).fu
def Fs(M:List aS)(T:aB)(t:TypeId)(c:bL)(rs:List aW)(e:Env):(fb (.st c::rs)).den:=T.kp M e (fun _ C ay=>UQ t c rs C ay) (fb (.st c::rs)).fu
section
variable {P:Program} {G:a8} {M:List aS} {inl:Nat→List ab→aq→aB}
theorem zgX{c:bL}{i k:Nat}(h:i<k):ab.cK k (iP c i 0 (eY c))=true:=Fg h
theorem zgY{rs:List aW}{S:aq}{e:Env}{xs:List ab}(aI:Nr rs (S.at 0)=true)(gd:tD (vA rs (S.at 0))=true)(h:r5 S rs (vA rs (S.at 0))=some xs):
 Sub ((S.at 0).den G e) (match(gD e rs xs).map aF.fk with|[v]=>v|l=>.tuple l):=by
 obtain⟨b7,_,a3,a4⟩:=x7 (G:=G) (e:=e) h
 rw[a3 gd]at b7
 match rs,b7,a4,aI with
 |[r],b7,a4,aI=>
  obtain⟨d,pd,aw,aa,ae⟩:=lK a4
  cases mz ae
  rw[aw]at b7⊢;simp only[vA,ab.bQ,List.map_cons,List.map_nil]at b7⊢
  cases b7 with
  |cons h _=>exact h
 |[],b7,a4,aI=>
  cases aw:S.at 0 with
  |tp m=>
   rw[aw]at b7;rw[mz a4]at b7⊢;exact b7.tuple
  |_=>rw[aw]at aI;cases aI
 |r::s::q,b7,a4,aI=>
  cases aw:S.at 0 with
  |tp m=>
   rw[aw]at b7
   have ar:=congrArg List.length a4
   simp only[List.length_map,List.length_cons]at ar;generalize gD e (r::s::q) xs=ds at b7 ar⊢
   match ds,ar with
   |d::d2::ds,_=>exact b7.tuple
  |_=>rw[aw]at aI;cases aI
theorem UR(bU:fK P G M inl){f:Nat}{t:TypeId}{c:bL}{ps rs:List aW}{pre:Option ((fb (.st c::ps)).den→Prop)}{oq:(fb (.st c::ps)).den→(fb (.st c::rs)).den}(T:aB)(aI:inl f (.eb 0 0::hz 1 ps) (tH t c ps.length)=T)
 (he:T.gx.all (Ny t c rs)=true)(ai: ∀x,lp pre x→T.safe M (gy 0 (dz (.st c::ps) x)))(hm: ∀x,Fs M T t c rs (gy 0 (dz (.st c::ps) x))=oq x):m3 P G f t ⟨.st c::ps,.st c::rs,pre,oq⟩:=fun x hx=>by
 subst aI
 obtain⟨d0,tG,na,ox,hdr⟩:=lK (tE (rs:=.st c::ps) (x:=x))
 obtain⟨zgT,c8⟩:=d0
 simp only at ox
 subst ox
 have ar:tG.length=ps.length:=by have:=congrArg List.length hdr;rw[List.length_map]at this;exact this
 have ad:(tH t c ps.length).cr:=⟨fun i x hi=>by simp[tH,ba.get]at hi,by
  show(ab.cK (ps.length+1) (iP c 0 0 (eY c))&&true)=true;rw[zgX (Nat.succ_pos _)]
  rfl,rfl⟩
 have h:=bU f (.eb 0 0::hz 1 ps) (tH t c ps.length) (gy 0 (dz (.st c::ps) x)) ad (by
  show(true&&ab.cK (ps.length+1) (hz 1 ps))=true;rw[A6 (by omega)]
  rfl) (fun c hc=>by cases hc) (ai x hx)
 have eL: ∀j d,(⟨.st c,c8⟩::tG)[j]? =some d→Env.at (gy 0 (dz (.st c::ps) x)) j=d:=fun j d ag=>by
  have:=Nq (ds:=dz (.st c::ps) x) (i:=0) (j:=j) (d:=d) (by rw[na];exact ag)
  rwa[Nat.zero_add]at this
 have hd:ab.bQ G (gy 0 (dz (.st c::ps) x)) (hz 1 ps)=tG.map aF.fk:=A5 hdr fun j d ag=>by rw[Nat.add_comm];exact eL (j+1) d (by simpa using ag)
 have nR:cx G (gy 0 (dz (.st c::ps) x)) (tH t c ps.length).h=[(0,.box t ((cb c c8).map .av))]:=by
  have aH:=eL 0 ⟨.st c,c8⟩ rfl
  simp only[tH,cx,bC.den];rw[s0,aH,cA]
 have h3:ab.bQ G (gy 0 (dz (.st c::ps) x)) (.eb 0 0::hz 1 ps)= .ptr 0 0::tG.map aF.fk:=by
  show aD.ptr 0 0::_=_;rw[hd]
 rw[h3,nR]at h
 show dF P G f (.ptr 0 0::(dz (.st c::ps) x).tail.map aF.fk) [(0,.box t (x8 (dz (.st c::ps) x)))] 1 _
 rw[na]
 refine dF.zgV (Q:=fun v cs=>v=Fk (dz (.st c::rs) (oq x))∧cs=x8 (dz (.st c::rs) (oq x))) h fun r bV af=>?_
 obtain⟨aT,ay,cp,rfl,rfl,_⟩:=af
 have oe:=UJ he cp
 obtain⟨l,mo⟩:=Option.isSome_iff_exists.1 oe
 have sM:=hm x
 unfold Fs at sM
 rw[mK,kk cp]at sM
 unfold UQ at sM
 rw[mo]at sM
 simp only at sM
 unfold Nx at mo
 split at mo
 rotate_left
 ·cases mo
 rename_i bz Dh ah
 split at mo
 rotate_left
 ·cases mo
 rename_i hc
 simp only[Bool.and_eq_true]at hc
 obtain⟨⟨aU,da⟩,c9,gk⟩:=hc
 have aU:=Nat.eq_of_beq_eq_true aU
 subst aU
 split at mo
 rotate_left
 ·cases mo
 rename_i xs nV
 cases mo
 obtain⟨_,_,_,a4⟩:=x7 (G:=G) (e:=ay) nV
 have vy:(gD ay (.st c::rs) (.ch Dh::xs)).map aF.r= .st c::rs:=by simp only[gD,List.map_cons,a4]
 rw[←sM,x6 vy]
 exact⟨_,_,_,by rw[ef,ah];rfl,zZ da,C3 _,zgY c9 gk nV,by
  have ak:=Fe (gD ay rs xs)
  split
  ·rename_i v aw
   rw[aw]at ak;simpa[e4]using ak
  ·exact ak,rfl,rfl⟩
theorem CS(bU:fK P G M inl){f:Nat}{t:TypeId}{c:bL}{ps rs:List aW}{oq:(fb (.st c::ps)).den→(fb (.st c::rs)).den}(T:aB)(aI:inl f (.eb 0 0::hz 1 ps) (tH t c ps.length)=T)
 (he:(T.clean&&T.gx.all (Ny t c rs))=true)(hm: ∀x,Fs M T t c rs (gy 0 (dz (.st c::ps) x))=oq x):m3 P G f t ⟨.st c::ps,.st c::rs,none,oq⟩:=by
 simp only[Bool.and_eq_true]at he
 exact UR bU T aI he.2 (fun _ _=>rO M he.1) hm
end
end Go.aM
namespace Go.aM
open Go Go.ChangeShapes Go.WideShapes Go.RowKit
inductive jD (P:Program):TypeId→List a6→Prop where
 |bool {t:TypeId} (b:Bool):P.underlying t=some .bool→jD P t [.v (.bool b)]
 |int {t:TypeId} {k:IntKind} (n:Int):P.underlying t=some (.int k)→(Lit.int k n).wf=true→jD P t [.v (.int k n)]
 |str {t:TypeId} (s:ByteArray):P.underlying t=some .string→s.size≤reachBytes→jD P t [.v (.string s)]
 |slice {t e:TypeId} (es:List (List a6)):P.underlying t=some (.slice e)→es.length≤maxLen∧es.length*P.bytesOf e≤reachBytes→(∀x∈es,jD P e x)→jD P t [.aO (P.cellsOf e) es]
 |struct {t:TypeId} {fs:Array Field} (parts:List (List a6)):P.underlying t=some (.struct fs)→parts.length=fs.toList.length→(∀(i:Nat) (f:Field) (p:List a6),fs.toList[i]? =some f→parts[i]? =some p→jD P f.type p)→jD P t parts.flatten
 |array {t e:TypeId} {n:Nat} (parts:List (List a6)):P.underlying t=some (.array n e)→parts.length=n→(∀p∈parts,jD P e p)→jD P t parts.flatten
def tI(P:Program):Nat→TypeId→Bool
 |0,_=>false
 |n+1,t=>decide (t<P.types.size)&&match P.underlying t with
  |some .bool=>true
  |some (.int _)=>true
  |some .string=>true
  |some (.slice e)=>tI P n e
  |some (.array _ e)=>tI P n e
  |some (.struct fs)=>fs.toList.all fun f=>tI P n f.type
  |_=>false
theorem mapM_some{α β:Type}{f:α→Option β}: ∀{l:List α} {r:List β},l.mapM f=some r→r.length=l.length∧∀(i:Nat) (x:α),l[i]? =some x→∃y,f x=some y∧r[i]? =some y
 |[],r,h=>by
  simp at h;subst h;exact⟨rfl,by simp⟩
 |a::l,r,h=>by
  rw[List.mapM_cons]at h
  cases aY:f a with
  |none=>simp[aY]at h
  |some b=>
   cases ar:l.mapM f with
   |none=>simp[aY,ar]at h
   |some cO=>
    simp[aY,ar]at h;subst h;obtain⟨aa,ae⟩:=mapM_some ar;refine⟨by simp[aa],fun i x hx=>?_⟩
    cases i with
    |zero=>simp at hx;subst hx;exact⟨b,aY,rfl⟩
    |succ i=>simpa using ae i x (by simpa using hx)
section
variable {H:Type} {enc:TypeId × Value→H} {P:Program} {w:World}
abbrev l1(w:World):Nat→Prop:=fun b=>b<w.heap.size
theorem Ob{a:Addr}{c:Value}(h:w.cell? a=some c):a.block<w.heap.size:=by
 rcases Nat.lt_or_ge a.block w.heap.size with aa|aa
 ·exact aa
 ·exfalso
  have:w.heap[a.block]? =none:=Array.getElem?_eq_none aa
  simp[World.cell?,this]at h
def Fits(P:Program)(w:World)(t:TypeId)(cs:List Value):Prop:=∃rs,jD P t rs∧rs.length=cs.length∧∀j r,rs[j]? =some r→cP w (l1 w) r (cs.getD j undef)
theorem US: ∀(fs:List Field) (off:Nat) (cs:List Value),(∀(j:Nat) (f:Field),fs[j]? =some f→f.offset=off+((fs.take j).map fun f=>P.cellsOf f.type).sum)→
 (∀f∈fs,Fits P w f.type ((cs.drop f.offset).take (P.cellsOf f.type)))→off+(fs.map fun f=>P.cellsOf f.type).sum≤cs.length→
 ∃parts:List (List a6),parts.length=fs.length∧(∀(i:Nat) (f:Field) (p:List a6),fs[i]? =some f→parts[i]? =some p→jD P f.type p)∧parts.flatten.length=(fs.map fun f=>P.cellsOf f.type).sum∧
  ∀j r,parts.flatten[j]? =some r→cP w (l1 w) r (cs.getD (off+j) undef)
 |[],off,cs,_,_,_=>⟨[],rfl,by simp,by simp,by simp⟩
 |f::fs,off,cs,an,hf,ar=>by
  have aH:f.offset=off:=by have:=an 0 f rfl;simpa using this
  obtain⟨rs,aa,ae,au⟩:=hf f (by simp)
  simp only[List.map_cons,List.sum_cons]at ar
  have hlen:rs.length=P.cellsOf f.type:=by rw[ae,aH];simp;omega
  obtain⟨parts,g1,g2,g3,g4⟩:=US fs (off+P.cellsOf f.type) cs (fun j q aJ=>by
   have:=an (j+1) q (by simpa using aJ)
   simp only[List.take_succ_cons,List.map_cons,List.sum_cons]at this
   omega) (fun q aJ=>hf q (by simp[aJ])) (by omega)
  refine⟨rs::parts,by simp[g1],fun i q p aJ ak=>?_,by simp[g3,hlen],fun j r ag=>?_⟩
  ·cases i with
   |zero=>
    simp at aJ ak;subst aJ;subst ak;exact aa
   |succ i=>exact g2 i q p (by simpa using aJ) (by simpa using ak)
  ·rw[List.flatten_cons]at ag
   by_cases cL:j<rs.length
   ·rw[List.getElem?_append_left cL]at ag
    have:=au j r ag
    have zm:j<P.cellsOf f.type:=by omega
    rw[aH]at this;simpa[List.getD,List.getElem?_take,List.getElem?_drop,zm]using this
   ·rw[List.getElem?_append_right (by omega)]at ag
    have:=g4 _ r ag
    rw[show off+P.cellsOf f.type+(j-rs.length)=off+j from by omega]at this
    exact this
theorem Nz{e:TypeId}(n:Nat): ∀(k:Nat) (Bd:Nat→List Value),(∀i,i<k→Fits P w e (Bd i)∧(Bd i).length=n)→
 ∃es:List (List a6),es.length=k∧(∀x∈es,jD P e x∧x.length=n)∧∀j r,es.flatten[j]? =some r→cP w (l1 w) r ((Bd (j/ n)).getD (j%n) undef)
 |0,_,_=>⟨[],rfl,by simp,by simp⟩
 |k+1,Bd,h=>by
  obtain⟨⟨rs,aa,ae,au⟩,hn⟩:=h 0 (by omega)
  obtain⟨es,g1,g2,g3⟩:=Nz n k (fun i=>Bd (i+1)) fun i hi=>h (i+1) (by omega)
  refine⟨rs::es,by simp[g1],fun x hx=>?_,fun j r ag=>?_⟩
  ·rcases List.mem_cons.1 hx with rfl|hx
   ·exact⟨aa,by omega⟩
   ·exact g2 x hx
  ·rw[List.flatten_cons]at ag
   by_cases cL:j<rs.length
   ·rw[List.getElem?_append_left cL]at ag
    have mU:j<n:=by omega
    rw[Nat.div_eq_of_lt mU,Nat.mod_eq_of_lt mU];exact au j r ag
   ·rw[List.getElem?_append_right (by omega)]at ag
    have:=g3 _ r ag
    have ya:0<n:=by
     rcases Nat.eq_zero_or_pos n with aH|aH
     ·exfalso
      have mh:es.flatten.length=es.length*n:=j8 fun x hx=>(g2 x hx).2
      have:=(List.getElem?_eq_some_iff.1 ag).1
      rw[mh,aH]at this;simp at this
     ·exact aH
    have aC:j-rs.length=j-n:=by omega
    rw[aC]at this
    have bf:(j-n)/ n+1=j/ n:=(Nat.div_eq_sub_div ya (by omega)).symm
    have cg:(j-n)%n=j%n:=(Nat.mod_eq_sub_mod (by omega)).symm
    simp only[bf,cg]at this;exact this
theorem Be{t:TypeId}{r:a6}{c:Value}(h:jD P t [r])(af:cP w (l1 w) r c):Fits P w t [c]:=
 ⟨[r],h,rfl,fun j x ag=>by
  cases j with
  |zero=>simp at ag;subst ag;exact af
  |succ j=>simp at ag⟩
theorem UT{base:Nat}{a:Addr}{n:Nat}{l:List Value}(h:w.cells? base a n=some l):l.length=n∧∀i,i<n→w.cell? (a.add i)=l[i]? :=by
 unfold World.cells? at h
 split at h
 ·obtain⟨aa,ae⟩:=mapM_some h
  refine⟨by simpa using aa,fun i hi=>?_⟩
  obtain⟨y,ax,ar⟩:=ae i i (by simp[hi])
  rw[ar,ax]
 ·cases h
theorem NA{e:TypeId}: ∀{l:List (DataW H)} {d:DataW H},d∈l→∀n∈d.weights P e,n∈DataW.weightsAll P e l
 |d0::l,d,hd,n,hn=>by
  simp only[DataW.weightsAll,List.mem_append]
  rcases List.mem_cons.1 hd with rfl|hd
  ·exact .inl hn
  ·exact .inr (NA hd n hn)
theorem Ft(K:Kids P (· < P.types.size)): ∀(m n:Nat) (t:TypeId) (cs:List Value) (x:DataW H × List MemPlace) {base:Nat} {sp:Nat→Bool} {held:Bool},tI P m t=true→
 DataW.trod enc P w base sp held n t cs=some x→(∀q∈x.1.weights P t,q≤reachBytes)→Fits P w t cs
 |0,_,_,_,_,_,_,_,ak,_,_=>by simp[tI]at ak
 |m+1,n,t,cs,x,base,sp,held,ak,h,fv=>by
  simp only[tI,Bool.and_eq_true,decide_eq_true_eq]at ak;obtain⟨c1,ak⟩:=ak
  cases hu:P.underlying t with
  |none=>rw[hu]at ak;cases ak
  |some d=>
   rw[hu]at ak
   cases d with
   |bool=>
    obtain⟨b,rfl,_⟩:=DataW.trod_bool hu h;exact Be (.bool b hu) (.v _ rfl)
   |int k=>
    obtain⟨b,rfl,_,hw⟩:=DataW.trod_int hu h;exact Be (.int b hu hw) (.v _ rfl)
   |string=>
    obtain⟨b,rfl,hx,hw⟩:=DataW.trod_string hu h;rw[hx]at fv;exact Be (.str b hu (by simpa[DataW.weights]using fv)) (.v _ rfl)
   |slice e=>
    rcases DataW.trod_slice hu h with⟨rfl,_⟩|⟨a,len,cap,elems,rest,k,rfl,rfl,hx,_,hle,ig,nT,eL,_⟩
    ·exact Be (.slice [] hu ⟨Nat.zero_le _,by simp⟩ (by simp)) (.aO _ [] none 0 (fun _=>undef) (Nat.le_refl _) (Nat.zero_le _) (by simp) (by simp) (by simp))
    ·rw[hx]at fv
     simp only[DataW.weights,hu,List.mem_cons,List.mem_append,List.length_map]at fv
     have zD:len*P.bytesOf e≤reachBytes:=Nat.le_trans (Nat.mul_le_mul_right _ (by rw[nT];exact Nat.le_add_right _ _)) (fv _ (.inl rfl))
     have UU: ∀i,i<len→∃l,w.cells? base (a.add (i*P.cellsOf e)) (P.cellsOf e)=some l∧Fits P w e l:=by
      intro i hi
      have aa:=eL i hi
      rw[List.getElem?_eq_getElem (by omega)]at aa
      cases hc:w.cells? base (a.add (i*P.cellsOf e)) (P.cellsOf e)with
      |none=>rw[hc]at aa;cases aa
      |some l=>rw[hc]at aa;exact⟨l,rfl,Ft K m k e l _ ak aa fun q aJ=>fv q (.inr (.inl (NA (List.mem_map_of_mem (List.getElem_mem _)) q aJ)))⟩
     obtain⟨es,g1,g2,g3⟩:=Nz (P:=P) (w:=w) (e:=e) (P.cellsOf e) len (fun i=>(w.cells? base (a.add (i*P.cellsOf e)) (P.cellsOf e)).getD []) fun i hi=>by
      obtain⟨l,aa,ae⟩:=UU i hi;rw[aa];exact⟨ae,(UT aa).1⟩
     have hlen:es.length=len:=g1
     refine Be (.slice es hu ⟨by omega,by rw[hlen];exact zD⟩ fun x hx=>(g2 x hx).1) ?_
     rw[←hlen];refine .aO _ es (some a) cap (fun j=>((w.cells? base (a.add (j/ P.cellsOf e*P.cellsOf e)) (P.cellsOf e)).getD []).getD (j%P.cellsOf e) undef) (by omega) ig (fun x hx=>(g2 x hx).2) (fun _=>⟨a,rfl,fun j ag=>?_⟩) g3
     have ya:0<P.cellsOf e:=by
      rcases Nat.eq_zero_or_pos (P.cellsOf e)with aH|aH
      ·rw[aH]at ag;simp at ag
      ·exact aH
     have nZ:j/ P.cellsOf e<len:=by rw[Nat.div_lt_iff_lt_mul ya];rw[hlen]at ag;exact ag
     have nY:j%P.cellsOf e<P.cellsOf e:=Nat.mod_lt _ ya
     obtain⟨l,aa,_⟩:=UU _ nZ;obtain⟨ae,au⟩:=UT aa
     have aR:=au _ nY
     rw[zf,Nat.mul_comm,Nat.div_add_mod]at aR;rw[aa]
     have bA:w.cell? (a.add j)=some (l.getD (j%P.cellsOf e) undef):=by
      rw[aR]
      have:j%P.cellsOf e<l.length:=by omega
      simp[List.getD,List.getElem?_eq_getElem this]
     exact⟨by have:=Ob bA;rwa[qd]at this,bA⟩
   |array k e=>
    obtain⟨xs,q,rfl,hx,jn,jO,eL⟩:=DataW.trod_array hu h;rw[hx]at fv;simp only[DataW.weights,hu]at fv
    obtain⟨es,g1,g2,g3⟩:=Nz (P:=P) (w:=w) (e:=e) (P.cellsOf e) k (fun i=>(cs.drop (i*P.cellsOf e)).take (P.cellsOf e)) fun i hi=>by
     have aa:=eL i hi
     rw[List.getElem?_eq_getElem (by omega)]at aa
     refine⟨Ft K m q e _ _ ak aa fun z aQ=>fv z (NA (List.mem_map_of_mem (List.getElem_mem _)) z aQ),?_⟩
     have ae:=Nat.mul_le_mul_right (P.cellsOf e) (show i+1≤k from hi)
     rw[Nat.succ_mul]at ae
     have:=(K.array c1 hu).2
     simp;omega
    refine⟨es.flatten,.array es hu g1 fun p ak=>(g2 p ak).1,?_,fun j r ag=>?_⟩
    ·rw[j8 fun x hx=>(g2 x hx).2,g1,jn,(K.array c1 hu).2]
    ·have:=g3 j r ag
     have cL:=(List.getElem?_eq_some_iff.1 ag).1
     have ya:0<P.cellsOf e:=by
      rcases Nat.eq_zero_or_pos (P.cellsOf e)with aH|aH
      ·rw[j8 fun x hx=>(g2 x hx).2,aH]at cL;simp at cL
      ·exact aH
     have nY:j%P.cellsOf e<P.cellsOf e:=Nat.mod_lt _ ya
     have hm:j/ P.cellsOf e*P.cellsOf e+j%P.cellsOf e=j:=by rw[Nat.mul_comm];exact Nat.div_add_mod _ _
     simpa[List.getD,List.getElem?_take,List.getElem?_drop,nY,hm]using this
   |struct fs=>
    obtain⟨xs,q,rfl,hx,jn,jO,eL⟩:=DataW.trod_struct hu h;rw[hx]at fv;simp only[DataW.weights,hu]at fv;obtain⟨_,sj,zo⟩:=K.struct c1 hu
    obtain⟨parts,g1,g2,g3,g4⟩:=US (P:=P) (w:=w) fs.toList 0 cs (fun j f hf=>by rw[zo j f hf];simp) (fun f hf=>by
     obtain⟨i,hi,rfl⟩:=List.mem_iff_getElem.1 hf
     have zgZ:fs[i]? =some fs.toList[i]:=by simp at hi;simp[hi]
     have aa:=eL i _ zgZ
     have vu:i<xs.length:=by rw[jO];simpa using hi
     rw[List.getElem?_eq_getElem vu]at aa
     rw[List.all_eq_true]at ak
     exact Ft K m q _ _ _ (ak _ (List.getElem_mem hi)) aa fun z aQ=>fv z (DataW.weights_mem_each (j:=i) (by rw[List.getElem?_map,List.getElem?_eq_getElem hi];rfl) (by rw[List.getElem?_map,List.getElem?_eq_getElem vu];rfl) z aQ)) (by rw[jn,sj];omega)
    exact⟨parts.flatten,.struct parts hu g1 g2,by rw[g3,jn,sj],fun j r ag=>by have:=g4 j r ag;simpa using this⟩
   |_=>cases ak
theorem zg0(K:Kids P (· < P.types.size)){m:Nat}{t:TypeId}(ak:tI P m t=true){v:Value}{d:DataW H}{ps:List MemPlace}{base:Nat}{sp:Nat→Bool}{held:Bool}(h:DataW.Trod enc P w base sp held t v d ps)(fv: ∀q∈d.weights P t,q≤reachBytes):Fits P w t v.cells.toList:=by
 obtain⟨n,hn⟩:=h
 exact Ft K m n t _ _ ak hn fv
theorem Fits.agg{t:TypeId}{cs:Array Value}(h:Fits P w t cs.toList){β:Nat→Value}{N:Nat}: ∃rs,jD P t rs∧bs w (l1 w) [] β N (.agg (zcG rs)) (.agg cs):=by
 obtain⟨rs,aa,ae,au⟩:=h
 refine⟨rs,aa,.agg _ cs (by simpa using ae.symm) fun j x ag=>?_⟩
 rw[List.getElem?_map]at ag
 cases af:rs[j]? with
 |none=>simp[af]at ag
 |some r=>
  simp[af]at ag;subst ag
  have:=au j r af
  exact .av _ _ (by simpa[List.getD,Array.getD_eq_getD_getElem?]using this)
theorem Fits.one{t:TypeId}{v:Value}(h:Fits P w t v.cells.toList)(aw:v.cells= #[v]){β:Nat→Value}{N:Nat}: ∃r,jD P t [r]∧bs w (l1 w) [] β N (.av r) v:=by
 obtain⟨rs,aa,ae,au⟩:=h
 rw[aw]at ae
 match rs,ae,aa,au with
 |[r],_,aa,au=>
  have:=au 0 r rfl
  rw[aw]at this;exact⟨r,aa,.av _ _ (by simpa using this)⟩
def fieldTypes(P:Program)(t:TypeId):Option (List TypeId):=
 match P.underlying t with
 |some (.struct fs)=>some (fs.toList.map (·.type))
 |_=>none
def NB(P:Program)(t:TypeId):Bool:=
 match P.underlying t with
 |some .bool=>true
 |some (.int _)=>true
 |some .string=>true
 |some (.slice _)=>true
 |_=>false
theorem zg1{r:Reach}{oc:Nat}{t:TypeId}{v:Value}(h:Value.okWide P w r oc t v)(ai:NB P t=true):v.cells= #[v]:=by
 unfold NB at ai
 split at ai
 ·rename_i hu
  simp only[Value.okWide,hu,Cell.okWide,Cell.ok]at h
  cases v<;>first|rfl|exact h.elim
 ·rename_i hu
  simp only[Value.okWide,hu,Cell.okWide,Cell.ok]at h
  cases v<;>first|rfl|exact h.elim
 ·rename_i hu
  simp only[Value.okWide,hu,Cell.okWide,Cell.ok]at h
  cases v<;>first|rfl|exact h.elim
 ·rename_i hu
  simp only[Value.okWide,hu,Cell.okWide,Cell.ok]at h
  cases v<;>first|rfl|exact h.elim
 ·cases ai
theorem zg2{r:Reach}{oc:Nat}{t:TypeId}{v:Value}(h:Value.okWide P w r oc t v)(ai:(fieldTypes P t).isSome=true): ∃cs,v= .agg cs:=by
 unfold fieldTypes at ai
 split at ai
 ·rename_i hu
  simp only[Value.okWide,hu]at h;obtain⟨cs,rfl,_⟩:=h;exact⟨cs,rfl⟩
 ·cases ai
theorem Vy{t e n:Nat}{cs:List Value}{d:DataW H}{ps:List MemPlace}{fuel base:Nat}{sp:Nat→Bool}{held:Bool}(K:Kids P (· < P.types.size))(c1:t<P.types.size)(hu:P.underlying t=some (.array n e))(he:P.underlying e=some .string)(hc:P.cellsOf e=1)
 (h:DataW.trod enc P w base sp held fuel t cs=some (d,ps)): ∃l:List ByteArray,cs=l.map Value.string∧d= .agg (l.map fun s=>.lit (.string s.data.toList)):=by
 obtain⟨xs,q,rfl,hx,jn,jO,eL⟩:=DataW.trod_array hu h
 have UW:cs.length=n:=by rw[jn,(K.array c1 hu).2,hc,Nat.mul_one]
 have oX: ∀i (hi:i<n),∃s:ByteArray,cs[i]? =some (.string s)∧(xs[i]?).map (·.1)=some (.lit (.string s.data.toList)):=by
  intro i hi
  have aa:=eL i hi
  have vu:i<xs.length:=by omega
  rw[List.getElem?_eq_getElem vu]at aa
  obtain⟨s,ae,au,_⟩:=DataW.trod_string he aa;rw[hc,Nat.mul_one]at ae;refine⟨s,?_,by rw[List.getElem?_eq_getElem vu,Option.map_some,au]⟩
  have:=congrArg (·[0]?) ae
  simpa[List.getElem?_take,List.getElem?_drop]using this
 have key: ∀(m:Nat),m≤n→∃l:List ByteArray,cs.take m=l.map Value.string∧(xs.take m).map (·.1)=l.map fun s=>.lit (.string s.data.toList):=by
  intro m
  induction m with
  |zero=>intro _;exact⟨[],by simp,by simp⟩
  |succ m a1=>
   intro hm;obtain⟨l,aa,ae⟩:=a1 (by omega)
   obtain⟨s,g1,g2⟩:=oX m (by omega)
   refine⟨l++[s],?_,?_⟩
   ·rw[List.take_add_one,aa,g1];simp
   ·rw[List.take_add_one,List.map_append,ae,List.map_append]
    cases fN:xs[m]? with
    |none=>rw[fN]at g2;cases g2
    |some y=>rw[fN]at g2;simp at g2;simp[g2]
 obtain⟨l,aa,ae⟩:=key n (Nat.le_refl _)
 rw[List.take_of_length_le (by omega)]at aa ae
 simp only[Prod.mk.injEq]at hx
 exact⟨l,aa,by rw[hx.1,ae]⟩
theorem Vz{l m:List ByteArray}(h:(l.map fun s=>(DataW.lit (H:=H) (.string s.data.toList)))=m.map fun s=>.lit (.string s.data.toList)):l=m:=by
 induction l generalizing m with
 |nil=>cases m with
  |nil=>rfl
  |cons=>simp at h
 |cons a l a1=>cases m with
  |nil=>simp at h
  |cons b m=>
   simp only[List.map_cons,List.cons.injEq,DataW.lit.injEq,Lit.string.injEq]at h;obtain⟨aa,ae⟩:=h
   have:a=b:=by
    cases a;cases b
    simp only[ByteArray.mk.injEq];exact Array.ext' aa
   rw[this,a1 ae]
theorem zg3{w':World}{p:MemPlace}(ak:p.block<w.heap.size)(h: ∀b,b<w.heap.size→w'.heap[b]? =w.heap[b]?):w.sameAt w' p:=by
 cases p with
 |cell b off=>exact World.cell?_of_block (a:=⟨b,off,none⟩) (h b ak)
 |map b=>exact h b ak
theorem UX{w':World}(h: ∀b,b<w.heap.size→w'.heap[b]? =w.heap[b]?){base:Nat}{sp:Nat→Bool}{held:Bool}: ∀{ts:List TypeId} {vs:List Value} {ds:List (DataW H)} {ps:List MemPlace},DataW.TrodAll enc P w base sp held ts vs ds ps→DataW.TrodAll enc P w' base sp held ts vs ds ps
 |[],[],[],_,h=>h
 |_::_,_::_,_::_,_,⟨p,q,⟨n,hn⟩,ae,e⟩=>
  ⟨p,q,⟨n,DataW.trod_carry n _ _ _ hn fun x hx=>zg3 (DataW.trod_lt n _ _ _ hn x hx) h⟩,UX h ae,e⟩
theorem zg4{w':World}{may:MemPlace→Prop}(aa:w'.os=w.os)(ae:w'.output=w.output)(h: ∀b,b<w.heap.size→w'.heap[b]? =w.heap[b]?):w.keptBut w' may:=by
 refine⟨aa,ae,fun i hi=>?_⟩
 rw[h i hi]
 cases hw:w.heap[i]? with
 |none=>rfl
 |some o=>
  cases o with
  |cells c t tL=>exact⟨rfl,rfl,rfl,fun _ _=>rfl⟩
  |map es clock=>exact .inr ⟨rfl,rfl⟩
  |_=>rfl
theorem zg5{G:a8}{f:FuncId}{fn:Func}{s:ChangeSpec}{args:Array Value}{ds gs:List (DataW H)}{before:List MemPlace}{tb:TypeId}{avs':List aD}{β:Nat→Value}
 (h7:DataW.Whole enc P fn.params.toList s.vars false w args.toList ds gs before)(aw:s.vars=[])(ai:s.fn H (ds++gs)={results:=[.lit (.bool true)],args:=ds})(rp:fn.resultTypes= #[tb])(NC:P.underlying tb=some .bool)
 (K:Kids P (· < P.types.size))(aQ: ∀t e,t<P.types.size→P.underlying t=some (.slice e)→0<P.cellsOf e)(uq: ∀t∈fn.params.toList,t<P.types.size)
 (hlen:args.size=avs'.length)(h3: ∀i x,avs'[i]? =some x→bs w (l1 w) [] β 0 x (args.getD i undef))(kW:sf w (l1 w) G)(hc:dF P G f avs' [] 0 fun r bV=>r=tO true∧bV=[]):
 Calls P f args w fun e w'=>∃v,e= .returned v∧s.post enc P fn false true false false w args v w':=by
 refine Calls.mono (hc w β (l1 w) args hlen h3 ⟨by simp[aE],by simp[aE],fun b _ ⟨_,_,ah,_⟩=>by simp[aE]at ah,fun b ad=>ad⟩ kW (by simp[aE])) fun e w' aJ=>?_
 obtain⟨v,r,eV,dL,ro',cJ,rfl,⟨rfl,rfl⟩,dB,_,aI⟩:=aJ
 obtain rfl:=bs.val dB
 have bb: ∀b,b<w.heap.size→w'.heap[b]? =w.heap[b]? :=fun b ad=>aI.frame b ad fun⟨_,_,ah,_⟩=>by simp[aE]at ah
 refine⟨_,rfl,ds,gs,before,[],before,[],h7,?_,?_,?_,zg4 aI.os aI.output bb,fun h=>by cases h⟩
 ·rw[ai,rp]
  exact trodAll_mk1 (shut_bool NC true)
 ·rw[ai]
  have bI: ∀p∈before,(fun b=>decide (b<w.heap.size)) p.block=true:=fun p ak=>by simpa using h7.lt p ak
  obtain⟨p,q,aa,ae,rfl,_⟩:=h7;rw[aw]at ae
  have aJ:q=[]:=by
   cases gs with
   |nil=>exact ae
   |cons=>cases ae
  subst aJ;rw[List.append_nil]at bI⊢;exact UX bb (aa.respare K aQ uq bI)
 ·rw[ai,aw]
  rfl
end
end Go.aM
namespace Go.aM
open Go Go.ChangeShapes Go.WideShapes
def yb:List (Option (List aW))→Option (List aW)
 |[]=>some []
 |none::_=>none
 |some l::r=>match yb r with
  |some m=>some (l++m)
  |none=>none
def Bf:List aW→List aW→Bool
 |[],[]=>true
 |a::l,b::m=>hR a b&&Bf l m
 |_,_=>false
theorem ND: ∀{l m:List aW},Bf l m=true→l=m
 |[],[],_=>rfl
 |[],_::_,h=>by cases h
 |_::_,[],h=>by cases h
 |a::l,b::m,h=>by
  simp only[Bf,Bool.and_eq_true]at h;rw[hp h.1,ND h.2]
def lW(P:Program)(T:List (Nat × bL)):Nat→TypeId→Option (List aW)
 |0,_=>none
 |n+1,t=>match P.underlying t with
  |some .bool=>some [.bool]
  |some (.int k)=>some [.int k]
  |some .string=>some [.str]
  |some (.slice e)=>match tk T e,lW P T n e with
   |some c,some l=>match Bf l (eY c)&&Nat.beq (P.cellsOf e) (bZ c)with
    |true=>some [.li c]
    |false=>none
   |_,_=>none
  |some (.array k e)=>yb (List.replicate k (lW P T n e))
  |some (.struct fs)=>yb (fs.toList.map fun f=>lW P T n f.type)
  |_=>none
inductive lB:aF→Prop where
 |int (k:IntKind) (x:Int):(Lit.int k x).wf=true→lB ⟨.int k,x⟩
 |bool (b:Bool):lB ⟨.bool,b⟩
 |str (s:ByteArray):s.size≤reachBytes→lB ⟨.str,s⟩
 |li (c:bL) (l:List (fJ c)):l.length≤maxLen→(∀x∈l,∀d∈kT c x,lB d)→lB ⟨.li c,l⟩
inductive r8:List (List a6)→List (List a6)→Prop where
 |nil:r8 [] []
 |cons {x y:List a6} {xs ys:List (List a6)}:fY x y→r8 xs ys→r8 (x::xs) (y::ys)
theorem r8.flat{xs ys:List (List a6)}(h:r8 xs ys):fY xs.flatten ys.flatten:=by
 induction h with
 |nil=>exact .nil
 |cons h _ a1=>rw[List.flatten_cons,List.flatten_cons];exact h.append a1
theorem r8.len{xs ys:List (List a6)}(h:r8 xs ys):xs.length=ys.length:=by
 induction h with
 |nil=>rfl
 |cons h _ a1=>simp[a1]
theorem zg6{c:bL}{n:Nat}{es:List (List a6)}{l:List (fJ c)}(hn:n=bZ c)(h:r8 es (l.map (cb c))):lM (.aO n es) (.li c l):=by
 subst hn
 intro w ro v af
 refine .li _ _ _ ?_
 cases af with
 |aO _ _ b cap zg7 aa ae au aR bA=>
  have hlen:(l.map (cb c)).length=es.length:=h.len.symm
  rw[←hlen];refine .aO _ _ b cap zg7 (by omega) ae (fun e he=>?_) (fun ak=>?_) fun j y ag=>?_
  ·obtain⟨x,_,rfl⟩:=List.mem_map.1 he
   exact Dm c x
  ·rw[hlen]at ak⊢
   exact aR ak
  ·obtain⟨x,hx,ai⟩:=h.flat.at.2 j y ag
   exact ai _ _ _ (bA j x hx)
section
variable {P:Program} {T:List (Nat × bL)}
theorem NF{n:Nat}(a1: ∀{t:TypeId} {rs:List a6} {l:List aW},jD P t rs→lW P T n t=some l→∃ds:List aF,ds.map aF.r=l∧fY rs (ds.map aF.av)∧∀d∈ds,lB d):
 ∀(ts:List TypeId) (parts:List (List a6)) {l:List aW},parts.length=ts.length→(∀(i:Nat) (t:TypeId) (p:List a6),ts[i]? =some t→parts[i]? =some p→jD P t p)→yb (ts.map (lW P T n))=some l→
 ∃ds:List aF,ds.map aF.r=l∧fY parts.flatten (ds.map aF.av)∧∀d∈ds,lB d
 |[],parts,l,ar,_,hc=>by
  cases List.eq_nil_of_length_eq_zero ar
  cases hc;exact⟨[],rfl,.nil,by simp⟩
 |t::ts,[],l,ar,_,_=>by cases ar
 |t::ts,p::parts,l,ar,ai,hc=>by
  simp only[List.map_cons]at hc
  cases aa:lW P T n t with
  |none=>rw[aa]at hc;cases hc
  |some sB=>
   rw[aa]at hc;simp only[yb]at hc
   cases ae:yb (ts.map (lW P T n))with
   |none=>rw[ae]at hc;cases hc
   |some Cb=>
    rw[ae]at hc;cases hc;obtain⟨d1,b7,a2,a3⟩:=a1 (ai 0 t p rfl rfl) aa;obtain⟨d2,gU,jo,hU⟩:=NF a1 ts parts (by simpa using ar) (fun i t p hi ak=>ai (i+1) t p (by simpa using hi) (by simpa using ak)) ae
    refine⟨d1++d2,by simp[b7,gU],by rw[List.flatten_cons,List.map_append];exact a2.append jo,fun d hd=>?_⟩
    rcases List.mem_append.1 hd with hd|hd
    ·exact a3 d hd
    ·exact hU d hd
theorem UY{c:bL}{e:TypeId}(a1: ∀{rs:List a6},jD P e rs→∃ds:List aF,ds.map aF.r=eY c∧fY rs (ds.map aF.av)∧∀d∈ds,lB d):
 ∀(es:List (List a6)),(∀x∈es,jD P e x)→∃l:List (fJ c),r8 es (l.map (cb c))∧∀x∈l,∀d∈kT c x,lB d
 |[],_=>⟨[],.nil,by simp⟩
 |x::es,h=>by
  obtain⟨ds,b7,a2,a3⟩:=a1 (h x (by simp))
  obtain⟨l,gU,jo⟩:=UY a1 es fun y ax=>h y (by simp[ax])
  have hc:kT c (pa c ds)=ds:=Dp c ds b7
  refine⟨pa c ds::l,.cons (by unfold cb;rw[hc];exact a2) gU,fun y ax d hd=>?_⟩
  rcases List.mem_cons.1 ax with rfl|ax
  ·rw[hc]at hd
   exact a3 d hd
  ·exact jo y ax d hd
theorem Bg: ∀(n:Nat) {t:TypeId} {rs:List a6} {l:List aW},jD P t rs→lW P T n t=some l→∃ds:List aF,ds.map aF.r=l∧fY rs (ds.map aF.av)∧∀d∈ds,lB d
 |0,_,_,_,_,h=>by cases h
 |n+1,t,rs,l,h,hf=>by
  unfold lW at hf
  cases h with
  |bool b hu=>
   rw[hu]at hf;cases hf;exact⟨[⟨.bool,b⟩],rfl,.cons (lM.refl _) .nil,fun d hd=>by cases List.mem_singleton.1 hd;exact .bool b⟩
  |int x hu hw=>
   rw[hu]at hf;cases hf;exact⟨[⟨.int _,x⟩],rfl,.cons (lM.refl _) .nil,fun d hd=>by cases List.mem_singleton.1 hd;exact .int _ _ hw⟩
  |str s hu hw=>
   rw[hu]at hf;cases hf;exact⟨[⟨.str,s⟩],rfl,.cons (lM.refl _) .nil,fun d hd=>by cases List.mem_singleton.1 hd;exact .str _ hw⟩
  |slice es hu ar hw=>
   rw[hu]at hf;simp only at hf
   split at hf
   ·rename_i c sB _ ae
    split at hf
    ·rename_i hc
     cases hf;simp only[Bool.and_eq_true]at hc
     have au:=ND hc.1
     subst au;obtain⟨l,b7,a2⟩:=UY (c:=c) (fun hx=>Bg n hx ae) es hw;refine⟨[⟨.li c,l⟩],rfl,.cons (zg6 (Nat.eq_of_beq_eq_true hc.2) b7) .nil,fun d hd=>?_⟩
     cases List.mem_singleton.1 hd
     exact .li _ _ (by have:=b7.len;rw[List.length_map]at this;have:=ar.1;omega) a2
    ·cases hf
   ·cases hf
  |struct parts hu aa ae=>
   rw[hu]at hf;simp only at hf;rename_i fs
   have hm:(fs.toList.map fun f=>lW P T n f.type)=(fs.toList.map (·.type)).map (lW P T n):=by rw[List.map_map];rfl
   rw[hm]at hf
   obtain⟨ds,b7,a2,a3⟩:=NF (fun hx ax=>Bg n hx ax) _ parts (by rw[List.length_map];exact aa) (fun i u p hi ak=>by
    rw[List.getElem?_map]at hi
    cases NG:fs.toList[i]? with
    |none=>rw[NG]at hi;cases hi
    |some f=>
     rw[NG]at hi;cases hi
     exact ae i f p NG ak) hf
   exact⟨ds,b7,a2,a3⟩
  |array parts hu aa ae=>
   rw[hu]at hf;simp only at hf;rename_i e k
   have hm:List.replicate k (lW P T n e)=(List.replicate k e).map (lW P T n):=by rw[List.map_replicate]
   rw[hm]at hf
   obtain⟨ds,b7,a2,a3⟩:=NF (fun hx ax=>Bg n hx ax) _ parts (by rw[List.length_replicate];exact aa) (fun i u p hi ak=>by
    have:=List.mem_of_getElem? hi
    cases (List.mem_replicate.1 this).2
    exact ae p (List.mem_of_getElem? ak)) hf
   exact⟨ds,b7,a2,a3⟩
def NH(P:Program)(T:List (Nat × bL))(t:TypeId):Option aW:=
 match(fieldTypes P t).isSome with
 |true=>match tk T t,lW P T 20 t with
  |some c,some l=>match Bf l (eY c)with
   |true=>some (.st c)
   |false=>none
  |_,_=>none
 |false=>match NB P t,lW P T 20 t with
  |true,some [r]=>match r.one with
   |true=>some r
   |false=>none
  |_,_=>none
def Fu(P:Program)(T:List (Nat × bL)):List TypeId→Option (List aW)
 |[]=>some []
 |t::ts=>match tI P 20 t,NH P T t,Fu P T ts with
  |true,some r,some rs=>some (r::rs)
  |_,_,_=>none
def vE(d:aF):Prop:=
 match d with
 |⟨.st c,x⟩=>∀q∈kT c x,lB q
 |d=>lB d
variable {H:Type} {enc:TypeId × Value→H} {w:World}
theorem zg8{β:Nat→Value}{t:TypeId}{v:Value}{r:aW}{reach:Reach}{oc:Nat}(hf:Fits P w t v.cells.toList)(aw:Value.okWide P w reach oc t v)(h:NH P T t=some r): ∃x:r.den,bs w (l1 w) [] β 0 (aF.fk ⟨r,x⟩) v∧vE ⟨r,x⟩:=by
 unfold NH at h
 split at h
 ·rename_i ai
  split at h
  ·rename_i c l _ ar
   split at h
   ·rename_i hc
    cases h;obtain rfl:=ND hc;obtain⟨cs,rfl⟩:=zg2 aw ai;obtain⟨rs,g1,g2⟩:=Fits.agg (P:=P) (w:=w) (cs:=cs) hf (β:=β) (N:=0);obtain⟨ds,b7,a2,a3⟩:=Bg 20 g1 ar
    have hc:kT c (pa c ds)=ds:=Dp c ds b7
    refine⟨pa c ds,?_,fun q aJ=>a3 q (by rw[←hc];exact aJ)⟩
    have vv:aF.fk ⟨.st c,pa c ds⟩= .agg ((ds.map aF.av).map .av):=by
     show aD.agg ((cb c (pa c ds)).map .av)=_;unfold cb;rw[hc]
    rw[vv];exact(fY.fk a2).agg _ _ _ _ _ _ g2
   ·cases h
  ·cases h
 ·split at h
  ·rename_i eR an ar
   split at h
   ·rename_i aa
    cases h;obtain⟨y,g1,g2⟩:=Fits.one (P:=P) (w:=w) hf (zg1 aw an) (β:=β) (N:=0);obtain⟨ds,b7,a2,a3⟩:=Bg 20 g1 ar;obtain⟨d,pd,rfl,rfl,hn⟩:=lK b7
    cases mz hn
    cases a2 with
    |cons ai _=>
     have dD:=Uz aa
     refine⟨d.v,?_,?_⟩
     ·show bs w (l1 w) [] β 0 (aF.fk d) v
      have:aF.fk d= .av d.av:=Uy (x:=d.v) dD
      rw[this];exact ai.fk _ _ _ _ _ _ g2
     ·have:=a3 d (List.mem_singleton.2 rfl)
      unfold vE
      split
      ·rename_i c x heq
       exact absurd (congrArg aF.r heq) (dD c)
      ·exact this
   ·cases h
  ·cases h
theorem UZ(K:Kids P (· < P.types.size)){β:Nat→Value}{base oc:Nat}{sp:Nat→Bool}{held:Bool}{reach:Reach}: ∀{ts:List TypeId} {vs:List Value} {ds:List (DataW H)} {ps:List MemPlace} {rs:List aW},DataW.TrodAll enc P w base sp held ts vs ds ps→Fu P T ts=some rs→
 (∀q∈DataW.weightsEach P ts ds,q≤reachBytes)→(∀(j:Nat) t v,ts[j]? =some t→vs[j]? =some v→Value.okWide P w reach oc t v)→
 ds.length=ts.length∧∃dl:List aF,dl.map aF.r=rs∧dl.length=vs.length∧(∀(j:Nat) x,(dl.map aF.fk)[j]? =some x→∃v,vs[j]? =some v∧bs w (l1 w) [] β 0 x v)∧∀d∈dl,vE d
 |[],vs,ds,ps,rs,h,ak,_,_=>by
  obtain⟨rfl,rfl,rfl⟩:=trodAll_nil h;cases ak;exact⟨rfl,[],rfl,rfl,by simp,by simp⟩
 |t::ts,vs,ds,ps,rs,h,ak,hw,an=>by
  obtain⟨v,ziX,d,pd,p,q,rfl,rfl,rfl,aa,ae⟩:=trodAll_cons h;unfold Fu at ak
  split at ak
  ·rename_i r ziY ry af gL
   cases ak;obtain⟨g0,dl,g1,g2,g3,g4⟩:=UZ K ae gL (fun q aJ=>hw q (by rw[DataW.weightsEach];exact List.mem_append_right _ aJ)) fun j bz bh ag sY=>an (j+1) bz bh (by simpa using ag) (by simpa using sY)
   obtain⟨x,b7,a2⟩:=zg8 (β:=β) (zg0 K ry aa fun q aJ=>hw q (by rw[DataW.weightsEach];exact List.mem_append_left _ aJ)) (an 0 t v rfl rfl) af
   refine⟨by simp[g0],⟨r,x⟩::dl,by simp[g1],by simp[g2],fun j y ag=>?_,fun d hd=>?_⟩
   ·cases j with
    |zero=>simp at ag;subst ag;exact⟨v,rfl,b7⟩
    |succ j=>simpa using g3 j y (by simpa using ag)
   ·rcases List.mem_cons.1 hd with rfl|hd
    ·exact a2
    ·exact g4 d hd
  ·cases ak
theorem zg9{G:a8}{f:FuncId}{fn:Func}{s:ChangeSpec}{args:Array Value}{ds gs:List (DataW H)}{before:List MemPlace}{tb:TypeId}{oc:Nat}{reach:Reach}{m:aS}
 (h7:DataW.Whole enc P fn.params.toList s.vars false w args.toList ds gs before)(aw:s.vars=[])(ai: ∀ds:List (DataW H),ds.length=fn.params.toList.length→s.fn H ds={results:=[.lit (.bool true)],args:=ds})
 (fv:(DataW.weightsEach P (fn.params.toList++s.plain.varTypes P) (ds++gs)).all (· ≤reachBytes)=true)(sQ: ∀(j:Nat) t v,fn.params[j]? =some t→args[j]? =some v→Value.okWide P w reach oc t v)
 (zha:s.plain.varTypes P=[])(rp:fn.resultTypes= #[tb])(NC:P.underlying tb=some .bool)(K:Kids P (· < P.types.size))(aQ: ∀t e,t<P.types.size→P.underlying t=some (.slice e)→0<P.cellsOf e)(uq: ∀t∈fn.params.toList,t<P.types.size)
 (rz:Fu P T fn.params.toList=some m.ps)(kW:sf w (l1 w) G)(hc:bG P G f m)(hm: ∀x,(∀d∈dz m.ps x,vE d)→lp m.pre x∧lq m.rs (m.m x)=tO true):
 Calls P f args w fun e w'=>∃v,e= .returned v∧s.post enc P fn false true false false w args v w':=by
 have zhb:=h7
 obtain⟨p,q,dq,U0,rfl,_,_⟩:=h7
 rw[aw]at U0
 obtain⟨rfl,rfl⟩:=trodVars_none U0
 rw[zha,List.append_nil,List.append_nil]at fv
 obtain⟨nZ,dl,b7,a2,a3,a4⟩:=UZ (T:=T) (β:=fun _=>undef) K dq rz (fun q aJ=>by simpa using List.all_eq_true.1 fv q aJ) fun j t v ag sY=>sQ j t v (by simpa using ag) (by simpa using sY)
 have Bc:dz m.ps (b9 m.ps dl)=dl:=x6 b7
 obtain⟨zhc,af⟩:=hm (b9 m.ps dl) (by rw[Bc];exact a4)
 have hk:=(hc (b9 m.ps dl) zhc).frame (σ:=[]) (n:=0) (Fe _) fun r bV af=>by rw[af];exact Ni
 refine zg5 (β:=fun _=>undef) zhb aw (by rw[List.append_nil];exact ai ds nZ) rp NC K aQ uq (avs':=nz m.ps (b9 m.ps dl)) ?_ (fun i x hx=>?_) kW (hk.res fun r bV ⟨aa,_,ae⟩=>⟨ae.trans af,aa⟩)
 ·unfold nz
  rw[Bc,List.length_map,a2];exact Array.length_toList.symm
 ·unfold nz at hx
  rw[Bc]at hx;obtain⟨v,aa,ae⟩:=a3 i x hx
  have:args.getD i undef=v:=by
   have sO:args[i]? =some v:=by simpa using aa
   rw[Array.getD_eq_getD_getElem?,sO];rfl
  rw[this];exact ae
end
end Go.aM
namespace Go.aM
open Go Go.Proofs Go.Shelf Go.RowKit
variable {P:Program} {a7:Ren}
theorem U1(w:World): ∀(l:List Int) (a:Addr) (acc:ByteArray),(∀j x,l[j]? =some x→w.cell? (a.add j)=some (.int .u8 x))→
 (loadBytes a acc l.length).run P w= .ok (l.foldl (fun r n=>r.push (UInt8.ofNat n.toNat)) acc) w
 |[],a,acc,_=>by simp[loadBytes]
 |x::l,a,acc,h=>by
  have aH:w.cell? a=some (.int .u8 x):=by
   have:=h 0 x rfl
   simpa[Addr.add]using this
  have a1:=U1 w l (a.add 1) (acc.push (UInt8.ofNat x.toNat)) (fun j y ax=>by
   have:=h (j+1) y (by simpa using ax)
   have e:(a.add 1).add j=a.add (j+1):=by
    unfold Addr.add
    by_cases ag:j=0
    ·subst ag;simp
    ·simp[ag];omega
   rw[e];exact this)
  simp only[List.length_cons,loadBytes,Sem.run_bind,run_load,aH,Result.andThen];exact a1
theorem zhd(w:World)(Fv it ty e:TypeId)(ak:P.underlying Fv=some (.pointer e))(hc:P.cellsOf e=1)(g cells:Nat)(J3:w.shape? g=some (e,cells))(l:List Int)(aH:l≠[])(hn:l.length≤cells)(sL:l.length≤9223372036854775807)
 (k2: ∀j x,l[j]? =some x→w.cell? ((⟨g,0,none⟩:Addr).add j)=some (.int .u8 x)):
 (Builtin.unsafeString_ #[Fv,it] ty #[.pointer (some ⟨g,0,none⟩),.int .i64 l.length]).run P w= .ok (.string (bytesOf l)) (w.freeze ⟨g,0,none⟩ l.length):=by
 have ar:l.length≠0:=by simpa using aH
 have y4:=U1 (P:=P) w l ⟨g,0,none⟩ .empty k2
 have zhe:=Lib.liesAt_bytes (P:=P) hc (cells/ P.cellsOf e) l.length (by rw[hc];simpa using hn)
 have zhf: ¬(9223372036854775807:Int)<(l.length:Int):=by omega
 have NI:Builtin.unsafeString_ #[Fv,it] ty #[.pointer (some ⟨g,0,none⟩),.int .i64 l.length]=
  (do
   let n ←asInt (.int .i64 l.length)
   if n<0 then runtimePanic (.error "unsafe.String: len out of range")
   if n>IntKind.i64.max then unsupported (.unsafePointer "String: a length above the largest int")
   if n=0 then pure (.string .empty)
   else if ←variablesAt ⟨g,0,none⟩ (←elemOf Fv) n.toNat then do
    let s ←loadBytes ⟨g,0,none⟩ .empty n.toNat
    freeze ⟨g,0,none⟩ n.toNat
    pure (.string s)
   else unsupported (.unsafePointer "String: not so many bytes at ptr")):=rfl
 rw[NI]
 have zhg:IntKind.i64.max=9223372036854775807:=rfl
 have zhh: ¬(l.length:Int)<0:=by omega
 simp[asInt,asIntOf,zhg,zhf,zhh,ar,variablesAt,J3,elemOf,run_underlying ak,zhe,y4,bytesOf]
set_option maxHeartbeats 2000000 in
set_option maxRecDepth 100000 in
theorem zhi(L:Lays.n169 P a7)(X:Builder.Extra P a7)(b g cap:Nat)(p:Value)(cur:Array Value)(l:List Int)(w:World)(aH:l≠[])(bg:w.heap[b]? =some (.cells #[p,.slice (some ⟨g,0,none⟩) l.length cap] (a7.t 72) (0,0)))
 (ah:w.heap[g]? =some (.cells cur (a7.t 5) (0,0)))(As:l.length≤cap)(ig:cap≤maxLen)(dI:cur.size=cap*1)(k2: ∀j x,l[j]? =some x→w.cell? ((⟨g,0,none⟩:Addr).add j)=some (.int .u8 x)):
 Calls P (a7.f 169) #[.pointer (some ⟨b,0,none⟩)] w fun e w'=>e= .returned (.string (bytesOf l))∧w'=w.drew.freeze ⟨g,0,none⟩ l.length:=by
 have C2:l.length≠0:=by simpa using aH
 have aU:w.drew.cell? ⟨b,1,none⟩=some (.slice (some ⟨g,0,none⟩) l.length cap):=by
  have:w.drew.heap[b]? =some (.cells #[p,.slice (some ⟨g,0,none⟩) l.length cap] (a7.t 72) (0,0)):=bg
  rw[Lib.cell_of_heap this];rfl
 have NJ:(Builtin.unsafeSliceData_ #[(a7.t 37)] (a7.t 127) #[.slice (some ⟨g,0,none⟩) l.length cap]).run P w.drew= .ok (.pointer (some ⟨g,0,none⟩)) w.drew:=
  Lib.run_unsafeSliceData_row _ _ _ _ _ _ (by omega)
 have NK:(Builtin.unsafeString_ #[(a7.t 127),(a7.t 3)] (a7.t 9) #[.pointer (some ⟨g,0,none⟩),.int .i64 l.length]).run P w.drew= .ok (.string (bytesOf l)) (w.drew.freeze ⟨g,0,none⟩ l.length):=by
  refine zhd w.drew (a7.t 127) (a7.t 3) (a7.t 9) (a7.t 5) L.t127 X.cellsByte g cur.size (by have dV:w.drew.heap[g]? =some (.cells cur (a7.t 5) (0,0)):=ah;simp[World.shape?,dV]) l aH (by omega) (by unfold maxLen at ig;omega) ?_
  intro j x hx;exact k2 j x hx
 have mixed:=L.mixed
 have t72:=L.t72;have a72:=L.a72;have z72:=L.z72;have v72:=L.v72;have NL:=run_underlying L.t72
 have t70:=L.t70;have a70:=L.a70;have z70:=L.z70;have v70:=L.v70;have NM:=run_underlying L.t70
 have t37:=L.t37;have a37:=L.a37;have z37:=L.z37;have v37:=L.v37;have NN:=run_underlying L.t37
 have t127:=L.t127;have a127:=L.a127;have z127:=L.z127;have v127:=L.v127;have NO:=run_underlying L.t127
 have t3:=L.t3;have a3:=L.a3;have z3:=L.z3;have v3:=L.v3;have yc:=run_underlying L.t3
 have t9:=L.t9;have a9:=L.a9;have z9:=L.z9;have v9:=L.v9;have NP:=run_underlying L.t9
 have t5:=X.t5;have a5:=X.a5;have z5:=X.z5;have v5:=X.v5;have NQ:=run_underlying X.t5
 go_enter L.f169,Body.n169_ntmps a7
 go_wp2
 go_region_o
 all_goals (go_wp2;go_ret;exact⟨rfl,rfl⟩)
set_option maxHeartbeats 2000000 in
set_option maxRecDepth 100000 in
theorem U2(L:Lays.n169 P a7)(X:Builder.Extra P a7)(b:Nat)(p:Value)(w:World)(bg:w.heap[b]? =some (.cells #[p,.slice none 0 0] (a7.t 72) (0,0))):
 Calls P (a7.f 169) #[.pointer (some ⟨b,0,none⟩)] w fun e w'=>e= .returned (.string ⟨#[]⟩)∧w'=w.drew:=by
 have NK:=Any.unsafeString_none L X
 have aU:w.drew.cell? ⟨b,1,none⟩=some (.slice none 0 0):=by
  have:w.drew.heap[b]? =some (.cells #[p,.slice none 0 0] (a7.t 72) (0,0)):=bg
  rw[Lib.cell_of_heap this];rfl
 have NJ:(Builtin.unsafeSliceData_ #[(a7.t 37)] (a7.t 127) #[.slice none 0 0]).run P w.drew= .ok (.pointer none) w.drew:=rfl
 have mixed:=L.mixed
 have t72:=L.t72;have a72:=L.a72;have z72:=L.z72;have v72:=L.v72;have NL:=run_underlying L.t72
 have t70:=L.t70;have a70:=L.a70;have z70:=L.z70;have v70:=L.v70;have NM:=run_underlying L.t70
 have t37:=L.t37;have a37:=L.a37;have z37:=L.z37;have v37:=L.v37;have NN:=run_underlying L.t37
 have t127:=L.t127;have a127:=L.a127;have z127:=L.z127;have v127:=L.v127;have NO:=run_underlying L.t127
 have t3:=L.t3;have a3:=L.a3;have z3:=L.z3;have v3:=L.v3;have yc:=run_underlying L.t3
 have t9:=L.t9;have a9:=L.a9;have z9:=L.z9;have v9:=L.v9;have NP:=run_underlying L.t9
 have t5:=X.t5;have a5:=X.a5;have z5:=X.z5;have v5:=X.v5;have NQ:=run_underlying X.t5
 go_enter L.f169,Body.n169_ntmps a7
 go_wp2
 go_region_o
 all_goals (go_wp2;go_ret;exact⟨rfl,rfl⟩)
set_option maxHeartbeats 2000000 in
set_option maxRecDepth 100000 in
theorem zhj(L:Lays.n169 P a7)(X:Builder.Extra P a7)(b g cap:Nat)(p:Value)(w:World)(hC:cap≠0)(bg:w.heap[b]? =some (.cells #[p,.slice (some ⟨g,0,none⟩) 0 cap] (a7.t 72) (0,0))):
 Calls P (a7.f 169) #[.pointer (some ⟨b,0,none⟩)] w fun e w'=>e= .returned (.string ⟨#[]⟩)∧w'=w.drew:=by
 have NK:=Any.unsafeString_none L X
 have aU:w.drew.cell? ⟨b,1,none⟩=some (.slice (some ⟨g,0,none⟩) 0 cap):=by
  have:w.drew.heap[b]? =some (.cells #[p,.slice (some ⟨g,0,none⟩) 0 cap] (a7.t 72) (0,0)):=bg
  rw[Lib.cell_of_heap this];rfl
 have NJ:(Builtin.unsafeSliceData_ #[(a7.t 37)] (a7.t 127) #[.slice (some ⟨g,0,none⟩) 0 cap]).run P w.drew= .ok (.pointer (some ⟨g,0,none⟩)) w.drew:=
  Lib.run_unsafeSliceData_row _ _ _ _ _ _ hC
 clear hC
 have mixed:=L.mixed
 have t72:=L.t72;have a72:=L.a72;have z72:=L.z72;have v72:=L.v72;have NL:=run_underlying L.t72
 have t70:=L.t70;have a70:=L.a70;have z70:=L.z70;have v70:=L.v70;have NM:=run_underlying L.t70
 have t37:=L.t37;have a37:=L.a37;have z37:=L.z37;have v37:=L.v37;have NN:=run_underlying L.t37
 have t127:=L.t127;have a127:=L.a127;have z127:=L.z127;have v127:=L.v127;have NO:=run_underlying L.t127
 have t3:=L.t3;have a3:=L.a3;have z3:=L.z3;have v3:=L.v3;have yc:=run_underlying L.t3
 have t9:=L.t9;have a9:=L.a9;have z9:=L.z9;have v9:=L.v9;have NP:=run_underlying L.t9
 have t5:=X.t5;have a5:=X.a5;have z5:=X.z5;have v5:=X.v5;have NQ:=run_underlying X.t5
 go_enter L.f169,Body.n169_ntmps a7
 go_wp2
 go_region_o
 all_goals (go_wp2;go_ret;exact⟨rfl,rfl⟩)
set_option maxHeartbeats 2000000 in
set_option maxRecDepth 100000 in
theorem zhk(L:Lays.n169 P a7)(X:Builder.Extra P a7)(b:Nat)(cY q:Addr)(p:Value)(w eS:World)(bg:w.heap[b]? =some (.cells #[p,.slice (some cY) 0 0] (a7.t 72) (0,0)))(o8:eS.heap[b]? =w.heap[b]?)
 (NJ:(Builtin.unsafeSliceData_ #[(a7.t 37)] (a7.t 127) #[.slice (some cY) 0 0]).run P w.drew= .ok (.pointer (some q)) eS):
 Calls P (a7.f 169) #[.pointer (some ⟨b,0,none⟩)] w fun e w'=>e= .returned (.string ⟨#[]⟩)∧w'=eS:=by
 have NK:=Any.unsafeString_none L X
 have aU:w.drew.cell? ⟨b,1,none⟩=some (.slice (some cY) 0 0):=by
  have:w.drew.heap[b]? =some (.cells #[p,.slice (some cY) 0 0] (a7.t 72) (0,0)):=bg
  rw[Lib.cell_of_heap this];rfl
 have da:eS.cell? ⟨b,1,none⟩=some (.slice (some cY) 0 0):=by
  have:eS.heap[b]? =some (.cells #[p,.slice (some cY) 0 0] (a7.t 72) (0,0)):=o8.trans bg
  rw[Lib.cell_of_heap this];rfl
 clear o8
 have mixed:=L.mixed
 have t72:=L.t72;have a72:=L.a72;have z72:=L.z72;have v72:=L.v72;have NL:=run_underlying L.t72
 have t70:=L.t70;have a70:=L.a70;have z70:=L.z70;have v70:=L.v70;have NM:=run_underlying L.t70
 have t37:=L.t37;have a37:=L.a37;have z37:=L.z37;have v37:=L.v37;have NN:=run_underlying L.t37
 have t127:=L.t127;have a127:=L.a127;have z127:=L.z127;have v127:=L.v127;have NO:=run_underlying L.t127
 have t3:=L.t3;have a3:=L.a3;have z3:=L.z3;have v3:=L.v3;have yc:=run_underlying L.t3
 have t9:=L.t9;have a9:=L.a9;have z9:=L.z9;have v9:=L.v9;have NP:=run_underlying L.t9
 have t5:=X.t5;have a5:=X.a5;have z5:=X.z5;have v5:=X.v5;have NQ:=run_underlying X.t5
 go_enter L.f169,Body.n169_ntmps a7
 go_wp2
 go_region_o
 all_goals (go_wp2;go_ret;exact⟨rfl,rfl⟩)
theorem zhl(L:Lays.n169 P a7)(cY:Addr)(w:World)(hex:cY.block<w.heap.size): ∃q eS,(Builtin.unsafeSliceData_ #[(a7.t 37)] (a7.t 127) #[.slice (some cY) 0 0]).run P w= .ok (.pointer (some q)) eS∧(eS=w∨∃o,eS=w.alloc o):=by
 obtain⟨o,an⟩: ∃o,w.heap[cY.block]? =some o:=⟨_,Array.getElem?_eq_getElem hex⟩
 have he:(elemOf (a7.t 127)).run P w= .ok (a7.t 5) w:=by simp[elemOf,run_underlying L.t127]
 have NI:Builtin.unsafeSliceData_ #[(a7.t 37)] (a7.t 127) #[.slice (some cY) 0 0]=
  (do
   if(0:Nat)≠0 then pure (.pointer (some cY))
   else if(←viewAt cY.block).isSome then pure (.pointer (some cY))
   else pure (.pointer (some ⟨←newObj (.view cY (←elemOf (a7.t 127))),0,none⟩))):=rfl
 rw[NI]
 unfold viewAt
 cases ai:w.shape? cY.block with
 |some s=>exact⟨⟨w.heap.size,0,none⟩,w.alloc (.view cY (a7.t 5)),by simp[ai,he],.inr ⟨_,rfl⟩⟩
 |none=>
  cases o with
  |cells c e f=>simp[World.shape?,an]at ai
  |view a t=>exact⟨cY,w,by simp[ai,getObj,Sem.run,an],.inl rfl⟩
  |_=>exact⟨⟨w.heap.size,0,none⟩,w.alloc (.view cY (a7.t 5)),by simp[ai,getObj,Sem.run,an,he],.inr ⟨_,rfl⟩⟩
section
variable {w w':World} {ro:Nat→Prop} {σ:Heap} {β:Nat→Value} {n rid:Nat}
theorem hb.drop(h:hb w ro σ β n){t:TypeId}{m:Nat}{es:List (List a6)}(af:aE σ rid=some (.row false t m es))(hw: ∀k,k<w.heap.size→b4 (β rid)≠some k→w'.heap[k]? =w.heap[k]?)(bP:w.heap.size≤w'.heap.size):
 hb w' ro (gl σ rid) β n:=by
 have cc: ∀b,ro b→w'.heap[b]? =w.heap[b]? :=fun b ad=>hw b (h.lt b ad) fun e=>h.ff b ad ⟨rid,_,af,rfl,e⟩
 have sub: ∀k o,aE (gl σ rid) k=some o→aE σ k=some o∧k≠rid:=by
  intro k o aj;rw[zg]at aj
  split at aj
  ·cases aj
  ·rename_i b5
   exact⟨aj,fun e=>b5 e.symm⟩
 have key: ∀x c,bs w ro σ β n x c→bs w' ro (gl σ rid) β n x c:=fun x c hx=>hx.keep cc (fun _ h=>h) (Nat.le_refl _) (fun id t cs aj=>⟨rfl,t,cs,(sub _ _ aj).1⟩) (fun id z t n es aj=>⟨rfl,z,t,es,(sub _ _ aj).1⟩) (fun id bN aj=>⟨rfl,bN,(sub _ _ aj).1⟩)
 refine⟨fun k o aj=>?_,fun k bk o cz b aj eA=>h.inj k bk o cz b (sub _ _ aj).1 (sub _ _ eA).1,fun b ad ⟨k,o,aj,ar,bg⟩=>h.ff b ad ⟨k,o,(sub _ _ aj).1,ar,bg⟩,fun b ad=>Nat.lt_of_lt_of_le (h.lt b ad) bP⟩
 obtain⟨gg,b5⟩:=sub k o aj
 have gJ:=h.c7 k o gg
 have NR:o.live=true→∀b,b4 (β k)=some b→w'.heap[b]? =w.heap[b]? :=fun ar b ad=>hw b (gJ.hJ ar ad) fun e=>b5 (h.inj k rid o _ b gg af ar rfl ad e)
 cases gJ with
 |box t cs b arr aa ae au aR=>exact .box t cs b arr aa ((NR rfl b (by rw[aa];rfl)).trans ae) au fun j x ag=>key _ _ (aR j x ag)
 |row t n es xs aa ae au=>exact .row t n es xs (aa.keep (fun b ad=>NR rfl b ad) bP) ae fun j x ag=>(au j x ag).keep cc fun _ h=>h
 |ga t n es aa=>exact .ga t n es (aa.keep cc fun _ h=>h)
 |bM bN b o aa ae au=>exact .bM bN b o aa ((NR rfl b aa).trans ae) (bN.mono _ _ _ _ (fun x c h=>h.keep cc fun _ h=>h) au)
theorem zhm(w:World)(g m k:Nat)(aj:k≠g):(w.freeze ⟨g,0,none⟩ m).heap[k]? =w.heap[k]? :=by
 unfold World.freeze
 split
 ·rfl
 ·simp only[Array.getElem?_modify]
  rw[if_neg (fun e=>aj e.symm)]
theorem zhn(w:World)(a:Addr)(m:Nat):(w.freeze a m).os=w.os∧(w.freeze a m).tape=w.tape∧(w.freeze a m).output=w.output∧(w.freeze a m).heap.size=w.heap.size:=by
 unfold World.freeze
 split
 ·exact⟨rfl,rfl,rfl,rfl⟩
 ·exact⟨rfl,rfl,rfl,by simp⟩
theorem zho(L:Lays.n169 P a7)(X:Builder.Extra P a7){G:a8}{id:Nat}{x0:aD}{l:List Int}(aH:l≠[])(bd:aE σ id=some (.box (a7.t 72) [x0,.aO rid]))(af:aE σ rid=some (.row false (a7.t 5) 1 (l.map fun z=>[.v (.int .u8 z)]))):
 dF P G (a7.f 169) [.ptr id 0] σ n fun r bV=>r= .av (.v (.string (bytesOf l)))∧bV=gl σ rid:=by
 intro w β ro ea aa ae au aR bA
 have dk:=au.c7 id _ bd
 have fL:=au.c7 rid _ af
 cases dk with
 |box _ _ b arr aC bf cg ek=>
  cases fL with
  |row _ _ _ xs c1 b5 eW=>
   have hC:ea.getD 0 undef= .pointer (some ⟨b,0,none⟩):=by
    have:=ae 0 _ rfl
    generalize ea.getD 0 undef=bR at this⊢
    cases this with
    |ptr _ _ _ ar kl=>
     obtain⟨b',c3,dj⟩:=kl _ _ bd;rw[aC]at c3
     cases c3
     exact dj
   have r9:ea= #[.pointer (some ⟨b,0,none⟩)]:=by
    have ai:ea.size=1:=aa
    apply Array.ext
    ·simpa using ai
    ·intro i yd my
     have:i=0:=by omega
     subst this;simpa[Array.getD,ai]using hC
   have Bh:arr.getD 1 undef=β rid:=by
    have:=ek 1 _ rfl
    generalize arr.getD 1 undef=bR at this⊢
    cases this with
    |aO _ _ _ ak=>exact ak _ _ _ _ af
   have rS:arr= #[arr.getD 0 undef,β rid]:=by
    have ai:arr.size=2:=cg
    apply Array.ext
    ·simpa using ai
    ·intro i yd my
     have hi:i=0∨i=1:=by omega
     rcases hi with rfl|rfl
     ·simp[Array.getD,ai]
     ·have:=Bh
      simp only[Array.getD,ai]at this;simpa using this
   have hlen:(l.map fun z=>[a6.v (.int .u8 z)]).length=l.length:=List.length_map ..
   rcases c1.2 with⟨_,aQ⟩|⟨g,cap,cur,aw,ak,ah,hle,ig,dI,lF⟩
   ·rw[hlen]at aQ
    exact absurd (List.eq_nil_of_length_eq_zero aQ) aH
   ·rw[hlen]at aw hle lF
    have yi:b4 (β rid)=some g:=by rw[aw];simp[b4,Nat.ne_of_gt ak]
    rw[r9];refine Calls.mono (zhi L X b g cap (arr.getD 0 undef) cur l w aH (by rw[bf,←aw,←rS]) ah hle ig dI fun j x hx=>?_) fun e w' ⟨he,hw⟩=>?_
    ·have ag:=(List.getElem?_eq_some_iff.1 hx).1
     have hc:=eW j (.v (.int .u8 x)) (by rw[Ku,List.getElem?_map,hx];rfl)
     have zhp:xs.getD j undef= .int .u8 x:=by
      generalize xs.getD j undef=bR at hc⊢
      cases hc with
      |v=>rfl
     have Fw:xs[j]? =some (.int .u8 x):=by
      have jO:j<xs.length:=by rw[c1.1,hlen];omega
      rw[←zhp];simp[List.getD,List.getElem?_eq_getElem jO]
     rw[addLit,Nat.zero_add,cell_of_row w g j cur (a7.t 5) (0,0) ah];rw[←lF,List.getElem?_take]at Fw
     split at Fw
     ·simpa using Fw
     ·cases Fw
    ·subst hw
     obtain⟨f1,f2,f3,f4⟩:=zhn w.drew ⟨g,0,none⟩ l.length
     have nS: ∀k,k<w.heap.size→b4 (β rid)≠some k→(w.drew.freeze ⟨g,0,none⟩ l.length).heap[k]? =w.heap[k]? :=fun k _ aj=>zhm w.drew g l.length k fun e=>aj (by rw[yi,e])
     have bP:w.heap.size≤(w.drew.freeze ⟨g,0,none⟩ l.length).heap.size:=Nat.le_of_eq f4.symm
     have sub: ∀k o,aE (gl σ rid) k=some o→aE σ k=some o:=by
      intro k o aj;rw[zg]at aj
      split at aj
      ·cases aj
      ·exact aj
     refine⟨_,_,gl σ rid,β,ro,n,he,⟨rfl,rfl⟩,.fz rfl,au.drop af nS bP,⟨f1,f2,f3,bP,fun k aj an=>nS k aj fun e=>an ⟨rid,_,af,rfl,e⟩,fun _ h=>.inl h,fun _ h=>h,fun k ⟨j,o,ag,ar,ad⟩=>.inl ⟨j,o,sub _ _ ag,ar,ad⟩,fun k aj o ah=>⟨by rw[sub _ _ ah];simp,rfl⟩,fun k o ah=>bA k o (sub _ _ ah),Nat.le_refl _⟩⟩
theorem hb.same(h:hb w ro σ β n)(he:w'.heap=w.heap):hb w' ro σ β n:=by
 have cc: ∀b,ro b→w'.heap[b]? =w.heap[b]? :=fun b _=>by rw[he]
 have key: ∀x c,bs w ro σ β n x c→bs w' ro σ β n x c:=fun x c hx=>hx.keep cc (fun _ h=>h) (Nat.le_refl _) (fun id t cs aj=>⟨rfl,t,cs,aj⟩) (fun id z t n es aj=>⟨rfl,z,t,es,aj⟩) (fun id bN aj=>⟨rfl,bN,aj⟩)
 refine⟨fun k o aj=>?_,h.inj,h.ff,fun b ad=>by rw[he];exact h.lt b ad⟩
 have gJ:=h.c7 k o aj
 cases gJ with
 |box t cs b arr aa ae au aR=>exact .box t cs b arr aa (by rw[he];exact ae) au fun j x ag=>key _ _ (aR j x ag)
 |row t n es xs aa ae au=>exact .row t n es xs (aa.keep (fun b ad=>by rw[he]) (Nat.le_of_eq (by rw[he]))) ae fun j x ag=>(au j x ag).keep cc fun _ h=>h
 |ga t n es aa=>exact .ga t n es (aa.keep cc fun _ h=>h)
 |bM bN b o aa ae au=>exact .bM bN b o aa (by rw[he];exact ae) (bN.mono _ _ _ _ (fun x c h=>h.keep cc fun _ h=>h) au)
theorem Trans.drew(hx: ∀id o,aE σ id=some o→id<n):Trans ⟨w,ro,σ,β,n⟩ w.drew ro σ β n:=
 ⟨rfl,rfl,rfl,Nat.le_refl _,fun _ _ _=>rfl,fun _ h=>.inl h,fun _ h=>h,fun _ h=>.inl h,fun k _ o ah=>⟨by rw[ah];simp,rfl⟩,hx,Nat.le_refl _⟩
theorem ZQ(L:Lays.n169 P a7)(X:Builder.Extra P a7){G:a8}{id:Nat}{x0:aD}(bd:aE σ id=some (.box (a7.t 72) [x0,.av (.v (.slice none 0 0))])):
 dF P G (a7.f 169) [.ptr id 0] σ n fun r bV=>r= .av (.v (.string ⟨#[]⟩))∧bV=σ:=by
 intro w β ro ea aa ae au aR bA
 have dk:=au.c7 id _ bd
 cases dk with
 |box _ _ b arr aC bf cg ek=>
  have hC:ea.getD 0 undef= .pointer (some ⟨b,0,none⟩):=by
   have:=ae 0 _ rfl
   generalize ea.getD 0 undef=bR at this⊢
   cases this with
   |ptr _ _ _ ar kl=>
    obtain⟨b',c3,dj⟩:=kl _ _ bd;rw[aC]at c3
    cases c3
    exact dj
  have r9:ea= #[.pointer (some ⟨b,0,none⟩)]:=by
   have ai:ea.size=1:=aa
   apply Array.ext
   ·simpa using ai
   ·intro i yd my
    have:i=0:=by omega
    subst this;simpa[Array.getD,ai]using hC
  have Bh:arr.getD 1 undef= .slice none 0 0:=bs.val (ek 1 _ rfl)
  have rS:arr= #[arr.getD 0 undef,.slice none 0 0]:=by
   have ai:arr.size=2:=cg
   apply Array.ext
   ·simpa using ai
   ·intro i yd my
    have hi:i=0∨i=1:=by omega
    rcases hi with rfl|rfl
    ·simp[Array.getD,ai]
    ·have:=Bh
     simp only[Array.getD,ai]at this;simpa using this
  rw[r9];refine Calls.mono (U2 L X b (arr.getD 0 undef) w (by rw[bf,←rS])) fun e w' ⟨he,hw⟩=>?_
  subst hw;exact⟨_,_,σ,β,ro,n,he,⟨rfl,rfl⟩,.fz rfl,au.same rfl,Trans.drew bA⟩
theorem zhq(L:Lays.n169 P a7)(X:Builder.Extra P a7){G:a8}{id:Nat}{x0:aD}(bd:aE σ id=some (.box (a7.t 72) [x0,.aO rid]))(af:aE σ rid=some (.row false (a7.t 5) 1 [])):
 dF P G (a7.f 169) [.ptr id 0] σ n fun r bV=>r= .av (.v (.string ⟨#[]⟩))∧bV=gl σ rid:=by
 intro w β ro ea aa ae au aR bA
 have dk:=au.c7 id _ bd
 have fL:=au.c7 rid _ af
 cases dk with
 |box _ _ b arr aC bf cg ek=>
  cases fL with
  |row _ _ _ xs c1 b5 eW=>
   have hC:ea.getD 0 undef= .pointer (some ⟨b,0,none⟩):=by
    have:=ae 0 _ rfl
    generalize ea.getD 0 undef=bR at this⊢
    cases this with
    |ptr _ _ _ ar kl=>
     obtain⟨b',c3,dj⟩:=kl _ _ bd;rw[aC]at c3
     cases c3
     exact dj
   have r9:ea= #[.pointer (some ⟨b,0,none⟩)]:=by
    have ai:ea.size=1:=aa
    apply Array.ext
    ·simpa using ai
    ·intro i yd my
     have:i=0:=by omega
     subst this;simpa[Array.getD,ai]using hC
   have Bh:arr.getD 1 undef=β rid:=by
    have:=ek 1 _ rfl
    generalize arr.getD 1 undef=bR at this⊢
    cases this with
    |aO _ _ _ ak=>exact ak _ _ _ _ af
   have rS:arr= #[arr.getD 0 undef,β rid]:=by
    have ai:arr.size=2:=cg
    apply Array.ext
    ·simpa using ai
    ·intro i yd my
     have hi:i=0∨i=1:=by omega
     rcases hi with rfl|rfl
     ·simp[Array.getD,ai]
     ·have:=Bh
      simp only[Array.getD,ai]at this;simpa using this
   have bI:b<w.heap.size:=(Array.getElem?_eq_some_iff.1 bf).1
   have fin:Calls P (a7.f 169) #[.pointer (some ⟨b,0,none⟩)] w fun e w'=>e= .returned (.string ⟨#[]⟩)∧(w'=w.drew∨∃o,w'=w.drew.alloc o):=by
    rcases c1.2 with⟨⟨c,aw,uE⟩,_⟩|⟨g,cap,cur,aw,ak,_⟩
    ·cases c with
     |none=>exact Calls.mono (U2 L X b (arr.getD 0 undef) w (by rw[bf,←aw,←rS])) fun e w' ⟨he,hw⟩=>⟨he,.inl hw⟩
     |some cY=>
      obtain⟨q,eS,aJ,U3⟩:=zhl L cY w.drew (uE cY rfl);refine Calls.mono (zhk L X b cY q (arr.getD 0 undef) w eS (by rw[bf,←aw,←rS]) ?_ aJ) fun e w' ⟨he,hw⟩=>⟨he,by rw[hw];exact U3⟩
      rcases U3 with rfl|⟨o,rfl⟩
      ·rfl
      ·exact Lib.alloc_old w.drew _ b bI
    ·exact Calls.mono (zhj L X b g cap (arr.getD 0 undef) w (Nat.ne_of_gt ak) (by rw[bf,←(show β rid= .slice (some ⟨g,0,none⟩) 0 cap from aw),←rS])) fun e w' ⟨he,hw⟩=>⟨he,.inl hw⟩
   rw[r9];refine Calls.mono fin fun e w' ⟨he,hw⟩=>?_
   have hold: ∀k,k<w.heap.size→w'.heap[k]? =w.heap[k]? :=fun k aj=>by
    rcases hw with rfl|⟨o,rfl⟩
    ·rfl
    ·exact Lib.alloc_old w.drew _ k aj
   have bP:w.heap.size≤w'.heap.size:=by
    rcases hw with rfl|⟨o,rfl⟩
    ·exact Nat.le_refl _
    ·show w.heap.size≤(w.heap.push _).size
     rw[Array.size_push];exact Nat.le_succ _
   have oU:w'.os=w.os∧w'.tape=w.drew.tape∧w'.output=w.output:=by
    rcases hw with rfl|⟨o,rfl⟩<;>exact⟨rfl,rfl,rfl⟩
   have sub: ∀k o,aE (gl σ rid) k=some o→aE σ k=some o:=by
    intro k o aj;rw[zg]at aj
    split at aj
    ·cases aj
    ·exact aj
   refine⟨_,_,gl σ rid,β,ro,n,he,⟨rfl,rfl⟩,.fz rfl,au.drop af (fun k aj _=>hold k aj) bP,⟨oU.1,oU.2.1,oU.2.2,bP,fun k aj _=>hold k aj,fun _ h=>.inl h,fun _ h=>h,fun k ⟨j,o,ag,ar,ad⟩=>.inl ⟨j,o,sub _ _ ag,ar,ad⟩,fun k aj o ah=>⟨by rw[sub _ _ ah];simp,rfl⟩,fun k o ah=>bA k o (sub _ _ ah),Nat.le_refl _⟩⟩
theorem ZP(L:Lays.n169 P a7)(X:Builder.Extra P a7){G:a8}{id:Nat}{x0:aD}{l:List Int}(bd:aE σ id=some (.box (a7.t 72) [x0,.aO rid]))(af:aE σ rid=some (.row false (a7.t 5) 1 (l.map fun z=>[.v (.int .u8 z)]))):
 dF P G (a7.f 169) [.ptr id 0] σ n fun r bV=>r= .av (.v (.string (bytesOf l)))∧bV=gl σ rid:=by
 cases l with
 |nil=>exact zhq L X bd af
 |cons z l=>exact zho L X (by simp) bd af
end
end Go.aM
namespace Go.aM
open Go
def qQ:List (Nat × bC)→Nat→List (Nat × bC)
 |[],_=>[]
 |(k,x)::r,id=>match Nat.beq k id with
  |true=>qQ r id
  |false=>(k,x)::qQ r id
theorem NS{G:a8}{e:Env}{id:Nat}: ∀(h:List (Nat × bC)),cx G e (qQ h id)=gl (cx G e h) id
 |[]=>rfl
 |(k,x)::r=>by
  simp only[qQ,cx,gl]
  by_cases aj:k=id
  ·subst aj
   simp only[Nat.beq_refl,if_true];exact NS r
  ·have:Nat.beq k id=false:=by cases aJ:Nat.beq k id with|true=>exact absurd (Nat.eq_of_beq_eq_true aJ) aj|false=>rfl
   simp only[this,if_neg aj,cx,NS r]
theorem NT{k id:Nat}: ∀{h:List (Nat × bC)},eH k h=true→eH k (qQ h id)=true
 |[],h=>h
 |(j,x)::r,h=>by
  have bb:x.lt k=true∧eH k r=true:=by cases x<;>simpa only[eH,Bool.and_eq_true]using h
  simp only[qQ]
  split
  ·exact NT bb.2
  ·show(x.lt k&&eH k (qQ r id))=true
   rw[bb.1,NT bb.2];rfl
def NU(vC qR t5:Nat)(inl:Nat→List ab→aq→aB)(f:Nat)(aG:List ab)(S:aq):aB:=
 match Nat.beq f vC,aG with
 |true,[.eb id 0]=>match db S.h id with
  |some (.dn t [x0,.aO r])=>match db S.h r with
   |some (.rw bz .u8 x)=>match(Nat.beq t qR&&Nat.beq bz t5)&&(x.ew (.li .u8)&&x.lt S.k)with
    |true=>emit S.k [.f1 .cO x] [] (.cH .cj ⟨ba.put .emp 0 (.aV .str S.k),qQ S.h r,S.n,S.k+1,S.g⟩)
    |false=>inl f aG S
   |_=>inl f aG S
  |some (.dn t [x0,.cs (.slice none 0 0)])=>match Nat.beq t qR with
   |true=>.cH .cj ⟨ba.put .emp 0 (.cs (.string ⟨#[]⟩)),S.h,S.n,S.k,S.g⟩
   |false=>inl f aG S
  |_=>inl f aG S
 |_,_=>inl f aG S
section
variable {P:Program} {G:a8} {M:List aS} {inl:Nat→List ab→aq→aB} {vC qR t5:Nat}
def uw(P:Program)(G:a8)(vC qR t5:Nat):Prop:=
 (∀{σ:Heap} {n rid id:Nat} {x0:aD} {l:List Int},aE σ id=some (.box qR [x0,.aO rid])→aE σ rid=some (.row false t5 1 (l.map fun z=>[.v (.int .u8 z)]))→
  dF P G vC [.ptr id 0] σ n fun r bV=>r= .av (.v (.string (bytesOf l)))∧bV=gl σ rid)∧
 ∀{σ:Heap} {n id:Nat} {x0:aD},aE σ id=some (.box qR [x0,.av (.v (.slice none 0 0))])→dF P G vC [.ptr id 0] σ n fun r bV=>r= .av (.v (.string ⟨#[]⟩))∧bV=σ
theorem zhr(dq:uw P G vC qR t5)(bU:fK P G M inl):fK P G M (NU vC qR t5 inl):=fun f aG S e ad ar hf ai=>by
 unfold NU at ai⊢
 split at ai
 rotate_left
 ·exact bU _ _ S e ad ar hf ai
 rename_i id zhs
 have aX:=Nat.eq_of_beq_eq_true zhs
 subst aX
 split at ai
 ·rename_i t x0 r ah
  split at ai
  rotate_left
  ·exact bU _ _ S e ad ar hf ai
  rename_i bz x NV
  split at ai
  rotate_left
  ·exact bU _ _ S e ad ar hf ai
  rename_i aj;simp only[Bool.and_eq_true]at aj;obtain⟨⟨ft,gG⟩,kZ,sH⟩:=aj
  have ft:=Nat.eq_of_beq_eq_true ft
  have gG:=Nat.eq_of_beq_eq_true gG
  subst ft gG
  have vz:hs S.k [bJ.f1 .cO x]=true:=by
   simp only[hs,bJ.lt,sH,Bool.and_self]
  have bS:bX S.k e (di M e S.k [bJ.f1 .cO x]):=jW (Nat.le_refl _)
  have eL:=jz (M:=M) (e:=e) vz 0 _ rfl
  have zht:x.aA (di M e S.k [bJ.f1 .cO x]) (.li .u8)=x.aA e (.li .u8):=eF bS sH
  simp only[Nat.add_zero,bJ.den,gF.den,gF.a,zht]at eL
  have lT:=dq.1 (σ:=cx G e S.h) (n:=S.n) (rid:=r) (id:=id) (x0:=x0.den G e) (l:=x.aA e (.li .u8)) (by rw[ef,ah];rfl) (by rw[ef,NV];rfl)
  refine lT.res fun zhu bV ⟨aa,ae⟩=>⟨⟨ba.put .emp 0 (.aV .str S.k),qQ S.h r,S.n,S.k+1,S.g⟩,di M e S.k [bJ.f1 .cO x],by rw[lR];rfl,?_,?_,?_,ik bS ad.g hf,bS,Nat.le_succ _⟩
  ·rw[aa]
   show _=ab.den G _ (aq.at _ 0);unfold aq.at
   simp only[ba.h0,if_true,ab.den,ab.dyn,eL];rfl
  ·rw[ae]
   show _=cx G _ (qQ S.h r);rw[NS,xc bS ad.h]
  ·refine⟨fun i y hi=>?_,NT (s9 (Nat.le_succ _) ad.h),oa (Nat.le_succ _) ad.g⟩
   simp only[ba.h0]at hi
   split at hi
   ·cases hi
    exact jV (Nat.lt_succ_self _)
   ·simp[ba.get]at hi
 ·rename_i t x0 ah
  split at ai
  rotate_left
  ·exact bU _ _ S e ad ar hf ai
  rename_i ft
  have ft:=Nat.eq_of_beq_eq_true ft
  subst ft
  have lT:=dq.2 (σ:=cx G e S.h) (n:=S.n) (id:=id) (x0:=x0.den G e) (by rw[ef,ah];rfl)
  refine lT.res fun zhu bV ⟨aa,ae⟩=>⟨⟨ba.put .emp 0 (.cs (.string ⟨#[]⟩)),S.h,S.n,S.k,S.g⟩,e,rfl,?_,?_,?_,hf,bX.refl _ _,Nat.le_refl _⟩
  ·rw[aa]
   show _=ab.den G _ (aq.at _ 0);unfold aq.at
   simp only[ba.h0,if_true,ab.den]
  ·rw[ae]
  ·refine⟨fun i y hi=>?_,ad.h,ad.g⟩
   simp only[ba.h0]at hi
   split at hi
   ·cases hi
    rfl
   ·simp[ba.get]at hi
 ·exact bU _ _ S e ad ar hf ai
end
end Go.aM
namespace Go.aM
open Go
def ot(n:Nat)(b:Bool)(f:b0→Bool)(x:b0):Bool:=
 match x.bT n with
 |true=>b
 |false=>f x
def sa(n:Nat)(b:Bool)(f:b0→Bool)(x:b0):Bool:=
 match x.cZ n with
 |true=>b
 |false=>f x
def aB.eJ:aB→(b0→Bool)→Bool
 | .cH x _,f=>f x
 | .lt _ _ t,f=>t.eJ f
 | .eG _ _,_=>false
 | .it _ a b,f=>a.eJ f&&b.eJ f
 | .dC n a _ k,f=>a.eJ (ot n (k.eJ f) f)
 | .ej m xid _ _ _ a k,f=>k.eJ f&&a.eJ (ot m true (sa xid true f))
 | .e0 _ _ _ _ _,_=>false
 | .bad _,_=>false
def aB.h8(M:List aS):aB→Env→(b0→Bool)→(b0→aq→Env→Prop)→Prop
 | .cH x S,e,_,Q=>Q x S e
 | .lt i x t,e,f,Q=>t.h8 M (ba.put e i (x.den M e)) f Q
 | .eG n t,e,f,Q=>match t.eJ f with
  |true=>n.ok M e
  |false=>n.ok M e∧t.h8 M e f Q
 | .it g a b,e,f,Q=>match a.eJ f,b.eJ f with
  |true,true=>True
  |true,false=>g.aA e .bool=false→b.h8 M e f Q
  |false,true=>g.aA e .bool=true→a.h8 M e f Q
  |false,false=>(g.aA e .bool=true→a.h8 M e f Q)∧(g.aA e .bool=false→b.h8 M e f Q)
 | .dC n a ps k,e,f,Q=>a.h8 M e (ot n (k.eJ f) f) fun x S ay=>bif x.bT n then k.h8 M (fM e (fun r p=>⟨r,(p.dh S).get ay r⟩) ps) f Q else Q x S ay
 | .ej m xid dp b1 ca a k,e,f,Q=>match k.eJ f with
  |true=>∃I:Nat→bY ca→Prop,I 0 (b9 _ (dE e ca))∧∀(i:Nat) (v:bY ca),i<(ck (dp.den M e)).toNat→I i v→
   a.h8 M (bm (ba.put e b1 ⟨.int .i64,(i:Int)⟩) ca v) (ot m false (sa xid true f)) fun x S ay=>bif x.bT m then I (i+1) (b9 _ (fw S ay ca))else bif x.cZ xid then True else Q x S ay
  |false=>∃I:Nat→bY ca→Prop,I 0 (b9 _ (dE e ca))∧(∀(i:Nat) (v:bY ca),i<(ck (dp.den M e)).toNat→I i v→
   a.h8 M (bm (ba.put e b1 ⟨.int .i64,(i:Int)⟩) ca v) (ot m false (sa xid false f)) fun x S ay=>bif x.bT m then I (i+1) (b9 _ (fw S ay ca))else bif x.cZ xid then k.h8 M (bm e ca (b9 _ (fw S ay ca))) f Q else Q x S ay)∧
   ∀v,I (ck (dp.den M e)).toNat v→k.h8 M (bm e ca v) f Q
 | .e0 m xid ca a k,e,f,Q=>∃(I:bY ca→Prop) (jC:bY ca→Nat),I (b9 _ (dE e ca))∧jC (b9 _ (dE e ca))<dU∧∀(v:bY ca),I v→
  a.h8 M (bm e ca v) (ot m false (sa xid (k.eJ f) f)) fun x S ay=>bif x.bT m then I (b9 _ (fw S ay ca))∧jC (b9 _ (fw S ay ca))<jC v else bif x.cZ xid then k.h8 M (bm e ca (b9 _ (fw S ay ca))) f Q else Q x S ay
 | .bad _,_,_,_=>False
section
variable {M:List aS}
def kr(f:b0→Bool)(Q:b0→aq→Env→Prop):Prop:=∀x,f x=true→∀S e,Q x S e
theorem kr.dC{f:b0→Bool}{Q R:b0→aq→Env→Prop}{n:Nat}{b:Bool}(h:kr f R)(ad:b=true→∀x S e,x.bT n=true→Q x S e)(af: ∀x S e,x.bT n=false→R x S e→Q x S e):kr (ot n b f) Q:=fun x hx S e=>by
 unfold ot at hx
 cases ag:x.bT n with
 |true=>rw[ag]at hx;exact ad hx x S e ag
 |false=>rw[ag]at hx;exact af x S e ag (h x hx S e)
theorem kr.ti{f:b0→Bool}{Q R:b0→aq→Env→Prop}{n:Nat}{b:Bool}(h:kr f R)(ad:b=true→∀x S e,x.cZ n=true→Q x S e)(af: ∀x S e,x.cZ n=false→R x S e→Q x S e):kr (sa n b f) Q:=fun x hx S e=>by
 unfold sa at hx
 cases ag:x.cZ n with
 |true=>rw[ag]at hx;exact ad hx x S e ag
 |false=>rw[ag]at hx;exact af x S e ag (h x hx S e)
theorem kt: ∀(t:aB) {e:Env} {f:b0→Bool} {Q:b0→aq→Env→Prop},kr f Q→t.eJ f=true→t.wp M e Q
 | .cH x S,e,_,_,h,c=>h x c S e
 | .lt _ _ t,_,_,_,h,c=>kt t h c
 | .eG _ _,_,_,_,_,c=>by cases c
 | .it _ a b,_,_,_,h,c=>by
  simp only[aB.eJ,Bool.and_eq_true]at c;exact⟨fun _=>kt a h c.1,fun _=>kt b h c.2⟩
 | .dC n a ps k,e,f,Q,h,c=>kt a (kr.dC h (fun ad x S ay ag=>by rw[ag];exact kt k h ad) (fun x S ay ag aJ=>by rw[ag];exact aJ)) c
 | .ej m xid dp b1 ca a k,e,f,Q,h,c=>by
  simp only[aB.eJ,Bool.and_eq_true]at c;refine⟨fun _ _=>True,trivial,fun i v _ _=>kt a (kr.dC (kr.ti h (Q:=fun x S ay=>bif x.cZ xid then k.wp M (bm e ca (b9 _ (fw S ay ca))) Q else Q x S ay) (fun _ x S ay ag=>by rw[ag];exact kt k h c.1) (fun x S ay ag aJ=>by rw[ag];exact aJ)) (fun _ x S ay ag=>by rw[ag];trivial) (fun x S ay ag aJ=>by rw[ag];exact aJ)) c.2,fun v _=>kt k h c.1⟩
 | .e0 _ _ _ _ _,_,_,_,_,c=>by cases c
 | .bad _,_,_,_,_,c=>by cases c
theorem ku: ∀(t:aB) {e:Env} {f:b0→Bool} {Q R:b0→aq→Env→Prop},(∀x S ay,Q x S ay→R x S ay)→t.h8 M e f Q→t.h8 M e f R
 | .cH _ _,_,_,_,_,h,q=>h _ _ _ q
 | .lt _ _ t,_,_,_,_,h,q=>ku t h q
 | .eG n t,e,f,Q,R,h,q=>by
  simp only[aB.h8]at q⊢
  cases hc:t.eJ f with
  |true=>rw[hc]at q;exact q
  |false=>rw[hc]at q;exact⟨q.1,ku t h q.2⟩
 | .it g a b,e,f,Q,R,h,q=>by
  simp only[aB.h8]at q⊢
  cases aY:a.eJ f<;>cases ad:b.eJ f<;>rw[aY,ad]at q<;>simp only at q⊢
  ·exact⟨fun ah=>ku a h (q.1 ah),fun ah=>ku b h (q.2 ah)⟩
  ·exact fun ah=>ku a h (q ah)
  ·exact fun ah=>ku b h (q ah)
 | .dC n a ps k,e,f,Q,R,h,q=>ku a (fun x S ay r=>by
  cases hx:x.bT n with
  |true=>rw[hx]at r;exact ku k h r
  |false=>rw[hx]at r;exact h _ _ _ r) q
 | .ej m xid dp b1 ca a k,e,f,Q,R,h,q=>by
  simp only[aB.h8]at q⊢
  cases hc:k.eJ f with
  |true=>
   rw[hc]at q;obtain⟨I,aa,ae⟩:=q;refine⟨I,aa,fun i v hi aw=>ku a (fun x S ay r=>?_) (ae i v hi aw)⟩
   cases hx:x.bT m with
   |true=>rw[hx]at r;exact r
   |false=>
    rw[hx]at r
    cases ax:x.cZ xid with
    |true=>trivial
    |false=>rw[ax]at r;exact h _ _ _ r
  |false=>
   rw[hc]at q;obtain⟨I,aa,ae,au⟩:=q;refine⟨I,aa,fun i v hi aw=>ku a (fun x S ay r=>?_) (ae i v hi aw),fun v aw=>ku k h (au v aw)⟩
   cases hx:x.bT m with
   |true=>rw[hx]at r;exact r
   |false=>
    rw[hx]at r
    cases ax:x.cZ xid with
    |true=>rw[ax]at r;exact ku k h r
    |false=>rw[ax]at r;exact h _ _ _ r
 | .e0 m xid ca a k,e,f,Q,R,h,q=>by
  obtain⟨I,jC,aa,ae,au⟩:=q;refine⟨I,jC,aa,ae,fun v aw=>ku a (fun x S ay r=>?_) (au v aw)⟩
  cases hx:x.bT m with
  |true=>rw[hx]at r;exact r
  |false=>
   rw[hx]at r
   cases ax:x.cZ xid with
   |true=>rw[ax]at r;exact ku k h r
   |false=>rw[ax]at r;exact h _ _ _ r
 | .bad _,_,_,_,_,_,q=>q.elim
theorem lX: ∀(t:aB) {e:Env} {f:b0→Bool} {Q:b0→aq→Env→Prop},kr f Q→t.h8 M e f Q→t.wp M e Q
 | .cH _ _,_,_,_,_,q=>q
 | .lt _ _ t,_,_,_,h,q=>lX t h q
 | .eG n t,e,f,Q,h,q=>by
  simp only[aB.h8]at q
  cases hc:t.eJ f with
  |true=>rw[hc]at q;exact⟨q,kt t h hc⟩
  |false=>rw[hc]at q;exact⟨q.1,lX t h q.2⟩
 | .it g a b,e,f,Q,h,q=>by
  simp only[aB.h8]at q
  cases aY:a.eJ f<;>cases ad:b.eJ f<;>rw[aY,ad]at q<;>simp only at q
  ·exact⟨fun ah=>lX a h (q.1 ah),fun ah=>lX b h (q.2 ah)⟩
  ·exact⟨fun ah=>lX a h (q ah),fun _=>kt b h ad⟩
  ·exact⟨fun _=>kt a h aY,fun ah=>lX b h (q ah)⟩
  ·exact⟨fun _=>kt a h aY,fun _=>kt b h ad⟩
 | .dC n a ps k,e,f,Q,h,q=>by
  refine lX a (f:=ot n (k.eJ f) f) (kr.dC h (fun ad x S ay ag=>?_) (fun x S ay ag aJ=>by rw[ag];exact aJ)) ?_
  ·rw[ag];exact kt k h ad
  ·exact ku a (fun x S ay r=>by
    cases hx:x.bT n with
    |true=>rw[hx]at r;exact lX k h r
    |false=>rw[hx]at r;exact r) q
 | .ej m xid dp b1 ca a k,e,f,Q,h,q=>by
  simp only[aB.h8]at q
  cases hc:k.eJ f with
  |true=>
   rw[hc]at q;obtain⟨I,aa,ae⟩:=q;refine⟨I,aa,fun i v hi aw=>?_,fun v _=>kt k h hc⟩
   refine lX a (f:=ot m false (sa xid true f)) (kr.dC (kr.ti h (Q:=fun x S ay=>bif x.cZ xid then k.wp M (bm e ca (b9 _ (fw S ay ca))) Q else Q x S ay) (fun _ x S ay ag=>by rw[ag];exact kt k h hc) (fun x S ay ag aJ=>by rw[ag];exact aJ)) (fun ad=>by cases ad) (fun x S ay ag aJ=>by rw[ag];exact aJ)) ?_
   refine ku a (fun x S ay r=>?_) (ae i v hi aw)
   cases hx:x.bT m with
   |true=>rw[hx]at r;exact r
   |false=>
    rw[hx]at r
    cases ax:x.cZ xid with
    |true=>exact kt k h hc
    |false=>rw[ax]at r;exact r
  |false=>
   rw[hc]at q;obtain⟨I,aa,ae,au⟩:=q;refine⟨I,aa,fun i v hi aw=>?_,fun v aw=>lX k h (au v aw)⟩
   refine lX a (f:=ot m false (sa xid false f)) (kr.dC (kr.ti h (Q:=fun x S ay=>bif x.cZ xid then k.wp M (bm e ca (b9 _ (fw S ay ca))) Q else Q x S ay) (fun ad=>by cases ad) (fun x S ay ag aJ=>by rw[ag];exact aJ)) (fun ad=>by cases ad) (fun x S ay ag aJ=>by rw[ag];exact aJ)) ?_
   refine ku a (fun x S ay r=>?_) (ae i v hi aw)
   cases hx:x.bT m with
   |true=>rw[hx]at r;exact r
   |false=>
    rw[hx]at r
    cases ax:x.cZ xid with
    |true=>rw[ax]at r;exact lX k h r
    |false=>rw[ax]at r;exact r
 | .e0 m xid ca a k,e,f,Q,h,q=>by
  obtain⟨I,jC,aa,ae,au⟩:=q;refine⟨I,jC,aa,ae,fun v aw=>?_⟩
  refine lX a (f:=ot m false (sa xid (k.eJ f) f)) (kr.dC (kr.ti h (Q:=fun x S ay=>bif x.cZ xid then k.wp M (bm e ca (b9 _ (fw S ay ca))) Q else Q x S ay) (fun ad x S ay ag=>by rw[ag];exact kt k h ad) (fun x S ay ag aJ=>by rw[ag];exact aJ)) (fun ad=>by cases ad) (fun x S ay ag aJ=>by rw[ag];exact aJ)) ?_
  refine ku a (fun x S ay r=>?_) (au v aw)
  cases hx:x.bT m with
  |true=>rw[hx]at r;exact r
  |false=>
   rw[hx]at r
   cases ax:x.cZ xid with
   |true=>rw[ax]at r;exact lX k h r
   |false=>rw[ax]at r;exact r
 | .bad _,_,_,_,_,q=>q.elim
end
def wj(M:List aS)(t:aB)(e:Env):Prop:=t.h8 M e (fun _=>true) fun _ _ _=>True
theorem NW{M:List aS}{t:aB}{e:Env}(h:wj M t e):t.wp M e fun _ _ _=>True:=lX t (fun _ _ _ _=>trivial) h
section
variable {P:Program} {G:a8} {M:List aS} {inl:Nat→List ab→aq→aB}
theorem cy(bU:fK P G M inl){f:Nat}{m:aS}(t:aB)(aI:inl f (hz 0 m.ps) (qb m.ps.length)=t)(he:t.gx.all (uv m.rs)=true)
 (ai: ∀x,wj M t (gy 0 (dz m.ps x))=lp m.pre x)(hm: ∀x,wk M t m.rs (gy 0 (dz m.ps x))=m.m x):bG P G f m:=
 zgG bU t aI he (fun x hx=>NW (by rw[ai x];exact hx)) hm
theorem ZO(bU:fK P G M inl){f:Nat}{m:aS}(t:aB)(aI:inl f (hz 0 m.ps) (qb m.ps.length)=t)(he:t.gx.all (uv m.rs)=true)
 (ai: ∀x,lp m.pre x→wj M t (gy 0 (dz m.ps x)))(hm: ∀x,lp m.pre x→wk M t m.rs (gy 0 (dz m.ps x))=m.m x):bG P G f m:=
 Nu bU t aI he (fun x hx=>(kq t (NW (ai x hx))).1) fun x hx=>by rw[←hm x hx];exact(mK t _ _ _).symm
theorem CT(bU:fK P G M inl){f:Nat}{t:TypeId}{c:bL}{ps rs:List aW}{pre:Option ((fb (.st c::ps)).den→Prop)}{oq:(fb (.st c::ps)).den→(fb (.st c::rs)).den}(T:aB)(aI:inl f (.eb 0 0::hz 1 ps) (tH t c ps.length)=T)
 (he:T.gx.all (Ny t c rs)=true)(ai: ∀x,wj M T (gy 0 (dz (.st c::ps) x))=lp pre x)(hm: ∀x,Fs M T t c rs (gy 0 (dz (.st c::ps) x))=oq x):m3 P G f t ⟨.st c::ps,.st c::rs,pre,oq⟩:=
 UR bU T aI he (fun x hx=>(kq T (NW (by rw[ai x];exact hx))).1) hm
end
end Go.aM
