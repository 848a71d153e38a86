/- TE, part E: contracts out of trees, of functions that are handed an own box. Conditions: none. -/
import Derived.Test.YtmkpmgfieagphaaGreatDoorQTEd
import Derived.Test.YtmkpmgfieagphaaGreatDoorQTDb
import Derived.ProofKit
import Derived.LaidMore
import Derived.OpenShut
import Derived.MakeChecks
import Derived.ChangeArms
import Derived.ReadAgain
import Derived.ChangeBears
import Derived.Stop.Joined
import Derived.SizedLaws
namespace Go.aL
open Go
section
variable {P:Program} {G:aY} {f:FuncId} {args:List aD} {t:TypeId} {σ:bz} {R:aD→bz→Prop}
theorem dI.zcb(h:dI P G f args σ 1 R){Q:aD→List aD→Prop}(gC: ∀r bO,R r bO→∃v sO cs,aE bO 0=some (.box t sO)∧fS sO cs∧eL cs=true∧Sub r v∧ff v=true∧Q v cs):
 dI P G f args σ 1 fun v bO=>∃cs,bO=[(0,.box t cs)]∧Q v cs:=by
 intro w β ro eI aa ae aq aT bD
 refine Calls.mono (h w β ro eI aa ae aq aT bD) fun e w' ⟨v,r,bO,dR,ro',cO,he,af,dk,hs,cq⟩=>?_
 obtain⟨u,sO,cs,ag,gb,ak,hu,Kh,aJ⟩:=gC r bO af
 have xj: ∀{id:Nat} {o:ej},aE [(0,ej.box t cs)] id=some o→id=0∧o= .box t cs:=fun {id o} ag=>by
  simp only[aE]at ag
  split at ag
  ·rename_i hi;cases ag;exact⟨hi.symm,rfl⟩
  ·cases ag
 have own: ∀b,Own [(0,ej.box t cs)] dR b→Own bO dR b:=fun b ⟨id,o,rr,_,ad⟩=>by
  obtain⟨rfl,rfl⟩:=xj rr;exact⟨0,_,ag,rfl,ad⟩
 refine⟨v,u,[(0,.box t cs)],dR,ro',cO,he,⟨cs,rfl,aJ⟩,nG (hu _ _ _ _ _ _ dk) Kh,⟨fun id o rr=>?_,fun id gJ o cl b rr zcc _ _ _ _=>?_,fun b ad an=>hs.ft b ad (own b an),hs.lt⟩,
  ⟨cq.os,cq.tape,cq.output,cq.size,cq.frame,cq.iM,cq.jL,fun b ad=>cq.gK b (own b ad),fun id hid o rr=>?_,fun id o rr=>?_,cq.le⟩⟩
 ·obtain⟨rfl,rfl⟩:=xj rr
  have dq:=hs.c4 0 _ ag
  cases dq with
  |box _ _ b arr ay aV ct eA=>
   refine .box t cs b arr ay aV (by rw[ct,gb.at.1]) fun j x ai=>?_
   obtain⟨y,ax,ah⟩:=gb.at.2 j x ai;exact nG (ah _ _ _ _ _ _ (eA j y ax)) (mS ak ai)
 ·rw[(xj rr).1,(xj zcc).1]
 ·obtain⟨rfl,rfl⟩:=xj rr
  exact cq.dE 0 hid _ ag
 ·obtain⟨rfl,rfl⟩:=xj rr
  exact cq.new 0 _ ag
end
def sQ(t:TypeId)(c:bN)(n:Nat):ar:=⟨.emp,[(0,.c8 t (iT c 0 0 (fh c)))],1,n+1,[]⟩
def KO(t:TypeId)(c:bN)(rs:List aU)(C:ar):Option (List ab):=
 match dm C.h 0 with
 |some (.c8 bs l)=>match(Nat.beq bs t&&hJ (fh c) l)&&(Kw rs (C.at 0)&&sL (uW rs (C.at 0)))with
  |true=>match rp C rs (uW rs (C.at 0))with
   |some xs=>some (.cD l::xs)
   |none=>none
  |false=>none
 |_=>none
def KP(t:TypeId)(c:bN)(rs:List aU)(C:ar):Bool:=(KO t c rs C).isSome
def RY(t:TypeId)(c:bN)(rs:List aU)(C:ar)(e:Env):(e2 (.st c::rs)).den:=
 match KO t c rs C with
 |some l=>bZ (.st c::rs) (gg e (.st c::rs) l)
 |none=>(e2 (.st c::rs)).gD
def DO(M:List aW)(T:az)(t:TypeId)(c:bN)(rs:List aU)(e:Env):(e2 (.st c::rs)).den:=T.j9 M e (fun _ C aw=>RY t c rs C aw) (e2 (.st c::rs)).gD
section
variable {P:Program} {G:aY} {M:List aW} {inl:Nat→List ab→ar→az}
theorem zcd{c:bN}{i k:Nat}(h:i<k):ab.cB k (iT c i 0 (fh c))=true:=DC h
theorem zce{rs:List aU}{S:ar}{e:Env}{xs:List ab}(aG:Kw rs (S.at 0)=true)(hq:sL (uW rs (S.at 0))=true)(h:rp S rs (uW rs (S.at 0))=some xs):
 Sub ((S.at 0).den G e) (match(gg e rs xs).map aB.fj with|[v]=>v|l=>.tuple l):=by
 obtain⟨bB,_,a3,a4⟩:=xg (G:=G) (e:=e) h
 rw[a3 hq]at bB
 match rs,bB,a4,aG with
 |[r],bB,a4,aG=>
  obtain⟨d,oD,av,aa,ae⟩:=lI a4
  cases mb ae
  rw[av]at bB⊢;simp only[uW,ab.bP,List.map_cons,List.map_nil]at bB⊢
  cases bB with
  |cons h _=>exact h
 |[],bB,a4,aG=>
  cases av:S.at 0 with
  |tp m=>
   rw[av]at bB;rw[mb a4]at bB⊢;exact bB.tuple
  |_=>rw[av]at aG;cases aG
 |r::s::q,bB,a4,aG=>
  cases av:S.at 0 with
  |tp m=>
   rw[av]at bB
   have ao:=congrArg List.length a4
   simp only[List.length_map,List.length_cons]at ao;generalize gg e (r::s::q) xs=ds at bB ao⊢
   match ds,ao with
   |d::d2::ds,_=>exact bB.tuple
  |_=>rw[av]at aG;cases aG
theorem RZ(ch:gI P G M inl){f:Nat}{t:TypeId}{c:bN}{ps rs:List aU}{pre:Option ((e2 (.st c::ps)).den→Prop)}{nV:(e2 (.st c::ps)).den→(e2 (.st c::rs)).den}(T:az)(aG:inl f (.dz 0 0::hj 1 ps) (sQ t c ps.length)=T)
 (he:T.gv.all (KP t c rs)=true)(ah: ∀x,mn pre x→T.safe M (fY 0 (dj (.st c::ps) x)))(hm: ∀x,DO M T t c rs (fY 0 (dj (.st c::ps) x))=nV x):iL P G f t ⟨.st c::ps,.st c::rs,pre,nV⟩:=fun x hx=>by
 subst aG
 obtain⟨d0,sP,mV,qM,hdr⟩:=lI (sM (rs:=.st c::ps) (x:=x))
 obtain⟨zbU,dX⟩:=d0
 simp only at qM
 subst qM
 have ao:sP.length=ps.length:=by have:=congrArg List.length hdr;rw[List.length_map]at this;exact this
 have ad:(sQ t c ps.length).cv:=⟨fun i x hi=>by simp[sQ,a1.get]at hi,by
  show(ab.cB (ps.length+1) (iT c 0 0 (fh c))&&true)=true;rw[zcd (Nat.succ_pos _)]
  rfl,rfl⟩
 have h:=ch f (.dz 0 0::hj 1 ps) (sQ t c ps.length) (fY 0 (dj (.st c::ps) x)) ad (by
  show(true&&ab.cB (ps.length+1) (hj 1 ps))=true;rw[z8 (by omega)]
  rfl) (fun c hc=>by cases hc) (ah x hx)
 have eC: ∀j d,(⟨.st c,dX⟩::sP)[j]? =some d→Env.at (fY 0 (dj (.st c::ps) x)) j=d:=fun j d ai=>by
  have:=Kv (ds:=dj (.st c::ps) x) (i:=0) (j:=j) (d:=d) (by rw[mV];exact ai)
  rwa[Nat.zero_add]at this
 have hd:ab.bP G (fY 0 (dj (.st c::ps) x)) (hj 1 ps)=sP.map aB.fj:=z7 hdr fun j d ai=>by rw[Nat.add_comm];exact eC (j+1) d (by simpa using ai)
 have nB:cK G (fY 0 (dj (.st c::ps) x)) (sQ t c ps.length).h=[(0,.box t ((cX c dX).map .au))]:=by
  have aS:=eC 0 ⟨.st c,dX⟩ rfl
  simp only[sQ,cK,bC.den];rw[wc,aS,cQ]
 have h7:ab.bP G (fY 0 (dj (.st c::ps) x)) (.dz 0 0::hj 1 ps)= .ptr 0 0::sP.map aB.fj:=by
  show aD.ptr 0 0::_=_;rw[hd]
 rw[h7,nB]at h
 show dI P G f (.ptr 0 0::(dj (.st c::ps) x).tail.map aB.fj) [(0,.box t (xi (dj (.st c::ps) x)))] 1 _
 rw[mV]
 refine dI.zcb (Q:=fun v cs=>v=DF (dj (.st c::rs) (nV x))∧cs=xi (dj (.st c::rs) (nV x))) h fun r bO af=>?_
 obtain⟨aP,aw,cS,rfl,rfl,_⟩:=af
 have kS:=RL he cS
 obtain⟨l,l7⟩:=Option.isSome_iff_exists.1 kS
 have r4:=hm x
 unfold DO at r4
 rw[mm,j0 cS]at r4
 unfold RY at r4
 rw[l7]at r4
 simp only at r4
 unfold KO at l7
 split at l7
 rotate_left
 ·cases l7
 rename_i bs Hr ag
 split at l7
 rotate_left
 ·cases l7
 rename_i hc
 simp only[Bool.and_eq_true]at hc
 obtain⟨⟨aA,et⟩,gQ,lj⟩:=hc
 have aA:=Nat.eq_of_beq_eq_true aA
 subst aA
 split at l7
 rotate_left
 ·cases l7
 rename_i xs nF
 cases l7
 obtain⟨_,_,_,a4⟩:=xg (G:=G) (e:=aw) nF
 have uU:(gg aw (.st c::rs) (.cD Hr::xs)).map aB.r= .st c::rs:=by simp only[gg,List.map_cons,a4]
 rw[←r4,xf uU]
 exact⟨_,_,_,by rw[eN,ag];rfl,yU et,BF _,zce gQ lj nF,by
  have ak:=DA (gg aw rs xs)
  split
  ·rename_i v av
   rw[av]at ak;simpa[eL]using ak
  ·exact ak,rfl,rfl⟩
theorem tP(ch:gI P G M inl){f:Nat}{t:TypeId}{c:bN}{ps rs:List aU}{nV:(e2 (.st c::ps)).den→(e2 (.st c::rs)).den}(T:az)(aG:inl f (.dz 0 0::hj 1 ps) (sQ t c ps.length)=T)
 (he:(T.clean&&T.gv.all (KP t c rs))=true)(hm: ∀x,DO M T t c rs (fY 0 (dj (.st c::ps) x))=nV x):iL P G f t ⟨.st c::ps,.st c::rs,none,nV⟩:=by
 simp only[Bool.and_eq_true]at he
 exact RZ ch T aG he.2 (fun _ _=>q2 M he.1) hm
end
end Go.aL
namespace Go.aL
open Go Go.ChangeShapes Go.WideShapes Go.RowKit
inductive je (P:Program):TypeId→List bd→Prop where
 |bool {t:TypeId} (b:Bool):P.underlying t=some .bool→je P t [.v (.bool b)]
 |int {t:TypeId} {k:IntKind} (n:Int):P.underlying t=some (.int k)→(Lit.int k n).wf=true→je P t [.v (.int k n)]
 |str {t:TypeId} (s:ByteArray):P.underlying t=some .string→s.size≤reachBytes→je P t [.v (.string s)]
 |slice {t e:TypeId} (es:List (List bd)):P.underlying t=some (.slice e)→es.length≤maxLen∧es.length*P.bytesOf e≤reachBytes→(∀x∈es,je P e x)→je P t [.aN (P.cellsOf e) es]
 |struct {t:TypeId} {fs:Array Field} (parts:List (List bd)):P.underlying t=some (.struct fs)→parts.length=fs.toList.length→(∀(i:Nat) (f:Field) (p:List bd),fs.toList[i]? =some f→parts[i]? =some p→je P f.type p)→je P t parts.flatten
 |array {t e:TypeId} {n:Nat} (parts:List (List bd)):P.underlying t=some (.array n e)→parts.length=n→(∀p∈parts,je P e p)→je P t parts.flatten
def sR(P:Program):Nat→TypeId→Bool
 |0,_=>false
 |n+1,t=>decide (t<P.types.size)&&match P.underlying t with
  |some .bool=>true
  |some (.int _)=>true
  |some .string=>true
  |some (.slice e)=>sR P n e
  |some (.array _ e)=>sR P n e
  |some (.struct fs)=>fs.toList.all fun f=>sR P n f.type
  |_=>false
theorem mapM_some{α β:Type}{f:α→Option β}: ∀{l:List α} {r:List β},l.mapM f=some r→r.length=l.length∧∀(i:Nat) (x:α),l[i]? =some x→∃y,f x=some y∧r[i]? =some y
 |[],r,h=>by
  simp at h;subst h;exact⟨rfl,by simp⟩
 |a::l,r,h=>by
  rw[List.mapM_cons]at h
  cases aK:f a with
  |none=>simp[aK]at h
  |some b=>
   cases ao:l.mapM f with
   |none=>simp[aK,ao]at h
   |some cx=>
    simp[aK,ao]at h;subst h;obtain⟨aa,ae⟩:=mapM_some ao;refine⟨by simp[aa],fun i x hx=>?_⟩
    cases i with
    |zero=>simp at hx;subst hx;exact⟨b,aK,rfl⟩
    |succ i=>simpa using ae i x (by simpa using hx)
section
variable {H:Type} {enc:TypeId × Value→H} {P:Program} {w:World}
abbrev lU(w:World):Nat→Prop:=fun b=>b<w.heap.size
theorem zcf{a:Addr}{c:Value}(h:w.cell? a=some c):a.block<w.heap.size:=by
 rcases Nat.lt_or_ge a.block w.heap.size with aa|aa
 ·exact aa
 ·exfalso
  have:w.heap[a.block]? =none:=Array.getElem?_eq_none aa
  simp[World.cell?,this]at h
def Fits(P:Program)(w:World)(t:TypeId)(cs:List Value):Prop:=∃rs,je P t rs∧rs.length=cs.length∧∀j r,rs[j]? =some r→dp w (lU w) r (cs.getD j undef)
theorem R0: ∀(fs:List Field) (off:Nat) (cs:List Value),(∀(j:Nat) (f:Field),fs[j]? =some f→f.offset=off+((fs.take j).map fun f=>P.cellsOf f.type).sum)→
 (∀f∈fs,Fits P w f.type ((cs.drop f.offset).take (P.cellsOf f.type)))→off+(fs.map fun f=>P.cellsOf f.type).sum≤cs.length→
 ∃parts:List (List bd),parts.length=fs.length∧(∀(i:Nat) (f:Field) (p:List bd),fs[i]? =some f→parts[i]? =some p→je P f.type p)∧parts.flatten.length=(fs.map fun f=>P.cellsOf f.type).sum∧
  ∀j r,parts.flatten[j]? =some r→dp w (lU w) r (cs.getD (off+j) undef)
 |[],off,cs,_,_,_=>⟨[],rfl,by simp,by simp,by simp⟩
 |f::fs,off,cs,an,hf,ao=>by
  have aS:f.offset=off:=by have:=an 0 f rfl;simpa using this
  obtain⟨rs,aa,ae,aq⟩:=hf f (by simp)
  simp only[List.map_cons,List.sum_cons]at ao
  have hlen:rs.length=P.cellsOf f.type:=by rw[ae,aS];simp;omega
  obtain⟨parts,g1,g2,g3,g4⟩:=R0 fs (off+P.cellsOf f.type) cs (fun j q aJ=>by
   have:=an (j+1) q (by simpa using aJ)
   simp only[List.take_succ_cons,List.map_cons,List.sum_cons]at this
   omega) (fun q aJ=>hf q (by simp[aJ])) (by omega)
  refine⟨rs::parts,by simp[g1],fun i q p aJ ak=>?_,by simp[g3,hlen],fun j r ai=>?_⟩
  ·cases i with
   |zero=>
    simp at aJ ak;subst aJ;subst ak;exact aa
   |succ i=>exact g2 i q p (by simpa using aJ) (by simpa using ak)
  ·rw[List.flatten_cons]at ai
   by_cases dP:j<rs.length
   ·rw[List.getElem?_append_left dP]at ai
    have:=aq j r ai
    have yi:j<P.cellsOf f.type:=by omega
    rw[aS]at this;simpa[List.getD,List.getElem?_take,List.getElem?_drop,yi]using this
   ·rw[List.getElem?_append_right (by omega)]at ai
    have:=g4 _ r ai
    rw[show off+P.cellsOf f.type+(j-rs.length)=off+j from by omega]at this
    exact this
theorem KQ{e:TypeId}(n:Nat): ∀(k:Nat) (Ah:Nat→List Value),(∀i,i<k→Fits P w e (Ah i)∧(Ah i).length=n)→
 ∃es:List (List bd),es.length=k∧(∀x∈es,je P e x∧x.length=n)∧∀j r,es.flatten[j]? =some r→dp w (lU w) r ((Ah (j/ n)).getD (j%n) undef)
 |0,_,_=>⟨[],rfl,by simp,by simp⟩
 |k+1,Ah,h=>by
  obtain⟨⟨rs,aa,ae,aq⟩,hn⟩:=h 0 (by omega)
  obtain⟨es,g1,g2,g3⟩:=KQ n k (fun i=>Ah (i+1)) fun i hi=>h (i+1) (by omega)
  refine⟨rs::es,by simp[g1],fun x hx=>?_,fun j r ai=>?_⟩
  ·rcases List.mem_cons.1 hx with rfl|hx
   ·exact⟨aa,by omega⟩
   ·exact g2 x hx
  ·rw[List.flatten_cons]at ai
   by_cases dP:j<rs.length
   ·rw[List.getElem?_append_left dP]at ai
    have oh:j<n:=by omega
    rw[Nat.div_eq_of_lt oh,Nat.mod_eq_of_lt oh];exact aq j r ai
   ·rw[List.getElem?_append_right (by omega)]at ai
    have:=g3 _ r ai
    have xk:0<n:=by
     rcases Nat.eq_zero_or_pos n with aS|aS
     ·exfalso
      have oj:es.flatten.length=es.length*n:=jM fun x hx=>(g2 x hx).2
      have:=(List.getElem?_eq_some_iff.1 ai).1
      rw[oj,aS]at this;simp at this
     ·exact aS
    have ay:j-rs.length=j-n:=by omega
    rw[ay]at this
    have aV:(j-n)/ n+1=j/ n:=(Nat.div_eq_sub_div xk (by omega)).symm
    have ct:(j-n)%n=j%n:=(Nat.mod_eq_sub_mod (by omega)).symm
    simp only[aV,ct]at this;exact this
theorem Ai{t:TypeId}{r:bd}{c:Value}(h:je P t [r])(af:dp w (lU w) r c):Fits P w t [c]:=
 ⟨[r],h,rfl,fun j x ai=>by
  cases j with
  |zero=>simp at ai;subst ai;exact af
  |succ j=>simp at ai⟩
theorem R1{base:Nat}{a:Addr}{n:Nat}{l:List Value}(h:w.cells? base a n=some l):l.length=n∧∀i,i<n→w.cell? (a.add i)=l[i]? :=by
 unfold World.cells? at h
 split at h
 ·obtain⟨aa,ae⟩:=mapM_some h
  refine⟨by simpa using aa,fun i hi=>?_⟩
  obtain⟨y,ax,ao⟩:=ae i i (by simp[hi])
  rw[ao,ax]
 ·cases h
theorem KR{e:TypeId}: ∀{l:List (DataW H)} {d:DataW H},d∈l→∀n∈d.weights P e,n∈DataW.weightsAll P e l
 |d0::l,d,hd,n,hn=>by
  simp only[DataW.weightsAll,List.mem_append]
  rcases List.mem_cons.1 hd with rfl|hd
  ·exact .inl hn
  ·exact .inr (KR hd n hn)
theorem DQ(K:Kids P (· < P.types.size)): ∀(m n:Nat) (t:TypeId) (cs:List Value) (x:DataW H × List MemPlace) {base:Nat} {sp:Nat→Bool} {held:Bool},sR P m t=true→
 DataW.trod enc P w base sp held n t cs=some x→(∀q∈x.1.weights P t,q≤reachBytes)→Fits P w t cs
 |0,_,_,_,_,_,_,_,ak,_,_=>by simp[sR]at ak
 |m+1,n,t,cs,x,base,sp,held,ak,h,e9=>by
  simp only[sR,Bool.and_eq_true,decide_eq_true_eq]at ak;obtain⟨dF,ak⟩:=ak
  cases hu:P.underlying t with
  |none=>rw[hu]at ak;cases ak
  |some d=>
   rw[hu]at ak
   cases d with
   |bool=>
    obtain⟨b,rfl,_⟩:=DataW.trod_bool hu h;exact Ai (.bool b hu) (.v _ rfl)
   |int k=>
    obtain⟨b,rfl,_,hw⟩:=DataW.trod_int hu h;exact Ai (.int b hu hw) (.v _ rfl)
   |string=>
    obtain⟨b,rfl,hx,hw⟩:=DataW.trod_string hu h;rw[hx]at e9;exact Ai (.str b hu (by simpa[DataW.weights]using e9)) (.v _ rfl)
   |slice e=>
    rcases DataW.trod_slice hu h with⟨rfl,_⟩|⟨a,len,cap,elems,rest,k,rfl,rfl,hx,_,hle,iN,nD,eC,_⟩
    ·exact Ai (.slice [] hu ⟨Nat.zero_le _,by simp⟩ (by simp)) (.aN _ [] none 0 (fun _=>undef) (Nat.le_refl _) (Nat.zero_le _) (by simp) (by simp) (by simp))
    ·rw[hx]at e9
     simp only[DataW.weights,hu,List.mem_cons,List.mem_append,List.length_map]at e9
     have yz:len*P.bytesOf e≤reachBytes:=Nat.le_trans (Nat.mul_le_mul_right _ (by rw[nD];exact Nat.le_add_right _ _)) (e9 _ (.inl rfl))
     have R2: ∀i,i<len→∃l,w.cells? base (a.add (i*P.cellsOf e)) (P.cellsOf e)=some l∧Fits P w e l:=by
      intro i hi
      have aa:=eC i hi
      rw[List.getElem?_eq_getElem (by omega)]at aa
      cases hc:w.cells? base (a.add (i*P.cellsOf e)) (P.cellsOf e)with
      |none=>rw[hc]at aa;cases aa
      |some l=>rw[hc]at aa;exact⟨l,rfl,DQ K m k e l _ ak aa fun q aJ=>e9 q (.inr (.inl (KR (List.mem_map_of_mem (List.getElem_mem _)) q aJ)))⟩
     obtain⟨es,g1,g2,g3⟩:=KQ (P:=P) (w:=w) (e:=e) (P.cellsOf e) len (fun i=>(w.cells? base (a.add (i*P.cellsOf e)) (P.cellsOf e)).getD []) fun i hi=>by
      obtain⟨l,aa,ae⟩:=R2 i hi;rw[aa];exact⟨ae,(R1 aa).1⟩
     have hlen:es.length=len:=g1
     refine Ai (.slice es hu ⟨by omega,by rw[hlen];exact yz⟩ fun x hx=>(g2 x hx).1) ?_
     rw[←hlen];refine .aN _ es (some a) cap (fun j=>((w.cells? base (a.add (j/ P.cellsOf e*P.cellsOf e)) (P.cellsOf e)).getD []).getD (j%P.cellsOf e) undef) (by omega) iN (fun x hx=>(g2 x hx).2) (fun _=>⟨a,rfl,fun j ai=>?_⟩) g3
     have xk:0<P.cellsOf e:=by
      rcases Nat.eq_zero_or_pos (P.cellsOf e)with aS|aS
      ·rw[aS]at ai;simp at ai
      ·exact aS
     have nI:j/ P.cellsOf e<len:=by rw[Nat.div_lt_iff_lt_mul xk];rw[hlen]at ai;exact ai
     have nH:j%P.cellsOf e<P.cellsOf e:=Nat.mod_lt _ xk
     obtain⟨l,aa,_⟩:=R2 _ nI;obtain⟨ae,aq⟩:=R1 aa
     have aT:=aq _ nH
     rw[yc,Nat.mul_comm,Nat.div_add_mod]at aT;rw[aa]
     have bD:w.cell? (a.add j)=some (l.getD (j%P.cellsOf e) undef):=by
      rw[aT]
      have:j%P.cellsOf e<l.length:=by omega
      simp[List.getD,List.getElem?_eq_getElem this]
     exact⟨by have:=zcf bD;rwa[tQ]at this,bD⟩
   |array k e=>
    obtain⟨xs,q,rfl,hx,qF,lB,eC⟩:=DataW.trod_array hu h;rw[hx]at e9;simp only[DataW.weights,hu]at e9
    obtain⟨es,g1,g2,g3⟩:=KQ (P:=P) (w:=w) (e:=e) (P.cellsOf e) k (fun i=>(cs.drop (i*P.cellsOf e)).take (P.cellsOf e)) fun i hi=>by
     have aa:=eC i hi
     rw[List.getElem?_eq_getElem (by omega)]at aa
     refine⟨DQ K m q e _ _ ak aa fun z br=>e9 z (KR (List.mem_map_of_mem (List.getElem_mem _)) z br),?_⟩
     have ae:=Nat.mul_le_mul_right (P.cellsOf e) (show i+1≤k from hi)
     rw[Nat.succ_mul]at ae
     have:=(K.array dF hu).2
     simp;omega
    refine⟨es.flatten,.array es hu g1 fun p ak=>(g2 p ak).1,?_,fun j r ai=>?_⟩
    ·rw[jM fun x hx=>(g2 x hx).2,g1,qF,(K.array dF hu).2]
    ·have:=g3 j r ai
     have dP:=(List.getElem?_eq_some_iff.1 ai).1
     have xk:0<P.cellsOf e:=by
      rcases Nat.eq_zero_or_pos (P.cellsOf e)with aS|aS
      ·rw[jM fun x hx=>(g2 x hx).2,aS]at dP;simp at dP
      ·exact aS
     have nH:j%P.cellsOf e<P.cellsOf e:=Nat.mod_lt _ xk
     have hm:j/ P.cellsOf e*P.cellsOf e+j%P.cellsOf e=j:=by rw[Nat.mul_comm];exact Nat.div_add_mod _ _
     simpa[List.getD,List.getElem?_take,List.getElem?_drop,nH,hm]using this
   |struct fs=>
    obtain⟨xs,q,rfl,hx,qF,lB,eC⟩:=DataW.trod_struct hu h;rw[hx]at e9;simp only[DataW.weights,hu]at e9;obtain⟨_,xw,yk⟩:=K.struct dF hu
    obtain⟨parts,g1,g2,g3,g4⟩:=R0 (P:=P) (w:=w) fs.toList 0 cs (fun j f hf=>by rw[yk j f hf];simp) (fun f hf=>by
     obtain⟨i,hi,rfl⟩:=List.mem_iff_getElem.1 hf
     have zcg:fs[i]? =some fs.toList[i]:=by simp at hi;simp[hi]
     have aa:=eC i _ zcg
     have Dd:i<xs.length:=by rw[lB];simpa using hi
     rw[List.getElem?_eq_getElem Dd]at aa
     rw[List.all_eq_true]at ak
     exact DQ K m q _ _ _ (ak _ (List.getElem_mem hi)) aa fun z br=>e9 z (DataW.weights_mem_each (j:=i) (by rw[List.getElem?_map,List.getElem?_eq_getElem hi];rfl) (by rw[List.getElem?_map,List.getElem?_eq_getElem Dd];rfl) z br)) (by rw[qF,xw];omega)
    exact⟨parts.flatten,.struct parts hu g1 g2,by rw[g3,qF,xw],fun j r ai=>by have:=g4 j r ai;simpa using this⟩
   |_=>cases ak
theorem zch(K:Kids P (· < P.types.size)){m:Nat}{t:TypeId}(ak:sR P m t=true){v:Value}{d:DataW H}{ps:List MemPlace}{base:Nat}{sp:Nat→Bool}{held:Bool}(h:DataW.Trod enc P w base sp held t v d ps)(e9: ∀q∈d.weights P t,q≤reachBytes):Fits P w t v.cells.toList:=by
 obtain⟨n,hn⟩:=h
 exact DQ K m n t _ _ ak hn e9
theorem Fits.agg{t:TypeId}{cs:Array Value}(h:Fits P w t cs.toList){β:Nat→Value}{N:Nat}: ∃rs,je P t rs∧bp w (lU w) [] β N (.agg (XB rs)) (.agg cs):=by
 obtain⟨rs,aa,ae,aq⟩:=h
 refine⟨rs,aa,.agg _ cs (by simpa using ae.symm) fun j x ai=>?_⟩
 rw[List.getElem?_map]at ai
 cases af:rs[j]? with
 |none=>simp[af]at ai
 |some r=>
  simp[af]at ai;subst ai
  have:=aq j r af
  exact .au _ _ (by simpa[List.getD,Array.getD_eq_getD_getElem?]using this)
theorem Fits.one{t:TypeId}{v:Value}(h:Fits P w t v.cells.toList)(av:v.cells= #[v]){β:Nat→Value}{N:Nat}: ∃r,je P t [r]∧bp w (lU w) [] β N (.au r) v:=by
 obtain⟨rs,aa,ae,aq⟩:=h
 rw[av]at ae
 match rs,ae,aa,aq with
 |[r],_,aa,aq=>
  have:=aq 0 r rfl
  rw[av]at this;exact⟨r,aa,.au _ _ (by simpa using this)⟩
def fieldTypes(P:Program)(t:TypeId):Option (List TypeId):=
 match P.underlying t with
 |some (.struct fs)=>some (fs.toList.map (·.type))
 |_=>none
def KS(P:Program)(t:TypeId):Bool:=
 match P.underlying t with
 |some .bool=>true
 |some (.int _)=>true
 |some .string=>true
 |some (.slice _)=>true
 |_=>false
theorem zci{r:Reach}{gl:Nat}{t:TypeId}{v:Value}(h:Value.okWide P w r gl t v)(ah:KS P t=true):v.cells= #[v]:=by
 unfold KS at ah
 split at ah
 ·rename_i hu
  simp only[Value.okWide,hu,Cell.okWide,Cell.ok]at h
  cases v<;>first|rfl|exact h.elim
 ·rename_i hu
  simp only[Value.okWide,hu,Cell.okWide,Cell.ok]at h
  cases v<;>first|rfl|exact h.elim
 ·rename_i hu
  simp only[Value.okWide,hu,Cell.okWide,Cell.ok]at h
  cases v<;>first|rfl|exact h.elim
 ·rename_i hu
  simp only[Value.okWide,hu,Cell.okWide,Cell.ok]at h
  cases v<;>first|rfl|exact h.elim
 ·cases ah
theorem zcj{r:Reach}{gl:Nat}{t:TypeId}{v:Value}(h:Value.okWide P w r gl t v)(ah:(fieldTypes P t).isSome=true): ∃cs,v= .agg cs:=by
 unfold fieldTypes at ah
 split at ah
 ·rename_i hu
  simp only[Value.okWide,hu]at h;obtain⟨cs,rfl,_⟩:=h;exact⟨cs,rfl⟩
 ·cases ah
theorem zck{w':World}{p:MemPlace}(ak:p.block<w.heap.size)(h: ∀b,b<w.heap.size→w'.heap[b]? =w.heap[b]?):w.sameAt w' p:=by
 cases p with
 |cell b off=>exact World.cell?_of_block (a:=⟨b,off,none⟩) (h b ak)
 |map b=>exact h b ak
theorem R3{w':World}(h: ∀b,b<w.heap.size→w'.heap[b]? =w.heap[b]?){base:Nat}{sp:Nat→Bool}{held:Bool}: ∀{ts:List TypeId} {vs:List Value} {ds:List (DataW H)} {ps:List MemPlace},DataW.TrodAll enc P w base sp held ts vs ds ps→DataW.TrodAll enc P w' base sp held ts vs ds ps
 |[],[],[],_,h=>h
 |_::_,_::_,_::_,_,⟨p,q,⟨n,hn⟩,ae,e⟩=>
  ⟨p,q,⟨n,DataW.trod_carry n _ _ _ hn fun x hx=>zck (DataW.trod_lt n _ _ _ hn x hx) h⟩,R3 h ae,e⟩
theorem zcl{w':World}{may:MemPlace→Prop}(aa:w'.os=w.os)(ae:w'.output=w.output)(h: ∀b,b<w.heap.size→w'.heap[b]? =w.heap[b]?):w.keptBut w' may:=by
 refine⟨aa,ae,fun i hi=>?_⟩
 rw[h i hi]
 cases hw:w.heap[i]? with
 |none=>rfl
 |some o=>
  cases o with
  |cells c t p3=>exact⟨rfl,rfl,rfl,fun _ _=>rfl⟩
  |map es clock=>exact .inr ⟨rfl,rfl⟩
  |_=>rfl
theorem zcm{G:aY}{f:FuncId}{fn:Func}{s:ChangeSpec}{args:Array Value}{ds gs:List (DataW H)}{before:List MemPlace}{tb:TypeId}{avs':List aD}{β:Nat→Value}
 (sS:DataW.Whole enc P fn.params.toList s.vars false w args.toList ds gs before)(av:s.vars=[])(ah:s.fn H (ds++gs)={results:=[.lit (.bool true)],args:=ds})(qJ:fn.resultTypes= #[tb])(KT:P.underlying tb=some .bool)
 (K:Kids P (· < P.types.size))(br: ∀t e,t<P.types.size→P.underlying t=some (.slice e)→0<P.cellsOf e)(zK: ∀t∈fn.params.toList,t<P.types.size)
 (hlen:args.size=avs'.length)(h7: ∀i x,avs'[i]? =some x→bp w (lU w) [] β 0 x (args.getD i undef))(x8:p2 w (lU w) G)(hc:dI P G f avs' [] 0 fun r bO=>r=ke true∧bO=[]):
 Calls P f args w fun e w'=>∃v,e= .returned v∧s.post enc P fn false true false false w args v w':=by
 refine Calls.mono (hc w β (lU w) args hlen h7 ⟨by simp[aE],by simp[aE],fun b _ ⟨_,_,ag,_⟩=>by simp[aE]at ag,fun b ad=>ad⟩ x8 (by simp[aE])) fun e w' aJ=>?_
 obtain⟨v,r,e8,dR,ro',cO,rfl,⟨rfl,rfl⟩,dk,_,aG⟩:=aJ
 obtain rfl:=bp.val dk
 have a8: ∀b,b<w.heap.size→w'.heap[b]? =w.heap[b]? :=fun b ad=>aG.frame b ad fun⟨_,_,ag,_⟩=>by simp[aE]at ag
 refine⟨_,rfl,ds,gs,before,[],before,[],sS,?_,?_,?_,zcl aG.os aG.output a8,fun h=>by cases h⟩
 ·rw[ah,qJ]
  exact trodAll_mk1 (shut_bool KT true)
 ·rw[ah]
  have bA: ∀p∈before,(fun b=>decide (b<w.heap.size)) p.block=true:=fun p ak=>by simpa using sS.lt p ak
  obtain⟨p,q,aa,ae,rfl,_⟩:=sS;rw[av]at ae
  have aJ:q=[]:=by
   cases gs with
   |nil=>exact ae
   |cons=>cases ae
  subst aJ;rw[List.append_nil]at bA⊢;exact R3 a8 (aa.respare K br zK bA)
 ·rw[ah,av]
  rfl
end
end Go.aL
namespace Go.aL
open Go Go.ChangeShapes Go.WideShapes
def xl:List (Option (List aU))→Option (List aU)
 |[]=>some []
 |none::_=>none
 |some l::r=>match xl r with
  |some m=>some (l++m)
  |none=>none
def Aj:List aU→List aU→Bool
 |[],[]=>true
 |a::l,b::m=>jr a b&&Aj l m
 |_,_=>false
theorem KU: ∀{l m:List aU},Aj l m=true→l=m
 |[],[],_=>rfl
 |[],_::_,h=>by cases h
 |_::_,[],h=>by cases h
 |a::l,b::m,h=>by
  simp only[Aj,Bool.and_eq_true]at h;rw[iz h.1,KU h.2]
def lS(P:Program)(T:List (Nat × bN)):Nat→TypeId→Option (List aU)
 |0,_=>none
 |n+1,t=>match P.underlying t with
  |some .bool=>some [.bool]
  |some (.int k)=>some [.int k]
  |some .string=>some [.str]
  |some (.slice e)=>match wK T e,lS P T n e with
   |some c,some l=>match Aj l (fh c)&&Nat.beq (P.cellsOf e) (c5 c)with
    |true=>some [.li c]
    |false=>none
   |_,_=>none
  |some (.array k e)=>xl (List.replicate k (lS P T n e))
  |some (.struct fs)=>xl (fs.toList.map fun f=>lS P T n f.type)
  |_=>none
inductive mI:aB→Prop where
 |int (k:IntKind) (x:Int):(Lit.int k x).wf=true→mI ⟨.int k,x⟩
 |bool (b:Bool):mI ⟨.bool,b⟩
 |str (s:ByteArray):s.size≤reachBytes→mI ⟨.str,s⟩
 |li (c:bN) (l:List (fZ c)):l.length≤maxLen→(∀x∈l,∀d∈mY c x,mI d)→mI ⟨.li c,l⟩
inductive ru:List (List bd)→List (List bd)→Prop where
 |nil:ru [] []
 |cons {x y:List bd} {xs ys:List (List bd)}:fR x y→ru xs ys→ru (x::xs) (y::ys)
theorem ru.flat{xs ys:List (List bd)}(h:ru xs ys):fR xs.flatten ys.flatten:=by
 induction h with
 |nil=>exact .nil
 |cons h _ aQ=>rw[List.flatten_cons,List.flatten_cons];exact h.append aQ
theorem ru.len{xs ys:List (List bd)}(h:ru xs ys):xs.length=ys.length:=by
 induction h with
 |nil=>rfl
 |cons h _ aQ=>simp[aQ]
theorem zcn{c:bN}{n:Nat}{es:List (List bd)}{l:List (fZ c)}(hn:n=c5 c)(h:ru es (l.map (cX c))):mc (.aN n es) (.li c l):=by
 subst hn
 intro w ro v af
 refine .li _ _ _ ?_
 cases af with
 |aN _ _ b cap zco aa ae aq aT bD=>
  have hlen:(l.map (cX c)).length=es.length:=h.len.symm
  rw[←hlen];refine .aN _ _ b cap zco (by omega) ae (fun e he=>?_) (fun ak=>?_) fun j y ai=>?_
  ·obtain⟨x,_,rfl⟩:=List.mem_map.1 he
   exact BW c x
  ·rw[hlen]at ak⊢
   exact aT ak
  ·obtain⟨x,hx,ah⟩:=h.flat.at.2 j y ai
   exact ah _ _ _ (bD j x hx)
section
variable {P:Program} {T:List (Nat × bN)}
theorem KV{n:Nat}(aQ: ∀{t:TypeId} {rs:List bd} {l:List aU},je P t rs→lS P T n t=some l→∃ds:List aB,ds.map aB.r=l∧fR rs (ds.map aB.au)∧∀d∈ds,mI d):
 ∀(ts:List TypeId) (parts:List (List bd)) {l:List aU},parts.length=ts.length→(∀(i:Nat) (t:TypeId) (p:List bd),ts[i]? =some t→parts[i]? =some p→je P t p)→xl (ts.map (lS P T n))=some l→
 ∃ds:List aB,ds.map aB.r=l∧fR parts.flatten (ds.map aB.au)∧∀d∈ds,mI d
 |[],parts,l,ao,_,hc=>by
  cases List.eq_nil_of_length_eq_zero ao
  cases hc;exact⟨[],rfl,.nil,by simp⟩
 |t::ts,[],l,ao,_,_=>by cases ao
 |t::ts,p::parts,l,ao,ah,hc=>by
  simp only[List.map_cons]at hc
  cases aa:lS P T n t with
  |none=>rw[aa]at hc;cases hc
  |some CI=>
   rw[aa]at hc;simp only[xl]at hc
   cases ae:xl (ts.map (lS P T n))with
   |none=>rw[ae]at hc;cases hc
   |some zc9=>
    rw[ae]at hc;cases hc;obtain⟨d1,bB,a2,a3⟩:=aQ (ah 0 t p rfl rfl) aa;obtain⟨d2,eY,gH,fX⟩:=KV aQ ts parts (by simpa using ao) (fun i t p hi ak=>ah (i+1) t p (by simpa using hi) (by simpa using ak)) ae
    refine⟨d1++d2,by simp[bB,eY],by rw[List.flatten_cons,List.map_append];exact a2.append gH,fun d hd=>?_⟩
    rcases List.mem_append.1 hd with hd|hd
    ·exact a3 d hd
    ·exact fX d hd
theorem R4{c:bN}{e:TypeId}(aQ: ∀{rs:List bd},je P e rs→∃ds:List aB,ds.map aB.r=fh c∧fR rs (ds.map aB.au)∧∀d∈ds,mI d):
 ∀(es:List (List bd)),(∀x∈es,je P e x)→∃l:List (fZ c),ru es (l.map (cX c))∧∀x∈l,∀d∈mY c x,mI d
 |[],_=>⟨[],.nil,by simp⟩
 |x::es,h=>by
  obtain⟨ds,bB,a2,a3⟩:=aQ (h x (by simp))
  obtain⟨l,eY,gH⟩:=R4 aQ es fun y ax=>h y (by simp[ax])
  have hc:mY c (oB c ds)=ds:=HI c ds bB
  refine⟨oB c ds::l,.cons (by unfold cX;rw[hc];exact a2) eY,fun y ax d hd=>?_⟩
  rcases List.mem_cons.1 ax with rfl|ax
  ·rw[hc]at hd
   exact a3 d hd
  ·exact gH y ax d hd
theorem Ak: ∀(n:Nat) {t:TypeId} {rs:List bd} {l:List aU},je P t rs→lS P T n t=some l→∃ds:List aB,ds.map aB.r=l∧fR rs (ds.map aB.au)∧∀d∈ds,mI d
 |0,_,_,_,_,h=>by cases h
 |n+1,t,rs,l,h,hf=>by
  unfold lS at hf
  cases h with
  |bool b hu=>
   rw[hu]at hf;cases hf;exact⟨[⟨.bool,b⟩],rfl,.cons (mc.refl _) .nil,fun d hd=>by cases List.mem_singleton.1 hd;exact .bool b⟩
  |int x hu hw=>
   rw[hu]at hf;cases hf;exact⟨[⟨.int _,x⟩],rfl,.cons (mc.refl _) .nil,fun d hd=>by cases List.mem_singleton.1 hd;exact .int _ _ hw⟩
  |str s hu hw=>
   rw[hu]at hf;cases hf;exact⟨[⟨.str,s⟩],rfl,.cons (mc.refl _) .nil,fun d hd=>by cases List.mem_singleton.1 hd;exact .str _ hw⟩
  |slice es hu ao hw=>
   rw[hu]at hf;simp only at hf
   split at hf
   ·rename_i c CI _ ae
    split at hf
    ·rename_i hc
     cases hf;simp only[Bool.and_eq_true]at hc
     have aq:=KU hc.1
     subst aq;obtain⟨l,bB,a2⟩:=R4 (c:=c) (fun hx=>Ak n hx ae) es hw;refine⟨[⟨.li c,l⟩],rfl,.cons (zcn (Nat.eq_of_beq_eq_true hc.2) bB) .nil,fun d hd=>?_⟩
     cases List.mem_singleton.1 hd
     exact .li _ _ (by have:=bB.len;rw[List.length_map]at this;have:=ao.1;omega) a2
    ·cases hf
   ·cases hf
  |struct parts hu aa ae=>
   rw[hu]at hf;simp only at hf;rename_i fs
   have hm:(fs.toList.map fun f=>lS P T n f.type)=(fs.toList.map (·.type)).map (lS P T n):=by rw[List.map_map];rfl
   rw[hm]at hf
   obtain⟨ds,bB,a2,a3⟩:=KV (fun hx ax=>Ak n hx ax) _ parts (by rw[List.length_map];exact aa) (fun i u p hi ak=>by
    rw[List.getElem?_map]at hi
    cases KW:fs.toList[i]? with
    |none=>rw[KW]at hi;cases hi
    |some f=>
     rw[KW]at hi;cases hi
     exact ae i f p KW ak) hf
   exact⟨ds,bB,a2,a3⟩
  |array parts hu aa ae=>
   rw[hu]at hf;simp only at hf;rename_i e k
   have hm:List.replicate k (lS P T n e)=(List.replicate k e).map (lS P T n):=by rw[List.map_replicate]
   rw[hm]at hf
   obtain⟨ds,bB,a2,a3⟩:=KV (fun hx ax=>Ak n hx ax) _ parts (by rw[List.length_replicate];exact aa) (fun i u p hi ak=>by
    have:=List.mem_of_getElem? hi
    cases (List.mem_replicate.1 this).2
    exact ae p (List.mem_of_getElem? ak)) hf
   exact⟨ds,bB,a2,a3⟩
def KX(P:Program)(T:List (Nat × bN))(t:TypeId):Option aU:=
 match(fieldTypes P t).isSome with
 |true=>match wK T t,lS P T 20 t with
  |some c,some l=>match Aj l (fh c)with
   |true=>some (.st c)
   |false=>none
  |_,_=>none
 |false=>match KS P t,lS P T 20 t with
  |true,some [r]=>match r.one with
   |true=>some r
   |false=>none
  |_,_=>none
def DR(P:Program)(T:List (Nat × bN)):List TypeId→Option (List aU)
 |[]=>some []
 |t::ts=>match sR P 20 t,KX P T t,DR P T ts with
  |true,some r,some rs=>some (r::rs)
  |_,_,_=>none
def xm(d:aB):Prop:=
 match d with
 |⟨.st c,x⟩=>∀q∈mY c x,mI q
 |d=>mI d
variable {H:Type} {enc:TypeId × Value→H} {w:World}
theorem zcp{β:Nat→Value}{t:TypeId}{v:Value}{r:aU}{reach:Reach}{gl:Nat}(hf:Fits P w t v.cells.toList)(av:Value.okWide P w reach gl t v)(h:KX P T t=some r): ∃x:r.den,bp w (lU w) [] β 0 (aB.fj ⟨r,x⟩) v∧xm ⟨r,x⟩:=by
 unfold KX at h
 split at h
 ·rename_i ah
  split at h
  ·rename_i c l _ ao
   split at h
   ·rename_i hc
    cases h;obtain rfl:=KU hc;obtain⟨cs,rfl⟩:=zcj av ah;obtain⟨rs,g1,g2⟩:=Fits.agg (P:=P) (w:=w) (cs:=cs) hf (β:=β) (N:=0);obtain⟨ds,bB,a2,a3⟩:=Ak 20 g1 ao
    have hc:mY c (oB c ds)=ds:=HI c ds bB
    refine⟨oB c ds,?_,fun q aJ=>a3 q (by rw[←hc];exact aJ)⟩
    have uS:aB.fj ⟨.st c,oB c ds⟩= .agg ((ds.map aB.au).map .au):=by
     show aD.agg ((cX c (oB c ds)).map .au)=_;unfold cX;rw[hc]
    rw[uS];exact(fR.fj a2).agg _ _ _ _ _ _ g2
   ·cases h
  ·cases h
 ·split at h
  ·rename_i er an ao
   split at h
   ·rename_i aa
    cases h;obtain⟨y,g1,g2⟩:=Fits.one (P:=P) (w:=w) hf (zci av an) (β:=β) (N:=0);obtain⟨ds,bB,a2,a3⟩:=Ak 20 g1 ao;obtain⟨d,oD,rfl,rfl,hn⟩:=lI bB
    cases mb hn
    cases a2 with
    |cons ah _=>
     have dH:=RA aa
     refine⟨d.v,?_,?_⟩
     ·show bp w (lU w) [] β 0 (aB.fj d) v
      have:aB.fj d= .au d.au:=Rz (x:=d.v) dH
      rw[this];exact ah.fj _ _ _ _ _ _ g2
     ·have:=a3 d (List.mem_singleton.2 rfl)
      unfold xm
      split
      ·rename_i c x heq
       exact absurd (congrArg aB.r heq) (dH c)
      ·exact this
   ·cases h
  ·cases h
theorem R5(K:Kids P (· < P.types.size)){β:Nat→Value}{base gl:Nat}{sp:Nat→Bool}{held:Bool}{reach:Reach}: ∀{ts:List TypeId} {vs:List Value} {ds:List (DataW H)} {ps:List MemPlace} {rs:List aU},DataW.TrodAll enc P w base sp held ts vs ds ps→DR P T ts=some rs→
 (∀q∈DataW.weightsEach P ts ds,q≤reachBytes)→(∀(j:Nat) t v,ts[j]? =some t→vs[j]? =some v→Value.okWide P w reach gl t v)→
 ds.length=ts.length∧∃dl:List aB,dl.map aB.r=rs∧dl.length=vs.length∧(∀(j:Nat) x,(dl.map aB.fj)[j]? =some x→∃v,vs[j]? =some v∧bp w (lU w) [] β 0 x v)∧∀d∈dl,xm d
 |[],vs,ds,ps,rs,h,ak,_,_=>by
  obtain⟨rfl,rfl,rfl⟩:=trodAll_nil h;cases ak;exact⟨rfl,[],rfl,rfl,by simp,by simp⟩
 |t::ts,vs,ds,ps,rs,h,ak,hw,an=>by
  obtain⟨v,zda,d,oD,p,q,rfl,rfl,rfl,aa,ae⟩:=trodAll_cons h;unfold DR at ak
  split at ak
  ·rename_i r zdb pj af qQ
   cases ak;obtain⟨g0,dl,g1,g2,g3,g4⟩:=R5 K ae qQ (fun q aJ=>hw q (by rw[DataW.weightsEach];exact List.mem_append_right _ aJ)) fun j bs bu ai se=>an (j+1) bs bu (by simpa using ai) (by simpa using se)
   obtain⟨x,bB,a2⟩:=zcp (β:=β) (zch K pj aa fun q aJ=>hw q (by rw[DataW.weightsEach];exact List.mem_append_left _ aJ)) (an 0 t v rfl rfl) af
   refine⟨by simp[g0],⟨r,x⟩::dl,by simp[g1],by simp[g2],fun j y ai=>?_,fun d hd=>?_⟩
   ·cases j with
    |zero=>simp at ai;subst ai;exact⟨v,rfl,bB⟩
    |succ j=>simpa using g3 j y (by simpa using ai)
   ·rcases List.mem_cons.1 hd with rfl|hd
    ·exact a2
    ·exact g4 d hd
  ·cases ak
theorem zcq{G:aY}{f:FuncId}{fn:Func}{s:ChangeSpec}{args:Array Value}{ds gs:List (DataW H)}{before:List MemPlace}{tb:TypeId}{gl:Nat}{reach:Reach}{m:aW}
 (sS:DataW.Whole enc P fn.params.toList s.vars false w args.toList ds gs before)(av:s.vars=[])(ah: ∀ds:List (DataW H),ds.length=fn.params.toList.length→s.fn H ds={results:=[.lit (.bool true)],args:=ds})
 (e9:(DataW.weightsEach P (fn.params.toList++s.plain.varTypes P) (ds++gs)).all (· ≤reachBytes)=true)(yI: ∀(j:Nat) t v,fn.params[j]? =some t→args[j]? =some v→Value.okWide P w reach gl t v)
 (zcr:s.plain.varTypes P=[])(qJ:fn.resultTypes= #[tb])(KT:P.underlying tb=some .bool)(K:Kids P (· < P.types.size))(br: ∀t e,t<P.types.size→P.underlying t=some (.slice e)→0<P.cellsOf e)(zK: ∀t∈fn.params.toList,t<P.types.size)
 (qO:DR P T fn.params.toList=some m.ps)(x8:p2 w (lU w) G)(hc:cp P G f m)(hm: ∀x,(∀d∈dj m.ps x,xm d)→mn m.pre x∧ll m.rs (m.m x)=ke true):
 Calls P f args w fun e w'=>∃v,e= .returned v∧s.post enc P fn false true false false w args v w':=by
 have zcs:=sS
 obtain⟨p,q,cV,R6,rfl,_,_⟩:=sS
 rw[av]at R6
 obtain⟨rfl,rfl⟩:=trodVars_none R6
 rw[zcr,List.append_nil,List.append_nil]at e9
 obtain⟨nI,dl,bB,a2,a3,a4⟩:=R5 (T:=T) (β:=fun _=>undef) K cV qO (fun q aJ=>by simpa using List.all_eq_true.1 e9 q aJ) fun j t v ai se=>yI j t v (by simpa using ai) (by simpa using se)
 have Af:dj m.ps (bZ m.ps dl)=dl:=xf bB
 obtain⟨zct,af⟩:=hm (bZ m.ps dl) (by rw[Af];exact a4)
 have gO:=(hc (bZ m.ps dl) zct).frame (σ:=[]) (n:=0) (DA _) fun r bO af=>by rw[af];exact Ko
 refine zcm (β:=fun _=>undef) zcs av (by rw[List.append_nil];exact ah ds nI) qJ KT K br zK (avs':=nn m.ps (bZ m.ps dl)) ?_ (fun i x hx=>?_) x8 (gO.res fun r bO ⟨aa,_,ae⟩=>⟨ae.trans af,aa⟩)
 ·unfold nn
  rw[Af,List.length_map,a2];exact Array.length_toList.symm
 ·unfold nn at hx
  rw[Af]at hx;obtain⟨v,aa,ae⟩:=a3 i x hx
  have:args.getD i undef=v:=by
   have vO:args[i]? =some v:=by simpa using aa
   rw[Array.getD_eq_getD_getElem?,vO];rfl
  rw[this];exact ae
end
end Go.aL
namespace Go.aL
open Go
def p1:List (Nat × bC)→Nat→List (Nat × bC)
 |[],_=>[]
 |(k,x)::r,id=>match Nat.beq k id with
  |true=>p1 r id
  |false=>(k,x)::p1 r id
theorem KY{G:aY}{e:Env}{id:Nat}: ∀(h:List (Nat × bC)),cK G e (p1 h id)=fP (cK G e h) id
 |[]=>rfl
 |(k,x)::r=>by
  simp only[p1,cK,fP]
  by_cases aj:k=id
  ·subst aj
   simp only[Nat.beq_refl,if_true];exact KY r
  ·have:Nat.beq k id=false:=by cases aJ:Nat.beq k id with|true=>exact absurd (Nat.eq_of_beq_eq_true aJ) aj|false=>rfl
   simp only[this,if_neg aj,cK,KY r]
theorem KZ{k id:Nat}: ∀{h:List (Nat × bC)},eF k h=true→eF k (p1 h id)=true
 |[],h=>h
 |(j,x)::r,h=>by
  have a8:x.lt k=true∧eF k r=true:=by cases x<;>simpa only[eF,Bool.and_eq_true]using h
  simp only[p1]
  split
  ·exact KZ a8.2
  ·show(x.lt k&&eF k (p1 r id))=true
   rw[a8.1,KZ a8.2];rfl
def K0(uY sT t5:Nat)(inl:Nat→List ab→ar→az)(f:Nat)(as:List ab)(S:ar):az:=
 match Nat.beq f uY,as with
 |true,[.dz id 0]=>match dm S.h id with
  |some (.c8 t [x0,.aN r])=>match dm S.h r with
   |some (.rw bs .u8 x)=>match(Nat.beq t sT&&Nat.beq bs t5)&&(x.fz (.li .u8)&&x.lt S.k)with
    |true=>emit S.k [.f1 .cx x] [] (.cr .b5 ⟨a1.put .emp 0 (.bg .str S.k),p1 S.h r,S.n,S.k+1,S.g⟩)
    |false=>inl f as S
   |_=>inl f as S
  |some (.c8 t [x0,.cs (.slice none 0 0)])=>match Nat.beq t sT with
   |true=>.cr .b5 ⟨a1.put .emp 0 (.cs (.string ⟨#[]⟩)),S.h,S.n,S.k,S.g⟩
   |false=>inl f as S
  |_=>inl f as S
 |_,_=>inl f as S
section
variable {P:Program} {G:aY} {M:List aW} {inl:Nat→List ab→ar→az} {uY sT t5:Nat}
def x7(P:Program)(G:aY)(uY sT t5:Nat):Prop:=
 (∀{σ:bz} {n rid id:Nat} {x0:aD} {l:List Int},aE σ id=some (.box sT [x0,.aN rid])→aE σ rid=some (.row false t5 1 (l.map fun z=>[.v (.int .u8 z)]))→
  dI P G uY [.ptr id 0] σ n fun r bO=>r= .au (.v (.string (bytesOf l)))∧bO=fP σ rid)∧
 ∀{σ:bz} {n id:Nat} {x0:aD},aE σ id=some (.box sT [x0,.au (.v (.slice none 0 0))])→dI P G uY [.ptr id 0] σ n fun r bO=>r= .au (.v (.string ⟨#[]⟩))∧bO=σ
theorem zcu(cV:x7 P G uY sT t5)(ch:gI P G M inl):gI P G M (K0 uY sT t5 inl):=fun f as S e ad ao hf ah=>by
 unfold K0 at ah⊢
 split at ah
 rotate_left
 ·exact ch _ _ S e ad ao hf ah
 rename_i id zcv
 have aR:=Nat.eq_of_beq_eq_true zcv
 subst aR
 split at ah
 ·rename_i t x0 r ag
  split at ah
  rotate_left
  ·exact ch _ _ S e ad ao hf ah
  rename_i bs x zcw
  split at ah
  rotate_left
  ·exact ch _ _ S e ad ao hf ah
  rename_i aj;simp only[Bool.and_eq_true]at aj;obtain⟨⟨fD,iv⟩,wo,DJ⟩:=aj
  have fD:=Nat.eq_of_beq_eq_true fD
  have iv:=Nat.eq_of_beq_eq_true iv
  subst fD iv
  have uV:gR S.k [bQ.f1 .cx x]=true:=by
   simp only[gR,bQ.lt,DJ,Bool.and_self]
  have bF:bX S.k e (c1 M e S.k [bQ.f1 .cx x]):=jx (Nat.le_refl _)
  have eC:=iY (M:=M) (e:=e) uV 0 _ rfl
  have zcx:x.aH (c1 M e S.k [bQ.f1 .cx x]) (.li .u8)=x.aH e (.li .u8):=fl bF DJ
  simp only[Nat.add_zero,bQ.den,eQ.den,eQ.a,zcx]at eC
  have pX:=cV.1 (σ:=cK G e S.h) (n:=S.n) (rid:=r) (id:=id) (x0:=x0.den G e) (l:=x.aH e (.li .u8)) (by rw[eN,ag];rfl) (by rw[eN,zcw];rfl)
  refine pX.res fun zcy bO ⟨aa,ae⟩=>⟨⟨a1.put .emp 0 (.bg .str S.k),p1 S.h r,S.n,S.k+1,S.g⟩,c1 M e S.k [bQ.f1 .cx x],by rw[lN];rfl,?_,?_,?_,ie bF ad.g hf,bF,Nat.le_succ _⟩
  ·rw[aa]
   show _=ab.den G _ (ar.at _ 0);unfold ar.at
   simp only[a1.jV,if_true,ab.den,ab.dyn,eC];rfl
  ·rw[ae]
   show _=cK G _ (p1 S.h r);rw[KY,y3 bF ad.h]
  ·refine⟨fun i y hi=>?_,KZ (uy (Nat.le_succ _) ad.h),oJ (Nat.le_succ _) ad.g⟩
   simp only[a1.jV]at hi
   split at hi
   ·cases hi
    exact jG (Nat.lt_succ_self _)
   ·simp[a1.get]at hi
 ·rename_i t x0 ag
  split at ah
  rotate_left
  ·exact ch _ _ S e ad ao hf ah
  rename_i fD
  have fD:=Nat.eq_of_beq_eq_true fD
  subst fD
  have pX:=cV.2 (σ:=cK G e S.h) (n:=S.n) (id:=id) (x0:=x0.den G e) (by rw[eN,ag];rfl)
  refine pX.res fun zcy bO ⟨aa,ae⟩=>⟨⟨a1.put .emp 0 (.cs (.string ⟨#[]⟩)),S.h,S.n,S.k,S.g⟩,e,rfl,?_,?_,?_,hf,bX.refl _ _,Nat.le_refl _⟩
  ·rw[aa]
   show _=ab.den G _ (ar.at _ 0);unfold ar.at
   simp only[a1.jV,if_true,ab.den]
  ·rw[ae]
  ·refine⟨fun i y hi=>?_,ad.h,ad.g⟩
   simp only[a1.jV]at hi
   split at hi
   ·cases hi
    rfl
   ·simp[a1.get]at hi
 ·exact ch _ _ S e ad ao hf ah
end
end Go.aL
namespace Go.aL
open Go
def Bs(P:Program)(H:oc)(T:List (Nat × bN))(Z:Nat × Nat × Nat)(B:List jK)(C:List hR):Nat→Nat→List ab→ar→az
 |0=>fun _ _ _=>.bad 40
 |n+1=>JH P H T (K0 Z.1 Z.2.1 Z.2.2 (KB B (Kn C (Bs P H T Z B C n))))
section
variable {P:Program} {G:aY} {M:List aW}
theorem Fj{Z:Nat × Nat × Nat}{B:List jK}{C:List hR}{H:oc}{T:List (Nat × bN)}(uQ:JI P G M H)(Dg:x7 P G Z.1 Z.2.1 Z.2.2)(fV:GM P G M B)(mw:po P G M C): ∀n,gI P G M (Bs P H T Z B C n)
 |0=>fun _ _ _ _ _ _ _ h=>h.elim
 |n+1=>zaA uQ (zcu Dg (zbQ fV (zbA mw (Fj uQ Dg fV mw n))))
end
end Go.aL
namespace Go.aL
open Go
def nW(n:Nat)(b:Bool)(f:bR→Bool)(x:bR):Bool:=
 match x.bG n with
 |true=>b
 |false=>f x
def rv(n:Nat)(b:Bool)(f:bR→Bool)(x:bR):Bool:=
 match x.cF n with
 |true=>b
 |false=>f x
def az.eK:az→(bR→Bool)→Bool
 | .cr x _,f=>f x
 | .lt _ _ t,f=>t.eK f
 | .eH _ _,_=>false
 | .it _ a b,f=>a.eK f&&b.eK f
 | .dn n a _ k,f=>a.eK (nW n (k.eK f) f)
 | .dY m xid _ _ _ a k,f=>k.eK f&&a.eK (nW m true (rv xid true f))
 | .eE _ _ _ _ _,_=>false
 | .bad _,_=>false
def az.hL(M:List aW):az→Env→(bR→Bool)→(bR→ar→Env→Prop)→Prop
 | .cr x S,e,_,Q=>Q x S e
 | .lt i x t,e,f,Q=>t.hL M (a1.put e i (x.den M e)) f Q
 | .eH n t,e,f,Q=>match t.eK f with
  |true=>n.ok M e
  |false=>n.ok M e∧t.hL M e f Q
 | .it g a b,e,f,Q=>match a.eK f,b.eK f with
  |true,true=>True
  |true,false=>g.aH e .bool=false→b.hL M e f Q
  |false,true=>g.aH e .bool=true→a.hL M e f Q
  |false,false=>(g.aH e .bool=true→a.hL M e f Q)∧(g.aH e .bool=false→b.hL M e f Q)
 | .dn n a ps k,e,f,Q=>a.hL M e (nW n (k.eK f) f) fun x S aw=>bif x.bG n then k.hL M (fv e (fun r p=>⟨r,(p.c0 S).get aw r⟩) ps) f Q else Q x S aw
 | .dY m xid c7 bS ca a k,e,f,Q=>match k.eK f with
  |true=>∃I:Nat→bL ca→Prop,I 0 (bZ _ (dt e ca))∧∀(i:Nat) (v:bL ca),i<(cc (c7.den M e)).toNat→I i v→
   a.hL M (ba (a1.put e bS ⟨.int .i64,(i:Int)⟩) ca v) (nW m false (rv xid true f)) fun x S aw=>bif x.bG m then I (i+1) (bZ _ (fa S aw ca))else bif x.cF xid then True else Q x S aw
  |false=>∃I:Nat→bL ca→Prop,I 0 (bZ _ (dt e ca))∧(∀(i:Nat) (v:bL ca),i<(cc (c7.den M e)).toNat→I i v→
   a.hL M (ba (a1.put e bS ⟨.int .i64,(i:Int)⟩) ca v) (nW m false (rv xid false f)) fun x S aw=>bif x.bG m then I (i+1) (bZ _ (fa S aw ca))else bif x.cF xid then k.hL M (ba e ca (bZ _ (fa S aw ca))) f Q else Q x S aw)∧
   ∀v,I (cc (c7.den M e)).toNat v→k.hL M (ba e ca v) f Q
 | .eE m xid ca a k,e,f,Q=>∃(I:bL ca→Prop) (jd:bL ca→Nat),I (bZ _ (dt e ca))∧jd (bZ _ (dt e ca))<cu∧∀(v:bL ca),I v→
  a.hL M (ba e ca v) (nW m false (rv xid (k.eK f) f)) fun x S aw=>bif x.bG m then I (bZ _ (fa S aw ca))∧jd (bZ _ (fa S aw ca))<jd v else bif x.cF xid then k.hL M (ba e ca (bZ _ (fa S aw ca))) f Q else Q x S aw
 | .bad _,_,_,_=>False
section
variable {M:List aW}
def kb(f:bR→Bool)(Q:bR→ar→Env→Prop):Prop:=∀x,f x=true→∀S e,Q x S e
theorem kb.dn{f:bR→Bool}{Q R:bR→ar→Env→Prop}{n:Nat}{b:Bool}(h:kb f R)(ad:b=true→∀x S e,x.bG n=true→Q x S e)(af: ∀x S e,x.bG n=false→R x S e→Q x S e):kb (nW n b f) Q:=fun x hx S e=>by
 unfold nW at hx
 cases ai:x.bG n with
 |true=>rw[ai]at hx;exact ad hx x S e ai
 |false=>rw[ai]at hx;exact af x S e ai (h x hx S e)
theorem kb.DS{f:bR→Bool}{Q R:bR→ar→Env→Prop}{n:Nat}{b:Bool}(h:kb f R)(ad:b=true→∀x S e,x.cF n=true→Q x S e)(af: ∀x S e,x.cF n=false→R x S e→Q x S e):kb (rv n b f) Q:=fun x hx S e=>by
 unfold rv at hx
 cases ai:x.cF n with
 |true=>rw[ai]at hx;exact ad hx x S e ai
 |false=>rw[ai]at hx;exact af x S e ai (h x hx S e)
theorem kc: ∀(t:az) {e:Env} {f:bR→Bool} {Q:bR→ar→Env→Prop},kb f Q→t.eK f=true→t.wp M e Q
 | .cr x S,e,_,_,h,c=>h x c S e
 | .lt _ _ t,_,_,_,h,c=>kc t h c
 | .eH _ _,_,_,_,_,c=>by cases c
 | .it _ a b,_,_,_,h,c=>by
  simp only[az.eK,Bool.and_eq_true]at c;exact⟨fun _=>kc a h c.1,fun _=>kc b h c.2⟩
 | .dn n a ps k,e,f,Q,h,c=>kc a (kb.dn h (fun ad x S aw ai=>by rw[ai];exact kc k h ad) (fun x S aw ai aJ=>by rw[ai];exact aJ)) c
 | .dY m xid c7 bS ca a k,e,f,Q,h,c=>by
  simp only[az.eK,Bool.and_eq_true]at c;refine⟨fun _ _=>True,trivial,fun i v _ _=>kc a (kb.dn (kb.DS h (Q:=fun x S aw=>bif x.cF xid then k.wp M (ba e ca (bZ _ (fa S aw ca))) Q else Q x S aw) (fun _ x S aw ai=>by rw[ai];exact kc k h c.1) (fun x S aw ai aJ=>by rw[ai];exact aJ)) (fun _ x S aw ai=>by rw[ai];trivial) (fun x S aw ai aJ=>by rw[ai];exact aJ)) c.2,fun v _=>kc k h c.1⟩
 | .eE _ _ _ _ _,_,_,_,_,c=>by cases c
 | .bad _,_,_,_,_,c=>by cases c
theorem kd: ∀(t:az) {e:Env} {f:bR→Bool} {Q R:bR→ar→Env→Prop},(∀x S aw,Q x S aw→R x S aw)→t.hL M e f Q→t.hL M e f R
 | .cr _ _,_,_,_,_,h,q=>h _ _ _ q
 | .lt _ _ t,_,_,_,_,h,q=>kd t h q
 | .eH n t,e,f,Q,R,h,q=>by
  simp only[az.hL]at q⊢
  cases hc:t.eK f with
  |true=>rw[hc]at q;exact q
  |false=>rw[hc]at q;exact⟨q.1,kd t h q.2⟩
 | .it g a b,e,f,Q,R,h,q=>by
  simp only[az.hL]at q⊢
  cases aK:a.eK f<;>cases ad:b.eK f<;>rw[aK,ad]at q<;>simp only at q⊢
  ·exact⟨fun ag=>kd a h (q.1 ag),fun ag=>kd b h (q.2 ag)⟩
  ·exact fun ag=>kd a h (q ag)
  ·exact fun ag=>kd b h (q ag)
 | .dn n a ps k,e,f,Q,R,h,q=>kd a (fun x S aw r=>by
  cases hx:x.bG n with
  |true=>rw[hx]at r;exact kd k h r
  |false=>rw[hx]at r;exact h _ _ _ r) q
 | .dY m xid c7 bS ca a k,e,f,Q,R,h,q=>by
  simp only[az.hL]at q⊢
  cases hc:k.eK f with
  |true=>
   rw[hc]at q;obtain⟨I,aa,ae⟩:=q;refine⟨I,aa,fun i v hi av=>kd a (fun x S aw r=>?_) (ae i v hi av)⟩
   cases hx:x.bG m with
   |true=>rw[hx]at r;exact r
   |false=>
    rw[hx]at r
    cases ax:x.cF xid with
    |true=>trivial
    |false=>rw[ax]at r;exact h _ _ _ r
  |false=>
   rw[hc]at q;obtain⟨I,aa,ae,aq⟩:=q;refine⟨I,aa,fun i v hi av=>kd a (fun x S aw r=>?_) (ae i v hi av),fun v av=>kd k h (aq v av)⟩
   cases hx:x.bG m with
   |true=>rw[hx]at r;exact r
   |false=>
    rw[hx]at r
    cases ax:x.cF xid with
    |true=>rw[ax]at r;exact kd k h r
    |false=>rw[ax]at r;exact h _ _ _ r
 | .eE m xid ca a k,e,f,Q,R,h,q=>by
  obtain⟨I,jd,aa,ae,aq⟩:=q;refine⟨I,jd,aa,ae,fun v av=>kd a (fun x S aw r=>?_) (aq v av)⟩
  cases hx:x.bG m with
  |true=>rw[hx]at r;exact r
  |false=>
   rw[hx]at r
   cases ax:x.cF xid with
   |true=>rw[ax]at r;exact kd k h r
   |false=>rw[ax]at r;exact h _ _ _ r
 | .bad _,_,_,_,_,_,q=>q.elim
theorem lT: ∀(t:az) {e:Env} {f:bR→Bool} {Q:bR→ar→Env→Prop},kb f Q→t.hL M e f Q→t.wp M e Q
 | .cr _ _,_,_,_,_,q=>q
 | .lt _ _ t,_,_,_,h,q=>lT t h q
 | .eH n t,e,f,Q,h,q=>by
  simp only[az.hL]at q
  cases hc:t.eK f with
  |true=>rw[hc]at q;exact⟨q,kc t h hc⟩
  |false=>rw[hc]at q;exact⟨q.1,lT t h q.2⟩
 | .it g a b,e,f,Q,h,q=>by
  simp only[az.hL]at q
  cases aK:a.eK f<;>cases ad:b.eK f<;>rw[aK,ad]at q<;>simp only at q
  ·exact⟨fun ag=>lT a h (q.1 ag),fun ag=>lT b h (q.2 ag)⟩
  ·exact⟨fun ag=>lT a h (q ag),fun _=>kc b h ad⟩
  ·exact⟨fun _=>kc a h aK,fun ag=>lT b h (q ag)⟩
  ·exact⟨fun _=>kc a h aK,fun _=>kc b h ad⟩
 | .dn n a ps k,e,f,Q,h,q=>by
  refine lT a (f:=nW n (k.eK f) f) (kb.dn h (fun ad x S aw ai=>?_) (fun x S aw ai aJ=>by rw[ai];exact aJ)) ?_
  ·rw[ai];exact kc k h ad
  ·exact kd a (fun x S aw r=>by
    cases hx:x.bG n with
    |true=>rw[hx]at r;exact lT k h r
    |false=>rw[hx]at r;exact r) q
 | .dY m xid c7 bS ca a k,e,f,Q,h,q=>by
  simp only[az.hL]at q
  cases hc:k.eK f with
  |true=>
   rw[hc]at q;obtain⟨I,aa,ae⟩:=q;refine⟨I,aa,fun i v hi av=>?_,fun v _=>kc k h hc⟩
   refine lT a (f:=nW m false (rv xid true f)) (kb.dn (kb.DS h (Q:=fun x S aw=>bif x.cF xid then k.wp M (ba e ca (bZ _ (fa S aw ca))) Q else Q x S aw) (fun _ x S aw ai=>by rw[ai];exact kc k h hc) (fun x S aw ai aJ=>by rw[ai];exact aJ)) (fun ad=>by cases ad) (fun x S aw ai aJ=>by rw[ai];exact aJ)) ?_
   refine kd a (fun x S aw r=>?_) (ae i v hi av)
   cases hx:x.bG m with
   |true=>rw[hx]at r;exact r
   |false=>
    rw[hx]at r
    cases ax:x.cF xid with
    |true=>exact kc k h hc
    |false=>rw[ax]at r;exact r
  |false=>
   rw[hc]at q;obtain⟨I,aa,ae,aq⟩:=q;refine⟨I,aa,fun i v hi av=>?_,fun v av=>lT k h (aq v av)⟩
   refine lT a (f:=nW m false (rv xid false f)) (kb.dn (kb.DS h (Q:=fun x S aw=>bif x.cF xid then k.wp M (ba e ca (bZ _ (fa S aw ca))) Q else Q x S aw) (fun ad=>by cases ad) (fun x S aw ai aJ=>by rw[ai];exact aJ)) (fun ad=>by cases ad) (fun x S aw ai aJ=>by rw[ai];exact aJ)) ?_
   refine kd a (fun x S aw r=>?_) (ae i v hi av)
   cases hx:x.bG m with
   |true=>rw[hx]at r;exact r
   |false=>
    rw[hx]at r
    cases ax:x.cF xid with
    |true=>rw[ax]at r;exact lT k h r
    |false=>rw[ax]at r;exact r
 | .eE m xid ca a k,e,f,Q,h,q=>by
  obtain⟨I,jd,aa,ae,aq⟩:=q;refine⟨I,jd,aa,ae,fun v av=>?_⟩
  refine lT a (f:=nW m false (rv xid (k.eK f) f)) (kb.dn (kb.DS h (Q:=fun x S aw=>bif x.cF xid then k.wp M (ba e ca (bZ _ (fa S aw ca))) Q else Q x S aw) (fun ad x S aw ai=>by rw[ai];exact kc k h ad) (fun x S aw ai aJ=>by rw[ai];exact aJ)) (fun ad=>by cases ad) (fun x S aw ai aJ=>by rw[ai];exact aJ)) ?_
  refine kd a (fun x S aw r=>?_) (aq v av)
  cases hx:x.bG m with
  |true=>rw[hx]at r;exact r
  |false=>
   rw[hx]at r
   cases ax:x.cF xid with
   |true=>rw[ax]at r;exact lT k h r
   |false=>rw[ax]at r;exact r
 | .bad _,_,_,_,_,q=>q.elim
end
def vz(M:List aW)(t:az)(e:Env):Prop:=t.hL M e (fun _=>true) fun _ _ _=>True
theorem K1{M:List aW}{t:az}{e:Env}(h:vz M t e):t.wp M e fun _ _ _=>True:=lT t (fun _ _ _ _=>trivial) h
section
variable {P:Program} {G:aY} {M:List aW} {inl:Nat→List ab→ar→az}
theorem dG(ch:gI P G M inl){f:Nat}{m:aW}(t:az)(aG:inl f (hj 0 m.ps) (qz m.ps.length)=t)(he:t.gv.all (xh m.rs)=true)
 (ah: ∀x,vz M t (fY 0 (dj m.ps x))=mn m.pre x)(hm: ∀x,vA M t m.rs (fY 0 (dj m.ps x))=m.m x):cp P G f m:=
 zbH ch t aG he (fun x hx=>K1 (by rw[ah x];exact hx)) hm
theorem Vv(ch:gI P G M inl){f:Nat}{m:aW}(t:az)(aG:inl f (hj 0 m.ps) (qz m.ps.length)=t)(he:t.gv.all (xh m.rs)=true)
 (ah: ∀x,mn m.pre x→vz M t (fY 0 (dj m.ps x)))(hm: ∀x,mn m.pre x→vA M t m.rs (fY 0 (dj m.ps x))=m.m x):cp P G f m:=
 Kz ch t aG he (fun x hx=>(ka t (K1 (ah x hx))).1) fun x hx=>by rw[←hm x hx];exact(mm t _ _ _).symm
theorem rV(ch:gI P G M inl){f:Nat}{t:TypeId}{c:bN}{ps rs:List aU}{pre:Option ((e2 (.st c::ps)).den→Prop)}{nV:(e2 (.st c::ps)).den→(e2 (.st c::rs)).den}(T:az)(aG:inl f (.dz 0 0::hj 1 ps) (sQ t c ps.length)=T)
 (he:T.gv.all (KP t c rs)=true)(ah: ∀x,vz M T (fY 0 (dj (.st c::ps) x))=mn pre x)(hm: ∀x,DO M T t c rs (fY 0 (dj (.st c::ps) x))=nV x):iL P G f t ⟨.st c::ps,.st c::rs,pre,nV⟩:=
 RZ ch T aG he (fun x hx=>(ka T (K1 (by rw[ah x];exact hx))).1) hm
end
end Go.aL
