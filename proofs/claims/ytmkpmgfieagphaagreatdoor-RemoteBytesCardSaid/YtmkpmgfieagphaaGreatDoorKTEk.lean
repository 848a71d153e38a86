/- TE, part E: contracts out of trees, of functions that are handed an own box. Conditions: none. -/
import Derived.Test.YtmkpmgfieagphaaGreatDoorKTEd
import Derived.Test.YtmkpmgfieagphaaGreatDoorKTDa
import Derived.ProofKit
import Derived.LaidMore
import Derived.OpenShut
import Derived.MakeChecks
import Derived.ChangeArms
import Derived.ReadAgain
import Derived.ChangeBears
import Derived.Stop.Joined
import Derived.SizedLaws
import Derived.Shelf.Strings.Builder1
namespace Go.aK
open Go
section
variable {P:Program} {G:a7} {f:FuncId} {args:List aD} {t:TypeId} {σ:Heap} {R:aD→Heap→Prop}
theorem dF.zh4(h:dF P G f args σ 1 R){Q:aD→List aD→Prop}(fP: ∀r bU,R r bU→∃v ly cs,aE bU 0=some (.box t ly)∧fT ly cs∧e3 cs=true∧Sub r v∧fE v=true∧Q v cs):
 dF P G f args σ 1 fun v bU=>∃cs,bU=[(0,.box t cs)]∧Q v cs:=by
 intro w β ro ec aa ae au aP bE
 refine Calls.mono (h w β ro ec aa ae au aP bE) fun e w' ⟨v,r,bU,dL,ro',cI,he,ag,dA,hO,cD⟩=>?_
 obtain⟨u,ly,cs,ah,gz,ak,hu,NG,aH⟩:=fP r bU ag
 have yp: ∀{id:Nat} {o:ej},aE [(0,ej.box t cs)] id=some o→id=0∧o= .box t cs:=fun {id o} ah=>by
  simp only[aE]at ah
  split at ah
  ·rename_i hi;cases ah;exact⟨hi.symm,rfl⟩
  ·cases ah
 have own: ∀b,Own [(0,ej.box t cs)] dL b→Own bU dL b:=fun b ⟨id,o,sf,_,ad⟩=>by
  obtain⟨rfl,rfl⟩:=yp sf;exact⟨0,_,ah,rfl,ad⟩
 refine⟨v,u,[(0,.box t cs)],dL,ro',cI,he,⟨cs,rfl,aH⟩,nV (hu _ _ _ _ _ _ dA) NG,⟨fun id o sf=>?_,fun id gk o cz b sf zh5 _ _ _ _=>?_,fun b ad an=>hO.fg b ad (own b an),hO.lt⟩,
  ⟨cD.os,cD.tape,cD.output,cD.size,cD.frame,cD.jk,cD.j1,fun b ad=>cD.hj b (own b ad),fun id bc o sf=>?_,fun id o sf=>?_,cD.le⟩⟩
 ·obtain⟨rfl,rfl⟩:=yp sf
  have dg:=hO.c5 0 _ ah
  cases dg with
  |box _ _ b arr aB bd cj eo=>
   refine .box t cs b arr aB bd (by rw[cj,gz.at.1]) fun j x af=>?_
   obtain⟨y,ax,ai⟩:=gz.at.2 j x af;exact nV (ai _ _ _ _ _ _ (eo j y ax)) (m3 ak af)
 ·rw[(yp sf).1,(yp zh5).1]
 ·obtain⟨rfl,rfl⟩:=yp sf
  exact cD.dK 0 bc _ ah
 ·obtain⟨rfl,rfl⟩:=yp sf
  exact cD.new 0 _ ah
end
def tP(t:TypeId)(c:bK)(n:Nat):ao:=⟨.emp,[(0,.di t (iS c 0 0 (eX c)))],1,n+1,[]⟩
def N0(t:TypeId)(c:bK)(rs:List aU)(C:ao):Option (List ab):=
 match c9 C.h 0 with
 |some (.di bC l)=>match(Nat.beq bC t&&hs (eX c) l)&&(NT rs (C.at 0)&&tL (vP rs (C.at 0)))with
  |true=>match sd C rs (vP rs (C.at 0))with
   |some xs=>some (.cg l::xs)
   |none=>none
  |false=>none
 |_=>none
def N1(t:TypeId)(c:bK)(rs:List aU)(C:ao):Bool:=(N0 t c rs C).isSome
def Vo(t:TypeId)(c:bK)(rs:List aU)(C:ao)(e:Env):(fb (.st c::rs)).den:=
 match N0 t c rs C with
 |some l=>b8 (.st c::rs) (gC e (.st c::rs) l)
 |none=>(fb (.st c::rs)).fy
def FQ(M:List aQ)(T:aC)(t:TypeId)(c:bK)(rs:List aU)(e:Env):(fb (.st c::rs)).den:=T.kj M e (fun _ C ay=>Vo t c rs C ay) (fb (.st c::rs)).fy
section
variable {P:Program} {G:a7} {M:List aQ} {inl:Nat→List ab→ao→aC}
theorem zh6{c:bK}{i k:Nat}(h:i<k):ab.cK k (iS c i 0 (eX c))=true:=FG h
theorem zh7{rs:List aU}{S:ao}{e:Env}{xs:List ab}(aG:NT rs (S.at 0)=true)(gd:tL (vP rs (S.at 0))=true)(h:sd S rs (vP rs (S.at 0))=some xs):
 Sub ((S.at 0).den G e) (match(gC e rs xs).map aF.fm with|[v]=>v|l=>.tuple l):=by
 obtain⟨b5,_,a3,a4⟩:=yn (G:=G) (e:=e) h
 rw[a3 gd]at b5
 match rs,b5,a4,aG with
 |[r],b5,a4,aG=>
  obtain⟨d,pf,aw,aa,ae⟩:=lN a4
  cases mw ae
  rw[aw]at b5⊢;simp only[vP,ab.bP,List.map_cons,List.map_nil]at b5⊢
  cases b5 with
  |cons h _=>exact h
 |[],b5,a4,aG=>
  cases aw:S.at 0 with
  |tp m=>
   rw[aw]at b5;rw[mw a4]at b5⊢;exact b5.tuple
  |_=>rw[aw]at aG;cases aG
 |r::s::q,b5,a4,aG=>
  cases aw:S.at 0 with
  |tp m=>
   rw[aw]at b5
   have aq:=congrArg List.length a4
   simp only[List.length_map,List.length_cons]at aq;generalize gC e (r::s::q) xs=ds at b5 aq⊢
   match ds,aq with
   |d::d2::ds,_=>exact b5.tuple
  |_=>rw[aw]at aG;cases aG
theorem Vp(bV:fO P G M inl){f:Nat}{t:TypeId}{c:bK}{ps rs:List aU}{pre:Option ((fb (.st c::ps)).den→Prop)}{oo:(fb (.st c::ps)).den→(fb (.st c::rs)).den}(T:aC)(aG:inl f (.ed 0 0::hz 1 ps) (tP t c ps.length)=T)
 (he:T.gv.all (N1 t c rs)=true)(ai: ∀x,kO pre x→T.safe M (gw 0 (dx (.st c::ps) x)))(hm: ∀x,FQ M T t c rs (gw 0 (dx (.st c::ps) x))=oo x):jj P G f t ⟨.st c::ps,.st c::rs,pre,oo⟩:=fun x hx=>by
 subst aG
 obtain⟨d0,tO,m5,ow,hdr⟩:=lN (tM (rs:=.st c::ps) (x:=x))
 obtain⟨zh2,c6⟩:=d0
 simp only at ow
 subst ow
 have aq:tO.length=ps.length:=by have:=congrArg List.length hdr;rw[List.length_map]at this;exact this
 have ad:(tP t c ps.length).cr:=⟨fun i x hi=>by simp[tP,a8.get]at hi,by
  show(ab.cK (ps.length+1) (iS c 0 0 (eX c))&&true)=true;rw[zh6 (Nat.succ_pos _)]
  rfl,rfl⟩
 have h:=bV f (.ed 0 0::hz 1 ps) (tP t c ps.length) (gw 0 (dx (.st c::ps) x)) ad (by
  show(true&&ab.cK (ps.length+1) (hz 1 ps))=true;rw[Bq (by omega)]
  rfl) (fun c hc=>by cases hc) (ai x hx)
 have eJ: ∀j d,(⟨.st c,c6⟩::tO)[j]? =some d→Env.at (gw 0 (dx (.st c::ps) x)) j=d:=fun j d af=>by
  have:=NS (ds:=dx (.st c::ps) x) (i:=0) (j:=j) (d:=d) (by rw[m5];exact af)
  rwa[Nat.zero_add]at this
 have hd:ab.bP G (gw 0 (dx (.st c::ps) x)) (hz 1 ps)=tO.map aF.fm:=Bp hdr fun j d af=>by rw[Nat.add_comm];exact eJ (j+1) d (by simpa using af)
 have nP:cx G (gw 0 (dx (.st c::ps) x)) (tP t c ps.length).h=[(0,.box t ((b9 c c6).map .av))]:=by
  have aL:=eJ 0 ⟨.st c,c6⟩ rfl
  simp only[tP,cx,bF.den];rw[ta,aL,cA]
 have h2:ab.bP G (gw 0 (dx (.st c::ps) x)) (.ed 0 0::hz 1 ps)= .ptr 0 0::tO.map aF.fm:=by
  show aD.ptr 0 0::_=_;rw[hd]
 rw[h2,nP]at h
 show dF P G f (.ptr 0 0::(dx (.st c::ps) x).tail.map aF.fm) [(0,.box t (yo (dx (.st c::ps) x)))] 1 _
 rw[m5]
 refine dF.zh4 (Q:=fun v cs=>v=FK (dx (.st c::rs) (oo x))∧cs=yo (dx (.st c::rs) (oo x))) h fun r bU ag=>?_
 obtain⟨aS,ay,cq,rfl,rfl,_⟩:=ag
 have od:=Vh he cq
 obtain⟨l,mm⟩:=Option.isSome_iff_exists.1 od
 have sV:=hm x
 unfold FQ at sV
 rw[mJ,ke cq]at sV
 unfold Vo at sV
 rw[mm]at sV
 simp only at sV
 unfold N0 at mm
 split at mm
 rotate_left
 ·cases mm
 rename_i bC DF ah
 split at mm
 rotate_left
 ·cases mm
 rename_i hc
 simp only[Bool.and_eq_true]at hc
 obtain⟨⟨aV,dp⟩,c7,gi⟩:=hc
 have aV:=Nat.eq_of_beq_eq_true aV
 subst aV
 split at mm
 rotate_left
 ·cases mm
 rename_i xs nT
 cases mm
 obtain⟨_,_,_,a4⟩:=yn (G:=G) (e:=ay) nT
 have vN:(gC ay (.st c::rs) (.cg DF::xs)).map aF.r= .st c::rs:=by simp only[gC,List.map_cons,a4]
 rw[←sV,ym vN]
 exact⟨_,_,_,by rw[eh,ah];rfl,Ap dp,Dr _,zh7 c7 gi nT,by
  have ak:=FE (gC ay rs xs)
  split
  ·rename_i v aw
   rw[aw]at ak;simpa[e3]using ak
  ·exact ak,rfl,rfl⟩
theorem uP(bV:fO P G M inl){f:Nat}{t:TypeId}{c:bK}{ps rs:List aU}{oo:(fb (.st c::ps)).den→(fb (.st c::rs)).den}(T:aC)(aG:inl f (.ed 0 0::hz 1 ps) (tP t c ps.length)=T)
 (he:(T.clean&&T.gv.all (N1 t c rs))=true)(hm: ∀x,FQ M T t c rs (gw 0 (dx (.st c::ps) x))=oo x):jj P G f t ⟨.st c::ps,.st c::rs,none,oo⟩:=by
 simp only[Bool.and_eq_true]at he
 exact Vp bV T aG he.2 (fun _ _=>rW M he.1) hm
end
end Go.aK
namespace Go.aK
open Go Go.ChangeShapes Go.WideShapes Go.RowKit
inductive jC (P:Program):TypeId→List a1→Prop where
 |bool {t:TypeId} (b:Bool):P.underlying t=some .bool→jC P t [.v (.bool b)]
 |int {t:TypeId} {k:IntKind} (n:Int):P.underlying t=some (.int k)→(Lit.int k n).wf=true→jC P t [.v (.int k n)]
 |str {t:TypeId} (s:ByteArray):P.underlying t=some .string→s.size≤reachBytes→jC P t [.v (.string s)]
 |slice {t e:TypeId} (es:List (List a1)):P.underlying t=some (.slice e)→es.length≤maxLen∧es.length*P.bytesOf e≤reachBytes→(∀x∈es,jC P e x)→jC P t [.aN (P.cellsOf e) es]
 |struct {t:TypeId} {fs:Array Field} (parts:List (List a1)):P.underlying t=some (.struct fs)→parts.length=fs.toList.length→(∀(i:Nat) (f:Field) (p:List a1),fs.toList[i]? =some f→parts[i]? =some p→jC P f.type p)→jC P t parts.flatten
 |array {t e:TypeId} {n:Nat} (parts:List (List a1)):P.underlying t=some (.array n e)→parts.length=n→(∀p∈parts,jC P e p)→jC P t parts.flatten
def tQ(P:Program):Nat→TypeId→Bool
 |0,_=>false
 |n+1,t=>decide (t<P.types.size)&&match P.underlying t with
  |some .bool=>true
  |some (.int _)=>true
  |some .string=>true
  |some (.slice e)=>tQ P n e
  |some (.array _ e)=>tQ P n e
  |some (.struct fs)=>fs.toList.all fun f=>tQ P n f.type
  |_=>false
theorem mapM_some{α β:Type}{f:α→Option β}: ∀{l:List α} {r:List β},l.mapM f=some r→r.length=l.length∧∀(i:Nat) (x:α),l[i]? =some x→∃y,f x=some y∧r[i]? =some y
 |[],r,h=>by
  simp at h;subst h;exact⟨rfl,by simp⟩
 |a::l,r,h=>by
  rw[List.mapM_cons]at h
  cases aZ:f a with
  |none=>simp[aZ]at h
  |some b=>
   cases aq:l.mapM f with
   |none=>simp[aZ,aq]at h
   |some cB=>
    simp[aZ,aq]at h;subst h;obtain⟨aa,ae⟩:=mapM_some aq;refine⟨by simp[aa],fun i x hx=>?_⟩
    cases i with
    |zero=>simp at hx;subst hx;exact⟨b,aZ,rfl⟩
    |succ i=>simpa using ae i x (by simpa using hx)
section
variable {H:Type} {enc:TypeId × Value→H} {P:Program} {w:World}
abbrev l4(w:World):Nat→Prop:=fun b=>b<w.heap.size
theorem OH{a:Addr}{c:Value}(h:w.cell? a=some c):a.block<w.heap.size:=by
 rcases Nat.lt_or_ge a.block w.heap.size with aa|aa
 ·exact aa
 ·exfalso
  have:w.heap[a.block]? =none:=Array.getElem?_eq_none aa
  simp[World.cell?,this]at h
def Fits(P:Program)(w:World)(t:TypeId)(cs:List Value):Prop:=∃rs,jC P t rs∧rs.length=cs.length∧∀j r,rs[j]? =some r→cQ w (l4 w) r (cs.getD j undef)
theorem Vq: ∀(fs:List Field) (off:Nat) (cs:List Value),(∀(j:Nat) (f:Field),fs[j]? =some f→f.offset=off+((fs.take j).map fun f=>P.cellsOf f.type).sum)→
 (∀f∈fs,Fits P w f.type ((cs.drop f.offset).take (P.cellsOf f.type)))→off+(fs.map fun f=>P.cellsOf f.type).sum≤cs.length→
 ∃parts:List (List a1),parts.length=fs.length∧(∀(i:Nat) (f:Field) (p:List a1),fs[i]? =some f→parts[i]? =some p→jC P f.type p)∧parts.flatten.length=(fs.map fun f=>P.cellsOf f.type).sum∧
  ∀j r,parts.flatten[j]? =some r→cQ w (l4 w) r (cs.getD (off+j) undef)
 |[],off,cs,_,_,_=>⟨[],rfl,by simp,by simp,by simp⟩
 |f::fs,off,cs,an,hf,aq=>by
  have aL:f.offset=off:=by have:=an 0 f rfl;simpa using this
  obtain⟨rs,aa,ae,au⟩:=hf f (by simp)
  simp only[List.map_cons,List.sum_cons]at aq
  have hlen:rs.length=P.cellsOf f.type:=by rw[ae,aL];simp;omega
  obtain⟨parts,g1,g2,g3,g4⟩:=Vq fs (off+P.cellsOf f.type) cs (fun j q aH=>by
   have:=an (j+1) q (by simpa using aH)
   simp only[List.take_succ_cons,List.map_cons,List.sum_cons]at this
   omega) (fun q aH=>hf q (by simp[aH])) (by omega)
  refine⟨rs::parts,by simp[g1],fun i q p aH ak=>?_,by simp[g3,hlen],fun j r af=>?_⟩
  ·cases i with
   |zero=>
    simp at aH ak;subst aH;subst ak;exact aa
   |succ i=>exact g2 i q p (by simpa using aH) (by simpa using ak)
  ·rw[List.flatten_cons]at af
   by_cases cL:j<rs.length
   ·rw[List.getElem?_append_left cL]at af
    have:=au j r af
    have zI:j<P.cellsOf f.type:=by omega
    rw[aL]at this;simpa[List.getD,List.getElem?_take,List.getElem?_drop,zI]using this
   ·rw[List.getElem?_append_right (by omega)]at af
    have:=g4 _ r af
    rw[show off+P.cellsOf f.type+(j-rs.length)=off+j from by omega]at this
    exact this
theorem N2{e:TypeId}(n:Nat): ∀(k:Nat) (Bx:Nat→List Value),(∀i,i<k→Fits P w e (Bx i)∧(Bx i).length=n)→
 ∃es:List (List a1),es.length=k∧(∀x∈es,jC P e x∧x.length=n)∧∀j r,es.flatten[j]? =some r→cQ w (l4 w) r ((Bx (j/ n)).getD (j%n) undef)
 |0,_,_=>⟨[],rfl,by simp,by simp⟩
 |k+1,Bx,h=>by
  obtain⟨⟨rs,aa,ae,au⟩,hn⟩:=h 0 (by omega)
  obtain⟨es,g1,g2,g3⟩:=N2 n k (fun i=>Bx (i+1)) fun i hi=>h (i+1) (by omega)
  refine⟨rs::es,by simp[g1],fun x hx=>?_,fun j r af=>?_⟩
  ·rcases List.mem_cons.1 hx with rfl|hx
   ·exact⟨aa,by omega⟩
   ·exact g2 x hx
  ·rw[List.flatten_cons]at af
   by_cases cL:j<rs.length
   ·rw[List.getElem?_append_left cL]at af
    have mT:j<n:=by omega
    rw[Nat.div_eq_of_lt mT,Nat.mod_eq_of_lt mT];exact au j r af
   ·rw[List.getElem?_append_right (by omega)]at af
    have:=g3 _ r af
    have yq:0<n:=by
     rcases Nat.eq_zero_or_pos n with aL|aL
     ·exfalso
      have mg:es.flatten.length=es.length*n:=j2 fun x hx=>(g2 x hx).2
      have:=(List.getElem?_eq_some_iff.1 af).1
      rw[mg,aL]at this;simp at this
     ·exact aL
    have aB:j-rs.length=j-n:=by omega
    rw[aB]at this
    have bd:(j-n)/ n+1=j/ n:=(Nat.div_eq_sub_div yq (by omega)).symm
    have cj:(j-n)%n=j%n:=(Nat.mod_eq_sub_mod (by omega)).symm
    simp only[bd,cj]at this;exact this
theorem By{t:TypeId}{r:a1}{c:Value}(h:jC P t [r])(ag:cQ w (l4 w) r c):Fits P w t [c]:=
 ⟨[r],h,rfl,fun j x af=>by
  cases j with
  |zero=>simp at af;subst af;exact ag
  |succ j=>simp at af⟩
theorem Vr{base:Nat}{a:Addr}{n:Nat}{l:List Value}(h:w.cells? base a n=some l):l.length=n∧∀i,i<n→w.cell? (a.add i)=l[i]? :=by
 unfold World.cells? at h
 split at h
 ·obtain⟨aa,ae⟩:=mapM_some h
  refine⟨by simpa using aa,fun i hi=>?_⟩
  obtain⟨y,ax,aq⟩:=ae i i (by simp[hi])
  rw[aq,ax]
 ·cases h
theorem N3{e:TypeId}: ∀{l:List (DataW H)} {d:DataW H},d∈l→∀n∈d.weights P e,n∈DataW.weightsAll P e l
 |d0::l,d,hd,n,hn=>by
  simp only[DataW.weightsAll,List.mem_append]
  rcases List.mem_cons.1 hd with rfl|hd
  ·exact .inl hn
  ·exact .inr (N3 hd n hn)
theorem FR(K:Kids P (· < P.types.size)): ∀(m n:Nat) (t:TypeId) (cs:List Value) (x:DataW H × List MemPlace) {base:Nat} {sp:Nat→Bool} {held:Bool},tQ P m t=true→
 DataW.trod enc P w base sp held n t cs=some x→(∀q∈x.1.weights P t,q≤reachBytes)→Fits P w t cs
 |0,_,_,_,_,_,_,_,ak,_,_=>by simp[tQ]at ak
 |m+1,n,t,cs,x,base,sp,held,ak,h,fh=>by
  simp only[tQ,Bool.and_eq_true,decide_eq_true_eq]at ak;obtain⟨cY,ak⟩:=ak
  cases hu:P.underlying t with
  |none=>rw[hu]at ak;cases ak
  |some d=>
   rw[hu]at ak
   cases d with
   |bool=>
    obtain⟨b,rfl,_⟩:=DataW.trod_bool hu h;exact By (.bool b hu) (.v _ rfl)
   |int k=>
    obtain⟨b,rfl,_,hw⟩:=DataW.trod_int hu h;exact By (.int b hu hw) (.v _ rfl)
   |string=>
    obtain⟨b,rfl,hx,hw⟩:=DataW.trod_string hu h;rw[hx]at fh;exact By (.str b hu (by simpa[DataW.weights]using fh)) (.v _ rfl)
   |slice e=>
    rcases DataW.trod_slice hu h with⟨rfl,_⟩|⟨a,len,cap,elems,rest,k,rfl,rfl,hx,_,hle,ie,nR,eJ,_⟩
    ·exact By (.slice [] hu ⟨Nat.zero_le _,by simp⟩ (by simp)) (.aN _ [] none 0 (fun _=>undef) (Nat.le_refl _) (Nat.zero_le _) (by simp) (by simp) (by simp))
    ·rw[hx]at fh
     simp only[DataW.weights,hu,List.mem_cons,List.mem_append,List.length_map]at fh
     have zY:len*P.bytesOf e≤reachBytes:=Nat.le_trans (Nat.mul_le_mul_right _ (by rw[nR];exact Nat.le_add_right _ _)) (fh _ (.inl rfl))
     have Vs: ∀i,i<len→∃l,w.cells? base (a.add (i*P.cellsOf e)) (P.cellsOf e)=some l∧Fits P w e l:=by
      intro i hi
      have aa:=eJ i hi
      rw[List.getElem?_eq_getElem (by omega)]at aa
      cases hc:w.cells? base (a.add (i*P.cellsOf e)) (P.cellsOf e)with
      |none=>rw[hc]at aa;cases aa
      |some l=>rw[hc]at aa;exact⟨l,rfl,FR K m k e l _ ak aa fun q aH=>fh q (.inr (.inl (N3 (List.mem_map_of_mem (List.getElem_mem _)) q aH)))⟩
     obtain⟨es,g1,g2,g3⟩:=N2 (P:=P) (w:=w) (e:=e) (P.cellsOf e) len (fun i=>(w.cells? base (a.add (i*P.cellsOf e)) (P.cellsOf e)).getD []) fun i hi=>by
      obtain⟨l,aa,ae⟩:=Vs i hi;rw[aa];exact⟨ae,(Vr aa).1⟩
     have hlen:es.length=len:=g1
     refine By (.slice es hu ⟨by omega,by rw[hlen];exact zY⟩ fun x hx=>(g2 x hx).1) ?_
     rw[←hlen];refine .aN _ es (some a) cap (fun j=>((w.cells? base (a.add (j/ P.cellsOf e*P.cellsOf e)) (P.cellsOf e)).getD []).getD (j%P.cellsOf e) undef) (by omega) ie (fun x hx=>(g2 x hx).2) (fun _=>⟨a,rfl,fun j af=>?_⟩) g3
     have yq:0<P.cellsOf e:=by
      rcases Nat.eq_zero_or_pos (P.cellsOf e)with aL|aL
      ·rw[aL]at af;simp at af
      ·exact aL
     have nX:j/ P.cellsOf e<len:=by rw[Nat.div_lt_iff_lt_mul yq];rw[hlen]at af;exact af
     have nW:j%P.cellsOf e<P.cellsOf e:=Nat.mod_lt _ yq
     obtain⟨l,aa,_⟩:=Vs _ nX;obtain⟨ae,au⟩:=Vr aa
     have aP:=au _ nW
     rw[zB,Nat.mul_comm,Nat.div_add_mod]at aP;rw[aa]
     have bE:w.cell? (a.add j)=some (l.getD (j%P.cellsOf e) undef):=by
      rw[aP]
      have:j%P.cellsOf e<l.length:=by omega
      simp[List.getD,List.getElem?_eq_getElem this]
     exact⟨by have:=OH bE;rwa[qh]at this,bE⟩
   |array k e=>
    obtain⟨xs,q,rfl,hx,jn,jK,eJ⟩:=DataW.trod_array hu h;rw[hx]at fh;simp only[DataW.weights,hu]at fh
    obtain⟨es,g1,g2,g3⟩:=N2 (P:=P) (w:=w) (e:=e) (P.cellsOf e) k (fun i=>(cs.drop (i*P.cellsOf e)).take (P.cellsOf e)) fun i hi=>by
     have aa:=eJ i hi
     rw[List.getElem?_eq_getElem (by omega)]at aa
     refine⟨FR K m q e _ _ ak aa fun z aR=>fh z (N3 (List.mem_map_of_mem (List.getElem_mem _)) z aR),?_⟩
     have ae:=Nat.mul_le_mul_right (P.cellsOf e) (show i+1≤k from hi)
     rw[Nat.succ_mul]at ae
     have:=(K.array cY hu).2
     simp;omega
    refine⟨es.flatten,.array es hu g1 fun p ak=>(g2 p ak).1,?_,fun j r af=>?_⟩
    ·rw[j2 fun x hx=>(g2 x hx).2,g1,jn,(K.array cY hu).2]
    ·have:=g3 j r af
     have cL:=(List.getElem?_eq_some_iff.1 af).1
     have yq:0<P.cellsOf e:=by
      rcases Nat.eq_zero_or_pos (P.cellsOf e)with aL|aL
      ·rw[j2 fun x hx=>(g2 x hx).2,aL]at cL;simp at cL
      ·exact aL
     have nW:j%P.cellsOf e<P.cellsOf e:=Nat.mod_lt _ yq
     have hm:j/ P.cellsOf e*P.cellsOf e+j%P.cellsOf e=j:=by rw[Nat.mul_comm];exact Nat.div_add_mod _ _
     simpa[List.getD,List.getElem?_take,List.getElem?_drop,nW,hm]using this
   |struct fs=>
    obtain⟨xs,q,rfl,hx,jn,jK,eJ⟩:=DataW.trod_struct hu h;rw[hx]at fh;simp only[DataW.weights,hu]at fh;obtain⟨_,yG,zK⟩:=K.struct cY hu
    obtain⟨parts,g1,g2,g3,g4⟩:=Vq (P:=P) (w:=w) fs.toList 0 cs (fun j f hf=>by rw[zK j f hf];simp) (fun f hf=>by
     obtain⟨i,hi,rfl⟩:=List.mem_iff_getElem.1 hf
     have zh8:fs[i]? =some fs.toList[i]:=by simp at hi;simp[hi]
     have aa:=eJ i _ zh8
     have vJ:i<xs.length:=by rw[jK];simpa using hi
     rw[List.getElem?_eq_getElem vJ]at aa
     rw[List.all_eq_true]at ak
     exact FR K m q _ _ _ (ak _ (List.getElem_mem hi)) aa fun z aR=>fh z (DataW.weights_mem_each (j:=i) (by rw[List.getElem?_map,List.getElem?_eq_getElem hi];rfl) (by rw[List.getElem?_map,List.getElem?_eq_getElem vJ];rfl) z aR)) (by rw[jn,yG];omega)
    exact⟨parts.flatten,.struct parts hu g1 g2,by rw[g3,jn,yG],fun j r af=>by have:=g4 j r af;simpa using this⟩
   |_=>cases ak
theorem zh9(K:Kids P (· < P.types.size)){m:Nat}{t:TypeId}(ak:tQ P m t=true){v:Value}{d:DataW H}{ps:List MemPlace}{base:Nat}{sp:Nat→Bool}{held:Bool}(h:DataW.Trod enc P w base sp held t v d ps)(fh: ∀q∈d.weights P t,q≤reachBytes):Fits P w t v.cells.toList:=by
 obtain⟨n,hn⟩:=h
 exact FR K m n t _ _ ak hn fh
theorem Fits.agg{t:TypeId}{cs:Array Value}(h:Fits P w t cs.toList){β:Nat→Value}{N:Nat}: ∃rs,jC P t rs∧br w (l4 w) [] β N (.agg (zdI rs)) (.agg cs):=by
 obtain⟨rs,aa,ae,au⟩:=h
 refine⟨rs,aa,.agg _ cs (by simpa using ae.symm) fun j x af=>?_⟩
 rw[List.getElem?_map]at af
 cases ag:rs[j]? with
 |none=>simp[ag]at af
 |some r=>
  simp[ag]at af;subst af
  have:=au j r ag
  exact .av _ _ (by simpa[List.getD,Array.getD_eq_getD_getElem?]using this)
theorem Fits.one{t:TypeId}{v:Value}(h:Fits P w t v.cells.toList)(aw:v.cells= #[v]){β:Nat→Value}{N:Nat}: ∃r,jC P t [r]∧br w (l4 w) [] β N (.av r) v:=by
 obtain⟨rs,aa,ae,au⟩:=h
 rw[aw]at ae
 match rs,ae,aa,au with
 |[r],_,aa,au=>
  have:=au 0 r rfl
  rw[aw]at this;exact⟨r,aa,.av _ _ (by simpa using this)⟩
def fieldTypes(P:Program)(t:TypeId):Option (List TypeId):=
 match P.underlying t with
 |some (.struct fs)=>some (fs.toList.map (·.type))
 |_=>none
def N4(P:Program)(t:TypeId):Bool:=
 match P.underlying t with
 |some .bool=>true
 |some (.int _)=>true
 |some .string=>true
 |some (.slice _)=>true
 |_=>false
theorem zia{r:Reach}{ob:Nat}{t:TypeId}{v:Value}(h:Value.okWide P w r ob t v)(ai:N4 P t=true):v.cells= #[v]:=by
 unfold N4 at ai
 split at ai
 ·rename_i hu
  simp only[Value.okWide,hu,Cell.okWide,Cell.ok]at h
  cases v<;>first|rfl|exact h.elim
 ·rename_i hu
  simp only[Value.okWide,hu,Cell.okWide,Cell.ok]at h
  cases v<;>first|rfl|exact h.elim
 ·rename_i hu
  simp only[Value.okWide,hu,Cell.okWide,Cell.ok]at h
  cases v<;>first|rfl|exact h.elim
 ·rename_i hu
  simp only[Value.okWide,hu,Cell.okWide,Cell.ok]at h
  cases v<;>first|rfl|exact h.elim
 ·cases ai
theorem zib{r:Reach}{ob:Nat}{t:TypeId}{v:Value}(h:Value.okWide P w r ob t v)(ai:(fieldTypes P t).isSome=true): ∃cs,v= .agg cs:=by
 unfold fieldTypes at ai
 split at ai
 ·rename_i hu
  simp only[Value.okWide,hu]at h;obtain⟨cs,rfl,_⟩:=h;exact⟨cs,rfl⟩
 ·cases ai
theorem V3{t e n:Nat}{cs:List Value}{d:DataW H}{ps:List MemPlace}{fuel base:Nat}{sp:Nat→Bool}{held:Bool}(K:Kids P (· < P.types.size))(cY:t<P.types.size)(hu:P.underlying t=some (.array n e))(he:P.underlying e=some .string)(hc:P.cellsOf e=1)
 (h:DataW.trod enc P w base sp held fuel t cs=some (d,ps)): ∃l:List ByteArray,cs=l.map Value.string∧d= .agg (l.map fun s=>.lit (.string s.data.toList)):=by
 obtain⟨xs,q,rfl,hx,jn,jK,eJ⟩:=DataW.trod_array hu h
 have Vt:cs.length=n:=by rw[jn,(K.array cY hu).2,hc,Nat.mul_one]
 have oZ: ∀i (hi:i<n),∃s:ByteArray,cs[i]? =some (.string s)∧(xs[i]?).map (·.1)=some (.lit (.string s.data.toList)):=by
  intro i hi
  have aa:=eJ i hi
  have vJ:i<xs.length:=by omega
  rw[List.getElem?_eq_getElem vJ]at aa
  obtain⟨s,ae,au,_⟩:=DataW.trod_string he aa;rw[hc,Nat.mul_one]at ae;refine⟨s,?_,by rw[List.getElem?_eq_getElem vJ,Option.map_some,au]⟩
  have:=congrArg (·[0]?) ae
  simpa[List.getElem?_take,List.getElem?_drop]using this
 have key: ∀(m:Nat),m≤n→∃l:List ByteArray,cs.take m=l.map Value.string∧(xs.take m).map (·.1)=l.map fun s=>.lit (.string s.data.toList):=by
  intro m
  induction m with
  |zero=>intro _;exact⟨[],by simp,by simp⟩
  |succ m aX=>
   intro hm;obtain⟨l,aa,ae⟩:=aX (by omega)
   obtain⟨s,g1,g2⟩:=oZ m (by omega)
   refine⟨l++[s],?_,?_⟩
   ·rw[List.take_add_one,aa,g1];simp
   ·rw[List.take_add_one,List.map_append,ae,List.map_append]
    cases fR:xs[m]? with
    |none=>rw[fR]at g2;cases g2
    |some y=>rw[fR]at g2;simp at g2;simp[g2]
 obtain⟨l,aa,ae⟩:=key n (Nat.le_refl _)
 rw[List.take_of_length_le (by omega)]at aa ae
 simp only[Prod.mk.injEq]at hx
 exact⟨l,aa,by rw[hx.1,ae]⟩
theorem V4{l m:List ByteArray}(h:(l.map fun s=>(DataW.lit (H:=H) (.string s.data.toList)))=m.map fun s=>.lit (.string s.data.toList)):l=m:=by
 induction l generalizing m with
 |nil=>cases m with
  |nil=>rfl
  |cons=>simp at h
 |cons a l aX=>cases m with
  |nil=>simp at h
  |cons b m=>
   simp only[List.map_cons,List.cons.injEq,DataW.lit.injEq,Lit.string.injEq]at h;obtain⟨aa,ae⟩:=h
   have:a=b:=by
    cases a;cases b
    simp only[ByteArray.mk.injEq];exact Array.ext' aa
   rw[this,aX ae]
theorem zic{w':World}{p:MemPlace}(ak:p.block<w.heap.size)(h: ∀b,b<w.heap.size→w'.heap[b]? =w.heap[b]?):w.sameAt w' p:=by
 cases p with
 |cell b off=>exact World.cell?_of_block (a:=⟨b,off,none⟩) (h b ak)
 |map b=>exact h b ak
theorem Vu{w':World}(h: ∀b,b<w.heap.size→w'.heap[b]? =w.heap[b]?){base:Nat}{sp:Nat→Bool}{held:Bool}: ∀{ts:List TypeId} {vs:List Value} {ds:List (DataW H)} {ps:List MemPlace},DataW.TrodAll enc P w base sp held ts vs ds ps→DataW.TrodAll enc P w' base sp held ts vs ds ps
 |[],[],[],_,h=>h
 |_::_,_::_,_::_,_,⟨p,q,⟨n,hn⟩,ae,e⟩=>
  ⟨p,q,⟨n,DataW.trod_carry n _ _ _ hn fun x hx=>zic (DataW.trod_lt n _ _ _ hn x hx) h⟩,Vu h ae,e⟩
theorem zid{w':World}{may:MemPlace→Prop}(aa:w'.os=w.os)(ae:w'.output=w.output)(h: ∀b,b<w.heap.size→w'.heap[b]? =w.heap[b]?):w.keptBut w' may:=by
 refine⟨aa,ae,fun i hi=>?_⟩
 rw[h i hi]
 cases hw:w.heap[i]? with
 |none=>rfl
 |some o=>
  cases o with
  |cells c t tU=>exact⟨rfl,rfl,rfl,fun _ _=>rfl⟩
  |map es clock=>exact .inr ⟨rfl,rfl⟩
  |_=>rfl
theorem zie{G:a7}{f:FuncId}{fn:Func}{s:ChangeSpec}{args:Array Value}{ds gs:List (DataW H)}{before:List MemPlace}{tb:TypeId}{avs':List aD}{β:Nat→Value}
 (hE:DataW.Whole enc P fn.params.toList s.vars false w args.toList ds gs before)(aw:s.vars=[])(ai:s.fn H (ds++gs)={results:=[.lit (.bool true)],args:=ds})(rC:fn.resultTypes= #[tb])(N5:P.underlying tb=some .bool)
 (K:Kids P (· < P.types.size))(aR: ∀t e,t<P.types.size→P.underlying t=some (.slice e)→0<P.cellsOf e)(uF: ∀t∈fn.params.toList,t<P.types.size)
 (hlen:args.size=avs'.length)(h2: ∀i x,avs'[i]? =some x→br w (l4 w) [] β 0 x (args.getD i undef))(k4:so w (l4 w) G)(hc:dF P G f avs' [] 0 fun r bU=>r=pL true∧bU=[]):
 Calls P f args w fun e w'=>∃v,e= .returned v∧s.post enc P fn false true false false w args v w':=by
 refine Calls.mono (hc w β (l4 w) args hlen h2 ⟨by simp[aE],by simp[aE],fun b _ ⟨_,_,ah,_⟩=>by simp[aE]at ah,fun b ad=>ad⟩ k4 (by simp[aE])) fun e w' aH=>?_
 obtain⟨v,r,eU,dL,ro',cI,rfl,⟨rfl,rfl⟩,dA,_,aG⟩:=aH
 obtain rfl:=br.val dA
 have ba: ∀b,b<w.heap.size→w'.heap[b]? =w.heap[b]? :=fun b ad=>aG.frame b ad fun⟨_,_,ah,_⟩=>by simp[aE]at ah
 refine⟨_,rfl,ds,gs,before,[],before,[],hE,?_,?_,?_,zid aG.os aG.output ba,fun h=>by cases h⟩
 ·rw[ai,rC]
  exact trodAll_mk1 (shut_bool N5 true)
 ·rw[ai]
  have bG: ∀p∈before,(fun b=>decide (b<w.heap.size)) p.block=true:=fun p ak=>by simpa using hE.lt p ak
  obtain⟨p,q,aa,ae,rfl,_⟩:=hE;rw[aw]at ae
  have aH:q=[]:=by
   cases gs with
   |nil=>exact ae
   |cons=>cases ae
  subst aH;rw[List.append_nil]at bG⊢;exact Vu ba (aa.respare K aR uF bG)
 ·rw[ai,aw]
  rfl
end
end Go.aK
namespace Go.aK
open Go Go.ChangeShapes Go.WideShapes
def yr:List (Option (List aU))→Option (List aU)
 |[]=>some []
 |none::_=>none
 |some l::r=>match yr r with
  |some m=>some (l++m)
  |none=>none
def Bz:List aU→List aU→Bool
 |[],[]=>true
 |a::l,b::m=>hR a b&&Bz l m
 |_,_=>false
theorem N6: ∀{l m:List aU},Bz l m=true→l=m
 |[],[],_=>rfl
 |[],_::_,h=>by cases h
 |_::_,[],h=>by cases h
 |a::l,b::m,h=>by
  simp only[Bz,Bool.and_eq_true]at h;rw[hr h.1,N6 h.2]
def lZ(P:Program)(T:List (Nat × bK)):Nat→TypeId→Option (List aU)
 |0,_=>none
 |n+1,t=>match P.underlying t with
  |some .bool=>some [.bool]
  |some (.int k)=>some [.int k]
  |some .string=>some [.str]
  |some (.slice e)=>match tv T e,lZ P T n e with
   |some c,some l=>match Bz l (eX c)&&Nat.beq (P.cellsOf e) (bY c)with
    |true=>some [.li c]
    |false=>none
   |_,_=>none
  |some (.array k e)=>yr (List.replicate k (lZ P T n e))
  |some (.struct fs)=>yr (fs.toList.map fun f=>lZ P T n f.type)
  |_=>none
inductive lF:aF→Prop where
 |int (k:IntKind) (x:Int):(Lit.int k x).wf=true→lF ⟨.int k,x⟩
 |bool (b:Bool):lF ⟨.bool,b⟩
 |str (s:ByteArray):s.size≤reachBytes→lF ⟨.str,s⟩
 |li (c:bK) (l:List (fN c)):l.length≤maxLen→(∀x∈l,∀d∈k1 c x,lF d)→lF ⟨.li c,l⟩
inductive sg:List (List a1)→List (List a1)→Prop where
 |nil:sg [] []
 |cons {x y:List a1} {xs ys:List (List a1)}:fZ x y→sg xs ys→sg (x::xs) (y::ys)
theorem sg.flat{xs ys:List (List a1)}(h:sg xs ys):fZ xs.flatten ys.flatten:=by
 induction h with
 |nil=>exact .nil
 |cons h _ aX=>rw[List.flatten_cons,List.flatten_cons];exact h.append aX
theorem sg.len{xs ys:List (List a1)}(h:sg xs ys):xs.length=ys.length:=by
 induction h with
 |nil=>rfl
 |cons h _ aX=>simp[aX]
theorem zif{c:bK}{n:Nat}{es:List (List a1)}{l:List (fN c)}(hn:n=bY c)(h:sg es (l.map (b9 c))):lP (.aN n es) (.li c l):=by
 subst hn
 intro w ro v ag
 refine .li _ _ _ ?_
 cases ag with
 |aN _ _ b cap zig aa ae au aP bE=>
  have hlen:(l.map (b9 c)).length=es.length:=h.len.symm
  rw[←hlen];refine .aN _ _ b cap zig (by omega) ae (fun e he=>?_) (fun ak=>?_) fun j y af=>?_
  ·obtain⟨x,_,rfl⟩:=List.mem_map.1 he
   exact DK c x
  ·rw[hlen]at ak⊢
   exact aP ak
  ·obtain⟨x,hx,ai⟩:=h.flat.at.2 j y af
   exact ai _ _ _ (bE j x hx)
section
variable {P:Program} {T:List (Nat × bK)}
theorem N7{n:Nat}(aX: ∀{t:TypeId} {rs:List a1} {l:List aU},jC P t rs→lZ P T n t=some l→∃ds:List aF,ds.map aF.r=l∧fZ rs (ds.map aF.av)∧∀d∈ds,lF d):
 ∀(ts:List TypeId) (parts:List (List a1)) {l:List aU},parts.length=ts.length→(∀(i:Nat) (t:TypeId) (p:List a1),ts[i]? =some t→parts[i]? =some p→jC P t p)→yr (ts.map (lZ P T n))=some l→
 ∃ds:List aF,ds.map aF.r=l∧fZ parts.flatten (ds.map aF.av)∧∀d∈ds,lF d
 |[],parts,l,aq,_,hc=>by
  cases List.eq_nil_of_length_eq_zero aq
  cases hc;exact⟨[],rfl,.nil,by simp⟩
 |t::ts,[],l,aq,_,_=>by cases aq
 |t::ts,p::parts,l,aq,ai,hc=>by
  simp only[List.map_cons]at hc
  cases aa:lZ P T n t with
  |none=>rw[aa]at hc;cases hc
  |some sL=>
   rw[aa]at hc;simp only[yr]at hc
   cases ae:yr (ts.map (lZ P T n))with
   |none=>rw[ae]at hc;cases hc
   |some CG=>
    rw[ae]at hc;cases hc;obtain⟨d1,b5,a2,a3⟩:=aX (ai 0 t p rfl rfl) aa;obtain⟨d2,gp,im,hU⟩:=N7 aX ts parts (by simpa using aq) (fun i t p hi ak=>ai (i+1) t p (by simpa using hi) (by simpa using ak)) ae
    refine⟨d1++d2,by simp[b5,gp],by rw[List.flatten_cons,List.map_append];exact a2.append im,fun d hd=>?_⟩
    rcases List.mem_append.1 hd with hd|hd
    ·exact a3 d hd
    ·exact hU d hd
theorem Vv{c:bK}{e:TypeId}(aX: ∀{rs:List a1},jC P e rs→∃ds:List aF,ds.map aF.r=eX c∧fZ rs (ds.map aF.av)∧∀d∈ds,lF d):
 ∀(es:List (List a1)),(∀x∈es,jC P e x)→∃l:List (fN c),sg es (l.map (b9 c))∧∀x∈l,∀d∈k1 c x,lF d
 |[],_=>⟨[],.nil,by simp⟩
 |x::es,h=>by
  obtain⟨ds,b5,a2,a3⟩:=aX (h x (by simp))
  obtain⟨l,gp,im⟩:=Vv aX es fun y ax=>h y (by simp[ax])
  have hc:k1 c (pc c ds)=ds:=DM c ds b5
  refine⟨pc c ds::l,.cons (by unfold b9;rw[hc];exact a2) gp,fun y ax d hd=>?_⟩
  rcases List.mem_cons.1 ax with rfl|ax
  ·rw[hc]at hd
   exact a3 d hd
  ·exact im y ax d hd
theorem BA: ∀(n:Nat) {t:TypeId} {rs:List a1} {l:List aU},jC P t rs→lZ P T n t=some l→∃ds:List aF,ds.map aF.r=l∧fZ rs (ds.map aF.av)∧∀d∈ds,lF d
 |0,_,_,_,_,h=>by cases h
 |n+1,t,rs,l,h,hf=>by
  unfold lZ at hf
  cases h with
  |bool b hu=>
   rw[hu]at hf;cases hf;exact⟨[⟨.bool,b⟩],rfl,.cons (lP.refl _) .nil,fun d hd=>by cases List.mem_singleton.1 hd;exact .bool b⟩
  |int x hu hw=>
   rw[hu]at hf;cases hf;exact⟨[⟨.int _,x⟩],rfl,.cons (lP.refl _) .nil,fun d hd=>by cases List.mem_singleton.1 hd;exact .int _ _ hw⟩
  |str s hu hw=>
   rw[hu]at hf;cases hf;exact⟨[⟨.str,s⟩],rfl,.cons (lP.refl _) .nil,fun d hd=>by cases List.mem_singleton.1 hd;exact .str _ hw⟩
  |slice es hu aq hw=>
   rw[hu]at hf;simp only at hf
   split at hf
   ·rename_i c sL _ ae
    split at hf
    ·rename_i hc
     cases hf;simp only[Bool.and_eq_true]at hc
     have au:=N6 hc.1
     subst au;obtain⟨l,b5,a2⟩:=Vv (c:=c) (fun hx=>BA n hx ae) es hw;refine⟨[⟨.li c,l⟩],rfl,.cons (zif (Nat.eq_of_beq_eq_true hc.2) b5) .nil,fun d hd=>?_⟩
     cases List.mem_singleton.1 hd
     exact .li _ _ (by have:=b5.len;rw[List.length_map]at this;have:=aq.1;omega) a2
    ·cases hf
   ·cases hf
  |struct parts hu aa ae=>
   rw[hu]at hf;simp only at hf;rename_i fs
   have hm:(fs.toList.map fun f=>lZ P T n f.type)=(fs.toList.map (·.type)).map (lZ P T n):=by rw[List.map_map];rfl
   rw[hm]at hf
   obtain⟨ds,b5,a2,a3⟩:=N7 (fun hx ax=>BA n hx ax) _ parts (by rw[List.length_map];exact aa) (fun i u p hi ak=>by
    rw[List.getElem?_map]at hi
    cases N8:fs.toList[i]? with
    |none=>rw[N8]at hi;cases hi
    |some f=>
     rw[N8]at hi;cases hi
     exact ae i f p N8 ak) hf
   exact⟨ds,b5,a2,a3⟩
  |array parts hu aa ae=>
   rw[hu]at hf;simp only at hf;rename_i e k
   have hm:List.replicate k (lZ P T n e)=(List.replicate k e).map (lZ P T n):=by rw[List.map_replicate]
   rw[hm]at hf
   obtain⟨ds,b5,a2,a3⟩:=N7 (fun hx ax=>BA n hx ax) _ parts (by rw[List.length_replicate];exact aa) (fun i u p hi ak=>by
    have:=List.mem_of_getElem? hi
    cases (List.mem_replicate.1 this).2
    exact ae p (List.mem_of_getElem? ak)) hf
   exact⟨ds,b5,a2,a3⟩
def N9(P:Program)(T:List (Nat × bK))(t:TypeId):Option aU:=
 match(fieldTypes P t).isSome with
 |true=>match tv T t,lZ P T 20 t with
  |some c,some l=>match Bz l (eX c)with
   |true=>some (.st c)
   |false=>none
  |_,_=>none
 |false=>match N4 P t,lZ P T 20 t with
  |true,some [r]=>match r.one with
   |true=>some r
   |false=>none
  |_,_=>none
def FT(P:Program)(T:List (Nat × bK)):List TypeId→Option (List aU)
 |[]=>some []
 |t::ts=>match tQ P 20 t,N9 P T t,FT P T ts with
  |true,some r,some rs=>some (r::rs)
  |_,_,_=>none
def tV(d:aF):Prop:=
 match d with
 |⟨.st c,x⟩=>∀q∈k1 c x,lF q
 |d=>lF d
variable {H:Type} {enc:TypeId × Value→H} {w:World}
theorem zih{β:Nat→Value}{t:TypeId}{v:Value}{r:aU}{reach:Reach}{ob:Nat}(hf:Fits P w t v.cells.toList)(aw:Value.okWide P w reach ob t v)(h:N9 P T t=some r): ∃x:r.den,br w (l4 w) [] β 0 (aF.fm ⟨r,x⟩) v∧tV ⟨r,x⟩:=by
 unfold N9 at h
 split at h
 ·rename_i ai
  split at h
  ·rename_i c l _ aq
   split at h
   ·rename_i hc
    cases h;obtain rfl:=N6 hc;obtain⟨cs,rfl⟩:=zib aw ai;obtain⟨rs,g1,g2⟩:=Fits.agg (P:=P) (w:=w) (cs:=cs) hf (β:=β) (N:=0);obtain⟨ds,b5,a2,a3⟩:=BA 20 g1 aq
    have hc:k1 c (pc c ds)=ds:=DM c ds b5
    refine⟨pc c ds,?_,fun q aH=>a3 q (by rw[←hc];exact aH)⟩
    have vK:aF.fm ⟨.st c,pc c ds⟩= .agg ((ds.map aF.av).map .av):=by
     show aD.agg ((b9 c (pc c ds)).map .av)=_;unfold b9;rw[hc]
    rw[vK];exact(fZ.fm a2).agg _ _ _ _ _ _ g2
   ·cases h
  ·cases h
 ·split at h
  ·rename_i eP an aq
   split at h
   ·rename_i aa
    cases h;obtain⟨y,g1,g2⟩:=Fits.one (P:=P) (w:=w) hf (zia aw an) (β:=β) (N:=0);obtain⟨ds,b5,a2,a3⟩:=BA 20 g1 aq;obtain⟨d,pf,rfl,rfl,hn⟩:=lN b5
    cases mw hn
    cases a2 with
    |cons ai _=>
     have dC:=U7 aa
     refine⟨d.v,?_,?_⟩
     ·show br w (l4 w) [] β 0 (aF.fm d) v
      have:aF.fm d= .av d.av:=U6 (x:=d.v) dC
      rw[this];exact ai.fm _ _ _ _ _ _ g2
     ·have:=a3 d (List.mem_singleton.2 rfl)
      unfold tV
      split
      ·rename_i c x heq
       exact absurd (congrArg aF.r heq) (dC c)
      ·exact this
   ·cases h
  ·cases h
theorem Vw(K:Kids P (· < P.types.size)){β:Nat→Value}{base ob:Nat}{sp:Nat→Bool}{held:Bool}{reach:Reach}: ∀{ts:List TypeId} {vs:List Value} {ds:List (DataW H)} {ps:List MemPlace} {rs:List aU},DataW.TrodAll enc P w base sp held ts vs ds ps→FT P T ts=some rs→
 (∀q∈DataW.weightsEach P ts ds,q≤reachBytes)→(∀(j:Nat) t v,ts[j]? =some t→vs[j]? =some v→Value.okWide P w reach ob t v)→
 ds.length=ts.length∧∃dl:List aF,dl.map aF.r=rs∧dl.length=vs.length∧(∀(j:Nat) x,(dl.map aF.fm)[j]? =some x→∃v,vs[j]? =some v∧br w (l4 w) [] β 0 x v)∧∀d∈dl,tV d
 |[],vs,ds,ps,rs,h,ak,_,_=>by
  obtain⟨rfl,rfl,rfl⟩:=trodAll_nil h;cases ak;exact⟨rfl,[],rfl,rfl,by simp,by simp⟩
 |t::ts,vs,ds,ps,rs,h,ak,hw,an=>by
  obtain⟨v,zkb,d,pf,p,q,rfl,rfl,rfl,aa,ae⟩:=trodAll_cons h;unfold FT at ak
  split at ak
  ·rename_i r zkc rG ag gL
   cases ak;obtain⟨g0,dl,g1,g2,g3,g4⟩:=Vw K ae gL (fun q aH=>hw q (by rw[DataW.weightsEach];exact List.mem_append_right _ aH)) fun j bC bg af s8=>an (j+1) bC bg (by simpa using af) (by simpa using s8)
   obtain⟨x,b5,a2⟩:=zih (β:=β) (zh9 K rG aa fun q aH=>hw q (by rw[DataW.weightsEach];exact List.mem_append_left _ aH)) (an 0 t v rfl rfl) ag
   refine⟨by simp[g0],⟨r,x⟩::dl,by simp[g1],by simp[g2],fun j y af=>?_,fun d hd=>?_⟩
   ·cases j with
    |zero=>simp at af;subst af;exact⟨v,rfl,b5⟩
    |succ j=>simpa using g3 j y (by simpa using af)
   ·rcases List.mem_cons.1 hd with rfl|hd
    ·exact a2
    ·exact g4 d hd
  ·cases ak
theorem Vx{G:a7}{f:FuncId}{fn:Func}{s:ChangeSpec}{args:Array Value}{ds gs:List (DataW H)}{before:List MemPlace}{tb:TypeId}{ob:Nat}{reach:Reach}{m:aQ}
 (hE:DataW.Whole enc P fn.params.toList s.vars false w args.toList ds gs before)(aw:s.vars=[])(ai: ∀ds:List (DataW H),ds.length=fn.params.toList.length→s.fn H ds={results:=[.lit (.bool true)],args:=ds})
 (fh:(DataW.weightsEach P (fn.params.toList++s.plain.varTypes P) (ds++gs)).all (· ≤reachBytes)=true)(qx: ∀(j:Nat) t v,fn.params[j]? =some t→args[j]? =some v→Value.okWide P w reach ob t v)
 (zii:s.plain.varTypes P=[])(rC:fn.resultTypes= #[tb])(N5:P.underlying tb=some .bool)(K:Kids P (· < P.types.size))(aR: ∀t e,t<P.types.size→P.underlying t=some (.slice e)→0<P.cellsOf e)(uF: ∀t∈fn.params.toList,t<P.types.size)
 (rH:FT P T fn.params.toList=some m.ps)(k4:so w (l4 w) G)(hc:bI P G f m)(hm: ∀x,(∀d∈dx m.ps x,tV d)→kO m.pre x∧kP m.rs (m.m x)=pL true):
 Calls P f args w fun e w'=>∃v,e= .returned v∧s.post enc P fn false true false false w args v w':=by
 have zij:=hE
 obtain⟨p,q,dn,Vy,rfl,_,_⟩:=hE
 rw[aw]at Vy
 obtain⟨rfl,rfl⟩:=trodVars_none Vy
 rw[zii,List.append_nil,List.append_nil]at fh
 obtain⟨nX,dl,b5,a2,a3,a4⟩:=Vw (T:=T) (β:=fun _=>undef) K dn rH (fun q aH=>by simpa using List.all_eq_true.1 fh q aH) fun j t v af s8=>qx j t v (by simpa using af) (by simpa using s8)
 have Bw:dx m.ps (b8 m.ps dl)=dl:=ym b5
 obtain⟨zik,ag⟩:=hm (b8 m.ps dl) (by rw[Bw];exact a4)
 have ho:=(hc (b8 m.ps dl) zik).frame (σ:=[]) (n:=0) (FE _) fun r bU ag=>by rw[ag];exact NL
 refine zie (β:=fun _=>undef) zij aw (by rw[List.append_nil];exact ai ds nX) rC N5 K aR uF (avs':=nu m.ps (b8 m.ps dl)) ?_ (fun i x hx=>?_) k4 (ho.res fun r bU ⟨aa,_,ae⟩=>⟨ae.trans ag,aa⟩)
 ·unfold nu
  rw[Bw,List.length_map,a2];exact Array.length_toList.symm
 ·unfold nu at hx
  rw[Bw]at hx;obtain⟨v,aa,ae⟩:=a3 i x hx
  have:args.getD i undef=v:=by
   have sX:args[i]? =some v:=by simpa using aa
   rw[Array.getD_eq_getD_getElem?,sX];rfl
  rw[this];exact ae
end
end Go.aK
namespace Go.aK
open Go Go.Proofs Go.Shelf Go.RowKit
variable {P:Program} {a6:Ren}
theorem Vz(w:World): ∀(l:List Int) (a:Addr) (acc:ByteArray),(∀j x,l[j]? =some x→w.cell? (a.add j)=some (.int .u8 x))→
 (loadBytes a acc l.length).run P w= .ok (l.foldl (fun r n=>r.push (UInt8.ofNat n.toNat)) acc) w
 |[],a,acc,_=>by simp[loadBytes]
 |x::l,a,acc,h=>by
  have aL:w.cell? a=some (.int .u8 x):=by
   have:=h 0 x rfl
   simpa[Addr.add]using this
  have aX:=Vz w l (a.add 1) (acc.push (UInt8.ofNat x.toNat)) (fun j y ax=>by
   have:=h (j+1) y (by simpa using ax)
   have e:(a.add 1).add j=a.add (j+1):=by
    unfold Addr.add
    by_cases af:j=0
    ·subst af;simp
    ·simp[af];omega
   rw[e];exact this)
  simp only[List.length_cons,loadBytes,Sem.run_bind,run_load,aL,Result.andThen];exact aX
theorem zil(w:World)(FU it ty e:TypeId)(ak:P.underlying FU=some (.pointer e))(hc:P.cellsOf e=1)(g cells:Nat)(Kv:w.shape? g=some (e,cells))(l:List Int)(aL:l≠[])(hn:l.length≤cells)(sU:l.length≤9223372036854775807)
 (k9: ∀j x,l[j]? =some x→w.cell? ((⟨g,0,none⟩:Addr).add j)=some (.int .u8 x)):
 (Builtin.unsafeString_ #[FU,it] ty #[.pointer (some ⟨g,0,none⟩),.int .i64 l.length]).run P w= .ok (.string (bytesOf l)) (w.freeze ⟨g,0,none⟩ l.length):=by
 have aq:l.length≠0:=by simpa using aL
 have zt:=Vz (P:=P) w l ⟨g,0,none⟩ .empty k9
 have zim:=Lib.liesAt_bytes (P:=P) hc (cells/ P.cellsOf e) l.length (by rw[hc];simpa using hn)
 have zin: ¬(9223372036854775807:Int)<(l.length:Int):=by omega
 have Oa:Builtin.unsafeString_ #[FU,it] ty #[.pointer (some ⟨g,0,none⟩),.int .i64 l.length]=
  (do
   let n ←asInt (.int .i64 l.length)
   if n<0 then runtimePanic (.error "unsafe.String: len out of range")
   if n>IntKind.i64.max then unsupported (.unsafePointer "String: a length above the largest int")
   if n=0 then pure (.string .empty)
   else if ←variablesAt ⟨g,0,none⟩ (←elemOf FU) n.toNat then do
    let s ←loadBytes ⟨g,0,none⟩ .empty n.toNat
    freeze ⟨g,0,none⟩ n.toNat
    pure (.string s)
   else unsupported (.unsafePointer "String: not so many bytes at ptr")):=rfl
 rw[Oa]
 have zio:IntKind.i64.max=9223372036854775807:=rfl
 have ziq: ¬(l.length:Int)<0:=by omega
 simp[asInt,asIntOf,zio,zin,ziq,aq,variablesAt,Kv,elemOf,run_underlying ak,zim,zt,bytesOf]
set_option maxHeartbeats 2000000 in
set_option maxRecDepth 100000 in
theorem zir(L:Lays.n169 P a6)(X:Builder.Extra P a6)(b g cap:Nat)(p:Value)(cur:Array Value)(l:List Int)(w:World)(aL:l≠[])(bf:w.heap[b]? =some (.cells #[p,.slice (some ⟨g,0,none⟩) l.length cap] (a6.t 72) (0,0)))
 (ah:w.heap[g]? =some (.cells cur (a6.t 5) (0,0)))(AN:l.length≤cap)(ie:cap≤maxLen)(dI:cur.size=cap*1)(k9: ∀j x,l[j]? =some x→w.cell? ((⟨g,0,none⟩:Addr).add j)=some (.int .u8 x)):
 Calls P (a6.f 169) #[.pointer (some ⟨b,0,none⟩)] w fun e w'=>e= .returned (.string (bytesOf l))∧w'=w.drew.freeze ⟨g,0,none⟩ l.length:=by
 have Dq:l.length≠0:=by simpa using aL
 have aV:w.drew.cell? ⟨b,1,none⟩=some (.slice (some ⟨g,0,none⟩) l.length cap):=by
  have:w.drew.heap[b]? =some (.cells #[p,.slice (some ⟨g,0,none⟩) l.length cap] (a6.t 72) (0,0)):=bf
  rw[Lib.cell_of_heap this];rfl
 have Ob:(Builtin.unsafeSliceData_ #[(a6.t 37)] (a6.t 127) #[.slice (some ⟨g,0,none⟩) l.length cap]).run P w.drew= .ok (.pointer (some ⟨g,0,none⟩)) w.drew:=
  Lib.run_unsafeSliceData_row _ _ _ _ _ _ (by omega)
 have Oc:(Builtin.unsafeString_ #[(a6.t 127),(a6.t 3)] (a6.t 9) #[.pointer (some ⟨g,0,none⟩),.int .i64 l.length]).run P w.drew= .ok (.string (bytesOf l)) (w.drew.freeze ⟨g,0,none⟩ l.length):=by
  refine zil w.drew (a6.t 127) (a6.t 3) (a6.t 9) (a6.t 5) L.t127 X.cellsByte g cur.size (by have dV:w.drew.heap[g]? =some (.cells cur (a6.t 5) (0,0)):=ah;simp[World.shape?,dV]) l aL (by omega) (by unfold maxLen at ie;omega) ?_
  intro j x hx;exact k9 j x hx
 have mixed:=L.mixed
 have t72:=L.t72;have a72:=L.a72;have z72:=L.z72;have v72:=L.v72;have Od:=run_underlying L.t72
 have t70:=L.t70;have a70:=L.a70;have z70:=L.z70;have v70:=L.v70;have Oe:=run_underlying L.t70
 have t37:=L.t37;have a37:=L.a37;have z37:=L.z37;have v37:=L.v37;have Of:=run_underlying L.t37
 have t127:=L.t127;have a127:=L.a127;have z127:=L.z127;have v127:=L.v127;have Og:=run_underlying L.t127
 have t3:=L.t3;have a3:=L.a3;have z3:=L.z3;have v3:=L.v3;have yt:=run_underlying L.t3
 have t9:=L.t9;have a9:=L.a9;have z9:=L.z9;have v9:=L.v9;have Oh:=run_underlying L.t9
 have t5:=X.t5;have a5:=X.a5;have z5:=X.z5;have v5:=X.v5;have Oi:=run_underlying X.t5
 go_enter L.f169,Body.n169_ntmps a6
 go_wp2
 go_region_o
 all_goals (go_wp2;go_ret;exact⟨rfl,rfl⟩)
set_option maxHeartbeats 2000000 in
set_option maxRecDepth 100000 in
theorem VA(L:Lays.n169 P a6)(X:Builder.Extra P a6)(b:Nat)(p:Value)(w:World)(bf:w.heap[b]? =some (.cells #[p,.slice none 0 0] (a6.t 72) (0,0))):
 Calls P (a6.f 169) #[.pointer (some ⟨b,0,none⟩)] w fun e w'=>e= .returned (.string ⟨#[]⟩)∧w'=w.drew:=by
 have Oc:=Any.unsafeString_none L X
 have aV:w.drew.cell? ⟨b,1,none⟩=some (.slice none 0 0):=by
  have:w.drew.heap[b]? =some (.cells #[p,.slice none 0 0] (a6.t 72) (0,0)):=bf
  rw[Lib.cell_of_heap this];rfl
 have Ob:(Builtin.unsafeSliceData_ #[(a6.t 37)] (a6.t 127) #[.slice none 0 0]).run P w.drew= .ok (.pointer none) w.drew:=rfl
 have mixed:=L.mixed
 have t72:=L.t72;have a72:=L.a72;have z72:=L.z72;have v72:=L.v72;have Od:=run_underlying L.t72
 have t70:=L.t70;have a70:=L.a70;have z70:=L.z70;have v70:=L.v70;have Oe:=run_underlying L.t70
 have t37:=L.t37;have a37:=L.a37;have z37:=L.z37;have v37:=L.v37;have Of:=run_underlying L.t37
 have t127:=L.t127;have a127:=L.a127;have z127:=L.z127;have v127:=L.v127;have Og:=run_underlying L.t127
 have t3:=L.t3;have a3:=L.a3;have z3:=L.z3;have v3:=L.v3;have yt:=run_underlying L.t3
 have t9:=L.t9;have a9:=L.a9;have z9:=L.z9;have v9:=L.v9;have Oh:=run_underlying L.t9
 have t5:=X.t5;have a5:=X.a5;have z5:=X.z5;have v5:=X.v5;have Oi:=run_underlying X.t5
 go_enter L.f169,Body.n169_ntmps a6
 go_wp2
 go_region_o
 all_goals (go_wp2;go_ret;exact⟨rfl,rfl⟩)
set_option maxHeartbeats 2000000 in
set_option maxRecDepth 100000 in
theorem zis(L:Lays.n169 P a6)(X:Builder.Extra P a6)(b g cap:Nat)(p:Value)(w:World)(hC:cap≠0)(bf:w.heap[b]? =some (.cells #[p,.slice (some ⟨g,0,none⟩) 0 cap] (a6.t 72) (0,0))):
 Calls P (a6.f 169) #[.pointer (some ⟨b,0,none⟩)] w fun e w'=>e= .returned (.string ⟨#[]⟩)∧w'=w.drew:=by
 have Oc:=Any.unsafeString_none L X
 have aV:w.drew.cell? ⟨b,1,none⟩=some (.slice (some ⟨g,0,none⟩) 0 cap):=by
  have:w.drew.heap[b]? =some (.cells #[p,.slice (some ⟨g,0,none⟩) 0 cap] (a6.t 72) (0,0)):=bf
  rw[Lib.cell_of_heap this];rfl
 have Ob:(Builtin.unsafeSliceData_ #[(a6.t 37)] (a6.t 127) #[.slice (some ⟨g,0,none⟩) 0 cap]).run P w.drew= .ok (.pointer (some ⟨g,0,none⟩)) w.drew:=
  Lib.run_unsafeSliceData_row _ _ _ _ _ _ hC
 clear hC
 have mixed:=L.mixed
 have t72:=L.t72;have a72:=L.a72;have z72:=L.z72;have v72:=L.v72;have Od:=run_underlying L.t72
 have t70:=L.t70;have a70:=L.a70;have z70:=L.z70;have v70:=L.v70;have Oe:=run_underlying L.t70
 have t37:=L.t37;have a37:=L.a37;have z37:=L.z37;have v37:=L.v37;have Of:=run_underlying L.t37
 have t127:=L.t127;have a127:=L.a127;have z127:=L.z127;have v127:=L.v127;have Og:=run_underlying L.t127
 have t3:=L.t3;have a3:=L.a3;have z3:=L.z3;have v3:=L.v3;have yt:=run_underlying L.t3
 have t9:=L.t9;have a9:=L.a9;have z9:=L.z9;have v9:=L.v9;have Oh:=run_underlying L.t9
 have t5:=X.t5;have a5:=X.a5;have z5:=X.z5;have v5:=X.v5;have Oi:=run_underlying X.t5
 go_enter L.f169,Body.n169_ntmps a6
 go_wp2
 go_region_o
 all_goals (go_wp2;go_ret;exact⟨rfl,rfl⟩)
set_option maxHeartbeats 2000000 in
set_option maxRecDepth 100000 in
theorem zit(L:Lays.n169 P a6)(X:Builder.Extra P a6)(b:Nat)(cW q:Addr)(p:Value)(w dH:World)(bf:w.heap[b]? =some (.cells #[p,.slice (some cW) 0 0] (a6.t 72) (0,0)))(pa:dH.heap[b]? =w.heap[b]?)
 (Ob:(Builtin.unsafeSliceData_ #[(a6.t 37)] (a6.t 127) #[.slice (some cW) 0 0]).run P w.drew= .ok (.pointer (some q)) dH):
 Calls P (a6.f 169) #[.pointer (some ⟨b,0,none⟩)] w fun e w'=>e= .returned (.string ⟨#[]⟩)∧w'=dH:=by
 have Oc:=Any.unsafeString_none L X
 have aV:w.drew.cell? ⟨b,1,none⟩=some (.slice (some cW) 0 0):=by
  have:w.drew.heap[b]? =some (.cells #[p,.slice (some cW) 0 0] (a6.t 72) (0,0)):=bf
  rw[Lib.cell_of_heap this];rfl
 have dp:dH.cell? ⟨b,1,none⟩=some (.slice (some cW) 0 0):=by
  have:dH.heap[b]? =some (.cells #[p,.slice (some cW) 0 0] (a6.t 72) (0,0)):=pa.trans bf
  rw[Lib.cell_of_heap this];rfl
 clear pa
 have mixed:=L.mixed
 have t72:=L.t72;have a72:=L.a72;have z72:=L.z72;have v72:=L.v72;have Od:=run_underlying L.t72
 have t70:=L.t70;have a70:=L.a70;have z70:=L.z70;have v70:=L.v70;have Oe:=run_underlying L.t70
 have t37:=L.t37;have a37:=L.a37;have z37:=L.z37;have v37:=L.v37;have Of:=run_underlying L.t37
 have t127:=L.t127;have a127:=L.a127;have z127:=L.z127;have v127:=L.v127;have Og:=run_underlying L.t127
 have t3:=L.t3;have a3:=L.a3;have z3:=L.z3;have v3:=L.v3;have yt:=run_underlying L.t3
 have t9:=L.t9;have a9:=L.a9;have z9:=L.z9;have v9:=L.v9;have Oh:=run_underlying L.t9
 have t5:=X.t5;have a5:=X.a5;have z5:=X.z5;have v5:=X.v5;have Oi:=run_underlying X.t5
 go_enter L.f169,Body.n169_ntmps a6
 go_wp2
 go_region_o
 all_goals (go_wp2;go_ret;exact⟨rfl,rfl⟩)
theorem ziu(L:Lays.n169 P a6)(cW:Addr)(w:World)(hex:cW.block<w.heap.size): ∃q dH,(Builtin.unsafeSliceData_ #[(a6.t 37)] (a6.t 127) #[.slice (some cW) 0 0]).run P w= .ok (.pointer (some q)) dH∧(dH=w∨∃o,dH=w.alloc o):=by
 obtain⟨o,an⟩: ∃o,w.heap[cW.block]? =some o:=⟨_,Array.getElem?_eq_getElem hex⟩
 have he:(elemOf (a6.t 127)).run P w= .ok (a6.t 5) w:=by simp[elemOf,run_underlying L.t127]
 have Oa:Builtin.unsafeSliceData_ #[(a6.t 37)] (a6.t 127) #[.slice (some cW) 0 0]=
  (do
   if(0:Nat)≠0 then pure (.pointer (some cW))
   else if(←viewAt cW.block).isSome then pure (.pointer (some cW))
   else pure (.pointer (some ⟨←newObj (.view cW (←elemOf (a6.t 127))),0,none⟩))):=rfl
 rw[Oa]
 unfold viewAt
 cases ai:w.shape? cW.block with
 |some s=>exact⟨⟨w.heap.size,0,none⟩,w.alloc (.view cW (a6.t 5)),by simp[ai,he],.inr ⟨_,rfl⟩⟩
 |none=>
  cases o with
  |cells c e f=>simp[World.shape?,an]at ai
  |view a t=>exact⟨cW,w,by simp[ai,getObj,Sem.run,an],.inl rfl⟩
  |_=>exact⟨⟨w.heap.size,0,none⟩,w.alloc (.view cW (a6.t 5)),by simp[ai,getObj,Sem.run,an,he],.inr ⟨_,rfl⟩⟩
section
variable {w w':World} {ro:Nat→Prop} {σ:Heap} {β:Nat→Value} {n rid:Nat}
theorem hh.drop(h:hh w ro σ β n){t:TypeId}{m:Nat}{es:List (List a1)}(ag:aE σ rid=some (.row false t m es))(hw: ∀k,k<w.heap.size→b2 (β rid)≠some k→w'.heap[k]? =w.heap[k]?)(bM:w.heap.size≤w'.heap.size):
 hh w' ro (gj σ rid) β n:=by
 have cb: ∀b,ro b→w'.heap[b]? =w.heap[b]? :=fun b ad=>hw b (h.lt b ad) fun e=>h.fg b ad ⟨rid,_,ag,rfl,e⟩
 have sub: ∀k o,aE (gj σ rid) k=some o→aE σ k=some o∧k≠rid:=by
  intro k o aj;rw[zC]at aj
  split at aj
  ·cases aj
  ·rename_i b3
   exact⟨aj,fun e=>b3 e.symm⟩
 have key: ∀x c,br w ro σ β n x c→br w' ro (gj σ rid) β n x c:=fun x c hx=>hx.keep cb (fun _ h=>h) (Nat.le_refl _) (fun id t cs aj=>⟨rfl,t,cs,(sub _ _ aj).1⟩) (fun id z t n es aj=>⟨rfl,z,t,es,(sub _ _ aj).1⟩) (fun id bO aj=>⟨rfl,bO,(sub _ _ aj).1⟩)
 refine⟨fun k o aj=>?_,fun k bj o cz b aj eA=>h.inj k bj o cz b (sub _ _ aj).1 (sub _ _ eA).1,fun b ad ⟨k,o,aj,aq,bf⟩=>h.fg b ad ⟨k,o,(sub _ _ aj).1,aq,bf⟩,fun b ad=>Nat.lt_of_lt_of_le (h.lt b ad) bM⟩
 obtain⟨gg,b3⟩:=sub k o aj
 have gJ:=h.c5 k o gg
 have Oj:o.live=true→∀b,b2 (β k)=some b→w'.heap[b]? =w.heap[b]? :=fun aq b ad=>hw b (gJ.hJ aq ad) fun e=>b3 (h.inj k rid o _ b gg ag aq rfl ad e)
 cases gJ with
 |box t cs b arr aa ae au aP=>exact .box t cs b arr aa ((Oj rfl b (by rw[aa];rfl)).trans ae) au fun j x af=>key _ _ (aP j x af)
 |row t n es xs aa ae au=>exact .row t n es xs (aa.keep (fun b ad=>Oj rfl b ad) bM) ae fun j x af=>(au j x af).keep cb fun _ h=>h
 |ga t n es aa=>exact .ga t n es (aa.keep cb fun _ h=>h)
 |bL bO b o aa ae au=>exact .bL bO b o aa ((Oj rfl b aa).trans ae) (bO.mono _ _ _ _ (fun x c h=>h.keep cb fun _ h=>h) au)
theorem ziv(w:World)(g m k:Nat)(aj:k≠g):(w.freeze ⟨g,0,none⟩ m).heap[k]? =w.heap[k]? :=by
 unfold World.freeze
 split
 ·rfl
 ·simp only[Array.getElem?_modify]
  rw[if_neg (fun e=>aj e.symm)]
theorem ziw(w:World)(a:Addr)(m:Nat):(w.freeze a m).os=w.os∧(w.freeze a m).tape=w.tape∧(w.freeze a m).output=w.output∧(w.freeze a m).heap.size=w.heap.size:=by
 unfold World.freeze
 split
 ·exact⟨rfl,rfl,rfl,rfl⟩
 ·exact⟨rfl,rfl,rfl,by simp⟩
theorem zix(L:Lays.n169 P a6)(X:Builder.Extra P a6){G:a7}{id:Nat}{x0:aD}{l:List Int}(aL:l≠[])(bc:aE σ id=some (.box (a6.t 72) [x0,.aN rid]))(ag:aE σ rid=some (.row false (a6.t 5) 1 (l.map fun z=>[.v (.int .u8 z)]))):
 dF P G (a6.f 169) [.ptr id 0] σ n fun r bU=>r= .av (.v (.string (bytesOf l)))∧bU=gj σ rid:=by
 intro w β ro ec aa ae au aP bE
 have dg:=au.c5 id _ bc
 have fP:=au.c5 rid _ ag
 cases dg with
 |box _ _ b arr aB bd cj eo=>
  cases fP with
  |row _ _ _ xs cY b3 eV=>
   have hC:ec.getD 0 undef= .pointer (some ⟨b,0,none⟩):=by
    have:=ae 0 _ rfl
    generalize ec.getD 0 undef=bR at this⊢
    cases this with
    |ptr _ _ _ aq kf=>
     obtain⟨b',c0,df⟩:=kf _ _ bc;rw[aB]at c0
     cases c0
     exact df
   have sh:ec= #[.pointer (some ⟨b,0,none⟩)]:=by
    have ai:ec.size=1:=aa
    apply Array.ext
    ·simpa using ai
    ·intro i yu mv
     have:i=0:=by omega
     subst this;simpa[Array.getD,ai]using hC
   have BB:arr.getD 1 undef=β rid:=by
    have:=eo 1 _ rfl
    generalize arr.getD 1 undef=bR at this⊢
    cases this with
    |aN _ _ _ ak=>exact ak _ _ _ _ ag
   have r0:arr= #[arr.getD 0 undef,β rid]:=by
    have ai:arr.size=2:=cj
    apply Array.ext
    ·simpa using ai
    ·intro i yu mv
     have hi:i=0∨i=1:=by omega
     rcases hi with rfl|rfl
     ·simp[Array.getD,ai]
     ·have:=BB
      simp only[Array.getD,ai]at this;simpa using this
   have hlen:(l.map fun z=>[a1.v (.int .u8 z)]).length=l.length:=List.length_map ..
   rcases cY.2 with⟨_,aR⟩|⟨g,cap,cur,aw,ak,ah,hle,ie,dI,lI⟩
   ·rw[hlen]at aR
    exact absurd (List.eq_nil_of_length_eq_zero aR) aL
   ·rw[hlen]at aw hle lI
    have yx:b2 (β rid)=some g:=by rw[aw];simp[b2,Nat.ne_of_gt ak]
    rw[sh];refine Calls.mono (zir L X b g cap (arr.getD 0 undef) cur l w aL (by rw[bd,←aw,←r0]) ah hle ie dI fun j x hx=>?_) fun e w' ⟨he,hw⟩=>?_
    ·have af:=(List.getElem?_eq_some_iff.1 hx).1
     have hc:=eV j (.v (.int .u8 x)) (by rw[KW,List.getElem?_map,hx];rfl)
     have ziy:xs.getD j undef= .int .u8 x:=by
      generalize xs.getD j undef=bR at hc⊢
      cases hc with
      |v=>rfl
     have FV:xs[j]? =some (.int .u8 x):=by
      have jK:j<xs.length:=by rw[cY.1,hlen];omega
      rw[←ziy];simp[List.getD,List.getElem?_eq_getElem jK]
     rw[addLit,Nat.zero_add,cell_of_row w g j cur (a6.t 5) (0,0) ah];rw[←lI,List.getElem?_take]at FV
     split at FV
     ·simpa using FV
     ·cases FV
    ·subst hw
     obtain⟨f1,f2,f3,f4⟩:=ziw w.drew ⟨g,0,none⟩ l.length
     have nQ: ∀k,k<w.heap.size→b2 (β rid)≠some k→(w.drew.freeze ⟨g,0,none⟩ l.length).heap[k]? =w.heap[k]? :=fun k _ aj=>ziv w.drew g l.length k fun e=>aj (by rw[yx,e])
     have bM:w.heap.size≤(w.drew.freeze ⟨g,0,none⟩ l.length).heap.size:=Nat.le_of_eq f4.symm
     have sub: ∀k o,aE (gj σ rid) k=some o→aE σ k=some o:=by
      intro k o aj;rw[zC]at aj
      split at aj
      ·cases aj
      ·exact aj
     refine⟨_,_,gj σ rid,β,ro,n,he,⟨rfl,rfl⟩,.fD rfl,au.drop ag nQ bM,⟨f1,f2,f3,bM,fun k aj an=>nQ k aj fun e=>an ⟨rid,_,ag,rfl,e⟩,fun _ h=>.inl h,fun _ h=>h,fun k ⟨j,o,af,aq,ad⟩=>.inl ⟨j,o,sub _ _ af,aq,ad⟩,fun k aj o ah=>⟨by rw[sub _ _ ah];simp,rfl⟩,fun k o ah=>bE k o (sub _ _ ah),Nat.le_refl _⟩⟩
theorem hh.same(h:hh w ro σ β n)(he:w'.heap=w.heap):hh w' ro σ β n:=by
 have cb: ∀b,ro b→w'.heap[b]? =w.heap[b]? :=fun b _=>by rw[he]
 have key: ∀x c,br w ro σ β n x c→br w' ro σ β n x c:=fun x c hx=>hx.keep cb (fun _ h=>h) (Nat.le_refl _) (fun id t cs aj=>⟨rfl,t,cs,aj⟩) (fun id z t n es aj=>⟨rfl,z,t,es,aj⟩) (fun id bO aj=>⟨rfl,bO,aj⟩)
 refine⟨fun k o aj=>?_,h.inj,h.fg,fun b ad=>by rw[he];exact h.lt b ad⟩
 have gJ:=h.c5 k o aj
 cases gJ with
 |box t cs b arr aa ae au aP=>exact .box t cs b arr aa (by rw[he];exact ae) au fun j x af=>key _ _ (aP j x af)
 |row t n es xs aa ae au=>exact .row t n es xs (aa.keep (fun b ad=>by rw[he]) (Nat.le_of_eq (by rw[he]))) ae fun j x af=>(au j x af).keep cb fun _ h=>h
 |ga t n es aa=>exact .ga t n es (aa.keep cb fun _ h=>h)
 |bL bO b o aa ae au=>exact .bL bO b o aa (by rw[he];exact ae) (bO.mono _ _ _ _ (fun x c h=>h.keep cb fun _ h=>h) au)
theorem Trans.drew(hx: ∀id o,aE σ id=some o→id<n):Trans ⟨w,ro,σ,β,n⟩ w.drew ro σ β n:=
 ⟨rfl,rfl,rfl,Nat.le_refl _,fun _ _ _=>rfl,fun _ h=>.inl h,fun _ h=>h,fun _ h=>.inl h,fun k _ o ah=>⟨by rw[ah];simp,rfl⟩,hx,Nat.le_refl _⟩
theorem zaU(L:Lays.n169 P a6)(X:Builder.Extra P a6){G:a7}{id:Nat}{x0:aD}(bc:aE σ id=some (.box (a6.t 72) [x0,.av (.v (.slice none 0 0))])):
 dF P G (a6.f 169) [.ptr id 0] σ n fun r bU=>r= .av (.v (.string ⟨#[]⟩))∧bU=σ:=by
 intro w β ro ec aa ae au aP bE
 have dg:=au.c5 id _ bc
 cases dg with
 |box _ _ b arr aB bd cj eo=>
  have hC:ec.getD 0 undef= .pointer (some ⟨b,0,none⟩):=by
   have:=ae 0 _ rfl
   generalize ec.getD 0 undef=bR at this⊢
   cases this with
   |ptr _ _ _ aq kf=>
    obtain⟨b',c0,df⟩:=kf _ _ bc;rw[aB]at c0
    cases c0
    exact df
  have sh:ec= #[.pointer (some ⟨b,0,none⟩)]:=by
   have ai:ec.size=1:=aa
   apply Array.ext
   ·simpa using ai
   ·intro i yu mv
    have:i=0:=by omega
    subst this;simpa[Array.getD,ai]using hC
  have BB:arr.getD 1 undef= .slice none 0 0:=br.val (eo 1 _ rfl)
  have r0:arr= #[arr.getD 0 undef,.slice none 0 0]:=by
   have ai:arr.size=2:=cj
   apply Array.ext
   ·simpa using ai
   ·intro i yu mv
    have hi:i=0∨i=1:=by omega
    rcases hi with rfl|rfl
    ·simp[Array.getD,ai]
    ·have:=BB
     simp only[Array.getD,ai]at this;simpa using this
  rw[sh];refine Calls.mono (VA L X b (arr.getD 0 undef) w (by rw[bd,←r0])) fun e w' ⟨he,hw⟩=>?_
  subst hw;exact⟨_,_,σ,β,ro,n,he,⟨rfl,rfl⟩,.fD rfl,au.same rfl,Trans.drew bE⟩
theorem ziz(L:Lays.n169 P a6)(X:Builder.Extra P a6){G:a7}{id:Nat}{x0:aD}(bc:aE σ id=some (.box (a6.t 72) [x0,.aN rid]))(ag:aE σ rid=some (.row false (a6.t 5) 1 [])):
 dF P G (a6.f 169) [.ptr id 0] σ n fun r bU=>r= .av (.v (.string ⟨#[]⟩))∧bU=gj σ rid:=by
 intro w β ro ec aa ae au aP bE
 have dg:=au.c5 id _ bc
 have fP:=au.c5 rid _ ag
 cases dg with
 |box _ _ b arr aB bd cj eo=>
  cases fP with
  |row _ _ _ xs cY b3 eV=>
   have hC:ec.getD 0 undef= .pointer (some ⟨b,0,none⟩):=by
    have:=ae 0 _ rfl
    generalize ec.getD 0 undef=bR at this⊢
    cases this with
    |ptr _ _ _ aq kf=>
     obtain⟨b',c0,df⟩:=kf _ _ bc;rw[aB]at c0
     cases c0
     exact df
   have sh:ec= #[.pointer (some ⟨b,0,none⟩)]:=by
    have ai:ec.size=1:=aa
    apply Array.ext
    ·simpa using ai
    ·intro i yu mv
     have:i=0:=by omega
     subst this;simpa[Array.getD,ai]using hC
   have BB:arr.getD 1 undef=β rid:=by
    have:=eo 1 _ rfl
    generalize arr.getD 1 undef=bR at this⊢
    cases this with
    |aN _ _ _ ak=>exact ak _ _ _ _ ag
   have r0:arr= #[arr.getD 0 undef,β rid]:=by
    have ai:arr.size=2:=cj
    apply Array.ext
    ·simpa using ai
    ·intro i yu mv
     have hi:i=0∨i=1:=by omega
     rcases hi with rfl|rfl
     ·simp[Array.getD,ai]
     ·have:=BB
      simp only[Array.getD,ai]at this;simpa using this
   have bG:b<w.heap.size:=(Array.getElem?_eq_some_iff.1 bd).1
   have fin:Calls P (a6.f 169) #[.pointer (some ⟨b,0,none⟩)] w fun e w'=>e= .returned (.string ⟨#[]⟩)∧(w'=w.drew∨∃o,w'=w.drew.alloc o):=by
    rcases cY.2 with⟨⟨c,aw,uT⟩,_⟩|⟨g,cap,cur,aw,ak,_⟩
    ·cases c with
     |none=>exact Calls.mono (VA L X b (arr.getD 0 undef) w (by rw[bd,←aw,←r0])) fun e w' ⟨he,hw⟩=>⟨he,.inl hw⟩
     |some cW=>
      obtain⟨q,dH,aH,VB⟩:=ziu L cW w.drew (uT cW rfl);refine Calls.mono (zit L X b cW q (arr.getD 0 undef) w dH (by rw[bd,←aw,←r0]) ?_ aH) fun e w' ⟨he,hw⟩=>⟨he,by rw[hw];exact VB⟩
      rcases VB with rfl|⟨o,rfl⟩
      ·rfl
      ·exact Lib.alloc_old w.drew _ b bG
    ·exact Calls.mono (zis L X b g cap (arr.getD 0 undef) w (Nat.ne_of_gt ak) (by rw[bd,←(show β rid= .slice (some ⟨g,0,none⟩) 0 cap from aw),←r0])) fun e w' ⟨he,hw⟩=>⟨he,.inl hw⟩
   rw[sh];refine Calls.mono fin fun e w' ⟨he,hw⟩=>?_
   have hold: ∀k,k<w.heap.size→w'.heap[k]? =w.heap[k]? :=fun k aj=>by
    rcases hw with rfl|⟨o,rfl⟩
    ·rfl
    ·exact Lib.alloc_old w.drew _ k aj
   have bM:w.heap.size≤w'.heap.size:=by
    rcases hw with rfl|⟨o,rfl⟩
    ·exact Nat.le_refl _
    ·show w.heap.size≤(w.heap.push _).size
     rw[Array.size_push];exact Nat.le_succ _
   have mO:w'.os=w.os∧w'.tape=w.drew.tape∧w'.output=w.output:=by
    rcases hw with rfl|⟨o,rfl⟩<;>exact⟨rfl,rfl,rfl⟩
   have sub: ∀k o,aE (gj σ rid) k=some o→aE σ k=some o:=by
    intro k o aj;rw[zC]at aj
    split at aj
    ·cases aj
    ·exact aj
   refine⟨_,_,gj σ rid,β,ro,n,he,⟨rfl,rfl⟩,.fD rfl,au.drop ag (fun k aj _=>hold k aj) bM,⟨mO.1,mO.2.1,mO.2.2,bM,fun k aj _=>hold k aj,fun _ h=>.inl h,fun _ h=>h,fun k ⟨j,o,af,aq,ad⟩=>.inl ⟨j,o,sub _ _ af,aq,ad⟩,fun k aj o ah=>⟨by rw[sub _ _ ah];simp,rfl⟩,fun k o ah=>bE k o (sub _ _ ah),Nat.le_refl _⟩⟩
theorem zaT(L:Lays.n169 P a6)(X:Builder.Extra P a6){G:a7}{id:Nat}{x0:aD}{l:List Int}(bc:aE σ id=some (.box (a6.t 72) [x0,.aN rid]))(ag:aE σ rid=some (.row false (a6.t 5) 1 (l.map fun z=>[.v (.int .u8 z)]))):
 dF P G (a6.f 169) [.ptr id 0] σ n fun r bU=>r= .av (.v (.string (bytesOf l)))∧bU=gj σ rid:=by
 cases l with
 |nil=>exact ziz L X bc ag
 |cons z l=>exact zix L X (by simp) bc ag
end
end Go.aK
namespace Go.aK
open Go
def qV:List (Nat × bF)→Nat→List (Nat × bF)
 |[],_=>[]
 |(k,x)::r,id=>match Nat.beq k id with
  |true=>qV r id
  |false=>(k,x)::qV r id
theorem Ok{G:a7}{e:Env}{id:Nat}: ∀(h:List (Nat × bF)),cx G e (qV h id)=gj (cx G e h) id
 |[]=>rfl
 |(k,x)::r=>by
  simp only[qV,cx,gj]
  by_cases aj:k=id
  ·subst aj
   simp only[Nat.beq_refl,if_true];exact Ok r
  ·have:Nat.beq k id=false:=by cases aH:Nat.beq k id with|true=>exact absurd (Nat.eq_of_beq_eq_true aH) aj|false=>rfl
   simp only[this,if_neg aj,cx,Ok r]
theorem Ol{k id:Nat}: ∀{h:List (Nat × bF)},eG k h=true→eG k (qV h id)=true
 |[],h=>h
 |(j,x)::r,h=>by
  have ba:x.lt k=true∧eG k r=true:=by cases x<;>simpa only[eG,Bool.and_eq_true]using h
  simp only[qV]
  split
  ·exact Ol ba.2
  ·show(x.lt k&&eG k (qV r id))=true
   rw[ba.1,Ol ba.2];rfl
def Om(vR qW t5:Nat)(inl:Nat→List ab→ao→aC)(f:Nat)(as:List ab)(S:ao):aC:=
 match Nat.beq f vR,as with
 |true,[.ed id 0]=>match c9 S.h id with
  |some (.di t [x0,.aN r])=>match c9 S.h r with
   |some (.rw bC .u8 x)=>match(Nat.beq t qW&&Nat.beq bC t5)&&(x.ey (.li .u8)&&x.lt S.k)with
    |true=>emit S.k [.f1 .cB x] [] (.cG .ch ⟨a8.put .emp 0 (.aT .str S.k),qV S.h r,S.n,S.k+1,S.g⟩)
    |false=>inl f as S
   |_=>inl f as S
  |some (.di t [x0,.cs (.slice none 0 0)])=>match Nat.beq t qW with
   |true=>.cG .ch ⟨a8.put .emp 0 (.cs (.string ⟨#[]⟩)),S.h,S.n,S.k,S.g⟩
   |false=>inl f as S
  |_=>inl f as S
 |_,_=>inl f as S
section
variable {P:Program} {G:a7} {M:List aQ} {inl:Nat→List ab→ao→aC} {vR qW t5:Nat}
def uK(P:Program)(G:a7)(vR qW t5:Nat):Prop:=
 (∀{σ:Heap} {n rid id:Nat} {x0:aD} {l:List Int},aE σ id=some (.box qW [x0,.aN rid])→aE σ rid=some (.row false t5 1 (l.map fun z=>[.v (.int .u8 z)]))→
  dF P G vR [.ptr id 0] σ n fun r bU=>r= .av (.v (.string (bytesOf l)))∧bU=gj σ rid)∧
 ∀{σ:Heap} {n id:Nat} {x0:aD},aE σ id=some (.box qW [x0,.av (.v (.slice none 0 0))])→dF P G vR [.ptr id 0] σ n fun r bU=>r= .av (.v (.string ⟨#[]⟩))∧bU=σ
theorem ziA(dn:uK P G vR qW t5)(bV:fO P G M inl):fO P G M (Om vR qW t5 inl):=fun f as S e ad aq hf ai=>by
 unfold Om at ai⊢
 split at ai
 rotate_left
 ·exact bV _ _ S e ad aq hf ai
 rename_i id ziB
 have aW:=Nat.eq_of_beq_eq_true ziB
 subst aW
 split at ai
 ·rename_i t x0 r ah
  split at ai
  rotate_left
  ·exact bV _ _ S e ad aq hf ai
  rename_i bC x On
  split at ai
  rotate_left
  ·exact bV _ _ S e ad aq hf ai
  rename_i aj;simp only[Bool.and_eq_true]at aj;obtain⟨⟨fx,gG⟩,k7,sP⟩:=aj
  have fx:=Nat.eq_of_beq_eq_true fx
  have gG:=Nat.eq_of_beq_eq_true gG
  subst fx gG
  have vO:hv S.k [bJ.f1 .cB x]=true:=by
   simp only[hv,bJ.lt,sP,Bool.and_self]
  have bQ:bW S.k e (de M e S.k [bJ.f1 .cB x]):=jS (Nat.le_refl _)
  have eJ:=jy (M:=M) (e:=e) vO 0 _ rfl
  have ziC:x.az (de M e S.k [bJ.f1 .cB x]) (.li .u8)=x.az e (.li .u8):=eE bQ sP
  simp only[Nat.add_zero,bJ.den,gF.den,gF.a,ziC]at eJ
  have lW:=dn.1 (σ:=cx G e S.h) (n:=S.n) (rid:=r) (id:=id) (x0:=x0.den G e) (l:=x.az e (.li .u8)) (by rw[eh,ah];rfl) (by rw[eh,On];rfl)
  refine lW.res fun ziD bU ⟨aa,ae⟩=>⟨⟨a8.put .emp 0 (.aT .str S.k),qV S.h r,S.n,S.k+1,S.g⟩,de M e S.k [bJ.f1 .cB x],by rw[lU];rfl,?_,?_,?_,ij bQ ad.g hf,bQ,Nat.le_succ _⟩
  ·rw[aa]
   show _=ab.den G _ (ao.at _ 0);unfold ao.at
   simp only[a8.hZ,if_true,ab.den,ab.dyn,eJ];rfl
  ·rw[ae]
   show _=cx G _ (qV S.h r);rw[Ok,xt bQ ad.h]
  ·refine⟨fun i y hi=>?_,Ol (tj (Nat.le_succ _) ad.h),n9 (Nat.le_succ _) ad.g⟩
   simp only[a8.hZ]at hi
   split at hi
   ·cases hi
    exact jR (Nat.lt_succ_self _)
   ·simp[a8.get]at hi
 ·rename_i t x0 ah
  split at ai
  rotate_left
  ·exact bV _ _ S e ad aq hf ai
  rename_i fx
  have fx:=Nat.eq_of_beq_eq_true fx
  subst fx
  have lW:=dn.2 (σ:=cx G e S.h) (n:=S.n) (id:=id) (x0:=x0.den G e) (by rw[eh,ah];rfl)
  refine lW.res fun ziD bU ⟨aa,ae⟩=>⟨⟨a8.put .emp 0 (.cs (.string ⟨#[]⟩)),S.h,S.n,S.k,S.g⟩,e,rfl,?_,?_,?_,hf,bW.refl _ _,Nat.le_refl _⟩
  ·rw[aa]
   show _=ab.den G _ (ao.at _ 0);unfold ao.at
   simp only[a8.hZ,if_true,ab.den]
  ·rw[ae]
  ·refine⟨fun i y hi=>?_,ad.h,ad.g⟩
   simp only[a8.hZ]at hi
   split at hi
   ·cases hi
    rfl
   ·simp[a8.get]at hi
 ·exact bV _ _ S e ad aq hf ai
end
end Go.aK
namespace Go.aK
open Go
def oq(n:Nat)(b:Bool)(f:bZ→Bool)(x:bZ):Bool:=
 match x.bS n with
 |true=>b
 |false=>f x
def si(n:Nat)(b:Bool)(f:bZ→Bool)(x:bZ):Bool:=
 match x.cX n with
 |true=>b
 |false=>f x
def aC.eO:aC→(bZ→Bool)→Bool
 | .cG x _,f=>f x
 | .lt _ _ t,f=>t.eO f
 | .eF _ _,_=>false
 | .it _ a b,f=>a.eO f&&b.eO f
 | .dB n a _ k,f=>a.eO (oq n (k.eO f) f)
 | .en m xid _ _ _ a k,f=>k.eO f&&a.eO (oq m true (si xid true f))
 | .eZ _ _ _ _ _,_=>false
 | .bad _,_=>false
def aC.h6(M:List aQ):aC→Env→(bZ→Bool)→(bZ→ao→Env→Prop)→Prop
 | .cG x S,e,_,Q=>Q x S e
 | .lt i x t,e,f,Q=>t.h6 M (a8.put e i (x.den M e)) f Q
 | .eF n t,e,f,Q=>match t.eO f with
  |true=>n.ok M e
  |false=>n.ok M e∧t.h6 M e f Q
 | .it g a b,e,f,Q=>match a.eO f,b.eO f with
  |true,true=>True
  |true,false=>g.az e .bool=false→b.h6 M e f Q
  |false,true=>g.az e .bool=true→a.h6 M e f Q
  |false,false=>(g.az e .bool=true→a.h6 M e f Q)∧(g.az e .bool=false→b.h6 M e f Q)
 | .dB n a ps k,e,f,Q=>a.h6 M e (oq n (k.eO f) f) fun x S ay=>bif x.bS n then k.h6 M (fQ e (fun r p=>⟨r,(p.dc S).get ay r⟩) ps) f Q else Q x S ay
 | .en m xid dj b0 ca a k,e,f,Q=>match k.eO f with
  |true=>∃I:Nat→bX ca→Prop,I 0 (b8 _ (dD e ca))∧∀(i:Nat) (v:bX ca),i<(cl (dj.den M e)).toNat→I i v→
   a.h6 M (bk (a8.put e b0 ⟨.int .i64,(i:Int)⟩) ca v) (oq m false (si xid true f)) fun x S ay=>bif x.bS m then I (i+1) (b8 _ (fz S ay ca))else bif x.cX xid then True else Q x S ay
  |false=>∃I:Nat→bX ca→Prop,I 0 (b8 _ (dD e ca))∧(∀(i:Nat) (v:bX ca),i<(cl (dj.den M e)).toNat→I i v→
   a.h6 M (bk (a8.put e b0 ⟨.int .i64,(i:Int)⟩) ca v) (oq m false (si xid false f)) fun x S ay=>bif x.bS m then I (i+1) (b8 _ (fz S ay ca))else bif x.cX xid then k.h6 M (bk e ca (b8 _ (fz S ay ca))) f Q else Q x S ay)∧
   ∀v,I (cl (dj.den M e)).toNat v→k.h6 M (bk e ca v) f Q
 | .eZ m xid ca a k,e,f,Q=>∃(I:bX ca→Prop) (jB:bX ca→Nat),I (b8 _ (dD e ca))∧jB (b8 _ (dD e ca))<dU∧∀(v:bX ca),I v→
  a.h6 M (bk e ca v) (oq m false (si xid (k.eO f) f)) fun x S ay=>bif x.bS m then I (b8 _ (fz S ay ca))∧jB (b8 _ (fz S ay ca))<jB v else bif x.cX xid then k.h6 M (bk e ca (b8 _ (fz S ay ca))) f Q else Q x S ay
 | .bad _,_,_,_=>False
section
variable {M:List aQ}
def kl(f:bZ→Bool)(Q:bZ→ao→Env→Prop):Prop:=∀x,f x=true→∀S e,Q x S e
theorem kl.dB{f:bZ→Bool}{Q R:bZ→ao→Env→Prop}{n:Nat}{b:Bool}(h:kl f R)(ad:b=true→∀x S e,x.bS n=true→Q x S e)(ag: ∀x S e,x.bS n=false→R x S e→Q x S e):kl (oq n b f) Q:=fun x hx S e=>by
 unfold oq at hx
 cases af:x.bS n with
 |true=>rw[af]at hx;exact ad hx x S e af
 |false=>rw[af]at hx;exact ag x S e af (h x hx S e)
theorem kl.tt{f:bZ→Bool}{Q R:bZ→ao→Env→Prop}{n:Nat}{b:Bool}(h:kl f R)(ad:b=true→∀x S e,x.cX n=true→Q x S e)(ag: ∀x S e,x.cX n=false→R x S e→Q x S e):kl (si n b f) Q:=fun x hx S e=>by
 unfold si at hx
 cases af:x.cX n with
 |true=>rw[af]at hx;exact ad hx x S e af
 |false=>rw[af]at hx;exact ag x S e af (h x hx S e)
theorem km: ∀(t:aC) {e:Env} {f:bZ→Bool} {Q:bZ→ao→Env→Prop},kl f Q→t.eO f=true→t.wp M e Q
 | .cG x S,e,_,_,h,c=>h x c S e
 | .lt _ _ t,_,_,_,h,c=>km t h c
 | .eF _ _,_,_,_,_,c=>by cases c
 | .it _ a b,_,_,_,h,c=>by
  simp only[aC.eO,Bool.and_eq_true]at c;exact⟨fun _=>km a h c.1,fun _=>km b h c.2⟩
 | .dB n a ps k,e,f,Q,h,c=>km a (kl.dB h (fun ad x S ay af=>by rw[af];exact km k h ad) (fun x S ay af aH=>by rw[af];exact aH)) c
 | .en m xid dj b0 ca a k,e,f,Q,h,c=>by
  simp only[aC.eO,Bool.and_eq_true]at c;refine⟨fun _ _=>True,trivial,fun i v _ _=>km a (kl.dB (kl.tt h (Q:=fun x S ay=>bif x.cX xid then k.wp M (bk e ca (b8 _ (fz S ay ca))) Q else Q x S ay) (fun _ x S ay af=>by rw[af];exact km k h c.1) (fun x S ay af aH=>by rw[af];exact aH)) (fun _ x S ay af=>by rw[af];trivial) (fun x S ay af aH=>by rw[af];exact aH)) c.2,fun v _=>km k h c.1⟩
 | .eZ _ _ _ _ _,_,_,_,_,c=>by cases c
 | .bad _,_,_,_,_,c=>by cases c
theorem kn: ∀(t:aC) {e:Env} {f:bZ→Bool} {Q R:bZ→ao→Env→Prop},(∀x S ay,Q x S ay→R x S ay)→t.h6 M e f Q→t.h6 M e f R
 | .cG _ _,_,_,_,_,h,q=>h _ _ _ q
 | .lt _ _ t,_,_,_,_,h,q=>kn t h q
 | .eF n t,e,f,Q,R,h,q=>by
  simp only[aC.h6]at q⊢
  cases hc:t.eO f with
  |true=>rw[hc]at q;exact q
  |false=>rw[hc]at q;exact⟨q.1,kn t h q.2⟩
 | .it g a b,e,f,Q,R,h,q=>by
  simp only[aC.h6]at q⊢
  cases aZ:a.eO f<;>cases ad:b.eO f<;>rw[aZ,ad]at q<;>simp only at q⊢
  ·exact⟨fun ah=>kn a h (q.1 ah),fun ah=>kn b h (q.2 ah)⟩
  ·exact fun ah=>kn a h (q ah)
  ·exact fun ah=>kn b h (q ah)
 | .dB n a ps k,e,f,Q,R,h,q=>kn a (fun x S ay r=>by
  cases hx:x.bS n with
  |true=>rw[hx]at r;exact kn k h r
  |false=>rw[hx]at r;exact h _ _ _ r) q
 | .en m xid dj b0 ca a k,e,f,Q,R,h,q=>by
  simp only[aC.h6]at q⊢
  cases hc:k.eO f with
  |true=>
   rw[hc]at q;obtain⟨I,aa,ae⟩:=q;refine⟨I,aa,fun i v hi aw=>kn a (fun x S ay r=>?_) (ae i v hi aw)⟩
   cases hx:x.bS m with
   |true=>rw[hx]at r;exact r
   |false=>
    rw[hx]at r
    cases ax:x.cX xid with
    |true=>trivial
    |false=>rw[ax]at r;exact h _ _ _ r
  |false=>
   rw[hc]at q;obtain⟨I,aa,ae,au⟩:=q;refine⟨I,aa,fun i v hi aw=>kn a (fun x S ay r=>?_) (ae i v hi aw),fun v aw=>kn k h (au v aw)⟩
   cases hx:x.bS m with
   |true=>rw[hx]at r;exact r
   |false=>
    rw[hx]at r
    cases ax:x.cX xid with
    |true=>rw[ax]at r;exact kn k h r
    |false=>rw[ax]at r;exact h _ _ _ r
 | .eZ m xid ca a k,e,f,Q,R,h,q=>by
  obtain⟨I,jB,aa,ae,au⟩:=q;refine⟨I,jB,aa,ae,fun v aw=>kn a (fun x S ay r=>?_) (au v aw)⟩
  cases hx:x.bS m with
  |true=>rw[hx]at r;exact r
  |false=>
   rw[hx]at r
   cases ax:x.cX xid with
   |true=>rw[ax]at r;exact kn k h r
   |false=>rw[ax]at r;exact h _ _ _ r
 | .bad _,_,_,_,_,_,q=>q.elim
theorem l0: ∀(t:aC) {e:Env} {f:bZ→Bool} {Q:bZ→ao→Env→Prop},kl f Q→t.h6 M e f Q→t.wp M e Q
 | .cG _ _,_,_,_,_,q=>q
 | .lt _ _ t,_,_,_,h,q=>l0 t h q
 | .eF n t,e,f,Q,h,q=>by
  simp only[aC.h6]at q
  cases hc:t.eO f with
  |true=>rw[hc]at q;exact⟨q,km t h hc⟩
  |false=>rw[hc]at q;exact⟨q.1,l0 t h q.2⟩
 | .it g a b,e,f,Q,h,q=>by
  simp only[aC.h6]at q
  cases aZ:a.eO f<;>cases ad:b.eO f<;>rw[aZ,ad]at q<;>simp only at q
  ·exact⟨fun ah=>l0 a h (q.1 ah),fun ah=>l0 b h (q.2 ah)⟩
  ·exact⟨fun ah=>l0 a h (q ah),fun _=>km b h ad⟩
  ·exact⟨fun _=>km a h aZ,fun ah=>l0 b h (q ah)⟩
  ·exact⟨fun _=>km a h aZ,fun _=>km b h ad⟩
 | .dB n a ps k,e,f,Q,h,q=>by
  refine l0 a (f:=oq n (k.eO f) f) (kl.dB h (fun ad x S ay af=>?_) (fun x S ay af aH=>by rw[af];exact aH)) ?_
  ·rw[af];exact km k h ad
  ·exact kn a (fun x S ay r=>by
    cases hx:x.bS n with
    |true=>rw[hx]at r;exact l0 k h r
    |false=>rw[hx]at r;exact r) q
 | .en m xid dj b0 ca a k,e,f,Q,h,q=>by
  simp only[aC.h6]at q
  cases hc:k.eO f with
  |true=>
   rw[hc]at q;obtain⟨I,aa,ae⟩:=q;refine⟨I,aa,fun i v hi aw=>?_,fun v _=>km k h hc⟩
   refine l0 a (f:=oq m false (si xid true f)) (kl.dB (kl.tt h (Q:=fun x S ay=>bif x.cX xid then k.wp M (bk e ca (b8 _ (fz S ay ca))) Q else Q x S ay) (fun _ x S ay af=>by rw[af];exact km k h hc) (fun x S ay af aH=>by rw[af];exact aH)) (fun ad=>by cases ad) (fun x S ay af aH=>by rw[af];exact aH)) ?_
   refine kn a (fun x S ay r=>?_) (ae i v hi aw)
   cases hx:x.bS m with
   |true=>rw[hx]at r;exact r
   |false=>
    rw[hx]at r
    cases ax:x.cX xid with
    |true=>exact km k h hc
    |false=>rw[ax]at r;exact r
  |false=>
   rw[hc]at q;obtain⟨I,aa,ae,au⟩:=q;refine⟨I,aa,fun i v hi aw=>?_,fun v aw=>l0 k h (au v aw)⟩
   refine l0 a (f:=oq m false (si xid false f)) (kl.dB (kl.tt h (Q:=fun x S ay=>bif x.cX xid then k.wp M (bk e ca (b8 _ (fz S ay ca))) Q else Q x S ay) (fun ad=>by cases ad) (fun x S ay af aH=>by rw[af];exact aH)) (fun ad=>by cases ad) (fun x S ay af aH=>by rw[af];exact aH)) ?_
   refine kn a (fun x S ay r=>?_) (ae i v hi aw)
   cases hx:x.bS m with
   |true=>rw[hx]at r;exact r
   |false=>
    rw[hx]at r
    cases ax:x.cX xid with
    |true=>rw[ax]at r;exact l0 k h r
    |false=>rw[ax]at r;exact r
 | .eZ m xid ca a k,e,f,Q,h,q=>by
  obtain⟨I,jB,aa,ae,au⟩:=q;refine⟨I,jB,aa,ae,fun v aw=>?_⟩
  refine l0 a (f:=oq m false (si xid (k.eO f) f)) (kl.dB (kl.tt h (Q:=fun x S ay=>bif x.cX xid then k.wp M (bk e ca (b8 _ (fz S ay ca))) Q else Q x S ay) (fun ad x S ay af=>by rw[af];exact km k h ad) (fun x S ay af aH=>by rw[af];exact aH)) (fun ad=>by cases ad) (fun x S ay af aH=>by rw[af];exact aH)) ?_
  refine kn a (fun x S ay r=>?_) (au v aw)
  cases hx:x.bS m with
  |true=>rw[hx]at r;exact r
  |false=>
   rw[hx]at r
   cases ax:x.cX xid with
   |true=>rw[ax]at r;exact l0 k h r
   |false=>rw[ax]at r;exact r
 | .bad _,_,_,_,_,q=>q.elim
end
def wJ(M:List aQ)(t:aC)(e:Env):Prop:=t.h6 M e (fun _=>true) fun _ _ _=>True
theorem Oo{M:List aQ}{t:aC}{e:Env}(h:wJ M t e):t.wp M e fun _ _ _=>True:=l0 t (fun _ _ _ _=>trivial) h
section
variable {P:Program} {G:a7} {M:List aQ} {inl:Nat→List ab→ao→aC}
theorem cy(bV:fO P G M inl){f:Nat}{m:aQ}(t:aC)(aG:inl f (hz 0 m.ps) (qf m.ps.length)=t)(he:t.gv.all (uJ m.rs)=true)
 (ai: ∀x,wJ M t (gw 0 (dx m.ps x))=kO m.pre x)(hm: ∀x,wK M t m.rs (gw 0 (dx m.ps x))=m.m x):bI P G f m:=
 zhP bV t aG he (fun x hx=>Oo (by rw[ai x];exact hx)) hm
theorem zaS(bV:fO P G M inl){f:Nat}{m:aQ}(t:aC)(aG:inl f (hz 0 m.ps) (qf m.ps.length)=t)(he:t.gv.all (uJ m.rs)=true)
 (ai: ∀x,kO m.pre x→wJ M t (gw 0 (dx m.ps x)))(hm: ∀x,kO m.pre x→wK M t m.rs (gw 0 (dx m.ps x))=m.m x):bI P G f m:=
 NW bV t aG he (fun x hx=>(kk t (Oo (ai x hx))).1) fun x hx=>by rw[←hm x hx];exact(mJ t _ _ _).symm
theorem sQ(bV:fO P G M inl){f:Nat}{t:TypeId}{c:bK}{ps rs:List aU}{pre:Option ((fb (.st c::ps)).den→Prop)}{oo:(fb (.st c::ps)).den→(fb (.st c::rs)).den}(T:aC)(aG:inl f (.ed 0 0::hz 1 ps) (tP t c ps.length)=T)
 (he:T.gv.all (N1 t c rs)=true)(ai: ∀x,wJ M T (gw 0 (dx (.st c::ps) x))=kO pre x)(hm: ∀x,FQ M T t c rs (gw 0 (dx (.st c::ps) x))=oo x):jj P G f t ⟨.st c::ps,.st c::rs,pre,oo⟩:=
 Vp bV T aG he (fun x hx=>(kk T (Oo (by rw[ai x];exact hx))).1) hm
end
end Go.aK
