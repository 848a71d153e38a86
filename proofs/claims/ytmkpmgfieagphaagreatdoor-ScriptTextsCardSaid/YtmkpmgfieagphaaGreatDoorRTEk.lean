/- TE, part E: contracts out of trees, of functions that are handed an own box. Conditions: none. -/
import Derived.Test.YtmkpmgfieagphaaGreatDoorRTEd
import Derived.Test.YtmkpmgfieagphaaGreatDoorRTDb
import Derived.ProofKit
import Derived.LaidMore
import Derived.OpenShut
import Derived.MakeChecks
import Derived.ChangeArms
import Derived.ReadAgain
import Derived.ChangeBears
import Derived.Stop.Joined
import Derived.SizedLaws
namespace Go.aM
open Go
section
variable {P:Program} {G:a7} {f:FuncId} {args:List aE} {t:TypeId} {σ:bA} {R:aE→bA→Prop}
theorem dO.zc3(h:dO P G f args σ 1 R){Q:aE→List aE→Prop}(gG: ∀r bQ,R r bQ→∃v sV cs,aF bQ 0=some (.box t sV)∧fX sV cs∧eP cs=true∧Sub r v∧fl v=true∧Q v cs):
 dO P G f args σ 1 fun v bQ=>∃cs,bQ=[(0,.box t cs)]∧Q v cs:=by
 intro w β ro eM aa ad aq aS bC
 refine Calls.mono (h w β ro eM aa ad aq aS bC) fun e w' ⟨v,r,bQ,dV,ro',cR,he,af,dp,ht,ct⟩=>?_
 obtain⟨u,sV,cs,ah,gj,ak,hu,KI,aL⟩:=gG r bQ af
 have xp: ∀{id:Nat} {o:en},aF [(0,en.box t cs)] id=some o→id=0∧o= .box t cs:=fun {id o} ah=>by
  simp only[aF]at ah
  split at ah
  ·rename_i hi;cases ah;exact⟨hi.symm,rfl⟩
  ·cases ah
 have own: ∀b,Own [(0,en.box t cs)] dV b→Own bQ dV b:=fun b ⟨id,o,rB,_,ae⟩=>by
  obtain⟨rfl,rfl⟩:=xp rB;exact⟨0,_,ah,rfl,ae⟩
 refine⟨v,u,[(0,.box t cs)],dV,ro',cR,he,⟨cs,rfl,aL⟩,nP (hu _ _ _ _ _ _ dp) KI,⟨fun id o rB=>?_,fun id gM o cm b rB zc4 _ _ _ _=>?_,fun b ae an=>ht.fz b ae (own b an),ht.lt⟩,
  ⟨ct.os,ct.tape,ct.output,ct.size,ct.frame,ct.iR,ct.jR,fun b ae=>ct.gN b (own b ae),fun id hid o rB=>?_,fun id o rB=>?_,ct.le⟩⟩
 ·obtain⟨rfl,rfl⟩:=xp rB
  have du:=ht.c7 0 _ ah
  cases du with
  |box _ _ b arr aA aW cr eD=>
   refine .box t cs b arr aA aW (by rw[cr,gj.at.1]) fun j x ai=>?_
   obtain⟨y,az,ag⟩:=gj.at.2 j x ai;exact nP (ag _ _ _ _ _ _ (eD j y az)) (na ak ai)
 ·rw[(xp rB).1,(xp zc4).1]
 ·obtain⟨rfl,rfl⟩:=xp rB
  exact ct.dK 0 hid _ ah
 ·obtain⟨rfl,rfl⟩:=xp rB
  exact ct.new 0 _ ah
end
def sX(t:TypeId)(c:bO)(n:Nat):ar:=⟨.emp,[(0,.dc t (iY c 0 0 (fo c)))],1,n+1,[]⟩
def Lf(t:TypeId)(c:bO)(rs:List aZ)(C:ar):Option (List ab):=
 match dq C.h 0 with
 |some (.dc bw l)=>match(Nat.beq bw t&&hJ (fo c) l)&&(KX rs (C.at 0)&&sS (u5 rs (C.at 0)))with
  |true=>match rz C rs (u5 rs (C.at 0))with
   |some xs=>some (.cF l::xs)
   |none=>none
  |false=>none
 |_=>none
def Lg(t:TypeId)(c:bO)(rs:List aZ)(C:ar):Bool:=(Lf t c rs C).isSome
def Sy(t:TypeId)(c:bO)(rs:List aZ)(C:ar)(e:Env):(e9 (.st c::rs)).den:=
 match Lf t c rs C with
 |some l=>b3 (.st c::rs) (gm e (.st c::rs) l)
 |none=>(e9 (.st c::rs)).gH
def Eb(M:List a1)(T:aB)(t:TypeId)(c:bO)(rs:List aZ)(e:Env):(e9 (.st c::rs)).den:=T.kf M e (fun _ C ax=>Sy t c rs C ax) (e9 (.st c::rs)).gH
section
variable {P:Program} {G:a7} {M:List a1} {inl:Nat→List ab→ar→aB}
theorem zc5{c:bO}{i k:Nat}(h:i<k):ab.cD k (iY c i 0 (fo c))=true:=DZ h
theorem zc6{rs:List aZ}{S:ar}{e:Env}{xs:List ab}(aG:KX rs (S.at 0)=true)(hr:sS (u5 rs (S.at 0))=true)(h:rz S rs (u5 rs (S.at 0))=some xs):
 Sub ((S.at 0).den G e) (match(gm e rs xs).map aD.fq with|[v]=>v|l=>.tuple l):=by
 obtain⟨bD,_,a3,a4⟩:=xm (G:=G) (e:=e) h
 rw[a3 hr]at bD
 match rs,bD,a4,aG with
 |[r],bD,a4,aG=>
  obtain⟨d,oK,av,aa,ad⟩:=lL a4
  cases mi ad
  rw[av]at bD⊢;simp only[u5,ab.bR,List.map_cons,List.map_nil]at bD⊢
  cases bD with
  |cons h _=>exact h
 |[],bD,a4,aG=>
  cases av:S.at 0 with
  |tp m=>
   rw[av]at bD;rw[mi a4]at bD⊢;exact bD.tuple
  |_=>rw[av]at aG;cases aG
 |r::s::q,bD,a4,aG=>
  cases av:S.at 0 with
  |tp m=>
   rw[av]at bD
   have ao:=congrArg List.length a4
   simp only[List.length_map,List.length_cons]at ao;generalize gm e (r::s::q) xs=ds at bD ao⊢
   match ds,ao with
   |d::d2::ds,_=>exact bD.tuple
  |_=>rw[av]at aG;cases aG
theorem Sz(cd:gL P G M inl){f:Nat}{t:TypeId}{c:bO}{ps rs:List aZ}{pre:Option ((e9 (.st c::ps)).den→Prop)}{n5:(e9 (.st c::ps)).den→(e9 (.st c::rs)).den}(T:aB)(aG:inl f (.dD 0 0::hk 1 ps) (sX t c ps.length)=T)
 (he:T.gz.all (Lg t c rs)=true)(ag: ∀x,my pre x→T.safe M (gg 0 (dn (.st c::ps) x)))(hm: ∀x,Eb M T t c rs (gg 0 (dn (.st c::ps) x))=n5 x):iQ P G f t ⟨.st c::ps,.st c::rs,pre,n5⟩:=fun x hx=>by
 subst aG
 obtain⟨d0,sW,nd,qT,hdr⟩:=lL (sT (rs:=.st c::ps) (x:=x))
 obtain⟨zcM,eb⟩:=d0
 simp only at qT
 subst qT
 have ao:sW.length=ps.length:=by have:=congrArg List.length hdr;rw[List.length_map]at this;exact this
 have ae:(sX t c ps.length).cw:=⟨fun i x hi=>by simp[sX,bb.get]at hi,by
  show(ab.cD (ps.length+1) (iY c 0 0 (fo c))&&true)=true;rw[zc5 (Nat.succ_pos _)]
  rfl,rfl⟩
 have h:=cd f (.dD 0 0::hk 1 ps) (sX t c ps.length) (gg 0 (dn (.st c::ps) x)) ae (by
  show(true&&ab.cD (ps.length+1) (hk 1 ps))=true;rw[Ak (by omega)]
  rfl) (fun c hc=>by cases hc) (ag x hx)
 have eF: ∀j d,(⟨.st c,eb⟩::sW)[j]? =some d→Env.at (gg 0 (dn (.st c::ps) x)) j=d:=fun j d ai=>by
  have:=KW (ds:=dn (.st c::ps) x) (i:=0) (j:=j) (d:=d) (by rw[nd];exact ai)
  rwa[Nat.zero_add]at this
 have hd:ab.bR G (gg 0 (dn (.st c::ps) x)) (hk 1 ps)=sW.map aD.fq:=Aj hdr fun j d ai=>by rw[Nat.add_comm];exact eF (j+1) d (by simpa using ai)
 have nK:cM G (gg 0 (dn (.st c::ps) x)) (sX t c ps.length).h=[(0,.box t ((cZ c eb).map .au))]:=by
  have aU:=eF 0 ⟨.st c,eb⟩ rfl
  simp only[sX,cM,bE.den];rw[wk,aU,cT]
 have h8:ab.bR G (gg 0 (dn (.st c::ps) x)) (.dD 0 0::hk 1 ps)= .ptr 0 0::sW.map aD.fq:=by
  show aE.ptr 0 0::_=_;rw[hd]
 rw[h8,nK]at h
 show dO P G f (.ptr 0 0::(dn (.st c::ps) x).tail.map aD.fq) [(0,.box t (xo (dn (.st c::ps) x)))] 1 _
 rw[nd]
 refine dO.zc3 (Q:=fun v cs=>v=D2 (dn (.st c::rs) (n5 x))∧cs=xo (dn (.st c::rs) (n5 x))) h fun r bQ af=>?_
 obtain⟨aQ,ax,cU,rfl,rfl,_⟩:=af
 have kX:=Sm he cU
 obtain⟨l,me⟩:=Option.isSome_iff_exists.1 kX
 have sc:=hm x
 unfold Eb at sc
 rw[mw,j6 cU]at sc
 unfold Sy at sc
 rw[me]at sc
 simp only at sc
 unfold Lf at me
 split at me
 rotate_left
 ·cases me
 rename_i bw HS ah
 split at me
 rotate_left
 ·cases me
 rename_i hc
 simp only[Bool.and_eq_true]at hc
 obtain⟨⟨aw,ey⟩,gT,lp⟩:=hc
 have aw:=Nat.eq_of_beq_eq_true aw
 subst aw
 split at me
 rotate_left
 ·cases me
 rename_i xs nO
 cases me
 obtain⟨_,_,_,a4⟩:=xm (G:=G) (e:=ax) nO
 have u3:(gm ax (.st c::rs) (.cF HS::xs)).map aD.r= .st c::rs:=by simp only[gm,List.map_cons,a4]
 rw[←sc,xl u3]
 exact⟨_,_,_,by rw[eR,ah];rfl,y6 ey,B1 _,zc6 gT lp nO,by
  have ak:=DX (gm ax rs xs)
  split
  ·rename_i v av
   rw[av]at ak;simpa[eP]using ak
  ·exact ak,rfl,rfl⟩
theorem tY(cd:gL P G M inl){f:Nat}{t:TypeId}{c:bO}{ps rs:List aZ}{n5:(e9 (.st c::ps)).den→(e9 (.st c::rs)).den}(T:aB)(aG:inl f (.dD 0 0::hk 1 ps) (sX t c ps.length)=T)
 (he:(T.clean&&T.gz.all (Lg t c rs))=true)(hm: ∀x,Eb M T t c rs (gg 0 (dn (.st c::ps) x))=n5 x):iQ P G f t ⟨.st c::ps,.st c::rs,none,n5⟩:=by
 simp only[Bool.and_eq_true]at he
 exact Sz cd T aG he.2 (fun _ _=>q8 M he.1) hm
end
end Go.aM
namespace Go.aM
open Go Go.ChangeShapes Go.WideShapes Go.RowKit
inductive jj (P:Program):TypeId→List bh→Prop where
 |bool {t:TypeId} (b:Bool):P.underlying t=some .bool→jj P t [.v (.bool b)]
 |int {t:TypeId} {k:IntKind} (n:Int):P.underlying t=some (.int k)→(Lit.int k n).wf=true→jj P t [.v (.int k n)]
 |str {t:TypeId} (s:ByteArray):P.underlying t=some .string→s.size≤reachBytes→jj P t [.v (.string s)]
 |slice {t e:TypeId} (es:List (List bh)):P.underlying t=some (.slice e)→es.length≤maxLen∧es.length*P.bytesOf e≤reachBytes→(∀x∈es,jj P e x)→jj P t [.aP (P.cellsOf e) es]
 |struct {t:TypeId} {fs:Array Field} (parts:List (List bh)):P.underlying t=some (.struct fs)→parts.length=fs.toList.length→(∀(i:Nat) (f:Field) (p:List bh),fs.toList[i]? =some f→parts[i]? =some p→jj P f.type p)→jj P t parts.flatten
 |array {t e:TypeId} {n:Nat} (parts:List (List bh)):P.underlying t=some (.array n e)→parts.length=n→(∀p∈parts,jj P e p)→jj P t parts.flatten
def sY(P:Program):Nat→TypeId→Bool
 |0,_=>false
 |n+1,t=>decide (t<P.types.size)&&match P.underlying t with
  |some .bool=>true
  |some (.int _)=>true
  |some .string=>true
  |some (.slice e)=>sY P n e
  |some (.array _ e)=>sY P n e
  |some (.struct fs)=>fs.toList.all fun f=>sY P n f.type
  |_=>false
theorem mapM_some{α β:Type}{f:α→Option β}: ∀{l:List α} {r:List β},l.mapM f=some r→r.length=l.length∧∀(i:Nat) (x:α),l[i]? =some x→∃y,f x=some y∧r[i]? =some y
 |[],r,h=>by
  simp at h;subst h;exact⟨rfl,by simp⟩
 |a::l,r,h=>by
  rw[List.mapM_cons]at h
  cases aI:f a with
  |none=>simp[aI]at h
  |some b=>
   cases ao:l.mapM f with
   |none=>simp[aI,ao]at h
   |some cz=>
    simp[aI,ao]at h;subst h;obtain⟨aa,ad⟩:=mapM_some ao;refine⟨by simp[aa],fun i x hx=>?_⟩
    cases i with
    |zero=>simp at hx;subst hx;exact⟨b,aI,rfl⟩
    |succ i=>simpa using ad i x (by simpa using hx)
section
variable {H:Type} {enc:TypeId × Value→H} {P:Program} {w:World}
abbrev lX(w:World):Nat→Prop:=fun b=>b<w.heap.size
theorem zc7{a:Addr}{c:Value}(h:w.cell? a=some c):a.block<w.heap.size:=by
 rcases Nat.lt_or_ge a.block w.heap.size with aa|aa
 ·exact aa
 ·exfalso
  have:w.heap[a.block]? =none:=Array.getElem?_eq_none aa
  simp[World.cell?,this]at h
def Fits(P:Program)(w:World)(t:TypeId)(cs:List Value):Prop:=∃rs,jj P t rs∧rs.length=cs.length∧∀j r,rs[j]? =some r→dt w (lX w) r (cs.getD j undef)
theorem SA: ∀(fs:List Field) (off:Nat) (cs:List Value),(∀(j:Nat) (f:Field),fs[j]? =some f→f.offset=off+((fs.take j).map fun f=>P.cellsOf f.type).sum)→
 (∀f∈fs,Fits P w f.type ((cs.drop f.offset).take (P.cellsOf f.type)))→off+(fs.map fun f=>P.cellsOf f.type).sum≤cs.length→
 ∃parts:List (List bh),parts.length=fs.length∧(∀(i:Nat) (f:Field) (p:List bh),fs[i]? =some f→parts[i]? =some p→jj P f.type p)∧parts.flatten.length=(fs.map fun f=>P.cellsOf f.type).sum∧
  ∀j r,parts.flatten[j]? =some r→dt w (lX w) r (cs.getD (off+j) undef)
 |[],off,cs,_,_,_=>⟨[],rfl,by simp,by simp,by simp⟩
 |f::fs,off,cs,an,hf,ao=>by
  have aU:f.offset=off:=by have:=an 0 f rfl;simpa using this
  obtain⟨rs,aa,ad,aq⟩:=hf f (by simp)
  simp only[List.map_cons,List.sum_cons]at ao
  have hlen:rs.length=P.cellsOf f.type:=by rw[ad,aU];simp;omega
  obtain⟨parts,g1,g2,g3,g4⟩:=SA fs (off+P.cellsOf f.type) cs (fun j q aL=>by
   have:=an (j+1) q (by simpa using aL)
   simp only[List.take_succ_cons,List.map_cons,List.sum_cons]at this
   omega) (fun q aL=>hf q (by simp[aL])) (by omega)
  refine⟨rs::parts,by simp[g1],fun i q p aL ak=>?_,by simp[g3,hlen],fun j r ai=>?_⟩
  ·cases i with
   |zero=>
    simp at aL ak;subst aL;subst ak;exact aa
   |succ i=>exact g2 i q p (by simpa using aL) (by simpa using ak)
  ·rw[List.flatten_cons]at ai
   by_cases dT:j<rs.length
   ·rw[List.getElem?_append_left dT]at ai
    have:=aq j r ai
    have yu:j<P.cellsOf f.type:=by omega
    rw[aU]at this;simpa[List.getD,List.getElem?_take,List.getElem?_drop,yu]using this
   ·rw[List.getElem?_append_right (by omega)]at ai
    have:=g4 _ r ai
    rw[show off+P.cellsOf f.type+(j-rs.length)=off+j from by omega]at this
    exact this
theorem Lh{e:TypeId}(n:Nat): ∀(k:Nat) (As:Nat→List Value),(∀i,i<k→Fits P w e (As i)∧(As i).length=n)→
 ∃es:List (List bh),es.length=k∧(∀x∈es,jj P e x∧x.length=n)∧∀j r,es.flatten[j]? =some r→dt w (lX w) r ((As (j/ n)).getD (j%n) undef)
 |0,_,_=>⟨[],rfl,by simp,by simp⟩
 |k+1,As,h=>by
  obtain⟨⟨rs,aa,ad,aq⟩,hn⟩:=h 0 (by omega)
  obtain⟨es,g1,g2,g3⟩:=Lh n k (fun i=>As (i+1)) fun i hi=>h (i+1) (by omega)
  refine⟨rs::es,by simp[g1],fun x hx=>?_,fun j r ai=>?_⟩
  ·rcases List.mem_cons.1 hx with rfl|hx
   ·exact⟨aa,by omega⟩
   ·exact g2 x hx
  ·rw[List.flatten_cons]at ai
   by_cases dT:j<rs.length
   ·rw[List.getElem?_append_left dT]at ai
    have ov:j<n:=by omega
    rw[Nat.div_eq_of_lt ov,Nat.mod_eq_of_lt ov];exact aq j r ai
   ·rw[List.getElem?_append_right (by omega)]at ai
    have:=g3 _ r ai
    have xq:0<n:=by
     rcases Nat.eq_zero_or_pos n with aU|aU
     ·exfalso
      have ow:es.flatten.length=es.length*n:=jS fun x hx=>(g2 x hx).2
      have:=(List.getElem?_eq_some_iff.1 ai).1
      rw[ow,aU]at this;simp at this
     ·exact aU
    have aA:j-rs.length=j-n:=by omega
    rw[aA]at this
    have aW:(j-n)/ n+1=j/ n:=(Nat.div_eq_sub_div xq (by omega)).symm
    have cr:(j-n)%n=j%n:=(Nat.mod_eq_sub_mod (by omega)).symm
    simp only[aW,cr]at this;exact this
theorem At{t:TypeId}{r:bh}{c:Value}(h:jj P t [r])(af:dt w (lX w) r c):Fits P w t [c]:=
 ⟨[r],h,rfl,fun j x ai=>by
  cases j with
  |zero=>simp at ai;subst ai;exact af
  |succ j=>simp at ai⟩
theorem SB{base:Nat}{a:Addr}{n:Nat}{l:List Value}(h:w.cells? base a n=some l):l.length=n∧∀i,i<n→w.cell? (a.add i)=l[i]? :=by
 unfold World.cells? at h
 split at h
 ·obtain⟨aa,ad⟩:=mapM_some h
  refine⟨by simpa using aa,fun i hi=>?_⟩
  obtain⟨y,az,ao⟩:=ad i i (by simp[hi])
  rw[ao,az]
 ·cases h
theorem Li{e:TypeId}: ∀{l:List (DataW H)} {d:DataW H},d∈l→∀n∈d.weights P e,n∈DataW.weightsAll P e l
 |d0::l,d,hd,n,hn=>by
  simp only[DataW.weightsAll,List.mem_append]
  rcases List.mem_cons.1 hd with rfl|hd
  ·exact .inl hn
  ·exact .inr (Li hd n hn)
theorem Ec(K:Kids P (· < P.types.size)): ∀(m n:Nat) (t:TypeId) (cs:List Value) (x:DataW H × List MemPlace) {base:Nat} {sp:Nat→Bool} {held:Bool},sY P m t=true→
 DataW.trod enc P w base sp held n t cs=some x→(∀q∈x.1.weights P t,q≤reachBytes)→Fits P w t cs
 |0,_,_,_,_,_,_,_,ak,_,_=>by simp[sY]at ak
 |m+1,n,t,cs,x,base,sp,held,ak,h,fg=>by
  simp only[sY,Bool.and_eq_true,decide_eq_true_eq]at ak;obtain⟨dL,ak⟩:=ak
  cases hu:P.underlying t with
  |none=>rw[hu]at ak;cases ak
  |some d=>
   rw[hu]at ak
   cases d with
   |bool=>
    obtain⟨b,rfl,_⟩:=DataW.trod_bool hu h;exact At (.bool b hu) (.v _ rfl)
   |int k=>
    obtain⟨b,rfl,_,hw⟩:=DataW.trod_int hu h;exact At (.int b hu hw) (.v _ rfl)
   |string=>
    obtain⟨b,rfl,hx,hw⟩:=DataW.trod_string hu h;rw[hx]at fg;exact At (.str b hu (by simpa[DataW.weights]using fg)) (.v _ rfl)
   |slice e=>
    rcases DataW.trod_slice hu h with⟨rfl,_⟩|⟨a,len,cap,elems,rest,k,rfl,rfl,hx,_,hle,iS,nM,eF,_⟩
    ·exact At (.slice [] hu ⟨Nat.zero_le _,by simp⟩ (by simp)) (.aP _ [] none 0 (fun _=>undef) (Nat.le_refl _) (Nat.zero_le _) (by simp) (by simp) (by simp))
    ·rw[hx]at fg
     simp only[DataW.weights,hu,List.mem_cons,List.mem_append,List.length_map]at fg
     have yK:len*P.bytesOf e≤reachBytes:=Nat.le_trans (Nat.mul_le_mul_right _ (by rw[nM];exact Nat.le_add_right _ _)) (fg _ (.inl rfl))
     have SC: ∀i,i<len→∃l,w.cells? base (a.add (i*P.cellsOf e)) (P.cellsOf e)=some l∧Fits P w e l:=by
      intro i hi
      have aa:=eF i hi
      rw[List.getElem?_eq_getElem (by omega)]at aa
      cases hc:w.cells? base (a.add (i*P.cellsOf e)) (P.cellsOf e)with
      |none=>rw[hc]at aa;cases aa
      |some l=>rw[hc]at aa;exact⟨l,rfl,Ec K m k e l _ ak aa fun q aL=>fg q (.inr (.inl (Li (List.mem_map_of_mem (List.getElem_mem _)) q aL)))⟩
     obtain⟨es,g1,g2,g3⟩:=Lh (P:=P) (w:=w) (e:=e) (P.cellsOf e) len (fun i=>(w.cells? base (a.add (i*P.cellsOf e)) (P.cellsOf e)).getD []) fun i hi=>by
      obtain⟨l,aa,ad⟩:=SC i hi;rw[aa];exact⟨ad,(SB aa).1⟩
     have hlen:es.length=len:=g1
     refine At (.slice es hu ⟨by omega,by rw[hlen];exact yK⟩ fun x hx=>(g2 x hx).1) ?_
     rw[←hlen];refine .aP _ es (some a) cap (fun j=>((w.cells? base (a.add (j/ P.cellsOf e*P.cellsOf e)) (P.cellsOf e)).getD []).getD (j%P.cellsOf e) undef) (by omega) iS (fun x hx=>(g2 x hx).2) (fun _=>⟨a,rfl,fun j ai=>?_⟩) g3
     have xq:0<P.cellsOf e:=by
      rcases Nat.eq_zero_or_pos (P.cellsOf e)with aU|aU
      ·rw[aU]at ai;simp at ai
      ·exact aU
     have nR:j/ P.cellsOf e<len:=by rw[Nat.div_lt_iff_lt_mul xq];rw[hlen]at ai;exact ai
     have nQ:j%P.cellsOf e<P.cellsOf e:=Nat.mod_lt _ xq
     obtain⟨l,aa,_⟩:=SC _ nR;obtain⟨ad,aq⟩:=SB aa
     have aS:=aq _ nQ
     rw[yn,Nat.mul_comm,Nat.div_add_mod]at aS;rw[aa]
     have bC:w.cell? (a.add j)=some (l.getD (j%P.cellsOf e) undef):=by
      rw[aS]
      have:j%P.cellsOf e<l.length:=by omega
      simp[List.getD,List.getElem?_eq_getElem this]
     exact⟨by have:=zc7 bC;rwa[tZ]at this,bC⟩
   |array k e=>
    obtain⟨xs,q,rfl,hx,qM,lE,eF⟩:=DataW.trod_array hu h;rw[hx]at fg;simp only[DataW.weights,hu]at fg
    obtain⟨es,g1,g2,g3⟩:=Lh (P:=P) (w:=w) (e:=e) (P.cellsOf e) k (fun i=>(cs.drop (i*P.cellsOf e)).take (P.cellsOf e)) fun i hi=>by
     have aa:=eF i hi
     rw[List.getElem?_eq_getElem (by omega)]at aa
     refine⟨Ec K m q e _ _ ak aa fun z bu=>fg z (Li (List.mem_map_of_mem (List.getElem_mem _)) z bu),?_⟩
     have ad:=Nat.mul_le_mul_right (P.cellsOf e) (show i+1≤k from hi)
     rw[Nat.succ_mul]at ad
     have:=(K.array dL hu).2
     simp;omega
    refine⟨es.flatten,.array es hu g1 fun p ak=>(g2 p ak).1,?_,fun j r ai=>?_⟩
    ·rw[jS fun x hx=>(g2 x hx).2,g1,qM,(K.array dL hu).2]
    ·have:=g3 j r ai
     have dT:=(List.getElem?_eq_some_iff.1 ai).1
     have xq:0<P.cellsOf e:=by
      rcases Nat.eq_zero_or_pos (P.cellsOf e)with aU|aU
      ·rw[jS fun x hx=>(g2 x hx).2,aU]at dT;simp at dT
      ·exact aU
     have nQ:j%P.cellsOf e<P.cellsOf e:=Nat.mod_lt _ xq
     have hm:j/ P.cellsOf e*P.cellsOf e+j%P.cellsOf e=j:=by rw[Nat.mul_comm];exact Nat.div_add_mod _ _
     simpa[List.getD,List.getElem?_take,List.getElem?_drop,nQ,hm]using this
   |struct fs=>
    obtain⟨xs,q,rfl,hx,qM,lE,eF⟩:=DataW.trod_struct hu h;rw[hx]at fg;simp only[DataW.weights,hu]at fg;obtain⟨_,xD,yw⟩:=K.struct dL hu
    obtain⟨parts,g1,g2,g3,g4⟩:=SA (P:=P) (w:=w) fs.toList 0 cs (fun j f hf=>by rw[yw j f hf];simp) (fun f hf=>by
     obtain⟨i,hi,rfl⟩:=List.mem_iff_getElem.1 hf
     have zc8:fs[i]? =some fs.toList[i]:=by simp at hi;simp[hi]
     have aa:=eF i _ zc8
     have DA:i<xs.length:=by rw[lE];simpa using hi
     rw[List.getElem?_eq_getElem DA]at aa
     rw[List.all_eq_true]at ak
     exact Ec K m q _ _ _ (ak _ (List.getElem_mem hi)) aa fun z bu=>fg z (DataW.weights_mem_each (j:=i) (by rw[List.getElem?_map,List.getElem?_eq_getElem hi];rfl) (by rw[List.getElem?_map,List.getElem?_eq_getElem DA];rfl) z bu)) (by rw[qM,xD];omega)
    exact⟨parts.flatten,.struct parts hu g1 g2,by rw[g3,qM,xD],fun j r ai=>by have:=g4 j r ai;simpa using this⟩
   |_=>cases ak
theorem zc9(K:Kids P (· < P.types.size)){m:Nat}{t:TypeId}(ak:sY P m t=true){v:Value}{d:DataW H}{ps:List MemPlace}{base:Nat}{sp:Nat→Bool}{held:Bool}(h:DataW.Trod enc P w base sp held t v d ps)(fg: ∀q∈d.weights P t,q≤reachBytes):Fits P w t v.cells.toList:=by
 obtain⟨n,hn⟩:=h
 exact Ec K m n t _ _ ak hn fg
theorem Fits.agg{t:TypeId}{cs:Array Value}(h:Fits P w t cs.toList){β:Nat→Value}{N:Nat}: ∃rs,jj P t rs∧bs w (lX w) [] β N (.agg (Yu rs)) (.agg cs):=by
 obtain⟨rs,aa,ad,aq⟩:=h
 refine⟨rs,aa,.agg _ cs (by simpa using ad.symm) fun j x ai=>?_⟩
 rw[List.getElem?_map]at ai
 cases af:rs[j]? with
 |none=>simp[af]at ai
 |some r=>
  simp[af]at ai;subst ai
  have:=aq j r af
  exact .au _ _ (by simpa[List.getD,Array.getD_eq_getD_getElem?]using this)
theorem Fits.one{t:TypeId}{v:Value}(h:Fits P w t v.cells.toList)(av:v.cells= #[v]){β:Nat→Value}{N:Nat}: ∃r,jj P t [r]∧bs w (lX w) [] β N (.au r) v:=by
 obtain⟨rs,aa,ad,aq⟩:=h
 rw[av]at ad
 match rs,ad,aa,aq with
 |[r],_,aa,aq=>
  have:=aq 0 r rfl
  rw[av]at this;exact⟨r,aa,.au _ _ (by simpa using this)⟩
def fieldTypes(P:Program)(t:TypeId):Option (List TypeId):=
 match P.underlying t with
 |some (.struct fs)=>some (fs.toList.map (·.type))
 |_=>none
def Lj(P:Program)(t:TypeId):Bool:=
 match P.underlying t with
 |some .bool=>true
 |some (.int _)=>true
 |some .string=>true
 |some (.slice _)=>true
 |_=>false
theorem zda{r:Reach}{gu:Nat}{t:TypeId}{v:Value}(h:Value.okWide P w r gu t v)(ag:Lj P t=true):v.cells= #[v]:=by
 unfold Lj at ag
 split at ag
 ·rename_i hu
  simp only[Value.okWide,hu,Cell.okWide,Cell.ok]at h
  cases v<;>first|rfl|exact h.elim
 ·rename_i hu
  simp only[Value.okWide,hu,Cell.okWide,Cell.ok]at h
  cases v<;>first|rfl|exact h.elim
 ·rename_i hu
  simp only[Value.okWide,hu,Cell.okWide,Cell.ok]at h
  cases v<;>first|rfl|exact h.elim
 ·rename_i hu
  simp only[Value.okWide,hu,Cell.okWide,Cell.ok]at h
  cases v<;>first|rfl|exact h.elim
 ·cases ag
theorem zdb{r:Reach}{gu:Nat}{t:TypeId}{v:Value}(h:Value.okWide P w r gu t v)(ag:(fieldTypes P t).isSome=true): ∃cs,v= .agg cs:=by
 unfold fieldTypes at ag
 split at ag
 ·rename_i hu
  simp only[Value.okWide,hu]at h;obtain⟨cs,rfl,_⟩:=h;exact⟨cs,rfl⟩
 ·cases ag
theorem zdc{w':World}{p:MemPlace}(ak:p.block<w.heap.size)(h: ∀b,b<w.heap.size→w'.heap[b]? =w.heap[b]?):w.sameAt w' p:=by
 cases p with
 |cell b off=>exact World.cell?_of_block (a:=⟨b,off,none⟩) (h b ak)
 |map b=>exact h b ak
theorem SD{w':World}(h: ∀b,b<w.heap.size→w'.heap[b]? =w.heap[b]?){base:Nat}{sp:Nat→Bool}{held:Bool}: ∀{ts:List TypeId} {vs:List Value} {ds:List (DataW H)} {ps:List MemPlace},DataW.TrodAll enc P w base sp held ts vs ds ps→DataW.TrodAll enc P w' base sp held ts vs ds ps
 |[],[],[],_,h=>h
 |_::_,_::_,_::_,_,⟨p,q,⟨n,hn⟩,ad,e⟩=>
  ⟨p,q,⟨n,DataW.trod_carry n _ _ _ hn fun x hx=>zdc (DataW.trod_lt n _ _ _ hn x hx) h⟩,SD h ad,e⟩
theorem zdd{w':World}{may:MemPlace→Prop}(aa:w'.os=w.os)(ad:w'.output=w.output)(h: ∀b,b<w.heap.size→w'.heap[b]? =w.heap[b]?):w.keptBut w' may:=by
 refine⟨aa,ad,fun i hi=>?_⟩
 rw[h i hi]
 cases hw:w.heap[i]? with
 |none=>rfl
 |some o=>
  cases o with
  |cells c t p7=>exact⟨rfl,rfl,rfl,fun _ _=>rfl⟩
  |map es clock=>exact .inr ⟨rfl,rfl⟩
  |_=>rfl
theorem zde{G:a7}{f:FuncId}{fn:Func}{s:ChangeSpec}{args:Array Value}{ds gs:List (DataW H)}{before:List MemPlace}{tb:TypeId}{avs':List aE}{β:Nat→Value}
 (sZ:DataW.Whole enc P fn.params.toList s.vars false w args.toList ds gs before)(av:s.vars=[])(ag:s.fn H (ds++gs)={results:=[.lit (.bool true)],args:=ds})(qQ:fn.resultTypes= #[tb])(Lk:P.underlying tb=some .bool)
 (K:Kids P (· < P.types.size))(bu: ∀t e,t<P.types.size→P.underlying t=some (.slice e)→0<P.cellsOf e)(zV: ∀t∈fn.params.toList,t<P.types.size)
 (hlen:args.size=avs'.length)(h8: ∀i x,avs'[i]? =some x→bs w (lX w) [] β 0 x (args.getD i undef))(yj:p6 w (lX w) G)(hc:dO P G f avs' [] 0 fun r bQ=>r=kk true∧bQ=[]):
 Calls P f args w fun e w'=>∃v,e= .returned v∧s.post enc P fn false true false false w args v w':=by
 refine Calls.mono (hc w β (lX w) args hlen h8 ⟨by simp[aF],by simp[aF],fun b _ ⟨_,_,ah,_⟩=>by simp[aF]at ah,fun b ae=>ae⟩ yj (by simp[aF])) fun e w' aL=>?_
 obtain⟨v,r,ff,dV,ro',cR,rfl,⟨rfl,rfl⟩,dp,_,aG⟩:=aL
 obtain rfl:=bs.val dp
 have aX: ∀b,b<w.heap.size→w'.heap[b]? =w.heap[b]? :=fun b ae=>aG.frame b ae fun⟨_,_,ah,_⟩=>by simp[aF]at ah
 refine⟨_,rfl,ds,gs,before,[],before,[],sZ,?_,?_,?_,zdd aG.os aG.output aX,fun h=>by cases h⟩
 ·rw[ag,qQ]
  exact trodAll_mk1 (shut_bool Lk true)
 ·rw[ag]
  have bB: ∀p∈before,(fun b=>decide (b<w.heap.size)) p.block=true:=fun p ak=>by simpa using sZ.lt p ak
  obtain⟨p,q,aa,ad,rfl,_⟩:=sZ;rw[av]at ad
  have aL:q=[]:=by
   cases gs with
   |nil=>exact ad
   |cons=>cases ad
  subst aL;rw[List.append_nil]at bB⊢;exact SD aX (aa.respare K bu zV bB)
 ·rw[ag,av]
  rfl
end
end Go.aM
namespace Go.aM
open Go Go.ChangeShapes Go.WideShapes
def xr:List (Option (List aZ))→Option (List aZ)
 |[]=>some []
 |none::_=>none
 |some l::r=>match xr r with
  |some m=>some (l++m)
  |none=>none
def Au:List aZ→List aZ→Bool
 |[],[]=>true
 |a::l,b::m=>jx a b&&Au l m
 |_,_=>false
theorem Ll: ∀{l m:List aZ},Au l m=true→l=m
 |[],[],_=>rfl
 |[],_::_,h=>by cases h
 |_::_,[],h=>by cases h
 |a::l,b::m,h=>by
  simp only[Au,Bool.and_eq_true]at h;rw[iB h.1,Ll h.2]
def lV(P:Program)(T:List (Nat × bO)):Nat→TypeId→Option (List aZ)
 |0,_=>none
 |n+1,t=>match P.underlying t with
  |some .bool=>some [.bool]
  |some (.int k)=>some [.int k]
  |some .string=>some [.str]
  |some (.slice e)=>match wQ T e,lV P T n e with
   |some c,some l=>match Au l (fo c)&&Nat.beq (P.cellsOf e) (c8 c)with
    |true=>some [.li c]
    |false=>none
   |_,_=>none
  |some (.array k e)=>xr (List.replicate k (lV P T n e))
  |some (.struct fs)=>xr (fs.toList.map fun f=>lV P T n f.type)
  |_=>none
inductive kO:aD→Prop where
 |int (k:IntKind) (x:Int):(Lit.int k x).wf=true→kO ⟨.int k,x⟩
 |bool (b:Bool):kO ⟨.bool,b⟩
 |str (s:ByteArray):s.size≤reachBytes→kO ⟨.str,s⟩
 |li (c:bO) (l:List (gh c)):l.length≤maxLen→(∀x∈l,∀d∈l3 c x,kO d)→kO ⟨.li c,l⟩
inductive rC:List (List bh)→List (List bh)→Prop where
 |nil:rC [] []
 |cons {x y:List bh} {xs ys:List (List bh)}:fW x y→rC xs ys→rC (x::xs) (y::ys)
theorem rC.flat{xs ys:List (List bh)}(h:rC xs ys):fW xs.flatten ys.flatten:=by
 induction h with
 |nil=>exact .nil
 |cons h _ aR=>rw[List.flatten_cons,List.flatten_cons];exact h.append aR
theorem rC.len{xs ys:List (List bh)}(h:rC xs ys):xs.length=ys.length:=by
 induction h with
 |nil=>rfl
 |cons h _ aR=>simp[aR]
theorem zdf{c:bO}{n:Nat}{es:List (List bh)}{l:List (gh c)}(hn:n=c8 c)(h:rC es (l.map (cZ c))):mj (.aP n es) (.li c l):=by
 subst hn
 intro w ro v af
 refine .li _ _ _ ?_
 cases af with
 |aP _ _ b cap zdg aa ad aq aS bC=>
  have hlen:(l.map (cZ c)).length=es.length:=h.len.symm
  rw[←hlen];refine .aP _ _ b cap zdg (by omega) ad (fun e he=>?_) (fun ak=>?_) fun j y ai=>?_
  ·obtain⟨x,_,rfl⟩:=List.mem_map.1 he
   exact Ci c x
  ·rw[hlen]at ak⊢
   exact aS ak
  ·obtain⟨x,hx,ag⟩:=h.flat.at.2 j y ai
   exact ag _ _ _ (bC j x hx)
section
variable {P:Program} {T:List (Nat × bO)}
theorem Lm{n:Nat}(aR: ∀{t:TypeId} {rs:List bh} {l:List aZ},jj P t rs→lV P T n t=some l→∃ds:List aD,ds.map aD.r=l∧fW rs (ds.map aD.au)∧∀d∈ds,kO d):
 ∀(ts:List TypeId) (parts:List (List bh)) {l:List aZ},parts.length=ts.length→(∀(i:Nat) (t:TypeId) (p:List bh),ts[i]? =some t→parts[i]? =some p→jj P t p)→xr (ts.map (lV P T n))=some l→
 ∃ds:List aD,ds.map aD.r=l∧fW parts.flatten (ds.map aD.au)∧∀d∈ds,kO d
 |[],parts,l,ao,_,hc=>by
  cases List.eq_nil_of_length_eq_zero ao
  cases hc;exact⟨[],rfl,.nil,by simp⟩
 |t::ts,[],l,ao,_,_=>by cases ao
 |t::ts,p::parts,l,ao,ag,hc=>by
  simp only[List.map_cons]at hc
  cases aa:lV P T n t with
  |none=>rw[aa]at hc;cases hc
  |some C4=>
   rw[aa]at hc;simp only[xr]at hc
   cases ad:xr (ts.map (lV P T n))with
   |none=>rw[ad]at hc;cases hc
   |some zd0=>
    rw[ad]at hc;cases hc;obtain⟨d1,bD,a2,a3⟩:=aR (ag 0 t p rfl rfl) aa;obtain⟨d2,eT,gK,gf⟩:=Lm aR ts parts (by simpa using ao) (fun i t p hi ak=>ag (i+1) t p (by simpa using hi) (by simpa using ak)) ad
    refine⟨d1++d2,by simp[bD,eT],by rw[List.flatten_cons,List.map_append];exact a2.append gK,fun d hd=>?_⟩
    rcases List.mem_append.1 hd with hd|hd
    ·exact a3 d hd
    ·exact gf d hd
theorem SE{c:bO}{e:TypeId}(aR: ∀{rs:List bh},jj P e rs→∃ds:List aD,ds.map aD.r=fo c∧fW rs (ds.map aD.au)∧∀d∈ds,kO d):
 ∀(es:List (List bh)),(∀x∈es,jj P e x)→∃l:List (gh c),rC es (l.map (cZ c))∧∀x∈l,∀d∈l3 c x,kO d
 |[],_=>⟨[],.nil,by simp⟩
 |x::es,h=>by
  obtain⟨ds,bD,a2,a3⟩:=aR (h x (by simp))
  obtain⟨l,eT,gK⟩:=SE aR es fun y az=>h y (by simp[az])
  have hc:l3 c (oI c ds)=ds:=Ia c ds bD
  refine⟨oI c ds::l,.cons (by unfold cZ;rw[hc];exact a2) eT,fun y az d hd=>?_⟩
  rcases List.mem_cons.1 az with rfl|az
  ·rw[hc]at hd
   exact a3 d hd
  ·exact gK y az d hd
theorem Av: ∀(n:Nat) {t:TypeId} {rs:List bh} {l:List aZ},jj P t rs→lV P T n t=some l→∃ds:List aD,ds.map aD.r=l∧fW rs (ds.map aD.au)∧∀d∈ds,kO d
 |0,_,_,_,_,h=>by cases h
 |n+1,t,rs,l,h,hf=>by
  unfold lV at hf
  cases h with
  |bool b hu=>
   rw[hu]at hf;cases hf;exact⟨[⟨.bool,b⟩],rfl,.cons (mj.refl _) .nil,fun d hd=>by cases List.mem_singleton.1 hd;exact .bool b⟩
  |int x hu hw=>
   rw[hu]at hf;cases hf;exact⟨[⟨.int _,x⟩],rfl,.cons (mj.refl _) .nil,fun d hd=>by cases List.mem_singleton.1 hd;exact .int _ _ hw⟩
  |str s hu hw=>
   rw[hu]at hf;cases hf;exact⟨[⟨.str,s⟩],rfl,.cons (mj.refl _) .nil,fun d hd=>by cases List.mem_singleton.1 hd;exact .str _ hw⟩
  |slice es hu ao hw=>
   rw[hu]at hf;simp only at hf
   split at hf
   ·rename_i c C4 _ ad
    split at hf
    ·rename_i hc
     cases hf;simp only[Bool.and_eq_true]at hc
     have aq:=Ll hc.1
     subst aq;obtain⟨l,bD,a2⟩:=SE (c:=c) (fun hx=>Av n hx ad) es hw;refine⟨[⟨.li c,l⟩],rfl,.cons (zdf (Nat.eq_of_beq_eq_true hc.2) bD) .nil,fun d hd=>?_⟩
     cases List.mem_singleton.1 hd
     exact .li _ _ (by have:=bD.len;rw[List.length_map]at this;have:=ao.1;omega) a2
    ·cases hf
   ·cases hf
  |struct parts hu aa ad=>
   rw[hu]at hf;simp only at hf;rename_i fs
   have hm:(fs.toList.map fun f=>lV P T n f.type)=(fs.toList.map (·.type)).map (lV P T n):=by rw[List.map_map];rfl
   rw[hm]at hf
   obtain⟨ds,bD,a2,a3⟩:=Lm (fun hx az=>Av n hx az) _ parts (by rw[List.length_map];exact aa) (fun i u p hi ak=>by
    rw[List.getElem?_map]at hi
    cases Ln:fs.toList[i]? with
    |none=>rw[Ln]at hi;cases hi
    |some f=>
     rw[Ln]at hi;cases hi
     exact ad i f p Ln ak) hf
   exact⟨ds,bD,a2,a3⟩
  |array parts hu aa ad=>
   rw[hu]at hf;simp only at hf;rename_i e k
   have hm:List.replicate k (lV P T n e)=(List.replicate k e).map (lV P T n):=by rw[List.map_replicate]
   rw[hm]at hf
   obtain⟨ds,bD,a2,a3⟩:=Lm (fun hx az=>Av n hx az) _ parts (by rw[List.length_replicate];exact aa) (fun i u p hi ak=>by
    have:=List.mem_of_getElem? hi
    cases (List.mem_replicate.1 this).2
    exact ad p (List.mem_of_getElem? ak)) hf
   exact⟨ds,bD,a2,a3⟩
def Lo(P:Program)(T:List (Nat × bO))(t:TypeId):Option aZ:=
 match(fieldTypes P t).isSome with
 |true=>match wQ T t,lV P T 20 t with
  |some c,some l=>match Au l (fo c)with
   |true=>some (.st c)
   |false=>none
  |_,_=>none
 |false=>match Lj P t,lV P T 20 t with
  |true,some [r]=>match r.one with
   |true=>some r
   |false=>none
  |_,_=>none
def Ed(P:Program)(T:List (Nat × bO)):List TypeId→Option (List aZ)
 |[]=>some []
 |t::ts=>match sY P 20 t,Lo P T t,Ed P T ts with
  |true,some r,some rs=>some (r::rs)
  |_,_,_=>none
def s3(d:aD):Prop:=
 match d with
 |⟨.st c,x⟩=>∀q∈l3 c x,kO q
 |d=>kO d
variable {H:Type} {enc:TypeId × Value→H} {w:World}
theorem zdh{β:Nat→Value}{t:TypeId}{v:Value}{r:aZ}{reach:Reach}{gu:Nat}(hf:Fits P w t v.cells.toList)(av:Value.okWide P w reach gu t v)(h:Lo P T t=some r): ∃x:r.den,bs w (lX w) [] β 0 (aD.fq ⟨r,x⟩) v∧s3 ⟨r,x⟩:=by
 unfold Lo at h
 split at h
 ·rename_i ag
  split at h
  ·rename_i c l _ ao
   split at h
   ·rename_i hc
    cases h;obtain rfl:=Ll hc;obtain⟨cs,rfl⟩:=zdb av ag;obtain⟨rs,g1,g2⟩:=Fits.agg (P:=P) (w:=w) (cs:=cs) hf (β:=β) (N:=0);obtain⟨ds,bD,a2,a3⟩:=Av 20 g1 ao
    have hc:l3 c (oI c ds)=ds:=Ia c ds bD
    refine⟨oI c ds,?_,fun q aL=>a3 q (by rw[←hc];exact aL)⟩
    have u1:aD.fq ⟨.st c,oI c ds⟩= .agg ((ds.map aD.au).map .au):=by
     show aE.agg ((cZ c (oI c ds)).map .au)=_;unfold cZ;rw[hc]
    rw[u1];exact(fW.fq a2).agg _ _ _ _ _ _ g2
   ·cases h
  ·cases h
 ·split at h
  ·rename_i ew an ao
   split at h
   ·rename_i aa
    cases h;obtain⟨y,g1,g2⟩:=Fits.one (P:=P) (w:=w) hf (zda av an) (β:=β) (N:=0);obtain⟨ds,bD,a2,a3⟩:=Av 20 g1 ao;obtain⟨d,oK,rfl,rfl,hn⟩:=lL bD
    cases mi hn
    cases a2 with
    |cons ag _=>
     have dN:=Sc aa
     refine⟨d.v,?_,?_⟩
     ·show bs w (lX w) [] β 0 (aD.fq d) v
      have:aD.fq d= .au d.au:=Sb (x:=d.v) dN
      rw[this];exact ag.fq _ _ _ _ _ _ g2
     ·have:=a3 d (List.mem_singleton.2 rfl)
      unfold s3
      split
      ·rename_i c x heq
       exact absurd (congrArg aD.r heq) (dN c)
      ·exact this
   ·cases h
  ·cases h
theorem SF(K:Kids P (· < P.types.size)){β:Nat→Value}{base gu:Nat}{sp:Nat→Bool}{held:Bool}{reach:Reach}: ∀{ts:List TypeId} {vs:List Value} {ds:List (DataW H)} {ps:List MemPlace} {rs:List aZ},DataW.TrodAll enc P w base sp held ts vs ds ps→Ed P T ts=some rs→
 (∀q∈DataW.weightsEach P ts ds,q≤reachBytes)→(∀(j:Nat) t v,ts[j]? =some t→vs[j]? =some v→Value.okWide P w reach gu t v)→
 ds.length=ts.length∧∃dl:List aD,dl.map aD.r=rs∧dl.length=vs.length∧(∀(j:Nat) x,(dl.map aD.fq)[j]? =some x→∃v,vs[j]? =some v∧bs w (lX w) [] β 0 x v)∧∀d∈dl,s3 d
 |[],vs,ds,ps,rs,h,ak,_,_=>by
  obtain⟨rfl,rfl,rfl⟩:=trodAll_nil h;cases ak;exact⟨rfl,[],rfl,rfl,by simp,by simp⟩
 |t::ts,vs,ds,ps,rs,h,ak,hw,an=>by
  obtain⟨v,zd1,d,oK,p,q,rfl,rfl,rfl,aa,ad⟩:=trodAll_cons h;unfold Ed at ak
  split at ak
  ·rename_i r zd2 pr af nH
   cases ak;obtain⟨g0,dl,g1,g2,g3,g4⟩:=SF K ad nH (fun q aL=>hw q (by rw[DataW.weightsEach];exact List.mem_append_right _ aL)) fun j bw bx ai sl=>an (j+1) bw bx (by simpa using ai) (by simpa using sl)
   obtain⟨x,bD,a2⟩:=zdh (β:=β) (zc9 K pr aa fun q aL=>hw q (by rw[DataW.weightsEach];exact List.mem_append_left _ aL)) (an 0 t v rfl rfl) af
   refine⟨by simp[g0],⟨r,x⟩::dl,by simp[g1],by simp[g2],fun j y ai=>?_,fun d hd=>?_⟩
   ·cases j with
    |zero=>simp at ai;subst ai;exact⟨v,rfl,bD⟩
    |succ j=>simpa using g3 j y (by simpa using ai)
   ·rcases List.mem_cons.1 hd with rfl|hd
    ·exact a2
    ·exact g4 d hd
  ·cases ak
theorem zdi{G:a7}{f:FuncId}{fn:Func}{s:ChangeSpec}{args:Array Value}{ds gs:List (DataW H)}{before:List MemPlace}{tb:TypeId}{gu:Nat}{reach:Reach}{m:a1}
 (sZ:DataW.Whole enc P fn.params.toList s.vars false w args.toList ds gs before)(av:s.vars=[])(ag: ∀ds:List (DataW H),ds.length=fn.params.toList.length→s.fn H ds={results:=[.lit (.bool true)],args:=ds})
 (fg:(DataW.weightsEach P (fn.params.toList++s.plain.varTypes P) (ds++gs)).all (· ≤reachBytes)=true)(yT: ∀(j:Nat) t v,fn.params[j]? =some t→args[j]? =some v→Value.okWide P w reach gu t v)
 (zdj:s.plain.varTypes P=[])(qQ:fn.resultTypes= #[tb])(Lk:P.underlying tb=some .bool)(K:Kids P (· < P.types.size))(bu: ∀t e,t<P.types.size→P.underlying t=some (.slice e)→0<P.cellsOf e)(zV: ∀t∈fn.params.toList,t<P.types.size)
 (qV:Ed P T fn.params.toList=some m.ps)(yj:p6 w (lX w) G)(hc:ck P G f m)(hm: ∀x,(∀d∈dn m.ps x,s3 d)→my m.pre x∧lq m.rs (m.m x)=kk true):
 Calls P f args w fun e w'=>∃v,e= .returned v∧s.post enc P fn false true false false w args v w':=by
 have zdk:=sZ
 obtain⟨p,q,cX,SG,rfl,_,_⟩:=sZ
 rw[av]at SG
 obtain⟨rfl,rfl⟩:=trodVars_none SG
 rw[zdj,List.append_nil,List.append_nil]at fg
 obtain⟨nR,dl,bD,a2,a3,a4⟩:=SF (T:=T) (β:=fun _=>undef) K cX qV (fun q aL=>by simpa using List.all_eq_true.1 fg q aL) fun j t v ai sl=>yT j t v (by simpa using ai) (by simpa using sl)
 have Aq:dn m.ps (b3 m.ps dl)=dl:=xl bD
 obtain⟨zdl,af⟩:=hm (b3 m.ps dl) (by rw[Aq];exact a4)
 have gR:=(hc (b3 m.ps dl) zdl).frame (σ:=[]) (n:=0) (DX _) fun r bQ af=>by rw[af];exact KP
 refine zde (β:=fun _=>undef) zdk av (by rw[List.append_nil];exact ag ds nR) qQ Lk K bu zV (avs':=nw m.ps (b3 m.ps dl)) ?_ (fun i x hx=>?_) yj (gR.res fun r bQ ⟨aa,_,ad⟩=>⟨ad.trans af,aa⟩)
 ·unfold nw
  rw[Aq,List.length_map,a2];exact Array.length_toList.symm
 ·unfold nw at hx
  rw[Aq]at hx;obtain⟨v,aa,ad⟩:=a3 i x hx
  have:args.getD i undef=v:=by
   have tS:args[i]? =some v:=by simpa using aa
   rw[Array.getD_eq_getD_getElem?,tS];rfl
  rw[this];exact ad
end
end Go.aM
namespace Go.aM
open Go
def p5:List (Nat × bE)→Nat→List (Nat × bE)
 |[],_=>[]
 |(k,x)::r,id=>match Nat.beq k id with
  |true=>p5 r id
  |false=>(k,x)::p5 r id
theorem Lp{G:a7}{e:Env}{id:Nat}: ∀(h:List (Nat × bE)),cM G e (p5 h id)=fU (cM G e h) id
 |[]=>rfl
 |(k,x)::r=>by
  simp only[p5,cM,fU]
  by_cases aj:k=id
  ·subst aj
   simp only[Nat.beq_refl,if_true];exact Lp r
  ·have:Nat.beq k id=false:=by cases aL:Nat.beq k id with|true=>exact absurd (Nat.eq_of_beq_eq_true aL) aj|false=>rfl
   simp only[this,if_neg aj,cM,Lp r]
theorem Lq{k id:Nat}: ∀{h:List (Nat × bE)},eI k h=true→eI k (p5 h id)=true
 |[],h=>h
 |(j,x)::r,h=>by
  have aX:x.lt k=true∧eI k r=true:=by cases x<;>simpa only[eI,Bool.and_eq_true]using h
  simp only[p5]
  split
  ·exact Lq aX.2
  ·show(x.lt k&&eI k (p5 r id))=true
   rw[aX.1,Lq aX.2];rfl
def Lr(u7 s0 t5:Nat)(inl:Nat→List ab→ar→aB)(f:Nat)(as:List ab)(S:ar):aB:=
 match Nat.beq f u7,as with
 |true,[.dD id 0]=>match dq S.h id with
  |some (.dc t [x0,.aP r])=>match dq S.h r with
   |some (.rw bw .u8 x)=>match(Nat.beq t s0&&Nat.beq bw t5)&&(x.fF (.li .u8)&&x.lt S.k)with
    |true=>emit S.k [.f1 .cz x] [] (.cu .b9 ⟨bb.put .emp 0 (.bl .str S.k),p5 S.h r,S.n,S.k+1,S.g⟩)
    |false=>inl f as S
   |_=>inl f as S
  |some (.dc t [x0,.cs (.slice none 0 0)])=>match Nat.beq t s0 with
   |true=>.cu .b9 ⟨bb.put .emp 0 (.cs (.string ⟨#[]⟩)),S.h,S.n,S.k,S.g⟩
   |false=>inl f as S
  |_=>inl f as S
 |_,_=>inl f as S
section
variable {P:Program} {G:a7} {M:List a1} {inl:Nat→List ab→ar→aB} {u7 s0 t5:Nat}
def yi(P:Program)(G:a7)(u7 s0 t5:Nat):Prop:=
 (∀{σ:bA} {n rid id:Nat} {x0:aE} {l:List Int},aF σ id=some (.box s0 [x0,.aP rid])→aF σ rid=some (.row false t5 1 (l.map fun z=>[.v (.int .u8 z)]))→
  dO P G u7 [.ptr id 0] σ n fun r bQ=>r= .au (.v (.string (bytesOf l)))∧bQ=fU σ rid)∧
 ∀{σ:bA} {n id:Nat} {x0:aE},aF σ id=some (.box s0 [x0,.au (.v (.slice none 0 0))])→dO P G u7 [.ptr id 0] σ n fun r bQ=>r= .au (.v (.string ⟨#[]⟩))∧bQ=σ
theorem zdm(cX:yi P G u7 s0 t5)(cd:gL P G M inl):gL P G M (Lr u7 s0 t5 inl):=fun f as S e ae ao hf ag=>by
 unfold Lr at ag⊢
 split at ag
 rotate_left
 ·exact cd _ _ S e ae ao hf ag
 rename_i id zdn
 have aV:=Nat.eq_of_beq_eq_true zdn
 subst aV
 split at ag
 ·rename_i t x0 r ah
  split at ag
  rotate_left
  ·exact cd _ _ S e ae ao hf ag
  rename_i bw x zdo
  split at ag
  rotate_left
  ·exact cd _ _ S e ae ao hf ag
  rename_i aj;simp only[Bool.and_eq_true]at aj;obtain⟨⟨fJ,ix⟩,wz,D6⟩:=aj
  have fJ:=Nat.eq_of_beq_eq_true fJ
  have ix:=Nat.eq_of_beq_eq_true ix
  subst fJ ix
  have u4:gU S.k [bS.f1 .cz x]=true:=by
   simp only[gU,bS.lt,D6,Bool.and_self]
  have bG:bZ S.k e (c3 M e S.k [bS.f1 .cz x]):=jD (Nat.le_refl _)
  have eF:=jd (M:=M) (e:=e) u4 0 _ rfl
  have zdp:x.aH (c3 M e S.k [bS.f1 .cz x]) (.li .u8)=x.aH e (.li .u8):=ft bG D6
  simp only[Nat.add_zero,bS.den,db.den,db.a,zdp]at eF
  have p1:=cX.1 (σ:=cM G e S.h) (n:=S.n) (rid:=r) (id:=id) (x0:=x0.den G e) (l:=x.aH e (.li .u8)) (by rw[eR,ah];rfl) (by rw[eR,zdo];rfl)
  refine p1.res fun zdq bQ ⟨aa,ad⟩=>⟨⟨bb.put .emp 0 (.bl .str S.k),p5 S.h r,S.n,S.k+1,S.g⟩,c3 M e S.k [bS.f1 .cz x],by rw[lQ];rfl,?_,?_,?_,ig bG ae.g hf,bG,Nat.le_succ _⟩
  ·rw[aa]
   show _=ab.den G _ (ar.at _ 0);unfold ar.at
   simp only[bb.j1,if_true,ab.den,ab.dyn,eF];rfl
  ·rw[ad]
   show _=cM G _ (p5 S.h r);rw[Lp,ze bG ae.h]
  ·refine⟨fun i y hi=>?_,Lq (uH (Nat.le_succ _) ae.h),oQ (Nat.le_succ _) ae.g⟩
   simp only[bb.j1]at hi
   split at hi
   ·cases hi
    exact jM (Nat.lt_succ_self _)
   ·simp[bb.get]at hi
 ·rename_i t x0 ah
  split at ag
  rotate_left
  ·exact cd _ _ S e ae ao hf ag
  rename_i fJ
  have fJ:=Nat.eq_of_beq_eq_true fJ
  subst fJ
  have p1:=cX.2 (σ:=cM G e S.h) (n:=S.n) (id:=id) (x0:=x0.den G e) (by rw[eR,ah];rfl)
  refine p1.res fun zdq bQ ⟨aa,ad⟩=>⟨⟨bb.put .emp 0 (.cs (.string ⟨#[]⟩)),S.h,S.n,S.k,S.g⟩,e,rfl,?_,?_,?_,hf,bZ.refl _ _,Nat.le_refl _⟩
  ·rw[aa]
   show _=ab.den G _ (ar.at _ 0);unfold ar.at
   simp only[bb.j1,if_true,ab.den]
  ·rw[ad]
  ·refine⟨fun i y hi=>?_,ae.h,ae.g⟩
   simp only[bb.j1]at hi
   split at hi
   ·cases hi
    rfl
   ·simp[bb.get]at hi
 ·exact cd _ _ S e ae ao hf ag
end
end Go.aM
namespace Go.aM
open Go
def BO(P:Program)(H:oo)(T:List (Nat × bO))(Z:Nat × Nat × Nat)(B:List jQ)(C:List hU):Nat→Nat→List ab→ar→aB
 |0=>fun _ _ _=>.bad 40
 |n+1=>J8 P H T (Lr Z.1 Z.2.1 Z.2.2 (K2 B (KO C (BO P H T Z B C n))))
section
variable {P:Program} {G:a7} {M:List a1}
theorem FJ{Z:Nat × Nat × Nat}{B:List jQ}{C:List hU}{H:oo}{T:List (Nat × bO)}(uZ:J9 P G M H)(DD:yi P G Z.1 Z.2.1 Z.2.2)(gb:Hi P G M B)(mE:pw P G M C): ∀n,gL P G M (BO P H T Z B C n)
 |0=>fun _ _ _ _ _ _ _ h=>h.elim
 |n+1=>zbs uZ (zdm DD (zcI gb (zcs mE (FJ uZ DD gb mE n))))
end
end Go.aM
namespace Go.aM
open Go
def n6(n:Nat)(b:Bool)(f:bT→Bool)(x:bT):Bool:=
 match x.bH n with
 |true=>b
 |false=>f x
def rD(n:Nat)(b:Bool)(f:bT→Bool)(x:bT):Bool:=
 match x.cI n with
 |true=>b
 |false=>f x
def aB.eO:aB→(bT→Bool)→Bool
 | .cu x _,f=>f x
 | .lt _ _ t,f=>t.eO f
 | .eL _ _,_=>false
 | .it _ a b,f=>a.eO f&&b.eO f
 | .dr n a _ k,f=>a.eO (n6 n (k.eO f) f)
 | .ec m xid _ _ _ a k,f=>k.eO f&&a.eO (n6 m true (rD xid true f))
 | .eH _ _ _ _ _,_=>false
 | .bad _,_=>false
def aB.hL(M:List a1):aB→Env→(bT→Bool)→(bT→ar→Env→Prop)→Prop
 | .cu x S,e,_,Q=>Q x S e
 | .lt i x t,e,f,Q=>t.hL M (bb.put e i (x.den M e)) f Q
 | .eL n t,e,f,Q=>match t.eO f with
  |true=>n.ok M e
  |false=>n.ok M e∧t.hL M e f Q
 | .it g a b,e,f,Q=>match a.eO f,b.eO f with
  |true,true=>True
  |true,false=>g.aH e .bool=false→b.hL M e f Q
  |false,true=>g.aH e .bool=true→a.hL M e f Q
  |false,false=>(g.aH e .bool=true→a.hL M e f Q)∧(g.aH e .bool=false→b.hL M e f Q)
 | .dr n a ps k,e,f,Q=>a.hL M e (n6 n (k.eO f) f) fun x S ax=>bif x.bH n then k.hL M (fB e (fun r p=>⟨r,(p.c1 S).get ax r⟩) ps) f Q else Q x S ax
 | .ec m xid da bU ca a k,e,f,Q=>match k.eO f with
  |true=>∃I:Nat→bM ca→Prop,I 0 (b3 _ (dw e ca))∧∀(i:Nat) (v:bM ca),i<(cg (da.den M e)).toNat→I i v→
   a.hL M (bd (bb.put e bU ⟨.int .i64,(i:Int)⟩) ca v) (n6 m false (rD xid true f)) fun x S ax=>bif x.bH m then I (i+1) (b3 _ (fh S ax ca))else bif x.cI xid then True else Q x S ax
  |false=>∃I:Nat→bM ca→Prop,I 0 (b3 _ (dw e ca))∧(∀(i:Nat) (v:bM ca),i<(cg (da.den M e)).toNat→I i v→
   a.hL M (bd (bb.put e bU ⟨.int .i64,(i:Int)⟩) ca v) (n6 m false (rD xid false f)) fun x S ax=>bif x.bH m then I (i+1) (b3 _ (fh S ax ca))else bif x.cI xid then k.hL M (bd e ca (b3 _ (fh S ax ca))) f Q else Q x S ax)∧
   ∀v,I (cg (da.den M e)).toNat v→k.hL M (bd e ca v) f Q
 | .eH m xid ca a k,e,f,Q=>∃(I:bM ca→Prop) (ji:bM ca→Nat),I (b3 _ (dw e ca))∧ji (b3 _ (dw e ca))<cn∧∀(v:bM ca),I v→
  a.hL M (bd e ca v) (n6 m false (rD xid (k.eO f) f)) fun x S ax=>bif x.bH m then I (b3 _ (fh S ax ca))∧ji (b3 _ (fh S ax ca))<ji v else bif x.cI xid then k.hL M (bd e ca (b3 _ (fh S ax ca))) f Q else Q x S ax
 | .bad _,_,_,_=>False
section
variable {M:List a1}
def kh(f:bT→Bool)(Q:bT→ar→Env→Prop):Prop:=∀x,f x=true→∀S e,Q x S e
theorem kh.dr{f:bT→Bool}{Q R:bT→ar→Env→Prop}{n:Nat}{b:Bool}(h:kh f R)(ae:b=true→∀x S e,x.bH n=true→Q x S e)(af: ∀x S e,x.bH n=false→R x S e→Q x S e):kh (n6 n b f) Q:=fun x hx S e=>by
 unfold n6 at hx
 cases ai:x.bH n with
 |true=>rw[ai]at hx;exact ae hx x S e ai
 |false=>rw[ai]at hx;exact af x S e ai (h x hx S e)
theorem kh.Ee{f:bT→Bool}{Q R:bT→ar→Env→Prop}{n:Nat}{b:Bool}(h:kh f R)(ae:b=true→∀x S e,x.cI n=true→Q x S e)(af: ∀x S e,x.cI n=false→R x S e→Q x S e):kh (rD n b f) Q:=fun x hx S e=>by
 unfold rD at hx
 cases ai:x.cI n with
 |true=>rw[ai]at hx;exact ae hx x S e ai
 |false=>rw[ai]at hx;exact af x S e ai (h x hx S e)
theorem ki: ∀(t:aB) {e:Env} {f:bT→Bool} {Q:bT→ar→Env→Prop},kh f Q→t.eO f=true→t.wp M e Q
 | .cu x S,e,_,_,h,c=>h x c S e
 | .lt _ _ t,_,_,_,h,c=>ki t h c
 | .eL _ _,_,_,_,_,c=>by cases c
 | .it _ a b,_,_,_,h,c=>by
  simp only[aB.eO,Bool.and_eq_true]at c;exact⟨fun _=>ki a h c.1,fun _=>ki b h c.2⟩
 | .dr n a ps k,e,f,Q,h,c=>ki a (kh.dr h (fun ae x S ax ai=>by rw[ai];exact ki k h ae) (fun x S ax ai aL=>by rw[ai];exact aL)) c
 | .ec m xid da bU ca a k,e,f,Q,h,c=>by
  simp only[aB.eO,Bool.and_eq_true]at c;refine⟨fun _ _=>True,trivial,fun i v _ _=>ki a (kh.dr (kh.Ee h (Q:=fun x S ax=>bif x.cI xid then k.wp M (bd e ca (b3 _ (fh S ax ca))) Q else Q x S ax) (fun _ x S ax ai=>by rw[ai];exact ki k h c.1) (fun x S ax ai aL=>by rw[ai];exact aL)) (fun _ x S ax ai=>by rw[ai];trivial) (fun x S ax ai aL=>by rw[ai];exact aL)) c.2,fun v _=>ki k h c.1⟩
 | .eH _ _ _ _ _,_,_,_,_,c=>by cases c
 | .bad _,_,_,_,_,c=>by cases c
theorem kj: ∀(t:aB) {e:Env} {f:bT→Bool} {Q R:bT→ar→Env→Prop},(∀x S ax,Q x S ax→R x S ax)→t.hL M e f Q→t.hL M e f R
 | .cu _ _,_,_,_,_,h,q=>h _ _ _ q
 | .lt _ _ t,_,_,_,_,h,q=>kj t h q
 | .eL n t,e,f,Q,R,h,q=>by
  simp only[aB.hL]at q⊢
  cases hc:t.eO f with
  |true=>rw[hc]at q;exact q
  |false=>rw[hc]at q;exact⟨q.1,kj t h q.2⟩
 | .it g a b,e,f,Q,R,h,q=>by
  simp only[aB.hL]at q⊢
  cases aI:a.eO f<;>cases ae:b.eO f<;>rw[aI,ae]at q<;>simp only at q⊢
  ·exact⟨fun ah=>kj a h (q.1 ah),fun ah=>kj b h (q.2 ah)⟩
  ·exact fun ah=>kj a h (q ah)
  ·exact fun ah=>kj b h (q ah)
 | .dr n a ps k,e,f,Q,R,h,q=>kj a (fun x S ax r=>by
  cases hx:x.bH n with
  |true=>rw[hx]at r;exact kj k h r
  |false=>rw[hx]at r;exact h _ _ _ r) q
 | .ec m xid da bU ca a k,e,f,Q,R,h,q=>by
  simp only[aB.hL]at q⊢
  cases hc:k.eO f with
  |true=>
   rw[hc]at q;obtain⟨I,aa,ad⟩:=q;refine⟨I,aa,fun i v hi av=>kj a (fun x S ax r=>?_) (ad i v hi av)⟩
   cases hx:x.bH m with
   |true=>rw[hx]at r;exact r
   |false=>
    rw[hx]at r
    cases az:x.cI xid with
    |true=>trivial
    |false=>rw[az]at r;exact h _ _ _ r
  |false=>
   rw[hc]at q;obtain⟨I,aa,ad,aq⟩:=q;refine⟨I,aa,fun i v hi av=>kj a (fun x S ax r=>?_) (ad i v hi av),fun v av=>kj k h (aq v av)⟩
   cases hx:x.bH m with
   |true=>rw[hx]at r;exact r
   |false=>
    rw[hx]at r
    cases az:x.cI xid with
    |true=>rw[az]at r;exact kj k h r
    |false=>rw[az]at r;exact h _ _ _ r
 | .eH m xid ca a k,e,f,Q,R,h,q=>by
  obtain⟨I,ji,aa,ad,aq⟩:=q;refine⟨I,ji,aa,ad,fun v av=>kj a (fun x S ax r=>?_) (aq v av)⟩
  cases hx:x.bH m with
  |true=>rw[hx]at r;exact r
  |false=>
   rw[hx]at r
   cases az:x.cI xid with
   |true=>rw[az]at r;exact kj k h r
   |false=>rw[az]at r;exact h _ _ _ r
 | .bad _,_,_,_,_,_,q=>q.elim
theorem lW: ∀(t:aB) {e:Env} {f:bT→Bool} {Q:bT→ar→Env→Prop},kh f Q→t.hL M e f Q→t.wp M e Q
 | .cu _ _,_,_,_,_,q=>q
 | .lt _ _ t,_,_,_,h,q=>lW t h q
 | .eL n t,e,f,Q,h,q=>by
  simp only[aB.hL]at q
  cases hc:t.eO f with
  |true=>rw[hc]at q;exact⟨q,ki t h hc⟩
  |false=>rw[hc]at q;exact⟨q.1,lW t h q.2⟩
 | .it g a b,e,f,Q,h,q=>by
  simp only[aB.hL]at q
  cases aI:a.eO f<;>cases ae:b.eO f<;>rw[aI,ae]at q<;>simp only at q
  ·exact⟨fun ah=>lW a h (q.1 ah),fun ah=>lW b h (q.2 ah)⟩
  ·exact⟨fun ah=>lW a h (q ah),fun _=>ki b h ae⟩
  ·exact⟨fun _=>ki a h aI,fun ah=>lW b h (q ah)⟩
  ·exact⟨fun _=>ki a h aI,fun _=>ki b h ae⟩
 | .dr n a ps k,e,f,Q,h,q=>by
  refine lW a (f:=n6 n (k.eO f) f) (kh.dr h (fun ae x S ax ai=>?_) (fun x S ax ai aL=>by rw[ai];exact aL)) ?_
  ·rw[ai];exact ki k h ae
  ·exact kj a (fun x S ax r=>by
    cases hx:x.bH n with
    |true=>rw[hx]at r;exact lW k h r
    |false=>rw[hx]at r;exact r) q
 | .ec m xid da bU ca a k,e,f,Q,h,q=>by
  simp only[aB.hL]at q
  cases hc:k.eO f with
  |true=>
   rw[hc]at q;obtain⟨I,aa,ad⟩:=q;refine⟨I,aa,fun i v hi av=>?_,fun v _=>ki k h hc⟩
   refine lW a (f:=n6 m false (rD xid true f)) (kh.dr (kh.Ee h (Q:=fun x S ax=>bif x.cI xid then k.wp M (bd e ca (b3 _ (fh S ax ca))) Q else Q x S ax) (fun _ x S ax ai=>by rw[ai];exact ki k h hc) (fun x S ax ai aL=>by rw[ai];exact aL)) (fun ae=>by cases ae) (fun x S ax ai aL=>by rw[ai];exact aL)) ?_
   refine kj a (fun x S ax r=>?_) (ad i v hi av)
   cases hx:x.bH m with
   |true=>rw[hx]at r;exact r
   |false=>
    rw[hx]at r
    cases az:x.cI xid with
    |true=>exact ki k h hc
    |false=>rw[az]at r;exact r
  |false=>
   rw[hc]at q;obtain⟨I,aa,ad,aq⟩:=q;refine⟨I,aa,fun i v hi av=>?_,fun v av=>lW k h (aq v av)⟩
   refine lW a (f:=n6 m false (rD xid false f)) (kh.dr (kh.Ee h (Q:=fun x S ax=>bif x.cI xid then k.wp M (bd e ca (b3 _ (fh S ax ca))) Q else Q x S ax) (fun ae=>by cases ae) (fun x S ax ai aL=>by rw[ai];exact aL)) (fun ae=>by cases ae) (fun x S ax ai aL=>by rw[ai];exact aL)) ?_
   refine kj a (fun x S ax r=>?_) (ad i v hi av)
   cases hx:x.bH m with
   |true=>rw[hx]at r;exact r
   |false=>
    rw[hx]at r
    cases az:x.cI xid with
    |true=>rw[az]at r;exact lW k h r
    |false=>rw[az]at r;exact r
 | .eH m xid ca a k,e,f,Q,h,q=>by
  obtain⟨I,ji,aa,ad,aq⟩:=q;refine⟨I,ji,aa,ad,fun v av=>?_⟩
  refine lW a (f:=n6 m false (rD xid (k.eO f) f)) (kh.dr (kh.Ee h (Q:=fun x S ax=>bif x.cI xid then k.wp M (bd e ca (b3 _ (fh S ax ca))) Q else Q x S ax) (fun ae x S ax ai=>by rw[ai];exact ki k h ae) (fun x S ax ai aL=>by rw[ai];exact aL)) (fun ae=>by cases ae) (fun x S ax ai aL=>by rw[ai];exact aL)) ?_
  refine kj a (fun x S ax r=>?_) (aq v av)
  cases hx:x.bH m with
  |true=>rw[hx]at r;exact r
  |false=>
   rw[hx]at r
   cases az:x.cI xid with
   |true=>rw[az]at r;exact lW k h r
   |false=>rw[az]at r;exact r
 | .bad _,_,_,_,_,q=>q.elim
end
def vG(M:List a1)(t:aB)(e:Env):Prop:=t.hL M e (fun _=>true) fun _ _ _=>True
theorem Ls{M:List a1}{t:aB}{e:Env}(h:vG M t e):t.wp M e fun _ _ _=>True:=lW t (fun _ _ _ _=>trivial) h
section
variable {P:Program} {G:a7} {M:List a1} {inl:Nat→List ab→ar→aB}
theorem dz(cd:gL P G M inl){f:Nat}{m:a1}(t:aB)(aG:inl f (hk 0 m.ps) (qG m.ps.length)=t)(he:t.gz.all (xn m.rs)=true)
 (ag: ∀x,vG M t (gg 0 (dn m.ps x))=my m.pre x)(hm: ∀x,vH M t m.rs (gg 0 (dn m.ps x))=m.m x):ck P G f m:=
 zcz cd t aG he (fun x hx=>Ls (by rw[ag x];exact hx)) hm
theorem Wl(cd:gL P G M inl){f:Nat}{m:a1}(t:aB)(aG:inl f (hk 0 m.ps) (qG m.ps.length)=t)(he:t.gz.all (xn m.rs)=true)
 (ag: ∀x,my m.pre x→vG M t (gg 0 (dn m.ps x)))(hm: ∀x,my m.pre x→vH M t m.rs (gg 0 (dn m.ps x))=m.m x):ck P G f m:=
 K0 cd t aG he (fun x hx=>(kg t (Ls (ag x hx))).1) fun x hx=>by rw[←hm x hx];exact(mw t _ _ _).symm
theorem r3(cd:gL P G M inl){f:Nat}{t:TypeId}{c:bO}{ps rs:List aZ}{pre:Option ((e9 (.st c::ps)).den→Prop)}{n5:(e9 (.st c::ps)).den→(e9 (.st c::rs)).den}(T:aB)(aG:inl f (.dD 0 0::hk 1 ps) (sX t c ps.length)=T)
 (he:T.gz.all (Lg t c rs)=true)(ag: ∀x,vG M T (gg 0 (dn (.st c::ps) x))=my pre x)(hm: ∀x,Eb M T t c rs (gg 0 (dn (.st c::ps) x))=n5 x):iQ P G f t ⟨.st c::ps,.st c::rs,pre,n5⟩:=
 Sz cd T aG he (fun x hx=>(kg T (Ls (by rw[ag x];exact hx))).1) hm
end
end Go.aM
