/- TE, part L: calls whose result is a new own row (slices.Clone). Conditions: none. -/
import Derived.Test.YtmkpmgfieagphaaGreatDoorKTEk
import Derived.Shelf.Spec.SlicesInsertGrow
import Derived.Shelf.SlGeneric
import Derived.Laws.CopyRow
namespace Go.aL
open Go
structure lH where
 f:Nat
 t:TypeId
 c:bL
 bytes:Nat
def BE(f:Nat):List lH→Option lH
 |[]=>none
 |r::l=>match Nat.beq r.f f with
  |true=>some r
  |false=>BE f l
def nM(P:Program)(G:a8)(r:lH):Prop:=
 ∀{σ:Heap} {n:Nat} {y:aD} {l:List (fO r.c)},fx σ (bZ r.c) y=some (l.map (cb r.c))→l.length≤maxLen∧l.length*r.bytes≤140737488355328→
  dG P G r.f [y] σ n fun v bV=>v= .aO n∧bV=(n,.row false r.t (bZ r.c) (l.map (cb r.c)))::σ
def Ou(R:List lH)(inl:Nat→List ab→ao→aC)(f:Nat)(aG:List ab)(S:ao):aC:=
 match BE f R,aG with
 |some r,[a]=>match vz S a with
  |some z=>match(z.ez (.li r.c)&&z.lt S.k)&&(match vA S a with
   |some d=>decide (d=r.c)
   |none=>true)with
   |true=>.eG (.f2 r.bytes (.ap r.c) (.cs (.slice none 0 0)) z) (.cH .cj ⟨ba.put .emp 0 (.aO S.n),(S.n,.rw r.t r.c z)::S.h,S.n+1,S.k,S.g⟩)
   |false=>inl f aG S
  |none=>inl f aG S
 |_,_=>inl f aG S
section
variable {P:Program} {G:a8} {M:List aR} {inl:Nat→List ab→ao→aC}
theorem VD{f:Nat}{R:List lH}{r:lH}(h:BE f R=some r):r∈R∧r.f=f:=by
 induction R with
 |nil=>cases h
 |cons q l aY=>
  simp only[BE]at h
  split at h
  ·rename_i ad
   cases h;exact⟨List.mem_cons_self ..,Nat.eq_of_beq_eq_true ad⟩
  ·exact⟨List.mem_cons_of_mem _ (aY h).1,(aY h).2⟩
theorem ziM{R:List lH}(fQ: ∀r∈R,nM P G r)(bW:fP P G M inl):fP P G M (Ou R inl):=fun f aG S e ad aq hf ai=>by
 unfold Ou at ai⊢
 split at ai
 rotate_left
 ·exact bW _ _ S e ad aq hf ai
 rename_i r a Ov
 obtain⟨hm,rfl⟩:=VD Ov
 split at ai
 rotate_left
 ·exact bW _ _ S e ad aq hf ai
 rename_i z aS
 split at ai
 rotate_left
 ·exact bW _ _ S e ad aq hf ai
 rename_i aj
 simp only[Bool.and_eq_true]at aj
 obtain⟨⟨fy,gH⟩,k8⟩:=aj
 have ob:fx (cy G e S.h) (bZ r.c) (a.den G e)=some (List.map (cb r.c) (z.az e (.li r.c))):=
  ED (G:=G) (N:=0) (B:=0) (e:=e) aS fy (fun d hd=>by rw[hd]at k8;exact of_decide_eq_true k8)
 obtain⟨gV,_⟩:ff.ok M e (.f2 r.bytes (.ap r.c) (.cs (.slice none 0 0)) z)∧True:=⟨ai.1,trivial⟩
 have gF:(ab.cs (.slice none 0 0)).az e (.li r.c)=([]:List (fO r.c)):=by simp only[ab.az,ab.fr,cB]
 simp only[ff.ok,cD.vh,cD.a,cD.b,gF,List.length_nil,Nat.zero_add]at gV
 refine(fQ r hm (n:=S.n) ob gV).res fun v bV ⟨aa,ae⟩=>⟨⟨ba.put .emp 0 (.aO S.n),(S.n,.rw r.t r.c z)::S.h,S.n+1,S.k,S.g⟩,e,rfl,?_,?_,⟨fun i y hi=>?_,?_,ad.g⟩,hf,bX.refl _ _,Nat.le_refl _⟩
 ·rw[aa]
  show _=ab.den G _ (ao.at _ 0);unfold ao.at
  simp only[ba.h0,if_true,ab.den]
 ·rw[ae]
  rfl
 ·simp only[ba.h0]at hi
  split at hi
  ·cases hi
   rfl
  ·simp[ba.get]at hi
 ·show(z.lt S.k&&eH S.k S.h)=true
  rw[gH,ad.h];rfl
end
end Go.aL
namespace Go.aL
open Go Go.Proofs Go.Shelf Go.RowKit Go.Lib
section
variable {P:Program}
theorem FX(w:World)(aA ziN ty elem:TypeId)(s g o Ow ziO:Nat)(a:Addr)(Ox ziP:Nat)(cur:Array Value)(t:TypeId)(cs:List Value)
 (hu:P.underlying aA=some (.slice elem))(ai:(P.info? elem).map (·.size)=some s)
 (ah:w.heap[g]? =some (.cells cur t (0,0)))(hn:cs.length=Nat.min Ox Ow*s)
 (ob: ∀j v,cs[j]? =some v→w.cell? (a.add j)=some v)(qk:o+cs.length≤cur.size)(aa: ∀v∈cs,v.oneCell'=true):
 (Builtin.copy_ #[aA,ziN] ty #[.slice (some ⟨g,o,none⟩) Ow ziO,.slice (some a) Ox ziP]).run P w=
  .ok (goInt (Nat.min Ox Ow)) (w.setRow g (cur.toList.take o++cs++cur.toList.drop (o+cs.length)).toArray):=by
 have aq:=run_loadCells_list (P:=P) w a cs ob
 have dD:=run_storeCells_at P g o t cs 0 cur w ah (by simpa using qk) aa
 rw[hn]at aq
 simp only[Nat.add_zero]at dD
 cases aI:P.info? elem with
 |none=>simp[aI]at ai
 |some i=>
  have hi:i.size=s:=by simpa[aI]using ai
  simp[Builtin.copy_,run_underlying hu,Builtin.lenOf,Builtin.firstCells,sizeOf,typeInfo,aI,hi,aq,dD]
theorem ziQ(w:World)(Oy ziR e:TypeId)(aH:P.underlying Oy=some (.slice e))(size:Nat)(aS: ∀w,(Go.sizeOf e).run P w= .ok size w)
 (a b:Addr)(VE ca yw BF:Nat)(b4:a.block≠b.block)(tS qX:TypeId)(nx BG:Nat)
 (yx:w.shape? a.block=some (tS,nx))(FY:nx≠0)(AQ:w.shape? b.block=some (qX,BG))(ziS:BG≠0)
 (ziT:w.frozen? b=false)(ziU:w.frozen? {block:=b.block,off:=BG}=false):
 (Extern.SlicesOverlaps.overlaps #[Oy,Oy] #[ziR] #[.slice (some a) VE ca,.slice (some b) yw BF]).run P w= .ok (.bool false) w:=by
 have ziV:(a.block != b.block)=true:=by simpa using b4
 have ziW:(a.block==b.block)=false:=by simpa using b4
 refine(?_:Sem.run P (Bind.bind _ _) w=_)
 by_cases aM:VE=0∨yw=0∨size=0
 ·simp[run_underlying aH,aS,aM]
 ·cases BG with
  |zero=>exact absurd rfl ziS
  |succ BG=>
   cases nx with
   |zero=>exact absurd rfl FY
   |succ nx=>
    simp[run_underlying aH,aS,aM,ziV,ziW,frozen,noView,viewAt,mayBeOne,stringish,shape,Sem.run,yx,AQ,ziT,ziU]
theorem ziX{α:Type}(cur cs vs:List α)(k M:Nat)(aa:k+M+cs.length≤cur.length)(ae:vs.length=M):
 (((cur.take (k+M)++cs++cur.drop (k+M+cs.length)).take k++vs++(cur.take (k+M)++cs++cur.drop (k+M+cs.length)).drop (k+vs.length)).length=cur.length)∧
 ((cur.take (k+M)++cs++cur.drop (k+M+cs.length)).take k++vs++(cur.take (k+M)++cs++cur.drop (k+M+cs.length)).drop (k+vs.length)).take (k+M+cs.length)=cur.take k++vs++cs:=by
 have hd:(cur.take (k+M)++cs++cur.drop (k+M+cs.length)).drop (k+vs.length)=cs++cur.drop (k+M+cs.length):=by
  rw[List.append_assoc];exact List.drop_left' (by rw[List.length_take];omega)
 have aH:(cur.take (k+M)++cs++cur.drop (k+M+cs.length)).take k=cur.take k:=by
  rw[List.append_assoc,List.take_append_of_le_length (by rw[List.length_take];omega),List.take_take]
  congr 1
  omega
 rw[hd,aH]
 refine⟨by simp only[List.length_append,List.length_take,List.length_drop];omega,?_⟩
 rw[←List.append_assoc]
 exact List.take_left' (by simp only[List.length_append,List.length_take];omega)
structure wH (P:Program) (a7:Ren):Prop where
 mixed:P.follows .mixedOrders=true
 f22:Bears P (a7.f 22) (Body2.n22 a7)
 f29: ∀args w,(callFunc (a7.f 29) args).run P w=((Extern.SlicesOverlaps.overlaps #[(a7.t 24),(a7.t 24)] #[(a7.t 4)] args).run P w).andThen fun v w'=>.ok (.value v) w'
 t3:P.underlying (a7.t 3)=some (TypeDesc.int IntKind.i64)
 a3: ∀w,(isAgg (a7.t 3)).run P w= .ok false w
 z3: ∀w,(Go.sizeOf (a7.t 3)).run P w= .ok 1 w
 v3: ∀w,(zeroValue (a7.t 3)).run P w= .ok (Value.int IntKind.i64 0) w
 t4:P.underlying (a7.t 4)=some (TypeDesc.bool)
 a4: ∀w,(isAgg (a7.t 4)).run P w= .ok false w
 z4: ∀w,(Go.sizeOf (a7.t 4)).run P w= .ok 1 w
 v4: ∀w,(zeroValue (a7.t 4)).run P w= .ok (Value.bool false) w
 t24:P.underlying (a7.t 24)=some (TypeDesc.slice (a7.t 9))
 a24: ∀w,(isAgg (a7.t 24)).run P w= .ok false w
 z24: ∀w,(Go.sizeOf (a7.t 24)).run P w= .ok 1 w
 v24: ∀w,(zeroValue (a7.t 24)).run P w= .ok (Value.slice none 0 0) w
variable {a7:Ren}
set_option maxHeartbeats 4000000 in
set_option maxRecDepth 100000 in
theorem ziY(L:wH P a7)(i0:TypeInfo)(z:Value)(s:Nat)(hi:P.info? (a7.t 9)=some i0)(iC:i0.size=s)(sm:0<s)
 (z9: ∀w,(Go.sizeOf (a7.t 9)).run P w= .ok s w)(g n c i m kp:Nat)(aU:Addr)(cur:Array Value)(t:TypeId)(vs:List Value)(w:World)
 (k1:i<n)(hm:0<m)(xL:n+m≤c)(KH:c≤maxLen)(VF:aU.block≠g)
 (ah:w.heap[g]? =some (.cells cur t (0,0)))(tT:cur.size=c*s)(fD:vs.length=m*s)
 (mL: ∀j v,vs[j]? =some v→w.cell? (aU.add j)=some v)(BH: ∀v∈cur.toList.take (n*s),v.oneCell'=true)(ny: ∀v∈vs,v.oneCell'=true)
 (tS:TypeId)(nx:Nat)(yx:w.shape? aU.block=some (tS,nx))(FY:nx≠0):
 Calls P (a7.f 22) #[.slice (some ⟨g,0,none⟩) n c,.int .i64 i,.slice (some aU) m kp] w fun e w'=>
  e= .returned (.slice (some ⟨g,0,none⟩) (n+m) c)∧∃sn:Array Value,w'=w.drew.setRow g sn∧sn.size=cur.size∧sn.toList.take ((n+m)*s)=cur.toList.take (i*s)++vs++(cur.toList.take (n*s)).drop (i*s):=by
 have t3:=L.t3;have a3:=L.a3;have z3:=L.z3;have v3:=L.v3;have t4:=L.t4;have a4:=L.a4;have z4:=L.z4;have v4:=L.v4;have t24:=L.t24;have a24:=L.a24;have z24:=L.z24;have v24:=L.v24
 have yu:=run_underlying L.t3;have VG:=run_underlying L.t4;have VH:=run_underlying L.t24
 have VI: ¬((m:Int)=0):=by omega
 have kO: ¬((i:Int)=(n:Int)):=by omega
 have mixed:=L.mixed
 have VJ:=L.f29
 obtain⟨_,_,sl⟩:=L.f22
 have ziZ: ∀off yw BF,(callFunc (a7.f 29) #[.slice (some aU) m kp,.slice (some ⟨g,off,none⟩) yw BF]).run P w= .ok (.value (.bool false)) w:=fun off yw BF=>by
  rw[VJ]
  have h:=ziQ w (a7.t 24) (a7.t 4) (a7.t 9) L.t24 s z9 aU ⟨g,off,none⟩ m kp yw BF VF tS t nx cur.size yx FY (by simp[World.shape?,ah]) (by rw[tT];exact Nat.mul_ne_zero (by omega) (by omega)) (by simp[World.frozen?,ah]) (by simp[World.frozen?,ah])
  rw[h];rfl
 unfold maxLen at KH
 have zi0:IntKind.i64.wrap ((i:Int)+(m:Int))=(i:Int)+(m:Int):=by rw[IntKind.wrap_i64];omega
 have ih:(0:Int)≤(i:Int)+(m:Int):=by omega
 have Oz:i≤n:=by omega
 have zi1:((i:Int)+(m:Int)).toNat=i+m:=by omega
 have pb: ¬(c=i+m):=by omega
 have zi2:(i:Int)≤(n:Int)+(m:Int):=by omega
 have zkf: ¬(c=i):=by omega
 have bN:(P.info? (a7.t 9)).map (·.size)=some s:=by rw[hi];simp[iC]
 have jo:cur.toList.length=c*s:=by simpa using tT
 have aB:(i+m)*s=i*s+m*s:=Nat.add_mul ..
 have bf:(n+m)*s=n*s+m*s:=Nat.add_mul ..
 have ck:i*s≤n*s:=Nat.mul_le_mul_right _ Oz
 have ep:(n+m)*s≤c*s:=Nat.mul_le_mul_right _ xL
 have ku:(n-i)*s=n*s-i*s:=Nat.sub_mul ..
 obtain⟨cs,dJ⟩: ∃cs,cs=(cur.toList.take (n*s)).drop (i*s):=⟨_,rfl⟩
 have ou:cs.length=(n-i)*s:=by rw[dJ,List.length_drop,List.length_take,jo,ku];omega
 obtain⟨dH,oo⟩: ∃dH,dH=(cur.toList.take ((i+m)*s)++cs++cur.toList.drop ((i+m)*s+cs.length)).toArray:=⟨_,rfl⟩
 have BI:dH.size=cur.size:=by
  rw[oo];simp only[List.size_toArray,List.length_append,List.length_take,List.length_drop,jo,ou,tT];omega
 have zi3: ∀ty l3 mA,(Builtin.copy_ #[(a7.t 24),(a7.t 24)] ty #[.slice (some ⟨g,(i+m)*s,none⟩) (n+m-(i+m)) l3,.slice (some ⟨g,i*s,none⟩) (n+m-i) mA]).run P w.drew= .ok (goInt (Nat.min (n+m-i) (n+m-(i+m)))) (w.drew.setRow g dH):=fun ty l3 mA=>by
  rw[oo]
  exact FX w.drew _ _ ty (a7.t 9) s g ((i+m)*s) (n+m-(i+m)) l3 ⟨g,i*s,none⟩ (n+m-i) mA cur t cs L.t24 bN ah
   (by rw[ou];congr 1;simp only[Nat.min_def];split<;>omega)
   (fun j v af=>by
    rw[Addr.add_lit];rw[dJ,List.getElem?_drop,List.getElem?_take]at af
    split at af
    ·rw[Array.getElem?_toList]at af
     show World.cell? w.drew _=_
     have:w.drew.heap[g]? =some (.cells cur t (0,0)):=ah
     simp[World.cell?,this,af]
    ·cases af)
   (by rw[ou];omega) (fun v aw=>BH v (by rw[dJ]at aw;exact List.mem_of_mem_drop aw))
 obtain⟨eR,mJ⟩: ∃eR,eR=(dH.toList.take (i*s)++vs++dH.toList.drop (i*s+vs.length)).toArray:=⟨_,rfl⟩
 have zi4: ∀(W:World),W.heap=(w.drew.setRow g dH).heap→∀ty l3,(Builtin.copy_ #[(a7.t 24),(a7.t 24)] ty #[.slice (some ⟨g,i*s,none⟩) (n+m-i) l3,.slice (some aU) m kp]).run P W= .ok (goInt (Nat.min m (n+m-i))) (W.setRow g eR):=fun W hG ty l3=>by
  rw[mJ]
  have Oo:W.heap[g]? =some (.cells dH t (0,0)):=by rw[hG];exact setRow_heap w.drew g cur dH t (0,0) ah
  exact FX W _ _ ty (a7.t 9) s g (i*s) (n+m-i) l3 aU m kp dH t vs L.t24 bN Oo
   (by rw[fD];congr 1;simp only[Nat.min_def];split<;>omega)
   (fun j v af=>by
    have h:=mL j v af
    rw[←h];refine World.cell?_of_block ?_
    rw[hG,qi]
    exact setRow_other w.drew g _ dH VF)
   (by rw[fD,BI,tT];omega) ny
 have lX:eR.size=cur.size∧eR.toList.take ((n+m)*s)=cur.toList.take (i*s)++vs++cs:=by
  have h:=ziX cur.toList cs vs (i*s) (m*s) (by rw[jo,ou];omega) fD
  have mR:i*s+m*s+cs.length=(n+m)*s:=by rw[ou];omega
  rw[mR,←aB]at h;rw[aB,mR,←aB]at oo;subst oo;subst mJ;simp only[List.size_toArray]at h⊢;exact⟨h.1.trans Array.length_toList,h.2⟩
 clear tT ah fD BH ny mL yx FY VJ hi iC oo mJ ou BI jo aB bf ck ep ku
 go_enter sl,Body2.n22_ntmps a7
 go_wp2_with (simp only[ziZ])
 go_region_law_o (refine step_copy_runI rfl _ _ (a7.t 24) (a7.t 24) rfl _ _ (by simp[Act.eval,Act.put]) (by simp[Act.eval,Act.put]) (zi3 _ _ _) ?_)
 go_wp2_with (at_builtin;refine wpList_copy_runI _ rfl _ _ (a7.t 24) (a7.t 24) rfl _ _ rfl rfl (zi4 _ rfl _ _) ?_)
 go_ret
 exact⟨rfl,eR,setRow_setRow ..,dJ ▸ lX⟩
theorem zi5{α:Type}(a b d cs vs:List α)(k M:Nat)(aM:a.length=k)(aa:M+cs.length≤b.length)(ae:vs.length=M):
 ((((a++b++d).take k++vs++(a++b++d).drop (k+vs.length)).take (k+M)++cs++((a++b++d).take k++vs++(a++b++d).drop (k+vs.length)).drop (k+M+cs.length)).length=(a++b++d).length)∧
 (((a++b++d).take k++vs++(a++b++d).drop (k+vs.length)).take (k+M)++cs++((a++b++d).take k++vs++(a++b++d).drop (k+vs.length)).drop (k+M+cs.length)).take (k+M+cs.length)=a++vs++cs:=by
 have aH:(a++b++d).take k=a:=by
  rw[List.append_assoc];exact List.take_left' aM
 rw[aH]
 have hu:(a++vs++(a++b++d).drop (k+vs.length)).take (k+M)=a++vs:=List.take_left' (by rw[List.length_append];omega)
 rw[hu]
 refine⟨by simp only[List.length_append,List.length_drop];omega,?_⟩
 exact List.take_left' (by simp only[List.length_append];omega)
theorem VK(z:Array Value)(k:Nat):(Builtin.zeroCells z k).size=k*z.size:=by
 unfold Builtin.zeroCells
 simp
set_option maxHeartbeats 4000000 in
set_option maxRecDepth 100000 in
theorem zi6(L:wH P a7)(i0:TypeInfo)(z:Value)(s bytes:Nat)(hi:P.info? (a7.t 9)=some i0)(l2:i0.zero=some z)(iC:i0.size=s)(kO:i0.bytes=bytes)(fa:z.cells.size=s)(sm:0<s)
 (z9: ∀w,(Go.sizeOf (a7.t 9)).run P w= .ok s w)(g n c i m kp:Nat)(aU:Addr)(cur:Array Value)(t:TypeId)(vs:List Value)(w:World)
 (k1:i<n)(hm:0<m)(AO:n≤c)(xL:c<n+m)(np:n+m≤maxLen)(sk:(n+m)*bytes≤140737488355328)
 (ah:w.heap[g]? =some (.cells cur t (0,0)))(tT:cur.size=c*s)(fD:vs.length=m*s)
 (mL: ∀j v,vs[j]? =some v→w.cell? (aU.add j)=some v)(BH: ∀v∈cur.toList.take (n*s),v.oneCell'=true)(ny: ∀v∈vs,v.oneCell'=true)(zi7:aU.block<w.heap.size):
 Calls P (a7.f 22) #[.slice (some ⟨g,0,none⟩) n c,.int .i64 i,.slice (some aU) m kp] w fun e w'=>
  ∃(G:Nat) (eR:Array Value),e= .returned (.slice (some ⟨w.heap.size,0,none⟩) (n+m) G)∧n+m≤G∧G≤maxLen∧w.grownBy w' none∧w'.heap[w.heap.size]? =some (.cells eR (a7.t 9) (0,0))∧eR.size=G*s∧
   eR.toList.take ((n+m)*s)=cur.toList.take (i*s)++vs++(cur.toList.take (n*s)).drop (i*s):=by
 have t3:=L.t3;have a3:=L.a3;have z3:=L.z3;have v3:=L.v3;have t4:=L.t4;have a4:=L.a4;have z4:=L.z4;have v4:=L.v4;have t24:=L.t24;have a24:=L.a24;have z24:=L.z24;have v24:=L.v24
 have yu:=run_underlying L.t3;have VG:=run_underlying L.t4;have VH:=run_underlying L.t24
 have mixed:=L.mixed
 obtain⟨_,_,sl⟩:=L.f22
 have VI: ¬((m:Int)=0):=by omega
 have zkg: ¬((i:Int)=(n:Int)):=by omega
 have zkh:(c:Int)<(n:Int)+(m:Int):=by omega
 have bN:(P.info? (a7.t 9)).map (·.size)=some s:=by rw[hi];simp[iC]
 have zi8:g<w.heap.size:=(Array.getElem?_eq_some_iff.1 ah).1
 have rm:(n:Int)+(m:Int)-(i:Int)=((n+m-i:Nat):Int):=by omega
 have rk:i+(n+m-i)=n+m:=by omega
 have Oz:i≤n:=by omega
 have jo:cur.toList.length=c*s:=by simpa using tT
 have aB:(i+m)*s=i*s+m*s:=Nat.add_mul ..
 have bf:(n+m)*s=n*s+m*s:=Nat.add_mul ..
 have ck:i*s≤n*s:=Nat.mul_le_mul_right _ Oz
 have ep:n*s≤c*s:=Nat.mul_le_mul_right _ AO
 have ku:(n-i)*s=n*s-i*s:=Nat.sub_mul ..
 have pV:(n+m-i)*s=n*s+m*s-i*s:=by rw[Nat.sub_mul,bf]
 have zi9:(n+m-i)*bytes≤(n+m)*bytes:=Nat.mul_le_mul_right _ (by omega)
 have OA: ∀(W:World),W.heap[g]? =some (.cells cur t (0,0))→∀k v,cur.toList[k]? =some v→W.cell? ⟨g,k,none⟩=some v:=fun W hG k v aw=>by
  rw[Array.getElem?_toList]at aw
  simp[World.cell?,hG,aw]
 have hold:(Builtin.firstCells i0.size i (.slice (some ⟨g,0,none⟩) i c)).run P w.drew= .ok (cur.toList.take (i*s)).toArray w.drew:=by
  rw[iC]
  exact run_firstCells_some w.drew s i ⟨g,0,none⟩ i c (cur.toList.take (i*s)) (by rw[List.length_take];omega) (fun j v af=>by
   rw[Addr.add_lit,Nat.zero_add];rw[List.getElem?_take]at af
   split at af
   ·exact OA w.drew ah j v af
   ·cases af)
 have j6: ∀ty,(Builtin.append_ #[(a7.t 24),(a7.t 3)] ty #[.slice (some ⟨g,0,none⟩) i c,.int .i64 ((n:Int)+(m:Int)-(i:Int))]).run P w=
  .ok (.slice (some ⟨w.heap.size,0,none⟩) (n+m) (grownCap w (n+m) c (a7.t 9))) (w.drew.alloc (.cells ((cur.toList.take (i*s)).toArray++Builtin.zeroCells z.cells (n+m-i)++Builtin.zeroCells z.cells (grownCap w (n+m) c (a7.t 9)-(n+m))) (a7.t 9))):=fun ty=>by
  have h:=Lib.run_append_grow_zeros w (a7.t 24) (a7.t 3) ty (a7.t 9) i0 _ .i64 .i64 L.t24 L.t3 hi l2 (some ⟨g,0,none⟩) i c (cur.toList.take (i*s)) hold (n+m-i) (by omega) (by omega) (by omega) (by unfold maxLen at np;omega) (by rw[kO];omega) (by rw[kO,rk];exact growslice_fits xL sk)
  rw[rk]at h;rw[rm];exact h
 obtain⟨G,k5⟩: ∃G,G=grownCap w (n+m) c (a7.t 9):=⟨_,rfl⟩
 obtain⟨jV,FZ⟩: ∃jV:Array Value,jV=(cur.toList.take (i*s)).toArray++Builtin.zeroCells z.cells (n+m-i)++Builtin.zeroCells z.cells (G-(n+m)):=⟨_,rfl⟩
 have VL:n+m≤G:=by rw[k5];exact grownCap_ge w _ _ _
 have VM:G≤maxLen:=by rw[k5];exact grownCap_le_maxLen w (n+m) c (a7.t 9) np
 have zki:G≤9223372036854775807:=VM
 rw[←k5,←FZ]at j6
 have sw:(G-(n+m))*s=G*s-(n*s+m*s):=by rw[Nat.sub_mul,bf]
 have Ga:(n+m)*s≤G*s:=Nat.mul_le_mul_right _ VL
 have F0:jV.size=G*s:=by
  rw[FZ];simp only[Array.size_append,VK,fa,List.size_toArray,List.length_take,jo,pV,sw];omega
 obtain⟨cs,dJ⟩: ∃cs,cs=(cur.toList.take (n*s)).drop (i*s):=⟨_,rfl⟩
 have ou:cs.length=(n-i)*s:=by rw[dJ,List.length_drop,List.length_take,jo,ku];omega
 obtain⟨dH,oo⟩: ∃dH,dH=(jV.toList.take (i*s)++vs++jV.toList.drop (i*s+vs.length)).toArray:=⟨_,rfl⟩
 have BI:dH.size=G*s:=by
  rw[oo];simp only[List.size_toArray,List.length_append,List.length_take,List.length_drop,Array.length_toList,F0,fD];omega
 obtain⟨eR,mJ⟩: ∃eR,eR=(dH.toList.take ((i+m)*s)++cs++dH.toList.drop ((i+m)*s+cs.length)).toArray:=⟨_,rfl⟩
 obtain⟨ov,BJ⟩: ∃ov,ov=w.drew.alloc (.cells jV (a7.t 9)):=⟨_,rfl⟩
 have F1:ov.heap[w.heap.size]? =some (.cells jV (a7.t 9) (0,0)):=by
  rw[show ov.heap=w.heap.push (.cells jV (a7.t 9) (0,0))by rw[BJ];rfl]
  exact Array.getElem?_push_size
 have F2: ∀k,k<w.heap.size→ov.heap[k]? =w.heap[k]? :=fun k aj=>by
  rw[show ov.heap=w.heap.push (.cells jV (a7.t 9) (0,0))by rw[BJ];rfl,Array.getElem?_push,if_neg (Nat.ne_of_lt aj)]
 rw[←BJ]at j6
 have zja: ∀(W:World),W.heap=ov.heap→∀ty l3,(Builtin.copy_ #[(a7.t 24),(a7.t 24)] ty #[.slice (some ⟨w.heap.size,i*s,none⟩) (n+m-i) l3,.slice (some aU) m kp]).run P W= .ok (goInt (Nat.min m (n+m-i))) (W.setRow w.heap.size dH):=fun W hG ty l3=>by
  rw[oo]
  exact FX W _ _ ty (a7.t 9) s w.heap.size (i*s) (n+m-i) l3 aU m kp jV (a7.t 9) vs L.t24 bN (by rw[hG];exact F1)
   (by rw[fD];congr 1;simp only[Nat.min_def];split<;>omega)
   (fun j v af=>by
    rw[←mL j v af];refine World.cell?_of_block ?_
    rw[hG,qi]
    exact F2 _ zi7)
   (by rw[fD,F0];omega) ny
 have VN: ∀(W:World),W.heap=(ov.setRow w.heap.size dH).heap→∀ty l3 mA,(Builtin.copy_ #[(a7.t 24),(a7.t 24)] ty #[.slice (some ⟨w.heap.size,(i+m)*s,none⟩) (n+m-(i+m)) l3,.slice (some ⟨g,i*s,none⟩) (n-i) mA]).run P W= .ok (goInt (Nat.min (n-i) (n+m-(i+m)))) (W.setRow w.heap.size eR):=fun W hG ty l3 mA=>by
  rw[mJ]
  exact FX W _ _ ty (a7.t 9) s w.heap.size ((i+m)*s) (n+m-(i+m)) l3 ⟨g,i*s,none⟩ (n-i) mA dH (a7.t 9) cs L.t24 bN (by rw[hG];exact setRow_heap ov w.heap.size jV dH (a7.t 9) (0,0) F1)
   (by rw[ou];congr 1;simp only[Nat.min_def];split<;>omega)
   (fun j v af=>by
    rw[Addr.add_lit];rw[dJ,List.getElem?_drop,List.getElem?_take]at af
    split at af
    ·exact OA W (by rw[hG,setRow_other _ _ _ _ (by omega),F2 _ zi8];exact ah) _ v af
    ·cases af)
   (by rw[ou,BI];omega) (fun v aw=>BH v (by rw[dJ]at aw;exact List.mem_of_mem_drop aw))
 have lX:eR.size=G*s∧eR.toList.take ((n+m)*s)=cur.toList.take (i*s)++vs++cs:=by
  have h:=zi5 (cur.toList.take (i*s)) (Builtin.zeroCells z.cells (n+m-i)).toList (Builtin.zeroCells z.cells (G-(n+m))).toList cs vs (i*s) (m*s) (by rw[List.length_take];omega) (by rw[ou,Array.length_toList,VK,fa];omega) fD
  have mR:i*s+m*s+cs.length=(n+m)*s:=by rw[ou];omega
  have zjb:cur.toList.take (i*s)++(Builtin.zeroCells z.cells (n+m-i)).toList++(Builtin.zeroCells z.cells (G-(n+m))).toList=jV.toList:=by rw[FZ];simp
  rw[mR,←aB,zjb]at h;rw[aB,mR,←aB]at mJ;subst mJ;subst oo;simp only[List.size_toArray]at h⊢;exact⟨h.1.trans (by rw[Array.length_toList,F0]),h.2⟩
 have Nr: ∀(W:World),W.heap=((ov.setRow w.heap.size dH).setRow w.heap.size eR).heap→W.os=w.os→W.tape=w.tape→W.output=w.output→w.grownBy W none∧W.heap[w.heap.size]? =some (.cells eR (a7.t 9) (0,0)):=fun W hG aa ae au=>by
  rw[setRow_setRow]at hG;refine⟨⟨aa,ae,au,?_,fun k aj _=>?_⟩,?_⟩
  ·rw[hG,setRow_size,show ov.heap=w.heap.push (.cells jV (a7.t 9) (0,0))by rw[BJ];rfl,Array.size_push]
   omega
  ·rw[hG,setRow_other _ _ _ _ (by omega),F2 _ aj]
  ·rw[hG]
   exact setRow_heap ov w.heap.size jV eR (a7.t 9) (0,0) F1
 subst BJ
 have e3:((w.alloc (.cells jV (a7.t 9))).drew).heap=(w.drew.alloc (.cells jV (a7.t 9))).heap:=rfl
 have hF:(((w.alloc (.cells jV (a7.t 9))).drew.setRow w.heap.size dH).drew).heap=((w.drew.alloc (.cells jV (a7.t 9))).setRow w.heap.size dH).heap:=rfl
 have zkj: ¬(G=i):=by omega
 have zkk: ¬(G=i+m):=by omega
 have zkl: ¬(c=i):=by omega
 have zi0:IntKind.i64.wrap ((i:Int)+(m:Int))=(i:Int)+(m:Int):=by rw[IntKind.wrap_i64];unfold maxLen at np;omega
 have ih:(0:Int)≤(i:Int)+(m:Int):=by omega
 have zi1:((i:Int)+(m:Int)).toNat=i+m:=by omega
 have zi2:(i:Int)≤(n:Int):=by omega
 have zjc:=np
 unfold maxLen at zjc
 clear rm rk hold FZ k5 F0 tT fD BH ny mL hi l2 iC kO fa jo aB bf ck ep ku pV sw Ga zi9 oo mJ ou BI F1 F2 OA ah
 go_enter sl,Body2.n22_ntmps a7
 go_wp2_with (first
  |(at_builtin;refine Lib.wpList_append_run _ rfl _ _ _ _ rfl _ _ rfl rfl _ _ (j6 _) ?_)
  |(at_builtin;refine wpList_copy_runI _ rfl _ _ (a7.t 24) (a7.t 24) rfl _ _ rfl rfl (zja _ e3 _ _) ?_)
  |(at_builtin;refine wpList_copy_runI _ rfl _ _ (a7.t 24) (a7.t 24) rfl _ _ rfl rfl (VN _ hF _ _ _) ?_))
 go_region_law_o (refine step_copy_runI rfl _ _ (a7.t 24) (a7.t 24) rfl (.slice (some ⟨w.heap.size,(i+m)*s,none⟩) (n+m-(i+m)) (G-(i+m))) (.slice (some ⟨g,i*s,none⟩) (n-i) (c-i)) (by simp[Act.eval,Act.put]) (by simp[Act.eval,Act.put]) (VN _ hF (a7.t 3) (G-(i+m)) (c-i)) ?_)
 go_wp2
 go_ret
 have h:=Nr ((((w.alloc (.cells jV (a7.t 9))).drew.setRow w.heap.size dH).drew).setRow w.heap.size eR) rfl rfl rfl rfl
 exact⟨G,eR,rfl,VL,VM,h.1,h.2,lX.1,dJ ▸ lX.2⟩
set_option maxHeartbeats 4000000 in
set_option maxRecDepth 100000 in
theorem VO(L:wH P a7)(i0:TypeInfo)(z:Value)(s bytes:Nat)(hi:P.info? (a7.t 9)=some i0)(l2:i0.zero=some z)(iC:i0.size=s)(kO:i0.bytes=bytes)(fa:z.cells.size=s)(sm:0<s)
 (z9: ∀w,(Go.sizeOf (a7.t 9)).run P w= .ok s w)(b:Option Addr)(n c m kp:Nat)(aU:Addr)(xs vs:List Value)(w:World)(cZ:ib w (a7.t 9) s (.slice b n c) n xs)
 (hm:0<m)(np:n+m≤maxLen)(sk:(n+m)*bytes≤140737488355328)(fD:vs.length=m*s)
 (mL: ∀j v,vs[j]? =some v→w.cell? (aU.add j)=some v)(ny: ∀v∈vs,v.oneCell'=true)(AO:n≤c):
 Calls P (a7.f 22) #[.slice b n c,.int .i64 n,.slice (some aU) m kp] w fun e w'=>
  ∃bh,e= .returned bh∧ib w' (a7.t 9) s bh (n+m) (xs++vs)∧w.grownBy w' (b3 (.slice b n c))∧(∀k,b3 bh=some k→b3 (.slice b n c)=some k∨w.heap.size≤k):=by
 have t3:=L.t3;have a3:=L.a3;have z3:=L.z3;have v3:=L.v3;have t4:=L.t4;have a4:=L.a4;have z4:=L.z4;have v4:=L.v4;have t24:=L.t24;have a24:=L.a24;have z24:=L.z24;have v24:=L.v24
 have yu:=run_underlying L.t3;have VG:=run_underlying L.t4;have VH:=run_underlying L.t24
 have mixed:=L.mixed
 obtain⟨_,_,sl⟩:=L.f22
 have VI: ¬((m:Int)=0):=by omega
 have VP:b=none→n=0∧c=0:=fun h=>by
  subst h
  rcases cZ.2 with⟨⟨b,ad,_⟩,_⟩|⟨g,cap,cur,h,_⟩
  ·cases ad
   exact⟨rfl,rfl⟩
  ·cases h
 obtain⟨bh,w',cr,kI,cU,bg⟩:=DA (P:=P) (w:=w) (a7.t 24) (a7.t 24) (a7.t 9) L.t24 hi l2 iC kO fa sm cZ (b:=some aU) (m:=m) (cap:=kp) fD (fun h=>by cases h) (fun a a1=>by cases a1;exact mL) ny np sk
 clear mL ny cZ fD hi l2 iC kO fa
 unfold maxLen at np
 cases b with
 |none=>
  obtain⟨rfl,rfl⟩:=VP rfl
  go_enter sl,Body2.n22_ntmps a7
  go_wp2_with (at_builtin;refine Lib.wpList_append_run _ rfl _ _ _ _ rfl _ _ rfl rfl _ _ cr ?_)
  go_ret
  exact⟨bh,rfl,by simpa using kI,cU,bg⟩
 |some a=>
  clear VP
  by_cases Vu:c=n
  ·subst Vu
   go_enter sl,Body2.n22_ntmps a7
   go_wp2_with (at_builtin;refine Lib.wpList_append_run _ rfl _ _ _ _ rfl _ _ rfl rfl _ _ cr ?_)
   all_goals go_ret
   all_goals exact⟨bh,rfl,kI,cU,bg⟩
  ·go_enter sl,Body2.n22_ntmps a7
   go_wp2_with (at_builtin;refine Lib.wpList_append_run _ rfl _ _ _ _ rfl _ _ rfl rfl _ _ cr ?_)
   all_goals go_ret
   all_goals exact⟨bh,rfl,kI,cU,bg⟩
theorem zjd(L:wH P a7)(i0:TypeInfo)(z:Value)(s bytes:Nat)(hi:P.info? (a7.t 9)=some i0)(l2:i0.zero=some z)(iC:i0.size=s)(kO:i0.bytes=bytes)(fa:z.cells.size=s)(sm:0<s)
 (z9: ∀w,(Go.sizeOf (a7.t 9)).run P w= .ok s w){v:Value}{n i m kp:Nat}{aU:Addr}{xs vs:List Value}{w:World}(cZ:ib w (a7.t 9) s v n xs)(k1:i≤n)
 (hm:0<m)(np:n+m≤maxLen)(sk:(n+m)*bytes≤140737488355328)(fD:vs.length=m*s)
 (mL: ∀j v,vs[j]? =some v→w.cell? (aU.add j)=some v)(VQ: ∀v∈xs,v.oneCell'=true)(ny: ∀v∈vs,v.oneCell'=true)(b4:b3 v≠some aU.block):
 Calls P (a7.f 22) #[v,.int .i64 i,.slice (some aU) m kp] w fun e w'=>
  ∃bh,e= .returned bh∧ib w' (a7.t 9) s bh (n+m) (xs.take (i*s)++vs++xs.drop (i*s))∧w.grownBy w' (b3 v)∧(∀k,b3 bh=some k→b3 v=some k∨w.heap.size≤k):=by
 have jL:=cZ.1
 have fin:i=n→xs.take (i*s)++vs++xs.drop (i*s)=xs++vs:=fun h=>by
  subst h;rw[List.take_of_length_le (by omega),List.drop_of_length_le (by omega),List.append_nil]
 have VR:=cZ
 rcases cZ.2 with⟨⟨b,rfl,_⟩,rfl⟩|⟨g,cap,cur,rfl,hc,ah,hle,ig,dJ,hx⟩
 ·have:i=0:=by omega
  subst this;rw[fin rfl];exact VO L i0 z s bytes hi l2 iC kO fa sm z9 b 0 0 m kp aU xs vs w VR hm np sk fD mL ny (Nat.le_refl _)
 ·by_cases he:i=n
  ·rw[fin he]
   subst he;exact VO L i0 z s bytes hi l2 iC kO fa sm z9 _ i cap m kp aU xs vs w VR hm np sk fD mL ny hle
  ·have bH:i<n:=by omega
   have ow:0<vs.length:=by rw[fD];exact Nat.mul_pos hm sm
   have hD:=mL 0 vs[0] (by simp[ow])
   obtain⟨tS,nx,yx,zje,hM⟩: ∃tS nx,w.shape? aU.block=some (tS,nx)∧nx≠0∧aU.block<w.heap.size:=by
    have ad:(aU.add 0).block=aU.block:=qi aU 0
    unfold World.cell? at hD;rw[ad]at hD
    split at hD
    ·rename_i cs t tV bb
     refine⟨t,cs.size,by simp[World.shape?,bb],fun aM=>?_,(Array.getElem?_eq_some_iff.1 bb).1⟩
     have:cs= #[]:=Array.eq_empty_of_size_eq_zero aM
     subst this;simp at hD
    ·cases hD
   have gI:b3 (.slice (some ⟨g,0,none⟩) n cap)=some g:=by simp[b3];omega
   rw[gI]at b4⊢
   have zjf:aU.block≠g:=fun h=>b4 (by rw[h])
   by_cases ag:n+m≤cap
   ·refine Calls.mono (ziY L i0 z s hi iC sm z9 g n cap i m kp aU cur (a7.t 9) vs w bH hm ag ig zjf ah dJ fD mL (by rw[hx];exact VQ) ny tS nx yx zje) fun e w' ⟨he,sn,hw,aa,ae⟩=>?_
    subst hw;rw[hx]at ae
    have au:xs.take (i*s)=cur.toList.take (i*s):=by
     rw[←hx,List.take_take,Nat.min_eq_left (Nat.mul_le_mul_right _ k1)]
    have aQ:(w.drew.setRow g sn).heap[g]? =some (.cells sn (a7.t 9) (0,0)):=setRow_heap w.drew g cur sn (a7.t 9) (0,0) ah
    refine⟨_,he,⟨?_,.inr ⟨g,cap,sn,rfl,hc,aQ,ag,ig,by rw[aa,dJ],by rw[ae,au]⟩⟩,⟨rfl,rfl,rfl,?_,fun k aj VS=>?_⟩,fun k aj=>.inl ?_⟩
    ·have:i*s≤n*s:=Nat.mul_le_mul_right _ k1
     simp only[List.length_append,List.length_take,List.length_drop,jL,fD,Nat.add_mul];omega
    ·rw[setRow_size]
     exact Nat.le_refl _
    ·exact setRow_other w.drew g k sn fun h=>VS (by rw[h])
    ·simpa[b3,show cap≠0 by omega]using aj
   ·refine Calls.mono (zi6 L i0 z s bytes hi l2 iC kO fa sm z9 g n cap i m kp aU cur (a7.t 9) vs w bH hm hle (by omega) np sk ah dJ fD mL (by rw[hx];exact VQ) ny hM) fun e w' ⟨G,eR,he,c1,dg,gY,pE,Bn,yk⟩=>?_
    rw[hx]at yk
    have au:xs.take (i*s)=cur.toList.take (i*s):=by
     rw[←hx,List.take_take,Nat.min_eq_left (Nat.mul_le_mul_right _ k1)]
    refine⟨_,he,⟨?_,.inr ⟨w.heap.size,G,eR,rfl,by omega,pE,c1,dg,Bn,by rw[yk,au]⟩⟩,⟨gY.os,gY.tape,gY.output,gY.size,fun k aj VS=>gY.block k aj (by simp)⟩,fun k aj=>.inr ?_⟩
    ·have:i*s≤n*s:=Nat.mul_le_mul_right _ k1
     simp only[List.length_append,List.length_take,List.length_drop,jL,fD,Nat.add_mul];omega
    ·simp[b3,show G≠0 by omega]at aj
     omega
end
end Go.aL
namespace Go.aL
open Go Go.Proofs Go.Shelf Go.RowKit Go.Lib
theorem zjg{w:World}{ro:Nat→Prop}{σ:Heap}{β:Nat→Value}{N:Nat}(bb:hj w ro σ β N){x:aD}{c:Value}(h:bs w ro σ β N x c){n:Nat}{es:List (List a6)}(he:fx σ n x=some es)
 (aM:0<es.length)(hn:0<n){id:Nat}(hx:x≠ .aO id){o:ek}(bd:aE σ id=some o)(aq:o.live=true){a:Addr}{l cap:Nat}(hc:c= .slice (some a) l cap):b3 (β id)≠some a.block:=by
 have cc:ro a.block→b3 (β id)≠some a.block:=fun h ad=>bb.fh _ h ⟨id,o,bd,aq,ad⟩
 have ql: ∀{m:Nat} {dQ:List (List a6)} {c:Value},0<dQ.length→0<m→cR w ro (.aO m dQ) c→c= .slice (some a) l cap→ro a.block:=fun {m dQ c} F3 c1 dg gY=>by
  cases dg with
  |aO _ _ b zjh f aa ae au aQ bF=>
   obtain⟨bc,ad,hf⟩:=aQ F3
   cases gY
   cases ad;exact(hf 0 (Nat.mul_pos F3 c1)).1
 cases h with
 |av x c fS=>
  cases x with
  |v y=>
   cases fS
   subst hc;simp[fx]at he
  |ptr=>simp[fx]at he
  |mp=>simp[fx]at he
  |et=>simp[fx]at he
  |li i k=>
   simp only[fx]at he
   split at he
   ·rename_i hm
    subst hm;simp only[Option.some.injEq]at he;subst he
    cases fS with
    |li _ _ _ fS=>exact cc (ql aM hn fS hc)
   ·cases he
  |aO m dQ=>
   simp only[fx]at he
   split at he
   ·rename_i hm
    subst hm;simp only[Option.some.injEq]at he;subst he;exact cc (ql aM hn fS hc)
   ·cases he
 |aO gl c bH ak=>
  simp only[fx]at he
  split at he
  ·rename_i z t m dQ ah
   split at he
   ·rename_i hm
    subst hm;simp only[Option.some.injEq]at he;subst he
    have iS:=ak z t _ _ ah
    have dh:=bb.c6 gl _ ah
    cases dh with
    |row _ _ _ xs aa ae au=>
     intro ad
     have gz:b3 (β gl)=some a.block:=by
      rcases aa.2 with⟨_,aS⟩|⟨g,zjh,cur,aw,sS,_⟩
      ·omega
      ·rw[←iS,hc]at aw
       rw[←iS,hc];cases aw;simp[b3];omega
     exact hx (by rw[bb.inj id gl o _ _ bd ah aq rfl ad gz])
    |gb _ _ _ aa=>exact cc (ql aM hn aa (by rw[←iS,hc]))
   ·cases he
  ·cases he
 |_=>simp[fx]at he
theorem VT{α:Type}{n:Nat}: ∀(es:List (List α)),(∀e∈es,e.length=n)→es.flatten.length=es.length*n
 |[],_=>by simp
 |e::r,h=>by
  rw[List.flatten_cons,List.length_append,h e (List.mem_cons_self ..),VT r fun x hx=>h x (List.mem_cons_of_mem _ hx),List.length_cons,Nat.add_mul,Nat.one_mul];omega
def uD(P:Program)(G:a8)(r:lH):Prop:=
 ∀{σ:Heap} {n id:Nat} {i:Int} {y:aD} {l k:List (fO r.c)},aE σ id=some (.row false r.t (bZ r.c) (l.map (cb r.c)))→fx σ (bZ r.c) y=some (k.map (cb r.c))→y≠ .aO id→0<k.length→0≤i∧i≤(l.length:Int)→
  l.length+k.length≤maxLen∧(l.length+k.length)*r.bytes≤140737488355328→
  dG P G r.f [.aO id,.av (.v (.int .i64 i)),y] σ n fun v bV=>v= .aO n∧bV=(n,.row false r.t (bZ r.c) ((l.take i.toNat++k++l.drop i.toNat).map (cb r.c)))::dv id σ
section
variable {P:Program} {a7:Ren}
theorem zap{G:a8}{c:bL}(L:wH P a7)(i0:TypeInfo)(z:Value)(bytes:Nat)(hi:P.info? (a7.t 9)=some i0)(l2:i0.zero=some z)(iC:i0.size=bZ c)(kO:i0.bytes=bytes)(fa:z.cells.size=bZ c)(bN:0<bZ c)
 (z9: ∀w,(Go.sizeOf (a7.t 9)).run P w= .ok (bZ c) w):uD P G ⟨a7.f 22,a7.t 9,c,bytes⟩:=by
 intro σ n id i y l k bd ax b4 aj zji BD w β ro ed aa ae au aQ bF
 have Ot:=ae 0 _ rfl
 have VU:=ae 1 _ rfl
 have VV:=ae 2 _ rfl
 have si:ed= #[ed.getD 0 undef,ed.getD 1 undef,ed.getD 2 undef]:=by
  have ai:ed.size=3:=aa
  apply Array.ext
  ·simpa using ai
  ·intro j zkm zkn
   have:j=0∨j=1∨j=2:=by omega
   rcases this with rfl|rfl|rfl<;>simp[Array.getD,ai]
 obtain⟨b,cap,iS,mr,o7,f,h5,o8⟩:=w3 au VV ax
 obtain⟨nZ,o9,rL⟩:=z6 mr o8
 have eB:0<(k.map (cb c)).length:=by rw[List.length_map];exact aj
 cases b with
 |none=>exact absurd (o7 rfl) (List.ne_nil_of_length_pos eB)
 |some a=>
 have hM:=zjg au VV ax eB bN b4 bd rfl iS
 have ow:ed.getD 0 undef=β id:=by
  cases Ot with
  |aO _ _ _ ak=>exact ak _ _ _ _ bd
 have zjj:ed.getD 1 undef= .int .i64 i.toNat:=by
  generalize ed.getD 1 undef=q at VU
  cases VU with
  |av _ _ hx=>
   cases hx;rw[Int.toNat_of_nonneg zji.1]
 have dh:=au.c6 id _ bd
 cases dh with
 |row _ _ _ xs cZ hle eW=>
 have e3:c3 ⟨w,ro,σ,β,n⟩ G ⟨[],σ,n,n⟩ ⟨#[],[]⟩ w β ro:=⟨rfl,rfl,by simp,au,aQ,⟨rfl,rfl,rfl,Nat.le_refl _,fun _ _ _=>rfl,fun _ h=>.inl h,fun _ h=>h,fun _ h=>.inl h,fun id _ o ah=>⟨by simp[ah],rfl⟩,bF,Nat.le_refl _⟩,Nat.le_refl _⟩
 rw[si,iS,ow,zjj]
 rw[List.length_map]at nZ h5⊢
 have OB:(l.map (cb c)).length=l.length:=List.length_map ..
 rw[OB]at cZ
 refine Calls.mono (zjd L i0 z (bZ c) bytes hi l2 iC kO fa bN z9 cZ (i:=i.toNat) (by omega) aj BD.1 BD.2 (vs:=(List.range (k.length*bZ c)).map f) (by simp) (fun j u af=>?_) (fun v aw=>?_) (by
  rw[List.length_map]at o9
  exact o9) hM) fun e w' ⟨bh,he,kI,cU,bg⟩=>?_
 ·have cM:=(List.getElem?_eq_some_iff.1 af).1
  simp only[List.length_map,List.length_range]at cM
  have aa:=h5 a rfl j cM
  simp[cM]at af;rw[aa,af]
 ·obtain⟨j,af⟩:=List.getElem?_of_mem aw
  have cM:=(List.getElem?_eq_some_iff.1 af).1
  have mh:=VT _ hle
  rw[OB]at mh
  have hx:=eW j _ (List.getElem?_eq_getElem (by rw[mh,←cZ.1];exact cM))
  have ax:=hx.one
  rw[List.getD_eq_getElem?_getD,af]at ax
  exact ax
 ·have jn: ∀k,k<w.heap.size→b3 (β id)≠some k→w'.heap[k]? =w.heap[k]? :=fun k aj b4=>cU.block k aj (fun e=>b4 e.symm)
  have cc: ∀k,ro k→w'.heap[k]? =w.heap[k]? :=fun k aj=>jn k (au.lt k aj) fun bg=>au.fh k aj ⟨id,_,bd,rfl,bg⟩
  have hm:(l.take i.toNat++k++l.drop i.toNat).map (cb c)=(l.map (cb c)).take i.toNat++k.map (cb c)++(l.map (cb c)).drop i.toNat:=by
   rw[List.map_append,List.map_append,List.map_take,List.map_drop]
  have k1:i.toNat≤l.length:=by omega
  have AJ:i.toNat*bZ c≤l.length*bZ c:=Nat.mul_le_mul_right _ k1
  have aW: ∀j x,((l.map (cb c)).take i.toNat).flatten[j]? =some x→cR w ro x ((xs.take (i.toNat*bZ c)).getD j undef):=fun j x af=>by
   rw[Sz hle _,List.getElem?_take]at af
   split at af
   ·rename_i bH
    have:=eW j x af
    rw[List.getD_eq_getElem?_getD]at this⊢
    rw[List.getElem?_take,if_pos bH]
    exact this
   ·cases af
  have c8: ∀j x,((l.map (cb c)).drop i.toNat).flatten[j]? =some x→cR w ro x ((xs.drop (i.toNat*bZ c)).getD j undef):=fun j x af=>by
   rw[SA hle _,List.getElem?_drop]at af
   have:=eW _ x af
   rw[List.getD_eq_getElem?_getD]at this⊢
   rw[List.getElem?_drop]
   exact this
  have VW: ∀e∈(l.map (cb c)).take i.toNat,e.length=bZ c:=fun e he=>hle e (List.mem_of_mem_take he)
  have VX:(xs.take (i.toNat*bZ c)).length=((l.map (cb c)).take i.toNat).length*bZ c:=by
   rw[List.length_take,List.length_take,OB,cZ.1,Nat.min_eq_left AJ,Nat.min_eq_left k1]
  have VY: ∀e∈(l.map (cb c)).take i.toNat++k.map (cb c),e.length=bZ c:=fun e he=>by
   rcases List.mem_append.1 he with h|h
   ·exact VW _ h
   ·exact mr _ h
  have sP:=w4 VW VX aW rL
  have zjk:(xs.take (i.toNat*bZ c)++(List.range (k.length*bZ c)).map f).length=((l.map (cb c)).take i.toNat++k.map (cb c)).length*bZ c:=by
   rw[List.length_append,List.length_append,VX,Nat.add_mul,List.length_map,List.length_range,List.length_map]
  have hOr:k9 w' ro ((n,.row false (a7.t 9) (bZ c) ((l.take i.toNat++k++l.drop i.toNat).map (cb c)))::dv id σ) (gW β n bh) (n+1) n (.row false (a7.t 9) (bZ c) ((l.take i.toNat++k++l.drop i.toNat).map (cb c))):=by
   refine .row (a7.t 9) (bZ c) _ _ (by
    rw[dS,List.length_map,List.length_append,List.length_append,List.length_take,List.length_drop,Nat.min_eq_left k1,show i.toNat+k.length+(l.length-i.toNat)=l.length+k.length by omega]
    exact kI) (fun ay j4=>?_) (fun j x af=>?_)
   ·rw[hm]at j4
    rcases List.mem_append.1 j4 with h|h
    ·exact VY _ h
    ·exact hle _ (List.mem_of_mem_drop h)
   ·rw[hm]at af
    have zjl:=w4 VY zjk (fun j x h=>by first|exact sP j x h|(rw[List.length_map]at sP;exact sP j x h)) c8
    exact(zjl j x af).keep cc fun _ h=>h
  have fe:=e3.LY (w':=w') id (Nat.le_refl _) bd _ bh cU.os cU.tape cU.output cU.size jn bg rfl hOr
  exact⟨bh,.aO n,_,gW β n bh,ro,n+1,he,⟨rfl,rfl⟩,.aO _ _ (Nat.lt_succ_self _) fun z bD cJ dQ _=>(dS _ _ _).symm,fe.heap,fe.trans⟩
end
end Go.aL
namespace Go.aL
open Go
def OC(id:Nat):ab→Bool
 | .aO j=>!Nat.beq j id
 |_=>true
def zjm(r:lH)(S:ao)(id:Nat)(i c7 z:ab):aC:=
 .eG (.eC r.c c7 none (some i)) (.eG (.up r.c z (.cs (.int .i64 0))) (.eG (.f2 r.bytes (.ap r.c) c7 z)
  (.lt S.k (.eC r.c c7 none (some i)) (.lt (S.k+1) (.f2 (.ap r.c) (.aU (.li r.c) S.k) z) (.lt (S.k+2) (.eC r.c c7 (some i) none) (.lt (S.k+3) (.f2 (.ap r.c) (.aU (.li r.c) (S.k+1)) (.aU (.li r.c) (S.k+2)))
   (.cH .cj ⟨ba.put .emp 0 (.aO S.n),(S.n,.rw r.t r.c (.aU (.li r.c) (S.k+3)))::hv id S.h,S.n+1,S.k+4,S.g⟩)))))))
def OD(R:List lH)(inl:Nat→List ab→ao→aC)(f:Nat)(ys:List ab)(S:ao):aC:=
 match BE f R,ys with
 |some r,[.aO id,i,y]=>match da S.h id,vz S y with
  |some (.rw bD lP c7),some z=>match(Nat.beq bD r.t&&decide (lP=r.c))&&((c7.ez (.li r.c)&&(z.ez (.li r.c)&&z.lt S.k))&&((decide (i.rt=some (.int .i64))&&i.lt S.k)&&(OC id y&&(match vA S y with
   |some d=>decide (d=r.c)
   |none=>true))))with
   |true=>zjm r S id i c7 z
   |false=>inl f ys S
  |_,_=>inl f ys S
 |_,_=>inl f ys S
section
variable {P:Program} {G:a8} {M:List aR} {inl:Nat→List ab→ao→aC}
theorem zjn{S:ao}{e:Env}{y z:ab}{id:Nat}(h:vz S y=some z)(hn:OC id y=true):y.den G e≠ .aO id:=by
 unfold vz at h
 split at h
 ·intro h'
  cases h'
 ·rename_i j
  intro h';simp only[ab.den,aD.aO.injEq]at h';subst h';simp[OC]at hn
 ·split at h
  ·rename_i d hd
   rw[(Et (G:=G) (e:=e) hd).1];intro h'
   cases h'
  ·cases h
theorem zjo{R:List lH}(fQ: ∀r∈R,uD P G r)(bW:fP P G M inl):fP P G M (OD R inl):=fun f ys S e ad aq hf ai=>by
 unfold OD at ai⊢
 split at ai
 rotate_left
 ·exact bW _ _ S e ad aq hf ai
 rename_i r id i y Ov
 obtain⟨hm,rfl⟩:=VD Ov
 split at ai
 rotate_left
 ·exact bW _ _ S e ad aq hf ai
 rename_i bD lP c7 z ah aS
 split at ai
 rotate_left
 ·exact bW _ _ S e ad aq hf ai
 rename_i aj
 simp only[Bool.and_eq_true,decide_eq_true_eq]at aj
 obtain⟨⟨fy,gH⟩,⟨k8,sQ,zB⟩,⟨uO,wQ⟩,N0,VZ⟩:=aj
 have fy:=Nat.eq_of_beq_eq_true fy
 subst fy
 subst gH
 have wX:c7.lt S.k=true:=vI ad.h ah
 have ob:fx (cy G e S.h) (bZ r.c) (y.den G e)=some (List.map (cb r.c) (z.az e (.li r.c))):=
  ED (G:=G) (N:=0) (B:=0) (e:=e) aS sQ (fun d hd=>by rw[hd]at VZ;exact of_decide_eq_true VZ)
 have bd:aE (cy G e S.h) id=some (.row false r.t (bZ r.c) (List.map (cb r.c) (c7.az e (.li r.c)))):=by
  simp only[ei,ah,Option.map_some,bG.den]
 obtain⟨gV,gv,MK,_⟩:ff.ok M e (.eC r.c c7 none (some i))∧ff.ok M e (.up r.c z (.cs (.int .i64 0)))∧ff.ok M e (.f2 r.bytes (.ap r.c) c7 z)∧True:=⟨ai.1,ai.2.1,ai.2.2.1,trivial⟩
 have OE:cm (i.dyn e)=i.az e (.int .i64):=lT uO
 have SC:0≤i.az e (.int .i64)∧i.az e (.int .i64)≤((c7.az e (.li r.c)).length:Int):=by
  rw[←OE];exact gV
 have Ew:0<(z.az e (.li r.c)).length:=by
  have h:(0:Int)<(List.length (z.az e (.li r.c)):Int):=gv.2
  omega
 have zjp:i.den G e= .av (.v (.int .i64 (i.az e (.int .i64)))):=jx uO
 have h3:ab.bQ G e [.aO id,i,y]=[.aO id,.av (.v (.int .i64 (i.az e (.int .i64)))),y.den G e]:=by
  rw[←zjp];rfl
 rw[h3]
 refine(fQ r hm (n:=S.n) bd ob (zjn aS N0) Ew SC MK).res fun v bV ⟨aa,ae⟩=>?_
 let aB:=ba.put e S.k ((bK.eC r.c c7 none (some i)).den M e)
 let bf:=ba.put aB (S.k+1) ((bK.f2 (.ap r.c) (.aU (.li r.c) S.k) z).den M aB)
 let ck:=ba.put bf (S.k+2) ((bK.eC r.c c7 (some i) none).den M bf)
 let ep:=ba.put ck (S.k+3) ((bK.f2 (.ap r.c) (.aU (.li r.c) (S.k+1)) (.aU (.li r.c) (S.k+2))).den M ck)
 have b6:bX S.k e aB:=bX.put (Nat.le_refl _)
 have a2:bX S.k e bf:=b6.trans (bX.put (k:=S.k) (by omega)) (Nat.le_refl _)
 have a3:bX S.k e ck:=a2.trans (bX.put (k:=S.k) (by omega)) (Nat.le_refl _)
 have a4:bX S.k e ep:=a3.trans (bX.put (k:=S.k) (by omega)) (Nat.le_refl _)
 have c1:(ab.aU (.li r.c) S.k).az aB (.li r.c)=(c7.az e (.li r.c)).take (i.az e (.int .i64)).toNat:=xO (by
  rw[Env.ij,if_pos rfl]
  simp only[bK.den,mB,iL,OE])
 have dg:(ab.aU (.li r.c) (S.k+1)).az bf (.li r.c)=(c7.az e (.li r.c)).take (i.az e (.int .i64)).toNat++z.az e (.li r.c):=xO (by
  rw[Env.ij,if_pos rfl];show(⟨.li r.c,List.append ((ab.aU (.li r.c) S.k).az aB (.li r.c)) (z.az aB (.li r.c))⟩:aF)=_;rw[c1,eF b6 zB]
  rfl)
 have gY:(ab.aU (.li r.c) (S.k+2)).az ck (.li r.c)=(c7.az e (.li r.c)).drop (i.az e (.int .i64)).toNat:=xO (by
  rw[Env.ij,if_pos rfl];simp only[bK.den,mB,iL]
  rw[eF a2 wX,rQ a2 wQ,OE])
 have zjq:(ab.aU (.li r.c) (S.k+1)).az ck (.li r.c)=(c7.az e (.li r.c)).take (i.az e (.int .i64)).toNat++z.az e (.li r.c):=by
  rw[←dg];exact eF (k:=S.k+2) (bX.put (Nat.le_refl _)) (jS (by omega))
 have pE:(ab.aU (.li r.c) (S.k+3)).az ep (.li r.c)=(c7.az e (.li r.c)).take (i.az e (.int .i64)).toNat++z.az e (.li r.c)++(c7.az e (.li r.c)).drop (i.az e (.int .i64)).toNat:=xO (by
  rw[Env.ij,if_pos rfl];show(⟨.li r.c,List.append ((ab.aU (.li r.c) (S.k+1)).az ck (.li r.c)) ((ab.aU (.li r.c) (S.k+2)).az ck (.li r.c))⟩:aF)=_;rw[zjq,gY]
  rfl)
 refine⟨⟨ba.put .emp 0 (.aO S.n),(S.n,.rw r.t r.c (.aU (.li r.c) (S.k+3)))::hv id S.h,S.n+1,S.k+4,S.g⟩,ep,rfl,?_,?_,⟨fun j x af=>?_,?_,?_⟩,?_,a4,Nat.le_add_right _ _⟩
 ·rw[aa]
  show _=ab.den G _ (ao.at _ 0);unfold ao.at
  simp only[ba.h0,if_true,ab.den]
 ·rw[ae]
  simp only[cy,bG.den,py,pE,xu a4 ad.h]
 ·simp only[ba.h0]at af
  split at af
  ·cases af
   rfl
  ·simp[ba.get]at af
 ·show(Nat.blt (S.k+3) (S.k+4)&&eH (S.k+4) (hv id S.h))=true
  rw[jS (by omega),oh id (tk (by omega) ad.h)]
  rfl
 ·exact oa (k:=S.k) (m:=S.k+4) (by omega) ad.g
 ·exact ik a4 ad.g hf
end
def C4(P:Program)(H:jH)(T:List (Nat × bL))(Z:Nat × Nat × Nat)(R I:List lH)(B:List j1)(C:List ia):Nat→Nat→List ab→ao→aC
 |0=>fun _ _ _=>.bad 40
 |n+1=>M4 P H T (OD I (Ou R (On Z.1 Z.2.1 Z.2.2 (NZ B (NL C (C4 P H T Z R I B C n))))))
section
variable {P:Program} {G:a8} {M:List aR}
theorem HC{Z:Nat × Nat × Nat}{R I:List lH}{B:List j1}{C:List ia}{H:jH}{T:List (Nat × bL)}(k6:M5 P G M H)(fQ: ∀r∈R,nM P G r)(bW: ∀r∈I,uD P G r)(sO:uL P G Z.1 Z.2.1 Z.2.2)(gS:JY P G M B)(q3:rp P G M C): ∀n,fP P G M (C4 P H T Z R I B C n)
 |0=>fun _ _ _ _ _ _ _ h=>h.elim
 |n+1=>zgL k6 (zjo bW (ziM fQ (ziA sO (zh0 gS (zhK q3 (HC k6 fQ bW sO gS q3 n))))))
end
end Go.aL
