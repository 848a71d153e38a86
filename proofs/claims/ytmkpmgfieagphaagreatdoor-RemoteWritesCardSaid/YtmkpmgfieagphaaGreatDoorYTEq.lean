/- TE, part L: calls whose result is a new own row (slices.Clone). Conditions: none. -/
import Derived.Test.YtmkpmgfieagphaaGreatDoorYTEk
import Derived.Shelf.Spec.SlicesInsertGrow
import Derived.Shelf.SlGeneric
import Derived.Laws.CopyRow
namespace Go.aO
open Go
structure ll where
 f:Nat
 t:TypeId
 c:bJ
 bytes:Nat
def Bi(f:Nat):List ll→Option ll
 |[]=>none
 |r::l=>match Nat.beq r.f f with
  |true=>some r
  |false=>Bi f l
def nr(P:Program)(G:bd)(r:ll):Prop:=
 ∀{σ:Heap} {n:Nat} {y:aF} {l:List (fQ r.c)},fy σ (b5 r.c) y=some (l.map (cj r.c))→l.length≤maxLen∧l.length*r.bytes≤140737488355328→
  dJ P G r.f [y] σ n fun v b1=>v= .aR n∧b1=(n,.row false r.t (b5 r.c) (l.map (cj r.c)))::σ
def OE(R:List ll)(inl:Nat→List ab→aq→aD)(f:Nat)(aJ:List ab)(S:aq):aD:=
 match Bi f R,aJ with
 |some r,[a]=>match uW S a with
  |some z=>match(z.ew (.li r.c)&&z.lt S.k)&&(match uX S a with
   |some d=>decide (d=r.c)
   |none=>true)with
   |true=>.eH (.f2 r.bytes (.ap r.c) (.cs (.slice none 0 0)) z) (.cR .cp ⟨bg.put .emp 0 (.aR S.n),(S.n,.rw r.t r.c z)::S.h,S.n+1,S.k,S.g⟩)
   |false=>inl f aJ S
  |none=>inl f aJ S
 |_,_=>inl f aJ S
section
variable {P:Program} {G:bd} {M:List aV} {inl:Nat→List ab→aq→aD}
theorem VL{f:Nat}{R:List ll}{r:ll}(h:Bi f R=some r):r∈R∧r.f=f:=by
 induction R with
 |nil=>cases h
 |cons q l a7=>
  simp only[Bi]at h
  split at h
  ·rename_i ad
   cases h;exact⟨List.mem_cons_self ..,Nat.eq_of_beq_eq_true ad⟩
  ·exact⟨List.mem_cons_of_mem _ (a7 h).1,(a7 h).2⟩
theorem ziE{R:List ll}(fS: ∀r∈R,nr P G r)(b2:fE P G M inl):fE P G M (OE R inl):=fun f aJ S e ad ar hf ai=>by
 unfold OE at ai⊢
 split at ai
 rotate_left
 ·exact b2 _ _ S e ad ar hf ai
 rename_i r a OF
 obtain⟨hm,rfl⟩:=VL OF
 split at ai
 rotate_left
 ·exact b2 _ _ S e ad ar hf ai
 rename_i z aS
 split at ai
 rotate_left
 ·exact b2 _ _ S e ad ar hf ai
 rename_i aj
 simp only[Bool.and_eq_true]at aj
 obtain⟨⟨eP,fx⟩,iv⟩:=aj
 have nQ:fy (cH G e S.h) (b5 r.c) (a.den G e)=some (List.map (cj r.c) (z.aC e (.li r.c))):=
  El (G:=G) (N:=0) (B:=0) (e:=e) aS eP (fun d hd=>by rw[hd]at iv;exact of_decide_eq_true iv)
 obtain⟨gO,_⟩:fi.ok M e (.f2 r.bytes (.ap r.c) (.cs (.slice none 0 0)) z)∧True:=⟨ai.1,trivial⟩
 have hB:(ab.cs (.slice none 0 0)).aC e (.li r.c)=([]:List (fQ r.c)):=by simp only[ab.aC,ab.fu,cI]
 simp only[fi.ok,cD.uF,cD.a,cD.b,hB,List.length_nil,Nat.zero_add]at gO
 refine(fS r hm (n:=S.n) nQ gO).res fun v b1 ⟨aa,ae⟩=>⟨⟨bg.put .emp 0 (.aR S.n),(S.n,.rw r.t r.c z)::S.h,S.n+1,S.k,S.g⟩,e,rfl,?_,?_,⟨fun i y hi=>?_,?_,ad.g⟩,hf,b3.refl _ _,Nat.le_refl _⟩
 ·rw[aa]
  show _=ab.den G _ (aq.at _ 0);unfold aq.at
  simp only[bg.hV,if_true,ab.den]
 ·rw[ae]
  rfl
 ·simp only[bg.hV]at hi
  split at hi
  ·cases hi
   rfl
  ·simp[bg.get]at hi
 ·show(z.lt S.k&&eI S.k S.h)=true
  rw[fx,ad.h];rfl
end
end Go.aO
namespace Go.aO
open Go Go.Proofs Go.Shelf Go.RowKit Go.Lib
section
variable {P:Program}
theorem FH(w:World)(av ziF ty elem:TypeId)(s g o OG ziG:Nat)(a:Addr)(OH ziH:Nat)(cur:Array Value)(t:TypeId)(cs:List Value)
 (hu:P.underlying av=some (.slice elem))(ai:(P.info? elem).map (·.size)=some s)
 (ah:w.heap[g]? =some (.cells cur t (0,0)))(hn:cs.length=Nat.min OH OG*s)
 (nQ: ∀j v,cs[j]? =some v→w.cell? (a.add j)=some v)(pR:o+cs.length≤cur.size)(aa: ∀v∈cs,v.oneCell'=true):
 (Builtin.copy_ #[av,ziF] ty #[.slice (some ⟨g,o,none⟩) OG ziG,.slice (some a) OH ziH]).run P w=
  .ok (goInt (Nat.min OH OG)) (w.setRow g (cur.toList.take o++cs++cur.toList.drop (o+cs.length)).toArray):=by
 have ar:=run_loadCells_list (P:=P) w a cs nQ
 have dH:=run_storeCells_at P g o t cs 0 cur w ah (by simpa using pR) aa
 rw[hn]at ar
 simp only[Nat.add_zero]at dH
 cases aN:P.info? elem with
 |none=>simp[aN]at ai
 |some i=>
  have hi:i.size=s:=by simpa[aN]using ai
  simp[Builtin.copy_,run_underlying hu,Builtin.lenOf,Builtin.firstCells,sizeOf,typeInfo,aN,hi,ar,dH]
theorem ziI(w:World)(OI ziJ e:TypeId)(aK:P.underlying OI=some (.slice e))(size:Nat)(aS: ∀w,(Go.sizeOf e).run P w= .ok size w)
 (a b:Addr)(VM ca x2 Bj:Nat)(cb:a.block≠b.block)(th qu:TypeId)(nc Bk:Nat)
 (x3:w.shape? a.block=some (th,nc))(FI:nc≠0)(Ar:w.shape? b.block=some (qu,Bk))(ziK:Bk≠0)
 (ziL:w.frozen? b=false)(ziM:w.frozen? {block:=b.block,off:=Bk}=false):
 (Extern.SlicesOverlaps.overlaps #[OI,OI] #[ziJ] #[.slice (some a) VM ca,.slice (some b) x2 Bj]).run P w= .ok (.bool false) w:=by
 have ziN:(a.block != b.block)=true:=by simpa using cb
 have ziO:(a.block==b.block)=false:=by simpa using cb
 refine(?_:Sem.run P (Bind.bind _ _) w=_)
 by_cases aP:VM=0∨x2=0∨size=0
 ·simp[run_underlying aK,aS,aP]
 ·cases Bk with
  |zero=>exact absurd rfl ziK
  |succ Bk=>
   cases nc with
   |zero=>exact absurd rfl FI
   |succ nc=>
    simp[run_underlying aK,aS,aP,ziN,ziO,frozen,noView,viewAt,mayBeOne,stringish,shape,Sem.run,x3,Ar,ziL,ziM]
theorem ziP{α:Type}(cur cs vs:List α)(k M:Nat)(aa:k+M+cs.length≤cur.length)(ae:vs.length=M):
 (((cur.take (k+M)++cs++cur.drop (k+M+cs.length)).take k++vs++(cur.take (k+M)++cs++cur.drop (k+M+cs.length)).drop (k+vs.length)).length=cur.length)∧
 ((cur.take (k+M)++cs++cur.drop (k+M+cs.length)).take k++vs++(cur.take (k+M)++cs++cur.drop (k+M+cs.length)).drop (k+vs.length)).take (k+M+cs.length)=cur.take k++vs++cs:=by
 have hd:(cur.take (k+M)++cs++cur.drop (k+M+cs.length)).drop (k+vs.length)=cs++cur.drop (k+M+cs.length):=by
  rw[List.append_assoc];exact List.drop_left' (by rw[List.length_take];omega)
 have aK:(cur.take (k+M)++cs++cur.drop (k+M+cs.length)).take k=cur.take k:=by
  rw[List.append_assoc,List.take_append_of_le_length (by rw[List.length_take];omega),List.take_take]
  congr 1
  omega
 rw[hd,aK]
 refine⟨by simp only[List.length_append,List.length_take,List.length_drop];omega,?_⟩
 rw[←List.append_assoc]
 exact List.take_left' (by simp only[List.length_append,List.length_take];omega)
structure vV (P:Program) (bc:Ren):Prop where
 mixed:P.follows .mixedOrders=true
 f22:Bears P (bc.f 22) (Body2.n22 bc)
 f29: ∀args w,(callFunc (bc.f 29) args).run P w=((Extern.SlicesOverlaps.overlaps #[(bc.t 24),(bc.t 24)] #[(bc.t 4)] args).run P w).andThen fun v w'=>.ok (.value v) w'
 t3:P.underlying (bc.t 3)=some (TypeDesc.int IntKind.i64)
 a3: ∀w,(isAgg (bc.t 3)).run P w= .ok false w
 z3: ∀w,(Go.sizeOf (bc.t 3)).run P w= .ok 1 w
 v3: ∀w,(zeroValue (bc.t 3)).run P w= .ok (Value.int IntKind.i64 0) w
 t4:P.underlying (bc.t 4)=some (TypeDesc.bool)
 a4: ∀w,(isAgg (bc.t 4)).run P w= .ok false w
 z4: ∀w,(Go.sizeOf (bc.t 4)).run P w= .ok 1 w
 v4: ∀w,(zeroValue (bc.t 4)).run P w= .ok (Value.bool false) w
 t24:P.underlying (bc.t 24)=some (TypeDesc.slice (bc.t 9))
 a24: ∀w,(isAgg (bc.t 24)).run P w= .ok false w
 z24: ∀w,(Go.sizeOf (bc.t 24)).run P w= .ok 1 w
 v24: ∀w,(zeroValue (bc.t 24)).run P w= .ok (Value.slice none 0 0) w
variable {bc:Ren}
set_option maxHeartbeats 4000000 in
set_option maxRecDepth 100000 in
theorem ziQ(L:vV P bc)(i0:TypeInfo)(z:Value)(s:Nat)(hi:P.info? (bc.t 9)=some i0)(iG:i0.size=s)(rP:0<s)
 (z9: ∀w,(Go.sizeOf (bc.t 9)).run P w= .ok s w)(g n c i m kl:Nat)(aQ:Addr)(cur:Array Value)(t:TypeId)(vs:List Value)(w:World)
 (kH:i<n)(hm:0<m)(xh:n+m≤c)(KS:c≤maxLen)(VN:aQ.block≠g)
 (ah:w.heap[g]? =some (.cells cur t (0,0)))(ti:cur.size=c*s)(fF:vs.length=m*s)
 (mv: ∀j v,vs[j]? =some v→w.cell? (aQ.add j)=some v)(Bl: ∀v∈cur.toList.take (n*s),v.oneCell'=true)(nd: ∀v∈vs,v.oneCell'=true)
 (th:TypeId)(nc:Nat)(x3:w.shape? aQ.block=some (th,nc))(FI:nc≠0):
 Calls P (bc.f 22) #[.slice (some ⟨g,0,none⟩) n c,.int .i64 i,.slice (some aQ) m kl] w fun e w'=>
  e= .returned (.slice (some ⟨g,0,none⟩) (n+m) c)∧∃rQ:Array Value,w'=w.drew.setRow g rQ∧rQ.size=cur.size∧rQ.toList.take ((n+m)*s)=cur.toList.take (i*s)++vs++(cur.toList.take (n*s)).drop (i*s):=by
 have t3:=L.t3;have a3:=L.a3;have z3:=L.z3;have v3:=L.v3;have t4:=L.t4;have a4:=L.a4;have z4:=L.z4;have v4:=L.v4;have t24:=L.t24;have a24:=L.a24;have z24:=L.z24;have v24:=L.v24
 have xZ:=run_underlying L.t3;have VO:=run_underlying L.t4;have VP:=run_underlying L.t24
 have VQ: ¬((m:Int)=0):=by omega
 have kC: ¬((i:Int)=(n:Int)):=by omega
 have mixed:=L.mixed
 have VR:=L.f29
 obtain⟨_,_,rO⟩:=L.f22
 have ziR: ∀off x2 Bj,(callFunc (bc.f 29) #[.slice (some aQ) m kl,.slice (some ⟨g,off,none⟩) x2 Bj]).run P w= .ok (.value (.bool false)) w:=fun off x2 Bj=>by
  rw[VR]
  have h:=ziI w (bc.t 24) (bc.t 4) (bc.t 9) L.t24 s z9 aQ ⟨g,off,none⟩ m kl x2 Bj VN th t nc cur.size x3 FI (by simp[World.shape?,ah]) (by rw[ti];exact Nat.mul_ne_zero (by omega) (by omega)) (by simp[World.frozen?,ah]) (by simp[World.frozen?,ah])
  rw[h];rfl
 unfold maxLen at KS
 have ziS:IntKind.i64.wrap ((i:Int)+(m:Int))=(i:Int)+(m:Int):=by rw[IntKind.wrap_i64];omega
 have ia:(0:Int)≤(i:Int)+(m:Int):=by omega
 have OJ:i≤n:=by omega
 have ziT:((i:Int)+(m:Int)).toNat=i+m:=by omega
 have oP: ¬(c=i+m):=by omega
 have ziU:(i:Int)≤(n:Int)+(m:Int):=by omega
 have zj5: ¬(c=i):=by omega
 have bY:(P.info? (bc.t 9)).map (·.size)=some s:=by rw[hi];simp[iG]
 have jn:cur.toList.length=c*s:=by simpa using ti
 have aE:(i+m)*s=i*s+m*s:=Nat.add_mul ..
 have bo:(n+m)*s=n*s+m*s:=Nat.add_mul ..
 have cv:i*s≤n*s:=Nat.mul_le_mul_right _ OJ
 have eC:(n+m)*s≤c*s:=Nat.mul_le_mul_right _ xh
 have oa:(n-i)*s=n*s-i*s:=Nat.sub_mul ..
 obtain⟨cs,dL⟩: ∃cs,cs=(cur.toList.take (n*s)).drop (i*s):=⟨_,rfl⟩
 have n2:cs.length=(n-i)*s:=by rw[dL,List.length_drop,List.length_take,jn,oa];omega
 obtain⟨dK,nY⟩: ∃dK,dK=(cur.toList.take ((i+m)*s)++cs++cur.toList.drop ((i+m)*s+cs.length)).toArray:=⟨_,rfl⟩
 have Bm:dK.size=cur.size:=by
  rw[nY];simp only[List.size_toArray,List.length_append,List.length_take,List.length_drop,jn,n2,ti];omega
 have ziV: ∀ty lM mg,(Builtin.copy_ #[(bc.t 24),(bc.t 24)] ty #[.slice (some ⟨g,(i+m)*s,none⟩) (n+m-(i+m)) lM,.slice (some ⟨g,i*s,none⟩) (n+m-i) mg]).run P w.drew= .ok (goInt (Nat.min (n+m-i) (n+m-(i+m)))) (w.drew.setRow g dK):=fun ty lM mg=>by
  rw[nY]
  exact FH w.drew _ _ ty (bc.t 9) s g ((i+m)*s) (n+m-(i+m)) lM ⟨g,i*s,none⟩ (n+m-i) mg cur t cs L.t24 bY ah
   (by rw[n2];congr 1;simp only[Nat.min_def];split<;>omega)
   (fun j v af=>by
    rw[Addr.add_lit];rw[dL,List.getElem?_drop,List.getElem?_take]at af
    split at af
    ·rw[Array.getElem?_toList]at af
     show World.cell? w.drew _=_
     have:w.drew.heap[g]? =some (.cells cur t (0,0)):=ah
     simp[World.cell?,this,af]
    ·cases af)
   (by rw[n2];omega) (fun v ax=>Bl v (by rw[dL]at ax;exact List.mem_of_mem_drop ax))
 obtain⟨eX,mq⟩: ∃eX,eX=(dK.toList.take (i*s)++vs++dK.toList.drop (i*s+vs.length)).toArray:=⟨_,rfl⟩
 have ziW: ∀(W:World),W.heap=(w.drew.setRow g dK).heap→∀ty lM,(Builtin.copy_ #[(bc.t 24),(bc.t 24)] ty #[.slice (some ⟨g,i*s,none⟩) (n+m-i) lM,.slice (some aQ) m kl]).run P W= .ok (goInt (Nat.min m (n+m-i))) (W.setRow g eX):=fun W h2 ty lM=>by
  rw[mq]
  have OB:W.heap[g]? =some (.cells dK t (0,0)):=by rw[h2];exact setRow_heap w.drew g cur dK t (0,0) ah
  exact FH W _ _ ty (bc.t 9) s g (i*s) (n+m-i) lM aQ m kl dK t vs L.t24 bY OB
   (by rw[fF];congr 1;simp only[Nat.min_def];split<;>omega)
   (fun j v af=>by
    have h:=mv j v af
    rw[←h];refine World.cell?_of_block ?_
    rw[h2,pP]
    exact setRow_other w.drew g _ dK VN)
   (by rw[fF,Bm,ti];omega) nd
 have lH:eX.size=cur.size∧eX.toList.take ((n+m)*s)=cur.toList.take (i*s)++vs++cs:=by
  have h:=ziP cur.toList cs vs (i*s) (m*s) (by rw[jn,n2];omega) fF
  have tz:i*s+m*s+cs.length=(n+m)*s:=by rw[n2];omega
  rw[tz,←aE]at h;rw[aE,tz,←aE]at nY;subst nY;subst mq;simp only[List.size_toArray]at h⊢;exact⟨h.1.trans Array.length_toList,h.2⟩
 clear ti ah fF Bl nd mv x3 FI VR hi iG nY mq n2 Bm jn aE bo cv eC oa
 go_enter rO,Body2.n22_ntmps bc
 go_wp2_with (simp only[ziR])
 go_region_law_o (refine step_copy_runI rfl _ _ (bc.t 24) (bc.t 24) rfl _ _ (by simp[Act.eval,Act.put]) (by simp[Act.eval,Act.put]) (ziV _ _ _) ?_)
 go_wp2_with (at_builtin;refine wpList_copy_runI _ rfl _ _ (bc.t 24) (bc.t 24) rfl _ _ rfl rfl (ziW _ rfl _ _) ?_)
 go_ret
 exact⟨rfl,eX,setRow_setRow ..,dL ▸ lH⟩
theorem ziX{α:Type}(a b d cs vs:List α)(k M:Nat)(aP:a.length=k)(aa:M+cs.length≤b.length)(ae:vs.length=M):
 ((((a++b++d).take k++vs++(a++b++d).drop (k+vs.length)).take (k+M)++cs++((a++b++d).take k++vs++(a++b++d).drop (k+vs.length)).drop (k+M+cs.length)).length=(a++b++d).length)∧
 (((a++b++d).take k++vs++(a++b++d).drop (k+vs.length)).take (k+M)++cs++((a++b++d).take k++vs++(a++b++d).drop (k+vs.length)).drop (k+M+cs.length)).take (k+M+cs.length)=a++vs++cs:=by
 have aK:(a++b++d).take k=a:=by
  rw[List.append_assoc];exact List.take_left' aP
 rw[aK]
 have hu:(a++vs++(a++b++d).drop (k+vs.length)).take (k+M)=a++vs:=List.take_left' (by rw[List.length_append];omega)
 rw[hu]
 refine⟨by simp only[List.length_append,List.length_drop];omega,?_⟩
 exact List.take_left' (by simp only[List.length_append];omega)
theorem VS(z:Array Value)(k:Nat):(Builtin.zeroCells z k).size=k*z.size:=by
 unfold Builtin.zeroCells
 simp
set_option maxHeartbeats 4000000 in
set_option maxRecDepth 100000 in
theorem ziY(L:vV P bc)(i0:TypeInfo)(z:Value)(s bytes:Nat)(hi:P.info? (bc.t 9)=some i0)(lL:i0.zero=some z)(iG:i0.size=s)(kC:i0.bytes=bytes)(fe:z.cells.size=s)(rP:0<s)
 (z9: ∀w,(Go.sizeOf (bc.t 9)).run P w= .ok s w)(g n c i m kl:Nat)(aQ:Addr)(cur:Array Value)(t:TypeId)(vs:List Value)(w:World)
 (kH:i<n)(hm:0<m)(Ap:n≤c)(xh:c<n+m)(m5:n+m≤maxLen)(rN:(n+m)*bytes≤140737488355328)
 (ah:w.heap[g]? =some (.cells cur t (0,0)))(ti:cur.size=c*s)(fF:vs.length=m*s)
 (mv: ∀j v,vs[j]? =some v→w.cell? (aQ.add j)=some v)(Bl: ∀v∈cur.toList.take (n*s),v.oneCell'=true)(nd: ∀v∈vs,v.oneCell'=true)(ziZ:aQ.block<w.heap.size):
 Calls P (bc.f 22) #[.slice (some ⟨g,0,none⟩) n c,.int .i64 i,.slice (some aQ) m kl] w fun e w'=>
  ∃(G:Nat) (eX:Array Value),e= .returned (.slice (some ⟨w.heap.size,0,none⟩) (n+m) G)∧n+m≤G∧G≤maxLen∧w.grownBy w' none∧w'.heap[w.heap.size]? =some (.cells eX (bc.t 9) (0,0))∧eX.size=G*s∧
   eX.toList.take ((n+m)*s)=cur.toList.take (i*s)++vs++(cur.toList.take (n*s)).drop (i*s):=by
 have t3:=L.t3;have a3:=L.a3;have z3:=L.z3;have v3:=L.v3;have t4:=L.t4;have a4:=L.a4;have z4:=L.z4;have v4:=L.v4;have t24:=L.t24;have a24:=L.a24;have z24:=L.z24;have v24:=L.v24
 have xZ:=run_underlying L.t3;have VO:=run_underlying L.t4;have VP:=run_underlying L.t24
 have mixed:=L.mixed
 obtain⟨_,_,rO⟩:=L.f22
 have VQ: ¬((m:Int)=0):=by omega
 have zj6: ¬((i:Int)=(n:Int)):=by omega
 have zj7:(c:Int)<(n:Int)+(m:Int):=by omega
 have bY:(P.info? (bc.t 9)).map (·.size)=some s:=by rw[hi];simp[iG]
 have zi0:g<w.heap.size:=(Array.getElem?_eq_some_iff.1 ah).1
 have qJ:(n:Int)+(m:Int)-(i:Int)=((n+m-i:Nat):Int):=by omega
 have qI:i+(n+m-i)=n+m:=by omega
 have OJ:i≤n:=by omega
 have jn:cur.toList.length=c*s:=by simpa using ti
 have aE:(i+m)*s=i*s+m*s:=Nat.add_mul ..
 have bo:(n+m)*s=n*s+m*s:=Nat.add_mul ..
 have cv:i*s≤n*s:=Nat.mul_le_mul_right _ OJ
 have eC:n*s≤c*s:=Nat.mul_le_mul_right _ Ap
 have oa:(n-i)*s=n*s-i*s:=Nat.sub_mul ..
 have BI:(n+m-i)*s=n*s+m*s-i*s:=by rw[Nat.sub_mul,bo]
 have zi1:(n+m-i)*bytes≤(n+m)*bytes:=Nat.mul_le_mul_right _ (by omega)
 have OK: ∀(W:World),W.heap[g]? =some (.cells cur t (0,0))→∀k v,cur.toList[k]? =some v→W.cell? ⟨g,k,none⟩=some v:=fun W h2 k v ax=>by
  rw[Array.getElem?_toList]at ax
  simp[World.cell?,h2,ax]
 have hold:(Builtin.firstCells i0.size i (.slice (some ⟨g,0,none⟩) i c)).run P w.drew= .ok (cur.toList.take (i*s)).toArray w.drew:=by
  rw[iG]
  exact run_firstCells_some w.drew s i ⟨g,0,none⟩ i c (cur.toList.take (i*s)) (by rw[List.length_take];omega) (fun j v af=>by
   rw[Addr.add_lit,Nat.zero_add];rw[List.getElem?_take]at af
   split at af
   ·exact OK w.drew ah j v af
   ·cases af)
 have j2: ∀ty,(Builtin.append_ #[(bc.t 24),(bc.t 3)] ty #[.slice (some ⟨g,0,none⟩) i c,.int .i64 ((n:Int)+(m:Int)-(i:Int))]).run P w=
  .ok (.slice (some ⟨w.heap.size,0,none⟩) (n+m) (grownCap w (n+m) c (bc.t 9))) (w.drew.alloc (.cells ((cur.toList.take (i*s)).toArray++Builtin.zeroCells z.cells (n+m-i)++Builtin.zeroCells z.cells (grownCap w (n+m) c (bc.t 9)-(n+m))) (bc.t 9))):=fun ty=>by
  have h:=Lib.run_append_grow_zeros w (bc.t 24) (bc.t 3) ty (bc.t 9) i0 _ .i64 .i64 L.t24 L.t3 hi lL (some ⟨g,0,none⟩) i c (cur.toList.take (i*s)) hold (n+m-i) (by omega) (by omega) (by omega) (by unfold maxLen at m5;omega) (by rw[kC];omega) (by rw[kC,qI];exact growslice_fits xh rN)
  rw[qI]at h;rw[qJ];exact h
 obtain⟨G,kL⟩: ∃G,G=grownCap w (n+m) c (bc.t 9):=⟨_,rfl⟩
 obtain⟨jS,FJ⟩: ∃jS:Array Value,jS=(cur.toList.take (i*s)).toArray++Builtin.zeroCells z.cells (n+m-i)++Builtin.zeroCells z.cells (G-(n+m)):=⟨_,rfl⟩
 have VT:n+m≤G:=by rw[kL];exact grownCap_ge w _ _ _
 have VU:G≤maxLen:=by rw[kL];exact grownCap_le_maxLen w (n+m) c (bc.t 9) m5
 have zj8:G≤9223372036854775807:=VU
 rw[←kL,←FJ]at j2
 have Gb:(G-(n+m))*s=G*s-(n*s+m*s):=by rw[Nat.sub_mul,bo]
 have Ph:(n+m)*s≤G*s:=Nat.mul_le_mul_right _ VT
 have FK:jS.size=G*s:=by
  rw[FJ];simp only[Array.size_append,VS,fe,List.size_toArray,List.length_take,jn,BI,Gb];omega
 obtain⟨cs,dL⟩: ∃cs,cs=(cur.toList.take (n*s)).drop (i*s):=⟨_,rfl⟩
 have n2:cs.length=(n-i)*s:=by rw[dL,List.length_drop,List.length_take,jn,oa];omega
 obtain⟨dK,nY⟩: ∃dK,dK=(jS.toList.take (i*s)++vs++jS.toList.drop (i*s+vs.length)).toArray:=⟨_,rfl⟩
 have Bm:dK.size=G*s:=by
  rw[nY];simp only[List.size_toArray,List.length_append,List.length_take,List.length_drop,Array.length_toList,FK,fF];omega
 obtain⟨eX,mq⟩: ∃eX,eX=(dK.toList.take ((i+m)*s)++cs++dK.toList.drop ((i+m)*s+cs.length)).toArray:=⟨_,rfl⟩
 obtain⟨n3,Bn⟩: ∃n3,n3=w.drew.alloc (.cells jS (bc.t 9)):=⟨_,rfl⟩
 have FL:n3.heap[w.heap.size]? =some (.cells jS (bc.t 9) (0,0)):=by
  rw[show n3.heap=w.heap.push (.cells jS (bc.t 9) (0,0))by rw[Bn];rfl]
  exact Array.getElem?_push_size
 have FM: ∀k,k<w.heap.size→n3.heap[k]? =w.heap[k]? :=fun k aj=>by
  rw[show n3.heap=w.heap.push (.cells jS (bc.t 9) (0,0))by rw[Bn];rfl,Array.getElem?_push,if_neg (Nat.ne_of_lt aj)]
 rw[←Bn]at j2
 have zi2: ∀(W:World),W.heap=n3.heap→∀ty lM,(Builtin.copy_ #[(bc.t 24),(bc.t 24)] ty #[.slice (some ⟨w.heap.size,i*s,none⟩) (n+m-i) lM,.slice (some aQ) m kl]).run P W= .ok (goInt (Nat.min m (n+m-i))) (W.setRow w.heap.size dK):=fun W h2 ty lM=>by
  rw[nY]
  exact FH W _ _ ty (bc.t 9) s w.heap.size (i*s) (n+m-i) lM aQ m kl jS (bc.t 9) vs L.t24 bY (by rw[h2];exact FL)
   (by rw[fF];congr 1;simp only[Nat.min_def];split<;>omega)
   (fun j v af=>by
    rw[←mv j v af];refine World.cell?_of_block ?_
    rw[h2,pP]
    exact FM _ ziZ)
   (by rw[fF,FK];omega) nd
 have VV: ∀(W:World),W.heap=(n3.setRow w.heap.size dK).heap→∀ty lM mg,(Builtin.copy_ #[(bc.t 24),(bc.t 24)] ty #[.slice (some ⟨w.heap.size,(i+m)*s,none⟩) (n+m-(i+m)) lM,.slice (some ⟨g,i*s,none⟩) (n-i) mg]).run P W= .ok (goInt (Nat.min (n-i) (n+m-(i+m)))) (W.setRow w.heap.size eX):=fun W h2 ty lM mg=>by
  rw[mq]
  exact FH W _ _ ty (bc.t 9) s w.heap.size ((i+m)*s) (n+m-(i+m)) lM ⟨g,i*s,none⟩ (n-i) mg dK (bc.t 9) cs L.t24 bY (by rw[h2];exact setRow_heap n3 w.heap.size jS dK (bc.t 9) (0,0) FL)
   (by rw[n2];congr 1;simp only[Nat.min_def];split<;>omega)
   (fun j v af=>by
    rw[Addr.add_lit];rw[dL,List.getElem?_drop,List.getElem?_take]at af
    split at af
    ·exact OK W (by rw[h2,setRow_other _ _ _ _ (by omega),FM _ zi0];exact ah) _ v af
    ·cases af)
   (by rw[n2,Bm];omega) (fun v ax=>Bl v (by rw[dL]at ax;exact List.mem_of_mem_drop ax))
 have lH:eX.size=G*s∧eX.toList.take ((n+m)*s)=cur.toList.take (i*s)++vs++cs:=by
  have h:=ziX (cur.toList.take (i*s)) (Builtin.zeroCells z.cells (n+m-i)).toList (Builtin.zeroCells z.cells (G-(n+m))).toList cs vs (i*s) (m*s) (by rw[List.length_take];omega) (by rw[n2,Array.length_toList,VS,fe];omega) fF
  have tz:i*s+m*s+cs.length=(n+m)*s:=by rw[n2];omega
  have zi3:cur.toList.take (i*s)++(Builtin.zeroCells z.cells (n+m-i)).toList++(Builtin.zeroCells z.cells (G-(n+m))).toList=jS.toList:=by rw[FJ];simp
  rw[tz,←aE,zi3]at h;rw[aE,tz,←aE]at mq;subst mq;subst nY;simp only[List.size_toArray]at h⊢;exact⟨h.1.trans (by rw[Array.length_toList,FK]),h.2⟩
 have Nz: ∀(W:World),W.heap=((n3.setRow w.heap.size dK).setRow w.heap.size eX).heap→W.os=w.os→W.tape=w.tape→W.output=w.output→w.grownBy W none∧W.heap[w.heap.size]? =some (.cells eX (bc.t 9) (0,0)):=fun W h2 aa ae au=>by
  rw[setRow_setRow]at h2;refine⟨⟨aa,ae,au,?_,fun k aj _=>?_⟩,?_⟩
  ·rw[h2,setRow_size,show n3.heap=w.heap.push (.cells jS (bc.t 9) (0,0))by rw[Bn];rfl,Array.size_push]
   omega
  ·rw[h2,setRow_other _ _ _ _ (by omega),FM _ aj]
  ·rw[h2]
   exact setRow_heap n3 w.heap.size jS eX (bc.t 9) (0,0) FL
 subst Bn
 have ir:((w.alloc (.cells jS (bc.t 9))).drew).heap=(w.drew.alloc (.cells jS (bc.t 9))).heap:=rfl
 have hF:(((w.alloc (.cells jS (bc.t 9))).drew.setRow w.heap.size dK).drew).heap=((w.drew.alloc (.cells jS (bc.t 9))).setRow w.heap.size dK).heap:=rfl
 have zj9: ¬(G=i):=by omega
 have zka: ¬(G=i+m):=by omega
 have zkb: ¬(c=i):=by omega
 have ziS:IntKind.i64.wrap ((i:Int)+(m:Int))=(i:Int)+(m:Int):=by rw[IntKind.wrap_i64];unfold maxLen at m5;omega
 have ia:(0:Int)≤(i:Int)+(m:Int):=by omega
 have ziT:((i:Int)+(m:Int)).toNat=i+m:=by omega
 have ziU:(i:Int)≤(n:Int):=by omega
 have zi4:=m5
 unfold maxLen at zi4
 clear qJ qI hold FJ kL FK ti fF Bl nd mv hi lL iG kC fe jn aE bo cv eC oa BI Gb Ph zi1 nY mq n2 Bm FL FM OK ah
 go_enter rO,Body2.n22_ntmps bc
 go_wp2_with (first
  |(at_builtin;refine Lib.wpList_append_run _ rfl _ _ _ _ rfl _ _ rfl rfl _ _ (j2 _) ?_)
  |(at_builtin;refine wpList_copy_runI _ rfl _ _ (bc.t 24) (bc.t 24) rfl _ _ rfl rfl (zi2 _ ir _ _) ?_)
  |(at_builtin;refine wpList_copy_runI _ rfl _ _ (bc.t 24) (bc.t 24) rfl _ _ rfl rfl (VV _ hF _ _ _) ?_))
 go_region_law_o (refine step_copy_runI rfl _ _ (bc.t 24) (bc.t 24) rfl (.slice (some ⟨w.heap.size,(i+m)*s,none⟩) (n+m-(i+m)) (G-(i+m))) (.slice (some ⟨g,i*s,none⟩) (n-i) (c-i)) (by simp[Act.eval,Act.put]) (by simp[Act.eval,Act.put]) (VV _ hF (bc.t 3) (G-(i+m)) (c-i)) ?_)
 go_wp2
 go_ret
 have h:=Nz ((((w.alloc (.cells jS (bc.t 9))).drew.setRow w.heap.size dK).drew).setRow w.heap.size eX) rfl rfl rfl rfl
 exact⟨G,eX,rfl,VT,VU,h.1,h.2,lH.1,dL ▸ lH.2⟩
set_option maxHeartbeats 4000000 in
set_option maxRecDepth 100000 in
theorem VW(L:vV P bc)(i0:TypeInfo)(z:Value)(s bytes:Nat)(hi:P.info? (bc.t 9)=some i0)(lL:i0.zero=some z)(iG:i0.size=s)(kC:i0.bytes=bytes)(fe:z.cells.size=s)(rP:0<s)
 (z9: ∀w,(Go.sizeOf (bc.t 9)).run P w= .ok s w)(b:Option Addr)(n c m kl:Nat)(aQ:Addr)(xs vs:List Value)(w:World)(db:h6 w (bc.t 9) s (.slice b n c) n xs)
 (hm:0<m)(m5:n+m≤maxLen)(rN:(n+m)*bytes≤140737488355328)(fF:vs.length=m*s)
 (mv: ∀j v,vs[j]? =some v→w.cell? (aQ.add j)=some v)(nd: ∀v∈vs,v.oneCell'=true)(Ap:n≤c):
 Calls P (bc.f 22) #[.slice b n c,.int .i64 n,.slice (some aQ) m kl] w fun e w'=>
  ∃bp,e= .returned bp∧h6 w' (bc.t 9) s bp (n+m) (xs++vs)∧w.grownBy w' (b9 (.slice b n c))∧(∀k,b9 bp=some k→b9 (.slice b n c)=some k∨w.heap.size≤k):=by
 have t3:=L.t3;have a3:=L.a3;have z3:=L.z3;have v3:=L.v3;have t4:=L.t4;have a4:=L.a4;have z4:=L.z4;have v4:=L.v4;have t24:=L.t24;have a24:=L.a24;have z24:=L.z24;have v24:=L.v24
 have xZ:=run_underlying L.t3;have VO:=run_underlying L.t4;have VP:=run_underlying L.t24
 have mixed:=L.mixed
 obtain⟨_,_,rO⟩:=L.f22
 have VQ: ¬((m:Int)=0):=by omega
 have VX:b=none→n=0∧c=0:=fun h=>by
  subst h
  rcases db.2 with⟨⟨b,ad,_⟩,_⟩|⟨g,cap,cur,h,_⟩
  ·cases ad
   exact⟨rfl,rfl⟩
  ·cases h
 obtain⟨bp,w',cy,ku,c2,bm⟩:=Dj (P:=P) (w:=w) (bc.t 24) (bc.t 24) (bc.t 9) L.t24 hi lL iG kC fe rP db (b:=some aQ) (m:=m) (cap:=kl) fF (fun h=>by cases h) (fun a ba=>by cases ba;exact mv) nd m5 rN
 clear mv nd db fF hi lL iG kC fe
 unfold maxLen at m5
 cases b with
 |none=>
  obtain⟨rfl,rfl⟩:=VX rfl
  go_enter rO,Body2.n22_ntmps bc
  go_wp2_with (at_builtin;refine Lib.wpList_append_run _ rfl _ _ _ _ rfl _ _ rfl rfl _ _ cy ?_)
  go_ret
  exact⟨bp,rfl,by simpa using ku,c2,bm⟩
 |some a=>
  clear VX
  by_cases Vy:c=n
  ·subst Vy
   go_enter rO,Body2.n22_ntmps bc
   go_wp2_with (at_builtin;refine Lib.wpList_append_run _ rfl _ _ _ _ rfl _ _ rfl rfl _ _ cy ?_)
   all_goals go_ret
   all_goals exact⟨bp,rfl,ku,c2,bm⟩
  ·go_enter rO,Body2.n22_ntmps bc
   go_wp2_with (at_builtin;refine Lib.wpList_append_run _ rfl _ _ _ _ rfl _ _ rfl rfl _ _ cy ?_)
   all_goals go_ret
   all_goals exact⟨bp,rfl,ku,c2,bm⟩
theorem zi5(L:vV P bc)(i0:TypeInfo)(z:Value)(s bytes:Nat)(hi:P.info? (bc.t 9)=some i0)(lL:i0.zero=some z)(iG:i0.size=s)(kC:i0.bytes=bytes)(fe:z.cells.size=s)(rP:0<s)
 (z9: ∀w,(Go.sizeOf (bc.t 9)).run P w= .ok s w){v:Value}{n i m kl:Nat}{aQ:Addr}{xs vs:List Value}{w:World}(db:h6 w (bc.t 9) s v n xs)(kH:i≤n)
 (hm:0<m)(m5:n+m≤maxLen)(rN:(n+m)*bytes≤140737488355328)(fF:vs.length=m*s)
 (mv: ∀j v,vs[j]? =some v→w.cell? (aQ.add j)=some v)(VY: ∀v∈xs,v.oneCell'=true)(nd: ∀v∈vs,v.oneCell'=true)(cb:b9 v≠some aQ.block):
 Calls P (bc.f 22) #[v,.int .i64 i,.slice (some aQ) m kl] w fun e w'=>
  ∃bp,e= .returned bp∧h6 w' (bc.t 9) s bp (n+m) (xs.take (i*s)++vs++xs.drop (i*s))∧w.grownBy w' (b9 v)∧(∀k,b9 bp=some k→b9 v=some k∨w.heap.size≤k):=by
 have jI:=db.1
 have fin:i=n→xs.take (i*s)++vs++xs.drop (i*s)=xs++vs:=fun h=>by
  subst h;rw[List.take_of_length_le (by omega),List.drop_of_length_le (by omega),List.append_nil]
 have VZ:=db
 rcases db.2 with⟨⟨b,rfl,_⟩,rfl⟩|⟨g,cap,cur,rfl,hc,ah,hle,h9,dL,hx⟩
 ·have:i=0:=by omega
  subst this;rw[fin rfl];exact VW L i0 z s bytes hi lL iG kC fe rP z9 b 0 0 m kl aQ xs vs w VZ hm m5 rN fF mv nd (Nat.le_refl _)
 ·by_cases he:i=n
  ·rw[fin he]
   subst he;exact VW L i0 z s bytes hi lL iG kC fe rP z9 _ i cap m kl aQ xs vs w VZ hm m5 rN fF mv nd hle
  ·have bR:i<n:=by omega
   have n4:0<vs.length:=by rw[fF];exact Nat.mul_pos hm rP
   have gw:=mv 0 vs[0] (by simp[n4])
   obtain⟨th,nc,x3,zi6,hH⟩: ∃th nc,w.shape? aQ.block=some (th,nc)∧nc≠0∧aQ.block<w.heap.size:=by
    have ad:(aQ.add 0).block=aQ.block:=pP aQ 0
    unfold World.cell? at gw;rw[ad]at gw
    split at gw
    ·rename_i cs t tj bk
     refine⟨t,cs.size,by simp[World.shape?,bk],fun aP=>?_,(Array.getElem?_eq_some_iff.1 bk).1⟩
     have:cs= #[]:=Array.eq_empty_of_size_eq_zero aP
     subst this;simp at gw
    ·cases gw
   have gJ:b9 (.slice (some ⟨g,0,none⟩) n cap)=some g:=by simp[b9];omega
   rw[gJ]at cb⊢
   have zi7:aQ.block≠g:=fun h=>cb (by rw[h])
   by_cases ag:n+m≤cap
   ·refine Calls.mono (ziQ L i0 z s hi iG rP z9 g n cap i m kl aQ cur (bc.t 9) vs w bR hm ag h9 zi7 ah dL fF mv (by rw[hx];exact VY) nd th nc x3 zi6) fun e w' ⟨he,rQ,hw,aa,ae⟩=>?_
    subst hw;rw[hx]at ae
    have au:xs.take (i*s)=cur.toList.take (i*s):=by
     rw[←hx,List.take_take,Nat.min_eq_left (Nat.mul_le_mul_right _ kH)]
    have aW:(w.drew.setRow g rQ).heap[g]? =some (.cells rQ (bc.t 9) (0,0)):=setRow_heap w.drew g cur rQ (bc.t 9) (0,0) ah
    refine⟨_,he,⟨?_,.inr ⟨g,cap,rQ,rfl,hc,aW,ag,h9,by rw[aa,dL],by rw[ae,au]⟩⟩,⟨rfl,rfl,rfl,?_,fun k aj V0=>?_⟩,fun k aj=>.inl ?_⟩
    ·have:i*s≤n*s:=Nat.mul_le_mul_right _ kH
     simp only[List.length_append,List.length_take,List.length_drop,jI,fF,Nat.add_mul];omega
    ·rw[setRow_size]
     exact Nat.le_refl _
    ·exact setRow_other w.drew g k rQ fun h=>V0 (by rw[h])
    ·simpa[b9,show cap≠0 by omega]using aj
   ·refine Calls.mono (ziY L i0 z s bytes hi lL iG kC fe rP z9 g n cap i m kl aQ cur (bc.t 9) vs w bR hm hle (by omega) m5 rN ah dL fF mv (by rw[hx];exact VY) nd hH) fun e w' ⟨G,eX,he,da,dm,gy,pj,A1,xQ⟩=>?_
    rw[hx]at xQ
    have au:xs.take (i*s)=cur.toList.take (i*s):=by
     rw[←hx,List.take_take,Nat.min_eq_left (Nat.mul_le_mul_right _ kH)]
    refine⟨_,he,⟨?_,.inr ⟨w.heap.size,G,eX,rfl,by omega,pj,da,dm,A1,by rw[xQ,au]⟩⟩,⟨gy.os,gy.tape,gy.output,gy.size,fun k aj V0=>gy.block k aj (by simp)⟩,fun k aj=>.inr ?_⟩
    ·have:i*s≤n*s:=Nat.mul_le_mul_right _ kH
     simp only[List.length_append,List.length_take,List.length_drop,jI,fF,Nat.add_mul];omega
    ·simp[b9,show G≠0 by omega]at aj
     omega
end
end Go.aO
namespace Go.aO
open Go Go.Proofs Go.Shelf Go.RowKit Go.Lib
theorem zi8{w:World}{ro:Nat→Prop}{σ:Heap}{β:Nat→Value}{N:Nat}(bk:gY w ro σ β N){x:aF}{c:Value}(h:bF w ro σ β N x c){n:Nat}{es:List (List bb)}(he:fy σ n x=some es)
 (aP:0<es.length)(hn:0<n){id:Nat}(hx:x≠ .aR id){o:ei}(bh:aG σ id=some o)(ar:o.live=true){a:Addr}{l cap:Nat}(hc:c= .slice (some a) l cap):b9 (β id)≠some a.block:=by
 have cl:ro a.block→b9 (β id)≠some a.block:=fun h ad=>bk.fk _ h ⟨id,o,bh,ar,ad⟩
 have pS: ∀{m:Nat} {dR:List (List bb)} {c:Value},0<dR.length→0<m→cZ w ro (.aR m dR) c→c= .slice (some a) l cap→ro a.block:=fun {m dR c} FN da dm gy=>by
  cases dm with
  |aR _ _ b zi9 f aa ae au aW bN=>
   obtain⟨bf,ad,hf⟩:=aW FN
   cases gy
   cases ad;exact(hf 0 (Nat.mul_pos FN da)).1
 cases h with
 |aw x c fU=>
  cases x with
  |v y=>
   cases fU
   subst hc;simp[fy]at he
  |ptr=>simp[fy]at he
  |mp=>simp[fy]at he
  |er=>simp[fy]at he
  |li i k=>
   simp only[fy]at he
   split at he
   ·rename_i hm
    subst hm;simp only[Option.some.injEq]at he;subst he
    cases fU with
    |li _ _ _ fU=>exact cl (pS aP hn fU hc)
   ·cases he
  |aR m dR=>
   simp only[fy]at he
   split at he
   ·rename_i hm
    subst hm;simp only[Option.some.injEq]at he;subst he;exact cl (pS aP hn fU hc)
   ·cases he
 |aR gv c bR ak=>
  simp only[fy]at he
  split at he
  ·rename_i z t m dR ah
   split at he
   ·rename_i hm
    subst hm;simp only[Option.some.injEq]at he;subst he
    have iT:=ak z t _ _ ah
    have dr:=bk.dh gv _ ah
    cases dr with
    |row _ _ _ xs aa ae au=>
     intro ad
     have ga:b9 (β gv)=some a.block:=by
      rcases aa.2 with⟨_,aS⟩|⟨g,zi9,cur,ax,si,_⟩
      ·omega
      ·rw[←iT,hc]at ax
       rw[←iT,hc];cases ax;simp[b9];omega
     exact hx (by rw[bk.inj id gv o _ _ bh ah ar rfl ad ga])
    |gi _ _ _ aa=>exact cl (pS aP hn aa (by rw[←iT,hc]))
   ·cases he
  ·cases he
 |_=>simp[fy]at he
theorem V1{α:Type}{n:Nat}: ∀(es:List (List α)),(∀e∈es,e.length=n)→es.flatten.length=es.length*n
 |[],_=>by simp
 |e::r,h=>by
  rw[List.flatten_cons,List.length_append,h e (List.mem_cons_self ..),V1 r fun x hx=>h x (List.mem_cons_of_mem _ hx),List.length_cons,Nat.add_mul,Nat.one_mul];omega
def tQ(P:Program)(G:bd)(r:ll):Prop:=
 ∀{σ:Heap} {n id:Nat} {i:Int} {y:aF} {l k:List (fQ r.c)},aG σ id=some (.row false r.t (b5 r.c) (l.map (cj r.c)))→fy σ (b5 r.c) y=some (k.map (cj r.c))→y≠ .aR id→0<k.length→0≤i∧i≤(l.length:Int)→
  l.length+k.length≤maxLen∧(l.length+k.length)*r.bytes≤140737488355328→
  dJ P G r.f [.aR id,.aw (.v (.int .i64 i)),y] σ n fun v b1=>v= .aR n∧b1=(n,.row false r.t (b5 r.c) ((l.take i.toNat++k++l.drop i.toNat).map (cj r.c)))::dz id σ
section
variable {P:Program} {bc:Ren}
theorem Z1{G:bd}{c:bJ}(L:vV P bc)(i0:TypeInfo)(z:Value)(bytes:Nat)(hi:P.info? (bc.t 9)=some i0)(lL:i0.zero=some z)(iG:i0.size=b5 c)(kC:i0.bytes=bytes)(fe:z.cells.size=b5 c)(bY:0<b5 c)
 (z9: ∀w,(Go.sizeOf (bc.t 9)).run P w= .ok (b5 c) w):tQ P G ⟨bc.f 22,bc.t 9,c,bytes⟩:=by
 intro σ n id i y l k bh ay cb aj zja Bh w β ro ed aa ae au aW bN
 have OD:=ae 0 _ rfl
 have V2:=ae 1 _ rfl
 have FX:=ae 2 _ rfl
 have rL:ed= #[ed.getD 0 undef,ed.getD 1 undef,ed.getD 2 undef]:=by
  have ai:ed.size=3:=aa
  apply Array.ext
  ·simpa using ai
  ·intro j zkc zkd
   have:j=0∨j=1∨j=2:=by omega
   rcases this with rfl|rfl|rfl<;>simp[Array.getD,ai]
 obtain⟨b,cap,iT,ma,oL,f,hZ,oM⟩:=wy au FX ay
 obtain⟨nF,oN,q5⟩:=zD ma oM
 have eA:0<(k.map (cj c)).length:=by rw[List.length_map];exact aj
 cases b with
 |none=>exact absurd (oL rfl) (List.ne_nil_of_length_pos eA)
 |some a=>
 have hH:=zi8 au FX ay eA bY cb bh rfl iT
 have n4:ed.getD 0 undef=β id:=by
  cases OD with
  |aR _ _ _ ak=>exact ak _ _ _ _ bh
 have zjb:ed.getD 1 undef= .int .i64 i.toNat:=by
  generalize ed.getD 1 undef=q at V2
  cases V2 with
  |aw _ _ hx=>
   cases hx;rw[Int.toNat_of_nonneg zja.1]
 have dr:=au.dh id _ bh
 cases dr with
 |row _ _ _ xs db hle e1=>
 have ir:df ⟨w,ro,σ,β,n,[]⟩ G ⟨[],σ,n,n⟩ ⟨#[],[]⟩ w β ro:=⟨rfl,rfl,by simp,au,aW,⟨rfl,rfl,rfl,Nat.le_refl _,fun _ _ _=>rfl,fun _ h=>.inl h,fun _ h=>h,fun _ h=>.inl h,fun id _ o ah=>⟨by simp[ah],rfl⟩,bN,Nat.le_refl _⟩,Nat.le_refl _⟩
 rw[rL,iT,n4,zjb]
 rw[List.length_map]at nF hZ⊢
 have OL:(l.map (cj c)).length=l.length:=List.length_map ..
 rw[OL]at db
 refine Calls.mono (zi5 L i0 z (b5 c) bytes hi lL iG kC fe bY z9 db (i:=i.toNat) (by omega) aj Bh.1 Bh.2 (vs:=(List.range (k.length*b5 c)).map f) (by simp) (fun j u af=>?_) (fun v ax=>?_) (by
  rw[List.length_map]at oN
  exact oN) hH) fun e w' ⟨bp,he,ku,c2,bm⟩=>?_
 ·have cU:=(List.getElem?_eq_some_iff.1 af).1
  simp only[List.length_map,List.length_range]at cU
  have aa:=hZ a rfl j cU
  simp[cU]at af;rw[aa,af]
 ·obtain⟨j,af⟩:=List.getElem?_of_mem ax
  have cU:=(List.getElem?_eq_some_iff.1 af).1
  have l2:=V1 _ hle
  rw[OL]at l2
  have hx:=e1 j _ (List.getElem?_eq_getElem (by rw[l2,←db.1];exact cU))
  have ay:=hx.one
  rw[List.getD_eq_getElem?_getD,af]at ay
  exact ay
 ·have jm: ∀k,k<w.heap.size→b9 (β id)≠some k→w'.heap[k]? =w.heap[k]? :=fun k aj cb=>c2.block k aj (fun e=>cb e.symm)
  have cl: ∀k,ro k→w'.heap[k]? =w.heap[k]? :=fun k aj=>jm k (au.lt k aj) fun bm=>au.fk k aj ⟨id,_,bh,rfl,bm⟩
  have hm:(l.take i.toNat++k++l.drop i.toNat).map (cj c)=(l.map (cj c)).take i.toNat++k.map (cj c)++(l.map (cj c)).drop i.toNat:=by
   rw[List.map_append,List.map_append,List.map_take,List.map_drop]
  have kH:i.toNat≤l.length:=by omega
  have Ak:i.toNat*b5 c≤l.length*b5 c:=Nat.mul_le_mul_right _ kH
  have aY: ∀j x,((l.map (cj c)).take i.toNat).flatten[j]? =some x→cZ w ro x ((xs.take (i.toNat*b5 c)).getD j undef):=fun j x af=>by
   rw[SA hle _,List.getElem?_take]at af
   split at af
   ·rename_i bR
    have:=e1 j x af
    rw[List.getD_eq_getElem?_getD]at this⊢
    rw[List.getElem?_take,if_pos bR]
    exact this
   ·cases af
  have cK: ∀j x,((l.map (cj c)).drop i.toNat).flatten[j]? =some x→cZ w ro x ((xs.drop (i.toNat*b5 c)).getD j undef):=fun j x af=>by
   rw[SB hle _,List.getElem?_drop]at af
   have:=e1 _ x af
   rw[List.getD_eq_getElem?_getD]at this⊢
   rw[List.getElem?_drop]
   exact this
  have V3: ∀e∈(l.map (cj c)).take i.toNat,e.length=b5 c:=fun e he=>hle e (List.mem_of_mem_take he)
  have V4:(xs.take (i.toNat*b5 c)).length=((l.map (cj c)).take i.toNat).length*b5 c:=by
   rw[List.length_take,List.length_take,OL,db.1,Nat.min_eq_left Ak,Nat.min_eq_left kH]
  have V5: ∀e∈(l.map (cj c)).take i.toNat++k.map (cj c),e.length=b5 c:=fun e he=>by
   rcases List.mem_append.1 he with h|h
   ·exact V3 _ h
   ·exact ma _ h
  have sh:=wz V3 V4 aY q5
  have zjc:(xs.take (i.toNat*b5 c)++(List.range (k.length*b5 c)).map f).length=((l.map (cj c)).take i.toNat++k.map (cj c)).length*b5 c:=by
   rw[List.length_append,List.length_append,V4,Nat.add_mul,List.length_map,List.length_range,List.length_map]
  have hOr:kO w' ro ((n,.row false (bc.t 9) (b5 c) ((l.take i.toNat++k++l.drop i.toNat).map (cj c)))::dz id σ) (gQ β n bp) (n+1) n (.row false (bc.t 9) (b5 c) ((l.take i.toNat++k++l.drop i.toNat).map (cj c))):=by
   refine .row (bc.t 9) (b5 c) _ _ (by
    rw[dT,List.length_map,List.length_append,List.length_append,List.length_take,List.length_drop,Nat.min_eq_left kH,show i.toNat+k.length+(l.length-i.toNat)=l.length+k.length by omega]
    exact ku) (fun aB iM=>?_) (fun j x af=>?_)
   ·rw[hm]at iM
    rcases List.mem_append.1 iM with h|h
    ·exact V5 _ h
    ·exact hle _ (List.mem_of_mem_drop h)
   ·rw[hm]at af
    have zjd:=wz V5 zjc (fun j x h=>by first|exact sh j x h|(rw[List.length_map]at sh;exact sh j x h)) cK
    exact(zjd j x af).keep cl fun _ h=>h
  have fh:=ir.L9 (w':=w') id (Nat.le_refl _) bh _ bp c2.os c2.tape c2.output c2.size jm bm rfl hOr
  exact⟨bp,.aR n,_,gQ β n bp,ro,n+1,he,⟨rfl,rfl⟩,.aR _ _ (Nat.lt_succ_self _) fun z bI cT dR _=>(dT _ _ _).symm,fh.heap,fh.trans⟩
end
end Go.aO
namespace Go.aO
open Go
def OM(id:Nat):ab→Bool
 | .aR j=>!Nat.beq j id
 |_=>true
def zje(r:ll)(S:aq)(id:Nat)(i di z:ab):aD:=
 .eH (.eB r.c di none (some i)) (.eH (.up r.c z (.cs (.int .i64 0))) (.eH (.f2 r.bytes (.ap r.c) di z)
  (.lt S.k (.eB r.c di none (some i)) (.lt (S.k+1) (.f2 (.ap r.c) (.aQ (.li r.c) S.k) z) (.lt (S.k+2) (.eB r.c di (some i) none) (.lt (S.k+3) (.f2 (.ap r.c) (.aQ (.li r.c) (S.k+1)) (.aQ (.li r.c) (S.k+2)))
   (.cR .cp ⟨bg.put .emp 0 (.aR S.n),(S.n,.rw r.t r.c (.aQ (.li r.c) (S.k+3)))::ho id S.h,S.n+1,S.k+4,S.g⟩)))))))
def ON(R:List ll)(inl:Nat→List ab→aq→aD)(f:Nat)(ys:List ab)(S:aq):aD:=
 match Bi f R,ys with
 |some r,[.aR id,i,y]=>match dj S.h id,uW S y with
  |some (.rw bI lz di),some z=>match(Nat.beq bI r.t&&decide (lz=r.c))&&((di.ew (.li r.c)&&(z.ew (.li r.c)&&z.lt S.k))&&((decide (i.rt=some (.int .i64))&&i.lt S.k)&&(OM id y&&(match uX S y with
   |some d=>decide (d=r.c)
   |none=>true))))with
   |true=>zje r S id i di z
   |false=>inl f ys S
  |_,_=>inl f ys S
 |_,_=>inl f ys S
section
variable {P:Program} {G:bd} {M:List aV} {inl:Nat→List ab→aq→aD}
theorem zjf{S:aq}{e:Env}{y z:ab}{id:Nat}(h:uW S y=some z)(hn:OM id y=true):y.den G e≠ .aR id:=by
 unfold uW at h
 split at h
 ·intro h'
  cases h'
 ·rename_i j
  intro h';simp only[ab.den,aF.aR.injEq]at h';subst h';simp[OM]at hn
 ·split at h
  ·rename_i d hd
   rw[(Eb (G:=G) (e:=e) hd).1];intro h'
   cases h'
  ·cases h
theorem zjg{R:List ll}(fS: ∀r∈R,tQ P G r)(b2:fE P G M inl):fE P G M (ON R inl):=fun f ys S e ad ar hf ai=>by
 unfold ON at ai⊢
 split at ai
 rotate_left
 ·exact b2 _ _ S e ad ar hf ai
 rename_i r id i y OF
 obtain⟨hm,rfl⟩:=VL OF
 split at ai
 rotate_left
 ·exact b2 _ _ S e ad ar hf ai
 rename_i bI lz di z ah aS
 split at ai
 rotate_left
 ·exact b2 _ _ S e ad ar hf ai
 rename_i aj
 simp only[Bool.and_eq_true,decide_eq_true_eq]at aj
 obtain⟨⟨eP,fx⟩,⟨iv,lY,zc⟩,⟨ua,wc⟩,N6,V6⟩:=aj
 have eP:=Nat.eq_of_beq_eq_true eP
 subst eP
 subst fx
 have wm:di.lt S.k=true:=u5 ad.h ah
 have nQ:fy (cH G e S.h) (b5 r.c) (y.den G e)=some (List.map (cj r.c) (z.aC e (.li r.c))):=
  El (G:=G) (N:=0) (B:=0) (e:=e) aS lY (fun d hd=>by rw[hd]at V6;exact of_decide_eq_true V6)
 have bh:aG (cH G e S.h) id=some (.row false r.t (b5 r.c) (List.map (cj r.c) (di.aC e (.li r.c)))):=by
  simp only[eh,ah,Option.map_some,bK.den]
 obtain⟨gO,gg,MW,_⟩:fi.ok M e (.eB r.c di none (some i))∧fi.ok M e (.up r.c z (.cs (.int .i64 0)))∧fi.ok M e (.f2 r.bytes (.ap r.c) di z)∧True:=⟨ai.1,ai.2.1,ai.2.2.1,trivial⟩
 have OO:cr (i.dyn e)=i.aC e (.int .i64):=lD ua
 have SD:0≤i.aC e (.int .i64)∧i.aC e (.int .i64)≤((di.aC e (.li r.c)).length:Int):=by
  rw[←OO];exact gO
 have Ee:0<(z.aC e (.li r.c)).length:=by
  have h:(0:Int)<(List.length (z.aC e (.li r.c)):Int):=gg.2
  omega
 have zjh:i.den G e= .aw (.v (.int .i64 (i.aC e (.int .i64)))):=jw ua
 have hX:ab.bX G e [.aR id,i,y]=[.aR id,.aw (.v (.int .i64 (i.aC e (.int .i64)))),y.den G e]:=by
  rw[←zjh];rfl
 rw[hX]
 refine(fS r hm (n:=S.n) bh nQ (zjf aS N6) Ee SD MW).res fun v b1 ⟨aa,ae⟩=>?_
 let aE:=bg.put e S.k ((bQ.eB r.c di none (some i)).den M e)
 let bo:=bg.put aE (S.k+1) ((bQ.f2 (.ap r.c) (.aQ (.li r.c) S.k) z).den M aE)
 let cv:=bg.put bo (S.k+2) ((bQ.eB r.c di (some i) none).den M bo)
 let eC:=bg.put cv (S.k+3) ((bQ.f2 (.ap r.c) (.aQ (.li r.c) (S.k+1)) (.aQ (.li r.c) (S.k+2))).den M cv)
 have cf:b3 S.k e aE:=b3.put (Nat.le_refl _)
 have a2:b3 S.k e bo:=cf.trans (b3.put (k:=S.k) (by omega)) (Nat.le_refl _)
 have a3:b3 S.k e cv:=a2.trans (b3.put (k:=S.k) (by omega)) (Nat.le_refl _)
 have a4:b3 S.k e eC:=a3.trans (b3.put (k:=S.k) (by omega)) (Nat.le_refl _)
 have da:(ab.aQ (.li r.c) S.k).aC aE (.li r.c)=(di.aC e (.li r.c)).take (i.aC e (.int .i64)).toNat:=xk (by
  rw[Env.ib,if_pos rfl]
  simp only[bQ.den,mh,iL,OO])
 have dm:(ab.aQ (.li r.c) (S.k+1)).aC bo (.li r.c)=(di.aC e (.li r.c)).take (i.aC e (.int .i64)).toNat++z.aC e (.li r.c):=xk (by
  rw[Env.ib,if_pos rfl];show(⟨.li r.c,List.append ((ab.aQ (.li r.c) S.k).aC aE (.li r.c)) (z.aC aE (.li r.c))⟩:aI)=_;rw[da,eG cf zc]
  rfl)
 have gy:(ab.aQ (.li r.c) (S.k+2)).aC cv (.li r.c)=(di.aC e (.li r.c)).drop (i.aC e (.int .i64)).toNat:=xk (by
  rw[Env.ib,if_pos rfl];simp only[bQ.den,mh,iL]
  rw[eG a2 wm,ra a2 wc,OO])
 have zji:(ab.aQ (.li r.c) (S.k+1)).aC cv (.li r.c)=(di.aC e (.li r.c)).take (i.aC e (.int .i64)).toNat++z.aC e (.li r.c):=by
  rw[←dm];exact eG (k:=S.k+2) (b3.put (Nat.le_refl _)) (jP (by omega))
 have pj:(ab.aQ (.li r.c) (S.k+3)).aC eC (.li r.c)=(di.aC e (.li r.c)).take (i.aC e (.int .i64)).toNat++z.aC e (.li r.c)++(di.aC e (.li r.c)).drop (i.aC e (.int .i64)).toNat:=xk (by
  rw[Env.ib,if_pos rfl];show(⟨.li r.c,List.append ((ab.aQ (.li r.c) (S.k+1)).aC cv (.li r.c)) ((ab.aQ (.li r.c) (S.k+2)).aC cv (.li r.c))⟩:aI)=_;rw[zji,gy]
  rfl)
 refine⟨⟨bg.put .emp 0 (.aR S.n),(S.n,.rw r.t r.c (.aQ (.li r.c) (S.k+3)))::ho id S.h,S.n+1,S.k+4,S.g⟩,eC,rfl,?_,?_,⟨fun j x af=>?_,?_,?_⟩,?_,a4,Nat.le_add_right _ _⟩
 ·rw[aa]
  show _=ab.den G _ (aq.at _ 0);unfold aq.at
  simp only[bg.hV,if_true,ab.den]
 ·rw[ae]
  simp only[cH,bK.den,o7,pj,w0 a4 ad.h]
 ·simp only[bg.hV]at af
  split at af
  ·cases af
   rfl
  ·simp[bg.get]at af
 ·show(Nat.blt (S.k+3) (S.k+4)&&eI (S.k+4) (ho id S.h))=true
  rw[jP (by omega),nV id (sJ (by omega) ad.h)]
  rfl
 ·exact nP (k:=S.k) (m:=S.k+4) (by omega) ad.g
 ·exact ic a4 ad.g hf
end
def y7(P:Program)(H:h5)(T:List (Nat × bJ))(Z:Nat × Nat × Nat)(R I:List ll)(B:List jY)(C:List iy):Nat→Nat→List ab→aq→aD
 |0=>fun _ _ _=>.bad 40
 |n+1=>Ng P H T (ON I (OE R (OA Z.1 Z.2.1 Z.2.2 (N5 B (NR C (y7 P H T Z R I B C n))))))
section
variable {P:Program} {G:bd} {M:List aV}
theorem CL{Z:Nat × Nat × Nat}{R I:List ll}{B:List jY}{C:List iy}{H:h5}{T:List (Nat × bJ)}(kM:EX P G M H)(fS: ∀r∈R,nr P G r)(b2: ∀r∈I,tQ P G r)(sg:tX P G Z.1 Z.2.1 Z.2.2)(hC:J9 P G M B)(qy:qL P G M C): ∀n,fE P G M (y7 P H T Z R I B C n)
 |0=>fun _ _ _ _ _ _ _ h=>h.elim
 |n+1=>zgD kM (zjg b2 (ziE fS (zis sg (zhP hC (zhz qy (CL kM fS b2 sg hC qy n))))))
end
end Go.aO
namespace Go.aO
open Go
inductive qN where
 |dW (rs:List (Nat × TypeId × bJ)) (I:m8)
 |CZ (rs:List (Nat × TypeId × bJ)) (x:bQ) (I:m8)
 |ep (rs:List (Nat × TypeId × bJ)) (J ch:gp)
def vi(N B:Nat)(f:aq→aD)(cur:Nat)(S:aq):qN→aD
 | .dW rs I=>s0 N B f cur (jR N B rs S) I
 | .CZ rs x I=>match gS (jR N B rs S).k [x]with
  |true=>emit (jR N B rs S).k [x] [] (s0 N B f cur ((jR N B rs S).eT (jR N B rs S).k [x]) I)
  |false=>.bad 62
 | .ep rs J ch=>AU B f cur (jR N B rs S) J ch
def V7:List (Nat × Nat × qN)→Nat→Nat→Option qN
 |[],_,_=>none
 |(n,c,h)::r,N,cur=>match Nat.beq n N&&Nat.beq c cur with
  |true=>some h
  |false=>V7 r N cur
def OP(ai:List (Nat × Nat × qN))(N B:Nat)(f:aq→aD)(cur:Nat)(S:aq):aD:=
 match V7 ai N cur with
 |some h=>vi N B f cur S h
 |none=>Ff N B f cur S
section
variable {P:Program} {G:bd} {N B:Nat} {M:List aV}
theorem zjj{c:Code}{f:aq→aD}{cur:Nat}{S:aq}{e:Env}(h:qN)(hf:iO P G N B M c f)(ad:S.cz)(en:S.cA e)(ai:(vi N B f cur S h).safe M e):b6 P G (.loop c) (h1 G N B M (vi N B f cur S h) e S.k) (S.den G N B e):=by
 cases h with
 |dW rs I=>
  obtain⟨aa,ae,au,aW⟩:=xL (P:=P) (G:=G) (N:=N) (B:=B) (c:=.loop c) (Q:=h1 G N B M (vi N B f cur S (.dW rs I)) e S.k) (e:=e) rs ad en;refine aW ?_
  have:=AS hf aa ae ai
  rw[au]at this;exact this
 |ep rs J ch=>
  obtain⟨aa,ae,au,aW⟩:=xL (P:=P) (G:=G) (N:=N) (B:=B) (c:=.loop c) (Q:=h1 G N B M (vi N B f cur S (.ep rs J ch)) e S.k) (e:=e) rs ad en;refine aW ?_
  have:=UM hf aa ae ai
  rw[au]at this;exact this
 |CZ rs x I=>
  obtain⟨aa,ae,au,aW⟩:=xL (P:=P) (G:=G) (N:=N) (B:=B) (c:=.loop c) (Q:=h1 G N B M (vi N B f cur S (.CZ rs x I)) e S.k) (e:=e) rs ad en;refine aW ?_
  simp only[vi]at ai⊢
  split at ai
  ·rename_i hx
   obtain⟨_,gg⟩:=lF ai;obtain⟨cf,a2,a3⟩:=qj (M:=M) (G:=G) (N:=N) (B:=B) aa ae hx
   have:=AS hf cf a2 gg
   rw[a3]at this;rw[←au];exact b6.mono this fun ex st ak=>ak.sub (by rw[k4]) (jy (Nat.le_refl _)) (Nat.le_add_right _ _)
  ·exact ai.elim
theorem zjk{ai:List (Nat × Nat × qN)}:EW P G N B M (OP ai N B):=by
 intro c f cur hf S e ad en h
 unfold OP at h⊢
 split at h
 ·exact zjj _ hf ad en h
 ·exact UO c f cur hf S e ad en h
def h5.QQ(ai:List (Nat × Nat × qN))(P:Program)(T:List (Nat × bJ)):h5:=⟨fun N B _=>OP ai N B,fun N B inl=>Fo P N B T inl⟩
theorem zaG{T:List (Nat × bJ)}{ai:List (Nat × Nat × qN)}:EX P G M (h5.QQ ai P T):=fun _ b2 _ _=>⟨zjk,Va b2⟩
end
end Go.aO
