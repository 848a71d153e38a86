/- TE, part L: calls whose result is a new own row (slices.Clone). Conditions: none. -/
import Derived.Test.YtmkpmgfieagphaaGreatDoorQTEk
import Derived.Shelf.Spec.SlicesInsertGrow
import Derived.Shelf.SlGeneric
import Derived.Laws.CopyRow
namespace Go.aK
open Go
structure la where
 f:Nat
 t:TypeId
 c:bF
 bytes:Nat
def AD(f:Nat):List la→Option la
 |[]=>none
 |r::l=>match Nat.beq r.f f with
  |true=>some r
  |false=>AD f l
def na(P:Program)(G:a8)(r:la):Prop:=
 ∀{σ:Heap} {n:Nat} {y:aC} {l:List (fO r.c)},ft σ (bZ r.c) y=some (l.map (b9 r.c))→l.length≤maxLen∧l.length*r.bytes≤140737488355328→
  dE P G r.f [y] σ n fun v bU=>v= .aM n∧bU=(n,.row false r.t (bZ r.c) (l.map (b9 r.c)))::σ
def M3(R:List la)(inl:Nat→List ab→aq→aB)(f:Nat)(aG:List ab)(S:aq):aB:=
 match AD f R,aG with
 |some r,[a]=>match uB S a with
  |some z=>match(z.er (.li r.c)&&z.lt S.k)&&(match uC S a with
   |some d=>decide (d=r.c)
   |none=>true)with
   |true=>.eD (.f2 r.bytes (.ap r.c) (.cs (.slice none 0 0)) z) (.cG .cj ⟨ba.put .emp 0 (.aM S.n),(S.n,.rw r.t r.c z)::S.h,S.n+1,S.k,S.g⟩)
   |false=>inl f aG S
  |none=>inl f aG S
 |_,_=>inl f aG S
section
variable {P:Program} {G:a8} {M:List aR} {inl:Nat→List ab→aq→aB}
theorem Ui{f:Nat}{R:List la}{r:la}(h:AD f R=some r):r∈R∧r.f=f:=by
 induction R with
 |nil=>cases h
 |cons q l aZ=>
  simp only[AD]at h
  split at h
  ·rename_i ad
   cases h;exact⟨List.mem_cons_self ..,Nat.eq_of_beq_eq_true ad⟩
  ·exact⟨List.mem_cons_of_mem _ (aZ h).1,(aZ h).2⟩
theorem zhd{R:List la}(fQ: ∀r∈R,na P G r)(bW:fP P G M inl):fP P G M (M3 R inl):=fun f aG S e ad ar hf ai=>by
 unfold M3 at ai⊢
 split at ai
 rotate_left
 ·exact bW _ _ S e ad ar hf ai
 rename_i r a M4
 obtain⟨hm,rfl⟩:=Ui M4
 split at ai
 rotate_left
 ·exact bW _ _ S e ad ar hf ai
 rename_i z aV
 split at ai
 rotate_left
 ·exact bW _ _ S e ad ar hf ai
 rename_i aj
 simp only[Bool.and_eq_true]at aj
 obtain⟨⟨fu,gE⟩,kM⟩:=aj
 have nE:ft (cw G e S.h) (bZ r.c) (a.den G e)=some (List.map (b9 r.c) (z.az e (.li r.c))):=
  Dn (G:=G) (N:=0) (B:=0) (e:=e) aV fu (fun d hd=>by rw[hd]at kM;exact of_decide_eq_true kM)
 obtain⟨gL,_⟩:fc.ok M e (.f2 r.bytes (.ap r.c) (.cs (.slice none 0 0)) z)∧True:=⟨ai.1,trivial⟩
 have kC:(ab.cs (.slice none 0 0)).az e (.li r.c)=([]:List (fO r.c)):=by simp only[ab.az,ab.fo,cz]
 simp only[fc.ok,cA.ue,cA.a,cA.b,kC,List.length_nil,Nat.zero_add]at gL
 refine(fQ r hm (n:=S.n) nE gL).res fun v bU ⟨aa,ae⟩=>⟨⟨ba.put .emp 0 (.aM S.n),(S.n,.rw r.t r.c z)::S.h,S.n+1,S.k,S.g⟩,e,rfl,?_,?_,⟨fun i y hi=>?_,?_,ad.g⟩,hf,bX.refl _ _,Nat.le_refl _⟩
 ·rw[aa]
  show _=ab.den G _ (aq.at _ 0);unfold aq.at
  simp only[ba.hR,if_true,ab.den]
 ·rw[ae]
  rfl
 ·simp only[ba.hR]at hi
  split at hi
  ·cases hi
   rfl
  ·simp[ba.get]at hi
 ·show(z.lt S.k&&eE S.k S.h)=true
  rw[gE,ad.h];rfl
end
end Go.aK
namespace Go.aK
open Go Go.Proofs Go.Shelf Go.RowKit Go.Lib
section
variable {P:Program}
theorem ED(w:World)(aE zhe ty elem:TypeId)(s g o M5 zhf:Nat)(a:Addr)(M6 zhg:Nat)(cur:Array Value)(t:TypeId)(cs:List Value)
 (hu:P.underlying aE=some (.slice elem))(ai:(P.info? elem).map (·.size)=some s)
 (ah:w.heap[g]? =some (.cells cur t (0,0)))(hn:cs.length=Nat.min M6 M5*s)
 (nE: ∀j v,cs[j]? =some v→w.cell? (a.add j)=some v)(pM:o+cs.length≤cur.size)(aa: ∀v∈cs,v.oneCell'=true):
 (Builtin.copy_ #[aE,zhe] ty #[.slice (some ⟨g,o,none⟩) M5 zhf,.slice (some a) M6 zhg]).run P w=
  .ok (goInt (Nat.min M6 M5)) (w.setRow g (cur.toList.take o++cs++cur.toList.drop (o+cs.length)).toArray):=by
 have ar:=run_loadCells_list (P:=P) w a cs nE
 have dB:=run_storeCells_at P g o t cs 0 cur w ah (by simpa using pM) aa
 rw[hn]at ar
 simp only[Nat.add_zero]at dB
 cases aJ:P.info? elem with
 |none=>simp[aJ]at ai
 |some i=>
  have hi:i.size=s:=by simpa[aJ]using ai
  simp[Builtin.copy_,run_underlying hu,Builtin.lenOf,Builtin.firstCells,sizeOf,typeInfo,aJ,hi,ar,dB]
theorem zhh(w:World)(M7 zhi e:TypeId)(aH:P.underlying M7=some (.slice e))(size:Nat)(aV: ∀w,(Go.sizeOf e).run P w= .ok size w)
 (a b:Addr)(Uj ca xF AE:Nat)(b7:a.block≠b.block)(sW qn:TypeId)(m1 AF:Nat)
 (xG:w.shape? a.block=some (sW,m1))(EE:m1≠0)(zI:w.shape? b.block=some (qn,AF))(zhj:AF≠0)
 (zhk:w.frozen? b=false)(zhl:w.frozen? {block:=b.block,off:=AF}=false):
 (Extern.SlicesOverlaps.overlaps #[M7,M7] #[zhi] #[.slice (some a) Uj ca,.slice (some b) xF AE]).run P w= .ok (.bool false) w:=by
 have zhm:(a.block != b.block)=true:=by simpa using b7
 have zhn:(a.block==b.block)=false:=by simpa using b7
 refine(?_:Sem.run P (Bind.bind _ _) w=_)
 by_cases aP:Uj=0∨xF=0∨size=0
 ·simp[run_underlying aH,aV,aP]
 ·cases AF with
  |zero=>exact absurd rfl zhj
  |succ AF=>
   cases m1 with
   |zero=>exact absurd rfl EE
   |succ m1=>
    simp[run_underlying aH,aV,aP,zhm,zhn,frozen,noView,viewAt,mayBeOne,stringish,shape,Sem.run,xG,zI,zhk,zhl]
theorem zho{α:Type}(cur cs vs:List α)(k M:Nat)(aa:k+M+cs.length≤cur.length)(ae:vs.length=M):
 (((cur.take (k+M)++cs++cur.drop (k+M+cs.length)).take k++vs++(cur.take (k+M)++cs++cur.drop (k+M+cs.length)).drop (k+vs.length)).length=cur.length)∧
 ((cur.take (k+M)++cs++cur.drop (k+M+cs.length)).take k++vs++(cur.take (k+M)++cs++cur.drop (k+M+cs.length)).drop (k+vs.length)).take (k+M+cs.length)=cur.take k++vs++cs:=by
 have hd:(cur.take (k+M)++cs++cur.drop (k+M+cs.length)).drop (k+vs.length)=cs++cur.drop (k+M+cs.length):=by
  rw[List.append_assoc];exact List.drop_left' (by rw[List.length_take];omega)
 have aH:(cur.take (k+M)++cs++cur.drop (k+M+cs.length)).take k=cur.take k:=by
  rw[List.append_assoc,List.take_append_of_le_length (by rw[List.length_take];omega),List.take_take]
  congr 1
  omega
 rw[hd,aH]
 refine⟨by simp only[List.length_append,List.length_take,List.length_drop];omega,?_⟩
 rw[←List.append_assoc]
 exact List.take_left' (by simp only[List.length_append,List.length_take];omega)
structure vB (P:Program) (a7:Ren):Prop where
 mixed:P.follows .mixedOrders=true
 f22:Bears P (a7.f 22) (Body2.n22 a7)
 f29: ∀args w,(callFunc (a7.f 29) args).run P w=((Extern.SlicesOverlaps.overlaps #[(a7.t 24),(a7.t 24)] #[(a7.t 4)] args).run P w).andThen fun v w'=>.ok (.value v) w'
 t3:P.underlying (a7.t 3)=some (TypeDesc.int IntKind.i64)
 a3: ∀w,(isAgg (a7.t 3)).run P w= .ok false w
 z3: ∀w,(Go.sizeOf (a7.t 3)).run P w= .ok 1 w
 v3: ∀w,(zeroValue (a7.t 3)).run P w= .ok (Value.int IntKind.i64 0) w
 t4:P.underlying (a7.t 4)=some (TypeDesc.bool)
 a4: ∀w,(isAgg (a7.t 4)).run P w= .ok false w
 z4: ∀w,(Go.sizeOf (a7.t 4)).run P w= .ok 1 w
 v4: ∀w,(zeroValue (a7.t 4)).run P w= .ok (Value.bool false) w
 t24:P.underlying (a7.t 24)=some (TypeDesc.slice (a7.t 9))
 a24: ∀w,(isAgg (a7.t 24)).run P w= .ok false w
 z24: ∀w,(Go.sizeOf (a7.t 24)).run P w= .ok 1 w
 v24: ∀w,(zeroValue (a7.t 24)).run P w= .ok (Value.slice none 0 0) w
variable {a7:Ren}
set_option maxHeartbeats 4000000 in
set_option maxRecDepth 100000 in
theorem zhp(L:vB P a7)(i0:TypeInfo)(z:Value)(s:Nat)(hi:P.info? (a7.t 9)=some i0)(iu:i0.size=s)(rH:0<s)
 (z9: ∀w,(Go.sizeOf (a7.t 9)).run P w= .ok s w)(g n c i m ke:Nat)(aT:Addr)(cur:Array Value)(t:TypeId)(vs:List Value)(w:World)
 (kG:i<n)(hm:0<m)(wV:n+m≤c)(Ji:c≤maxLen)(Uk:aT.block≠g)
 (ah:w.heap[g]? =some (.cells cur t (0,0)))(sX:cur.size=c*s)(fB:vs.length=m*s)
 (mj: ∀j v,vs[j]? =some v→w.cell? (aT.add j)=some v)(AG: ∀v∈cur.toList.take (n*s),v.oneCell'=true)(m2: ∀v∈vs,v.oneCell'=true)
 (sW:TypeId)(m1:Nat)(xG:w.shape? aT.block=some (sW,m1))(EE:m1≠0):
 Calls P (a7.f 22) #[.slice (some ⟨g,0,none⟩) n c,.int .i64 i,.slice (some aT) m ke] w fun e w'=>
  e= .returned (.slice (some ⟨g,0,none⟩) (n+m) c)∧∃rI:Array Value,w'=w.drew.setRow g rI∧rI.size=cur.size∧rI.toList.take ((n+m)*s)=cur.toList.take (i*s)++vs++(cur.toList.take (n*s)).drop (i*s):=by
 have t3:=L.t3;have a3:=L.a3;have z3:=L.z3;have v3:=L.v3;have t4:=L.t4;have a4:=L.a4;have z4:=L.z4;have v4:=L.v4;have t24:=L.t24;have a24:=L.a24;have z24:=L.z24;have v24:=L.v24
 have xD:=run_underlying L.t3;have Ul:=run_underlying L.t4;have Um:=run_underlying L.t24
 have Un: ¬((m:Int)=0):=by omega
 have ku: ¬((i:Int)=(n:Int)):=by omega
 have mixed:=L.mixed
 have Uo:=L.f29
 obtain⟨_,_,rG⟩:=L.f22
 have zhq: ∀off xF AE,(callFunc (a7.f 29) #[.slice (some aT) m ke,.slice (some ⟨g,off,none⟩) xF AE]).run P w= .ok (.value (.bool false)) w:=fun off xF AE=>by
  rw[Uo]
  have h:=zhh w (a7.t 24) (a7.t 4) (a7.t 9) L.t24 s z9 aT ⟨g,off,none⟩ m ke xF AE Uk sW t m1 cur.size xG EE (by simp[World.shape?,ah]) (by rw[sX];exact Nat.mul_ne_zero (by omega) (by omega)) (by simp[World.frozen?,ah]) (by simp[World.frozen?,ah])
  rw[h];rfl
 unfold maxLen at Ji
 have zhr:IntKind.i64.wrap ((i:Int)+(m:Int))=(i:Int)+(m:Int):=by rw[IntKind.wrap_i64];omega
 have h6:(0:Int)≤(i:Int)+(m:Int):=by omega
 have M8:i≤n:=by omega
 have zhs:((i:Int)+(m:Int)).toNat=i+m:=by omega
 have oE: ¬(c=i+m):=by omega
 have zht:(i:Int)≤(n:Int)+(m:Int):=by omega
 have ziI: ¬(c=i):=by omega
 have bQ:(P.info? (a7.t 9)).map (·.size)=some s:=by rw[hi];simp[iu]
 have je:cur.toList.length=c*s:=by simpa using sX
 have aA:(i+m)*s=i*s+m*s:=Nat.add_mul ..
 have bh:(n+m)*s=n*s+m*s:=Nat.add_mul ..
 have ct:i*s≤n*s:=Nat.mul_le_mul_right _ M8
 have e1:(n+m)*s≤c*s:=Nat.mul_le_mul_right _ wV
 have n3:(n-i)*s=n*s-i*s:=Nat.sub_mul ..
 obtain⟨cs,dH⟩: ∃cs,cs=(cur.toList.take (n*s)).drop (i*s):=⟨_,rfl⟩
 have nP:cs.length=(n-i)*s:=by rw[dH,List.length_drop,List.length_take,je,n3];omega
 obtain⟨dF,nM⟩: ∃dF,dF=(cur.toList.take ((i+m)*s)++cs++cur.toList.drop ((i+m)*s+cs.length)).toArray:=⟨_,rfl⟩
 have AH:dF.size=cur.size:=by
  rw[nM];simp only[List.size_toArray,List.length_append,List.length_take,List.length_drop,je,nP,sX];omega
 have zhu: ∀ty lF l7,(Builtin.copy_ #[(a7.t 24),(a7.t 24)] ty #[.slice (some ⟨g,(i+m)*s,none⟩) (n+m-(i+m)) lF,.slice (some ⟨g,i*s,none⟩) (n+m-i) l7]).run P w.drew= .ok (goInt (Nat.min (n+m-i) (n+m-(i+m)))) (w.drew.setRow g dF):=fun ty lF l7=>by
  rw[nM]
  exact ED w.drew _ _ ty (a7.t 9) s g ((i+m)*s) (n+m-(i+m)) lF ⟨g,i*s,none⟩ (n+m-i) l7 cur t cs L.t24 bQ ah
   (by rw[nP];congr 1;simp only[Nat.min_def];split<;>omega)
   (fun j v af=>by
    rw[Addr.add_lit];rw[dH,List.getElem?_drop,List.getElem?_take]at af
    split at af
    ·rw[Array.getElem?_toList]at af
     show World.cell? w.drew _=_
     have:w.drew.heap[g]? =some (.cells cur t (0,0)):=ah
     simp[World.cell?,this,af]
    ·cases af)
   (by rw[nP];omega) (fun v aw=>AG v (by rw[dH]at aw;exact List.mem_of_mem_drop aw))
 obtain⟨eQ,mh⟩: ∃eQ,eQ=(dF.toList.take (i*s)++vs++dF.toList.drop (i*s+vs.length)).toArray:=⟨_,rfl⟩
 have zhv: ∀(W:World),W.heap=(w.drew.setRow g dF).heap→∀ty lF,(Builtin.copy_ #[(a7.t 24),(a7.t 24)] ty #[.slice (some ⟨g,i*s,none⟩) (n+m-i) lF,.slice (some aT) m ke]).run P W= .ok (goInt (Nat.min m (n+m-i))) (W.setRow g eQ):=fun W hz ty lF=>by
  rw[mh]
  have MZ:W.heap[g]? =some (.cells dF t (0,0)):=by rw[hz];exact setRow_heap w.drew g cur dF t (0,0) ah
  exact ED W _ _ ty (a7.t 9) s g (i*s) (n+m-i) lF aT m ke dF t vs L.t24 bQ MZ
   (by rw[fB];congr 1;simp only[Nat.min_def];split<;>omega)
   (fun j v af=>by
    have h:=mj j v af
    rw[←h];refine World.cell?_of_block ?_
    rw[hz,pK]
    exact setRow_other w.drew g _ dF Uk)
   (by rw[fB,AH,sX];omega) m2
 have lA:eQ.size=cur.size∧eQ.toList.take ((n+m)*s)=cur.toList.take (i*s)++vs++cs:=by
  have h:=zho cur.toList cs vs (i*s) (m*s) (by rw[je,nP];omega) fB
  have tc:i*s+m*s+cs.length=(n+m)*s:=by rw[nP];omega
  rw[tc,←aA]at h;rw[aA,tc,←aA]at nM;subst nM;subst mh;simp only[List.size_toArray]at h⊢;exact⟨h.1.trans Array.length_toList,h.2⟩
 clear sX ah fB AG m2 mj xG EE Uo hi iu nM mh nP AH je aA bh ct e1 n3
 go_enter rG,Body2.n22_ntmps a7
 go_wp2_with (simp only[zhq])
 go_region_law_o (refine step_copy_runI rfl _ _ (a7.t 24) (a7.t 24) rfl _ _ (by simp[Act.eval,Act.put]) (by simp[Act.eval,Act.put]) (zhu _ _ _) ?_)
 go_wp2_with (at_builtin;refine wpList_copy_runI _ rfl _ _ (a7.t 24) (a7.t 24) rfl _ _ rfl rfl (zhv _ rfl _ _) ?_)
 go_ret
 exact⟨rfl,eQ,setRow_setRow ..,dH ▸ lA⟩
theorem zhw{α:Type}(a b d cs vs:List α)(k M:Nat)(aP:a.length=k)(aa:M+cs.length≤b.length)(ae:vs.length=M):
 ((((a++b++d).take k++vs++(a++b++d).drop (k+vs.length)).take (k+M)++cs++((a++b++d).take k++vs++(a++b++d).drop (k+vs.length)).drop (k+M+cs.length)).length=(a++b++d).length)∧
 (((a++b++d).take k++vs++(a++b++d).drop (k+vs.length)).take (k+M)++cs++((a++b++d).take k++vs++(a++b++d).drop (k+vs.length)).drop (k+M+cs.length)).take (k+M+cs.length)=a++vs++cs:=by
 have aH:(a++b++d).take k=a:=by
  rw[List.append_assoc];exact List.take_left' aP
 rw[aH]
 have hu:(a++vs++(a++b++d).drop (k+vs.length)).take (k+M)=a++vs:=List.take_left' (by rw[List.length_append];omega)
 rw[hu]
 refine⟨by simp only[List.length_append,List.length_drop];omega,?_⟩
 exact List.take_left' (by simp only[List.length_append];omega)
theorem Up(z:Array Value)(k:Nat):(Builtin.zeroCells z k).size=k*z.size:=by
 unfold Builtin.zeroCells
 simp
set_option maxHeartbeats 4000000 in
set_option maxRecDepth 100000 in
theorem zhx(L:vB P a7)(i0:TypeInfo)(z:Value)(s bytes:Nat)(hi:P.info? (a7.t 9)=some i0)(lE:i0.zero=some z)(iu:i0.size=s)(ku:i0.bytes=bytes)(e8:z.cells.size=s)(rH:0<s)
 (z9: ∀w,(Go.sizeOf (a7.t 9)).run P w= .ok s w)(g n c i m ke:Nat)(aT:Addr)(cur:Array Value)(t:TypeId)(vs:List Value)(w:World)
 (kG:i<n)(hm:0<m)(zG:n≤c)(wV:c<n+m)(mU:n+m≤maxLen)(rF:(n+m)*bytes≤140737488355328)
 (ah:w.heap[g]? =some (.cells cur t (0,0)))(sX:cur.size=c*s)(fB:vs.length=m*s)
 (mj: ∀j v,vs[j]? =some v→w.cell? (aT.add j)=some v)(AG: ∀v∈cur.toList.take (n*s),v.oneCell'=true)(m2: ∀v∈vs,v.oneCell'=true)(zhy:aT.block<w.heap.size):
 Calls P (a7.f 22) #[.slice (some ⟨g,0,none⟩) n c,.int .i64 i,.slice (some aT) m ke] w fun e w'=>
  ∃(G:Nat) (eQ:Array Value),e= .returned (.slice (some ⟨w.heap.size,0,none⟩) (n+m) G)∧n+m≤G∧G≤maxLen∧w.grownBy w' none∧w'.heap[w.heap.size]? =some (.cells eQ (a7.t 9) (0,0))∧eQ.size=G*s∧
   eQ.toList.take ((n+m)*s)=cur.toList.take (i*s)++vs++(cur.toList.take (n*s)).drop (i*s):=by
 have t3:=L.t3;have a3:=L.a3;have z3:=L.z3;have v3:=L.v3;have t4:=L.t4;have a4:=L.a4;have z4:=L.z4;have v4:=L.v4;have t24:=L.t24;have a24:=L.a24;have z24:=L.z24;have v24:=L.v24
 have xD:=run_underlying L.t3;have Ul:=run_underlying L.t4;have Um:=run_underlying L.t24
 have mixed:=L.mixed
 obtain⟨_,_,rG⟩:=L.f22
 have Un: ¬((m:Int)=0):=by omega
 have ziJ: ¬((i:Int)=(n:Int)):=by omega
 have ziK:(c:Int)<(n:Int)+(m:Int):=by omega
 have bQ:(P.info? (a7.t 9)).map (·.size)=some s:=by rw[hi];simp[iu]
 have zhz:g<w.heap.size:=(Array.getElem?_eq_some_iff.1 ah).1
 have uL:(n:Int)+(m:Int)-(i:Int)=((n+m-i:Nat):Int):=by omega
 have uA:i+(n+m-i)=n+m:=by omega
 have M8:i≤n:=by omega
 have je:cur.toList.length=c*s:=by simpa using sX
 have aA:(i+m)*s=i*s+m*s:=Nat.add_mul ..
 have bh:(n+m)*s=n*s+m*s:=Nat.add_mul ..
 have ct:i*s≤n*s:=Nat.mul_le_mul_right _ M8
 have e1:n*s≤c*s:=Nat.mul_le_mul_right _ zG
 have n3:(n-i)*s=n*s-i*s:=Nat.sub_mul ..
 have A1:(n+m-i)*s=n*s+m*s-i*s:=by rw[Nat.sub_mul,bh]
 have zhA:(n+m-i)*bytes≤(n+m)*bytes:=Nat.mul_le_mul_right _ (by omega)
 have M9: ∀(W:World),W.heap[g]? =some (.cells cur t (0,0))→∀k v,cur.toList[k]? =some v→W.cell? ⟨g,k,none⟩=some v:=fun W hz k v aw=>by
  rw[Array.getElem?_toList]at aw
  simp[World.cell?,hz,aw]
 have hold:(Builtin.firstCells i0.size i (.slice (some ⟨g,0,none⟩) i c)).run P w.drew= .ok (cur.toList.take (i*s)).toArray w.drew:=by
  rw[iu]
  exact run_firstCells_some w.drew s i ⟨g,0,none⟩ i c (cur.toList.take (i*s)) (by rw[List.length_take];omega) (fun j v af=>by
   rw[Addr.add_lit,Nat.zero_add];rw[List.getElem?_take]at af
   split at af
   ·exact M9 w.drew ah j v af
   ·cases af)
 have jV: ∀ty,(Builtin.append_ #[(a7.t 24),(a7.t 3)] ty #[.slice (some ⟨g,0,none⟩) i c,.int .i64 ((n:Int)+(m:Int)-(i:Int))]).run P w=
  .ok (.slice (some ⟨w.heap.size,0,none⟩) (n+m) (grownCap w (n+m) c (a7.t 9))) (w.drew.alloc (.cells ((cur.toList.take (i*s)).toArray++Builtin.zeroCells z.cells (n+m-i)++Builtin.zeroCells z.cells (grownCap w (n+m) c (a7.t 9)-(n+m))) (a7.t 9))):=fun ty=>by
  have h:=Lib.run_append_grow_zeros w (a7.t 24) (a7.t 3) ty (a7.t 9) i0 _ .i64 .i64 L.t24 L.t3 hi lE (some ⟨g,0,none⟩) i c (cur.toList.take (i*s)) hold (n+m-i) (by omega) (by omega) (by omega) (by unfold maxLen at mU;omega) (by rw[ku];omega) (by rw[ku,uA];exact growslice_fits wV rF)
  rw[uA]at h;rw[uL];exact h
 obtain⟨G,kJ⟩: ∃G,G=grownCap w (n+m) c (a7.t 9):=⟨_,rfl⟩
 obtain⟨jL,EF⟩: ∃jL:Array Value,jL=(cur.toList.take (i*s)).toArray++Builtin.zeroCells z.cells (n+m-i)++Builtin.zeroCells z.cells (G-(n+m)):=⟨_,rfl⟩
 have Uq:n+m≤G:=by rw[kJ];exact grownCap_ge w _ _ _
 have Ur:G≤maxLen:=by rw[kJ];exact grownCap_le_maxLen w (n+m) c (a7.t 9) mU
 have ziL:G≤9223372036854775807:=Ur
 rw[←kJ,←EF]at jV
 have EW:(G-(n+m))*s=G*s-(n*s+m*s):=by rw[Nat.sub_mul,bh]
 have NQ:(n+m)*s≤G*s:=Nat.mul_le_mul_right _ Uq
 have EG:jL.size=G*s:=by
  rw[EF];simp only[Array.size_append,Up,e8,List.size_toArray,List.length_take,je,A1,EW];omega
 obtain⟨cs,dH⟩: ∃cs,cs=(cur.toList.take (n*s)).drop (i*s):=⟨_,rfl⟩
 have nP:cs.length=(n-i)*s:=by rw[dH,List.length_drop,List.length_take,je,n3];omega
 obtain⟨dF,nM⟩: ∃dF,dF=(jL.toList.take (i*s)++vs++jL.toList.drop (i*s+vs.length)).toArray:=⟨_,rfl⟩
 have AH:dF.size=G*s:=by
  rw[nM];simp only[List.size_toArray,List.length_append,List.length_take,List.length_drop,Array.length_toList,EG,fB];omega
 obtain⟨eQ,mh⟩: ∃eQ,eQ=(dF.toList.take ((i+m)*s)++cs++dF.toList.drop ((i+m)*s+cs.length)).toArray:=⟨_,rfl⟩
 obtain⟨nQ,AI⟩: ∃nQ,nQ=w.drew.alloc (.cells jL (a7.t 9)):=⟨_,rfl⟩
 have EH:nQ.heap[w.heap.size]? =some (.cells jL (a7.t 9) (0,0)):=by
  rw[show nQ.heap=w.heap.push (.cells jL (a7.t 9) (0,0))by rw[AI];rfl]
  exact Array.getElem?_push_size
 have EI: ∀k,k<w.heap.size→nQ.heap[k]? =w.heap[k]? :=fun k aj=>by
  rw[show nQ.heap=w.heap.push (.cells jL (a7.t 9) (0,0))by rw[AI];rfl,Array.getElem?_push,if_neg (Nat.ne_of_lt aj)]
 rw[←AI]at jV
 have zhB: ∀(W:World),W.heap=nQ.heap→∀ty lF,(Builtin.copy_ #[(a7.t 24),(a7.t 24)] ty #[.slice (some ⟨w.heap.size,i*s,none⟩) (n+m-i) lF,.slice (some aT) m ke]).run P W= .ok (goInt (Nat.min m (n+m-i))) (W.setRow w.heap.size dF):=fun W hz ty lF=>by
  rw[nM]
  exact ED W _ _ ty (a7.t 9) s w.heap.size (i*s) (n+m-i) lF aT m ke jL (a7.t 9) vs L.t24 bQ (by rw[hz];exact EH)
   (by rw[fB];congr 1;simp only[Nat.min_def];split<;>omega)
   (fun j v af=>by
    rw[←mj j v af];refine World.cell?_of_block ?_
    rw[hz,pK]
    exact EI _ zhy)
   (by rw[fB,EG];omega) m2
 have Us: ∀(W:World),W.heap=(nQ.setRow w.heap.size dF).heap→∀ty lF l7,(Builtin.copy_ #[(a7.t 24),(a7.t 24)] ty #[.slice (some ⟨w.heap.size,(i+m)*s,none⟩) (n+m-(i+m)) lF,.slice (some ⟨g,i*s,none⟩) (n-i) l7]).run P W= .ok (goInt (Nat.min (n-i) (n+m-(i+m)))) (W.setRow w.heap.size eQ):=fun W hz ty lF l7=>by
  rw[mh]
  exact ED W _ _ ty (a7.t 9) s w.heap.size ((i+m)*s) (n+m-(i+m)) lF ⟨g,i*s,none⟩ (n-i) l7 dF (a7.t 9) cs L.t24 bQ (by rw[hz];exact setRow_heap nQ w.heap.size jL dF (a7.t 9) (0,0) EH)
   (by rw[nP];congr 1;simp only[Nat.min_def];split<;>omega)
   (fun j v af=>by
    rw[Addr.add_lit];rw[dH,List.getElem?_drop,List.getElem?_take]at af
    split at af
    ·exact M9 W (by rw[hz,setRow_other _ _ _ _ (by omega),EI _ zhz];exact ah) _ v af
    ·cases af)
   (by rw[nP,AH];omega) (fun v aw=>AG v (by rw[dH]at aw;exact List.mem_of_mem_drop aw))
 have lA:eQ.size=G*s∧eQ.toList.take ((n+m)*s)=cur.toList.take (i*s)++vs++cs:=by
  have h:=zhw (cur.toList.take (i*s)) (Builtin.zeroCells z.cells (n+m-i)).toList (Builtin.zeroCells z.cells (G-(n+m))).toList cs vs (i*s) (m*s) (by rw[List.length_take];omega) (by rw[nP,Array.length_toList,Up,e8];omega) fB
  have tc:i*s+m*s+cs.length=(n+m)*s:=by rw[nP];omega
  have zhC:cur.toList.take (i*s)++(Builtin.zeroCells z.cells (n+m-i)).toList++(Builtin.zeroCells z.cells (G-(n+m))).toList=jL.toList:=by rw[EF];simp
  rw[tc,←aA,zhC]at h;rw[aA,tc,←aA]at mh;subst mh;subst nM;simp only[List.size_toArray]at h⊢;exact⟨h.1.trans (by rw[Array.length_toList,EG]),h.2⟩
 have L0: ∀(W:World),W.heap=((nQ.setRow w.heap.size dF).setRow w.heap.size eQ).heap→W.os=w.os→W.tape=w.tape→W.output=w.output→w.grownBy W none∧W.heap[w.heap.size]? =some (.cells eQ (a7.t 9) (0,0)):=fun W hz aa ae av=>by
  rw[setRow_setRow]at hz;refine⟨⟨aa,ae,av,?_,fun k aj _=>?_⟩,?_⟩
  ·rw[hz,setRow_size,show nQ.heap=w.heap.push (.cells jL (a7.t 9) (0,0))by rw[AI];rfl,Array.size_push]
   omega
  ·rw[hz,setRow_other _ _ _ _ (by omega),EI _ aj]
  ·rw[hz]
   exact setRow_heap nQ w.heap.size jL eQ (a7.t 9) (0,0) EH
 subst AI
 have iR:((w.alloc (.cells jL (a7.t 9))).drew).heap=(w.drew.alloc (.cells jL (a7.t 9))).heap:=rfl
 have hF:(((w.alloc (.cells jL (a7.t 9))).drew.setRow w.heap.size dF).drew).heap=((w.drew.alloc (.cells jL (a7.t 9))).setRow w.heap.size dF).heap:=rfl
 have ziM: ¬(G=i):=by omega
 have ziN: ¬(G=i+m):=by omega
 have ziO: ¬(c=i):=by omega
 have zhr:IntKind.i64.wrap ((i:Int)+(m:Int))=(i:Int)+(m:Int):=by rw[IntKind.wrap_i64];unfold maxLen at mU;omega
 have h6:(0:Int)≤(i:Int)+(m:Int):=by omega
 have zhs:((i:Int)+(m:Int)).toNat=i+m:=by omega
 have zht:(i:Int)≤(n:Int):=by omega
 have zhD:=mU
 unfold maxLen at zhD
 clear uL uA hold EF kJ EG sX fB AG m2 mj hi lE iu ku e8 je aA bh ct e1 n3 A1 EW NQ zhA nM mh nP AH EH EI M9 ah
 go_enter rG,Body2.n22_ntmps a7
 go_wp2_with (first
  |(at_builtin;refine Lib.wpList_append_run _ rfl _ _ _ _ rfl _ _ rfl rfl _ _ (jV _) ?_)
  |(at_builtin;refine wpList_copy_runI _ rfl _ _ (a7.t 24) (a7.t 24) rfl _ _ rfl rfl (zhB _ iR _ _) ?_)
  |(at_builtin;refine wpList_copy_runI _ rfl _ _ (a7.t 24) (a7.t 24) rfl _ _ rfl rfl (Us _ hF _ _ _) ?_))
 go_region_law_o (refine step_copy_runI rfl _ _ (a7.t 24) (a7.t 24) rfl (.slice (some ⟨w.heap.size,(i+m)*s,none⟩) (n+m-(i+m)) (G-(i+m))) (.slice (some ⟨g,i*s,none⟩) (n-i) (c-i)) (by simp[Act.eval,Act.put]) (by simp[Act.eval,Act.put]) (Us _ hF (a7.t 3) (G-(i+m)) (c-i)) ?_)
 go_wp2
 go_ret
 have h:=L0 ((((w.alloc (.cells jL (a7.t 9))).drew.setRow w.heap.size dF).drew).setRow w.heap.size eQ) rfl rfl rfl rfl
 exact⟨G,eQ,rfl,Uq,Ur,h.1,h.2,lA.1,dH ▸ lA.2⟩
set_option maxHeartbeats 4000000 in
set_option maxRecDepth 100000 in
theorem Ut(L:vB P a7)(i0:TypeInfo)(z:Value)(s bytes:Nat)(hi:P.info? (a7.t 9)=some i0)(lE:i0.zero=some z)(iu:i0.size=s)(ku:i0.bytes=bytes)(e8:z.cells.size=s)(rH:0<s)
 (z9: ∀w,(Go.sizeOf (a7.t 9)).run P w= .ok s w)(b:Option Addr)(n c m ke:Nat)(aT:Addr)(xs vs:List Value)(w:World)(cZ:h2 w (a7.t 9) s (.slice b n c) n xs)
 (hm:0<m)(mU:n+m≤maxLen)(rF:(n+m)*bytes≤140737488355328)(fB:vs.length=m*s)
 (mj: ∀j v,vs[j]? =some v→w.cell? (aT.add j)=some v)(m2: ∀v∈vs,v.oneCell'=true)(zG:n≤c):
 Calls P (a7.f 22) #[.slice b n c,.int .i64 n,.slice (some aT) m ke] w fun e w'=>
  ∃bg,e= .returned bg∧h2 w' (a7.t 9) s bg (n+m) (xs++vs)∧w.grownBy w' (b5 (.slice b n c))∧(∀k,b5 bg=some k→b5 (.slice b n c)=some k∨w.heap.size≤k):=by
 have t3:=L.t3;have a3:=L.a3;have z3:=L.z3;have v3:=L.v3;have t4:=L.t4;have a4:=L.a4;have z4:=L.z4;have v4:=L.v4;have t24:=L.t24;have a24:=L.a24;have z24:=L.z24;have v24:=L.v24
 have xD:=run_underlying L.t3;have Ul:=run_underlying L.t4;have Um:=run_underlying L.t24
 have mixed:=L.mixed
 obtain⟨_,_,rG⟩:=L.f22
 have Un: ¬((m:Int)=0):=by omega
 have Uu:b=none→n=0∧c=0:=fun h=>by
  subst h
  rcases cZ.2 with⟨⟨b,ad,_⟩,_⟩|⟨g,cap,cur,h,_⟩
  ·cases ad
   exact⟨rfl,rfl⟩
  ·cases h
 obtain⟨bg,w',cn,kn,cQ,bf⟩:=Cm (P:=P) (w:=w) (a7.t 24) (a7.t 24) (a7.t 9) L.t24 hi lE iu ku e8 rH cZ (b:=some aT) (m:=m) (cap:=ke) fB (fun h=>by cases h) (fun a a6=>by cases a6;exact mj) m2 mU rF
 clear mj m2 cZ fB hi lE iu ku e8
 unfold maxLen at mU
 cases b with
 |none=>
  obtain⟨rfl,rfl⟩:=Uu rfl
  go_enter rG,Body2.n22_ntmps a7
  go_wp2_with (at_builtin;refine Lib.wpList_append_run _ rfl _ _ _ _ rfl _ _ rfl rfl _ _ cn ?_)
  go_ret
  exact⟨bg,rfl,by simpa using kn,cQ,bf⟩
 |some a=>
  clear Uu
  by_cases T5:c=n
  ·subst T5
   go_enter rG,Body2.n22_ntmps a7
   go_wp2_with (at_builtin;refine Lib.wpList_append_run _ rfl _ _ _ _ rfl _ _ rfl rfl _ _ cn ?_)
   all_goals go_ret
   all_goals exact⟨bg,rfl,kn,cQ,bf⟩
  ·go_enter rG,Body2.n22_ntmps a7
   go_wp2_with (at_builtin;refine Lib.wpList_append_run _ rfl _ _ _ _ rfl _ _ rfl rfl _ _ cn ?_)
   all_goals go_ret
   all_goals exact⟨bg,rfl,kn,cQ,bf⟩
theorem zhE(L:vB P a7)(i0:TypeInfo)(z:Value)(s bytes:Nat)(hi:P.info? (a7.t 9)=some i0)(lE:i0.zero=some z)(iu:i0.size=s)(ku:i0.bytes=bytes)(e8:z.cells.size=s)(rH:0<s)
 (z9: ∀w,(Go.sizeOf (a7.t 9)).run P w= .ok s w){v:Value}{n i m ke:Nat}{aT:Addr}{xs vs:List Value}{w:World}(cZ:h2 w (a7.t 9) s v n xs)(kG:i≤n)
 (hm:0<m)(mU:n+m≤maxLen)(rF:(n+m)*bytes≤140737488355328)(fB:vs.length=m*s)
 (mj: ∀j v,vs[j]? =some v→w.cell? (aT.add j)=some v)(Uv: ∀v∈xs,v.oneCell'=true)(m2: ∀v∈vs,v.oneCell'=true)(b7:b5 v≠some aT.block):
 Calls P (a7.f 22) #[v,.int .i64 i,.slice (some aT) m ke] w fun e w'=>
  ∃bg,e= .returned bg∧h2 w' (a7.t 9) s bg (n+m) (xs.take (i*s)++vs++xs.drop (i*s))∧w.grownBy w' (b5 v)∧(∀k,b5 bg=some k→b5 v=some k∨w.heap.size≤k):=by
 have jB:=cZ.1
 have fin:i=n→xs.take (i*s)++vs++xs.drop (i*s)=xs++vs:=fun h=>by
  subst h;rw[List.take_of_length_le (by omega),List.drop_of_length_le (by omega),List.append_nil]
 have Uw:=cZ
 rcases cZ.2 with⟨⟨b,rfl,_⟩,rfl⟩|⟨g,cap,cur,rfl,hc,ah,hle,h5,dH,hx⟩
 ·have:i=0:=by omega
  subst this;rw[fin rfl];exact Ut L i0 z s bytes hi lE iu ku e8 rH z9 b 0 0 m ke aT xs vs w Uw hm mU rF fB mj m2 (Nat.le_refl _)
 ·by_cases he:i=n
  ·rw[fin he]
   subst he;exact Ut L i0 z s bytes hi lE iu ku e8 rH z9 _ i cap m ke aT xs vs w Uw hm mU rF fB mj m2 hle
  ·have bI:i<n:=by omega
   have nR:0<vs.length:=by rw[fB];exact Nat.mul_pos hm rH
   have hv:=mj 0 vs[0] (by simp[nR])
   obtain⟨sW,m1,xG,zhF,hC⟩: ∃sW m1,w.shape? aT.block=some (sW,m1)∧m1≠0∧aT.block<w.heap.size:=by
    have ad:(aT.add 0).block=aT.block:=pK aT 0
    unfold World.cell? at hv;rw[ad]at hv
    split at hv
    ·rename_i cs t sZ bd
     refine⟨t,cs.size,by simp[World.shape?,bd],fun aP=>?_,(Array.getElem?_eq_some_iff.1 bd).1⟩
     have:cs= #[]:=Array.eq_empty_of_size_eq_zero aP
     subst this;simp at hv
    ·cases hv
   have gF:b5 (.slice (some ⟨g,0,none⟩) n cap)=some g:=by simp[b5];omega
   rw[gF]at b7⊢
   have zhG:aT.block≠g:=fun h=>b7 (by rw[h])
   by_cases ag:n+m≤cap
   ·refine Calls.mono (zhp L i0 z s hi iu rH z9 g n cap i m ke aT cur (a7.t 9) vs w bI hm ag h5 zhG ah dH fB mj (by rw[hx];exact Uv) m2 sW m1 xG zhF) fun e w' ⟨he,rI,hw,aa,ae⟩=>?_
    subst hw;rw[hx]at ae
    have av:xs.take (i*s)=cur.toList.take (i*s):=by
     rw[←hx,List.take_take,Nat.min_eq_left (Nat.mul_le_mul_right _ kG)]
    have aQ:(w.drew.setRow g rI).heap[g]? =some (.cells rI (a7.t 9) (0,0)):=setRow_heap w.drew g cur rI (a7.t 9) (0,0) ah
    refine⟨_,he,⟨?_,.inr ⟨g,cap,rI,rfl,hc,aQ,ag,h5,by rw[aa,dH],by rw[ae,av]⟩⟩,⟨rfl,rfl,rfl,?_,fun k aj Ux=>?_⟩,fun k aj=>.inl ?_⟩
    ·have:i*s≤n*s:=Nat.mul_le_mul_right _ kG
     simp only[List.length_append,List.length_take,List.length_drop,jB,fB,Nat.add_mul];omega
    ·rw[setRow_size]
     exact Nat.le_refl _
    ·exact setRow_other w.drew g k rI fun h=>Ux (by rw[h])
    ·simpa[b5,show cap≠0 by omega]using aj
   ·refine Calls.mono (zhx L i0 z s bytes hi lE iu ku e8 rH z9 g n cap i m ke aT cur (a7.t 9) vs w bI hm hle (by omega) mU rF ah dH fB mj (by rw[hx];exact Uv) m2 hC) fun e w' ⟨G,eQ,he,c1,di,gQ,o7,Al,xu⟩=>?_
    rw[hx]at xu
    have av:xs.take (i*s)=cur.toList.take (i*s):=by
     rw[←hx,List.take_take,Nat.min_eq_left (Nat.mul_le_mul_right _ kG)]
    refine⟨_,he,⟨?_,.inr ⟨w.heap.size,G,eQ,rfl,by omega,o7,c1,di,Al,by rw[xu,av]⟩⟩,⟨gQ.os,gQ.tape,gQ.output,gQ.size,fun k aj Ux=>gQ.block k aj (by simp)⟩,fun k aj=>.inr ?_⟩
    ·have:i*s≤n*s:=Nat.mul_le_mul_right _ kG
     simp only[List.length_append,List.length_take,List.length_drop,jB,fB,Nat.add_mul];omega
    ·simp[b5,show G≠0 by omega]at aj
     omega
end
end Go.aK
namespace Go.aK
open Go Go.Proofs Go.Shelf Go.RowKit Go.Lib
theorem zhH{w:World}{ro:Nat→Prop}{σ:Heap}{β:Nat→Value}{N:Nat}(bd:gX w ro σ β N){x:aC}{c:Value}(h:bp w ro σ β N x c){n:Nat}{es:List (List a1)}(he:ft σ n x=some es)
 (aP:0<es.length)(hn:0<n){id:Nat}(hx:x≠ .aM id){o:eg}(bb:aD σ id=some o)(ar:o.live=true){a:Addr}{l cap:Nat}(hc:c= .slice (some a) l cap):b5 (β id)≠some a.block:=by
 have cc:ro a.block→b5 (β id)≠some a.block:=fun h ad=>bd.fe _ h ⟨id,o,bb,ar,ad⟩
 have pN: ∀{m:Nat} {dN:List (List a1)} {c:Value},0<dN.length→0<m→cN w ro (.aM m dN) c→c= .slice (some a) l cap→ro a.block:=fun {m dN c} EJ c1 di gQ=>by
  cases di with
  |aM _ _ b zhI f aa ae av aQ bL=>
   obtain⟨bc,ad,hf⟩:=aQ EJ
   cases gQ
   cases ad;exact(hf 0 (Nat.mul_pos EJ c1)).1
 cases h with
 |au x c fS=>
  cases x with
  |v y=>
   cases fS
   subst hc;simp[ft]at he
  |ptr=>simp[ft]at he
  |mp=>simp[ft]at he
  |ek=>simp[ft]at he
  |li i k=>
   simp only[ft]at he
   split at he
   ·rename_i hm
    subst hm;simp only[Option.some.injEq]at he;subst he
    cases fS with
    |li _ _ _ fS=>exact cc (pN aP hn fS hc)
   ·cases he
  |aM m dN=>
   simp only[ft]at he
   split at he
   ·rename_i hm
    subst hm;simp only[Option.some.injEq]at he;subst he;exact cc (pN aP hn fS hc)
   ·cases he
 |aM gp c bI ak=>
  simp only[ft]at he
  split at he
  ·rename_i z t m dN ah
   split at he
   ·rename_i hm
    subst hm;simp only[Option.some.injEq]at he;subst he
    have iG:=ak z t _ _ ah
    have dj:=bd.c6 gp _ ah
    cases dj with
    |row _ _ _ xs aa ae av=>
     intro ad
     have fT:b5 (β gp)=some a.block:=by
      rcases aa.2 with⟨_,aV⟩|⟨g,zhI,cur,aw,r3,_⟩
      ·omega
      ·rw[←iG,hc]at aw
       rw[←iG,hc];cases aw;simp[b5];omega
     exact hx (by rw[bd.inj id gp o _ _ bb ah ar rfl ad fT])
    |gb _ _ _ aa=>exact cc (pN aP hn aa (by rw[←iG,hc]))
   ·cases he
  ·cases he
 |_=>simp[ft]at he
theorem Uy{α:Type}{n:Nat}: ∀(es:List (List α)),(∀e∈es,e.length=n)→es.flatten.length=es.length*n
 |[],_=>by simp
 |e::r,h=>by
  rw[List.flatten_cons,List.length_append,h e (List.mem_cons_self ..),Uy r fun x hx=>h x (List.mem_cons_of_mem _ hx),List.length_cons,Nat.add_mul,Nat.one_mul];omega
def tn(P:Program)(G:a8)(r:la):Prop:=
 ∀{σ:Heap} {n id:Nat} {i:Int} {y:aC} {l k:List (fO r.c)},aD σ id=some (.row false r.t (bZ r.c) (l.map (b9 r.c)))→ft σ (bZ r.c) y=some (k.map (b9 r.c))→y≠ .aM id→0<k.length→0≤i∧i≤(l.length:Int)→
  l.length+k.length≤maxLen∧(l.length+k.length)*r.bytes≤140737488355328→
  dE P G r.f [.aM id,.au (.v (.int .i64 i)),y] σ n fun v bU=>v= .aM n∧bU=(n,.row false r.t (bZ r.c) ((l.take i.toNat++k++l.drop i.toNat).map (b9 r.c)))::du id σ
section
variable {P:Program} {a7:Ren}
theorem YX{G:a8}{c:bF}(L:vB P a7)(i0:TypeInfo)(z:Value)(bytes:Nat)(hi:P.info? (a7.t 9)=some i0)(lE:i0.zero=some z)(iu:i0.size=bZ c)(ku:i0.bytes=bytes)(e8:z.cells.size=bZ c)(bQ:0<bZ c)
 (z9: ∀w,(Go.sizeOf (a7.t 9)).run P w= .ok (bZ c) w):tn P G ⟨a7.f 22,a7.t 9,c,bytes⟩:=by
 intro σ n id i y l k bb ax b7 aj zhJ AB w β ro ea aa ae av aQ bL
 have M1:=ae 0 _ rfl
 have Uz:=ae 1 _ rfl
 have UA:=ae 2 _ rfl
 have rD:ea= #[ea.getD 0 undef,ea.getD 1 undef,ea.getD 2 undef]:=by
  have ai:ea.size=3:=aa
  apply Array.ext
  ·simpa using ai
  ·intro j ziP ziQ
   have:j=0∨j=1∨j=2:=by omega
   rcases this with rfl|rfl|rfl<;>simp[Array.getD,ai]
 obtain⟨b,cap,iG,l2,oA,f,hX,oB⟩:=vW av UA ax
 obtain⟨nt,oC,qW⟩:=yX l2 oB
 have ey:0<(k.map (b9 c)).length:=by rw[List.length_map];exact aj
 cases b with
 |none=>exact absurd (oA rfl) (List.ne_nil_of_length_pos ey)
 |some a=>
 have hC:=zhH av UA ax ey bQ b7 bb rfl iG
 have nR:ea.getD 0 undef=β id:=by
  cases M1 with
  |aM _ _ _ ak=>exact ak _ _ _ _ bb
 have zhK:ea.getD 1 undef= .int .i64 i.toNat:=by
  generalize ea.getD 1 undef=q at Uz
  cases Uz with
  |au _ _ hx=>
   cases hx;rw[Int.toNat_of_nonneg zhJ.1]
 have dj:=av.c6 id _ bb
 cases dj with
 |row _ _ _ xs cZ hle eV=>
 have iR:c3 ⟨w,ro,σ,β,n⟩ G ⟨[],σ,n,n⟩ ⟨#[],[]⟩ w β ro:=⟨rfl,rfl,by simp,av,aQ,⟨rfl,rfl,rfl,Nat.le_refl _,fun _ _ _=>rfl,fun _ h=>.inl h,fun _ h=>h,fun _ h=>.inl h,fun id _ o ah=>⟨by simp[ah],rfl⟩,bL,Nat.le_refl _⟩,Nat.le_refl _⟩
 rw[rD,iG,nR,zhK]
 rw[List.length_map]at nt hX⊢
 have Na:(l.map (b9 c)).length=l.length:=List.length_map ..
 rw[Na]at cZ
 refine Calls.mono (zhE L i0 z (bZ c) bytes hi lE iu ku e8 bQ z9 cZ (i:=i.toNat) (by omega) aj AB.1 AB.2 (vs:=(List.range (k.length*bZ c)).map f) (by simp) (fun j u af=>?_) (fun v aw=>?_) (by
  rw[List.length_map]at oC
  exact oC) hC) fun e w' ⟨bg,he,kn,cQ,bf⟩=>?_
 ·have cJ:=(List.getElem?_eq_some_iff.1 af).1
  simp only[List.length_map,List.length_range]at cJ
  have aa:=hX a rfl j cJ
  simp[cJ]at af;rw[aa,af]
 ·obtain⟨j,af⟩:=List.getElem?_of_mem aw
  have cJ:=(List.getElem?_eq_some_iff.1 af).1
  have lU:=Uy _ hle
  rw[Na]at lU
  have hx:=eV j _ (List.getElem?_eq_getElem (by rw[lU,←cZ.1];exact cJ))
  have ax:=hx.one
  rw[List.getD_eq_getElem?_getD,af]at ax
  exact ax
 ·have jd: ∀k,k<w.heap.size→b5 (β id)≠some k→w'.heap[k]? =w.heap[k]? :=fun k aj b7=>cQ.block k aj (fun e=>b7 e.symm)
  have cc: ∀k,ro k→w'.heap[k]? =w.heap[k]? :=fun k aj=>jd k (av.lt k aj) fun bf=>av.fe k aj ⟨id,_,bb,rfl,bf⟩
  have hm:(l.take i.toNat++k++l.drop i.toNat).map (b9 c)=(l.map (b9 c)).take i.toNat++k.map (b9 c)++(l.map (b9 c)).drop i.toNat:=by
   rw[List.map_append,List.map_append,List.map_take,List.map_drop]
  have kG:i.toNat≤l.length:=by omega
  have zB:i.toNat*bZ c≤l.length*bZ c:=Nat.mul_le_mul_right _ kG
  have aW: ∀j x,((l.map (b9 c)).take i.toNat).flatten[j]? =some x→cN w ro x ((xs.take (i.toNat*bZ c)).getD j undef):=fun j x af=>by
   rw[Q8 hle _,List.getElem?_take]at af
   split at af
   ·rename_i bI
    have:=eV j x af
    rw[List.getD_eq_getElem?_getD]at this⊢
    rw[List.getElem?_take,if_pos bI]
    exact this
   ·cases af
  have c9: ∀j x,((l.map (b9 c)).drop i.toNat).flatten[j]? =some x→cN w ro x ((xs.drop (i.toNat*bZ c)).getD j undef):=fun j x af=>by
   rw[Q9 hle _,List.getElem?_drop]at af
   have:=eV _ x af
   rw[List.getD_eq_getElem?_getD]at this⊢
   rw[List.getElem?_drop]
   exact this
  have UB: ∀e∈(l.map (b9 c)).take i.toNat,e.length=bZ c:=fun e he=>hle e (List.mem_of_mem_take he)
  have UC:(xs.take (i.toNat*bZ c)).length=((l.map (b9 c)).take i.toNat).length*bZ c:=by
   rw[List.length_take,List.length_take,Na,cZ.1,Nat.min_eq_left zB,Nat.min_eq_left kG]
  have UD: ∀e∈(l.map (b9 c)).take i.toNat++k.map (b9 c),e.length=bZ c:=fun e he=>by
   rcases List.mem_append.1 he with h|h
   ·exact UB _ h
   ·exact l2 _ h
  have r1:=vX UB UC aW qW
  have zhL:(xs.take (i.toNat*bZ c)++(List.range (k.length*bZ c)).map f).length=((l.map (b9 c)).take i.toNat++k.map (b9 c)).length*bZ c:=by
   rw[List.length_append,List.length_append,UC,Nat.add_mul,List.length_map,List.length_range,List.length_map]
  have hOr:kN w' ro ((n,.row false (a7.t 9) (bZ c) ((l.take i.toNat++k++l.drop i.toNat).map (b9 c)))::du id σ) (gN β n bg) (n+1) n (.row false (a7.t 9) (bZ c) ((l.take i.toNat++k++l.drop i.toNat).map (b9 c))):=by
   refine .row (a7.t 9) (bZ c) _ _ (by
    rw[dP,List.length_map,List.length_append,List.length_append,List.length_take,List.length_drop,Nat.min_eq_left kG,show i.toNat+k.length+(l.length-i.toNat)=l.length+k.length by omega]
    exact kn) (fun ay jT=>?_) (fun j x af=>?_)
   ·rw[hm]at jT
    rcases List.mem_append.1 jT with h|h
    ·exact UD _ h
    ·exact hle _ (List.mem_of_mem_drop h)
   ·rw[hm]at af
    have zhM:=vX UD zhL (fun j x h=>by first|exact r1 j x h|(rw[List.length_map]at r1;exact r1 j x h)) c9
    exact(zhM j x af).keep cc fun _ h=>h
  have fb:=iR.Kv (w':=w') id (Nat.le_refl _) bb _ bg cQ.os cQ.tape cQ.output cQ.size jd bf rfl hOr
  exact⟨bg,.aM n,_,gN β n bg,ro,n+1,he,⟨rfl,rfl⟩,.aM _ _ (Nat.lt_succ_self _) fun z bz cH dN _=>(dP _ _ _).symm,fb.heap,fb.trans⟩
end
end Go.aK
namespace Go.aK
open Go
def Nb(id:Nat):ab→Bool
 | .aM j=>!Nat.beq j id
 |_=>true
def zhN(r:la)(S:aq)(id:Nat)(i c7 z:ab):aB:=
 .eD (.ez r.c c7 none (some i)) (.eD (.up r.c z (.cs (.int .i64 0))) (.eD (.f2 r.bytes (.ap r.c) c7 z)
  (.lt S.k (.ez r.c c7 none (some i)) (.lt (S.k+1) (.f2 (.ap r.c) (.aT (.li r.c) S.k) z) (.lt (S.k+2) (.ez r.c c7 (some i) none) (.lt (S.k+3) (.f2 (.ap r.c) (.aT (.li r.c) (S.k+1)) (.aT (.li r.c) (S.k+2)))
   (.cG .cj ⟨ba.put .emp 0 (.aM S.n),(S.n,.rw r.t r.c (.aT (.li r.c) (S.k+3)))::hl id S.h,S.n+1,S.k+4,S.g⟩)))))))
def Nc(R:List la)(inl:Nat→List ab→aq→aB)(f:Nat)(ys:List ab)(S:aq):aB:=
 match AD f R,ys with
 |some r,[.aM id,i,y]=>match da S.h id,uB S y with
  |some (.rw bz lp c7),some z=>match(Nat.beq bz r.t&&decide (lp=r.c))&&((c7.er (.li r.c)&&(z.er (.li r.c)&&z.lt S.k))&&((decide (i.rt=some (.int .i64))&&i.lt S.k)&&(Nb id y&&(match uC S y with
   |some d=>decide (d=r.c)
   |none=>true))))with
   |true=>zhN r S id i c7 z
   |false=>inl f ys S
  |_,_=>inl f ys S
 |_,_=>inl f ys S
section
variable {P:Program} {G:a8} {M:List aR} {inl:Nat→List ab→aq→aB}
theorem zhO{S:aq}{e:Env}{y z:ab}{id:Nat}(h:uB S y=some z)(hn:Nb id y=true):y.den G e≠ .aM id:=by
 unfold uB at h
 split at h
 ·intro h'
  cases h'
 ·rename_i j
  intro h';simp only[ab.den,aC.aM.injEq]at h';subst h';simp[Nb]at hn
 ·split at h
  ·rename_i d hd
   rw[(Dd (G:=G) (e:=e) hd).1];intro h'
   cases h'
  ·cases h
theorem zhP{R:List la}(fQ: ∀r∈R,tn P G r)(bW:fP P G M inl):fP P G M (Nc R inl):=fun f ys S e ad ar hf ai=>by
 unfold Nc at ai⊢
 split at ai
 rotate_left
 ·exact bW _ _ S e ad ar hf ai
 rename_i r id i y M4
 obtain⟨hm,rfl⟩:=Ui M4
 split at ai
 rotate_left
 ·exact bW _ _ S e ad ar hf ai
 rename_i bz lp c7 z ah aV
 split at ai
 rotate_left
 ·exact bW _ _ S e ad ar hf ai
 rename_i aj
 simp only[Bool.and_eq_true,decide_eq_true_eq]at aj
 obtain⟨⟨fu,gE⟩,⟨kM,r2,yx⟩,⟨tD,vJ⟩,Mx,UE⟩:=aj
 have fu:=Nat.eq_of_beq_eq_true fu
 subst fu
 subst gE
 have vQ:c7.lt S.k=true:=uK ad.h ah
 have nE:ft (cw G e S.h) (bZ r.c) (y.den G e)=some (List.map (b9 r.c) (z.az e (.li r.c))):=
  Dn (G:=G) (N:=0) (B:=0) (e:=e) aV r2 (fun d hd=>by rw[hd]at UE;exact of_decide_eq_true UE)
 have bb:aD (cw G e S.h) id=some (.row false r.t (bZ r.c) (List.map (b9 r.c) (c7.az e (.li r.c)))):=by
  simp only[ef,ah,Option.map_some,bB.den]
 obtain⟨gL,gu,Li,_⟩:fc.ok M e (.ez r.c c7 none (some i))∧fc.ok M e (.up r.c z (.cs (.int .i64 0)))∧fc.ok M e (.f2 r.bytes (.ap r.c) c7 z)∧True:=⟨ai.1,ai.2.1,ai.2.2.1,trivial⟩
 have Nd:ck (i.dyn e)=i.az e (.int .i64):=lv tD
 have Rb:0≤i.az e (.int .i64)∧i.az e (.int .i64)≤((c7.az e (.li r.c)).length:Int):=by
  rw[←Nd];exact gL
 have Dg:0<(z.az e (.li r.c)).length:=by
  have h:(0:Int)<(List.length (z.az e (.li r.c)):Int):=gu.2
  omega
 have zhQ:i.den G e= .au (.v (.int .i64 (i.az e (.int .i64)))):=jn tD
 have hV:ab.bO G e [.aM id,i,y]=[.aM id,.au (.v (.int .i64 (i.az e (.int .i64)))),y.den G e]:=by
  rw[←zhQ];rfl
 rw[hV]
 refine(fQ r hm (n:=S.n) bb nE (zhO aV Mx) Dg Rb Li).res fun v bU ⟨aa,ae⟩=>?_
 let aA:=ba.put e S.k ((bJ.ez r.c c7 none (some i)).den M e)
 let bh:=ba.put aA (S.k+1) ((bJ.f2 (.ap r.c) (.aT (.li r.c) S.k) z).den M aA)
 let ct:=ba.put bh (S.k+2) ((bJ.ez r.c c7 (some i) none).den M bh)
 let e1:=ba.put ct (S.k+3) ((bJ.f2 (.ap r.c) (.aT (.li r.c) (S.k+1)) (.aT (.li r.c) (S.k+2))).den M ct)
 have cb:bX S.k e aA:=bX.put (Nat.le_refl _)
 have a2:bX S.k e bh:=cb.trans (bX.put (k:=S.k) (by omega)) (Nat.le_refl _)
 have a3:bX S.k e ct:=a2.trans (bX.put (k:=S.k) (by omega)) (Nat.le_refl _)
 have a4:bX S.k e e1:=a3.trans (bX.put (k:=S.k) (by omega)) (Nat.le_refl _)
 have c1:(ab.aT (.li r.c) S.k).az aA (.li r.c)=(c7.az e (.li r.c)).take (i.az e (.int .i64)).toNat:=wY (by
  rw[Env.h7,if_pos rfl]
  simp only[bJ.den,l8,iy,Nd])
 have di:(ab.aT (.li r.c) (S.k+1)).az bh (.li r.c)=(c7.az e (.li r.c)).take (i.az e (.int .i64)).toNat++z.az e (.li r.c):=wY (by
  rw[Env.h7,if_pos rfl];show(⟨.li r.c,List.append ((ab.aT (.li r.c) S.k).az aA (.li r.c)) (z.az aA (.li r.c))⟩:aF)=_;rw[c1,eC cb yx]
  rfl)
 have gQ:(ab.aT (.li r.c) (S.k+2)).az ct (.li r.c)=(c7.az e (.li r.c)).drop (i.az e (.int .i64)).toNat:=wY (by
  rw[Env.h7,if_pos rfl];simp only[bJ.den,l8,iy]
  rw[eC a2 vQ,q1 a2 vJ,Nd])
 have zhR:(ab.aT (.li r.c) (S.k+1)).az ct (.li r.c)=(c7.az e (.li r.c)).take (i.az e (.int .i64)).toNat++z.az e (.li r.c):=by
  rw[←di];exact eC (k:=S.k+2) (bX.put (Nat.le_refl _)) (jI (by omega))
 have o7:(ab.aT (.li r.c) (S.k+3)).az e1 (.li r.c)=(c7.az e (.li r.c)).take (i.az e (.int .i64)).toNat++z.az e (.li r.c)++(c7.az e (.li r.c)).drop (i.az e (.int .i64)).toNat:=wY (by
  rw[Env.h7,if_pos rfl];show(⟨.li r.c,List.append ((ab.aT (.li r.c) (S.k+1)).az ct (.li r.c)) ((ab.aT (.li r.c) (S.k+2)).az ct (.li r.c))⟩:aF)=_;rw[zhR,gQ]
  rfl)
 refine⟨⟨ba.put .emp 0 (.aM S.n),(S.n,.rw r.t r.c (.aT (.li r.c) (S.k+3)))::hl id S.h,S.n+1,S.k+4,S.g⟩,e1,rfl,?_,?_,⟨fun j x af=>?_,?_,?_⟩,?_,a4,Nat.le_add_right _ _⟩
 ·rw[aa]
  show _=ab.den G _ (aq.at _ 0);unfold aq.at
  simp only[ba.hR,if_true,ab.den]
 ·rw[ae]
  simp only[cw,bB.den,oW,o7,wF a4 ad.h]
 ·simp only[ba.hR]at af
  split at af
  ·cases af
   rfl
  ·simp[ba.get]at af
 ·show(Nat.blt (S.k+3) (S.k+4)&&eE (S.k+4) (hl id S.h))=true
  rw[jI (by omega),nJ id (ss (by omega) ad.h)]
  rfl
 ·exact nD (k:=S.k) (m:=S.k+4) (by omega) ad.g
 ·exact h8 a4 ad.g hf
end
def BK(P:Program)(H:jx)(T:List (Nat × bF))(Z:Nat × Nat × Nat)(R I:List la)(B:List jQ)(C:List h1):Nat→Nat→List ab→aq→aB
 |0=>fun _ _ _=>.bad 40
 |n+1=>LD P H T (Nc I (M3 R (MY Z.1 Z.2.1 Z.2.2 (Mw B (Mj C (BK P H T Z R I B C n))))))
section
variable {P:Program} {G:a8} {M:List aR}
theorem FZ{Z:Nat × Nat × Nat}{R I:List la}{B:List jQ}{C:List h1}{H:jx}{T:List (Nat × bF)}(kK:LF P G M H)(fQ: ∀r∈R,na P G r)(bW: ∀r∈I,tn P G r)(r0:tz P G Z.1 Z.2.1 Z.2.2)(fy:Ix P G M B)(ml:qD P G M C): ∀n,fP P G M (BK P H T Z R I B C n)
 |0=>fun _ _ _ _ _ _ _ h=>h.elim
 |n+1=>zfb kK (zhP bW (zhd fQ (zg1 r0 (zgq fy (zgb ml (FZ kK fQ bW r0 fy ml n))))))
end
end Go.aK
