/- TE, part L: calls whose result is a new own row (slices.Clone). Conditions: none. -/
import Derived.Test.YtmkpmgfieagphaaGreatDoorJTEk
import Derived.Shelf.Spec.SlicesInsertGrow
import Derived.Shelf.SlGeneric
import Derived.Laws.CopyRow
namespace Go.aM
open Go
structure lD where
 f:Nat
 t:TypeId
 c:bL
 bytes:Nat
def Bj(f:Nat):List lD→Option lD
 |[]=>none
 |r::l=>match Nat.beq r.f f with
  |true=>some r
  |false=>Bj f l
def nL(P:Program)(G:a8)(r:lD):Prop:=
 ∀{σ:Heap} {n:Nat} {y:aD} {l:List (fJ r.c)},fr σ (bZ r.c) y=some (l.map (cb r.c))→l.length≤maxLen∧l.length*r.bytes≤140737488355328→
  dF P G r.f [y] σ n fun v bV=>v= .aO n∧bV=(n,.row false r.t (bZ r.c) (l.map (cb r.c)))::σ
def NZ(R:List lD)(inl:Nat→List ab→aq→aB)(f:Nat)(aG:List ab)(S:aq):aB:=
 match Bj f R,aG with
 |some r,[a]=>match vi S a with
  |some z=>match(z.ew (.li r.c)&&z.lt S.k)&&(match vj S a with
   |some d=>decide (d=r.c)
   |none=>true)with
   |true=>.eG (.f2 r.bytes (.ap r.c) (.cs (.slice none 0 0)) z) (.cH .cj ⟨ba.put .emp 0 (.aO S.n),(S.n,.rw r.t r.c z)::S.h,S.n+1,S.k,S.g⟩)
   |false=>inl f aG S
  |none=>inl f aG S
 |_,_=>inl f aG S
section
variable {P:Program} {G:a8} {M:List aS} {inl:Nat→List ab→aq→aB}
theorem U4{f:Nat}{R:List lD}{r:lD}(h:Bj f R=some r):r∈R∧r.f=f:=by
 induction R with
 |nil=>cases h
 |cons q l a1=>
  simp only[Bj]at h
  split at h
  ·rename_i ad
   cases h;exact⟨List.mem_cons_self ..,Nat.eq_of_beq_eq_true ad⟩
  ·exact⟨List.mem_cons_of_mem _ (a1 h).1,(a1 h).2⟩
theorem zhD{R:List lD}(fL: ∀r∈R,nL P G r)(bU:fK P G M inl):fK P G M (NZ R inl):=fun f aG S e ad ar hf ai=>by
 unfold NZ at ai⊢
 split at ai
 rotate_left
 ·exact bU _ _ S e ad ar hf ai
 rename_i r a N0
 obtain⟨hm,rfl⟩:=U4 N0
 split at ai
 rotate_left
 ·exact bU _ _ S e ad ar hf ai
 rename_i z aQ
 split at ai
 rotate_left
 ·exact bU _ _ S e ad ar hf ai
 rename_i aj
 simp only[Bool.and_eq_true]at aj
 obtain⟨⟨ft,gG⟩,kZ⟩:=aj
 have ob:fr (cx G e S.h) (bZ r.c) (a.den G e)=some (List.map (cb r.c) (z.aA e (.li r.c))):=
  Ed (G:=G) (N:=0) (B:=0) (e:=e) aQ ft (fun d hd=>by rw[hd]at kZ;exact of_decide_eq_true kZ)
 obtain⟨gR,_⟩:fe.ok M e (.f2 r.bytes (.ap r.c) (.cs (.slice none 0 0)) z)∧True:=⟨ai.1,trivial⟩
 have hv:(ab.cs (.slice none 0 0)).aA e (.li r.c)=([]:List (fJ r.c)):=by simp only[ab.aA,ab.fo,cA]
 simp only[fe.ok,cC.u0,cC.a,cC.b,hv,List.length_nil,Nat.zero_add]at gR
 refine(fL r hm (n:=S.n) ob gR).res fun v bV ⟨aa,ae⟩=>⟨⟨ba.put .emp 0 (.aO S.n),(S.n,.rw r.t r.c z)::S.h,S.n+1,S.k,S.g⟩,e,rfl,?_,?_,⟨fun i y hi=>?_,?_,ad.g⟩,hf,bX.refl _ _,Nat.le_refl _⟩
 ·rw[aa]
  show _=ab.den G _ (aq.at _ 0);unfold aq.at
  simp only[ba.h0,if_true,ab.den]
 ·rw[ae]
  rfl
 ·simp only[ba.h0]at hi
  split at hi
  ·cases hi
   rfl
  ·simp[ba.get]at hi
 ·show(z.lt S.k&&eH S.k S.h)=true
  rw[gG,ad.h];rfl
end
end Go.aM
namespace Go.aM
open Go Go.Proofs Go.Shelf Go.RowKit Go.Lib
section
variable {P:Program}
theorem Fx(w:World)(az zhE ty elem:TypeId)(s g o N1 zhF:Nat)(a:Addr)(N2 zhG:Nat)(cur:Array Value)(t:TypeId)(cs:List Value)
 (hu:P.underlying az=some (.slice elem))(ai:(P.info? elem).map (·.size)=some s)
 (ah:w.heap[g]? =some (.cells cur t (0,0)))(hn:cs.length=Nat.min N2 N1*s)
 (ob: ∀j v,cs[j]? =some v→w.cell? (a.add j)=some v)(qf:o+cs.length≤cur.size)(aa: ∀v∈cs,v.oneCell'=true):
 (Builtin.copy_ #[az,zhE] ty #[.slice (some ⟨g,o,none⟩) N1 zhF,.slice (some a) N2 zhG]).run P w=
  .ok (goInt (Nat.min N2 N1)) (w.setRow g (cur.toList.take o++cs++cur.toList.drop (o+cs.length)).toArray):=by
 have ar:=run_loadCells_list (P:=P) w a cs ob
 have dD:=run_storeCells_at P g o t cs 0 cur w ah (by simpa using qf) aa
 rw[hn]at ar
 simp only[Nat.add_zero]at dD
 cases aJ:P.info? elem with
 |none=>simp[aJ]at ai
 |some i=>
  have hi:i.size=s:=by simpa[aJ]using ai
  simp[Builtin.copy_,run_underlying hu,Builtin.lenOf,Builtin.firstCells,sizeOf,typeInfo,aJ,hi,ar,dD]
theorem zhH(w:World)(N3 zhI e:TypeId)(aI:P.underlying N3=some (.slice e))(size:Nat)(aQ: ∀w,(Go.sizeOf e).run P w= .ok size w)
 (a b:Addr)(U5 ca ye Bk:Nat)(b5:a.block≠b.block)(tJ qR:TypeId)(nB Bl:Nat)
 (yf:w.shape? a.block=some (tJ,nB))(Fy:nB≠0)(Au:w.shape? b.block=some (qR,Bl))(zhJ:Bl≠0)
 (zhK:w.frozen? b=false)(zhL:w.frozen? {block:=b.block,off:=Bl}=false):
 (Extern.SlicesOverlaps.overlaps #[N3,N3] #[zhI] #[.slice (some a) U5 ca,.slice (some b) ye Bk]).run P w= .ok (.bool false) w:=by
 have zhM:(a.block != b.block)=true:=by simpa using b5
 have zhN:(a.block==b.block)=false:=by simpa using b5
 refine(?_:Sem.run P (Bind.bind _ _) w=_)
 by_cases aH:U5=0∨ye=0∨size=0
 ·simp[run_underlying aI,aQ,aH]
 ·cases Bl with
  |zero=>exact absurd rfl zhJ
  |succ Bl=>
   cases nB with
   |zero=>exact absurd rfl Fy
   |succ nB=>
    simp[run_underlying aI,aQ,aH,zhM,zhN,frozen,noView,viewAt,mayBeOne,stringish,shape,Sem.run,yf,Au,zhK,zhL]
theorem zhO{α:Type}(cur cs vs:List α)(k M:Nat)(aa:k+M+cs.length≤cur.length)(ae:vs.length=M):
 (((cur.take (k+M)++cs++cur.drop (k+M+cs.length)).take k++vs++(cur.take (k+M)++cs++cur.drop (k+M+cs.length)).drop (k+vs.length)).length=cur.length)∧
 ((cur.take (k+M)++cs++cur.drop (k+M+cs.length)).take k++vs++(cur.take (k+M)++cs++cur.drop (k+M+cs.length)).drop (k+vs.length)).take (k+M+cs.length)=cur.take k++vs++cs:=by
 have hd:(cur.take (k+M)++cs++cur.drop (k+M+cs.length)).drop (k+vs.length)=cs++cur.drop (k+M+cs.length):=by
  rw[List.append_assoc];exact List.drop_left' (by rw[List.length_take];omega)
 have aI:(cur.take (k+M)++cs++cur.drop (k+M+cs.length)).take k=cur.take k:=by
  rw[List.append_assoc,List.take_append_of_le_length (by rw[List.length_take];omega),List.take_take]
  congr 1
  omega
 rw[hd,aI]
 refine⟨by simp only[List.length_append,List.length_take,List.length_drop];omega,?_⟩
 rw[←List.append_assoc]
 exact List.take_left' (by simp only[List.length_append,List.length_take];omega)
structure wg (P:Program) (a7:Ren):Prop where
 mixed:P.follows .mixedOrders=true
 f22:Bears P (a7.f 22) (Body2.n22 a7)
 f29: ∀args w,(callFunc (a7.f 29) args).run P w=((Extern.SlicesOverlaps.overlaps #[(a7.t 24),(a7.t 24)] #[(a7.t 4)] args).run P w).andThen fun v w'=>.ok (.value v) w'
 t3:P.underlying (a7.t 3)=some (TypeDesc.int IntKind.i64)
 a3: ∀w,(isAgg (a7.t 3)).run P w= .ok false w
 z3: ∀w,(Go.sizeOf (a7.t 3)).run P w= .ok 1 w
 v3: ∀w,(zeroValue (a7.t 3)).run P w= .ok (Value.int IntKind.i64 0) w
 t4:P.underlying (a7.t 4)=some (TypeDesc.bool)
 a4: ∀w,(isAgg (a7.t 4)).run P w= .ok false w
 z4: ∀w,(Go.sizeOf (a7.t 4)).run P w= .ok 1 w
 v4: ∀w,(zeroValue (a7.t 4)).run P w= .ok (Value.bool false) w
 t24:P.underlying (a7.t 24)=some (TypeDesc.slice (a7.t 9))
 a24: ∀w,(isAgg (a7.t 24)).run P w= .ok false w
 z24: ∀w,(Go.sizeOf (a7.t 24)).run P w= .ok 1 w
 v24: ∀w,(zeroValue (a7.t 24)).run P w= .ok (Value.slice none 0 0) w
variable {a7:Ren}
set_option maxHeartbeats 4000000 in
set_option maxRecDepth 100000 in
theorem zhP(L:wg P a7)(i0:TypeInfo)(z:Value)(s:Nat)(hi:P.info? (a7.t 9)=some i0)(iB:i0.size=s)(sd:0<s)
 (z9: ∀w,(Go.sizeOf (a7.t 9)).run P w= .ok s w)(g n c i m kv:Nat)(aV:Addr)(cur:Array Value)(t:TypeId)(vs:List Value)(w:World)
 (kS:i<n)(hm:0<m)(xu:n+m≤c)(Ke:c≤maxLen)(U6:aV.block≠g)
 (ah:w.heap[g]? =some (.cells cur t (0,0)))(tK:cur.size=c*s)(fy:vs.length=m*s)
 (mL: ∀j v,vs[j]? =some v→w.cell? (aV.add j)=some v)(Bm: ∀v∈cur.toList.take (n*s),v.oneCell'=true)(nC: ∀v∈vs,v.oneCell'=true)
 (tJ:TypeId)(nB:Nat)(yf:w.shape? aV.block=some (tJ,nB))(Fy:nB≠0):
 Calls P (a7.f 22) #[.slice (some ⟨g,0,none⟩) n c,.int .i64 i,.slice (some aV) m kv] w fun e w'=>
  e= .returned (.slice (some ⟨g,0,none⟩) (n+m) c)∧∃se:Array Value,w'=w.drew.setRow g se∧se.size=cur.size∧se.toList.take ((n+m)*s)=cur.toList.take (i*s)++vs++(cur.toList.take (n*s)).drop (i*s):=by
 have t3:=L.t3;have a3:=L.a3;have z3:=L.z3;have v3:=L.v3;have t4:=L.t4;have a4:=L.a4;have z4:=L.z4;have v4:=L.v4;have t24:=L.t24;have a24:=L.a24;have z24:=L.z24;have v24:=L.v24
 have yc:=run_underlying L.t3;have U7:=run_underlying L.t4;have U8:=run_underlying L.t24
 have U9: ¬((m:Int)=0):=by omega
 have kN: ¬((i:Int)=(n:Int)):=by omega
 have mixed:=L.mixed
 have Va:=L.f29
 obtain⟨_,_,sc⟩:=L.f22
 have zhQ: ∀off ye Bk,(callFunc (a7.f 29) #[.slice (some aV) m kv,.slice (some ⟨g,off,none⟩) ye Bk]).run P w= .ok (.value (.bool false)) w:=fun off ye Bk=>by
  rw[Va]
  have h:=zhH w (a7.t 24) (a7.t 4) (a7.t 9) L.t24 s z9 aV ⟨g,off,none⟩ m kv ye Bk U6 tJ t nB cur.size yf Fy (by simp[World.shape?,ah]) (by rw[tK];exact Nat.mul_ne_zero (by omega) (by omega)) (by simp[World.frozen?,ah]) (by simp[World.frozen?,ah])
  rw[h];rfl
 unfold maxLen at Ke
 have zhR:IntKind.i64.wrap ((i:Int)+(m:Int))=(i:Int)+(m:Int):=by rw[IntKind.wrap_i64];omega
 have ih:(0:Int)≤(i:Int)+(m:Int):=by omega
 have N4:i≤n:=by omega
 have zhS:((i:Int)+(m:Int)).toNat=i+m:=by omega
 have o8: ¬(c=i+m):=by omega
 have zhT:(i:Int)≤(n:Int)+(m:Int):=by omega
 have zi1: ¬(c=i):=by omega
 have bP:(P.info? (a7.t 9)).map (·.size)=some s:=by rw[hi];simp[iB]
 have jn:cur.toList.length=c*s:=by simpa using tK
 have aC:(i+m)*s=i*s+m*s:=Nat.add_mul ..
 have bf:(n+m)*s=n*s+m*s:=Nat.add_mul ..
 have cg:i*s≤n*s:=Nat.mul_le_mul_right _ N4
 have ek:(n+m)*s≤c*s:=Nat.mul_le_mul_right _ xu
 have kz:(n-i)*s=n*s-i*s:=Nat.sub_mul ..
 obtain⟨cs,dI⟩: ∃cs,cs=(cur.toList.take (n*s)).drop (i*s):=⟨_,rfl⟩
 have ou:cs.length=(n-i)*s:=by rw[dI,List.length_drop,List.length_take,jn,kz];omega
 obtain⟨dv,oo⟩: ∃dv,dv=(cur.toList.take ((i+m)*s)++cs++cur.toList.drop ((i+m)*s+cs.length)).toArray:=⟨_,rfl⟩
 have Bn:dv.size=cur.size:=by
  rw[oo];simp only[List.size_toArray,List.length_append,List.length_take,List.length_drop,jn,ou,tK];omega
 have zhU: ∀ty lZ mB,(Builtin.copy_ #[(a7.t 24),(a7.t 24)] ty #[.slice (some ⟨g,(i+m)*s,none⟩) (n+m-(i+m)) lZ,.slice (some ⟨g,i*s,none⟩) (n+m-i) mB]).run P w.drew= .ok (goInt (Nat.min (n+m-i) (n+m-(i+m)))) (w.drew.setRow g dv):=fun ty lZ mB=>by
  rw[oo]
  exact Fx w.drew _ _ ty (a7.t 9) s g ((i+m)*s) (n+m-(i+m)) lZ ⟨g,i*s,none⟩ (n+m-i) mB cur t cs L.t24 bP ah
   (by rw[ou];congr 1;simp only[Nat.min_def];split<;>omega)
   (fun j v ag=>by
    rw[Addr.add_lit];rw[dI,List.getElem?_drop,List.getElem?_take]at ag
    split at ag
    ·rw[Array.getElem?_toList]at ag
     show World.cell? w.drew _=_
     have:w.drew.heap[g]? =some (.cells cur t (0,0)):=ah
     simp[World.cell?,this,ag]
    ·cases ag)
   (by rw[ou];omega) (fun v aw=>Bm v (by rw[dI]at aw;exact List.mem_of_mem_drop aw))
 obtain⟨en,jE⟩: ∃en,en=(dv.toList.take (i*s)++vs++dv.toList.drop (i*s+vs.length)).toArray:=⟨_,rfl⟩
 have zhV: ∀(W:World),W.heap=(w.drew.setRow g dv).heap→∀ty lZ,(Builtin.copy_ #[(a7.t 24),(a7.t 24)] ty #[.slice (some ⟨g,i*s,none⟩) (n+m-i) lZ,.slice (some aV) m kv]).run P W= .ok (goInt (Nat.min m (n+m-i))) (W.setRow g en):=fun W h7 ty lZ=>by
  rw[jE]
  have NV:W.heap[g]? =some (.cells dv t (0,0)):=by rw[h7];exact setRow_heap w.drew g cur dv t (0,0) ah
  exact Fx W _ _ ty (a7.t 9) s g (i*s) (n+m-i) lZ aV m kv dv t vs L.t24 bP NV
   (by rw[fy];congr 1;simp only[Nat.min_def];split<;>omega)
   (fun j v ag=>by
    have h:=mL j v ag
    rw[←h];refine World.cell?_of_block ?_
    rw[h7,qd]
    exact setRow_other w.drew g _ dv U6)
   (by rw[fy,Bn,tK];omega) nC
 have lT:en.size=cur.size∧en.toList.take ((n+m)*s)=cur.toList.take (i*s)++vs++cs:=by
  have h:=zhO cur.toList cs vs (i*s) (m*s) (by rw[jn,ou];omega) fy
  have mS:i*s+m*s+cs.length=(n+m)*s:=by rw[ou];omega
  rw[mS,←aC]at h;rw[aC,mS,←aC]at oo;subst oo;subst jE;simp only[List.size_toArray]at h⊢;exact⟨h.1.trans Array.length_toList,h.2⟩
 clear tK ah fy Bm nC mL yf Fy Va hi iB oo jE ou Bn jn aC bf cg ek kz
 go_enter sc,Body2.n22_ntmps a7
 go_wp2_with (simp only[zhQ])
 go_region_law_o (refine step_copy_runI rfl _ _ (a7.t 24) (a7.t 24) rfl _ _ (by simp[Act.eval,Act.put]) (by simp[Act.eval,Act.put]) (zhU _ _ _) ?_)
 go_wp2_with (at_builtin;refine wpList_copy_runI _ rfl _ _ (a7.t 24) (a7.t 24) rfl _ _ rfl rfl (zhV _ rfl _ _) ?_)
 go_ret
 exact⟨rfl,en,setRow_setRow ..,dI ▸ lT⟩
theorem zhW{α:Type}(a b d cs vs:List α)(k M:Nat)(aH:a.length=k)(aa:M+cs.length≤b.length)(ae:vs.length=M):
 ((((a++b++d).take k++vs++(a++b++d).drop (k+vs.length)).take (k+M)++cs++((a++b++d).take k++vs++(a++b++d).drop (k+vs.length)).drop (k+M+cs.length)).length=(a++b++d).length)∧
 (((a++b++d).take k++vs++(a++b++d).drop (k+vs.length)).take (k+M)++cs++((a++b++d).take k++vs++(a++b++d).drop (k+vs.length)).drop (k+M+cs.length)).take (k+M+cs.length)=a++vs++cs:=by
 have aI:(a++b++d).take k=a:=by
  rw[List.append_assoc];exact List.take_left' aH
 rw[aI]
 have hu:(a++vs++(a++b++d).drop (k+vs.length)).take (k+M)=a++vs:=List.take_left' (by rw[List.length_append];omega)
 rw[hu]
 refine⟨by simp only[List.length_append,List.length_drop];omega,?_⟩
 exact List.take_left' (by simp only[List.length_append];omega)
theorem Vb(z:Array Value)(k:Nat):(Builtin.zeroCells z k).size=k*z.size:=by
 unfold Builtin.zeroCells
 simp
set_option maxHeartbeats 4000000 in
set_option maxRecDepth 100000 in
theorem zhX(L:wg P a7)(i0:TypeInfo)(z:Value)(s bytes:Nat)(hi:P.info? (a7.t 9)=some i0)(lY:i0.zero=some z)(iB:i0.size=s)(kN:i0.bytes=bytes)(e9:z.cells.size=s)(sd:0<s)
 (z9: ∀w,(Go.sizeOf (a7.t 9)).run P w= .ok s w)(g n c i m kv:Nat)(aV:Addr)(cur:Array Value)(t:TypeId)(vs:List Value)(w:World)
 (kS:i<n)(hm:0<m)(As:n≤c)(xu:c<n+m)(nu:n+m≤maxLen)(sb:(n+m)*bytes≤140737488355328)
 (ah:w.heap[g]? =some (.cells cur t (0,0)))(tK:cur.size=c*s)(fy:vs.length=m*s)
 (mL: ∀j v,vs[j]? =some v→w.cell? (aV.add j)=some v)(Bm: ∀v∈cur.toList.take (n*s),v.oneCell'=true)(nC: ∀v∈vs,v.oneCell'=true)(zhY:aV.block<w.heap.size):
 Calls P (a7.f 22) #[.slice (some ⟨g,0,none⟩) n c,.int .i64 i,.slice (some aV) m kv] w fun e w'=>
  ∃(G:Nat) (en:Array Value),e= .returned (.slice (some ⟨w.heap.size,0,none⟩) (n+m) G)∧n+m≤G∧G≤maxLen∧w.grownBy w' none∧w'.heap[w.heap.size]? =some (.cells en (a7.t 9) (0,0))∧en.size=G*s∧
   en.toList.take ((n+m)*s)=cur.toList.take (i*s)++vs++(cur.toList.take (n*s)).drop (i*s):=by
 have t3:=L.t3;have a3:=L.a3;have z3:=L.z3;have v3:=L.v3;have t4:=L.t4;have a4:=L.a4;have z4:=L.z4;have v4:=L.v4;have t24:=L.t24;have a24:=L.a24;have z24:=L.z24;have v24:=L.v24
 have yc:=run_underlying L.t3;have U7:=run_underlying L.t4;have U8:=run_underlying L.t24
 have mixed:=L.mixed
 obtain⟨_,_,sc⟩:=L.f22
 have U9: ¬((m:Int)=0):=by omega
 have zi2: ¬((i:Int)=(n:Int)):=by omega
 have zi3:(c:Int)<(n:Int)+(m:Int):=by omega
 have bP:(P.info? (a7.t 9)).map (·.size)=some s:=by rw[hi];simp[iB]
 have zhZ:g<w.heap.size:=(Array.getElem?_eq_some_iff.1 ah).1
 have q9:(n:Int)+(m:Int)-(i:Int)=((n+m-i:Nat):Int):=by omega
 have q6:i+(n+m-i)=n+m:=by omega
 have N4:i≤n:=by omega
 have jn:cur.toList.length=c*s:=by simpa using tK
 have aC:(i+m)*s=i*s+m*s:=Nat.add_mul ..
 have bf:(n+m)*s=n*s+m*s:=Nat.add_mul ..
 have cg:i*s≤n*s:=Nat.mul_le_mul_right _ N4
 have ek:n*s≤c*s:=Nat.mul_le_mul_right _ As
 have kz:(n-i)*s=n*s-i*s:=Nat.sub_mul ..
 have pU:(n+m-i)*s=n*s+m*s-i*s:=by rw[Nat.sub_mul,bf]
 have zh0:(n+m-i)*bytes≤(n+m)*bytes:=Nat.mul_le_mul_right _ (by omega)
 have N5: ∀(W:World),W.heap[g]? =some (.cells cur t (0,0))→∀k v,cur.toList[k]? =some v→W.cell? ⟨g,k,none⟩=some v:=fun W h7 k v aw=>by
  rw[Array.getElem?_toList]at aw
  simp[World.cell?,h7,aw]
 have hold:(Builtin.firstCells i0.size i (.slice (some ⟨g,0,none⟩) i c)).run P w.drew= .ok (cur.toList.take (i*s)).toArray w.drew:=by
  rw[iB]
  exact run_firstCells_some w.drew s i ⟨g,0,none⟩ i c (cur.toList.take (i*s)) (by rw[List.length_take];omega) (fun j v ag=>by
   rw[Addr.add_lit,Nat.zero_add];rw[List.getElem?_take]at ag
   split at ag
   ·exact N5 w.drew ah j v ag
   ·cases ag)
 have kb: ∀ty,(Builtin.append_ #[(a7.t 24),(a7.t 3)] ty #[.slice (some ⟨g,0,none⟩) i c,.int .i64 ((n:Int)+(m:Int)-(i:Int))]).run P w=
  .ok (.slice (some ⟨w.heap.size,0,none⟩) (n+m) (grownCap w (n+m) c (a7.t 9))) (w.drew.alloc (.cells ((cur.toList.take (i*s)).toArray++Builtin.zeroCells z.cells (n+m-i)++Builtin.zeroCells z.cells (grownCap w (n+m) c (a7.t 9)-(n+m))) (a7.t 9))):=fun ty=>by
  have h:=Lib.run_append_grow_zeros w (a7.t 24) (a7.t 3) ty (a7.t 9) i0 _ .i64 .i64 L.t24 L.t3 hi lY (some ⟨g,0,none⟩) i c (cur.toList.take (i*s)) hold (n+m-i) (by omega) (by omega) (by omega) (by unfold maxLen at nu;omega) (by rw[kN];omega) (by rw[kN,q6];exact growslice_fits xu sb)
  rw[q6]at h;rw[q9];exact h
 obtain⟨G,kW⟩: ∃G,G=grownCap w (n+m) c (a7.t 9):=⟨_,rfl⟩
 obtain⟨jY,Fz⟩: ∃jY:Array Value,jY=(cur.toList.take (i*s)).toArray++Builtin.zeroCells z.cells (n+m-i)++Builtin.zeroCells z.cells (G-(n+m)):=⟨_,rfl⟩
 have Vc:n+m≤G:=by rw[kW];exact grownCap_ge w _ _ _
 have Vd:G≤maxLen:=by rw[kW];exact grownCap_le_maxLen w (n+m) c (a7.t 9) nu
 have zi4:G≤9223372036854775807:=Vd
 rw[←kW,←Fz]at kb
 have qT:(G-(n+m))*s=G*s-(n*s+m*s):=by rw[Nat.sub_mul,bf]
 have Bw:(n+m)*s≤G*s:=Nat.mul_le_mul_right _ Vc
 have FA:jY.size=G*s:=by
  rw[Fz];simp only[Array.size_append,Vb,e9,List.size_toArray,List.length_take,jn,pU,qT];omega
 obtain⟨cs,dI⟩: ∃cs,cs=(cur.toList.take (n*s)).drop (i*s):=⟨_,rfl⟩
 have ou:cs.length=(n-i)*s:=by rw[dI,List.length_drop,List.length_take,jn,kz];omega
 obtain⟨dv,oo⟩: ∃dv,dv=(jY.toList.take (i*s)++vs++jY.toList.drop (i*s+vs.length)).toArray:=⟨_,rfl⟩
 have Bn:dv.size=G*s:=by
  rw[oo];simp only[List.size_toArray,List.length_append,List.length_take,List.length_drop,Array.length_toList,FA,fy];omega
 obtain⟨en,jE⟩: ∃en,en=(dv.toList.take ((i+m)*s)++cs++dv.toList.drop ((i+m)*s+cs.length)).toArray:=⟨_,rfl⟩
 obtain⟨ov,Bo⟩: ∃ov,ov=w.drew.alloc (.cells jY (a7.t 9)):=⟨_,rfl⟩
 have FB:ov.heap[w.heap.size]? =some (.cells jY (a7.t 9) (0,0)):=by
  rw[show ov.heap=w.heap.push (.cells jY (a7.t 9) (0,0))by rw[Bo];rfl]
  exact Array.getElem?_push_size
 have FC: ∀k,k<w.heap.size→ov.heap[k]? =w.heap[k]? :=fun k aj=>by
  rw[show ov.heap=w.heap.push (.cells jY (a7.t 9) (0,0))by rw[Bo];rfl,Array.getElem?_push,if_neg (Nat.ne_of_lt aj)]
 rw[←Bo]at kb
 have zh1: ∀(W:World),W.heap=ov.heap→∀ty lZ,(Builtin.copy_ #[(a7.t 24),(a7.t 24)] ty #[.slice (some ⟨w.heap.size,i*s,none⟩) (n+m-i) lZ,.slice (some aV) m kv]).run P W= .ok (goInt (Nat.min m (n+m-i))) (W.setRow w.heap.size dv):=fun W h7 ty lZ=>by
  rw[oo]
  exact Fx W _ _ ty (a7.t 9) s w.heap.size (i*s) (n+m-i) lZ aV m kv jY (a7.t 9) vs L.t24 bP (by rw[h7];exact FB)
   (by rw[fy];congr 1;simp only[Nat.min_def];split<;>omega)
   (fun j v ag=>by
    rw[←mL j v ag];refine World.cell?_of_block ?_
    rw[h7,qd]
    exact FC _ zhY)
   (by rw[fy,FA];omega) nC
 have Ve: ∀(W:World),W.heap=(ov.setRow w.heap.size dv).heap→∀ty lZ mB,(Builtin.copy_ #[(a7.t 24),(a7.t 24)] ty #[.slice (some ⟨w.heap.size,(i+m)*s,none⟩) (n+m-(i+m)) lZ,.slice (some ⟨g,i*s,none⟩) (n-i) mB]).run P W= .ok (goInt (Nat.min (n-i) (n+m-(i+m)))) (W.setRow w.heap.size en):=fun W h7 ty lZ mB=>by
  rw[jE]
  exact Fx W _ _ ty (a7.t 9) s w.heap.size ((i+m)*s) (n+m-(i+m)) lZ ⟨g,i*s,none⟩ (n-i) mB dv (a7.t 9) cs L.t24 bP (by rw[h7];exact setRow_heap ov w.heap.size jY dv (a7.t 9) (0,0) FB)
   (by rw[ou];congr 1;simp only[Nat.min_def];split<;>omega)
   (fun j v ag=>by
    rw[Addr.add_lit];rw[dI,List.getElem?_drop,List.getElem?_take]at ag
    split at ag
    ·exact N5 W (by rw[h7,setRow_other _ _ _ _ (by omega),FC _ zhZ];exact ah) _ v ag
    ·cases ag)
   (by rw[ou,Bn];omega) (fun v aw=>Bm v (by rw[dI]at aw;exact List.mem_of_mem_drop aw))
 have lT:en.size=G*s∧en.toList.take ((n+m)*s)=cur.toList.take (i*s)++vs++cs:=by
  have h:=zhW (cur.toList.take (i*s)) (Builtin.zeroCells z.cells (n+m-i)).toList (Builtin.zeroCells z.cells (G-(n+m))).toList cs vs (i*s) (m*s) (by rw[List.length_take];omega) (by rw[ou,Array.length_toList,Vb,e9];omega) fy
  have mS:i*s+m*s+cs.length=(n+m)*s:=by rw[ou];omega
  have zh2:cur.toList.take (i*s)++(Builtin.zeroCells z.cells (n+m-i)).toList++(Builtin.zeroCells z.cells (G-(n+m))).toList=jY.toList:=by rw[Fz];simp
  rw[mS,←aC,zh2]at h;rw[aC,mS,←aC]at jE;subst jE;subst oo;simp only[List.size_toArray]at h⊢;exact⟨h.1.trans (by rw[Array.length_toList,FA]),h.2⟩
 have MW: ∀(W:World),W.heap=((ov.setRow w.heap.size dv).setRow w.heap.size en).heap→W.os=w.os→W.tape=w.tape→W.output=w.output→w.grownBy W none∧W.heap[w.heap.size]? =some (.cells en (a7.t 9) (0,0)):=fun W h7 aa ae au=>by
  rw[setRow_setRow]at h7;refine⟨⟨aa,ae,au,?_,fun k aj _=>?_⟩,?_⟩
  ·rw[h7,setRow_size,show ov.heap=w.heap.push (.cells jY (a7.t 9) (0,0))by rw[Bo];rfl,Array.size_push]
   omega
  ·rw[h7,setRow_other _ _ _ _ (by omega),FC _ aj]
  ·rw[h7]
   exact setRow_heap ov w.heap.size jY en (a7.t 9) (0,0) FB
 subst Bo
 have gQ:((w.alloc (.cells jY (a7.t 9))).drew).heap=(w.drew.alloc (.cells jY (a7.t 9))).heap:=rfl
 have hF:(((w.alloc (.cells jY (a7.t 9))).drew.setRow w.heap.size dv).drew).heap=((w.drew.alloc (.cells jY (a7.t 9))).setRow w.heap.size dv).heap:=rfl
 have zi5: ¬(G=i):=by omega
 have zi6: ¬(G=i+m):=by omega
 have zi7: ¬(c=i):=by omega
 have zhR:IntKind.i64.wrap ((i:Int)+(m:Int))=(i:Int)+(m:Int):=by rw[IntKind.wrap_i64];unfold maxLen at nu;omega
 have ih:(0:Int)≤(i:Int)+(m:Int):=by omega
 have zhS:((i:Int)+(m:Int)).toNat=i+m:=by omega
 have zhT:(i:Int)≤(n:Int):=by omega
 have zh3:=nu
 unfold maxLen at zh3
 clear q9 q6 hold Fz kW FA tK fy Bm nC mL hi lY iB kN e9 jn aC bf cg ek kz pU qT Bw zh0 oo jE ou Bn FB FC N5 ah
 go_enter sc,Body2.n22_ntmps a7
 go_wp2_with (first
  |(at_builtin;refine Lib.wpList_append_run _ rfl _ _ _ _ rfl _ _ rfl rfl _ _ (kb _) ?_)
  |(at_builtin;refine wpList_copy_runI _ rfl _ _ (a7.t 24) (a7.t 24) rfl _ _ rfl rfl (zh1 _ gQ _ _) ?_)
  |(at_builtin;refine wpList_copy_runI _ rfl _ _ (a7.t 24) (a7.t 24) rfl _ _ rfl rfl (Ve _ hF _ _ _) ?_))
 go_region_law_o (refine step_copy_runI rfl _ _ (a7.t 24) (a7.t 24) rfl (.slice (some ⟨w.heap.size,(i+m)*s,none⟩) (n+m-(i+m)) (G-(i+m))) (.slice (some ⟨g,i*s,none⟩) (n-i) (c-i)) (by simp[Act.eval,Act.put]) (by simp[Act.eval,Act.put]) (Ve _ hF (a7.t 3) (G-(i+m)) (c-i)) ?_)
 go_wp2
 go_ret
 have h:=MW ((((w.alloc (.cells jY (a7.t 9))).drew.setRow w.heap.size dv).drew).setRow w.heap.size en) rfl rfl rfl rfl
 exact⟨G,en,rfl,Vc,Vd,h.1,h.2,lT.1,dI ▸ lT.2⟩
set_option maxHeartbeats 4000000 in
set_option maxRecDepth 100000 in
theorem Vf(L:wg P a7)(i0:TypeInfo)(z:Value)(s bytes:Nat)(hi:P.info? (a7.t 9)=some i0)(lY:i0.zero=some z)(iB:i0.size=s)(kN:i0.bytes=bytes)(e9:z.cells.size=s)(sd:0<s)
 (z9: ∀w,(Go.sizeOf (a7.t 9)).run P w= .ok s w)(b:Option Addr)(n c m kv:Nat)(aV:Addr)(xs vs:List Value)(w:World)(c1:ib w (a7.t 9) s (.slice b n c) n xs)
 (hm:0<m)(nu:n+m≤maxLen)(sb:(n+m)*bytes≤140737488355328)(fy:vs.length=m*s)
 (mL: ∀j v,vs[j]? =some v→w.cell? (aV.add j)=some v)(nC: ∀v∈vs,v.oneCell'=true)(As:n≤c):
 Calls P (a7.f 22) #[.slice b n c,.int .i64 n,.slice (some aV) m kv] w fun e w'=>
  ∃bh,e= .returned bh∧ib w' (a7.t 9) s bh (n+m) (xs++vs)∧w.grownBy w' (b4 (.slice b n c))∧(∀k,b4 bh=some k→b4 (.slice b n c)=some k∨w.heap.size≤k):=by
 have t3:=L.t3;have a3:=L.a3;have z3:=L.z3;have v3:=L.v3;have t4:=L.t4;have a4:=L.a4;have z4:=L.z4;have v4:=L.v4;have t24:=L.t24;have a24:=L.a24;have z24:=L.z24;have v24:=L.v24
 have yc:=run_underlying L.t3;have U7:=run_underlying L.t4;have U8:=run_underlying L.t24
 have mixed:=L.mixed
 obtain⟨_,_,sc⟩:=L.f22
 have U9: ¬((m:Int)=0):=by omega
 have Vg:b=none→n=0∧c=0:=fun h=>by
  subst h
  rcases c1.2 with⟨⟨b,ad,_⟩,_⟩|⟨g,cap,cur,h,_⟩
  ·cases ad
   exact⟨rfl,rfl⟩
  ·cases h
 obtain⟨bh,w',cp,kH,cS,bg⟩:=Db (P:=P) (w:=w) (a7.t 24) (a7.t 24) (a7.t 9) L.t24 hi lY iB kN e9 sd c1 (b:=some aV) (m:=m) (cap:=kv) fy (fun h=>by cases h) (fun a aY=>by cases aY;exact mL) nC nu sb
 clear mL nC c1 fy hi lY iB kN e9
 unfold maxLen at nu
 cases b with
 |none=>
  obtain⟨rfl,rfl⟩:=Vg rfl
  go_enter sc,Body2.n22_ntmps a7
  go_wp2_with (at_builtin;refine Lib.wpList_append_run _ rfl _ _ _ _ rfl _ _ rfl rfl _ _ cp ?_)
  go_ret
  exact⟨bh,rfl,by simpa using kH,cS,bg⟩
 |some a=>
  clear Vg
  by_cases UW:c=n
  ·subst UW
   go_enter sc,Body2.n22_ntmps a7
   go_wp2_with (at_builtin;refine Lib.wpList_append_run _ rfl _ _ _ _ rfl _ _ rfl rfl _ _ cp ?_)
   all_goals go_ret
   all_goals exact⟨bh,rfl,kH,cS,bg⟩
  ·go_enter sc,Body2.n22_ntmps a7
   go_wp2_with (at_builtin;refine Lib.wpList_append_run _ rfl _ _ _ _ rfl _ _ rfl rfl _ _ cp ?_)
   all_goals go_ret
   all_goals exact⟨bh,rfl,kH,cS,bg⟩
theorem zh4(L:wg P a7)(i0:TypeInfo)(z:Value)(s bytes:Nat)(hi:P.info? (a7.t 9)=some i0)(lY:i0.zero=some z)(iB:i0.size=s)(kN:i0.bytes=bytes)(e9:z.cells.size=s)(sd:0<s)
 (z9: ∀w,(Go.sizeOf (a7.t 9)).run P w= .ok s w){v:Value}{n i m kv:Nat}{aV:Addr}{xs vs:List Value}{w:World}(c1:ib w (a7.t 9) s v n xs)(kS:i≤n)
 (hm:0<m)(nu:n+m≤maxLen)(sb:(n+m)*bytes≤140737488355328)(fy:vs.length=m*s)
 (mL: ∀j v,vs[j]? =some v→w.cell? (aV.add j)=some v)(Vh: ∀v∈xs,v.oneCell'=true)(nC: ∀v∈vs,v.oneCell'=true)(b5:b4 v≠some aV.block):
 Calls P (a7.f 22) #[v,.int .i64 i,.slice (some aV) m kv] w fun e w'=>
  ∃bh,e= .returned bh∧ib w' (a7.t 9) s bh (n+m) (xs.take (i*s)++vs++xs.drop (i*s))∧w.grownBy w' (b4 v)∧(∀k,b4 bh=some k→b4 v=some k∨w.heap.size≤k):=by
 have jO:=c1.1
 have fin:i=n→xs.take (i*s)++vs++xs.drop (i*s)=xs++vs:=fun h=>by
  subst h;rw[List.take_of_length_le (by omega),List.drop_of_length_le (by omega),List.append_nil]
 have Vi:=c1
 rcases c1.2 with⟨⟨b,rfl,_⟩,rfl⟩|⟨g,cap,cur,rfl,hc,ah,hle,ig,dI,hx⟩
 ·have:i=0:=by omega
  subst this;rw[fin rfl];exact Vf L i0 z s bytes hi lY iB kN e9 sd z9 b 0 0 m kv aV xs vs w Vi hm nu sb fy mL nC (Nat.le_refl _)
 ·by_cases he:i=n
  ·rw[fin he]
   subst he;exact Vf L i0 z s bytes hi lY iB kN e9 sd z9 _ i cap m kv aV xs vs w Vi hm nu sb fy mL nC hle
  ·have bI:i<n:=by omega
   have ow:0<vs.length:=by rw[fy];exact Nat.mul_pos hm sd
   have hC:=mL 0 vs[0] (by simp[ow])
   obtain⟨tJ,nB,yf,zh5,hL⟩: ∃tJ nB,w.shape? aV.block=some (tJ,nB)∧nB≠0∧aV.block<w.heap.size:=by
    have ad:(aV.add 0).block=aV.block:=qd aV 0
    unfold World.cell? at hC;rw[ad]at hC
    split at hC
    ·rename_i cs t tL bb
     refine⟨t,cs.size,by simp[World.shape?,bb],fun aH=>?_,(Array.getElem?_eq_some_iff.1 bb).1⟩
     have:cs= #[]:=Array.eq_empty_of_size_eq_zero aH
     subst this;simp at hC
    ·cases hC
   have gH:b4 (.slice (some ⟨g,0,none⟩) n cap)=some g:=by simp[b4];omega
   rw[gH]at b5⊢
   have zh6:aV.block≠g:=fun h=>b5 (by rw[h])
   by_cases af:n+m≤cap
   ·refine Calls.mono (zhP L i0 z s hi iB sd z9 g n cap i m kv aV cur (a7.t 9) vs w bI hm af ig zh6 ah dI fy mL (by rw[hx];exact Vh) nC tJ nB yf zh5) fun e w' ⟨he,se,hw,aa,ae⟩=>?_
    subst hw;rw[hx]at ae
    have au:xs.take (i*s)=cur.toList.take (i*s):=by
     rw[←hx,List.take_take,Nat.min_eq_left (Nat.mul_le_mul_right _ kS)]
    have aR:(w.drew.setRow g se).heap[g]? =some (.cells se (a7.t 9) (0,0)):=setRow_heap w.drew g cur se (a7.t 9) (0,0) ah
    refine⟨_,he,⟨?_,.inr ⟨g,cap,se,rfl,hc,aR,af,ig,by rw[aa,dI],by rw[ae,au]⟩⟩,⟨rfl,rfl,rfl,?_,fun k aj Vj=>?_⟩,fun k aj=>.inl ?_⟩
    ·have:i*s≤n*s:=Nat.mul_le_mul_right _ kS
     simp only[List.length_append,List.length_take,List.length_drop,jO,fy,Nat.add_mul];omega
    ·rw[setRow_size]
     exact Nat.le_refl _
    ·exact setRow_other w.drew g k se fun h=>Vj (by rw[h])
    ·simpa[b4,show cap≠0 by omega]using aj
   ·refine Calls.mono (zhX L i0 z s bytes hi lY iB kN e9 sd z9 g n cap i m kv aV cur (a7.t 9) vs w bI hm hle (by omega) nu sb ah dI fy mL (by rw[hx];exact Vh) nC hL) fun e w' ⟨G,en,he,c3,dj,gV,pG,A2,x3⟩=>?_
    rw[hx]at x3
    have au:xs.take (i*s)=cur.toList.take (i*s):=by
     rw[←hx,List.take_take,Nat.min_eq_left (Nat.mul_le_mul_right _ kS)]
    refine⟨_,he,⟨?_,.inr ⟨w.heap.size,G,en,rfl,by omega,pG,c3,dj,A2,by rw[x3,au]⟩⟩,⟨gV.os,gV.tape,gV.output,gV.size,fun k aj Vj=>gV.block k aj (by simp)⟩,fun k aj=>.inr ?_⟩
    ·have:i*s≤n*s:=Nat.mul_le_mul_right _ kS
     simp only[List.length_append,List.length_take,List.length_drop,jO,fy,Nat.add_mul];omega
    ·simp[b4,show G≠0 by omega]at aj
     omega
end
end Go.aM
namespace Go.aM
open Go Go.Proofs Go.Shelf Go.RowKit Go.Lib
theorem zh7{w:World}{ro:Nat→Prop}{σ:Heap}{β:Nat→Value}{N:Nat}(bb:hb w ro σ β N){x:aD}{c:Value}(h:bs w ro σ β N x c){n:Nat}{es:List (List a6)}(he:fr σ n x=some es)
 (aH:0<es.length)(hn:0<n){id:Nat}(hx:x≠ .aO id){o:eh}(bd:aE σ id=some o)(ar:o.live=true){a:Addr}{l cap:Nat}(hc:c= .slice (some a) l cap):b4 (β id)≠some a.block:=by
 have cc:ro a.block→b4 (β id)≠some a.block:=fun h ad=>bb.ff _ h ⟨id,o,bd,ar,ad⟩
 have qg: ∀{m:Nat} {dP:List (List a6)} {c:Value},0<dP.length→0<m→cP w ro (.aO m dP) c→c= .slice (some a) l cap→ro a.block:=fun {m dP c} FD c3 dj gV=>by
  cases dj with
  |aO _ _ b zh8 f aa ae au aR bA=>
   obtain⟨bc,ad,hf⟩:=aR FD
   cases gV
   cases ad;exact(hf 0 (Nat.mul_pos FD c3)).1
 cases h with
 |av x c fN=>
  cases x with
  |v y=>
   cases fN
   subst hc;simp[fr]at he
  |ptr=>simp[fr]at he
  |mp=>simp[fr]at he
  |ep=>simp[fr]at he
  |li i k=>
   simp only[fr]at he
   split at he
   ·rename_i hm
    subst hm;simp only[Option.some.injEq]at he;subst he
    cases fN with
    |li _ _ _ fN=>exact cc (qg aH hn fN hc)
   ·cases he
  |aO m dP=>
   simp only[fr]at he
   split at he
   ·rename_i hm
    subst hm;simp only[Option.some.injEq]at he;subst he;exact cc (qg aH hn fN hc)
   ·cases he
 |aO gm c bI ak=>
  simp only[fr]at he
  split at he
  ·rename_i z t m dP ah
   split at he
   ·rename_i hm
    subst hm;simp only[Option.some.injEq]at he;subst he
    have iN:=ak z t _ _ ah
    have dk:=bb.c7 gm _ ah
    cases dk with
    |row _ _ _ xs aa ae au=>
     intro ad
     have gz:b4 (β gm)=some a.block:=by
      rcases aa.2 with⟨_,aQ⟩|⟨g,zh8,cur,aw,sI,_⟩
      ·omega
      ·rw[←iN,hc]at aw
       rw[←iN,hc];cases aw;simp[b4];omega
     exact hx (by rw[bb.inj id gm o _ _ bd ah ar rfl ad gz])
    |ga _ _ _ aa=>exact cc (qg aH hn aa (by rw[←iN,hc]))
   ·cases he
  ·cases he
 |_=>simp[fr]at he
theorem Vk{α:Type}{n:Nat}: ∀(es:List (List α)),(∀e∈es,e.length=n)→es.flatten.length=es.length*n
 |[],_=>by simp
 |e::r,h=>by
  rw[List.flatten_cons,List.length_append,h e (List.mem_cons_self ..),Vk r fun x hx=>h x (List.mem_cons_of_mem _ hx),List.length_cons,Nat.add_mul,Nat.one_mul];omega
def uk(P:Program)(G:a8)(r:lD):Prop:=
 ∀{σ:Heap} {n id:Nat} {i:Int} {y:aD} {l k:List (fJ r.c)},aE σ id=some (.row false r.t (bZ r.c) (l.map (cb r.c)))→fr σ (bZ r.c) y=some (k.map (cb r.c))→y≠ .aO id→0<k.length→0≤i∧i≤(l.length:Int)→
  l.length+k.length≤maxLen∧(l.length+k.length)*r.bytes≤140737488355328→
  dF P G r.f [.aO id,.av (.v (.int .i64 i)),y] σ n fun v bV=>v= .aO n∧bV=(n,.row false r.t (bZ r.c) ((l.take i.toNat++k++l.drop i.toNat).map (cb r.c)))::du id σ
section
variable {P:Program} {a7:Ren}
theorem Zh{G:a8}{c:bL}(L:wg P a7)(i0:TypeInfo)(z:Value)(bytes:Nat)(hi:P.info? (a7.t 9)=some i0)(lY:i0.zero=some z)(iB:i0.size=bZ c)(kN:i0.bytes=bytes)(e9:z.cells.size=bZ c)(bP:0<bZ c)
 (z9: ∀w,(Go.sizeOf (a7.t 9)).run P w= .ok (bZ c) w):uk P G ⟨a7.f 22,a7.t 9,c,bytes⟩:=by
 intro σ n id i y l k bd ax b5 aj zh9 Bi w β ro ea aa ae au aR bA
 have NY:=ae 0 _ rfl
 have Vl:=ae 1 _ rfl
 have Vm:=ae 2 _ rfl
 have r9:ea= #[ea.getD 0 undef,ea.getD 1 undef,ea.getD 2 undef]:=by
  have ai:ea.size=3:=aa
  apply Array.ext
  ·simpa using ai
  ·intro j zi8 zi9
   have:j=0∨j=1∨j=2:=by omega
   rcases this with rfl|rfl|rfl<;>simp[Array.getD,ai]
 obtain⟨b,cap,iN,mv,o4,f,h5,o5⟩:=wK au Vm ax
 obtain⟨n1,o6,rC⟩:=zF mv o5
 have eA:0<(k.map (cb c)).length:=by rw[List.length_map];exact aj
 cases b with
 |none=>exact absurd (o4 rfl) (List.ne_nil_of_length_pos eA)
 |some a=>
 have hL:=zh7 au Vm ax eA bP b5 bd rfl iN
 have ow:ea.getD 0 undef=β id:=by
  cases NY with
  |aO _ _ _ ak=>exact ak _ _ _ _ bd
 have zia:ea.getD 1 undef= .int .i64 i.toNat:=by
  generalize ea.getD 1 undef=q at Vl
  cases Vl with
  |av _ _ hx=>
   cases hx;rw[Int.toNat_of_nonneg zh9.1]
 have dk:=au.c7 id _ bd
 cases dk with
 |row _ _ _ xs c1 hle eW=>
 have gQ:c5 ⟨w,ro,σ,β,n⟩ G ⟨[],σ,n,n⟩ ⟨#[],[]⟩ w β ro:=⟨rfl,rfl,by simp,au,aR,⟨rfl,rfl,rfl,Nat.le_refl _,fun _ _ _=>rfl,fun _ h=>.inl h,fun _ h=>h,fun _ h=>.inl h,fun id _ o ah=>⟨by simp[ah],rfl⟩,bA,Nat.le_refl _⟩,Nat.le_refl _⟩
 rw[r9,iN,ow,zia]
 rw[List.length_map]at n1 h5⊢
 have N6:(l.map (cb c)).length=l.length:=List.length_map ..
 rw[N6]at c1
 refine Calls.mono (zh4 L i0 z (bZ c) bytes hi lY iB kN e9 bP z9 c1 (i:=i.toNat) (by omega) aj Bi.1 Bi.2 (vs:=(List.range (k.length*bZ c)).map f) (by simp) (fun j u ag=>?_) (fun v aw=>?_) (by
  rw[List.length_map]at o6
  exact o6) hL) fun e w' ⟨bh,he,kH,cS,bg⟩=>?_
 ·have cL:=(List.getElem?_eq_some_iff.1 ag).1
  simp only[List.length_map,List.length_range]at cL
  have aa:=h5 a rfl j cL
  simp[cL]at ag;rw[aa,ag]
 ·obtain⟨j,ag⟩:=List.getElem?_of_mem aw
  have cL:=(List.getElem?_eq_some_iff.1 ag).1
  have mh:=Vk _ hle
  rw[N6]at mh
  have hx:=eW j _ (List.getElem?_eq_getElem (by rw[mh,←c1.1];exact cL))
  have ax:=hx.one
  rw[List.getD_eq_getElem?_getD,ag]at ax
  exact ax
 ·have jm: ∀k,k<w.heap.size→b4 (β id)≠some k→w'.heap[k]? =w.heap[k]? :=fun k aj b5=>cS.block k aj (fun e=>b5 e.symm)
  have cc: ∀k,ro k→w'.heap[k]? =w.heap[k]? :=fun k aj=>jm k (au.lt k aj) fun bg=>au.ff k aj ⟨id,_,bd,rfl,bg⟩
  have hm:(l.take i.toNat++k++l.drop i.toNat).map (cb c)=(l.map (cb c)).take i.toNat++k.map (cb c)++(l.map (cb c)).drop i.toNat:=by
   rw[List.map_append,List.map_append,List.map_take,List.map_drop]
  have kS:i.toNat≤l.length:=by omega
  have An:i.toNat*bZ c≤l.length*bZ c:=Nat.mul_le_mul_right _ kS
  have aU: ∀j x,((l.map (cb c)).take i.toNat).flatten[j]? =some x→cP w ro x ((xs.take (i.toNat*bZ c)).getD j undef):=fun j x ag=>by
   rw[R2 hle _,List.getElem?_take]at ag
   split at ag
   ·rename_i bI
    have:=eW j x ag
    rw[List.getD_eq_getElem?_getD]at this⊢
    rw[List.getElem?_take,if_pos bI]
    exact this
   ·cases ag
  have c9: ∀j x,((l.map (cb c)).drop i.toNat).flatten[j]? =some x→cP w ro x ((xs.drop (i.toNat*bZ c)).getD j undef):=fun j x ag=>by
   rw[R3 hle _,List.getElem?_drop]at ag
   have:=eW _ x ag
   rw[List.getD_eq_getElem?_getD]at this⊢
   rw[List.getElem?_drop]
   exact this
  have Vn: ∀e∈(l.map (cb c)).take i.toNat,e.length=bZ c:=fun e he=>hle e (List.mem_of_mem_take he)
  have Vo:(xs.take (i.toNat*bZ c)).length=((l.map (cb c)).take i.toNat).length*bZ c:=by
   rw[List.length_take,List.length_take,N6,c1.1,Nat.min_eq_left An,Nat.min_eq_left kS]
  have Vp: ∀e∈(l.map (cb c)).take i.toNat++k.map (cb c),e.length=bZ c:=fun e he=>by
   rcases List.mem_append.1 he with h|h
   ·exact Vn _ h
   ·exact mv _ h
  have sG:=wL Vn Vo aU rC
  have zib:(xs.take (i.toNat*bZ c)++(List.range (k.length*bZ c)).map f).length=((l.map (cb c)).take i.toNat++k.map (cb c)).length*bZ c:=by
   rw[List.length_append,List.length_append,Vo,Nat.add_mul,List.length_map,List.length_range,List.length_map]
  have hOr:k1 w' ro ((n,.row false (a7.t 9) (bZ c) ((l.take i.toNat++k++l.drop i.toNat).map (cb c)))::du id σ) (gS β n bh) (n+1) n (.row false (a7.t 9) (bZ c) ((l.take i.toNat++k++l.drop i.toNat).map (cb c))):=by
   refine .row (a7.t 9) (bZ c) _ _ (by
    rw[dR,List.length_map,List.length_append,List.length_append,List.length_take,List.length_drop,Nat.min_eq_left kS,show i.toNat+k.length+(l.length-i.toNat)=l.length+k.length by omega]
    exact kH) (fun ay j9=>?_) (fun j x ag=>?_)
   ·rw[hm]at j9
    rcases List.mem_append.1 j9 with h|h
    ·exact Vp _ h
    ·exact hle _ (List.mem_of_mem_drop h)
   ·rw[hm]at ag
    have zic:=wL Vp zib (fun j x h=>by first|exact sG j x h|(rw[List.length_map]at sG;exact sG j x h)) c9
    exact(zic j x ag).keep cc fun _ h=>h
  have fc:=gQ.Lr (w':=w') id (Nat.le_refl _) bd _ bh cS.os cS.tape cS.output cS.size jm bg rfl hOr
  exact⟨bh,.aO n,_,gS β n bh,ro,n+1,he,⟨rfl,rfl⟩,.aO _ _ (Nat.lt_succ_self _) fun z bz cJ dP _=>(dR _ _ _).symm,fc.heap,fc.trans⟩
end
end Go.aM
namespace Go.aM
open Go
def N7(id:Nat):ab→Bool
 | .aO j=>!Nat.beq j id
 |_=>true
def zid(r:lD)(S:aq)(id:Nat)(i c8 z:ab):aB:=
 .eG (.eB r.c c8 none (some i)) (.eG (.up r.c z (.cs (.int .i64 0))) (.eG (.f2 r.bytes (.ap r.c) c8 z)
  (.lt S.k (.eB r.c c8 none (some i)) (.lt (S.k+1) (.f2 (.ap r.c) (.aV (.li r.c) S.k) z) (.lt (S.k+2) (.eB r.c c8 (some i) none) (.lt (S.k+3) (.f2 (.ap r.c) (.aV (.li r.c) (S.k+1)) (.aV (.li r.c) (S.k+2)))
   (.cH .cj ⟨ba.put .emp 0 (.aO S.n),(S.n,.rw r.t r.c (.aV (.li r.c) (S.k+3)))::hr id S.h,S.n+1,S.k+4,S.g⟩)))))))
def N8(R:List lD)(inl:Nat→List ab→aq→aB)(f:Nat)(ys:List ab)(S:aq):aB:=
 match Bj f R,ys with
 |some r,[.aO id,i,y]=>match db S.h id,vi S y with
  |some (.rw bz lL c8),some z=>match(Nat.beq bz r.t&&decide (lL=r.c))&&((c8.ew (.li r.c)&&(z.ew (.li r.c)&&z.lt S.k))&&((decide (i.rt=some (.int .i64))&&i.lt S.k)&&(N7 id y&&(match vj S y with
   |some d=>decide (d=r.c)
   |none=>true))))with
   |true=>zid r S id i c8 z
   |false=>inl f ys S
  |_,_=>inl f ys S
 |_,_=>inl f ys S
section
variable {P:Program} {G:a8} {M:List aS} {inl:Nat→List ab→aq→aB}
theorem zie{S:aq}{e:Env}{y z:ab}{id:Nat}(h:vi S y=some z)(hn:N7 id y=true):y.den G e≠ .aO id:=by
 unfold vi at h
 split at h
 ·intro h'
  cases h'
 ·rename_i j
  intro h';simp only[ab.den,aD.aO.injEq]at h';subst h';simp[N7]at hn
 ·split at h
  ·rename_i d hd
   rw[(D4 (G:=G) (e:=e) hd).1];intro h'
   cases h'
  ·cases h
theorem zif{R:List lD}(fL: ∀r∈R,uk P G r)(bU:fK P G M inl):fK P G M (N8 R inl):=fun f ys S e ad ar hf ai=>by
 unfold N8 at ai⊢
 split at ai
 rotate_left
 ·exact bU _ _ S e ad ar hf ai
 rename_i r id i y N0
 obtain⟨hm,rfl⟩:=U4 N0
 split at ai
 rotate_left
 ·exact bU _ _ S e ad ar hf ai
 rename_i bz lL c8 z ah aQ
 split at ai
 rotate_left
 ·exact bU _ _ S e ad ar hf ai
 rename_i aj
 simp only[Bool.and_eq_true,decide_eq_true_eq]at aj
 obtain⟨⟨ft,gG⟩,⟨kZ,sH,zc⟩,⟨uz,wv⟩,Nw,Vq⟩:=aj
 have ft:=Nat.eq_of_beq_eq_true ft
 subst ft
 subst gG
 have wE:c8.lt S.k=true:=vr ad.h ah
 have ob:fr (cx G e S.h) (bZ r.c) (y.den G e)=some (List.map (cb r.c) (z.aA e (.li r.c))):=
  Ed (G:=G) (N:=0) (B:=0) (e:=e) aQ sH (fun d hd=>by rw[hd]at Vq;exact of_decide_eq_true Vq)
 have bd:aE (cx G e S.h) id=some (.row false r.t (bZ r.c) (List.map (cb r.c) (c8.aA e (.li r.c)))):=by
  simp only[ef,ah,Option.map_some,bC.den]
 obtain⟨gR,gw,Mi,_⟩:fe.ok M e (.eB r.c c8 none (some i))∧fe.ok M e (.up r.c z (.cs (.int .i64 0)))∧fe.ok M e (.f2 r.bytes (.ap r.c) c8 z)∧True:=⟨ai.1,ai.2.1,ai.2.2.1,trivial⟩
 have N9:ck (i.dyn e)=i.aA e (.int .i64):=lP uz
 have p7:0≤i.aA e (.int .i64)∧i.aA e (.int .i64)≤((c8.aA e (.li r.c)).length:Int):=by
  rw[←N9];exact gR
 have tU:0<(z.aA e (.li r.c)).length:=by
  have h:(0:Int)<(List.length (z.aA e (.li r.c)):Int):=gw.2
  omega
 have zig:i.den G e= .av (.v (.int .i64 (i.aA e (.int .i64)))):=jx uz
 have h3:ab.bQ G e [.aO id,i,y]=[.aO id,.av (.v (.int .i64 (i.aA e (.int .i64)))),y.den G e]:=by
  rw[←zig];rfl
 rw[h3]
 refine(fL r hm (n:=S.n) bd ob (zie aQ Nw) tU p7 Mi).res fun v bV ⟨aa,ae⟩=>?_
 let aC:=ba.put e S.k ((bJ.eB r.c c8 none (some i)).den M e)
 let bf:=ba.put aC (S.k+1) ((bJ.f2 (.ap r.c) (.aV (.li r.c) S.k) z).den M aC)
 let cg:=ba.put bf (S.k+2) ((bJ.eB r.c c8 (some i) none).den M bf)
 let ek:=ba.put cg (S.k+3) ((bJ.f2 (.ap r.c) (.aV (.li r.c) (S.k+1)) (.aV (.li r.c) (S.k+2))).den M cg)
 have b7:bX S.k e aC:=bX.put (Nat.le_refl _)
 have a2:bX S.k e bf:=b7.trans (bX.put (k:=S.k) (by omega)) (Nat.le_refl _)
 have a3:bX S.k e cg:=a2.trans (bX.put (k:=S.k) (by omega)) (Nat.le_refl _)
 have a4:bX S.k e ek:=a3.trans (bX.put (k:=S.k) (by omega)) (Nat.le_refl _)
 have c3:(ab.aV (.li r.c) S.k).aA aC (.li r.c)=(c8.aA e (.li r.c)).take (i.aA e (.int .i64)).toNat:=xx (by
  rw[Env.ij,if_pos rfl]
  simp only[bJ.den,mC,iF,N9])
 have dj:(ab.aV (.li r.c) (S.k+1)).aA bf (.li r.c)=(c8.aA e (.li r.c)).take (i.aA e (.int .i64)).toNat++z.aA e (.li r.c):=xx (by
  rw[Env.ij,if_pos rfl];show(⟨.li r.c,List.append ((ab.aV (.li r.c) S.k).aA aC (.li r.c)) (z.aA aC (.li r.c))⟩:aF)=_;rw[c3,eF b7 zc]
  rfl)
 have gV:(ab.aV (.li r.c) (S.k+2)).aA cg (.li r.c)=(c8.aA e (.li r.c)).drop (i.aA e (.int .i64)).toNat:=xx (by
  rw[Env.ij,if_pos rfl];simp only[bJ.den,mC,iF]
  rw[eF a2 wE,rH a2 wv,N9])
 have zih:(ab.aV (.li r.c) (S.k+1)).aA cg (.li r.c)=(c8.aA e (.li r.c)).take (i.aA e (.int .i64)).toNat++z.aA e (.li r.c):=by
  rw[←dj];exact eF (k:=S.k+2) (bX.put (Nat.le_refl _)) (jV (by omega))
 have pG:(ab.aV (.li r.c) (S.k+3)).aA ek (.li r.c)=(c8.aA e (.li r.c)).take (i.aA e (.int .i64)).toNat++z.aA e (.li r.c)++(c8.aA e (.li r.c)).drop (i.aA e (.int .i64)).toNat:=xx (by
  rw[Env.ij,if_pos rfl];show(⟨.li r.c,List.append ((ab.aV (.li r.c) (S.k+1)).aA cg (.li r.c)) ((ab.aV (.li r.c) (S.k+2)).aA cg (.li r.c))⟩:aF)=_;rw[zih,gV]
  rfl)
 refine⟨⟨ba.put .emp 0 (.aO S.n),(S.n,.rw r.t r.c (.aV (.li r.c) (S.k+3)))::hr id S.h,S.n+1,S.k+4,S.g⟩,ek,rfl,?_,?_,⟨fun j x ag=>?_,?_,?_⟩,?_,a4,Nat.le_add_right _ _⟩
 ·rw[aa]
  show _=ab.den G _ (aq.at _ 0);unfold aq.at
  simp only[ba.h0,if_true,ab.den]
 ·rw[ae]
  simp only[cx,bC.den,pv,pG,xc a4 ad.h]
 ·simp only[ba.h0]at ag
  split at ag
  ·cases ag
   rfl
  ·simp[ba.get]at ag
 ·show(Nat.blt (S.k+3) (S.k+4)&&eH (S.k+4) (hr id S.h))=true
  rw[jV (by omega),oh id (s9 (by omega) ad.h)]
  rfl
 ·exact oa (k:=S.k) (m:=S.k+4) (by omega) ad.g
 ·exact ik a4 ad.g hf
end
def CF(P:Program)(H:jK)(T:List (Nat × bL))(Z:Nat × Nat × Nat)(R I:List lD)(B:List j6)(C:List iu):Nat→Nat→List ab→aq→aB
 |0=>fun _ _ _=>.bad 40
 |n+1=>MB P H T (N8 I (NZ R (NU Z.1 Z.2.1 Z.2.2 (Nv B (Nh C (CF P H T Z R I B C n))))))
section
variable {P:Program} {G:a8} {M:List aS}
theorem G8{Z:Nat × Nat × Nat}{R I:List lD}{B:List j6}{C:List iu}{H:jK}{T:List (Nat × bL)}(kX:MC P G M H)(fL: ∀r∈R,nL P G r)(bU: ∀r∈I,uk P G r)(sF:uw P G Z.1 Z.2.1 Z.2.2)(hy:Jv P G M B)(kO:ra P G M C): ∀n,fK P G M (CF P H T Z R I B C n)
 |0=>fun _ _ _ _ _ _ _ h=>h.elim
 |n+1=>zfC kX (zif bU (zhD fL (zhr sF (zgR hy (zgB kO (G8 kX fL bU sF hy kO n))))))
end
end Go.aM
