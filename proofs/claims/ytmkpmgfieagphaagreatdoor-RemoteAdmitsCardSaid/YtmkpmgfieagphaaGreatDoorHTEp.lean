/- TE, part L: calls whose result is a new own row (slices.Clone). Conditions: none. -/
import Derived.Test.YtmkpmgfieagphaaGreatDoorHTEk
import Derived.Shelf.Spec.SlicesInsertGrow
import Derived.Shelf.SlGeneric
import Derived.Laws.CopyRow
namespace Go.aN
open Go
structure lK where
 f:Nat
 t:TypeId
 c:bR
 bytes:Nat
def Cp(f:Nat):List lK→Option lK
 |[]=>none
 |r::l=>match Nat.beq r.f f with
  |true=>some r
  |false=>Cp f l
def nU(P:Program)(G:bc)(r:lK):Prop:=
 ∀{σ:Heap} {n:Nat} {y:aD} {l:List (fS r.c)},fB σ (b4 r.c) y=some (l.map (ck r.c))→l.length≤maxLen∧l.length*r.bytes≤140737488355328→
  dN P G r.f [y] σ n fun v b0=>v= .aP n∧b0=(n,.row false r.t (b4 r.c) (l.map (ck r.c)))::σ
def PY(R:List lK)(inl:Nat→List ab→ar→aC)(f:Nat)(aG:List ab)(S:ar):aC:=
 match Cp f R,aG with
 |some r,[a]=>match vF S a with
  |some z=>match(z.eE (.li r.c)&&z.lt S.k)&&(match vG S a with
   |some d=>decide (d=r.c)
   |none=>true)with
   |true=>.eL (.f2 r.bytes (.ap r.c) (.cs (.slice none 0 0)) z) (.cQ .ct ⟨bd.put .emp 0 (.aP S.n),(S.n,.rw r.t r.c z)::S.h,S.n+1,S.k,S.g⟩)
   |false=>inl f aG S
  |none=>inl f aG S
 |_,_=>inl f aG S
section
variable {P:Program} {G:bc} {M:List aS} {inl:Nat→List ab→ar→aC}
theorem W6{f:Nat}{R:List lK}{r:lK}(h:Cp f R=some r):r∈R∧r.f=f:=by
 induction R with
 |nil=>cases h
 |cons q l aZ=>
  simp only[Cp]at h
  split at h
  ·rename_i ad
   cases h;exact⟨List.mem_cons_self ..,Nat.eq_of_beq_eq_true ad⟩
  ·exact⟨List.mem_cons_of_mem _ (aZ h).1,(aZ h).2⟩
theorem zkZ{R:List lK}(fl: ∀r∈R,nU P G r)(b1:fT P G M inl):fT P G M (PY R inl):=fun f aG S e ad aq hf ai=>by
 unfold PY at ai⊢
 split at ai
 rotate_left
 ·exact b1 _ _ S e ad aq hf ai
 rename_i r a PZ
 obtain⟨hm,rfl⟩:=W6 PZ
 split at ai
 rotate_left
 ·exact b1 _ _ S e ad aq hf ai
 rename_i z aT
 split at ai
 rotate_left
 ·exact b1 _ _ S e ad aq hf ai
 rename_i aj
 simp only[Bool.and_eq_true]at aj
 obtain⟨⟨eT,gM⟩,k6⟩:=aj
 have oo:fB (cF G e S.h) (b4 r.c) (a.den G e)=some (List.map (ck r.c) (z.aA e (.li r.c))):=
  Fu (G:=G) (N:=0) (B:=0) (e:=e) aT eT (fun d hd=>by rw[hd]at k6;exact of_decide_eq_true k6)
 obtain⟨gW,_⟩:fi.ok M e (.f2 r.bytes (.ap r.c) (.cs (.slice none 0 0)) z)∧True:=⟨ai.1,trivial⟩
 have gm:(ab.cs (.slice none 0 0)).aA e (.li r.c)=([]:List (fS r.c)):=by simp only[ab.aA,ab.fw,cH]
 simp only[fi.ok,cI.vn,cI.a,cI.b,gm,List.length_nil,Nat.zero_add]at gW
 refine(fl r hm (n:=S.n) oo gW).res fun v b0 ⟨aa,ae⟩=>⟨⟨bd.put .emp 0 (.aP S.n),(S.n,.rw r.t r.c z)::S.h,S.n+1,S.k,S.g⟩,e,rfl,?_,?_,⟨fun i y hi=>?_,?_,ad.g⟩,hf,b2.refl _ _,Nat.le_refl _⟩
 ·rw[aa]
  show _=ab.den G _ (ar.at _ 0);unfold ar.at
  simp only[bd.h5,if_true,ab.den]
 ·rw[ae]
  rfl
 ·simp only[bd.h5]at hi
  split at hi
  ·cases hi
   rfl
  ·simp[bd.get]at hi
 ·show(z.lt S.k&&eM S.k S.h)=true
  rw[gM,ad.h];rfl
end
end Go.aN
namespace Go.aN
open Go Go.Proofs Go.Shelf Go.RowKit Go.Lib
section
variable {P:Program}
theorem GL(w:World)(aw zk0 ty elem:TypeId)(s g o P0 zk1:Nat)(a:Addr)(P1 zk2:Nat)(cur:Array Value)(t:TypeId)(cs:List Value)
 (hu:P.underlying aw=some (.slice elem))(ai:(P.info? elem).map (·.size)=some s)
 (ah:w.heap[g]? =some (.cells cur t (0,0)))(hn:cs.length=Nat.min P1 P0*s)
 (oo: ∀j v,cs[j]? =some v→w.cell? (a.add j)=some v)(qi:o+cs.length≤cur.size)(aa: ∀v∈cs,v.oneCell'=true):
 (Builtin.copy_ #[aw,zk0] ty #[.slice (some ⟨g,o,none⟩) P0 zk1,.slice (some a) P1 zk2]).run P w=
  .ok (goInt (Nat.min P1 P0)) (w.setRow g (cur.toList.take o++cs++cur.toList.drop (o+cs.length)).toArray):=by
 have aq:=run_loadCells_list (P:=P) w a cs oo
 have dJ:=run_storeCells_at P g o t cs 0 cur w ah (by simpa using qi) aa
 rw[hn]at aq
 simp only[Nat.add_zero]at dJ
 cases aK:P.info? elem with
 |none=>simp[aK]at ai
 |some i=>
  have hi:i.size=s:=by simpa[aK]using ai
  simp[Builtin.copy_,run_underlying hu,Builtin.lenOf,Builtin.firstCells,sizeOf,typeInfo,aK,hi,aq,dJ]
theorem zk3(w:World)(P2 zk4 e:TypeId)(aH:P.underlying P2=some (.slice e))(size:Nat)(aT: ∀w,(Go.sizeOf e).run P w= .ok size w)
 (a b:Addr)(W7 ca yT Cq:Nat)(b9:a.block≠b.block)(tR qU:TypeId)(nF Cr:Nat)
 (yU:w.shape? a.block=some (tR,nF))(GM:nF≠0)(BB:w.shape? b.block=some (qU,Cr))(zk5:Cr≠0)
 (zk6:w.frozen? b=false)(zk7:w.frozen? {block:=b.block,off:=Cr}=false):
 (Extern.SlicesOverlaps.overlaps #[P2,P2] #[zk4] #[.slice (some a) W7 ca,.slice (some b) yT Cq]).run P w= .ok (.bool false) w:=by
 have zk8:(a.block != b.block)=true:=by simpa using b9
 have zk9:(a.block==b.block)=false:=by simpa using b9
 refine(?_:Sem.run P (Bind.bind _ _) w=_)
 by_cases aJ:W7=0∨yT=0∨size=0
 ·simp[run_underlying aH,aT,aJ]
 ·cases Cr with
  |zero=>exact absurd rfl zk5
  |succ Cr=>
   cases nF with
   |zero=>exact absurd rfl GM
   |succ nF=>
    simp[run_underlying aH,aT,aJ,zk8,zk9,frozen,noView,viewAt,mayBeOne,stringish,shape,Sem.run,yU,BB,zk6,zk7]
theorem zla{α:Type}(cur cs vs:List α)(k M:Nat)(aa:k+M+cs.length≤cur.length)(ae:vs.length=M):
 (((cur.take (k+M)++cs++cur.drop (k+M+cs.length)).take k++vs++(cur.take (k+M)++cs++cur.drop (k+M+cs.length)).drop (k+vs.length)).length=cur.length)∧
 ((cur.take (k+M)++cs++cur.drop (k+M+cs.length)).take k++vs++(cur.take (k+M)++cs++cur.drop (k+M+cs.length)).drop (k+vs.length)).take (k+M+cs.length)=cur.take k++vs++cs:=by
 have hd:(cur.take (k+M)++cs++cur.drop (k+M+cs.length)).drop (k+vs.length)=cs++cur.drop (k+M+cs.length):=by
  rw[List.append_assoc];exact List.drop_left' (by rw[List.length_take];omega)
 have aH:(cur.take (k+M)++cs++cur.drop (k+M+cs.length)).take k=cur.take k:=by
  rw[List.append_assoc,List.take_append_of_le_length (by rw[List.length_take];omega),List.take_take]
  congr 1
  omega
 rw[hd,aH]
 refine⟨by simp only[List.length_append,List.length_take,List.length_drop];omega,?_⟩
 rw[←List.append_assoc]
 exact List.take_left' (by simp only[List.length_append,List.length_take];omega)
structure w3 (P:Program) (bb:Ren):Prop where
 mixed:P.follows .mixedOrders=true
 f22:Bears P (bb.f 22) (Body2.n22 bb)
 f29: ∀args w,(callFunc (bb.f 29) args).run P w=((Extern.SlicesOverlaps.overlaps #[(bb.t 24),(bb.t 24)] #[(bb.t 4)] args).run P w).andThen fun v w'=>.ok (.value v) w'
 t3:P.underlying (bb.t 3)=some (TypeDesc.int IntKind.i64)
 a3: ∀w,(isAgg (bb.t 3)).run P w= .ok false w
 z3: ∀w,(Go.sizeOf (bb.t 3)).run P w= .ok 1 w
 v3: ∀w,(zeroValue (bb.t 3)).run P w= .ok (Value.int IntKind.i64 0) w
 t4:P.underlying (bb.t 4)=some (TypeDesc.bool)
 a4: ∀w,(isAgg (bb.t 4)).run P w= .ok false w
 z4: ∀w,(Go.sizeOf (bb.t 4)).run P w= .ok 1 w
 v4: ∀w,(zeroValue (bb.t 4)).run P w= .ok (Value.bool false) w
 t24:P.underlying (bb.t 24)=some (TypeDesc.slice (bb.t 9))
 a24: ∀w,(isAgg (bb.t 24)).run P w= .ok false w
 z24: ∀w,(Go.sizeOf (bb.t 24)).run P w= .ok 1 w
 v24: ∀w,(zeroValue (bb.t 24)).run P w= .ok (Value.slice none 0 0) w
variable {bb:Ren}
set_option maxHeartbeats 4000000 in
set_option maxRecDepth 100000 in
theorem zlb(L:w3 P bb)(i0:TypeInfo)(z:Value)(s:Nat)(hi:P.info? (bb.t 9)=some i0)(iK:i0.size=s)(sm:0<s)
 (z9: ∀w,(Go.sizeOf (bb.t 9)).run P w= .ok s w)(g n c i m kz:Nat)(aV:Addr)(cur:Array Value)(t:TypeId)(vs:List Value)(w:World)
 (k0:i<n)(hm:0<m)(x9:n+m≤c)(L9:c≤maxLen)(W8:aV.block≠g)
 (ah:w.heap[g]? =some (.cells cur t (0,0)))(tS:cur.size=c*s)(fH:vs.length=m*s)
 (mS: ∀j v,vs[j]? =some v→w.cell? (aV.add j)=some v)(Cs: ∀v∈cur.toList.take (n*s),v.oneCell'=true)(nG: ∀v∈vs,v.oneCell'=true)
 (tR:TypeId)(nF:Nat)(yU:w.shape? aV.block=some (tR,nF))(GM:nF≠0):
 Calls P (bb.f 22) #[.slice (some ⟨g,0,none⟩) n c,.int .i64 i,.slice (some aV) m kz] w fun e w'=>
  e= .returned (.slice (some ⟨g,0,none⟩) (n+m) c)∧∃sn:Array Value,w'=w.drew.setRow g sn∧sn.size=cur.size∧sn.toList.take ((n+m)*s)=cur.toList.take (i*s)++vs++(cur.toList.take (n*s)).drop (i*s):=by
 have t3:=L.t3;have a3:=L.a3;have z3:=L.z3;have v3:=L.v3;have t4:=L.t4;have a4:=L.a4;have z4:=L.z4;have v4:=L.v4;have t24:=L.t24;have a24:=L.a24;have z24:=L.z24;have v24:=L.v24
 have yR:=run_underlying L.t3;have W9:=run_underlying L.t4;have Xa:=run_underlying L.t24
 have Xb: ¬((m:Int)=0):=by omega
 have kR: ¬((i:Int)=(n:Int)):=by omega
 have mixed:=L.mixed
 have Xc:=L.f29
 obtain⟨_,_,sl⟩:=L.f22
 have zlc: ∀off yT Cq,(callFunc (bb.f 29) #[.slice (some aV) m kz,.slice (some ⟨g,off,none⟩) yT Cq]).run P w= .ok (.value (.bool false)) w:=fun off yT Cq=>by
  rw[Xc]
  have h:=zk3 w (bb.t 24) (bb.t 4) (bb.t 9) L.t24 s z9 aV ⟨g,off,none⟩ m kz yT Cq W8 tR t nF cur.size yU GM (by simp[World.shape?,ah]) (by rw[tS];exact Nat.mul_ne_zero (by omega) (by omega)) (by simp[World.frozen?,ah]) (by simp[World.frozen?,ah])
  rw[h];rfl
 unfold maxLen at L9
 have zld:IntKind.i64.wrap ((i:Int)+(m:Int))=(i:Int)+(m:Int):=by rw[IntKind.wrap_i64];omega
 have iq:(0:Int)≤(i:Int)+(m:Int):=by omega
 have P3:i≤n:=by omega
 have zle:((i:Int)+(m:Int)).toNat=i+m:=by omega
 have pf: ¬(c=i+m):=by omega
 have zlf:(i:Int)≤(n:Int)+(m:Int):=by omega
 have zmu: ¬(c=i):=by omega
 have bV:(P.info? (bb.t 9)).map (·.size)=some s:=by rw[hi];simp[iK]
 have js:cur.toList.length=c*s:=by simpa using tS
 have aB:(i+m)*s=i*s+m*s:=Nat.add_mul ..
 have bl:(n+m)*s=n*s+m*s:=Nat.add_mul ..
 have cx:i*s≤n*s:=Nat.mul_le_mul_right _ P3
 have eR:(n+m)*s≤c*s:=Nat.mul_le_mul_right _ x9
 have oI:(n-i)*s=n*s-i*s:=Nat.sub_mul ..
 obtain⟨cs,dR⟩: ∃cs,cs=(cur.toList.take (n*s)).drop (i*s):=⟨_,rfl⟩
 have oB:cs.length=(n-i)*s:=by rw[dR,List.length_drop,List.length_take,js,oI];omega
 obtain⟨dI,oy⟩: ∃dI,dI=(cur.toList.take ((i+m)*s)++cs++cur.toList.drop ((i+m)*s+cs.length)).toArray:=⟨_,rfl⟩
 have Ct:dI.size=cur.size:=by
  rw[oy];simp only[List.size_toArray,List.length_append,List.length_take,List.length_drop,js,oB,tS];omega
 have zlg: ∀ty l5 mH,(Builtin.copy_ #[(bb.t 24),(bb.t 24)] ty #[.slice (some ⟨g,(i+m)*s,none⟩) (n+m-(i+m)) l5,.slice (some ⟨g,i*s,none⟩) (n+m-i) mH]).run P w.drew= .ok (goInt (Nat.min (n+m-i) (n+m-(i+m)))) (w.drew.setRow g dI):=fun ty l5 mH=>by
  rw[oy]
  exact GL w.drew _ _ ty (bb.t 9) s g ((i+m)*s) (n+m-(i+m)) l5 ⟨g,i*s,none⟩ (n+m-i) mH cur t cs L.t24 bV ah
   (by rw[oB];congr 1;simp only[Nat.min_def];split<;>omega)
   (fun j v af=>by
    rw[Addr.add_lit];rw[dR,List.getElem?_drop,List.getElem?_take]at af
    split at af
    ·rw[Array.getElem?_toList]at af
     show World.cell? w.drew _=_
     have:w.drew.heap[g]? =some (.cells cur t (0,0)):=ah
     simp[World.cell?,this,af]
    ·cases af)
   (by rw[oB];omega) (fun v ax=>Cs v (by rw[dR]at ax;exact List.mem_of_mem_drop ax))
 obtain⟨eO,mQ⟩: ∃eO,eO=(dI.toList.take (i*s)++vs++dI.toList.drop (i*s+vs.length)).toArray:=⟨_,rfl⟩
 have zlh: ∀(W:World),W.heap=(w.drew.setRow g dI).heap→∀ty l5,(Builtin.copy_ #[(bb.t 24),(bb.t 24)] ty #[.slice (some ⟨g,i*s,none⟩) (n+m-i) l5,.slice (some aV) m kz]).run P W= .ok (goInt (Nat.min m (n+m-i))) (W.setRow g eO):=fun W ic ty l5=>by
  rw[mQ]
  have PV:W.heap[g]? =some (.cells dI t (0,0)):=by rw[ic];exact setRow_heap w.drew g cur dI t (0,0) ah
  exact GL W _ _ ty (bb.t 9) s g (i*s) (n+m-i) l5 aV m kz dI t vs L.t24 bV PV
   (by rw[fH];congr 1;simp only[Nat.min_def];split<;>omega)
   (fun j v af=>by
    have h:=mS j v af
    rw[←h];refine World.cell?_of_block ?_
    rw[ic,qg]
    exact setRow_other w.drew g _ dI W8)
   (by rw[fH,Ct,tS];omega) nG
 have l0:eO.size=cur.size∧eO.toList.take ((n+m)*s)=cur.toList.take (i*s)++vs++cs:=by
  have h:=zla cur.toList cs vs (i*s) (m*s) (by rw[js,oB];omega) fH
  have ug:i*s+m*s+cs.length=(n+m)*s:=by rw[oB];omega
  rw[ug,←aB]at h;rw[aB,ug,←aB]at oy;subst oy;subst mQ;simp only[List.size_toArray]at h⊢;exact⟨h.1.trans Array.length_toList,h.2⟩
 clear tS ah fH Cs nG mS yU GM Xc hi iK oy mQ oB Ct js aB bl cx eR oI
 go_enter sl,Body2.n22_ntmps bb
 go_wp2_with (simp only[zlc])
 go_region_law_o (refine step_copy_runI rfl _ _ (bb.t 24) (bb.t 24) rfl _ _ (by simp[Act.eval,Act.put]) (by simp[Act.eval,Act.put]) (zlg _ _ _) ?_)
 go_wp2_with (at_builtin;refine wpList_copy_runI _ rfl _ _ (bb.t 24) (bb.t 24) rfl _ _ rfl rfl (zlh _ rfl _ _) ?_)
 go_ret
 exact⟨rfl,eO,setRow_setRow ..,dR ▸ l0⟩
theorem zli{α:Type}(a b d cs vs:List α)(k M:Nat)(aJ:a.length=k)(aa:M+cs.length≤b.length)(ae:vs.length=M):
 ((((a++b++d).take k++vs++(a++b++d).drop (k+vs.length)).take (k+M)++cs++((a++b++d).take k++vs++(a++b++d).drop (k+vs.length)).drop (k+M+cs.length)).length=(a++b++d).length)∧
 (((a++b++d).take k++vs++(a++b++d).drop (k+vs.length)).take (k+M)++cs++((a++b++d).take k++vs++(a++b++d).drop (k+vs.length)).drop (k+M+cs.length)).take (k+M+cs.length)=a++vs++cs:=by
 have aH:(a++b++d).take k=a:=by
  rw[List.append_assoc];exact List.take_left' aJ
 rw[aH]
 have hu:(a++vs++(a++b++d).drop (k+vs.length)).take (k+M)=a++vs:=List.take_left' (by rw[List.length_append];omega)
 rw[hu]
 refine⟨by simp only[List.length_append,List.length_drop];omega,?_⟩
 exact List.take_left' (by simp only[List.length_append];omega)
theorem Xd(z:Array Value)(k:Nat):(Builtin.zeroCells z k).size=k*z.size:=by
 unfold Builtin.zeroCells
 simp
set_option maxHeartbeats 4000000 in
set_option maxRecDepth 100000 in
theorem zlj(L:w3 P bb)(i0:TypeInfo)(z:Value)(s bytes:Nat)(hi:P.info? (bb.t 9)=some i0)(l4:i0.zero=some z)(iK:i0.size=s)(kR:i0.bytes=bytes)(fe:z.cells.size=s)(sm:0<s)
 (z9: ∀w,(Go.sizeOf (bb.t 9)).run P w= .ok s w)(g n c i m kz:Nat)(aV:Addr)(cur:Array Value)(t:TypeId)(vs:List Value)(w:World)
 (k0:i<n)(hm:0<m)(Bz:n≤c)(x9:c<n+m)(ny:n+m≤maxLen)(sk:(n+m)*bytes≤140737488355328)
 (ah:w.heap[g]? =some (.cells cur t (0,0)))(tS:cur.size=c*s)(fH:vs.length=m*s)
 (mS: ∀j v,vs[j]? =some v→w.cell? (aV.add j)=some v)(Cs: ∀v∈cur.toList.take (n*s),v.oneCell'=true)(nG: ∀v∈vs,v.oneCell'=true)(zlk:aV.block<w.heap.size):
 Calls P (bb.f 22) #[.slice (some ⟨g,0,none⟩) n c,.int .i64 i,.slice (some aV) m kz] w fun e w'=>
  ∃(G:Nat) (eO:Array Value),e= .returned (.slice (some ⟨w.heap.size,0,none⟩) (n+m) G)∧n+m≤G∧G≤maxLen∧w.grownBy w' none∧w'.heap[w.heap.size]? =some (.cells eO (bb.t 9) (0,0))∧eO.size=G*s∧
   eO.toList.take ((n+m)*s)=cur.toList.take (i*s)++vs++(cur.toList.take (n*s)).drop (i*s):=by
 have t3:=L.t3;have a3:=L.a3;have z3:=L.z3;have v3:=L.v3;have t4:=L.t4;have a4:=L.a4;have z4:=L.z4;have v4:=L.v4;have t24:=L.t24;have a24:=L.a24;have z24:=L.z24;have v24:=L.v24
 have yR:=run_underlying L.t3;have W9:=run_underlying L.t4;have Xa:=run_underlying L.t24
 have mixed:=L.mixed
 obtain⟨_,_,sl⟩:=L.f22
 have Xb: ¬((m:Int)=0):=by omega
 have zmv: ¬((i:Int)=(n:Int)):=by omega
 have zmw:(c:Int)<(n:Int)+(m:Int):=by omega
 have bV:(P.info? (bb.t 9)).map (·.size)=some s:=by rw[hi];simp[iK]
 have zll:g<w.heap.size:=(Array.getElem?_eq_some_iff.1 ah).1
 have rb:(n:Int)+(m:Int)-(i:Int)=((n+m-i:Nat):Int):=by omega
 have ra:i+(n+m-i)=n+m:=by omega
 have P3:i≤n:=by omega
 have js:cur.toList.length=c*s:=by simpa using tS
 have aB:(i+m)*s=i*s+m*s:=Nat.add_mul ..
 have bl:(n+m)*s=n*s+m*s:=Nat.add_mul ..
 have cx:i*s≤n*s:=Nat.mul_le_mul_right _ P3
 have eR:n*s≤c*s:=Nat.mul_le_mul_right _ Bz
 have oI:(n-i)*s=n*s-i*s:=Nat.sub_mul ..
 have CK:(n+m-i)*s=n*s+m*s-i*s:=by rw[Nat.sub_mul,bl]
 have zlm:(n+m-i)*bytes≤(n+m)*bytes:=Nat.mul_le_mul_right _ (by omega)
 have P4: ∀(W:World),W.heap[g]? =some (.cells cur t (0,0))→∀k v,cur.toList[k]? =some v→W.cell? ⟨g,k,none⟩=some v:=fun W ic k v ax=>by
  rw[Array.getElem?_toList]at ax
  simp[World.cell?,ic,ax]
 have hold:(Builtin.firstCells i0.size i (.slice (some ⟨g,0,none⟩) i c)).run P w.drew= .ok (cur.toList.take (i*s)).toArray w.drew:=by
  rw[iK]
  exact run_firstCells_some w.drew s i ⟨g,0,none⟩ i c (cur.toList.take (i*s)) (by rw[List.length_take];omega) (fun j v af=>by
   rw[Addr.add_lit,Nat.zero_add];rw[List.getElem?_take]at af
   split at af
   ·exact P4 w.drew ah j v af
   ·cases af)
 have kd: ∀ty,(Builtin.append_ #[(bb.t 24),(bb.t 3)] ty #[.slice (some ⟨g,0,none⟩) i c,.int .i64 ((n:Int)+(m:Int)-(i:Int))]).run P w=
  .ok (.slice (some ⟨w.heap.size,0,none⟩) (n+m) (grownCap w (n+m) c (bb.t 9))) (w.drew.alloc (.cells ((cur.toList.take (i*s)).toArray++Builtin.zeroCells z.cells (n+m-i)++Builtin.zeroCells z.cells (grownCap w (n+m) c (bb.t 9)-(n+m))) (bb.t 9))):=fun ty=>by
  have h:=Lib.run_append_grow_zeros w (bb.t 24) (bb.t 3) ty (bb.t 9) i0 _ .i64 .i64 L.t24 L.t3 hi l4 (some ⟨g,0,none⟩) i c (cur.toList.take (i*s)) hold (n+m-i) (by omega) (by omega) (by omega) (by unfold maxLen at ny;omega) (by rw[kR];omega) (by rw[kR,ra];exact growslice_fits x9 sk)
  rw[ra]at h;rw[rb];exact h
 obtain⟨G,k3⟩: ∃G,G=grownCap w (n+m) c (bb.t 9):=⟨_,rfl⟩
 obtain⟨j0,GN⟩: ∃j0:Array Value,j0=(cur.toList.take (i*s)).toArray++Builtin.zeroCells z.cells (n+m-i)++Builtin.zeroCells z.cells (G-(n+m)):=⟨_,rfl⟩
 have Xe:n+m≤G:=by rw[k3];exact grownCap_ge w _ _ _
 have Xf:G≤maxLen:=by rw[k3];exact grownCap_le_maxLen w (n+m) c (bb.t 9) ny
 have zmx:G≤9223372036854775807:=Xf
 rw[←k3,←GN]at kd
 have CB:(G-(n+m))*s=G*s-(n*s+m*s):=by rw[Nat.sub_mul,bl]
 have G4:(n+m)*s≤G*s:=Nat.mul_le_mul_right _ Xe
 have GO:j0.size=G*s:=by
  rw[GN];simp only[Array.size_append,Xd,fe,List.size_toArray,List.length_take,js,CK,CB];omega
 obtain⟨cs,dR⟩: ∃cs,cs=(cur.toList.take (n*s)).drop (i*s):=⟨_,rfl⟩
 have oB:cs.length=(n-i)*s:=by rw[dR,List.length_drop,List.length_take,js,oI];omega
 obtain⟨dI,oy⟩: ∃dI,dI=(j0.toList.take (i*s)++vs++j0.toList.drop (i*s+vs.length)).toArray:=⟨_,rfl⟩
 have Ct:dI.size=G*s:=by
  rw[oy];simp only[List.size_toArray,List.length_append,List.length_take,List.length_drop,Array.length_toList,GO,fH];omega
 obtain⟨eO,mQ⟩: ∃eO,eO=(dI.toList.take ((i+m)*s)++cs++dI.toList.drop ((i+m)*s+cs.length)).toArray:=⟨_,rfl⟩
 obtain⟨oC,Cu⟩: ∃oC,oC=w.drew.alloc (.cells j0 (bb.t 9)):=⟨_,rfl⟩
 have GQ:oC.heap[w.heap.size]? =some (.cells j0 (bb.t 9) (0,0)):=by
  rw[show oC.heap=w.heap.push (.cells j0 (bb.t 9) (0,0))by rw[Cu];rfl]
  exact Array.getElem?_push_size
 have GR: ∀k,k<w.heap.size→oC.heap[k]? =w.heap[k]? :=fun k aj=>by
  rw[show oC.heap=w.heap.push (.cells j0 (bb.t 9) (0,0))by rw[Cu];rfl,Array.getElem?_push,if_neg (Nat.ne_of_lt aj)]
 rw[←Cu]at kd
 have zln: ∀(W:World),W.heap=oC.heap→∀ty l5,(Builtin.copy_ #[(bb.t 24),(bb.t 24)] ty #[.slice (some ⟨w.heap.size,i*s,none⟩) (n+m-i) l5,.slice (some aV) m kz]).run P W= .ok (goInt (Nat.min m (n+m-i))) (W.setRow w.heap.size dI):=fun W ic ty l5=>by
  rw[oy]
  exact GL W _ _ ty (bb.t 9) s w.heap.size (i*s) (n+m-i) l5 aV m kz j0 (bb.t 9) vs L.t24 bV (by rw[ic];exact GQ)
   (by rw[fH];congr 1;simp only[Nat.min_def];split<;>omega)
   (fun j v af=>by
    rw[←mS j v af];refine World.cell?_of_block ?_
    rw[ic,qg]
    exact GR _ zlk)
   (by rw[fH,GO];omega) nG
 have Xg: ∀(W:World),W.heap=(oC.setRow w.heap.size dI).heap→∀ty l5 mH,(Builtin.copy_ #[(bb.t 24),(bb.t 24)] ty #[.slice (some ⟨w.heap.size,(i+m)*s,none⟩) (n+m-(i+m)) l5,.slice (some ⟨g,i*s,none⟩) (n-i) mH]).run P W= .ok (goInt (Nat.min (n-i) (n+m-(i+m)))) (W.setRow w.heap.size eO):=fun W ic ty l5 mH=>by
  rw[mQ]
  exact GL W _ _ ty (bb.t 9) s w.heap.size ((i+m)*s) (n+m-(i+m)) l5 ⟨g,i*s,none⟩ (n-i) mH dI (bb.t 9) cs L.t24 bV (by rw[ic];exact setRow_heap oC w.heap.size j0 dI (bb.t 9) (0,0) GQ)
   (by rw[oB];congr 1;simp only[Nat.min_def];split<;>omega)
   (fun j v af=>by
    rw[Addr.add_lit];rw[dR,List.getElem?_drop,List.getElem?_take]at af
    split at af
    ·exact P4 W (by rw[ic,setRow_other _ _ _ _ (by omega),GR _ zll];exact ah) _ v af
    ·cases af)
   (by rw[oB,Ct];omega) (fun v ax=>Cs v (by rw[dR]at ax;exact List.mem_of_mem_drop ax))
 have l0:eO.size=G*s∧eO.toList.take ((n+m)*s)=cur.toList.take (i*s)++vs++cs:=by
  have h:=zli (cur.toList.take (i*s)) (Builtin.zeroCells z.cells (n+m-i)).toList (Builtin.zeroCells z.cells (G-(n+m))).toList cs vs (i*s) (m*s) (by rw[List.length_take];omega) (by rw[oB,Array.length_toList,Xd,fe];omega) fH
  have ug:i*s+m*s+cs.length=(n+m)*s:=by rw[oB];omega
  have zlo:cur.toList.take (i*s)++(Builtin.zeroCells z.cells (n+m-i)).toList++(Builtin.zeroCells z.cells (G-(n+m))).toList=j0.toList:=by rw[GN];simp
  rw[ug,←aB,zlo]at h;rw[aB,ug,←aB]at mQ;subst mQ;subst oy;simp only[List.size_toArray]at h⊢;exact⟨h.1.trans (by rw[Array.length_toList,GO]),h.2⟩
 have OT: ∀(W:World),W.heap=((oC.setRow w.heap.size dI).setRow w.heap.size eO).heap→W.os=w.os→W.tape=w.tape→W.output=w.output→w.grownBy W none∧W.heap[w.heap.size]? =some (.cells eO (bb.t 9) (0,0)):=fun W ic aa ae au=>by
  rw[setRow_setRow]at ic;refine⟨⟨aa,ae,au,?_,fun k aj _=>?_⟩,?_⟩
  ·rw[ic,setRow_size,show oC.heap=w.heap.push (.cells j0 (bb.t 9) (0,0))by rw[Cu];rfl,Array.size_push]
   omega
  ·rw[ic,setRow_other _ _ _ _ (by omega),GR _ aj]
  ·rw[ic]
   exact setRow_heap oC w.heap.size j0 eO (bb.t 9) (0,0) GQ
 subst Cu
 have gV:((w.alloc (.cells j0 (bb.t 9))).drew).heap=(w.drew.alloc (.cells j0 (bb.t 9))).heap:=rfl
 have hF:(((w.alloc (.cells j0 (bb.t 9))).drew.setRow w.heap.size dI).drew).heap=((w.drew.alloc (.cells j0 (bb.t 9))).setRow w.heap.size dI).heap:=rfl
 have zmy: ¬(G=i):=by omega
 have zmz: ¬(G=i+m):=by omega
 have zmA: ¬(c=i):=by omega
 have zld:IntKind.i64.wrap ((i:Int)+(m:Int))=(i:Int)+(m:Int):=by rw[IntKind.wrap_i64];unfold maxLen at ny;omega
 have iq:(0:Int)≤(i:Int)+(m:Int):=by omega
 have zle:((i:Int)+(m:Int)).toNat=i+m:=by omega
 have zlf:(i:Int)≤(n:Int):=by omega
 have zlp:=ny
 unfold maxLen at zlp
 clear rb ra hold GN k3 GO tS fH Cs nG mS hi l4 iK kR fe js aB bl cx eR oI CK CB G4 zlm oy mQ oB Ct GQ GR P4 ah
 go_enter sl,Body2.n22_ntmps bb
 go_wp2_with (first
  |(at_builtin;refine Lib.wpList_append_run _ rfl _ _ _ _ rfl _ _ rfl rfl _ _ (kd _) ?_)
  |(at_builtin;refine wpList_copy_runI _ rfl _ _ (bb.t 24) (bb.t 24) rfl _ _ rfl rfl (zln _ gV _ _) ?_)
  |(at_builtin;refine wpList_copy_runI _ rfl _ _ (bb.t 24) (bb.t 24) rfl _ _ rfl rfl (Xg _ hF _ _ _) ?_))
 go_region_law_o (refine step_copy_runI rfl _ _ (bb.t 24) (bb.t 24) rfl (.slice (some ⟨w.heap.size,(i+m)*s,none⟩) (n+m-(i+m)) (G-(i+m))) (.slice (some ⟨g,i*s,none⟩) (n-i) (c-i)) (by simp[Act.eval,Act.put]) (by simp[Act.eval,Act.put]) (Xg _ hF (bb.t 3) (G-(i+m)) (c-i)) ?_)
 go_wp2
 go_ret
 have h:=OT ((((w.alloc (.cells j0 (bb.t 9))).drew.setRow w.heap.size dI).drew).setRow w.heap.size eO) rfl rfl rfl rfl
 exact⟨G,eO,rfl,Xe,Xf,h.1,h.2,l0.1,dR ▸ l0.2⟩
set_option maxHeartbeats 4000000 in
set_option maxRecDepth 100000 in
theorem Xh(L:w3 P bb)(i0:TypeInfo)(z:Value)(s bytes:Nat)(hi:P.info? (bb.t 9)=some i0)(l4:i0.zero=some z)(iK:i0.size=s)(kR:i0.bytes=bytes)(fe:z.cells.size=s)(sm:0<s)
 (z9: ∀w,(Go.sizeOf (bb.t 9)).run P w= .ok s w)(b:Option Addr)(n c m kz:Nat)(aV:Addr)(xs vs:List Value)(w:World)(da:ij w (bb.t 9) s (.slice b n c) n xs)
 (hm:0<m)(ny:n+m≤maxLen)(sk:(n+m)*bytes≤140737488355328)(fH:vs.length=m*s)
 (mS: ∀j v,vs[j]? =some v→w.cell? (aV.add j)=some v)(nG: ∀v∈vs,v.oneCell'=true)(Bz:n≤c):
 Calls P (bb.f 22) #[.slice b n c,.int .i64 n,.slice (some aV) m kz] w fun e w'=>
  ∃bo,e= .returned bo∧ij w' (bb.t 9) s bo (n+m) (xs++vs)∧w.grownBy w' (cb (.slice b n c))∧(∀k,cb bo=some k→cb (.slice b n c)=some k∨w.heap.size≤k):=by
 have t3:=L.t3;have a3:=L.a3;have z3:=L.z3;have v3:=L.v3;have t4:=L.t4;have a4:=L.a4;have z4:=L.z4;have v4:=L.v4;have t24:=L.t24;have a24:=L.a24;have z24:=L.z24;have v24:=L.v24
 have yR:=run_underlying L.t3;have W9:=run_underlying L.t4;have Xa:=run_underlying L.t24
 have mixed:=L.mixed
 obtain⟨_,_,sl⟩:=L.f22
 have Xb: ¬((m:Int)=0):=by omega
 have Xi:b=none→n=0∧c=0:=fun h=>by
  subst h
  rcases da.2 with⟨⟨b,ad,_⟩,_⟩|⟨g,cap,cur,h,_⟩
  ·cases ad
   exact⟨rfl,rfl⟩
  ·cases h
 obtain⟨bo,w',cA,kL,c2,bk⟩:=Eo (P:=P) (w:=w) (bb.t 24) (bb.t 24) (bb.t 9) L.t24 hi l4 iK kR fe sm da (b:=some aV) (m:=m) (cap:=kz) fH (fun h=>by cases h) (fun a aY=>by cases aY;exact mS) nG ny sk
 clear mS nG da fH hi l4 iK kR fe
 unfold maxLen at ny
 cases b with
 |none=>
  obtain⟨rfl,rfl⟩:=Xi rfl
  go_enter sl,Body2.n22_ntmps bb
  go_wp2_with (at_builtin;refine Lib.wpList_append_run _ rfl _ _ _ _ rfl _ _ rfl rfl _ _ cA ?_)
  go_ret
  exact⟨bo,rfl,by simpa using kL,c2,bk⟩
 |some a=>
  clear Xi
  by_cases WT:c=n
  ·subst WT
   go_enter sl,Body2.n22_ntmps bb
   go_wp2_with (at_builtin;refine Lib.wpList_append_run _ rfl _ _ _ _ rfl _ _ rfl rfl _ _ cA ?_)
   all_goals go_ret
   all_goals exact⟨bo,rfl,kL,c2,bk⟩
  ·go_enter sl,Body2.n22_ntmps bb
   go_wp2_with (at_builtin;refine Lib.wpList_append_run _ rfl _ _ _ _ rfl _ _ rfl rfl _ _ cA ?_)
   all_goals go_ret
   all_goals exact⟨bo,rfl,kL,c2,bk⟩
theorem zlq(L:w3 P bb)(i0:TypeInfo)(z:Value)(s bytes:Nat)(hi:P.info? (bb.t 9)=some i0)(l4:i0.zero=some z)(iK:i0.size=s)(kR:i0.bytes=bytes)(fe:z.cells.size=s)(sm:0<s)
 (z9: ∀w,(Go.sizeOf (bb.t 9)).run P w= .ok s w){v:Value}{n i m kz:Nat}{aV:Addr}{xs vs:List Value}{w:World}(da:ij w (bb.t 9) s v n xs)(k0:i≤n)
 (hm:0<m)(ny:n+m≤maxLen)(sk:(n+m)*bytes≤140737488355328)(fH:vs.length=m*s)
 (mS: ∀j v,vs[j]? =some v→w.cell? (aV.add j)=some v)(Xj: ∀v∈xs,v.oneCell'=true)(nG: ∀v∈vs,v.oneCell'=true)(b9:cb v≠some aV.block):
 Calls P (bb.f 22) #[v,.int .i64 i,.slice (some aV) m kz] w fun e w'=>
  ∃bo,e= .returned bo∧ij w' (bb.t 9) s bo (n+m) (xs.take (i*s)++vs++xs.drop (i*s))∧w.grownBy w' (cb v)∧(∀k,cb bo=some k→cb v=some k∨w.heap.size≤k):=by
 have jQ:=da.1
 have fin:i=n→xs.take (i*s)++vs++xs.drop (i*s)=xs++vs:=fun h=>by
  subst h;rw[List.take_of_length_le (by omega),List.drop_of_length_le (by omega),List.append_nil]
 have Xk:=da
 rcases da.2 with⟨⟨b,rfl,_⟩,rfl⟩|⟨g,cap,cur,rfl,hc,ah,hle,im,dR,hx⟩
 ·have:i=0:=by omega
  subst this;rw[fin rfl];exact Xh L i0 z s bytes hi l4 iK kR fe sm z9 b 0 0 m kz aV xs vs w Xk hm ny sk fH mS nG (Nat.le_refl _)
 ·by_cases he:i=n
  ·rw[fin he]
   subst he;exact Xh L i0 z s bytes hi l4 iK kR fe sm z9 _ i cap m kz aV xs vs w Xk hm ny sk fH mS nG hle
  ·have bM:i<n:=by omega
   have oD:0<vs.length:=by rw[fH];exact Nat.mul_pos hm sm
   have hI:=mS 0 vs[0] (by simp[oD])
   obtain⟨tR,nF,yU,zlr,hP⟩: ∃tR nF,w.shape? aV.block=some (tR,nF)∧nF≠0∧aV.block<w.heap.size:=by
    have ad:(aV.add 0).block=aV.block:=qg aV 0
    unfold World.cell? at hI;rw[ad]at hI
    split at hI
    ·rename_i cs t tT a6
     refine⟨t,cs.size,by simp[World.shape?,a6],fun aJ=>?_,(Array.getElem?_eq_some_iff.1 a6).1⟩
     have:cs= #[]:=Array.eq_empty_of_size_eq_zero aJ
     subst this;simp at hI
    ·cases hI
   have gN:cb (.slice (some ⟨g,0,none⟩) n cap)=some g:=by simp[cb];omega
   rw[gN]at b9⊢
   have zls:aV.block≠g:=fun h=>b9 (by rw[h])
   by_cases ag:n+m≤cap
   ·refine Calls.mono (zlb L i0 z s hi iK sm z9 g n cap i m kz aV cur (bb.t 9) vs w bM hm ag im zls ah dR fH mS (by rw[hx];exact Xj) nG tR nF yU zlr) fun e w' ⟨he,sn,hw,aa,ae⟩=>?_
    subst hw;rw[hx]at ae
    have au:xs.take (i*s)=cur.toList.take (i*s):=by
     rw[←hx,List.take_take,Nat.min_eq_left (Nat.mul_le_mul_right _ k0)]
    have aR:(w.drew.setRow g sn).heap[g]? =some (.cells sn (bb.t 9) (0,0)):=setRow_heap w.drew g cur sn (bb.t 9) (0,0) ah
    refine⟨_,he,⟨?_,.inr ⟨g,cap,sn,rfl,hc,aR,ag,im,by rw[aa,dR],by rw[ae,au]⟩⟩,⟨rfl,rfl,rfl,?_,fun k aj Xl=>?_⟩,fun k aj=>.inl ?_⟩
    ·have:i*s≤n*s:=Nat.mul_le_mul_right _ k0
     simp only[List.length_append,List.length_take,List.length_drop,jQ,fH,Nat.add_mul];omega
    ·rw[setRow_size]
     exact Nat.le_refl _
    ·exact setRow_other w.drew g k sn fun h=>Xl (by rw[h])
    ·simpa[cb,show cap≠0 by omega]using aj
   ·refine Calls.mono (zlj L i0 z s bytes hi l4 iK kR fe sm z9 g n cap i m kz aV cur (bb.t 9) vs w bM hm hle (by omega) ny sk ah dR fH mS (by rw[hx];exact Xj) nG hP) fun e w' ⟨G,eO,he,cR,c7,fV,mh,B8,yI⟩=>?_
    rw[hx]at yI
    have au:xs.take (i*s)=cur.toList.take (i*s):=by
     rw[←hx,List.take_take,Nat.min_eq_left (Nat.mul_le_mul_right _ k0)]
    refine⟨_,he,⟨?_,.inr ⟨w.heap.size,G,eO,rfl,by omega,mh,cR,c7,B8,by rw[yI,au]⟩⟩,⟨fV.os,fV.tape,fV.output,fV.size,fun k aj Xl=>fV.block k aj (by simp)⟩,fun k aj=>.inr ?_⟩
    ·have:i*s≤n*s:=Nat.mul_le_mul_right _ k0
     simp only[List.length_append,List.length_take,List.length_drop,jQ,fH,Nat.add_mul];omega
    ·simp[cb,show G≠0 by omega]at aj
     omega
end
end Go.aN
namespace Go.aN
open Go Go.Proofs Go.Shelf Go.RowKit Go.Lib
theorem zlt{w:World}{ro:Nat→Prop}{σ:Heap}{β:Nat→Value}{N:Nat}(a6:ho w ro σ β N){x:aD}{c:Value}(h:bG w ro σ β N x c){n:Nat}{es:List (List ba)}(he:fB σ n x=some es)
 (aJ:0<es.length)(hn:0<n){id:Nat}(hx:x≠ .aP id){o:ew}(bj:aE σ id=some o)(aq:o.live=true){a:Addr}{l cap:Nat}(hc:c= .slice (some a) l cap):cb (β id)≠some a.block:=by
 have cm:ro a.block→cb (β id)≠some a.block:=fun h ad=>a6.fo _ h ⟨id,o,bj,aq,ad⟩
 have qj: ∀{m:Nat} {dX:List (List ba)} {c:Value},0<dX.length→0<m→cZ w ro (.aP m dX) c→c= .slice (some a) l cap→ro a.block:=fun {m dX c} pT cR c7 fV=>by
  cases c7 with
  |aP _ _ b zlu f aa ae au aR bN=>
   obtain⟨bg,ad,hf⟩:=aR pT
   cases fV
   cases ad;exact(hf 0 (Nat.mul_pos pT cR)).1
 cases h with
 |av x c fA=>
  cases x with
  |v y=>
   cases fA
   subst hc;simp[fB]at he
  |ptr=>simp[fB]at he
  |mp=>simp[fB]at he
  |eB=>simp[fB]at he
  |li i k=>
   simp only[fB]at he
   split at he
   ·rename_i hm
    subst hm;simp only[Option.some.injEq]at he;subst he
    cases fA with
    |li _ _ _ fA=>exact cm (qj aJ hn fA hc)
   ·cases he
  |aP m dX=>
   simp only[fB]at he
   split at he
   ·rename_i hm
    subst hm;simp only[Option.some.injEq]at he;subst he;exact cm (qj aJ hn fA hc)
   ·cases he
 |aP gv c bM ak=>
  simp only[fB]at he
  split at he
  ·rename_i z t m dX ah
   split at he
   ·rename_i hm
    subst hm;simp only[Option.some.injEq]at he;subst he
    have iU:=ak z t _ _ ah
    have du:=a6.dh gv _ ah
    cases du with
    |row _ _ _ xs aa ae au=>
     intro ad
     have gD:cb (β gv)=some a.block:=by
      rcases aa.2 with⟨_,aT⟩|⟨g,zlu,cur,ax,sS,_⟩
      ·omega
      ·rw[←iU,hc]at ax
       rw[←iU,hc];cases ax;simp[cb];omega
     exact hx (by rw[a6.inj id gv o _ _ bj ah aq rfl ad gD])
    |gf _ _ _ aa=>exact cm (qj aJ hn aa (by rw[←iU,hc]))
   ·cases he
  ·cases he
 |_=>simp[fB]at he
theorem Xm{α:Type}{n:Nat}: ∀(es:List (List α)),(∀e∈es,e.length=n)→es.flatten.length=es.length*n
 |[],_=>by simp
 |e::r,h=>by
  rw[List.flatten_cons,List.length_append,h e (List.mem_cons_self ..),Xm r fun x hx=>h x (List.mem_cons_of_mem _ hx),List.length_cons,Nat.add_mul,Nat.one_mul];omega
def uL(P:Program)(G:bc)(r:lK):Prop:=
 ∀{σ:Heap} {n id:Nat} {i:Int} {y:aD} {l k:List (fS r.c)},aE σ id=some (.row false r.t (b4 r.c) (l.map (ck r.c)))→fB σ (b4 r.c) y=some (k.map (ck r.c))→y≠ .aP id→0<k.length→0≤i∧i≤(l.length:Int)→
  l.length+k.length≤maxLen∧(l.length+k.length)*r.bytes≤140737488355328→
  dN P G r.f [.aP id,.av (.v (.int .i64 i)),y] σ n fun v b0=>v= .aP n∧b0=(n,.row false r.t (b4 r.c) ((l.take i.toNat++k++l.drop i.toNat).map (ck r.c)))::dz id σ
section
variable {P:Program} {bb:Ren}
theorem zca{G:bc}{c:bR}(L:w3 P bb)(i0:TypeInfo)(z:Value)(bytes:Nat)(hi:P.info? (bb.t 9)=some i0)(l4:i0.zero=some z)(iK:i0.size=b4 c)(kR:i0.bytes=bytes)(fe:z.cells.size=b4 c)(bV:0<b4 c)
 (z9: ∀w,(Go.sizeOf (bb.t 9)).run P w= .ok (b4 c) w):uL P G ⟨bb.f 22,bb.t 9,c,bytes⟩:=by
 intro σ n id i y l k bj ay b9 aj zlv Co w β ro ei aa ae au aR bN
 have PX:=ae 0 _ rfl
 have Xn:=ae 1 _ rfl
 have Xo:=ae 2 _ rfl
 have si:ei= #[ei.getD 0 undef,ei.getD 1 undef,ei.getD 2 undef]:=by
  have ai:ei.size=3:=aa
  apply Array.ext
  ·simpa using ai
  ·intro j zmB Il
   have:j=0∨j=1∨j=2:=by omega
   rcases this with rfl|rfl|rfl<;>simp[Array.getD,ai]
 obtain⟨b,cap,iU,mC,pb,f,ia,pc⟩:=xq au Xo ay
 obtain⟨n8,pd,rK⟩:=AT mC pc
 have eu:0<(k.map (ck c)).length:=by rw[List.length_map];exact aj
 cases b with
 |none=>exact absurd (pb rfl) (List.ne_nil_of_length_pos eu)
 |some a=>
 have hP:=zlt au Xo ay eu bV b9 bj rfl iU
 have oD:ei.getD 0 undef=β id:=by
  cases PX with
  |aP _ _ _ ak=>exact ak _ _ _ _ bj
 have zlw:ei.getD 1 undef= .int .i64 i.toNat:=by
  generalize ei.getD 1 undef=q at Xn
  cases Xn with
  |av _ _ hx=>
   cases hx;rw[Int.toNat_of_nonneg zlv.1]
 have du:=au.dh id _ bj
 cases du with
 |row _ _ _ xs da hle e0=>
 have gV:dc ⟨w,ro,σ,β,n⟩ G ⟨[],σ,n,n⟩ ⟨#[],[]⟩ w β ro:=⟨rfl,rfl,by simp,au,aR,⟨rfl,rfl,rfl,Nat.le_refl _,fun _ _ _=>rfl,fun _ h=>.inl h,fun _ h=>h,fun _ h=>.inl h,fun id _ o ah=>⟨by simp[ah],rfl⟩,bN,Nat.le_refl _⟩,Nat.le_refl _⟩
 rw[si,iU,oD,zlw]
 rw[List.length_map]at n8 ia⊢
 have P5:(l.map (ck c)).length=l.length:=List.length_map ..
 rw[P5]at da
 refine Calls.mono (zlq L i0 z (b4 c) bytes hi l4 iK kR fe bV z9 da (i:=i.toNat) (by omega) aj Co.1 Co.2 (vs:=(List.range (k.length*b4 c)).map f) (by simp) (fun j u af=>?_) (fun v ax=>?_) (by
  rw[List.length_map]at pd
  exact pd) hP) fun e w' ⟨bo,he,kL,c2,bk⟩=>?_
 ·have cW:=(List.getElem?_eq_some_iff.1 af).1
  simp only[List.length_map,List.length_range]at cW
  have aa:=ia a rfl j cW
  simp[cW]at af;rw[aa,af]
 ·obtain⟨j,af⟩:=List.getElem?_of_mem ax
  have cW:=(List.getElem?_eq_some_iff.1 af).1
  have mq:=Xm _ hle
  rw[P5]at mq
  have hx:=e0 j _ (List.getElem?_eq_getElem (by rw[mq,←da.1];exact cW))
  have ay:=hx.one
  rw[List.getD_eq_getElem?_getD,af]at ay
  exact ay
 ·have jr: ∀k,k<w.heap.size→cb (β id)≠some k→w'.heap[k]? =w.heap[k]? :=fun k aj b9=>c2.block k aj (fun e=>b9 e.symm)
  have cm: ∀k,ro k→w'.heap[k]? =w.heap[k]? :=fun k aj=>jr k (au.lt k aj) fun bk=>au.fo k aj ⟨id,_,bj,rfl,bk⟩
  have hm:(l.take i.toNat++k++l.drop i.toNat).map (ck c)=(l.map (ck c)).take i.toNat++k.map (ck c)++(l.map (ck c)).drop i.toNat:=by
   rw[List.map_append,List.map_append,List.map_take,List.map_drop]
  have k0:i.toNat≤l.length:=by omega
  have Bu:i.toNat*b4 c≤l.length*b4 c:=Nat.mul_le_mul_right _ k0
  have aM: ∀j x,((l.map (ck c)).take i.toNat).flatten[j]? =some x→cZ w ro x ((xs.take (i.toNat*b4 c)).getD j undef):=fun j x af=>by
   rw[TY hle _,List.getElem?_take]at af
   split at af
   ·rename_i bM
    have:=e0 j x af
    rw[List.getD_eq_getElem?_getD]at this⊢
    rw[List.getElem?_take,if_pos bM]
    exact this
   ·cases af
  have cn: ∀j x,((l.map (ck c)).drop i.toNat).flatten[j]? =some x→cZ w ro x ((xs.drop (i.toNat*b4 c)).getD j undef):=fun j x af=>by
   rw[TZ hle _,List.getElem?_drop]at af
   have:=e0 _ x af
   rw[List.getD_eq_getElem?_getD]at this⊢
   rw[List.getElem?_drop]
   exact this
  have Xp: ∀e∈(l.map (ck c)).take i.toNat,e.length=b4 c:=fun e he=>hle e (List.mem_of_mem_take he)
  have Xq:(xs.take (i.toNat*b4 c)).length=((l.map (ck c)).take i.toNat).length*b4 c:=by
   rw[List.length_take,List.length_take,P5,da.1,Nat.min_eq_left Bu,Nat.min_eq_left k0]
  have Xr: ∀e∈(l.map (ck c)).take i.toNat++k.map (ck c),e.length=b4 c:=fun e he=>by
   rcases List.mem_append.1 he with h|h
   ·exact Xp _ h
   ·exact mC _ h
  have sQ:=xr Xp Xq aM rK
  have zlx:(xs.take (i.toNat*b4 c)++(List.range (k.length*b4 c)).map f).length=((l.map (ck c)).take i.toNat++k.map (ck c)).length*b4 c:=by
   rw[List.length_append,List.length_append,Xq,Nat.add_mul,List.length_map,List.length_range,List.length_map]
  have hOr:k7 w' ro ((n,.row false (bb.t 9) (b4 c) ((l.take i.toNat++k++l.drop i.toNat).map (ck c)))::dz id σ) (gX β n bo) (n+1) n (.row false (bb.t 9) (b4 c) ((l.take i.toNat++k++l.drop i.toNat).map (ck c))):=by
   refine .row (bb.t 9) (b4 c) _ _ (by
    rw[dZ,List.length_map,List.length_append,List.length_append,List.length_take,List.length_drop,Nat.min_eq_left k0,show i.toNat+k.length+(l.length-i.toNat)=l.length+k.length by omega]
    exact kL) (fun az kb=>?_) (fun j x af=>?_)
   ·rw[hm]at kb
    rcases List.mem_append.1 kb with h|h
    ·exact Xr _ h
    ·exact hle _ (List.mem_of_mem_drop h)
   ·rw[hm]at af
    have zly:=xr Xr zlx (fun j x h=>by first|exact sQ j x h|(rw[List.length_map]at sQ;exact sQ j x h)) cn
    exact(zly j x af).keep cm fun _ h=>h
  have fh:=gV.No (w':=w') id (Nat.le_refl _) bj _ bo c2.os c2.tape c2.output c2.size jr bk rfl hOr
  exact⟨bo,.aP n,_,gX β n bo,ro,n+1,he,⟨rfl,rfl⟩,.aP _ _ (Nat.lt_succ_self _) fun z bL cS dX _=>(dZ _ _ _).symm,fh.heap,fh.trans⟩
end
end Go.aN
namespace Go.aN
open Go
def P6(id:Nat):ab→Bool
 | .aP j=>!Nat.beq j id
 |_=>true
def zlz(r:lK)(S:ar)(id:Nat)(i di z:ab):aC:=
 .eL (.eG r.c di none (some i)) (.eL (.up r.c z (.cs (.int .i64 0))) (.eL (.f2 r.bytes (.ap r.c) di z)
  (.lt S.k (.eG r.c di none (some i)) (.lt (S.k+1) (.f2 (.ap r.c) (.aV (.li r.c) S.k) z) (.lt (S.k+2) (.eG r.c di (some i) none) (.lt (S.k+3) (.f2 (.ap r.c) (.aV (.li r.c) (S.k+1)) (.aV (.li r.c) (S.k+2)))
   (.cQ .ct ⟨bd.put .emp 0 (.aP S.n),(S.n,.rw r.t r.c (.aV (.li r.c) (S.k+3)))::hA id S.h,S.n+1,S.k+4,S.g⟩)))))))
def P7(R:List lK)(inl:Nat→List ab→ar→aC)(f:Nat)(ys:List ab)(S:ar):aC:=
 match Cp f R,ys with
 |some r,[.aP id,i,y]=>match dm S.h id,vF S y with
  |some (.rw bL j5 di),some z=>match(Nat.beq bL r.t&&decide (j5=r.c))&&((di.eE (.li r.c)&&(z.eE (.li r.c)&&z.lt S.k))&&((decide (i.rt=some (.int .i64))&&i.lt S.k)&&(P6 id y&&(match vG S y with
   |some d=>decide (d=r.c)
   |none=>true))))with
   |true=>zlz r S id i di z
   |false=>inl f ys S
  |_,_=>inl f ys S
 |_,_=>inl f ys S
section
variable {P:Program} {G:bc} {M:List aS} {inl:Nat→List ab→ar→aC}
theorem zlA{S:ar}{e:Env}{y z:ab}{id:Nat}(h:vF S y=some z)(hn:P6 id y=true):y.den G e≠ .aP id:=by
 unfold vF at h
 split at h
 ·intro h'
  cases h'
 ·rename_i j
  intro h';simp only[ab.den,aD.aP.injEq]at h';subst h';simp[P6]at hn
 ·split at h
  ·rename_i d hd
   rw[(Fi (G:=G) (e:=e) hd).1];intro h'
   cases h'
  ·cases h
theorem zlB{R:List lK}(fl: ∀r∈R,uL P G r)(b1:fT P G M inl):fT P G M (P7 R inl):=fun f ys S e ad aq hf ai=>by
 unfold P7 at ai⊢
 split at ai
 rotate_left
 ·exact b1 _ _ S e ad aq hf ai
 rename_i r id i y PZ
 obtain⟨hm,rfl⟩:=W6 PZ
 split at ai
 rotate_left
 ·exact b1 _ _ S e ad aq hf ai
 rename_i bL j5 di z ah aT
 split at ai
 rotate_left
 ·exact b1 _ _ S e ad aq hf ai
 rename_i aj
 simp only[Bool.and_eq_true,decide_eq_true_eq]at aj
 obtain⟨⟨eT,gM⟩,⟨k6,sR,As⟩,⟨uV,xb⟩,Ps,Xs⟩:=aj
 have eT:=Nat.eq_of_beq_eq_true eT
 subst eT
 subst gM
 have xk:di.lt S.k=true:=vO ad.h ah
 have oo:fB (cF G e S.h) (b4 r.c) (y.den G e)=some (List.map (ck r.c) (z.aA e (.li r.c))):=
  Fu (G:=G) (N:=0) (B:=0) (e:=e) aT sR (fun d hd=>by rw[hd]at Xs;exact of_decide_eq_true Xs)
 have bj:aE (cF G e S.h) id=some (.row false r.t (b4 r.c) (List.map (ck r.c) (di.aA e (.li r.c)))):=by
  simp only[er,ah,Option.map_some,bO.den]
 obtain⟨gW,gz,Oc,_⟩:fi.ok M e (.eG r.c di none (some i))∧fi.ok M e (.up r.c z (.cs (.int .i64 0)))∧fi.ok M e (.f2 r.bytes (.ap r.c) di z)∧True:=⟨ai.1,ai.2.1,ai.2.2.1,trivial⟩
 have P8:cu (i.dyn e)=i.aA e (.int .i64):=lW uV
 have T1:0≤i.aA e (.int .i64)∧i.aA e (.int .i64)≤((di.aA e (.li r.c)).length:Int):=by
  rw[←P8];exact gW
 have Fl:0<(z.aA e (.li r.c)).length:=by
  have h:(0:Int)<(List.length (z.aA e (.li r.c)):Int):=gz.2
  omega
 have zlC:i.den G e= .av (.v (.int .i64 (i.aA e (.int .i64)))):=jB uV
 have h8:ab.bX G e [.aP id,i,y]=[.aP id,.av (.v (.int .i64 (i.aA e (.int .i64)))),y.den G e]:=by
  rw[←zlC];rfl
 rw[h8]
 refine(fl r hm (n:=S.n) bj oo (zlA aT Ps) Fl T1 Oc).res fun v b0 ⟨aa,ae⟩=>?_
 let aB:=bd.put e S.k ((bT.eG r.c di none (some i)).den M e)
 let bl:=bd.put aB (S.k+1) ((bT.f2 (.ap r.c) (.aV (.li r.c) S.k) z).den M aB)
 let cx:=bd.put bl (S.k+2) ((bT.eG r.c di (some i) none).den M bl)
 let eR:=bd.put cx (S.k+3) ((bT.f2 (.ap r.c) (.aV (.li r.c) (S.k+1)) (.aV (.li r.c) (S.k+2))).den M cx)
 have cg:b2 S.k e aB:=b2.put (Nat.le_refl _)
 have a2:b2 S.k e bl:=cg.trans (b2.put (k:=S.k) (by omega)) (Nat.le_refl _)
 have a3:b2 S.k e cx:=a2.trans (b2.put (k:=S.k) (by omega)) (Nat.le_refl _)
 have a4:b2 S.k e eR:=a3.trans (b2.put (k:=S.k) (by omega)) (Nat.le_refl _)
 have cR:(ab.aV (.li r.c) S.k).aA aB (.li r.c)=(di.aA e (.li r.c)).take (i.aA e (.int .i64)).toNat:=yc (by
  rw[Env.ir,if_pos rfl]
  simp only[bT.den,mI,ih,P8])
 have c7:(ab.aV (.li r.c) (S.k+1)).aA bl (.li r.c)=(di.aA e (.li r.c)).take (i.aA e (.int .i64)).toNat++z.aA e (.li r.c):=yc (by
  rw[Env.ir,if_pos rfl];show(⟨.li r.c,List.append ((ab.aV (.li r.c) S.k).aA aB (.li r.c)) (z.aA aB (.li r.c))⟩:aF)=_;rw[cR,eK cg As]
  rfl)
 have fV:(ab.aV (.li r.c) (S.k+2)).aA cx (.li r.c)=(di.aA e (.li r.c)).drop (i.aA e (.int .i64)).toNat:=yc (by
  rw[Env.ir,if_pos rfl];simp only[bT.den,mI,ih]
  rw[eK a2 xk,rP a2 xb,P8])
 have zlD:(ab.aV (.li r.c) (S.k+1)).aA cx (.li r.c)=(di.aA e (.li r.c)).take (i.aA e (.int .i64)).toNat++z.aA e (.li r.c):=by
  rw[←c7];exact eK (k:=S.k+2) (b2.put (Nat.le_refl _)) (jX (by omega))
 have mh:(ab.aV (.li r.c) (S.k+3)).aA eR (.li r.c)=(di.aA e (.li r.c)).take (i.aA e (.int .i64)).toNat++z.aA e (.li r.c)++(di.aA e (.li r.c)).drop (i.aA e (.int .i64)).toNat:=yc (by
  rw[Env.ir,if_pos rfl];show(⟨.li r.c,List.append ((ab.aV (.li r.c) (S.k+1)).aA cx (.li r.c)) ((ab.aV (.li r.c) (S.k+2)).aA cx (.li r.c))⟩:aF)=_;rw[zlD,fV]
  rfl)
 refine⟨⟨bd.put .emp 0 (.aP S.n),(S.n,.rw r.t r.c (.aV (.li r.c) (S.k+3)))::hA id S.h,S.n+1,S.k+4,S.g⟩,eR,rfl,?_,?_,⟨fun j x af=>?_,?_,?_⟩,?_,a4,Nat.le_add_right _ _⟩
 ·rw[aa]
  show _=ab.den G _ (ar.at _ 0);unfold ar.at
  simp only[bd.h5,if_true,ab.den]
 ·rw[ae]
  simp only[cF,bO.den,pD,mh,xR a4 ad.h]
 ·simp only[bd.h5]at af
  split at af
  ·cases af
   rfl
  ·simp[bd.get]at af
 ·show(Nat.blt (S.k+3) (S.k+4)&&eM (S.k+4) (hA id S.h))=true
  rw[jX (by omega),ov id (tk (by omega) ad.h)]
  rfl
 ·exact om (k:=S.k) (m:=S.k+4) (by omega) ad.g
 ·exact iu a4 ad.g hf
end
def DY(P:Program)(H:jM)(T:List (Nat × bR))(Z:Nat × Nat × Nat)(R I:List lK)(B:List j7)(C:List iD):Nat→Nat→List ab→ar→aC
 |0=>fun _ _ _=>.bad 40
 |n+1=>Oy P H T (P7 I (PY R (PU Z.1 Z.2.1 Z.2.2 (Pr B (Pd C (DY P H T Z R I B C n))))))
section
variable {P:Program} {G:bc} {M:List aS}
theorem IL{Z:Nat × Nat × Nat}{R I:List lK}{B:List j7}{C:List iD}{H:jM}{T:List (Nat × bR)}(k4:Oz P G M H)(fl: ∀r∈R,nU P G r)(b1: ∀r∈I,uL P G r)(sP:uS P G Z.1 Z.2.1 Z.2.2)(fz:Lm P G M B)(q2:rk P G M C): ∀n,fT P G M (DY P H T Z R I B C n)
 |0=>fun _ _ _ _ _ _ _ h=>h.elim
 |n+1=>ziW k4 (zlB b1 (zkZ fl (zkN sP (zkb fz (zjV q2 (IL k4 fl b1 sP fz q2 n))))))
end
end Go.aN
