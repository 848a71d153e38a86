/- TE, part L: calls whose result is a new own row (slices.Clone). Conditions: none. -/
import Derived.Test.YtmkpmgfieagphaaGreatDoorKTEk
import Derived.Shelf.Spec.SlicesInsertGrow
import Derived.Shelf.SlGeneric
import Derived.Laws.CopyRow
namespace Go.aK
open Go
structure lG where
 f:Nat
 t:TypeId
 c:bK
 bytes:Nat
def BD(f:Nat):List lG→Option lG
 |[]=>none
 |r::l=>match Nat.beq r.f f with
  |true=>some r
  |false=>BD f l
def nL(P:Program)(G:a7)(r:lG):Prop:=
 ∀{σ:Heap} {n:Nat} {y:aD} {l:List (fN r.c)},fw σ (bY r.c) y=some (l.map (b9 r.c))→l.length≤maxLen∧l.length*r.bytes≤140737488355328→
  dF P G r.f [y] σ n fun v bU=>v= .aN n∧bU=(n,.row false r.t (bY r.c) (l.map (b9 r.c)))::σ
def Ot(R:List lG)(inl:Nat→List ab→ao→aC)(f:Nat)(as:List ab)(S:ao):aC:=
 match BD f R,as with
 |some r,[a]=>match vy S a with
  |some z=>match(z.ey (.li r.c)&&z.lt S.k)&&(match vz S a with
   |some d=>decide (d=r.c)
   |none=>true)with
   |true=>.eF (.f2 r.bytes (.ap r.c) (.cs (.slice none 0 0)) z) (.cG .ch ⟨a8.put .emp 0 (.aN S.n),(S.n,.rw r.t r.c z)::S.h,S.n+1,S.k,S.g⟩)
   |false=>inl f as S
  |none=>inl f as S
 |_,_=>inl f as S
section
variable {P:Program} {G:a7} {M:List aQ} {inl:Nat→List ab→ao→aC}
theorem VC{f:Nat}{R:List lG}{r:lG}(h:BD f R=some r):r∈R∧r.f=f:=by
 induction R with
 |nil=>cases h
 |cons q l aX=>
  simp only[BD]at h
  split at h
  ·rename_i ad
   cases h;exact⟨List.mem_cons_self ..,Nat.eq_of_beq_eq_true ad⟩
  ·exact⟨List.mem_cons_of_mem _ (aX h).1,(aX h).2⟩
theorem ziM{R:List lG}(fP: ∀r∈R,nL P G r)(bV:fO P G M inl):fO P G M (Ot R inl):=fun f as S e ad aq hf ai=>by
 unfold Ot at ai⊢
 split at ai
 rotate_left
 ·exact bV _ _ S e ad aq hf ai
 rename_i r a Ou
 obtain⟨hm,rfl⟩:=VC Ou
 split at ai
 rotate_left
 ·exact bV _ _ S e ad aq hf ai
 rename_i z aR
 split at ai
 rotate_left
 ·exact bV _ _ S e ad aq hf ai
 rename_i aj
 simp only[Bool.and_eq_true]at aj
 obtain⟨⟨fx,gG⟩,k7⟩:=aj
 have oa:fw (cx G e S.h) (bY r.c) (a.den G e)=some (List.map (b9 r.c) (z.az e (.li r.c))):=
  EC (G:=G) (N:=0) (B:=0) (e:=e) aR fx (fun d hd=>by rw[hd]at k7;exact of_decide_eq_true k7)
 obtain⟨gU,_⟩:fe.ok M e (.f2 r.bytes (.ap r.c) (.cs (.slice none 0 0)) z)∧True:=⟨ai.1,trivial⟩
 have gE:(ab.cs (.slice none 0 0)).az e (.li r.c)=([]:List (fN r.c)):=by simp only[ab.az,ab.fq,cA]
 simp only[fe.ok,cC.vg,cC.a,cC.b,gE,List.length_nil,Nat.zero_add]at gU
 refine(fP r hm (n:=S.n) oa gU).res fun v bU ⟨aa,ae⟩=>⟨⟨a8.put .emp 0 (.aN S.n),(S.n,.rw r.t r.c z)::S.h,S.n+1,S.k,S.g⟩,e,rfl,?_,?_,⟨fun i y hi=>?_,?_,ad.g⟩,hf,bW.refl _ _,Nat.le_refl _⟩
 ·rw[aa]
  show _=ab.den G _ (ao.at _ 0);unfold ao.at
  simp only[a8.hZ,if_true,ab.den]
 ·rw[ae]
  rfl
 ·simp only[a8.hZ]at hi
  split at hi
  ·cases hi
   rfl
  ·simp[a8.get]at hi
 ·show(z.lt S.k&&eG S.k S.h)=true
  rw[gG,ad.h];rfl
end
end Go.aK
namespace Go.aK
open Go Go.Proofs Go.Shelf Go.RowKit Go.Lib
section
variable {P:Program}
theorem FW(w:World)(aA ziN ty elem:TypeId)(s g o Ov ziO:Nat)(a:Addr)(Ow ziP:Nat)(cur:Array Value)(t:TypeId)(cs:List Value)
 (hu:P.underlying aA=some (.slice elem))(ai:(P.info? elem).map (·.size)=some s)
 (ah:w.heap[g]? =some (.cells cur t (0,0)))(hn:cs.length=Nat.min Ow Ov*s)
 (oa: ∀j v,cs[j]? =some v→w.cell? (a.add j)=some v)(qj:o+cs.length≤cur.size)(aa: ∀v∈cs,v.oneCell'=true):
 (Builtin.copy_ #[aA,ziN] ty #[.slice (some ⟨g,o,none⟩) Ov ziO,.slice (some a) Ow ziP]).run P w=
  .ok (goInt (Nat.min Ow Ov)) (w.setRow g (cur.toList.take o++cs++cur.toList.drop (o+cs.length)).toArray):=by
 have aq:=run_loadCells_list (P:=P) w a cs oa
 have dC:=run_storeCells_at P g o t cs 0 cur w ah (by simpa using qj) aa
 rw[hn]at aq
 simp only[Nat.add_zero]at dC
 cases aH:P.info? elem with
 |none=>simp[aH]at ai
 |some i=>
  have hi:i.size=s:=by simpa[aH]using ai
  simp[Builtin.copy_,run_underlying hu,Builtin.lenOf,Builtin.firstCells,sizeOf,typeInfo,aH,hi,aq,dC]
theorem ziQ(w:World)(Ox ziR e:TypeId)(aG:P.underlying Ox=some (.slice e))(size:Nat)(aR: ∀w,(Go.sizeOf e).run P w= .ok size w)
 (a b:Addr)(VD ca yv BE:Nat)(b3:a.block≠b.block)(tR qW:TypeId)(nw BF:Nat)
 (yw:w.shape? a.block=some (tR,nw))(FX:nw≠0)(AP:w.shape? b.block=some (qW,BF))(ziS:BF≠0)
 (ziT:w.frozen? b=false)(ziU:w.frozen? {block:=b.block,off:=BF}=false):
 (Extern.SlicesOverlaps.overlaps #[Ox,Ox] #[ziR] #[.slice (some a) VD ca,.slice (some b) yv BE]).run P w= .ok (.bool false) w:=by
 have ziV:(a.block != b.block)=true:=by simpa using b3
 have ziW:(a.block==b.block)=false:=by simpa using b3
 refine(?_:Sem.run P (Bind.bind _ _) w=_)
 by_cases aL:VD=0∨yv=0∨size=0
 ·simp[run_underlying aG,aR,aL]
 ·cases BF with
  |zero=>exact absurd rfl ziS
  |succ BF=>
   cases nw with
   |zero=>exact absurd rfl FX
   |succ nw=>
    simp[run_underlying aG,aR,aL,ziV,ziW,frozen,noView,viewAt,mayBeOne,stringish,shape,Sem.run,yw,AP,ziT,ziU]
theorem ziX{α:Type}(cur cs vs:List α)(k M:Nat)(aa:k+M+cs.length≤cur.length)(ae:vs.length=M):
 (((cur.take (k+M)++cs++cur.drop (k+M+cs.length)).take k++vs++(cur.take (k+M)++cs++cur.drop (k+M+cs.length)).drop (k+vs.length)).length=cur.length)∧
 ((cur.take (k+M)++cs++cur.drop (k+M+cs.length)).take k++vs++(cur.take (k+M)++cs++cur.drop (k+M+cs.length)).drop (k+vs.length)).take (k+M+cs.length)=cur.take k++vs++cs:=by
 have hd:(cur.take (k+M)++cs++cur.drop (k+M+cs.length)).drop (k+vs.length)=cs++cur.drop (k+M+cs.length):=by
  rw[List.append_assoc];exact List.drop_left' (by rw[List.length_take];omega)
 have aG:(cur.take (k+M)++cs++cur.drop (k+M+cs.length)).take k=cur.take k:=by
  rw[List.append_assoc,List.take_append_of_le_length (by rw[List.length_take];omega),List.take_take]
  congr 1
  omega
 rw[hd,aG]
 refine⟨by simp only[List.length_append,List.length_take,List.length_drop];omega,?_⟩
 rw[←List.append_assoc]
 exact List.take_left' (by simp only[List.length_append,List.length_take];omega)
structure wG (P:Program) (a6:Ren):Prop where
 mixed:P.follows .mixedOrders=true
 f22:Bears P (a6.f 22) (Body2.n22 a6)
 f29: ∀args w,(callFunc (a6.f 29) args).run P w=((Extern.SlicesOverlaps.overlaps #[(a6.t 24),(a6.t 24)] #[(a6.t 4)] args).run P w).andThen fun v w'=>.ok (.value v) w'
 t3:P.underlying (a6.t 3)=some (TypeDesc.int IntKind.i64)
 a3: ∀w,(isAgg (a6.t 3)).run P w= .ok false w
 z3: ∀w,(Go.sizeOf (a6.t 3)).run P w= .ok 1 w
 v3: ∀w,(zeroValue (a6.t 3)).run P w= .ok (Value.int IntKind.i64 0) w
 t4:P.underlying (a6.t 4)=some (TypeDesc.bool)
 a4: ∀w,(isAgg (a6.t 4)).run P w= .ok false w
 z4: ∀w,(Go.sizeOf (a6.t 4)).run P w= .ok 1 w
 v4: ∀w,(zeroValue (a6.t 4)).run P w= .ok (Value.bool false) w
 t24:P.underlying (a6.t 24)=some (TypeDesc.slice (a6.t 9))
 a24: ∀w,(isAgg (a6.t 24)).run P w= .ok false w
 z24: ∀w,(Go.sizeOf (a6.t 24)).run P w= .ok 1 w
 v24: ∀w,(zeroValue (a6.t 24)).run P w= .ok (Value.slice none 0 0) w
variable {a6:Ren}
set_option maxHeartbeats 4000000 in
set_option maxRecDepth 100000 in
theorem ziY(L:wG P a6)(i0:TypeInfo)(z:Value)(s:Nat)(hi:P.info? (a6.t 9)=some i0)(iB:i0.size=s)(sl:0<s)
 (z9: ∀w,(Go.sizeOf (a6.t 9)).run P w= .ok s w)(g n c i m ko:Nat)(aT:Addr)(cur:Array Value)(t:TypeId)(vs:List Value)(w:World)
 (k0:i<n)(hm:0<m)(xK:n+m≤c)(KG:c≤maxLen)(VE:aT.block≠g)
 (ah:w.heap[g]? =some (.cells cur t (0,0)))(tS:cur.size=c*s)(fC:vs.length=m*s)
 (mK: ∀j v,vs[j]? =some v→w.cell? (aT.add j)=some v)(BG: ∀v∈cur.toList.take (n*s),v.oneCell'=true)(nx: ∀v∈vs,v.oneCell'=true)
 (tR:TypeId)(nw:Nat)(yw:w.shape? aT.block=some (tR,nw))(FX:nw≠0):
 Calls P (a6.f 22) #[.slice (some ⟨g,0,none⟩) n c,.int .i64 i,.slice (some aT) m ko] w fun e w'=>
  e= .returned (.slice (some ⟨g,0,none⟩) (n+m) c)∧∃sm:Array Value,w'=w.drew.setRow g sm∧sm.size=cur.size∧sm.toList.take ((n+m)*s)=cur.toList.take (i*s)++vs++(cur.toList.take (n*s)).drop (i*s):=by
 have t3:=L.t3;have a3:=L.a3;have z3:=L.z3;have v3:=L.v3;have t4:=L.t4;have a4:=L.a4;have z4:=L.z4;have v4:=L.v4;have t24:=L.t24;have a24:=L.a24;have z24:=L.z24;have v24:=L.v24
 have yt:=run_underlying L.t3;have VF:=run_underlying L.t4;have VG:=run_underlying L.t24
 have VH: ¬((m:Int)=0):=by omega
 have kN: ¬((i:Int)=(n:Int)):=by omega
 have mixed:=L.mixed
 have VI:=L.f29
 obtain⟨_,_,sk⟩:=L.f22
 have ziZ: ∀off yv BE,(callFunc (a6.f 29) #[.slice (some aT) m ko,.slice (some ⟨g,off,none⟩) yv BE]).run P w= .ok (.value (.bool false)) w:=fun off yv BE=>by
  rw[VI]
  have h:=ziQ w (a6.t 24) (a6.t 4) (a6.t 9) L.t24 s z9 aT ⟨g,off,none⟩ m ko yv BE VE tR t nw cur.size yw FX (by simp[World.shape?,ah]) (by rw[tS];exact Nat.mul_ne_zero (by omega) (by omega)) (by simp[World.frozen?,ah]) (by simp[World.frozen?,ah])
  rw[h];rfl
 unfold maxLen at KG
 have zi0:IntKind.i64.wrap ((i:Int)+(m:Int))=(i:Int)+(m:Int):=by rw[IntKind.wrap_i64];omega
 have ig:(0:Int)≤(i:Int)+(m:Int):=by omega
 have Oy:i≤n:=by omega
 have zi1:((i:Int)+(m:Int)).toNat=i+m:=by omega
 have pa: ¬(c=i+m):=by omega
 have zi2:(i:Int)≤(n:Int)+(m:Int):=by omega
 have zkf: ¬(c=i):=by omega
 have bM:(P.info? (a6.t 9)).map (·.size)=some s:=by rw[hi];simp[iB]
 have jn:cur.toList.length=c*s:=by simpa using tS
 have aB:(i+m)*s=i*s+m*s:=Nat.add_mul ..
 have bd:(n+m)*s=n*s+m*s:=Nat.add_mul ..
 have cj:i*s≤n*s:=Nat.mul_le_mul_right _ Oy
 have eo:(n+m)*s≤c*s:=Nat.mul_le_mul_right _ xK
 have kt:(n-i)*s=n*s-i*s:=Nat.sub_mul ..
 obtain⟨cs,dI⟩: ∃cs,cs=(cur.toList.take (n*s)).drop (i*s):=⟨_,rfl⟩
 have ot:cs.length=(n-i)*s:=by rw[dI,List.length_drop,List.length_take,jn,kt];omega
 obtain⟨dG,om⟩: ∃dG,dG=(cur.toList.take ((i+m)*s)++cs++cur.toList.drop ((i+m)*s+cs.length)).toArray:=⟨_,rfl⟩
 have BH:dG.size=cur.size:=by
  rw[om];simp only[List.size_toArray,List.length_append,List.length_take,List.length_drop,jn,ot,tS];omega
 have zi3: ∀ty l2 mz,(Builtin.copy_ #[(a6.t 24),(a6.t 24)] ty #[.slice (some ⟨g,(i+m)*s,none⟩) (n+m-(i+m)) l2,.slice (some ⟨g,i*s,none⟩) (n+m-i) mz]).run P w.drew= .ok (goInt (Nat.min (n+m-i) (n+m-(i+m)))) (w.drew.setRow g dG):=fun ty l2 mz=>by
  rw[om]
  exact FW w.drew _ _ ty (a6.t 9) s g ((i+m)*s) (n+m-(i+m)) l2 ⟨g,i*s,none⟩ (n+m-i) mz cur t cs L.t24 bM ah
   (by rw[ot];congr 1;simp only[Nat.min_def];split<;>omega)
   (fun j v af=>by
    rw[Addr.add_lit];rw[dI,List.getElem?_drop,List.getElem?_take]at af
    split at af
    ·rw[Array.getElem?_toList]at af
     show World.cell? w.drew _=_
     have:w.drew.heap[g]? =some (.cells cur t (0,0)):=ah
     simp[World.cell?,this,af]
    ·cases af)
   (by rw[ot];omega) (fun v aw=>BG v (by rw[dI]at aw;exact List.mem_of_mem_drop aw))
 obtain⟨eQ,mI⟩: ∃eQ,eQ=(dG.toList.take (i*s)++vs++dG.toList.drop (i*s+vs.length)).toArray:=⟨_,rfl⟩
 have zi4: ∀(W:World),W.heap=(w.drew.setRow g dG).heap→∀ty l2,(Builtin.copy_ #[(a6.t 24),(a6.t 24)] ty #[.slice (some ⟨g,i*s,none⟩) (n+m-i) l2,.slice (some aT) m ko]).run P W= .ok (goInt (Nat.min m (n+m-i))) (W.setRow g eQ):=fun W hE ty l2=>by
  rw[mI]
  have On:W.heap[g]? =some (.cells dG t (0,0)):=by rw[hE];exact setRow_heap w.drew g cur dG t (0,0) ah
  exact FW W _ _ ty (a6.t 9) s g (i*s) (n+m-i) l2 aT m ko dG t vs L.t24 bM On
   (by rw[fC];congr 1;simp only[Nat.min_def];split<;>omega)
   (fun j v af=>by
    have h:=mK j v af
    rw[←h];refine World.cell?_of_block ?_
    rw[hE,qh]
    exact setRow_other w.drew g _ dG VE)
   (by rw[fC,BH,tS];omega) nx
 have lW:eQ.size=cur.size∧eQ.toList.take ((n+m)*s)=cur.toList.take (i*s)++vs++cs:=by
  have h:=ziX cur.toList cs vs (i*s) (m*s) (by rw[jn,ot];omega) fC
  have mQ:i*s+m*s+cs.length=(n+m)*s:=by rw[ot];omega
  rw[mQ,←aB]at h;rw[aB,mQ,←aB]at om;subst om;subst mI;simp only[List.size_toArray]at h⊢;exact⟨h.1.trans Array.length_toList,h.2⟩
 clear tS ah fC BG nx mK yw FX VI hi iB om mI ot BH jn aB bd cj eo kt
 go_enter sk,Body2.n22_ntmps a6
 go_wp2_with (simp only[ziZ])
 go_region_law_o (refine step_copy_runI rfl _ _ (a6.t 24) (a6.t 24) rfl _ _ (by simp[Act.eval,Act.put]) (by simp[Act.eval,Act.put]) (zi3 _ _ _) ?_)
 go_wp2_with (at_builtin;refine wpList_copy_runI _ rfl _ _ (a6.t 24) (a6.t 24) rfl _ _ rfl rfl (zi4 _ rfl _ _) ?_)
 go_ret
 exact⟨rfl,eQ,setRow_setRow ..,dI ▸ lW⟩
theorem zi5{α:Type}(a b d cs vs:List α)(k M:Nat)(aL:a.length=k)(aa:M+cs.length≤b.length)(ae:vs.length=M):
 ((((a++b++d).take k++vs++(a++b++d).drop (k+vs.length)).take (k+M)++cs++((a++b++d).take k++vs++(a++b++d).drop (k+vs.length)).drop (k+M+cs.length)).length=(a++b++d).length)∧
 (((a++b++d).take k++vs++(a++b++d).drop (k+vs.length)).take (k+M)++cs++((a++b++d).take k++vs++(a++b++d).drop (k+vs.length)).drop (k+M+cs.length)).take (k+M+cs.length)=a++vs++cs:=by
 have aG:(a++b++d).take k=a:=by
  rw[List.append_assoc];exact List.take_left' aL
 rw[aG]
 have hu:(a++vs++(a++b++d).drop (k+vs.length)).take (k+M)=a++vs:=List.take_left' (by rw[List.length_append];omega)
 rw[hu]
 refine⟨by simp only[List.length_append,List.length_drop];omega,?_⟩
 exact List.take_left' (by simp only[List.length_append];omega)
theorem VJ(z:Array Value)(k:Nat):(Builtin.zeroCells z k).size=k*z.size:=by
 unfold Builtin.zeroCells
 simp
set_option maxHeartbeats 4000000 in
set_option maxRecDepth 100000 in
theorem zi6(L:wG P a6)(i0:TypeInfo)(z:Value)(s bytes:Nat)(hi:P.info? (a6.t 9)=some i0)(l1:i0.zero=some z)(iB:i0.size=s)(kN:i0.bytes=bytes)(e9:z.cells.size=s)(sl:0<s)
 (z9: ∀w,(Go.sizeOf (a6.t 9)).run P w= .ok s w)(g n c i m ko:Nat)(aT:Addr)(cur:Array Value)(t:TypeId)(vs:List Value)(w:World)
 (k0:i<n)(hm:0<m)(AN:n≤c)(xK:c<n+m)(nn:n+m≤maxLen)(sj:(n+m)*bytes≤140737488355328)
 (ah:w.heap[g]? =some (.cells cur t (0,0)))(tS:cur.size=c*s)(fC:vs.length=m*s)
 (mK: ∀j v,vs[j]? =some v→w.cell? (aT.add j)=some v)(BG: ∀v∈cur.toList.take (n*s),v.oneCell'=true)(nx: ∀v∈vs,v.oneCell'=true)(zi7:aT.block<w.heap.size):
 Calls P (a6.f 22) #[.slice (some ⟨g,0,none⟩) n c,.int .i64 i,.slice (some aT) m ko] w fun e w'=>
  ∃(G:Nat) (eQ:Array Value),e= .returned (.slice (some ⟨w.heap.size,0,none⟩) (n+m) G)∧n+m≤G∧G≤maxLen∧w.grownBy w' none∧w'.heap[w.heap.size]? =some (.cells eQ (a6.t 9) (0,0))∧eQ.size=G*s∧
   eQ.toList.take ((n+m)*s)=cur.toList.take (i*s)++vs++(cur.toList.take (n*s)).drop (i*s):=by
 have t3:=L.t3;have a3:=L.a3;have z3:=L.z3;have v3:=L.v3;have t4:=L.t4;have a4:=L.a4;have z4:=L.z4;have v4:=L.v4;have t24:=L.t24;have a24:=L.a24;have z24:=L.z24;have v24:=L.v24
 have yt:=run_underlying L.t3;have VF:=run_underlying L.t4;have VG:=run_underlying L.t24
 have mixed:=L.mixed
 obtain⟨_,_,sk⟩:=L.f22
 have VH: ¬((m:Int)=0):=by omega
 have zkg: ¬((i:Int)=(n:Int)):=by omega
 have zkh:(c:Int)<(n:Int)+(m:Int):=by omega
 have bM:(P.info? (a6.t 9)).map (·.size)=some s:=by rw[hi];simp[iB]
 have zi8:g<w.heap.size:=(Array.getElem?_eq_some_iff.1 ah).1
 have rk:(n:Int)+(m:Int)-(i:Int)=((n+m-i:Nat):Int):=by omega
 have rj:i+(n+m-i)=n+m:=by omega
 have Oy:i≤n:=by omega
 have jn:cur.toList.length=c*s:=by simpa using tS
 have aB:(i+m)*s=i*s+m*s:=Nat.add_mul ..
 have bd:(n+m)*s=n*s+m*s:=Nat.add_mul ..
 have cj:i*s≤n*s:=Nat.mul_le_mul_right _ Oy
 have eo:n*s≤c*s:=Nat.mul_le_mul_right _ AN
 have kt:(n-i)*s=n*s-i*s:=Nat.sub_mul ..
 have pU:(n+m-i)*s=n*s+m*s-i*s:=by rw[Nat.sub_mul,bd]
 have zi9:(n+m-i)*bytes≤(n+m)*bytes:=Nat.mul_le_mul_right _ (by omega)
 have Oz: ∀(W:World),W.heap[g]? =some (.cells cur t (0,0))→∀k v,cur.toList[k]? =some v→W.cell? ⟨g,k,none⟩=some v:=fun W hE k v aw=>by
  rw[Array.getElem?_toList]at aw
  simp[World.cell?,hE,aw]
 have hold:(Builtin.firstCells i0.size i (.slice (some ⟨g,0,none⟩) i c)).run P w.drew= .ok (cur.toList.take (i*s)).toArray w.drew:=by
  rw[iB]
  exact run_firstCells_some w.drew s i ⟨g,0,none⟩ i c (cur.toList.take (i*s)) (by rw[List.length_take];omega) (fun j v af=>by
   rw[Addr.add_lit,Nat.zero_add];rw[List.getElem?_take]at af
   split at af
   ·exact Oz w.drew ah j v af
   ·cases af)
 have j5: ∀ty,(Builtin.append_ #[(a6.t 24),(a6.t 3)] ty #[.slice (some ⟨g,0,none⟩) i c,.int .i64 ((n:Int)+(m:Int)-(i:Int))]).run P w=
  .ok (.slice (some ⟨w.heap.size,0,none⟩) (n+m) (grownCap w (n+m) c (a6.t 9))) (w.drew.alloc (.cells ((cur.toList.take (i*s)).toArray++Builtin.zeroCells z.cells (n+m-i)++Builtin.zeroCells z.cells (grownCap w (n+m) c (a6.t 9)-(n+m))) (a6.t 9))):=fun ty=>by
  have h:=Lib.run_append_grow_zeros w (a6.t 24) (a6.t 3) ty (a6.t 9) i0 _ .i64 .i64 L.t24 L.t3 hi l1 (some ⟨g,0,none⟩) i c (cur.toList.take (i*s)) hold (n+m-i) (by omega) (by omega) (by omega) (by unfold maxLen at nn;omega) (by rw[kN];omega) (by rw[kN,rj];exact growslice_fits xK sj)
  rw[rj]at h;rw[rk];exact h
 obtain⟨G,k4⟩: ∃G,G=grownCap w (n+m) c (a6.t 9):=⟨_,rfl⟩
 obtain⟨jU,FY⟩: ∃jU:Array Value,jU=(cur.toList.take (i*s)).toArray++Builtin.zeroCells z.cells (n+m-i)++Builtin.zeroCells z.cells (G-(n+m)):=⟨_,rfl⟩
 have VK:n+m≤G:=by rw[k4];exact grownCap_ge w _ _ _
 have VL:G≤maxLen:=by rw[k4];exact grownCap_le_maxLen w (n+m) c (a6.t 9) nn
 have zki:G≤9223372036854775807:=VL
 rw[←k4,←FY]at j5
 have sv:(G-(n+m))*s=G*s-(n*s+m*s):=by rw[Nat.sub_mul,bd]
 have F9:(n+m)*s≤G*s:=Nat.mul_le_mul_right _ VK
 have FZ:jU.size=G*s:=by
  rw[FY];simp only[Array.size_append,VJ,e9,List.size_toArray,List.length_take,jn,pU,sv];omega
 obtain⟨cs,dI⟩: ∃cs,cs=(cur.toList.take (n*s)).drop (i*s):=⟨_,rfl⟩
 have ot:cs.length=(n-i)*s:=by rw[dI,List.length_drop,List.length_take,jn,kt];omega
 obtain⟨dG,om⟩: ∃dG,dG=(jU.toList.take (i*s)++vs++jU.toList.drop (i*s+vs.length)).toArray:=⟨_,rfl⟩
 have BH:dG.size=G*s:=by
  rw[om];simp only[List.size_toArray,List.length_append,List.length_take,List.length_drop,Array.length_toList,FZ,fC];omega
 obtain⟨eQ,mI⟩: ∃eQ,eQ=(dG.toList.take ((i+m)*s)++cs++dG.toList.drop ((i+m)*s+cs.length)).toArray:=⟨_,rfl⟩
 obtain⟨ou,BI⟩: ∃ou,ou=w.drew.alloc (.cells jU (a6.t 9)):=⟨_,rfl⟩
 have F0:ou.heap[w.heap.size]? =some (.cells jU (a6.t 9) (0,0)):=by
  rw[show ou.heap=w.heap.push (.cells jU (a6.t 9) (0,0))by rw[BI];rfl]
  exact Array.getElem?_push_size
 have F1: ∀k,k<w.heap.size→ou.heap[k]? =w.heap[k]? :=fun k aj=>by
  rw[show ou.heap=w.heap.push (.cells jU (a6.t 9) (0,0))by rw[BI];rfl,Array.getElem?_push,if_neg (Nat.ne_of_lt aj)]
 rw[←BI]at j5
 have zja: ∀(W:World),W.heap=ou.heap→∀ty l2,(Builtin.copy_ #[(a6.t 24),(a6.t 24)] ty #[.slice (some ⟨w.heap.size,i*s,none⟩) (n+m-i) l2,.slice (some aT) m ko]).run P W= .ok (goInt (Nat.min m (n+m-i))) (W.setRow w.heap.size dG):=fun W hE ty l2=>by
  rw[om]
  exact FW W _ _ ty (a6.t 9) s w.heap.size (i*s) (n+m-i) l2 aT m ko jU (a6.t 9) vs L.t24 bM (by rw[hE];exact F0)
   (by rw[fC];congr 1;simp only[Nat.min_def];split<;>omega)
   (fun j v af=>by
    rw[←mK j v af];refine World.cell?_of_block ?_
    rw[hE,qh]
    exact F1 _ zi7)
   (by rw[fC,FZ];omega) nx
 have VM: ∀(W:World),W.heap=(ou.setRow w.heap.size dG).heap→∀ty l2 mz,(Builtin.copy_ #[(a6.t 24),(a6.t 24)] ty #[.slice (some ⟨w.heap.size,(i+m)*s,none⟩) (n+m-(i+m)) l2,.slice (some ⟨g,i*s,none⟩) (n-i) mz]).run P W= .ok (goInt (Nat.min (n-i) (n+m-(i+m)))) (W.setRow w.heap.size eQ):=fun W hE ty l2 mz=>by
  rw[mI]
  exact FW W _ _ ty (a6.t 9) s w.heap.size ((i+m)*s) (n+m-(i+m)) l2 ⟨g,i*s,none⟩ (n-i) mz dG (a6.t 9) cs L.t24 bM (by rw[hE];exact setRow_heap ou w.heap.size jU dG (a6.t 9) (0,0) F0)
   (by rw[ot];congr 1;simp only[Nat.min_def];split<;>omega)
   (fun j v af=>by
    rw[Addr.add_lit];rw[dI,List.getElem?_drop,List.getElem?_take]at af
    split at af
    ·exact Oz W (by rw[hE,setRow_other _ _ _ _ (by omega),F1 _ zi8];exact ah) _ v af
    ·cases af)
   (by rw[ot,BH];omega) (fun v aw=>BG v (by rw[dI]at aw;exact List.mem_of_mem_drop aw))
 have lW:eQ.size=G*s∧eQ.toList.take ((n+m)*s)=cur.toList.take (i*s)++vs++cs:=by
  have h:=zi5 (cur.toList.take (i*s)) (Builtin.zeroCells z.cells (n+m-i)).toList (Builtin.zeroCells z.cells (G-(n+m))).toList cs vs (i*s) (m*s) (by rw[List.length_take];omega) (by rw[ot,Array.length_toList,VJ,e9];omega) fC
  have mQ:i*s+m*s+cs.length=(n+m)*s:=by rw[ot];omega
  have zjb:cur.toList.take (i*s)++(Builtin.zeroCells z.cells (n+m-i)).toList++(Builtin.zeroCells z.cells (G-(n+m))).toList=jU.toList:=by rw[FY];simp
  rw[mQ,←aB,zjb]at h;rw[aB,mQ,←aB]at mI;subst mI;subst om;simp only[List.size_toArray]at h⊢;exact⟨h.1.trans (by rw[Array.length_toList,FZ]),h.2⟩
 have Nq: ∀(W:World),W.heap=((ou.setRow w.heap.size dG).setRow w.heap.size eQ).heap→W.os=w.os→W.tape=w.tape→W.output=w.output→w.grownBy W none∧W.heap[w.heap.size]? =some (.cells eQ (a6.t 9) (0,0)):=fun W hE aa ae au=>by
  rw[setRow_setRow]at hE;refine⟨⟨aa,ae,au,?_,fun k aj _=>?_⟩,?_⟩
  ·rw[hE,setRow_size,show ou.heap=w.heap.push (.cells jU (a6.t 9) (0,0))by rw[BI];rfl,Array.size_push]
   omega
  ·rw[hE,setRow_other _ _ _ _ (by omega),F1 _ aj]
  ·rw[hE]
   exact setRow_heap ou w.heap.size jU eQ (a6.t 9) (0,0) F0
 subst BI
 have e2:((w.alloc (.cells jU (a6.t 9))).drew).heap=(w.drew.alloc (.cells jU (a6.t 9))).heap:=rfl
 have hF:(((w.alloc (.cells jU (a6.t 9))).drew.setRow w.heap.size dG).drew).heap=((w.drew.alloc (.cells jU (a6.t 9))).setRow w.heap.size dG).heap:=rfl
 have zkj: ¬(G=i):=by omega
 have zkk: ¬(G=i+m):=by omega
 have zkl: ¬(c=i):=by omega
 have zi0:IntKind.i64.wrap ((i:Int)+(m:Int))=(i:Int)+(m:Int):=by rw[IntKind.wrap_i64];unfold maxLen at nn;omega
 have ig:(0:Int)≤(i:Int)+(m:Int):=by omega
 have zi1:((i:Int)+(m:Int)).toNat=i+m:=by omega
 have zi2:(i:Int)≤(n:Int):=by omega
 have zjc:=nn
 unfold maxLen at zjc
 clear rk rj hold FY k4 FZ tS fC BG nx mK hi l1 iB kN e9 jn aB bd cj eo kt pU sv F9 zi9 om mI ot BH F0 F1 Oz ah
 go_enter sk,Body2.n22_ntmps a6
 go_wp2_with (first
  |(at_builtin;refine Lib.wpList_append_run _ rfl _ _ _ _ rfl _ _ rfl rfl _ _ (j5 _) ?_)
  |(at_builtin;refine wpList_copy_runI _ rfl _ _ (a6.t 24) (a6.t 24) rfl _ _ rfl rfl (zja _ e2 _ _) ?_)
  |(at_builtin;refine wpList_copy_runI _ rfl _ _ (a6.t 24) (a6.t 24) rfl _ _ rfl rfl (VM _ hF _ _ _) ?_))
 go_region_law_o (refine step_copy_runI rfl _ _ (a6.t 24) (a6.t 24) rfl (.slice (some ⟨w.heap.size,(i+m)*s,none⟩) (n+m-(i+m)) (G-(i+m))) (.slice (some ⟨g,i*s,none⟩) (n-i) (c-i)) (by simp[Act.eval,Act.put]) (by simp[Act.eval,Act.put]) (VM _ hF (a6.t 3) (G-(i+m)) (c-i)) ?_)
 go_wp2
 go_ret
 have h:=Nq ((((w.alloc (.cells jU (a6.t 9))).drew.setRow w.heap.size dG).drew).setRow w.heap.size eQ) rfl rfl rfl rfl
 exact⟨G,eQ,rfl,VK,VL,h.1,h.2,lW.1,dI ▸ lW.2⟩
set_option maxHeartbeats 4000000 in
set_option maxRecDepth 100000 in
theorem VN(L:wG P a6)(i0:TypeInfo)(z:Value)(s bytes:Nat)(hi:P.info? (a6.t 9)=some i0)(l1:i0.zero=some z)(iB:i0.size=s)(kN:i0.bytes=bytes)(e9:z.cells.size=s)(sl:0<s)
 (z9: ∀w,(Go.sizeOf (a6.t 9)).run P w= .ok s w)(b:Option Addr)(n c m ko:Nat)(aT:Addr)(xs vs:List Value)(w:World)(cY:ia w (a6.t 9) s (.slice b n c) n xs)
 (hm:0<m)(nn:n+m≤maxLen)(sj:(n+m)*bytes≤140737488355328)(fC:vs.length=m*s)
 (mK: ∀j v,vs[j]? =some v→w.cell? (aT.add j)=some v)(nx: ∀v∈vs,v.oneCell'=true)(AN:n≤c):
 Calls P (a6.f 22) #[.slice b n c,.int .i64 n,.slice (some aT) m ko] w fun e w'=>
  ∃bg,e= .returned bg∧ia w' (a6.t 9) s bg (n+m) (xs++vs)∧w.grownBy w' (b2 (.slice b n c))∧(∀k,b2 bg=some k→b2 (.slice b n c)=some k∨w.heap.size≤k):=by
 have t3:=L.t3;have a3:=L.a3;have z3:=L.z3;have v3:=L.v3;have t4:=L.t4;have a4:=L.a4;have z4:=L.z4;have v4:=L.v4;have t24:=L.t24;have a24:=L.a24;have z24:=L.z24;have v24:=L.v24
 have yt:=run_underlying L.t3;have VF:=run_underlying L.t4;have VG:=run_underlying L.t24
 have mixed:=L.mixed
 obtain⟨_,_,sk⟩:=L.f22
 have VH: ¬((m:Int)=0):=by omega
 have VO:b=none→n=0∧c=0:=fun h=>by
  subst h
  rcases cY.2 with⟨⟨b,ad,_⟩,_⟩|⟨g,cap,cur,h,_⟩
  ·cases ad
   exact⟨rfl,rfl⟩
  ·cases h
 obtain⟨bg,w',cq,kH,cT,bf⟩:=Dz (P:=P) (w:=w) (a6.t 24) (a6.t 24) (a6.t 9) L.t24 hi l1 iB kN e9 sl cY (b:=some aT) (m:=m) (cap:=ko) fC (fun h=>by cases h) (fun a aZ=>by cases aZ;exact mK) nx nn sj
 clear mK nx cY fC hi l1 iB kN e9
 unfold maxLen at nn
 cases b with
 |none=>
  obtain⟨rfl,rfl⟩:=VO rfl
  go_enter sk,Body2.n22_ntmps a6
  go_wp2_with (at_builtin;refine Lib.wpList_append_run _ rfl _ _ _ _ rfl _ _ rfl rfl _ _ cq ?_)
  go_ret
  exact⟨bg,rfl,by simpa using kH,cT,bf⟩
 |some a=>
  clear VO
  by_cases Vt:c=n
  ·subst Vt
   go_enter sk,Body2.n22_ntmps a6
   go_wp2_with (at_builtin;refine Lib.wpList_append_run _ rfl _ _ _ _ rfl _ _ rfl rfl _ _ cq ?_)
   all_goals go_ret
   all_goals exact⟨bg,rfl,kH,cT,bf⟩
  ·go_enter sk,Body2.n22_ntmps a6
   go_wp2_with (at_builtin;refine Lib.wpList_append_run _ rfl _ _ _ _ rfl _ _ rfl rfl _ _ cq ?_)
   all_goals go_ret
   all_goals exact⟨bg,rfl,kH,cT,bf⟩
theorem zjd(L:wG P a6)(i0:TypeInfo)(z:Value)(s bytes:Nat)(hi:P.info? (a6.t 9)=some i0)(l1:i0.zero=some z)(iB:i0.size=s)(kN:i0.bytes=bytes)(e9:z.cells.size=s)(sl:0<s)
 (z9: ∀w,(Go.sizeOf (a6.t 9)).run P w= .ok s w){v:Value}{n i m ko:Nat}{aT:Addr}{xs vs:List Value}{w:World}(cY:ia w (a6.t 9) s v n xs)(k0:i≤n)
 (hm:0<m)(nn:n+m≤maxLen)(sj:(n+m)*bytes≤140737488355328)(fC:vs.length=m*s)
 (mK: ∀j v,vs[j]? =some v→w.cell? (aT.add j)=some v)(VP: ∀v∈xs,v.oneCell'=true)(nx: ∀v∈vs,v.oneCell'=true)(b3:b2 v≠some aT.block):
 Calls P (a6.f 22) #[v,.int .i64 i,.slice (some aT) m ko] w fun e w'=>
  ∃bg,e= .returned bg∧ia w' (a6.t 9) s bg (n+m) (xs.take (i*s)++vs++xs.drop (i*s))∧w.grownBy w' (b2 v)∧(∀k,b2 bg=some k→b2 v=some k∨w.heap.size≤k):=by
 have jK:=cY.1
 have fin:i=n→xs.take (i*s)++vs++xs.drop (i*s)=xs++vs:=fun h=>by
  subst h;rw[List.take_of_length_le (by omega),List.drop_of_length_le (by omega),List.append_nil]
 have VQ:=cY
 rcases cY.2 with⟨⟨b,rfl,_⟩,rfl⟩|⟨g,cap,cur,rfl,hc,ah,hle,ie,dI,hx⟩
 ·have:i=0:=by omega
  subst this;rw[fin rfl];exact VN L i0 z s bytes hi l1 iB kN e9 sl z9 b 0 0 m ko aT xs vs w VQ hm nn sj fC mK nx (Nat.le_refl _)
 ·by_cases he:i=n
  ·rw[fin he]
   subst he;exact VN L i0 z s bytes hi l1 iB kN e9 sl z9 _ i cap m ko aT xs vs w VQ hm nn sj fC mK nx hle
  ·have bG:i<n:=by omega
   have ov:0<vs.length:=by rw[fC];exact Nat.mul_pos hm sl
   have hC:=mK 0 vs[0] (by simp[ov])
   obtain⟨tR,nw,yw,zje,hL⟩: ∃tR nw,w.shape? aT.block=some (tR,nw)∧nw≠0∧aT.block<w.heap.size:=by
    have ad:(aT.add 0).block=aT.block:=qh aT 0
    unfold World.cell? at hC;rw[ad]at hC
    split at hC
    ·rename_i cs t tU ba
     refine⟨t,cs.size,by simp[World.shape?,ba],fun aL=>?_,(Array.getElem?_eq_some_iff.1 ba).1⟩
     have:cs= #[]:=Array.eq_empty_of_size_eq_zero aL
     subst this;simp at hC
    ·cases hC
   have gH:b2 (.slice (some ⟨g,0,none⟩) n cap)=some g:=by simp[b2];omega
   rw[gH]at b3⊢
   have zjf:aT.block≠g:=fun h=>b3 (by rw[h])
   by_cases ag:n+m≤cap
   ·refine Calls.mono (ziY L i0 z s hi iB sl z9 g n cap i m ko aT cur (a6.t 9) vs w bG hm ag ie zjf ah dI fC mK (by rw[hx];exact VP) nx tR nw yw zje) fun e w' ⟨he,sm,hw,aa,ae⟩=>?_
    subst hw;rw[hx]at ae
    have au:xs.take (i*s)=cur.toList.take (i*s):=by
     rw[←hx,List.take_take,Nat.min_eq_left (Nat.mul_le_mul_right _ k0)]
    have aP:(w.drew.setRow g sm).heap[g]? =some (.cells sm (a6.t 9) (0,0)):=setRow_heap w.drew g cur sm (a6.t 9) (0,0) ah
    refine⟨_,he,⟨?_,.inr ⟨g,cap,sm,rfl,hc,aP,ag,ie,by rw[aa,dI],by rw[ae,au]⟩⟩,⟨rfl,rfl,rfl,?_,fun k aj VR=>?_⟩,fun k aj=>.inl ?_⟩
    ·have:i*s≤n*s:=Nat.mul_le_mul_right _ k0
     simp only[List.length_append,List.length_take,List.length_drop,jK,fC,Nat.add_mul];omega
    ·rw[setRow_size]
     exact Nat.le_refl _
    ·exact setRow_other w.drew g k sm fun h=>VR (by rw[h])
    ·simpa[b2,show cap≠0 by omega]using aj
   ·refine Calls.mono (zi6 L i0 z s bytes hi l1 iB kN e9 sl z9 g n cap i m ko aT cur (a6.t 9) vs w bG hm hle (by omega) nn sj ah dI fC mK (by rw[hx];exact VP) nx hL) fun e w' ⟨G,eQ,he,c0,df,gX,pD,Bm,yj⟩=>?_
    rw[hx]at yj
    have au:xs.take (i*s)=cur.toList.take (i*s):=by
     rw[←hx,List.take_take,Nat.min_eq_left (Nat.mul_le_mul_right _ k0)]
    refine⟨_,he,⟨?_,.inr ⟨w.heap.size,G,eQ,rfl,by omega,pD,c0,df,Bm,by rw[yj,au]⟩⟩,⟨gX.os,gX.tape,gX.output,gX.size,fun k aj VR=>gX.block k aj (by simp)⟩,fun k aj=>.inr ?_⟩
    ·have:i*s≤n*s:=Nat.mul_le_mul_right _ k0
     simp only[List.length_append,List.length_take,List.length_drop,jK,fC,Nat.add_mul];omega
    ·simp[b2,show G≠0 by omega]at aj
     omega
end
end Go.aK
namespace Go.aK
open Go Go.Proofs Go.Shelf Go.RowKit Go.Lib
theorem zjg{w:World}{ro:Nat→Prop}{σ:Heap}{β:Nat→Value}{N:Nat}(ba:hh w ro σ β N){x:aD}{c:Value}(h:br w ro σ β N x c){n:Nat}{es:List (List a1)}(he:fw σ n x=some es)
 (aL:0<es.length)(hn:0<n){id:Nat}(hx:x≠ .aN id){o:ej}(bc:aE σ id=some o)(aq:o.live=true){a:Addr}{l cap:Nat}(hc:c= .slice (some a) l cap):b2 (β id)≠some a.block:=by
 have cb:ro a.block→b2 (β id)≠some a.block:=fun h ad=>ba.fg _ h ⟨id,o,bc,aq,ad⟩
 have qk: ∀{m:Nat} {dP:List (List a1)} {c:Value},0<dP.length→0<m→cQ w ro (.aN m dP) c→c= .slice (some a) l cap→ro a.block:=fun {m dP c} F2 c0 df gX=>by
  cases df with
  |aN _ _ b zjh f aa ae au aP bE=>
   obtain⟨bb,ad,hf⟩:=aP F2
   cases gX
   cases ad;exact(hf 0 (Nat.mul_pos F2 c0)).1
 cases h with
 |av x c fR=>
  cases x with
  |v y=>
   cases fR
   subst hc;simp[fw]at he
  |ptr=>simp[fw]at he
  |mp=>simp[fw]at he
  |er=>simp[fw]at he
  |li i k=>
   simp only[fw]at he
   split at he
   ·rename_i hm
    subst hm;simp only[Option.some.injEq]at he;subst he
    cases fR with
    |li _ _ _ fR=>exact cb (qk aL hn fR hc)
   ·cases he
  |aN m dP=>
   simp only[fw]at he
   split at he
   ·rename_i hm
    subst hm;simp only[Option.some.injEq]at he;subst he;exact cb (qk aL hn fR hc)
   ·cases he
 |aN gk c bG ak=>
  simp only[fw]at he
  split at he
  ·rename_i z t m dP ah
   split at he
   ·rename_i hm
    subst hm;simp only[Option.some.injEq]at he;subst he
    have iR:=ak z t _ _ ah
    have dg:=ba.c5 gk _ ah
    cases dg with
    |row _ _ _ xs aa ae au=>
     intro ad
     have gy:b2 (β gk)=some a.block:=by
      rcases aa.2 with⟨_,aR⟩|⟨g,zjh,cur,aw,sR,_⟩
      ·omega
      ·rw[←iR,hc]at aw
       rw[←iR,hc];cases aw;simp[b2];omega
     exact hx (by rw[ba.inj id gk o _ _ bc ah aq rfl ad gy])
    |ga _ _ _ aa=>exact cb (qk aL hn aa (by rw[←iR,hc]))
   ·cases he
  ·cases he
 |_=>simp[fw]at he
theorem VS{α:Type}{n:Nat}: ∀(es:List (List α)),(∀e∈es,e.length=n)→es.flatten.length=es.length*n
 |[],_=>by simp
 |e::r,h=>by
  rw[List.flatten_cons,List.length_append,h e (List.mem_cons_self ..),VS r fun x hx=>h x (List.mem_cons_of_mem _ hx),List.length_cons,Nat.add_mul,Nat.one_mul];omega
def uC(P:Program)(G:a7)(r:lG):Prop:=
 ∀{σ:Heap} {n id:Nat} {i:Int} {y:aD} {l k:List (fN r.c)},aE σ id=some (.row false r.t (bY r.c) (l.map (b9 r.c)))→fw σ (bY r.c) y=some (k.map (b9 r.c))→y≠ .aN id→0<k.length→0≤i∧i≤(l.length:Int)→
  l.length+k.length≤maxLen∧(l.length+k.length)*r.bytes≤140737488355328→
  dF P G r.f [.aN id,.av (.v (.int .i64 i)),y] σ n fun v bU=>v= .aN n∧bU=(n,.row false r.t (bY r.c) ((l.take i.toNat++k++l.drop i.toNat).map (b9 r.c)))::du id σ
section
variable {P:Program} {a6:Ren}
theorem zap{G:a7}{c:bK}(L:wG P a6)(i0:TypeInfo)(z:Value)(bytes:Nat)(hi:P.info? (a6.t 9)=some i0)(l1:i0.zero=some z)(iB:i0.size=bY c)(kN:i0.bytes=bytes)(e9:z.cells.size=bY c)(bM:0<bY c)
 (z9: ∀w,(Go.sizeOf (a6.t 9)).run P w= .ok (bY c) w):uC P G ⟨a6.f 22,a6.t 9,c,bytes⟩:=by
 intro σ n id i y l k bc ax b3 aj zji BC w β ro ec aa ae au aP bE
 have Oq:=ae 0 _ rfl
 have VT:=ae 1 _ rfl
 have VU:=ae 2 _ rfl
 have sh:ec= #[ec.getD 0 undef,ec.getD 1 undef,ec.getD 2 undef]:=by
  have ai:ec.size=3:=aa
  apply Array.ext
  ·simpa using ai
  ·intro j zkm zkn
   have:j=0∨j=1∨j=2:=by omega
   rcases this with rfl|rfl|rfl<;>simp[Array.getD,ai]
 obtain⟨b,cap,iR,mq,o6,f,h4,o7⟩:=w2 au VU ax
 obtain⟨nY,o8,rK⟩:=z1 mq o7
 have eA:0<(k.map (b9 c)).length:=by rw[List.length_map];exact aj
 cases b with
 |none=>exact absurd (o6 rfl) (List.ne_nil_of_length_pos eA)
 |some a=>
 have hL:=zjg au VU ax eA bM b3 bc rfl iR
 have ov:ec.getD 0 undef=β id:=by
  cases Oq with
  |aN _ _ _ ak=>exact ak _ _ _ _ bc
 have zjj:ec.getD 1 undef= .int .i64 i.toNat:=by
  generalize ec.getD 1 undef=q at VT
  cases VT with
  |av _ _ hx=>
   cases hx;rw[Int.toNat_of_nonneg zji.1]
 have dg:=au.c5 id _ bc
 cases dg with
 |row _ _ _ xs cY hle eV=>
 have e2:c2 ⟨w,ro,σ,β,n⟩ G ⟨[],σ,n,n⟩ ⟨#[],[]⟩ w β ro:=⟨rfl,rfl,by simp,au,aP,⟨rfl,rfl,rfl,Nat.le_refl _,fun _ _ _=>rfl,fun _ h=>.inl h,fun _ h=>h,fun _ h=>.inl h,fun id _ o ah=>⟨by simp[ah],rfl⟩,bE,Nat.le_refl _⟩,Nat.le_refl _⟩
 rw[sh,iR,ov,zjj]
 rw[List.length_map]at nY h4⊢
 have OA:(l.map (b9 c)).length=l.length:=List.length_map ..
 rw[OA]at cY
 refine Calls.mono (zjd L i0 z (bY c) bytes hi l1 iB kN e9 bM z9 cY (i:=i.toNat) (by omega) aj BC.1 BC.2 (vs:=(List.range (k.length*bY c)).map f) (by simp) (fun j u af=>?_) (fun v aw=>?_) (by
  rw[List.length_map]at o8
  exact o8) hL) fun e w' ⟨bg,he,kH,cT,bf⟩=>?_
 ·have cL:=(List.getElem?_eq_some_iff.1 af).1
  simp only[List.length_map,List.length_range]at cL
  have aa:=h4 a rfl j cL
  simp[cL]at af;rw[aa,af]
 ·obtain⟨j,af⟩:=List.getElem?_of_mem aw
  have cL:=(List.getElem?_eq_some_iff.1 af).1
  have mg:=VS _ hle
  rw[OA]at mg
  have hx:=eV j _ (List.getElem?_eq_getElem (by rw[mg,←cY.1];exact cL))
  have ax:=hx.one
  rw[List.getD_eq_getElem?_getD,af]at ax
  exact ax
 ·have jm: ∀k,k<w.heap.size→b2 (β id)≠some k→w'.heap[k]? =w.heap[k]? :=fun k aj b3=>cT.block k aj (fun e=>b3 e.symm)
  have cb: ∀k,ro k→w'.heap[k]? =w.heap[k]? :=fun k aj=>jm k (au.lt k aj) fun bf=>au.fg k aj ⟨id,_,bc,rfl,bf⟩
  have hm:(l.take i.toNat++k++l.drop i.toNat).map (b9 c)=(l.map (b9 c)).take i.toNat++k.map (b9 c)++(l.map (b9 c)).drop i.toNat:=by
   rw[List.map_append,List.map_append,List.map_take,List.map_drop]
  have k0:i.toNat≤l.length:=by omega
  have AI:i.toNat*bY c≤l.length*bY c:=Nat.mul_le_mul_right _ k0
  have aV: ∀j x,((l.map (b9 c)).take i.toNat).flatten[j]? =some x→cQ w ro x ((xs.take (i.toNat*bY c)).getD j undef):=fun j x af=>by
   rw[Sy hle _,List.getElem?_take]at af
   split at af
   ·rename_i bG
    have:=eV j x af
    rw[List.getD_eq_getElem?_getD]at this⊢
    rw[List.getElem?_take,if_pos bG]
    exact this
   ·cases af
  have c7: ∀j x,((l.map (b9 c)).drop i.toNat).flatten[j]? =some x→cQ w ro x ((xs.drop (i.toNat*bY c)).getD j undef):=fun j x af=>by
   rw[Sz hle _,List.getElem?_drop]at af
   have:=eV _ x af
   rw[List.getD_eq_getElem?_getD]at this⊢
   rw[List.getElem?_drop]
   exact this
  have VV: ∀e∈(l.map (b9 c)).take i.toNat,e.length=bY c:=fun e he=>hle e (List.mem_of_mem_take he)
  have VW:(xs.take (i.toNat*bY c)).length=((l.map (b9 c)).take i.toNat).length*bY c:=by
   rw[List.length_take,List.length_take,OA,cY.1,Nat.min_eq_left AI,Nat.min_eq_left k0]
  have VX: ∀e∈(l.map (b9 c)).take i.toNat++k.map (b9 c),e.length=bY c:=fun e he=>by
   rcases List.mem_append.1 he with h|h
   ·exact VV _ h
   ·exact mq _ h
  have sO:=w3 VV VW aV rK
  have zjk:(xs.take (i.toNat*bY c)++(List.range (k.length*bY c)).map f).length=((l.map (b9 c)).take i.toNat++k.map (b9 c)).length*bY c:=by
   rw[List.length_append,List.length_append,VW,Nat.add_mul,List.length_map,List.length_range,List.length_map]
  have hOr:k8 w' ro ((n,.row false (a6.t 9) (bY c) ((l.take i.toNat++k++l.drop i.toNat).map (b9 c)))::du id σ) (gV β n bg) (n+1) n (.row false (a6.t 9) (bY c) ((l.take i.toNat++k++l.drop i.toNat).map (b9 c))):=by
   refine .row (a6.t 9) (bY c) _ _ (by
    rw[dR,List.length_map,List.length_append,List.length_append,List.length_take,List.length_drop,Nat.min_eq_left k0,show i.toNat+k.length+(l.length-i.toNat)=l.length+k.length by omega]
    exact kH) (fun ay j3=>?_) (fun j x af=>?_)
   ·rw[hm]at j3
    rcases List.mem_append.1 j3 with h|h
    ·exact VX _ h
    ·exact hle _ (List.mem_of_mem_drop h)
   ·rw[hm]at af
    have zjl:=w3 VX zjk (fun j x h=>by first|exact sO j x h|(rw[List.length_map]at sO;exact sO j x h)) c7
    exact(zjl j x af).keep cb fun _ h=>h
  have fc:=e2.LX (w':=w') id (Nat.le_refl _) bc _ bg cT.os cT.tape cT.output cT.size jm bf rfl hOr
  exact⟨bg,.aN n,_,gV β n bg,ro,n+1,he,⟨rfl,rfl⟩,.aN _ _ (Nat.lt_succ_self _) fun z bC cI dP _=>(dR _ _ _).symm,fc.heap,fc.trans⟩
end
end Go.aK
namespace Go.aK
open Go
def OB(id:Nat):ab→Bool
 | .aN j=>!Nat.beq j id
 |_=>true
def zjm(r:lG)(S:ao)(id:Nat)(i c6 z:ab):aC:=
 .eF (.eB r.c c6 none (some i)) (.eF (.up r.c z (.cs (.int .i64 0))) (.eF (.f2 r.bytes (.ap r.c) c6 z)
  (.lt S.k (.eB r.c c6 none (some i)) (.lt (S.k+1) (.f2 (.ap r.c) (.aT (.li r.c) S.k) z) (.lt (S.k+2) (.eB r.c c6 (some i) none) (.lt (S.k+3) (.f2 (.ap r.c) (.aT (.li r.c) (S.k+1)) (.aT (.li r.c) (S.k+2)))
   (.cG .ch ⟨a8.put .emp 0 (.aN S.n),(S.n,.rw r.t r.c (.aT (.li r.c) (S.k+3)))::ht id S.h,S.n+1,S.k+4,S.g⟩)))))))
def OC(R:List lG)(inl:Nat→List ab→ao→aC)(f:Nat)(ys:List ab)(S:ao):aC:=
 match BD f R,ys with
 |some r,[.aN id,i,y]=>match c9 S.h id,vy S y with
  |some (.rw bC lO c6),some z=>match(Nat.beq bC r.t&&decide (lO=r.c))&&((c6.ey (.li r.c)&&(z.ey (.li r.c)&&z.lt S.k))&&((decide (i.rt=some (.int .i64))&&i.lt S.k)&&(OB id y&&(match vz S y with
   |some d=>decide (d=r.c)
   |none=>true))))with
   |true=>zjm r S id i c6 z
   |false=>inl f ys S
  |_,_=>inl f ys S
 |_,_=>inl f ys S
section
variable {P:Program} {G:a7} {M:List aQ} {inl:Nat→List ab→ao→aC}
theorem zjn{S:ao}{e:Env}{y z:ab}{id:Nat}(h:vy S y=some z)(hn:OB id y=true):y.den G e≠ .aN id:=by
 unfold vy at h
 split at h
 ·intro h'
  cases h'
 ·rename_i j
  intro h';simp only[ab.den,aD.aN.injEq]at h';subst h';simp[OB]at hn
 ·split at h
  ·rename_i d hd
   rw[(Es (G:=G) (e:=e) hd).1];intro h'
   cases h'
  ·cases h
theorem zjo{R:List lG}(fP: ∀r∈R,uC P G r)(bV:fO P G M inl):fO P G M (OC R inl):=fun f ys S e ad aq hf ai=>by
 unfold OC at ai⊢
 split at ai
 rotate_left
 ·exact bV _ _ S e ad aq hf ai
 rename_i r id i y Ou
 obtain⟨hm,rfl⟩:=VC Ou
 split at ai
 rotate_left
 ·exact bV _ _ S e ad aq hf ai
 rename_i bC lO c6 z ah aR
 split at ai
 rotate_left
 ·exact bV _ _ S e ad aq hf ai
 rename_i aj
 simp only[Bool.and_eq_true,decide_eq_true_eq]at aj
 obtain⟨⟨fx,gG⟩,⟨k7,sP,zA⟩,⟨uN,wP⟩,NZ,VY⟩:=aj
 have fx:=Nat.eq_of_beq_eq_true fx
 subst fx
 subst gG
 have wW:c6.lt S.k=true:=vH ad.h ah
 have oa:fw (cx G e S.h) (bY r.c) (y.den G e)=some (List.map (b9 r.c) (z.az e (.li r.c))):=
  EC (G:=G) (N:=0) (B:=0) (e:=e) aR sP (fun d hd=>by rw[hd]at VY;exact of_decide_eq_true VY)
 have bc:aE (cx G e S.h) id=some (.row false r.t (bY r.c) (List.map (b9 r.c) (c6.az e (.li r.c)))):=by
  simp only[eh,ah,Option.map_some,bF.den]
 obtain⟨gU,gu,MJ,_⟩:fe.ok M e (.eB r.c c6 none (some i))∧fe.ok M e (.up r.c z (.cs (.int .i64 0)))∧fe.ok M e (.f2 r.bytes (.ap r.c) c6 z)∧True:=⟨ai.1,ai.2.1,ai.2.2.1,trivial⟩
 have OD:cl (i.dyn e)=i.az e (.int .i64):=lS uN
 have SB:0≤i.az e (.int .i64)∧i.az e (.int .i64)≤((c6.az e (.li r.c)).length:Int):=by
  rw[←OD];exact gU
 have Ev:0<(z.az e (.li r.c)).length:=by
  have h:(0:Int)<(List.length (z.az e (.li r.c)):Int):=gu.2
  omega
 have zjp:i.den G e= .av (.v (.int .i64 (i.az e (.int .i64)))):=jw uN
 have h2:ab.bP G e [.aN id,i,y]=[.aN id,.av (.v (.int .i64 (i.az e (.int .i64)))),y.den G e]:=by
  rw[←zjp];rfl
 rw[h2]
 refine(fP r hm (n:=S.n) bc oa (zjn aR NZ) Ev SB MJ).res fun v bU ⟨aa,ae⟩=>?_
 let aB:=a8.put e S.k ((bJ.eB r.c c6 none (some i)).den M e)
 let bd:=a8.put aB (S.k+1) ((bJ.f2 (.ap r.c) (.aT (.li r.c) S.k) z).den M aB)
 let cj:=a8.put bd (S.k+2) ((bJ.eB r.c c6 (some i) none).den M bd)
 let eo:=a8.put cj (S.k+3) ((bJ.f2 (.ap r.c) (.aT (.li r.c) (S.k+1)) (.aT (.li r.c) (S.k+2))).den M cj)
 have b5:bW S.k e aB:=bW.put (Nat.le_refl _)
 have a2:bW S.k e bd:=b5.trans (bW.put (k:=S.k) (by omega)) (Nat.le_refl _)
 have a3:bW S.k e cj:=a2.trans (bW.put (k:=S.k) (by omega)) (Nat.le_refl _)
 have a4:bW S.k e eo:=a3.trans (bW.put (k:=S.k) (by omega)) (Nat.le_refl _)
 have c0:(ab.aT (.li r.c) S.k).az aB (.li r.c)=(c6.az e (.li r.c)).take (i.az e (.int .i64)).toNat:=xN (by
  rw[Env.ih,if_pos rfl]
  simp only[bJ.den,mA,iK,OD])
 have df:(ab.aT (.li r.c) (S.k+1)).az bd (.li r.c)=(c6.az e (.li r.c)).take (i.az e (.int .i64)).toNat++z.az e (.li r.c):=xN (by
  rw[Env.ih,if_pos rfl];show(⟨.li r.c,List.append ((ab.aT (.li r.c) S.k).az aB (.li r.c)) (z.az aB (.li r.c))⟩:aF)=_;rw[c0,eE b5 zA]
  rfl)
 have gX:(ab.aT (.li r.c) (S.k+2)).az cj (.li r.c)=(c6.az e (.li r.c)).drop (i.az e (.int .i64)).toNat:=xN (by
  rw[Env.ih,if_pos rfl];simp only[bJ.den,mA,iK]
  rw[eE a2 wW,rP a2 wP,OD])
 have zjq:(ab.aT (.li r.c) (S.k+1)).az cj (.li r.c)=(c6.az e (.li r.c)).take (i.az e (.int .i64)).toNat++z.az e (.li r.c):=by
  rw[←df];exact eE (k:=S.k+2) (bW.put (Nat.le_refl _)) (jR (by omega))
 have pD:(ab.aT (.li r.c) (S.k+3)).az eo (.li r.c)=(c6.az e (.li r.c)).take (i.az e (.int .i64)).toNat++z.az e (.li r.c)++(c6.az e (.li r.c)).drop (i.az e (.int .i64)).toNat:=xN (by
  rw[Env.ih,if_pos rfl];show(⟨.li r.c,List.append ((ab.aT (.li r.c) (S.k+1)).az cj (.li r.c)) ((ab.aT (.li r.c) (S.k+2)).az cj (.li r.c))⟩:aF)=_;rw[zjq,gX]
  rfl)
 refine⟨⟨a8.put .emp 0 (.aN S.n),(S.n,.rw r.t r.c (.aT (.li r.c) (S.k+3)))::ht id S.h,S.n+1,S.k+4,S.g⟩,eo,rfl,?_,?_,⟨fun j x af=>?_,?_,?_⟩,?_,a4,Nat.le_add_right _ _⟩
 ·rw[aa]
  show _=ab.den G _ (ao.at _ 0);unfold ao.at
  simp only[a8.hZ,if_true,ab.den]
 ·rw[ae]
  simp only[cx,bF.den,px,pD,xt a4 ad.h]
 ·simp only[a8.hZ]at af
  split at af
  ·cases af
   rfl
  ·simp[a8.get]at af
 ·show(Nat.blt (S.k+3) (S.k+4)&&eG (S.k+4) (ht id S.h))=true
  rw[jR (by omega),og id (tj (by omega) ad.h)]
  rfl
 ·exact n9 (k:=S.k) (m:=S.k+4) (by omega) ad.g
 ·exact ij a4 ad.g hf
end
def C3(P:Program)(H:jG)(T:List (Nat × bK))(Z:Nat × Nat × Nat)(R I:List lG)(B:List j0)(C:List h9):Nat→Nat→List ab→ao→aC
 |0=>fun _ _ _=>.bad 40
 |n+1=>M3 P H T (OC I (Ot R (Om Z.1 Z.2.1 Z.2.2 (NY B (NK C (C3 P H T Z R I B C n))))))
section
variable {P:Program} {G:a7} {M:List aQ}
theorem HB{Z:Nat × Nat × Nat}{R I:List lG}{B:List j0}{C:List h9}{H:jG}{T:List (Nat × bK)}(k5:M4 P G M H)(fP: ∀r∈R,nL P G r)(bV: ∀r∈I,uC P G r)(sN:uK P G Z.1 Z.2.1 Z.2.2)(gR:JX P G M B)(q2:rn P G M C): ∀n,fO P G M (C3 P H T Z R I B C n)
 |0=>fun _ _ _ _ _ _ _ h=>h.elim
 |n+1=>zgL k5 (zjo bV (ziM fP (ziA sN (zh0 gR (zhK q2 (HB k5 fP bV sN gR q2 n))))))
end
end Go.aK
