/- TE, part F: strings.Builder.String, with the exact world at its end (lines of the shelf's walk, turned). Conditions: a program that bears the function. -/
import Derived.Shelf.Strings.Builder1
import Derived.Test.YtddeffoppnlafaaGreatKTEk
namespace Go.aK
open Go Go.Proofs Go.Shelf Go.RowKit
variable {P:Program} {ρ:Ren}
theorem WQ(w:World): ∀(l:List Int) (a:Addr) (acc:ByteArray),(∀j x,l[j]? =some x→w.cell? (a.add j)=some (.int .u8 x))→
 (loadBytes a acc l.length).run P w= .ok (l.foldl (fun r n=>r.push (UInt8.ofNat n.toNat)) acc) w
 |[],a,acc,_=>by simp[loadBytes]
 |x::l,a,acc,h=>by
  have aS:w.cell? a=some (.int .u8 x):=by
   have:=h 0 x rfl
   simpa[Addr.add]using this
  have aY:=WQ w l (a.add 1) (acc.push (UInt8.ofNat x.toNat)) (fun j y aA=>by
   have:=h (j+1) y (by simpa using aA)
   have e:(a.add 1).add j=a.add (j+1):=by
    unfold Addr.add
    by_cases aj:j=0
    ·subst aj;simp
    ·simp[aj];omega
   rw[e];exact this)
  simp only[List.length_cons,loadBytes,Sem.run_bind,run_load,aS,Result.andThen];exact aY
theorem zg9(w:World)(H2 it ty e:TypeId)(ar:P.underlying H2=some (.pointer e))(hc:P.cellsOf e=1)(g cells:Nat)(zha:w.shape? g=some (e,cells))(l:List Int)(aS:l≠[])(hn:l.length≤cells)(uQ:l.length≤9223372036854775807)
 (jO: ∀j x,l[j]? =some x→w.cell? ((⟨g,0,none⟩:Addr).add j)=some (.int .u8 x)):
 (Builtin.unsafeString_ #[H2,it] ty #[.pointer (some ⟨g,0,none⟩),.int .i64 l.length]).run P w= .ok (.string (bytesOf l)) (w.freeze ⟨g,0,none⟩ l.length):=by
 have av:l.length≠0:=by simpa using aS
 have Ou:=WQ (P:=P) w l ⟨g,0,none⟩ .empty jO
 have zhb:=Lib.liesAt_bytes (P:=P) hc (cells/ P.cellsOf e) l.length (by rw[hc];simpa using hn)
 have zhc: ¬(9223372036854775807:Int)<(l.length:Int):=by omega
 have Pl:Builtin.unsafeString_ #[H2,it] ty #[.pointer (some ⟨g,0,none⟩),.int .i64 l.length]=
  (do
   let n ←asInt (.int .i64 l.length)
   if n<0 then runtimePanic (.error "unsafe.String: len out of range")
   if n>IntKind.i64.max then unsupported (.unsafePointer "String: a length above the largest int")
   if n=0 then pure (.string .empty)
   else if ←variablesAt ⟨g,0,none⟩ (←elemOf H2) n.toNat then do
    let s ←loadBytes ⟨g,0,none⟩ .empty n.toNat
    freeze ⟨g,0,none⟩ n.toNat
    pure (.string s)
   else unsupported (.unsafePointer "String: not so many bytes at ptr")):=rfl
 rw[Pl]
 have zhd:IntKind.i64.max=9223372036854775807:=rfl
 have zhe: ¬(l.length:Int)<0:=by omega
 simp[asInt,asIntOf,zhd,zhc,zhe,av,variablesAt,zha,elemOf,run_underlying ar,zhb,Ou,bytesOf]
set_option maxHeartbeats 2000000 in
set_option maxRecDepth 100000 in
theorem zhf(L:Lays.n169 P ρ)(X:Builder.Extra P ρ)(b g cap:Nat)(p:Value)(cur:Array Value)(l:List Int)(w:World)(aS:l≠[])(bc:w.heap[b]? =some (.cells #[p,.slice (some ⟨g,0,none⟩) l.length cap] (ρ.t 72) (0,0)))
 (ai:w.heap[g]? =some (.cells cur (ρ.t 5) (0,0)))(Ut:l.length≤cap)(jN:cap≤maxLen)(fj:cur.size=cap*1)(jO: ∀j x,l[j]? =some x→w.cell? ((⟨g,0,none⟩:Addr).add j)=some (.int .u8 x)):
 Calls P (ρ.f 169) #[.pointer (some ⟨b,0,none⟩)] w fun e w'=>e= .returned (.string (bytesOf l))∧w'=w.drew.freeze ⟨g,0,none⟩ l.length:=by
 have SV:l.length≠0:=by simpa using aS
 have aB:w.drew.cell? ⟨b,1,none⟩=some (.slice (some ⟨g,0,none⟩) l.length cap):=by
  have:w.drew.heap[b]? =some (.cells #[p,.slice (some ⟨g,0,none⟩) l.length cap] (ρ.t 72) (0,0)):=bc
  rw[Lib.cell_of_heap this];rfl
 have Pm:(Builtin.unsafeSliceData_ #[(ρ.t 37)] (ρ.t 127) #[.slice (some ⟨g,0,none⟩) l.length cap]).run P w.drew= .ok (.pointer (some ⟨g,0,none⟩)) w.drew:=
  Lib.run_unsafeSliceData_row _ _ _ _ _ _ (by omega)
 have Pn:(Builtin.unsafeString_ #[(ρ.t 127),(ρ.t 3)] (ρ.t 9) #[.pointer (some ⟨g,0,none⟩),.int .i64 l.length]).run P w.drew= .ok (.string (bytesOf l)) (w.drew.freeze ⟨g,0,none⟩ l.length):=by
  refine zg9 w.drew (ρ.t 127) (ρ.t 3) (ρ.t 9) (ρ.t 5) L.t127 X.cellsByte g cur.size (by have dQ:w.drew.heap[g]? =some (.cells cur (ρ.t 5) (0,0)):=ai;simp[World.shape?,dQ]) l aS (by omega) (by unfold maxLen at jN;omega) ?_
  intro j x hx;exact jO j x hx
 have mixed:=L.mixed
 have t72:=L.t72;have a72:=L.a72;have z72:=L.z72;have v72:=L.v72;have Po:=run_underlying L.t72
 have t70:=L.t70;have a70:=L.a70;have z70:=L.z70;have v70:=L.v70;have Pp:=run_underlying L.t70
 have t37:=L.t37;have a37:=L.a37;have z37:=L.z37;have v37:=L.v37;have Pq:=run_underlying L.t37
 have t127:=L.t127;have a127:=L.a127;have z127:=L.z127;have v127:=L.v127;have Pr:=run_underlying L.t127
 have t3:=L.t3;have a3:=L.a3;have z3:=L.z3;have v3:=L.v3;have wD:=run_underlying L.t3
 have t9:=L.t9;have a9:=L.a9;have z9:=L.z9;have v9:=L.v9;have Ps:=run_underlying L.t9
 have t5:=X.t5;have a5:=X.a5;have z5:=X.z5;have v5:=X.v5;have Pt:=run_underlying X.t5
 go_enter L.f169,Body.n169_ntmps ρ
 go_wp2
 go_region_o
 all_goals (go_wp2;go_ret;exact⟨rfl,rfl⟩)
set_option maxHeartbeats 2000000 in
set_option maxRecDepth 100000 in
theorem WR(L:Lays.n169 P ρ)(X:Builder.Extra P ρ)(b:Nat)(p:Value)(w:World)(bc:w.heap[b]? =some (.cells #[p,.slice none 0 0] (ρ.t 72) (0,0))):
 Calls P (ρ.f 169) #[.pointer (some ⟨b,0,none⟩)] w fun e w'=>e= .returned (.string ⟨#[]⟩)∧w'=w.drew:=by
 have Pn:=Any.unsafeString_none L X
 have aB:w.drew.cell? ⟨b,1,none⟩=some (.slice none 0 0):=by
  have:w.drew.heap[b]? =some (.cells #[p,.slice none 0 0] (ρ.t 72) (0,0)):=bc
  rw[Lib.cell_of_heap this];rfl
 have Pm:(Builtin.unsafeSliceData_ #[(ρ.t 37)] (ρ.t 127) #[.slice none 0 0]).run P w.drew= .ok (.pointer none) w.drew:=rfl
 have mixed:=L.mixed
 have t72:=L.t72;have a72:=L.a72;have z72:=L.z72;have v72:=L.v72;have Po:=run_underlying L.t72
 have t70:=L.t70;have a70:=L.a70;have z70:=L.z70;have v70:=L.v70;have Pp:=run_underlying L.t70
 have t37:=L.t37;have a37:=L.a37;have z37:=L.z37;have v37:=L.v37;have Pq:=run_underlying L.t37
 have t127:=L.t127;have a127:=L.a127;have z127:=L.z127;have v127:=L.v127;have Pr:=run_underlying L.t127
 have t3:=L.t3;have a3:=L.a3;have z3:=L.z3;have v3:=L.v3;have wD:=run_underlying L.t3
 have t9:=L.t9;have a9:=L.a9;have z9:=L.z9;have v9:=L.v9;have Ps:=run_underlying L.t9
 have t5:=X.t5;have a5:=X.a5;have z5:=X.z5;have v5:=X.v5;have Pt:=run_underlying X.t5
 go_enter L.f169,Body.n169_ntmps ρ
 go_wp2
 go_region_o
 all_goals (go_wp2;go_ret;exact⟨rfl,rfl⟩)
set_option maxHeartbeats 2000000 in
set_option maxRecDepth 100000 in
theorem zhg(L:Lays.n169 P ρ)(X:Builder.Extra P ρ)(b g cap:Nat)(p:Value)(w:World)(hQ:cap≠0)(bc:w.heap[b]? =some (.cells #[p,.slice (some ⟨g,0,none⟩) 0 cap] (ρ.t 72) (0,0))):
 Calls P (ρ.f 169) #[.pointer (some ⟨b,0,none⟩)] w fun e w'=>e= .returned (.string ⟨#[]⟩)∧w'=w.drew:=by
 have Pn:=Any.unsafeString_none L X
 have aB:w.drew.cell? ⟨b,1,none⟩=some (.slice (some ⟨g,0,none⟩) 0 cap):=by
  have:w.drew.heap[b]? =some (.cells #[p,.slice (some ⟨g,0,none⟩) 0 cap] (ρ.t 72) (0,0)):=bc
  rw[Lib.cell_of_heap this];rfl
 have Pm:(Builtin.unsafeSliceData_ #[(ρ.t 37)] (ρ.t 127) #[.slice (some ⟨g,0,none⟩) 0 cap]).run P w.drew= .ok (.pointer (some ⟨g,0,none⟩)) w.drew:=
  Lib.run_unsafeSliceData_row _ _ _ _ _ _ hQ
 clear hQ
 have mixed:=L.mixed
 have t72:=L.t72;have a72:=L.a72;have z72:=L.z72;have v72:=L.v72;have Po:=run_underlying L.t72
 have t70:=L.t70;have a70:=L.a70;have z70:=L.z70;have v70:=L.v70;have Pp:=run_underlying L.t70
 have t37:=L.t37;have a37:=L.a37;have z37:=L.z37;have v37:=L.v37;have Pq:=run_underlying L.t37
 have t127:=L.t127;have a127:=L.a127;have z127:=L.z127;have v127:=L.v127;have Pr:=run_underlying L.t127
 have t3:=L.t3;have a3:=L.a3;have z3:=L.z3;have v3:=L.v3;have wD:=run_underlying L.t3
 have t9:=L.t9;have a9:=L.a9;have z9:=L.z9;have v9:=L.v9;have Ps:=run_underlying L.t9
 have t5:=X.t5;have a5:=X.a5;have z5:=X.z5;have v5:=X.v5;have Pt:=run_underlying X.t5
 go_enter L.f169,Body.n169_ntmps ρ
 go_wp2
 go_region_o
 all_goals (go_wp2;go_ret;exact⟨rfl,rfl⟩)
set_option maxHeartbeats 2000000 in
set_option maxRecDepth 100000 in
theorem zhh(L:Lays.n169 P ρ)(X:Builder.Extra P ρ)(b:Nat)(c7 q:Addr)(p:Value)(w dV:World)(bc:w.heap[b]? =some (.cells #[p,.slice (some c7) 0 0] (ρ.t 72) (0,0)))(rQ:dV.heap[b]? =w.heap[b]?)
 (Pm:(Builtin.unsafeSliceData_ #[(ρ.t 37)] (ρ.t 127) #[.slice (some c7) 0 0]).run P w.drew= .ok (.pointer (some q)) dV):
 Calls P (ρ.f 169) #[.pointer (some ⟨b,0,none⟩)] w fun e w'=>e= .returned (.string ⟨#[]⟩)∧w'=dV:=by
 have Pn:=Any.unsafeString_none L X
 have aB:w.drew.cell? ⟨b,1,none⟩=some (.slice (some c7) 0 0):=by
  have:w.drew.heap[b]? =some (.cells #[p,.slice (some c7) 0 0] (ρ.t 72) (0,0)):=bc
  rw[Lib.cell_of_heap this];rfl
 have bU:dV.cell? ⟨b,1,none⟩=some (.slice (some c7) 0 0):=by
  have:dV.heap[b]? =some (.cells #[p,.slice (some c7) 0 0] (ρ.t 72) (0,0)):=rQ.trans bc
  rw[Lib.cell_of_heap this];rfl
 clear rQ
 have mixed:=L.mixed
 have t72:=L.t72;have a72:=L.a72;have z72:=L.z72;have v72:=L.v72;have Po:=run_underlying L.t72
 have t70:=L.t70;have a70:=L.a70;have z70:=L.z70;have v70:=L.v70;have Pp:=run_underlying L.t70
 have t37:=L.t37;have a37:=L.a37;have z37:=L.z37;have v37:=L.v37;have Pq:=run_underlying L.t37
 have t127:=L.t127;have a127:=L.a127;have z127:=L.z127;have v127:=L.v127;have Pr:=run_underlying L.t127
 have t3:=L.t3;have a3:=L.a3;have z3:=L.z3;have v3:=L.v3;have wD:=run_underlying L.t3
 have t9:=L.t9;have a9:=L.a9;have z9:=L.z9;have v9:=L.v9;have Ps:=run_underlying L.t9
 have t5:=X.t5;have a5:=X.a5;have z5:=X.z5;have v5:=X.v5;have Pt:=run_underlying X.t5
 go_enter L.f169,Body.n169_ntmps ρ
 go_wp2
 go_region_o
 all_goals (go_wp2;go_ret;exact⟨rfl,rfl⟩)
theorem zhi(L:Lays.n169 P ρ)(c7:Addr)(w:World)(hex:c7.block<w.heap.size): ∃q dV,(Builtin.unsafeSliceData_ #[(ρ.t 37)] (ρ.t 127) #[.slice (some c7) 0 0]).run P w= .ok (.pointer (some q)) dV∧(dV=w∨∃o,dV=w.alloc o):=by
 obtain⟨o,au⟩: ∃o,w.heap[c7.block]? =some o:=⟨_,Array.getElem?_eq_getElem hex⟩
 have he:(elemOf (ρ.t 127)).run P w= .ok (ρ.t 5) w:=by simp[elemOf,run_underlying L.t127]
 have Pl:Builtin.unsafeSliceData_ #[(ρ.t 37)] (ρ.t 127) #[.slice (some c7) 0 0]=
  (do
   if(0:Nat)≠0 then pure (.pointer (some c7))
   else if(←viewAt c7.block).isSome then pure (.pointer (some c7))
   else pure (.pointer (some ⟨←newObj (.view c7 (←elemOf (ρ.t 127))),0,none⟩))):=rfl
 rw[Pl]
 unfold viewAt
 cases ao:w.shape? c7.block with
 |some s=>exact⟨⟨w.heap.size,0,none⟩,w.alloc (.view c7 (ρ.t 5)),by simp[ao,he],.inr ⟨_,rfl⟩⟩
 |none=>
  cases o with
  |cells c e f=>simp[World.shape?,au]at ao
  |view a t=>exact⟨c7,w,by simp[ao,getObj,Sem.run,au],.inl rfl⟩
  |_=>exact⟨⟨w.heap.size,0,none⟩,w.alloc (.view c7 (ρ.t 5)),by simp[ao,getObj,Sem.run,au,he],.inr ⟨_,rfl⟩⟩
section
variable {w w':World} {ro:Nat→Prop} {σ:Heap} {β:Nat→Value} {n rid:Nat}
theorem gI.drop(h:gI w ro σ β n){t:TypeId}{m:Nat}{es:List (List aU)}(ah:aE σ rid=some (.row false t m es))(hw: ∀k,k<w.heap.size→cz (β rid)≠some k→w'.heap[k]? =w.heap[k]?)(bT:w.heap.size≤w'.heap.size):
 gI w' ro (gS σ rid) β n:=by
 have cr: ∀b,ro b→w'.heap[b]? =w.heap[b]? :=fun b ag=>hw b (h.lt b ag) fun e=>h.e8 b ag ⟨rid,_,ah,rfl,e⟩
 have sub: ∀k o,aE (gS σ rid) k=some o→aE σ k=some o∧k≠rid:=by
  intro k o an;rw[BV]at an
  split at an
  ·cases an
  ·rename_i bW
   exact⟨an,fun e=>bW e.symm⟩
 have key: ∀x c,bA w ro σ β n x c→bA w' ro (gS σ rid) β n x c:=fun x c hx=>hx.keep cr (fun _ h=>h) (Nat.le_refl _) (fun id t cs an=>⟨rfl,t,cs,(sub _ _ an).1⟩) (fun id z t n es an=>⟨rfl,z,t,es,(sub _ _ an).1⟩) (fun id bH an=>⟨rfl,bH,(sub _ _ an).1⟩)
 refine⟨fun k o an=>?_,fun k a8 o cb b an fk=>h.inj k a8 o cb b (sub _ _ an).1 (sub _ _ fk).1,fun b ag ⟨k,o,an,av,bc⟩=>h.e8 b ag ⟨k,o,(sub _ _ an).1,av,bc⟩,fun b ag=>Nat.lt_of_lt_of_le (h.lt b ag) bT⟩
 obtain⟨gN,bW⟩:=sub k o an
 have fM:=h.dq k o gN
 have Pu:o.live=true→∀b,cz (β k)=some b→w'.heap[b]? =w.heap[b]? :=fun av b ag=>hw b (fM.iG av ag) fun e=>bW (h.inj k rid o _ b gN ah av rfl ag e)
 cases fM with
 |box t cs b arr ab ae aw aM=>exact .box t cs b arr ab ((Pu rfl b (by rw[ab];rfl)).trans ae) aw fun j x aj=>key _ _ (aM j x aj)
 |row t n es xs ab ae aw=>exact .row t n es xs (ab.keep (fun b ag=>Pu rfl b ag) bT) ae fun j x aj=>(aw j x aj).keep cr fun _ h=>h
 |fW t n es ab=>exact .fW t n es (ab.keep cr fun _ h=>h)
 |bI bH b o ab ae aw=>exact .bI bH b o ab ((Pu rfl b ab).trans ae) (bH.mono _ _ _ _ (fun x c h=>h.keep cr fun _ h=>h) aw)
theorem zhj(w:World)(g m k:Nat)(an:k≠g):(w.freeze ⟨g,0,none⟩ m).heap[k]? =w.heap[k]? :=by
 unfold World.freeze
 split
 ·rfl
 ·simp only[Array.getElem?_modify]
  rw[if_neg (fun e=>an e.symm)]
theorem zhk(w:World)(a:Addr)(m:Nat):(w.freeze a m).os=w.os∧(w.freeze a m).tape=w.tape∧(w.freeze a m).output=w.output∧(w.freeze a m).heap.size=w.heap.size:=by
 unfold World.freeze
 split
 ·exact⟨rfl,rfl,rfl,rfl⟩
 ·exact⟨rfl,rfl,rfl,by simp⟩
theorem zhl(L:Lays.n169 P ρ)(X:Builder.Extra P ρ){G:aR}{id:Nat}{x0:aC}{l:List Int}(aS:l≠[])(bf:aE σ id=some (.box (ρ.t 72) [x0,.aq rid]))(ah:aE σ rid=some (.row false (ρ.t 5) 1 (l.map fun z=>[.v (.int .u8 z)]))):
 eJ P G (ρ.f 169) [.ptr id 0] σ n fun r cc=>r= .ad (.v (.string (bytesOf l)))∧cc=gS σ rid:=by
 intro w β ro dJ ab ae aw aM bn
 have dS:=aw.dq id _ bf
 have ib:=aw.dq rid _ ah
 cases dS with
 |box _ _ b arr aD bg cM dU=>
  cases ib with
  |row _ _ _ xs dM bW fx=>
   have hQ:dJ.getD 0 undef= .pointer (some ⟨b,0,none⟩):=by
    have:=ae 0 _ rfl
    generalize dJ.getD 0 undef=aZ at this⊢
    cases this with
    |ptr _ _ _ av kn=>
     obtain⟨gR,dp,di⟩:=kn _ _ bf;rw[aD]at dp
     cases dp
     exact di
   have v8:dJ= #[.pointer (some ⟨b,0,none⟩)]:=by
    have ao:dJ.size=1:=ab
    apply Array.ext
    ·simpa using ao
    ·intro i x4 o8
     have:i=0:=by omega
     subst this;simpa[Array.getD,ao]using hQ
   have DD:arr.getD 1 undef=β rid:=by
    have:=dU 1 _ rfl
    generalize arr.getD 1 undef=aZ at this⊢
    cases this with
    |aq _ _ _ ar=>exact ar _ _ _ _ ah
   have tr:arr= #[arr.getD 0 undef,β rid]:=by
    have ao:arr.size=2:=cM
    apply Array.ext
    ·simpa using ao
    ·intro i x4 o8
     have hi:i=0∨i=1:=by omega
     rcases hi with rfl|rfl
     ·simp[Array.getD,ao]
     ·have:=DD
      simp only[Array.getD,ao]at this;simpa using this
   have hlen:(l.map fun z=>[aU.v (.int .u8 z)]).length=l.length:=List.length_map ..
   rcases dM.2 with⟨_,aT⟩|⟨g,cap,cur,az,ar,ai,hle,jN,fj,lU⟩
   ·rw[hlen]at aT
    exact absurd (List.eq_nil_of_length_eq_zero aT) aS
   ·rw[hlen]at az hle lU
    have ED:cz (β rid)=some g:=by rw[az];simp[cz,Nat.ne_of_gt ar]
    rw[v8];refine Calls.mono (zhf L X b g cap (arr.getD 0 undef) cur l w aS (by rw[bg,←az,←tr]) ai hle jN fj fun j x hx=>?_) fun e w' ⟨he,hw⟩=>?_
    ·have aj:=(List.getElem?_eq_some_iff.1 hx).1
     have hc:=fx j (.v (.int .u8 x)) (by rw[Mk,List.getElem?_map,hx];rfl)
     have zhm:xs.getD j undef= .int .u8 x:=by
      generalize xs.getD j undef=aZ at hc⊢
      cases hc with
      |v=>rfl
     have H3:xs[j]? =some (.int .u8 x):=by
      have m6:j<xs.length:=by rw[dM.1,hlen];omega
      rw[←zhm];simp[List.getD,List.getElem?_eq_getElem m6]
     rw[addLit,Nat.zero_add,cell_of_row w g j cur (ρ.t 5) (0,0) ai];rw[←lU,List.getElem?_take]at H3
     split at H3
     ·simpa using H3
     ·cases H3
    ·subst hw
     obtain⟨f1,f2,f3,f4⟩:=zhk w.drew ⟨g,0,none⟩ l.length
     have nq: ∀k,k<w.heap.size→cz (β rid)≠some k→(w.drew.freeze ⟨g,0,none⟩ l.length).heap[k]? =w.heap[k]? :=fun k _ an=>zhj w.drew g l.length k fun e=>an (by rw[ED,e])
     have bT:w.heap.size≤(w.drew.freeze ⟨g,0,none⟩ l.length).heap.size:=Nat.le_of_eq f4.symm
     have sub: ∀k o,aE (gS σ rid) k=some o→aE σ k=some o:=by
      intro k o an;rw[BV]at an
      split at an
      ·cases an
      ·exact an
     refine⟨_,_,gS σ rid,β,ro,n,he,⟨rfl,rfl⟩,.e3 rfl,aw.drop ah nq bT,⟨f1,f2,f3,bT,fun k an au=>nq k an fun e=>au ⟨rid,_,ah,rfl,e⟩,fun _ h=>.inl h,fun _ h=>h,fun k ⟨j,o,aj,av,ag⟩=>.inl ⟨j,o,sub _ _ aj,av,ag⟩,fun k an o ai=>⟨by rw[sub _ _ ai];simp,rfl⟩,fun k o ai=>bn k o (sub _ _ ai),Nat.le_refl _⟩⟩
theorem gI.same(h:gI w ro σ β n)(he:w'.heap=w.heap):gI w' ro σ β n:=by
 have cr: ∀b,ro b→w'.heap[b]? =w.heap[b]? :=fun b _=>by rw[he]
 have key: ∀x c,bA w ro σ β n x c→bA w' ro σ β n x c:=fun x c hx=>hx.keep cr (fun _ h=>h) (Nat.le_refl _) (fun id t cs an=>⟨rfl,t,cs,an⟩) (fun id z t n es an=>⟨rfl,z,t,es,an⟩) (fun id bH an=>⟨rfl,bH,an⟩)
 refine⟨fun k o an=>?_,h.inj,h.e8,fun b ag=>by rw[he];exact h.lt b ag⟩
 have fM:=h.dq k o an
 cases fM with
 |box t cs b arr ab ae aw aM=>exact .box t cs b arr ab (by rw[he];exact ae) aw fun j x aj=>key _ _ (aM j x aj)
 |row t n es xs ab ae aw=>exact .row t n es xs (ab.keep (fun b ag=>by rw[he]) (Nat.le_of_eq (by rw[he]))) ae fun j x aj=>(aw j x aj).keep cr fun _ h=>h
 |fW t n es ab=>exact .fW t n es (ab.keep cr fun _ h=>h)
 |bI bH b o ab ae aw=>exact .bI bH b o ab (by rw[he];exact ae) (bH.mono _ _ _ _ (fun x c h=>h.keep cr fun _ h=>h) aw)
theorem Trans.drew(hx: ∀id o,aE σ id=some o→id<n):Trans ⟨w,ro,σ,β,n,[]⟩ w.drew ro σ β n:=
 ⟨rfl,rfl,rfl,Nat.le_refl _,fun _ _ _=>rfl,fun _ h=>.inl h,fun _ h=>h,fun _ h=>.inl h,fun k _ o ai=>⟨by rw[ai];simp,rfl⟩,hx,Nat.le_refl _⟩
theorem zaf(L:Lays.n169 P ρ)(X:Builder.Extra P ρ){G:aR}{id:Nat}{x0:aC}(bf:aE σ id=some (.box (ρ.t 72) [x0,.ad (.v (.slice none 0 0))])):
 eJ P G (ρ.f 169) [.ptr id 0] σ n fun r cc=>r= .ad (.v (.string ⟨#[]⟩))∧cc=σ:=by
 intro w β ro dJ ab ae aw aM bn
 have dS:=aw.dq id _ bf
 cases dS with
 |box _ _ b arr aD bg cM dU=>
  have hQ:dJ.getD 0 undef= .pointer (some ⟨b,0,none⟩):=by
   have:=ae 0 _ rfl
   generalize dJ.getD 0 undef=aZ at this⊢
   cases this with
   |ptr _ _ _ av kn=>
    obtain⟨gR,dp,di⟩:=kn _ _ bf;rw[aD]at dp
    cases dp
    exact di
  have v8:dJ= #[.pointer (some ⟨b,0,none⟩)]:=by
   have ao:dJ.size=1:=ab
   apply Array.ext
   ·simpa using ao
   ·intro i x4 o8
    have:i=0:=by omega
    subst this;simpa[Array.getD,ao]using hQ
  have DD:arr.getD 1 undef= .slice none 0 0:=bA.val (dU 1 _ rfl)
  have tr:arr= #[arr.getD 0 undef,.slice none 0 0]:=by
   have ao:arr.size=2:=cM
   apply Array.ext
   ·simpa using ao
   ·intro i x4 o8
    have hi:i=0∨i=1:=by omega
    rcases hi with rfl|rfl
    ·simp[Array.getD,ao]
    ·have:=DD
     simp only[Array.getD,ao]at this;simpa using this
  rw[v8];refine Calls.mono (WR L X b (arr.getD 0 undef) w (by rw[bg,←tr])) fun e w' ⟨he,hw⟩=>?_
  subst hw;exact⟨_,_,σ,β,ro,n,he,⟨rfl,rfl⟩,.e3 rfl,aw.same rfl,Trans.drew bn⟩
theorem zhn(L:Lays.n169 P ρ)(X:Builder.Extra P ρ){G:aR}{id:Nat}{x0:aC}(bf:aE σ id=some (.box (ρ.t 72) [x0,.aq rid]))(ah:aE σ rid=some (.row false (ρ.t 5) 1 [])):
 eJ P G (ρ.f 169) [.ptr id 0] σ n fun r cc=>r= .ad (.v (.string ⟨#[]⟩))∧cc=gS σ rid:=by
 intro w β ro dJ ab ae aw aM bn
 have dS:=aw.dq id _ bf
 have ib:=aw.dq rid _ ah
 cases dS with
 |box _ _ b arr aD bg cM dU=>
  cases ib with
  |row _ _ _ xs dM bW fx=>
   have hQ:dJ.getD 0 undef= .pointer (some ⟨b,0,none⟩):=by
    have:=ae 0 _ rfl
    generalize dJ.getD 0 undef=aZ at this⊢
    cases this with
    |ptr _ _ _ av kn=>
     obtain⟨gR,dp,di⟩:=kn _ _ bf;rw[aD]at dp
     cases dp
     exact di
   have v8:dJ= #[.pointer (some ⟨b,0,none⟩)]:=by
    have ao:dJ.size=1:=ab
    apply Array.ext
    ·simpa using ao
    ·intro i x4 o8
     have:i=0:=by omega
     subst this;simpa[Array.getD,ao]using hQ
   have DD:arr.getD 1 undef=β rid:=by
    have:=dU 1 _ rfl
    generalize arr.getD 1 undef=aZ at this⊢
    cases this with
    |aq _ _ _ ar=>exact ar _ _ _ _ ah
   have tr:arr= #[arr.getD 0 undef,β rid]:=by
    have ao:arr.size=2:=cM
    apply Array.ext
    ·simpa using ao
    ·intro i x4 o8
     have hi:i=0∨i=1:=by omega
     rcases hi with rfl|rfl
     ·simp[Array.getD,ao]
     ·have:=DD
      simp only[Array.getD,ao]at this;simpa using this
   have bE:b<w.heap.size:=(Array.getElem?_eq_some_iff.1 bg).1
   have fin:Calls P (ρ.f 169) #[.pointer (some ⟨b,0,none⟩)] w fun e w'=>e= .returned (.string ⟨#[]⟩)∧(w'=w.drew∨∃o,w'=w.drew.alloc o):=by
    rcases dM.2 with⟨⟨c,az,wM⟩,_⟩|⟨g,cap,cur,az,ar,_⟩
    ·cases c with
     |none=>exact Calls.mono (WR L X b (arr.getD 0 undef) w (by rw[bg,←az,←tr])) fun e w' ⟨he,hw⟩=>⟨he,.inl hw⟩
     |some c7=>
      obtain⟨q,dV,aG,WS⟩:=zhi L c7 w.drew (wM c7 rfl);refine Calls.mono (zhh L X b c7 q (arr.getD 0 undef) w dV (by rw[bg,←az,←tr]) ?_ aG) fun e w' ⟨he,hw⟩=>⟨he,by rw[hw];exact WS⟩
      rcases WS with rfl|⟨o,rfl⟩
      ·rfl
      ·exact Lib.alloc_old w.drew _ b bE
    ·exact Calls.mono (zhg L X b g cap (arr.getD 0 undef) w (Nat.ne_of_gt ar) (by rw[bg,←(show β rid= .slice (some ⟨g,0,none⟩) 0 cap from az),←tr])) fun e w' ⟨he,hw⟩=>⟨he,.inl hw⟩
   rw[v8];refine Calls.mono fin fun e w' ⟨he,hw⟩=>?_
   have hold: ∀k,k<w.heap.size→w'.heap[k]? =w.heap[k]? :=fun k an=>by
    rcases hw with rfl|⟨o,rfl⟩
    ·rfl
    ·exact Lib.alloc_old w.drew _ k an
   have bT:w.heap.size≤w'.heap.size:=by
    rcases hw with rfl|⟨o,rfl⟩
    ·exact Nat.le_refl _
    ·show w.heap.size≤(w.heap.push _).size
     rw[Array.size_push];exact Nat.le_succ _
   have m5:w'.os=w.os∧w'.tape=w.drew.tape∧w'.output=w.output:=by
    rcases hw with rfl|⟨o,rfl⟩<;>exact⟨rfl,rfl,rfl⟩
   have sub: ∀k o,aE (gS σ rid) k=some o→aE σ k=some o:=by
    intro k o an;rw[BV]at an
    split at an
    ·cases an
    ·exact an
   refine⟨_,_,gS σ rid,β,ro,n,he,⟨rfl,rfl⟩,.e3 rfl,aw.drop ah (fun k an _=>hold k an) bT,⟨m5.1,m5.2.1,m5.2.2,bT,fun k an _=>hold k an,fun _ h=>.inl h,fun _ h=>h,fun k ⟨j,o,aj,av,ag⟩=>.inl ⟨j,o,sub _ _ aj,av,ag⟩,fun k an o ai=>⟨by rw[sub _ _ ai];simp,rfl⟩,fun k o ai=>bn k o (sub _ _ ai),Nat.le_refl _⟩⟩
theorem zae(L:Lays.n169 P ρ)(X:Builder.Extra P ρ){G:aR}{id:Nat}{x0:aC}{l:List Int}(bf:aE σ id=some (.box (ρ.t 72) [x0,.aq rid]))(ah:aE σ rid=some (.row false (ρ.t 5) 1 (l.map fun z=>[.v (.int .u8 z)]))):
 eJ P G (ρ.f 169) [.ptr id 0] σ n fun r cc=>r= .ad (.v (.string (bytesOf l)))∧cc=gS σ rid:=by
 cases l with
 |nil=>exact zhn L X bf ah
 |cons z l=>exact zhl L X (by simp) bf ah
end
end Go.aK
