/- TE, part F: strings.Builder.String, with the exact world at its end (lines of the shelf's walk, turned). Conditions: a program that bears the function. -/
import Derived.Shelf.Strings.Builder1
import Derived.Test.YtmkpmgfieagphaaGreatDoorRTEk
namespace Go.aM
open Go Go.Proofs Go.Shelf Go.RowKit
variable {P:Program} {cJ:Ren}
theorem Sv(w:World): ∀(l:List Int) (a:Addr) (acc:ByteArray),(∀j x,l[j]? =some x→w.cell? (a.add j)=some (.int .u8 x))→
 (loadBytes a acc l.length).run P w= .ok (l.foldl (fun r n=>r.push (UInt8.ofNat n.toNat)) acc) w
 |[],a,acc,_=>by simp[loadBytes]
 |x::l,a,acc,h=>by
  have aU:w.cell? a=some (.int .u8 x):=by
   have:=h 0 x rfl
   simpa[Addr.add]using this
  have aR:=Sv w l (a.add 1) (acc.push (UInt8.ofNat x.toNat)) (fun j y az=>by
   have:=h (j+1) y (by simpa using az)
   have e:(a.add 1).add j=a.add (j+1):=by
    unfold Addr.add
    by_cases ai:j=0
    ·subst ai;simp
    ·simp[ai];omega
   rw[e];exact this)
  simp only[List.length_cons,loadBytes,Sem.run_bind,run_load,aU,Result.andThen];exact aR
theorem zcO(w:World)(D9 it ty e:TypeId)(ak:P.underlying D9=some (.pointer e))(hc:P.cellsOf e=1)(g cells:Nat)(HU:w.shape? g=some (e,cells))(l:List Int)(aU:l≠[])(hn:l.length≤cells)(r8:l.length≤9223372036854775807)
 (k5: ∀j x,l[j]? =some x→w.cell? ((⟨g,0,none⟩:Addr).add j)=some (.int .u8 x)):
 (Builtin.unsafeString_ #[D9,it] ty #[.pointer (some ⟨g,0,none⟩),.int .i64 l.length]).run P w= .ok (.string (bytesOf l)) (w.freeze ⟨g,0,none⟩ l.length):=by
 have ao:l.length≠0:=by simpa using aU
 have Kb:=Sv (P:=P) w l ⟨g,0,none⟩ .empty k5
 have zcP:=Lib.liesAt_bytes (P:=P) hc (cells/ P.cellsOf e) l.length (by rw[hc];simpa using hn)
 have zcQ: ¬(9223372036854775807:Int)<(l.length:Int):=by omega
 have K4:Builtin.unsafeString_ #[D9,it] ty #[.pointer (some ⟨g,0,none⟩),.int .i64 l.length]=
  (do
   let n ←asInt (.int .i64 l.length)
   if n<0 then runtimePanic (.error "unsafe.String: len out of range")
   if n>IntKind.i64.max then unsupported (.unsafePointer "String: a length above the largest int")
   if n=0 then pure (.string .empty)
   else if ←variablesAt ⟨g,0,none⟩ (←elemOf D9) n.toNat then do
    let s ←loadBytes ⟨g,0,none⟩ .empty n.toNat
    freeze ⟨g,0,none⟩ n.toNat
    pure (.string s)
   else unsupported (.unsafePointer "String: not so many bytes at ptr")):=rfl
 rw[K4]
 have zcR:IntKind.i64.max=9223372036854775807:=rfl
 have zcS: ¬(l.length:Int)<0:=by omega
 simp[asInt,asIntOf,zcR,zcQ,zcS,ao,variablesAt,HU,elemOf,run_underlying ak,zcP,Kb,bytesOf]
set_option maxHeartbeats 2000000 in
set_option maxRecDepth 100000 in
theorem zcT(L:Lays.n169 P cJ)(X:Builder.Extra P cJ)(b g cap:Nat)(p:Value)(cur:Array Value)(l:List Int)(w:World)(aU:l≠[])(bc:w.heap[b]? =some (.cells #[p,.slice (some ⟨g,0,none⟩) l.length cap] (cJ.t 72) (0,0)))
 (ah:w.heap[g]? =some (.cells cur (cJ.t 5) (0,0)))(Qn:l.length≤cap)(iS:cap≤maxLen)(fA:cur.size=cap*1)(k5: ∀j x,l[j]? =some x→w.cell? ((⟨g,0,none⟩:Addr).add j)=some (.int .u8 x)):
 Calls P (cJ.f 169) #[.pointer (some ⟨b,0,none⟩)] w fun e w'=>e= .returned (.string (bytesOf l))∧w'=w.drew.freeze ⟨g,0,none⟩ l.length:=by
 have ON:l.length≠0:=by simpa using aU
 have aw:w.drew.cell? ⟨b,1,none⟩=some (.slice (some ⟨g,0,none⟩) l.length cap):=by
  have:w.drew.heap[b]? =some (.cells #[p,.slice (some ⟨g,0,none⟩) l.length cap] (cJ.t 72) (0,0)):=bc
  rw[Lib.cell_of_heap this];rfl
 have K5:(Builtin.unsafeSliceData_ #[(cJ.t 37)] (cJ.t 127) #[.slice (some ⟨g,0,none⟩) l.length cap]).run P w.drew= .ok (.pointer (some ⟨g,0,none⟩)) w.drew:=
  Lib.run_unsafeSliceData_row _ _ _ _ _ _ (by omega)
 have K6:(Builtin.unsafeString_ #[(cJ.t 127),(cJ.t 3)] (cJ.t 9) #[.pointer (some ⟨g,0,none⟩),.int .i64 l.length]).run P w.drew= .ok (.string (bytesOf l)) (w.drew.freeze ⟨g,0,none⟩ l.length):=by
  refine zcO w.drew (cJ.t 127) (cJ.t 3) (cJ.t 9) (cJ.t 5) L.t127 X.cellsByte g cur.size (by have dR:w.drew.heap[g]? =some (.cells cur (cJ.t 5) (0,0)):=ah;simp[World.shape?,dR]) l aU (by omega) (by unfold maxLen at iS;omega) ?_
  intro j x hx;exact k5 j x hx
 have mixed:=L.mixed
 have t72:=L.t72;have a72:=L.a72;have z72:=L.z72;have v72:=L.v72;have K7:=run_underlying L.t72
 have t70:=L.t70;have a70:=L.a70;have z70:=L.z70;have v70:=L.v70;have K8:=run_underlying L.t70
 have t37:=L.t37;have a37:=L.a37;have z37:=L.z37;have v37:=L.v37;have K9:=run_underlying L.t37
 have t127:=L.t127;have a127:=L.a127;have z127:=L.z127;have v127:=L.v127;have La:=run_underlying L.t127
 have t3:=L.t3;have a3:=L.a3;have z3:=L.z3;have v3:=L.v3;have Lb:=run_underlying L.t3
 have t9:=L.t9;have a9:=L.a9;have z9:=L.z9;have v9:=L.v9;have Lc:=run_underlying L.t9
 have t5:=X.t5;have a5:=X.a5;have z5:=X.z5;have v5:=X.v5;have Ld:=run_underlying X.t5
 go_enter L.f169,Body.n169_ntmps cJ
 go_wp2
 go_region_o
 all_goals (go_wp2;go_ret;exact⟨rfl,rfl⟩)
set_option maxHeartbeats 2000000 in
set_option maxRecDepth 100000 in
theorem Sw(L:Lays.n169 P cJ)(X:Builder.Extra P cJ)(b:Nat)(p:Value)(w:World)(bc:w.heap[b]? =some (.cells #[p,.slice none 0 0] (cJ.t 72) (0,0))):
 Calls P (cJ.f 169) #[.pointer (some ⟨b,0,none⟩)] w fun e w'=>e= .returned (.string ⟨#[]⟩)∧w'=w.drew:=by
 have K6:=Any.unsafeString_none L X
 have aw:w.drew.cell? ⟨b,1,none⟩=some (.slice none 0 0):=by
  have:w.drew.heap[b]? =some (.cells #[p,.slice none 0 0] (cJ.t 72) (0,0)):=bc
  rw[Lib.cell_of_heap this];rfl
 have K5:(Builtin.unsafeSliceData_ #[(cJ.t 37)] (cJ.t 127) #[.slice none 0 0]).run P w.drew= .ok (.pointer none) w.drew:=rfl
 have mixed:=L.mixed
 have t72:=L.t72;have a72:=L.a72;have z72:=L.z72;have v72:=L.v72;have K7:=run_underlying L.t72
 have t70:=L.t70;have a70:=L.a70;have z70:=L.z70;have v70:=L.v70;have K8:=run_underlying L.t70
 have t37:=L.t37;have a37:=L.a37;have z37:=L.z37;have v37:=L.v37;have K9:=run_underlying L.t37
 have t127:=L.t127;have a127:=L.a127;have z127:=L.z127;have v127:=L.v127;have La:=run_underlying L.t127
 have t3:=L.t3;have a3:=L.a3;have z3:=L.z3;have v3:=L.v3;have Lb:=run_underlying L.t3
 have t9:=L.t9;have a9:=L.a9;have z9:=L.z9;have v9:=L.v9;have Lc:=run_underlying L.t9
 have t5:=X.t5;have a5:=X.a5;have z5:=X.z5;have v5:=X.v5;have Ld:=run_underlying X.t5
 go_enter L.f169,Body.n169_ntmps cJ
 go_wp2
 go_region_o
 all_goals (go_wp2;go_ret;exact⟨rfl,rfl⟩)
set_option maxHeartbeats 2000000 in
set_option maxRecDepth 100000 in
theorem zcU(L:Lays.n169 P cJ)(X:Builder.Extra P cJ)(b g cap:Nat)(p:Value)(w:World)(h4:cap≠0)(bc:w.heap[b]? =some (.cells #[p,.slice (some ⟨g,0,none⟩) 0 cap] (cJ.t 72) (0,0))):
 Calls P (cJ.f 169) #[.pointer (some ⟨b,0,none⟩)] w fun e w'=>e= .returned (.string ⟨#[]⟩)∧w'=w.drew:=by
 have K6:=Any.unsafeString_none L X
 have aw:w.drew.cell? ⟨b,1,none⟩=some (.slice (some ⟨g,0,none⟩) 0 cap):=by
  have:w.drew.heap[b]? =some (.cells #[p,.slice (some ⟨g,0,none⟩) 0 cap] (cJ.t 72) (0,0)):=bc
  rw[Lib.cell_of_heap this];rfl
 have K5:(Builtin.unsafeSliceData_ #[(cJ.t 37)] (cJ.t 127) #[.slice (some ⟨g,0,none⟩) 0 cap]).run P w.drew= .ok (.pointer (some ⟨g,0,none⟩)) w.drew:=
  Lib.run_unsafeSliceData_row _ _ _ _ _ _ h4
 clear h4
 have mixed:=L.mixed
 have t72:=L.t72;have a72:=L.a72;have z72:=L.z72;have v72:=L.v72;have K7:=run_underlying L.t72
 have t70:=L.t70;have a70:=L.a70;have z70:=L.z70;have v70:=L.v70;have K8:=run_underlying L.t70
 have t37:=L.t37;have a37:=L.a37;have z37:=L.z37;have v37:=L.v37;have K9:=run_underlying L.t37
 have t127:=L.t127;have a127:=L.a127;have z127:=L.z127;have v127:=L.v127;have La:=run_underlying L.t127
 have t3:=L.t3;have a3:=L.a3;have z3:=L.z3;have v3:=L.v3;have Lb:=run_underlying L.t3
 have t9:=L.t9;have a9:=L.a9;have z9:=L.z9;have v9:=L.v9;have Lc:=run_underlying L.t9
 have t5:=X.t5;have a5:=X.a5;have z5:=X.z5;have v5:=X.v5;have Ld:=run_underlying X.t5
 go_enter L.f169,Body.n169_ntmps cJ
 go_wp2
 go_region_o
 all_goals (go_wp2;go_ret;exact⟨rfl,rfl⟩)
set_option maxHeartbeats 2000000 in
set_option maxRecDepth 100000 in
theorem zcV(L:Lays.n169 P cJ)(X:Builder.Extra P cJ)(b:Nat)(cS q:Addr)(p:Value)(w cy:World)(bc:w.heap[b]? =some (.cells #[p,.slice (some cS) 0 0] (cJ.t 72) (0,0)))(pE:cy.heap[b]? =w.heap[b]?)
 (K5:(Builtin.unsafeSliceData_ #[(cJ.t 37)] (cJ.t 127) #[.slice (some cS) 0 0]).run P w.drew= .ok (.pointer (some q)) cy):
 Calls P (cJ.f 169) #[.pointer (some ⟨b,0,none⟩)] w fun e w'=>e= .returned (.string ⟨#[]⟩)∧w'=cy:=by
 have K6:=Any.unsafeString_none L X
 have aw:w.drew.cell? ⟨b,1,none⟩=some (.slice (some cS) 0 0):=by
  have:w.drew.heap[b]? =some (.cells #[p,.slice (some cS) 0 0] (cJ.t 72) (0,0)):=bc
  rw[Lib.cell_of_heap this];rfl
 have ey:cy.cell? ⟨b,1,none⟩=some (.slice (some cS) 0 0):=by
  have:cy.heap[b]? =some (.cells #[p,.slice (some cS) 0 0] (cJ.t 72) (0,0)):=pE.trans bc
  rw[Lib.cell_of_heap this];rfl
 clear pE
 have mixed:=L.mixed
 have t72:=L.t72;have a72:=L.a72;have z72:=L.z72;have v72:=L.v72;have K7:=run_underlying L.t72
 have t70:=L.t70;have a70:=L.a70;have z70:=L.z70;have v70:=L.v70;have K8:=run_underlying L.t70
 have t37:=L.t37;have a37:=L.a37;have z37:=L.z37;have v37:=L.v37;have K9:=run_underlying L.t37
 have t127:=L.t127;have a127:=L.a127;have z127:=L.z127;have v127:=L.v127;have La:=run_underlying L.t127
 have t3:=L.t3;have a3:=L.a3;have z3:=L.z3;have v3:=L.v3;have Lb:=run_underlying L.t3
 have t9:=L.t9;have a9:=L.a9;have z9:=L.z9;have v9:=L.v9;have Lc:=run_underlying L.t9
 have t5:=X.t5;have a5:=X.a5;have z5:=X.z5;have v5:=X.v5;have Ld:=run_underlying X.t5
 go_enter L.f169,Body.n169_ntmps cJ
 go_wp2
 go_region_o
 all_goals (go_wp2;go_ret;exact⟨rfl,rfl⟩)
theorem zcW(L:Lays.n169 P cJ)(cS:Addr)(w:World)(hex:cS.block<w.heap.size): ∃q cy,(Builtin.unsafeSliceData_ #[(cJ.t 37)] (cJ.t 127) #[.slice (some cS) 0 0]).run P w= .ok (.pointer (some q)) cy∧(cy=w∨∃o,cy=w.alloc o):=by
 obtain⟨o,an⟩: ∃o,w.heap[cS.block]? =some o:=⟨_,Array.getElem?_eq_getElem hex⟩
 have he:(elemOf (cJ.t 127)).run P w= .ok (cJ.t 5) w:=by simp[elemOf,run_underlying L.t127]
 have K4:Builtin.unsafeSliceData_ #[(cJ.t 37)] (cJ.t 127) #[.slice (some cS) 0 0]=
  (do
   if(0:Nat)≠0 then pure (.pointer (some cS))
   else if(←viewAt cS.block).isSome then pure (.pointer (some cS))
   else pure (.pointer (some ⟨←newObj (.view cS (←elemOf (cJ.t 127))),0,none⟩))):=rfl
 rw[K4]
 unfold viewAt
 cases ag:w.shape? cS.block with
 |some s=>exact⟨⟨w.heap.size,0,none⟩,w.alloc (.view cS (cJ.t 5)),by simp[ag,he],.inr ⟨_,rfl⟩⟩
 |none=>
  cases o with
  |cells c e f=>simp[World.shape?,an]at ag
  |view a t=>exact⟨cS,w,by simp[ag,getObj,Sem.run,an],.inl rfl⟩
  |_=>exact⟨⟨w.heap.size,0,none⟩,w.alloc (.view cS (cJ.t 5)),by simp[ag,getObj,Sem.run,an,he],.inr ⟨_,rfl⟩⟩
section
variable {w w':World} {ro:Nat→Prop} {σ:bA} {β:Nat→Value} {n rid:Nat}
theorem ho.drop(h:ho w ro σ β n){t:TypeId}{m:Nat}{es:List (List bh)}(af:aF σ rid=some (.row false t m es))(hw: ∀k,k<w.heap.size→cf (β rid)≠some k→w'.heap[k]? =w.heap[k]?)(bK:w.heap.size≤w'.heap.size):
 ho w' ro (fU σ rid) β n:=by
 have cc: ∀b,ro b→w'.heap[b]? =w.heap[b]? :=fun b ae=>hw b (h.lt b ae) fun e=>h.fz b ae ⟨rid,_,af,rfl,e⟩
 have sub: ∀k o,aF (fU σ rid) k=some o→aF σ k=some o∧k≠rid:=by
  intro k o aj;rw[BR]at aj
  split at aj
  ·cases aj
  ·rename_i cb
   exact⟨aj,fun e=>cb e.symm⟩
 have key: ∀x c,bs w ro σ β n x c→bs w' ro (fU σ rid) β n x c:=fun x c hx=>hx.keep cc (fun _ h=>h) (Nat.le_refl _) (fun id t cs aj=>⟨rfl,t,cs,(sub _ _ aj).1⟩) (fun id z t n es aj=>⟨rfl,z,t,es,(sub _ _ aj).1⟩) (fun id bF aj=>⟨rfl,bF,(sub _ _ aj).1⟩)
 refine⟨fun k o aj=>?_,fun k br o cm b aj eB=>h.inj k br o cm b (sub _ _ aj).1 (sub _ _ eB).1,fun b ae ⟨k,o,aj,ao,bc⟩=>h.fz b ae ⟨k,o,(sub _ _ aj).1,ao,bc⟩,fun b ae=>Nat.lt_of_lt_of_le (h.lt b ae) bK⟩
 obtain⟨fi,cb⟩:=sub k o aj
 have gw:=h.c7 k o fi
 have Le:o.live=true→∀b,cf (β k)=some b→w'.heap[b]? =w.heap[b]? :=fun ao b ae=>hw b (gw.hl ao ae) fun e=>cb (h.inj k rid o _ b fi af ao rfl ae e)
 cases gw with
 |box t cs b arr aa ad aq aS=>exact .box t cs b arr aa ((Le rfl b (by rw[aa];rfl)).trans ad) aq fun j x ai=>key _ _ (aS j x ai)
 |row t n es xs aa ad aq=>exact .row t n es xs (aa.keep (fun b ae=>Le rfl b ae) bK) ad fun j x ai=>(aq j x ai).keep cc fun _ h=>h
 |fV t n es aa=>exact .fV t n es (aa.keep cc fun _ h=>h)
 |b1 bF b o aa ad aq=>exact .b1 bF b o aa ((Le rfl b aa).trans ad) (bF.mono _ _ _ _ (fun x c h=>h.keep cc fun _ h=>h) aq)
theorem zcX(w:World)(g m k:Nat)(aj:k≠g):(w.freeze ⟨g,0,none⟩ m).heap[k]? =w.heap[k]? :=by
 unfold World.freeze
 split
 ·rfl
 ·simp only[Array.getElem?_modify]
  rw[if_neg (fun e=>aj e.symm)]
theorem zcY(w:World)(a:Addr)(m:Nat):(w.freeze a m).os=w.os∧(w.freeze a m).tape=w.tape∧(w.freeze a m).output=w.output∧(w.freeze a m).heap.size=w.heap.size:=by
 unfold World.freeze
 split
 ·exact⟨rfl,rfl,rfl,rfl⟩
 ·exact⟨rfl,rfl,rfl,by simp⟩
theorem zcZ(L:Lays.n169 P cJ)(X:Builder.Extra P cJ){G:a7}{id:Nat}{x0:aE}{l:List Int}(aU:l≠[])(hid:aF σ id=some (.box (cJ.t 72) [x0,.aP rid]))(af:aF σ rid=some (.row false (cJ.t 5) 1 (l.map fun z=>[.v (.int .u8 z)]))):
 dO P G (cJ.f 169) [.ptr id 0] σ n fun r bQ=>r= .au (.v (.string (bytesOf l)))∧bQ=fU σ rid:=by
 intro w β ro eM aa ad aq aS bC
 have du:=aq.c7 id _ hid
 have gG:=aq.c7 rid _ af
 cases du with
 |box _ _ b arr aA aW cr eD=>
  cases gG with
  |row _ _ _ xs dL cb fk=>
   have h4:eM.getD 0 undef= .pointer (some ⟨b,0,none⟩):=by
    have:=ad 0 _ rfl
    generalize eM.getD 0 undef=bj at this⊢
    cases this with
    |ptr _ _ _ ao ln=>
     obtain⟨b',dk,dy⟩:=ln _ _ hid;rw[aA]at dk
     cases dk
     exact dy
   have tU:eM= #[.pointer (some ⟨b,0,none⟩)]:=by
    have ag:eM.size=1:=aa
    apply Array.ext
    ·simpa using ag
    ·intro i vE iK
     have:i=0:=by omega
     subst this;simpa[Array.getD,ag]using h4
   have Ar:arr.getD 1 undef=β rid:=by
    have:=eD 1 _ rfl
    generalize arr.getD 1 undef=bj at this⊢
    cases this with
    |aP _ _ _ ak=>exact ak _ _ _ _ af
   have rf:arr= #[arr.getD 0 undef,β rid]:=by
    have ag:arr.size=2:=cr
    apply Array.ext
    ·simpa using ag
    ·intro i vE iK
     have hi:i=0∨i=1:=by omega
     rcases hi with rfl|rfl
     ·simp[Array.getD,ag]
     ·have:=Ar
      simp only[Array.getD,ag]at this;simpa using this
   have hlen:(l.map fun z=>[bh.v (.int .u8 z)]).length=l.length:=List.length_map ..
   rcases dL.2 with⟨_,bu⟩|⟨g,cap,cur,av,ak,ah,hle,iS,fA,lD⟩
   ·rw[hlen]at bu
    exact absurd (List.eq_nil_of_length_eq_zero bu) aU
   ·rw[hlen]at av hle lD
    have zc0:cf (β rid)=some g:=by rw[av];simp[cf,Nat.ne_of_gt ak]
    rw[tU];refine Calls.mono (zcT L X b g cap (arr.getD 0 undef) cur l w aU (by rw[aW,←av,←rf]) ah hle iS fA fun j x hx=>?_) fun e w' ⟨he,hw⟩=>?_
    ·have ai:=(List.getElem?_eq_some_iff.1 hx).1
     have hc:=fk j (.v (.int .u8 x)) (by rw[Ih,List.getElem?_map,hx];rfl)
     have zc1:xs.getD j undef= .int .u8 x:=by
      generalize xs.getD j undef=bj at hc⊢
      cases hc with
      |v=>rfl
     have Ea:xs[j]? =some (.int .u8 x):=by
      have lE:j<xs.length:=by rw[dL.1,hlen];omega
      rw[←zc1];simp[List.getD,List.getElem?_eq_getElem lE]
     rw[addLit,Nat.zero_add,cell_of_row w g j cur (cJ.t 5) (0,0) ah];rw[←lD,List.getElem?_take]at Ea
     split at Ea
     ·simpa using Ea
     ·cases Ea
    ·subst hw
     obtain⟨f1,f2,f3,f4⟩:=zcY w.drew ⟨g,0,none⟩ l.length
     have nL: ∀k,k<w.heap.size→cf (β rid)≠some k→(w.drew.freeze ⟨g,0,none⟩ l.length).heap[k]? =w.heap[k]? :=fun k _ aj=>zcX w.drew g l.length k fun e=>aj (by rw[zc0,e])
     have bK:w.heap.size≤(w.drew.freeze ⟨g,0,none⟩ l.length).heap.size:=Nat.le_of_eq f4.symm
     have sub: ∀k o,aF (fU σ rid) k=some o→aF σ k=some o:=by
      intro k o aj;rw[BR]at aj
      split at aj
      ·cases aj
      ·exact aj
     refine⟨_,_,fU σ rid,β,ro,n,he,⟨rfl,rfl⟩,.fO rfl,aq.drop af nL bK,⟨f1,f2,f3,bK,fun k aj an=>nL k aj fun e=>an ⟨rid,_,af,rfl,e⟩,fun _ h=>.inl h,fun _ h=>h,fun k ⟨j,o,ai,ao,ae⟩=>.inl ⟨j,o,sub _ _ ai,ao,ae⟩,fun k aj o ah=>⟨by rw[sub _ _ ah];simp,rfl⟩,fun k o ah=>bC k o (sub _ _ ah),Nat.le_refl _⟩⟩
theorem ho.same(h:ho w ro σ β n)(he:w'.heap=w.heap):ho w' ro σ β n:=by
 have cc: ∀b,ro b→w'.heap[b]? =w.heap[b]? :=fun b _=>by rw[he]
 have key: ∀x c,bs w ro σ β n x c→bs w' ro σ β n x c:=fun x c hx=>hx.keep cc (fun _ h=>h) (Nat.le_refl _) (fun id t cs aj=>⟨rfl,t,cs,aj⟩) (fun id z t n es aj=>⟨rfl,z,t,es,aj⟩) (fun id bF aj=>⟨rfl,bF,aj⟩)
 refine⟨fun k o aj=>?_,h.inj,h.fz,fun b ae=>by rw[he];exact h.lt b ae⟩
 have gw:=h.c7 k o aj
 cases gw with
 |box t cs b arr aa ad aq aS=>exact .box t cs b arr aa (by rw[he];exact ad) aq fun j x ai=>key _ _ (aS j x ai)
 |row t n es xs aa ad aq=>exact .row t n es xs (aa.keep (fun b ae=>by rw[he]) (Nat.le_of_eq (by rw[he]))) ad fun j x ai=>(aq j x ai).keep cc fun _ h=>h
 |fV t n es aa=>exact .fV t n es (aa.keep cc fun _ h=>h)
 |b1 bF b o aa ad aq=>exact .b1 bF b o aa (by rw[he];exact ad) (bF.mono _ _ _ _ (fun x c h=>h.keep cc fun _ h=>h) aq)
theorem Trans.drew(hx: ∀id o,aF σ id=some o→id<n):Trans ⟨w,ro,σ,β,n⟩ w.drew ro σ β n:=
 ⟨rfl,rfl,rfl,Nat.le_refl _,fun _ _ _=>rfl,fun _ h=>.inl h,fun _ h=>h,fun _ h=>.inl h,fun k _ o ah=>⟨by rw[ah];simp,rfl⟩,hx,Nat.le_refl _⟩
theorem Wi(L:Lays.n169 P cJ)(X:Builder.Extra P cJ){G:a7}{id:Nat}{x0:aE}(hid:aF σ id=some (.box (cJ.t 72) [x0,.au (.v (.slice none 0 0))])):
 dO P G (cJ.f 169) [.ptr id 0] σ n fun r bQ=>r= .au (.v (.string ⟨#[]⟩))∧bQ=σ:=by
 intro w β ro eM aa ad aq aS bC
 have du:=aq.c7 id _ hid
 cases du with
 |box _ _ b arr aA aW cr eD=>
  have h4:eM.getD 0 undef= .pointer (some ⟨b,0,none⟩):=by
   have:=ad 0 _ rfl
   generalize eM.getD 0 undef=bj at this⊢
   cases this with
   |ptr _ _ _ ao ln=>
    obtain⟨b',dk,dy⟩:=ln _ _ hid;rw[aA]at dk
    cases dk
    exact dy
  have tU:eM= #[.pointer (some ⟨b,0,none⟩)]:=by
   have ag:eM.size=1:=aa
   apply Array.ext
   ·simpa using ag
   ·intro i vE iK
    have:i=0:=by omega
    subst this;simpa[Array.getD,ag]using h4
  have Ar:arr.getD 1 undef= .slice none 0 0:=bs.val (eD 1 _ rfl)
  have rf:arr= #[arr.getD 0 undef,.slice none 0 0]:=by
   have ag:arr.size=2:=cr
   apply Array.ext
   ·simpa using ag
   ·intro i vE iK
    have hi:i=0∨i=1:=by omega
    rcases hi with rfl|rfl
    ·simp[Array.getD,ag]
    ·have:=Ar
     simp only[Array.getD,ag]at this;simpa using this
  rw[tU];refine Calls.mono (Sw L X b (arr.getD 0 undef) w (by rw[aW,←rf])) fun e w' ⟨he,hw⟩=>?_
  subst hw;exact⟨_,_,σ,β,ro,n,he,⟨rfl,rfl⟩,.fO rfl,aq.same rfl,Trans.drew bC⟩
theorem zc2(L:Lays.n169 P cJ)(X:Builder.Extra P cJ){G:a7}{id:Nat}{x0:aE}(hid:aF σ id=some (.box (cJ.t 72) [x0,.aP rid]))(af:aF σ rid=some (.row false (cJ.t 5) 1 [])):
 dO P G (cJ.f 169) [.ptr id 0] σ n fun r bQ=>r= .au (.v (.string ⟨#[]⟩))∧bQ=fU σ rid:=by
 intro w β ro eM aa ad aq aS bC
 have du:=aq.c7 id _ hid
 have gG:=aq.c7 rid _ af
 cases du with
 |box _ _ b arr aA aW cr eD=>
  cases gG with
  |row _ _ _ xs dL cb fk=>
   have h4:eM.getD 0 undef= .pointer (some ⟨b,0,none⟩):=by
    have:=ad 0 _ rfl
    generalize eM.getD 0 undef=bj at this⊢
    cases this with
    |ptr _ _ _ ao ln=>
     obtain⟨b',dk,dy⟩:=ln _ _ hid;rw[aA]at dk
     cases dk
     exact dy
   have tU:eM= #[.pointer (some ⟨b,0,none⟩)]:=by
    have ag:eM.size=1:=aa
    apply Array.ext
    ·simpa using ag
    ·intro i vE iK
     have:i=0:=by omega
     subst this;simpa[Array.getD,ag]using h4
   have Ar:arr.getD 1 undef=β rid:=by
    have:=eD 1 _ rfl
    generalize arr.getD 1 undef=bj at this⊢
    cases this with
    |aP _ _ _ ak=>exact ak _ _ _ _ af
   have rf:arr= #[arr.getD 0 undef,β rid]:=by
    have ag:arr.size=2:=cr
    apply Array.ext
    ·simpa using ag
    ·intro i vE iK
     have hi:i=0∨i=1:=by omega
     rcases hi with rfl|rfl
     ·simp[Array.getD,ag]
     ·have:=Ar
      simp only[Array.getD,ag]at this;simpa using this
   have bB:b<w.heap.size:=(Array.getElem?_eq_some_iff.1 aW).1
   have fin:Calls P (cJ.f 169) #[.pointer (some ⟨b,0,none⟩)] w fun e w'=>e= .returned (.string ⟨#[]⟩)∧(w'=w.drew∨∃o,w'=w.drew.alloc o):=by
    rcases dL.2 with⟨⟨c,av,uf⟩,_⟩|⟨g,cap,cur,av,ak,_⟩
    ·cases c with
     |none=>exact Calls.mono (Sw L X b (arr.getD 0 undef) w (by rw[aW,←av,←rf])) fun e w' ⟨he,hw⟩=>⟨he,.inl hw⟩
     |some cS=>
      obtain⟨q,cy,aL,Sx⟩:=zcW L cS w.drew (uf cS rfl);refine Calls.mono (zcV L X b cS q (arr.getD 0 undef) w cy (by rw[aW,←av,←rf]) ?_ aL) fun e w' ⟨he,hw⟩=>⟨he,by rw[hw];exact Sx⟩
      rcases Sx with rfl|⟨o,rfl⟩
      ·rfl
      ·exact Lib.alloc_old w.drew _ b bB
    ·exact Calls.mono (zcU L X b g cap (arr.getD 0 undef) w (Nat.ne_of_gt ak) (by rw[aW,←(show β rid= .slice (some ⟨g,0,none⟩) 0 cap from av),←rf])) fun e w' ⟨he,hw⟩=>⟨he,.inl hw⟩
   rw[tU];refine Calls.mono fin fun e w' ⟨he,hw⟩=>?_
   have hold: ∀k,k<w.heap.size→w'.heap[k]? =w.heap[k]? :=fun k aj=>by
    rcases hw with rfl|⟨o,rfl⟩
    ·rfl
    ·exact Lib.alloc_old w.drew _ k aj
   have bK:w.heap.size≤w'.heap.size:=by
    rcases hw with rfl|⟨o,rfl⟩
    ·exact Nat.le_refl _
    ·show w.heap.size≤(w.heap.push _).size
     rw[Array.size_push];exact Nat.le_succ _
   have mC:w'.os=w.os∧w'.tape=w.drew.tape∧w'.output=w.output:=by
    rcases hw with rfl|⟨o,rfl⟩<;>exact⟨rfl,rfl,rfl⟩
   have sub: ∀k o,aF (fU σ rid) k=some o→aF σ k=some o:=by
    intro k o aj;rw[BR]at aj
    split at aj
    ·cases aj
    ·exact aj
   refine⟨_,_,fU σ rid,β,ro,n,he,⟨rfl,rfl⟩,.fO rfl,aq.drop af (fun k aj _=>hold k aj) bK,⟨mC.1,mC.2.1,mC.2.2,bK,fun k aj _=>hold k aj,fun _ h=>.inl h,fun _ h=>h,fun k ⟨j,o,ai,ao,ae⟩=>.inl ⟨j,o,sub _ _ ai,ao,ae⟩,fun k aj o ah=>⟨by rw[sub _ _ ah];simp,rfl⟩,fun k o ah=>bC k o (sub _ _ ah),Nat.le_refl _⟩⟩
theorem Wh(L:Lays.n169 P cJ)(X:Builder.Extra P cJ){G:a7}{id:Nat}{x0:aE}{l:List Int}(hid:aF σ id=some (.box (cJ.t 72) [x0,.aP rid]))(af:aF σ rid=some (.row false (cJ.t 5) 1 (l.map fun z=>[.v (.int .u8 z)]))):
 dO P G (cJ.f 169) [.ptr id 0] σ n fun r bQ=>r= .au (.v (.string (bytesOf l)))∧bQ=fU σ rid:=by
 cases l with
 |nil=>exact zc2 L X hid af
 |cons z l=>exact zcZ L X (by simp) hid af
end
end Go.aM
