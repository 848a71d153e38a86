/- TE, part F: strings.Builder.String, with the exact world at its end (lines of the shelf's walk, turned). Conditions: a program that bears the function. -/
import Derived.Shelf.Strings.Builder1
import Derived.Test.YtmkpmgfieagphaaGreatDoorQTEk
namespace Go.aL
open Go Go.Proofs Go.Shelf Go.RowKit
variable {P:Program} {cG:Ren}
theorem RU(w:World): ∀(l:List Int) (a:Addr) (acc:ByteArray),(∀j x,l[j]? =some x→w.cell? (a.add j)=some (.int .u8 x))→
 (loadBytes a acc l.length).run P w= .ok (l.foldl (fun r n=>r.push (UInt8.ofNat n.toNat)) acc) w
 |[],a,acc,_=>by simp[loadBytes]
 |x::l,a,acc,h=>by
  have aS:w.cell? a=some (.int .u8 x):=by
   have:=h 0 x rfl
   simpa[Addr.add]using this
  have aQ:=RU w l (a.add 1) (acc.push (UInt8.ofNat x.toNat)) (fun j y ax=>by
   have:=h (j+1) y (by simpa using ax)
   have e:(a.add 1).add j=a.add (j+1):=by
    unfold Addr.add
    by_cases ai:j=0
    ·subst ai;simp
    ·simp[ai];omega
   rw[e];exact this)
  simp only[List.length_cons,loadBytes,Sem.run_bind,run_load,aS,Result.andThen];exact aQ
theorem zbW(w:World)(DM it ty e:TypeId)(ak:P.underlying DM=some (.pointer e))(hc:P.cellsOf e=1)(g cells:Nat)(Ht:w.shape? g=some (e,cells))(l:List Int)(aS:l≠[])(hn:l.length≤cells)(r0:l.length≤9223372036854775807)
 (k2: ∀j x,l[j]? =some x→w.cell? ((⟨g,0,none⟩:Addr).add j)=some (.int .u8 x)):
 (Builtin.unsafeString_ #[DM,it] ty #[.pointer (some ⟨g,0,none⟩),.int .i64 l.length]).run P w= .ok (.string (bytesOf l)) (w.freeze ⟨g,0,none⟩ l.length):=by
 have ao:l.length≠0:=by simpa using aS
 have JK:=RU (P:=P) w l ⟨g,0,none⟩ .empty k2
 have zbX:=Lib.liesAt_bytes (P:=P) hc (cells/ P.cellsOf e) l.length (by rw[hc];simpa using hn)
 have zbY: ¬(9223372036854775807:Int)<(l.length:Int):=by omega
 have KD:Builtin.unsafeString_ #[DM,it] ty #[.pointer (some ⟨g,0,none⟩),.int .i64 l.length]=
  (do
   let n ←asInt (.int .i64 l.length)
   if n<0 then runtimePanic (.error "unsafe.String: len out of range")
   if n>IntKind.i64.max then unsupported (.unsafePointer "String: a length above the largest int")
   if n=0 then pure (.string .empty)
   else if ←variablesAt ⟨g,0,none⟩ (←elemOf DM) n.toNat then do
    let s ←loadBytes ⟨g,0,none⟩ .empty n.toNat
    freeze ⟨g,0,none⟩ n.toNat
    pure (.string s)
   else unsupported (.unsafePointer "String: not so many bytes at ptr")):=rfl
 rw[KD]
 have zbZ:IntKind.i64.max=9223372036854775807:=rfl
 have zb0: ¬(l.length:Int)<0:=by omega
 simp[asInt,asIntOf,zbZ,zbY,zb0,ao,variablesAt,Ht,elemOf,run_underlying ak,zbX,JK,bytesOf]
set_option maxHeartbeats 2000000 in
set_option maxRecDepth 100000 in
theorem zb1(L:Lays.n169 P cG)(X:Builder.Extra P cG)(b g cap:Nat)(p:Value)(cur:Array Value)(l:List Int)(w:World)(aS:l≠[])(a7:w.heap[b]? =some (.cells #[p,.slice (some ⟨g,0,none⟩) l.length cap] (cG.t 72) (0,0)))
 (ag:w.heap[g]? =some (.cells cur (cG.t 5) (0,0)))(PL:l.length≤cap)(iN:cap≤maxLen)(fu:cur.size=cap*1)(k2: ∀j x,l[j]? =some x→w.cell? ((⟨g,0,none⟩:Addr).add j)=some (.int .u8 x)):
 Calls P (cG.f 169) #[.pointer (some ⟨b,0,none⟩)] w fun e w'=>e= .returned (.string (bytesOf l))∧w'=w.drew.freeze ⟨g,0,none⟩ l.length:=by
 have N9:l.length≠0:=by simpa using aS
 have aA:w.drew.cell? ⟨b,1,none⟩=some (.slice (some ⟨g,0,none⟩) l.length cap):=by
  have:w.drew.heap[b]? =some (.cells #[p,.slice (some ⟨g,0,none⟩) l.length cap] (cG.t 72) (0,0)):=a7
  rw[Lib.cell_of_heap this];rfl
 have KE:(Builtin.unsafeSliceData_ #[(cG.t 37)] (cG.t 127) #[.slice (some ⟨g,0,none⟩) l.length cap]).run P w.drew= .ok (.pointer (some ⟨g,0,none⟩)) w.drew:=
  Lib.run_unsafeSliceData_row _ _ _ _ _ _ (by omega)
 have KF:(Builtin.unsafeString_ #[(cG.t 127),(cG.t 3)] (cG.t 9) #[.pointer (some ⟨g,0,none⟩),.int .i64 l.length]).run P w.drew= .ok (.string (bytesOf l)) (w.drew.freeze ⟨g,0,none⟩ l.length):=by
  refine zbW w.drew (cG.t 127) (cG.t 3) (cG.t 9) (cG.t 5) L.t127 X.cellsByte g cur.size (by have dN:w.drew.heap[g]? =some (.cells cur (cG.t 5) (0,0)):=ag;simp[World.shape?,dN]) l aS (by omega) (by unfold maxLen at iN;omega) ?_
  intro j x hx;exact k2 j x hx
 have mixed:=L.mixed
 have t72:=L.t72;have a72:=L.a72;have z72:=L.z72;have v72:=L.v72;have KG:=run_underlying L.t72
 have t70:=L.t70;have a70:=L.a70;have z70:=L.z70;have v70:=L.v70;have KH:=run_underlying L.t70
 have t37:=L.t37;have a37:=L.a37;have z37:=L.z37;have v37:=L.v37;have KI:=run_underlying L.t37
 have t127:=L.t127;have a127:=L.a127;have z127:=L.z127;have v127:=L.v127;have KJ:=run_underlying L.t127
 have t3:=L.t3;have a3:=L.a3;have z3:=L.z3;have v3:=L.v3;have KK:=run_underlying L.t3
 have t9:=L.t9;have a9:=L.a9;have z9:=L.z9;have v9:=L.v9;have KL:=run_underlying L.t9
 have t5:=X.t5;have a5:=X.a5;have z5:=X.z5;have v5:=X.v5;have KM:=run_underlying X.t5
 go_enter L.f169,Body.n169_ntmps cG
 go_wp2
 go_region_o
 all_goals (go_wp2;go_ret;exact⟨rfl,rfl⟩)
set_option maxHeartbeats 2000000 in
set_option maxRecDepth 100000 in
theorem RV(L:Lays.n169 P cG)(X:Builder.Extra P cG)(b:Nat)(p:Value)(w:World)(a7:w.heap[b]? =some (.cells #[p,.slice none 0 0] (cG.t 72) (0,0))):
 Calls P (cG.f 169) #[.pointer (some ⟨b,0,none⟩)] w fun e w'=>e= .returned (.string ⟨#[]⟩)∧w'=w.drew:=by
 have KF:=Any.unsafeString_none L X
 have aA:w.drew.cell? ⟨b,1,none⟩=some (.slice none 0 0):=by
  have:w.drew.heap[b]? =some (.cells #[p,.slice none 0 0] (cG.t 72) (0,0)):=a7
  rw[Lib.cell_of_heap this];rfl
 have KE:(Builtin.unsafeSliceData_ #[(cG.t 37)] (cG.t 127) #[.slice none 0 0]).run P w.drew= .ok (.pointer none) w.drew:=rfl
 have mixed:=L.mixed
 have t72:=L.t72;have a72:=L.a72;have z72:=L.z72;have v72:=L.v72;have KG:=run_underlying L.t72
 have t70:=L.t70;have a70:=L.a70;have z70:=L.z70;have v70:=L.v70;have KH:=run_underlying L.t70
 have t37:=L.t37;have a37:=L.a37;have z37:=L.z37;have v37:=L.v37;have KI:=run_underlying L.t37
 have t127:=L.t127;have a127:=L.a127;have z127:=L.z127;have v127:=L.v127;have KJ:=run_underlying L.t127
 have t3:=L.t3;have a3:=L.a3;have z3:=L.z3;have v3:=L.v3;have KK:=run_underlying L.t3
 have t9:=L.t9;have a9:=L.a9;have z9:=L.z9;have v9:=L.v9;have KL:=run_underlying L.t9
 have t5:=X.t5;have a5:=X.a5;have z5:=X.z5;have v5:=X.v5;have KM:=run_underlying X.t5
 go_enter L.f169,Body.n169_ntmps cG
 go_wp2
 go_region_o
 all_goals (go_wp2;go_ret;exact⟨rfl,rfl⟩)
set_option maxHeartbeats 2000000 in
set_option maxRecDepth 100000 in
theorem zb2(L:Lays.n169 P cG)(X:Builder.Extra P cG)(b g cap:Nat)(p:Value)(w:World)(h3:cap≠0)(a7:w.heap[b]? =some (.cells #[p,.slice (some ⟨g,0,none⟩) 0 cap] (cG.t 72) (0,0))):
 Calls P (cG.f 169) #[.pointer (some ⟨b,0,none⟩)] w fun e w'=>e= .returned (.string ⟨#[]⟩)∧w'=w.drew:=by
 have KF:=Any.unsafeString_none L X
 have aA:w.drew.cell? ⟨b,1,none⟩=some (.slice (some ⟨g,0,none⟩) 0 cap):=by
  have:w.drew.heap[b]? =some (.cells #[p,.slice (some ⟨g,0,none⟩) 0 cap] (cG.t 72) (0,0)):=a7
  rw[Lib.cell_of_heap this];rfl
 have KE:(Builtin.unsafeSliceData_ #[(cG.t 37)] (cG.t 127) #[.slice (some ⟨g,0,none⟩) 0 cap]).run P w.drew= .ok (.pointer (some ⟨g,0,none⟩)) w.drew:=
  Lib.run_unsafeSliceData_row _ _ _ _ _ _ h3
 clear h3
 have mixed:=L.mixed
 have t72:=L.t72;have a72:=L.a72;have z72:=L.z72;have v72:=L.v72;have KG:=run_underlying L.t72
 have t70:=L.t70;have a70:=L.a70;have z70:=L.z70;have v70:=L.v70;have KH:=run_underlying L.t70
 have t37:=L.t37;have a37:=L.a37;have z37:=L.z37;have v37:=L.v37;have KI:=run_underlying L.t37
 have t127:=L.t127;have a127:=L.a127;have z127:=L.z127;have v127:=L.v127;have KJ:=run_underlying L.t127
 have t3:=L.t3;have a3:=L.a3;have z3:=L.z3;have v3:=L.v3;have KK:=run_underlying L.t3
 have t9:=L.t9;have a9:=L.a9;have z9:=L.z9;have v9:=L.v9;have KL:=run_underlying L.t9
 have t5:=X.t5;have a5:=X.a5;have z5:=X.z5;have v5:=X.v5;have KM:=run_underlying X.t5
 go_enter L.f169,Body.n169_ntmps cG
 go_wp2
 go_region_o
 all_goals (go_wp2;go_ret;exact⟨rfl,rfl⟩)
set_option maxHeartbeats 2000000 in
set_option maxRecDepth 100000 in
theorem zb3(L:Lays.n169 P cG)(X:Builder.Extra P cG)(b:Nat)(cP q:Addr)(p:Value)(w cH:World)(a7:w.heap[b]? =some (.cells #[p,.slice (some cP) 0 0] (cG.t 72) (0,0)))(pA:cH.heap[b]? =w.heap[b]?)
 (KE:(Builtin.unsafeSliceData_ #[(cG.t 37)] (cG.t 127) #[.slice (some cP) 0 0]).run P w.drew= .ok (.pointer (some q)) cH):
 Calls P (cG.f 169) #[.pointer (some ⟨b,0,none⟩)] w fun e w'=>e= .returned (.string ⟨#[]⟩)∧w'=cH:=by
 have KF:=Any.unsafeString_none L X
 have aA:w.drew.cell? ⟨b,1,none⟩=some (.slice (some cP) 0 0):=by
  have:w.drew.heap[b]? =some (.cells #[p,.slice (some cP) 0 0] (cG.t 72) (0,0)):=a7
  rw[Lib.cell_of_heap this];rfl
 have et:cH.cell? ⟨b,1,none⟩=some (.slice (some cP) 0 0):=by
  have:cH.heap[b]? =some (.cells #[p,.slice (some cP) 0 0] (cG.t 72) (0,0)):=pA.trans a7
  rw[Lib.cell_of_heap this];rfl
 clear pA
 have mixed:=L.mixed
 have t72:=L.t72;have a72:=L.a72;have z72:=L.z72;have v72:=L.v72;have KG:=run_underlying L.t72
 have t70:=L.t70;have a70:=L.a70;have z70:=L.z70;have v70:=L.v70;have KH:=run_underlying L.t70
 have t37:=L.t37;have a37:=L.a37;have z37:=L.z37;have v37:=L.v37;have KI:=run_underlying L.t37
 have t127:=L.t127;have a127:=L.a127;have z127:=L.z127;have v127:=L.v127;have KJ:=run_underlying L.t127
 have t3:=L.t3;have a3:=L.a3;have z3:=L.z3;have v3:=L.v3;have KK:=run_underlying L.t3
 have t9:=L.t9;have a9:=L.a9;have z9:=L.z9;have v9:=L.v9;have KL:=run_underlying L.t9
 have t5:=X.t5;have a5:=X.a5;have z5:=X.z5;have v5:=X.v5;have KM:=run_underlying X.t5
 go_enter L.f169,Body.n169_ntmps cG
 go_wp2
 go_region_o
 all_goals (go_wp2;go_ret;exact⟨rfl,rfl⟩)
theorem zb4(L:Lays.n169 P cG)(cP:Addr)(w:World)(hex:cP.block<w.heap.size): ∃q cH,(Builtin.unsafeSliceData_ #[(cG.t 37)] (cG.t 127) #[.slice (some cP) 0 0]).run P w= .ok (.pointer (some q)) cH∧(cH=w∨∃o,cH=w.alloc o):=by
 obtain⟨o,an⟩: ∃o,w.heap[cP.block]? =some o:=⟨_,Array.getElem?_eq_getElem hex⟩
 have he:(elemOf (cG.t 127)).run P w= .ok (cG.t 5) w:=by simp[elemOf,run_underlying L.t127]
 have KD:Builtin.unsafeSliceData_ #[(cG.t 37)] (cG.t 127) #[.slice (some cP) 0 0]=
  (do
   if(0:Nat)≠0 then pure (.pointer (some cP))
   else if(←viewAt cP.block).isSome then pure (.pointer (some cP))
   else pure (.pointer (some ⟨←newObj (.view cP (←elemOf (cG.t 127))),0,none⟩))):=rfl
 rw[KD]
 unfold viewAt
 cases ah:w.shape? cP.block with
 |some s=>exact⟨⟨w.heap.size,0,none⟩,w.alloc (.view cP (cG.t 5)),by simp[ah,he],.inr ⟨_,rfl⟩⟩
 |none=>
  cases o with
  |cells c e f=>simp[World.shape?,an]at ah
  |view a t=>exact⟨cP,w,by simp[ah,getObj,Sem.run,an],.inl rfl⟩
  |_=>exact⟨⟨w.heap.size,0,none⟩,w.alloc (.view cP (cG.t 5)),by simp[ah,getObj,Sem.run,an,he],.inr ⟨_,rfl⟩⟩
section
variable {w w':World} {ro:Nat→Prop} {σ:bz} {β:Nat→Value} {n rid:Nat}
theorem hl.drop(h:hl w ro σ β n){t:TypeId}{m:Nat}{es:List (List bd)}(af:aE σ rid=some (.row false t m es))(hw: ∀k,k<w.heap.size→cb (β rid)≠some k→w'.heap[k]? =w.heap[k]?)(bJ:w.heap.size≤w'.heap.size):
 hl w' ro (fP σ rid) β n:=by
 have b6: ∀b,ro b→w'.heap[b]? =w.heap[b]? :=fun b ad=>hw b (h.lt b ad) fun e=>h.ft b ad ⟨rid,_,af,rfl,e⟩
 have sub: ∀k o,aE (fP σ rid) k=some o→aE σ k=some o∧k≠rid:=by
  intro k o aj;rw[Bv]at aj
  split at aj
  ·cases aj
  ·rename_i cf
   exact⟨aj,fun e=>cf e.symm⟩
 have key: ∀x c,bp w ro σ β n x c→bp w' ro (fP σ rid) β n x c:=fun x c hx=>hx.keep b6 (fun _ h=>h) (Nat.le_refl _) (fun id t cs aj=>⟨rfl,t,cs,(sub _ _ aj).1⟩) (fun id z t n es aj=>⟨rfl,z,t,es,(sub _ _ aj).1⟩) (fun id bE aj=>⟨rfl,bE,(sub _ _ aj).1⟩)
 refine⟨fun k o aj=>?_,fun k bo o cl b aj ey=>h.inj k bo o cl b (sub _ _ aj).1 (sub _ _ ey).1,fun b ad ⟨k,o,aj,ao,a7⟩=>h.ft b ad ⟨k,o,(sub _ _ aj).1,ao,a7⟩,fun b ad=>Nat.lt_of_lt_of_le (h.lt b ad) bJ⟩
 obtain⟨fb,cf⟩:=sub k o aj
 have gq:=h.c4 k o fb
 have KN:o.live=true→∀b,cb (β k)=some b→w'.heap[b]? =w.heap[b]? :=fun ao b ad=>hw b (gq.hk ao ad) fun e=>cf (h.inj k rid o _ b fb af ao rfl ad e)
 cases gq with
 |box t cs b arr aa ae aq aT=>exact .box t cs b arr aa ((KN rfl b (by rw[aa];rfl)).trans ae) aq fun j x ai=>key _ _ (aT j x ai)
 |row t n es xs aa ae aq=>exact .row t n es xs (aa.keep (fun b ad=>KN rfl b ad) bJ) ae fun j x ai=>(aq j x ai).keep b6 fun _ h=>h
 |fQ t n es aa=>exact .fQ t n es (aa.keep b6 fun _ h=>h)
 |bY bE b o aa ae aq=>exact .bY bE b o aa ((KN rfl b aa).trans ae) (bE.mono _ _ _ _ (fun x c h=>h.keep b6 fun _ h=>h) aq)
theorem zb5(w:World)(g m k:Nat)(aj:k≠g):(w.freeze ⟨g,0,none⟩ m).heap[k]? =w.heap[k]? :=by
 unfold World.freeze
 split
 ·rfl
 ·simp only[Array.getElem?_modify]
  rw[if_neg (fun e=>aj e.symm)]
theorem zb6(w:World)(a:Addr)(m:Nat):(w.freeze a m).os=w.os∧(w.freeze a m).tape=w.tape∧(w.freeze a m).output=w.output∧(w.freeze a m).heap.size=w.heap.size:=by
 unfold World.freeze
 split
 ·exact⟨rfl,rfl,rfl,rfl⟩
 ·exact⟨rfl,rfl,rfl,by simp⟩
theorem zb7(L:Lays.n169 P cG)(X:Builder.Extra P cG){G:aY}{id:Nat}{x0:aD}{l:List Int}(aS:l≠[])(hid:aE σ id=some (.box (cG.t 72) [x0,.aN rid]))(af:aE σ rid=some (.row false (cG.t 5) 1 (l.map fun z=>[.v (.int .u8 z)]))):
 dI P G (cG.f 169) [.ptr id 0] σ n fun r bO=>r= .au (.v (.string (bytesOf l)))∧bO=fP σ rid:=by
 intro w β ro eI aa ae aq aT bD
 have dq:=aq.c4 id _ hid
 have gC:=aq.c4 rid _ af
 cases dq with
 |box _ _ b arr ay aV ct eA=>
  cases gC with
  |row _ _ _ xs dF cf fe=>
   have h3:eI.getD 0 undef= .pointer (some ⟨b,0,none⟩):=by
    have:=ae 0 _ rfl
    generalize eI.getD 0 undef=bj at this⊢
    cases this with
    |ptr _ _ _ ao lh=>
     obtain⟨gm,dh,dv⟩:=lh _ _ hid;rw[ay]at dh
     cases dh
     exact dv
   have tL:eI= #[.pointer (some ⟨b,0,none⟩)]:=by
    have ah:eI.size=1:=aa
    apply Array.ext
    ·simpa using ah
    ·intro i vx jF
     have:i=0:=by omega
     subst this;simpa[Array.getD,ah]using h3
   have Ag:arr.getD 1 undef=β rid:=by
    have:=eA 1 _ rfl
    generalize arr.getD 1 undef=bj at this⊢
    cases this with
    |aN _ _ _ ak=>exact ak _ _ _ _ af
   have q7:arr= #[arr.getD 0 undef,β rid]:=by
    have ah:arr.size=2:=ct
    apply Array.ext
    ·simpa using ah
    ·intro i vx jF
     have hi:i=0∨i=1:=by omega
     rcases hi with rfl|rfl
     ·simp[Array.getD,ah]
     ·have:=Ag
      simp only[Array.getD,ah]at this;simpa using this
   have hlen:(l.map fun z=>[bd.v (.int .u8 z)]).length=l.length:=List.length_map ..
   rcases dF.2 with⟨_,br⟩|⟨g,cap,cur,av,ak,ag,hle,iN,fu,lA⟩
   ·rw[hlen]at br
    exact absurd (List.eq_nil_of_length_eq_zero br) aS
   ·rw[hlen]at av hle lA
    have zb8:cb (β rid)=some g:=by rw[av];simp[cb,Nat.ne_of_gt ak]
    rw[tL];refine Calls.mono (zb1 L X b g cap (arr.getD 0 undef) cur l w aS (by rw[aV,←av,←q7]) ag hle iN fu fun j x hx=>?_) fun e w' ⟨he,hw⟩=>?_
    ·have ai:=(List.getElem?_eq_some_iff.1 hx).1
     have hc:=fe j (.v (.int .u8 x)) (by rw[HN,List.getElem?_map,hx];rfl)
     have zb9:xs.getD j undef= .int .u8 x:=by
      generalize xs.getD j undef=bj at hc⊢
      cases hc with
      |v=>rfl
     have DN:xs[j]? =some (.int .u8 x):=by
      have lB:j<xs.length:=by rw[dF.1,hlen];omega
      rw[←zb9];simp[List.getD,List.getElem?_eq_getElem lB]
     rw[addLit,Nat.zero_add,cell_of_row w g j cur (cG.t 5) (0,0) ag];rw[←lA,List.getElem?_take]at DN
     split at DN
     ·simpa using DN
     ·cases DN
    ·subst hw
     obtain⟨f1,f2,f3,f4⟩:=zb6 w.drew ⟨g,0,none⟩ l.length
     have nC: ∀k,k<w.heap.size→cb (β rid)≠some k→(w.drew.freeze ⟨g,0,none⟩ l.length).heap[k]? =w.heap[k]? :=fun k _ aj=>zb5 w.drew g l.length k fun e=>aj (by rw[zb8,e])
     have bJ:w.heap.size≤(w.drew.freeze ⟨g,0,none⟩ l.length).heap.size:=Nat.le_of_eq f4.symm
     have sub: ∀k o,aE (fP σ rid) k=some o→aE σ k=some o:=by
      intro k o aj;rw[Bv]at aj
      split at aj
      ·cases aj
      ·exact aj
     refine⟨_,_,fP σ rid,β,ro,n,he,⟨rfl,rfl⟩,.fK rfl,aq.drop af nC bJ,⟨f1,f2,f3,bJ,fun k aj an=>nC k aj fun e=>an ⟨rid,_,af,rfl,e⟩,fun _ h=>.inl h,fun _ h=>h,fun k ⟨j,o,ai,ao,ad⟩=>.inl ⟨j,o,sub _ _ ai,ao,ad⟩,fun k aj o ag=>⟨by rw[sub _ _ ag];simp,rfl⟩,fun k o ag=>bD k o (sub _ _ ag),Nat.le_refl _⟩⟩
theorem hl.same(h:hl w ro σ β n)(he:w'.heap=w.heap):hl w' ro σ β n:=by
 have b6: ∀b,ro b→w'.heap[b]? =w.heap[b]? :=fun b _=>by rw[he]
 have key: ∀x c,bp w ro σ β n x c→bp w' ro σ β n x c:=fun x c hx=>hx.keep b6 (fun _ h=>h) (Nat.le_refl _) (fun id t cs aj=>⟨rfl,t,cs,aj⟩) (fun id z t n es aj=>⟨rfl,z,t,es,aj⟩) (fun id bE aj=>⟨rfl,bE,aj⟩)
 refine⟨fun k o aj=>?_,h.inj,h.ft,fun b ad=>by rw[he];exact h.lt b ad⟩
 have gq:=h.c4 k o aj
 cases gq with
 |box t cs b arr aa ae aq aT=>exact .box t cs b arr aa (by rw[he];exact ae) aq fun j x ai=>key _ _ (aT j x ai)
 |row t n es xs aa ae aq=>exact .row t n es xs (aa.keep (fun b ad=>by rw[he]) (Nat.le_of_eq (by rw[he]))) ae fun j x ai=>(aq j x ai).keep b6 fun _ h=>h
 |fQ t n es aa=>exact .fQ t n es (aa.keep b6 fun _ h=>h)
 |bY bE b o aa ae aq=>exact .bY bE b o aa (by rw[he];exact ae) (bE.mono _ _ _ _ (fun x c h=>h.keep b6 fun _ h=>h) aq)
theorem Trans.drew(hx: ∀id o,aE σ id=some o→id<n):Trans ⟨w,ro,σ,β,n⟩ w.drew ro σ β n:=
 ⟨rfl,rfl,rfl,Nat.le_refl _,fun _ _ _=>rfl,fun _ h=>.inl h,fun _ h=>h,fun _ h=>.inl h,fun k _ o ag=>⟨by rw[ag];simp,rfl⟩,hx,Nat.le_refl _⟩
theorem Vs(L:Lays.n169 P cG)(X:Builder.Extra P cG){G:aY}{id:Nat}{x0:aD}(hid:aE σ id=some (.box (cG.t 72) [x0,.au (.v (.slice none 0 0))])):
 dI P G (cG.f 169) [.ptr id 0] σ n fun r bO=>r= .au (.v (.string ⟨#[]⟩))∧bO=σ:=by
 intro w β ro eI aa ae aq aT bD
 have dq:=aq.c4 id _ hid
 cases dq with
 |box _ _ b arr ay aV ct eA=>
  have h3:eI.getD 0 undef= .pointer (some ⟨b,0,none⟩):=by
   have:=ae 0 _ rfl
   generalize eI.getD 0 undef=bj at this⊢
   cases this with
   |ptr _ _ _ ao lh=>
    obtain⟨gm,dh,dv⟩:=lh _ _ hid;rw[ay]at dh
    cases dh
    exact dv
  have tL:eI= #[.pointer (some ⟨b,0,none⟩)]:=by
   have ah:eI.size=1:=aa
   apply Array.ext
   ·simpa using ah
   ·intro i vx jF
    have:i=0:=by omega
    subst this;simpa[Array.getD,ah]using h3
  have Ag:arr.getD 1 undef= .slice none 0 0:=bp.val (eA 1 _ rfl)
  have q7:arr= #[arr.getD 0 undef,.slice none 0 0]:=by
   have ah:arr.size=2:=ct
   apply Array.ext
   ·simpa using ah
   ·intro i vx jF
    have hi:i=0∨i=1:=by omega
    rcases hi with rfl|rfl
    ·simp[Array.getD,ah]
    ·have:=Ag
     simp only[Array.getD,ah]at this;simpa using this
  rw[tL];refine Calls.mono (RV L X b (arr.getD 0 undef) w (by rw[aV,←q7])) fun e w' ⟨he,hw⟩=>?_
  subst hw;exact⟨_,_,σ,β,ro,n,he,⟨rfl,rfl⟩,.fK rfl,aq.same rfl,Trans.drew bD⟩
theorem zca(L:Lays.n169 P cG)(X:Builder.Extra P cG){G:aY}{id:Nat}{x0:aD}(hid:aE σ id=some (.box (cG.t 72) [x0,.aN rid]))(af:aE σ rid=some (.row false (cG.t 5) 1 [])):
 dI P G (cG.f 169) [.ptr id 0] σ n fun r bO=>r= .au (.v (.string ⟨#[]⟩))∧bO=fP σ rid:=by
 intro w β ro eI aa ae aq aT bD
 have dq:=aq.c4 id _ hid
 have gC:=aq.c4 rid _ af
 cases dq with
 |box _ _ b arr ay aV ct eA=>
  cases gC with
  |row _ _ _ xs dF cf fe=>
   have h3:eI.getD 0 undef= .pointer (some ⟨b,0,none⟩):=by
    have:=ae 0 _ rfl
    generalize eI.getD 0 undef=bj at this⊢
    cases this with
    |ptr _ _ _ ao lh=>
     obtain⟨gm,dh,dv⟩:=lh _ _ hid;rw[ay]at dh
     cases dh
     exact dv
   have tL:eI= #[.pointer (some ⟨b,0,none⟩)]:=by
    have ah:eI.size=1:=aa
    apply Array.ext
    ·simpa using ah
    ·intro i vx jF
     have:i=0:=by omega
     subst this;simpa[Array.getD,ah]using h3
   have Ag:arr.getD 1 undef=β rid:=by
    have:=eA 1 _ rfl
    generalize arr.getD 1 undef=bj at this⊢
    cases this with
    |aN _ _ _ ak=>exact ak _ _ _ _ af
   have q7:arr= #[arr.getD 0 undef,β rid]:=by
    have ah:arr.size=2:=ct
    apply Array.ext
    ·simpa using ah
    ·intro i vx jF
     have hi:i=0∨i=1:=by omega
     rcases hi with rfl|rfl
     ·simp[Array.getD,ah]
     ·have:=Ag
      simp only[Array.getD,ah]at this;simpa using this
   have bA:b<w.heap.size:=(Array.getElem?_eq_some_iff.1 aV).1
   have fin:Calls P (cG.f 169) #[.pointer (some ⟨b,0,none⟩)] w fun e w'=>e= .returned (.string ⟨#[]⟩)∧(w'=w.drew∨∃o,w'=w.drew.alloc o):=by
    rcases dF.2 with⟨⟨c,av,tW⟩,_⟩|⟨g,cap,cur,av,ak,_⟩
    ·cases c with
     |none=>exact Calls.mono (RV L X b (arr.getD 0 undef) w (by rw[aV,←av,←q7])) fun e w' ⟨he,hw⟩=>⟨he,.inl hw⟩
     |some cP=>
      obtain⟨q,cH,aJ,RX⟩:=zb4 L cP w.drew (tW cP rfl);refine Calls.mono (zb3 L X b cP q (arr.getD 0 undef) w cH (by rw[aV,←av,←q7]) ?_ aJ) fun e w' ⟨he,hw⟩=>⟨he,by rw[hw];exact RX⟩
      rcases RX with rfl|⟨o,rfl⟩
      ·rfl
      ·exact Lib.alloc_old w.drew _ b bA
    ·exact Calls.mono (zb2 L X b g cap (arr.getD 0 undef) w (Nat.ne_of_gt ak) (by rw[aV,←(show β rid= .slice (some ⟨g,0,none⟩) 0 cap from av),←q7])) fun e w' ⟨he,hw⟩=>⟨he,.inl hw⟩
   rw[tL];refine Calls.mono fin fun e w' ⟨he,hw⟩=>?_
   have hold: ∀k,k<w.heap.size→w'.heap[k]? =w.heap[k]? :=fun k aj=>by
    rcases hw with rfl|⟨o,rfl⟩
    ·rfl
    ·exact Lib.alloc_old w.drew _ k aj
   have bJ:w.heap.size≤w'.heap.size:=by
    rcases hw with rfl|⟨o,rfl⟩
    ·exact Nat.le_refl _
    ·show w.heap.size≤(w.heap.push _).size
     rw[Array.size_push];exact Nat.le_succ _
   have mr:w'.os=w.os∧w'.tape=w.drew.tape∧w'.output=w.output:=by
    rcases hw with rfl|⟨o,rfl⟩<;>exact⟨rfl,rfl,rfl⟩
   have sub: ∀k o,aE (fP σ rid) k=some o→aE σ k=some o:=by
    intro k o aj;rw[Bv]at aj
    split at aj
    ·cases aj
    ·exact aj
   refine⟨_,_,fP σ rid,β,ro,n,he,⟨rfl,rfl⟩,.fK rfl,aq.drop af (fun k aj _=>hold k aj) bJ,⟨mr.1,mr.2.1,mr.2.2,bJ,fun k aj _=>hold k aj,fun _ h=>.inl h,fun _ h=>h,fun k ⟨j,o,ai,ao,ad⟩=>.inl ⟨j,o,sub _ _ ai,ao,ad⟩,fun k aj o ag=>⟨by rw[sub _ _ ag];simp,rfl⟩,fun k o ag=>bD k o (sub _ _ ag),Nat.le_refl _⟩⟩
theorem Vr(L:Lays.n169 P cG)(X:Builder.Extra P cG){G:aY}{id:Nat}{x0:aD}{l:List Int}(hid:aE σ id=some (.box (cG.t 72) [x0,.aN rid]))(af:aE σ rid=some (.row false (cG.t 5) 1 (l.map fun z=>[.v (.int .u8 z)]))):
 dI P G (cG.f 169) [.ptr id 0] σ n fun r bO=>r= .au (.v (.string (bytesOf l)))∧bO=fP σ rid:=by
 cases l with
 |nil=>exact zca L X hid af
 |cons z l=>exact zb7 L X (by simp) hid af
end
end Go.aL
