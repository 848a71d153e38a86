/- TE, part F: strings.Builder.String, with the exact world at its end (lines of the shelf's walk, turned). Conditions: a program that bears the function. -/
import Derived.Shelf.Strings.Builder1
import Derived.Test.YtmkpmgfieagphaaDoorKTEk
namespace Go.aG
open Go Go.Proofs Go.Shelf Go.RowKit
variable {P:Program} {cq:Ren}
theorem Nu(w:World): ∀(l:List Int) (a:Addr) (acc:ByteArray),(∀j x,l[j]? =some x→w.cell? (a.add j)=some (.int .u8 x))→
 (loadBytes a acc l.length).run P w= .ok (l.foldl (fun r n=>r.push (UInt8.ofNat n.toNat)) acc) w
 |[],a,acc,_=>by simp[loadBytes]
 |x::l,a,acc,h=>by
  have aP:w.cell? a=some (.int .u8 x):=by
   have:=h 0 x rfl
   simpa[Addr.add]using this
  have aO:=Nu w l (a.add 1) (acc.push (UInt8.ofNat x.toNat)) (fun j y ax=>by
   have:=h (j+1) y (by simpa using ax)
   have e:(a.add 1).add j=a.add (j+1):=by
    unfold Addr.add
    by_cases ai:j=0
    ·subst ai;simp
    ·simp[ai];omega
   rw[e];exact this)
  simp only[List.length_cons,loadBytes,Sem.run_bind,run_load,aP,Result.andThen];exact aO
theorem Wy(w:World)(Bs it ty e:TypeId)(ak:P.underlying Bs=some (.pointer e))(hc:P.cellsOf e=1)(g cells:Nat)(DZ:w.shape? g=some (e,cells))(l:List Int)(aP:l≠[])(hn:l.length≤cells)(qe:l.length≤9223372036854775807)
 (j5: ∀j x,l[j]? =some x→w.cell? ((⟨g,0,none⟩:Addr).add j)=some (.int .u8 x)):
 (Builtin.unsafeString_ #[Bs,it] ty #[.pointer (some ⟨g,0,none⟩),.int .i64 l.length]).run P w= .ok (.string (bytesOf l)) (w.freeze ⟨g,0,none⟩ l.length):=by
 have an:l.length≠0:=by simpa using aP
 have Gd:=Nu (P:=P) w l ⟨g,0,none⟩ .empty j5
 have Wz:=Lib.liesAt_bytes (P:=P) hc (cells/ P.cellsOf e) l.length (by rw[hc];simpa using hn)
 have WA: ¬(9223372036854775807:Int)<(l.length:Int):=by omega
 have Hc:Builtin.unsafeString_ #[Bs,it] ty #[.pointer (some ⟨g,0,none⟩),.int .i64 l.length]=
  (do
   let n ←asInt (.int .i64 l.length)
   if n<0 then runtimePanic (.error "unsafe.String: len out of range")
   if n>IntKind.i64.max then unsupported (.unsafePointer "String: a length above the largest int")
   if n=0 then pure (.string .empty)
   else if ←variablesAt ⟨g,0,none⟩ (←elemOf Bs) n.toNat then do
    let s ←loadBytes ⟨g,0,none⟩ .empty n.toNat
    freeze ⟨g,0,none⟩ n.toNat
    pure (.string s)
   else unsupported (.unsafePointer "String: not so many bytes at ptr")):=rfl
 rw[Hc]
 have WB:IntKind.i64.max=9223372036854775807:=rfl
 have WC: ¬(l.length:Int)<0:=by omega
 simp[asInt,asIntOf,WB,WA,WC,an,variablesAt,DZ,elemOf,run_underlying ak,Wz,Gd,bytesOf]
set_option maxHeartbeats 2000000 in
set_option maxRecDepth 100000 in
theorem WD(L:Lays.n169 P cq)(X:Builder.Extra P cq)(b g cap:Nat)(p:Value)(cur:Array Value)(l:List Int)(w:World)(aP:l≠[])(a1:w.heap[b]? =some (.cells #[p,.slice (some ⟨g,0,none⟩) l.length cap] (cq.t 72) (0,0)))
 (ag:w.heap[g]? =some (.cells cur (cq.t 5) (0,0)))(Li:l.length≤cap)(h4:cap≤maxLen)(ff:cur.size=cap*1)(j5: ∀j x,l[j]? =some x→w.cell? ((⟨g,0,none⟩:Addr).add j)=some (.int .u8 x)):
 Calls P (cq.f 169) #[.pointer (some ⟨b,0,none⟩)] w fun e w'=>e= .returned (.string (bytesOf l))∧w'=w.drew.freeze ⟨g,0,none⟩ l.length:=by
 have zc:l.length≠0:=by simpa using aP
 have aF:w.drew.cell? ⟨b,1,none⟩=some (.slice (some ⟨g,0,none⟩) l.length cap):=by
  have:w.drew.heap[b]? =some (.cells #[p,.slice (some ⟨g,0,none⟩) l.length cap] (cq.t 72) (0,0)):=a1
  rw[Lib.cell_of_heap this];rfl
 have Hd:(Builtin.unsafeSliceData_ #[(cq.t 37)] (cq.t 127) #[.slice (some ⟨g,0,none⟩) l.length cap]).run P w.drew= .ok (.pointer (some ⟨g,0,none⟩)) w.drew:=
  Lib.run_unsafeSliceData_row _ _ _ _ _ _ (by omega)
 have He:(Builtin.unsafeString_ #[(cq.t 127),(cq.t 3)] (cq.t 9) #[.pointer (some ⟨g,0,none⟩),.int .i64 l.length]).run P w.drew= .ok (.string (bytesOf l)) (w.drew.freeze ⟨g,0,none⟩ l.length):=by
  refine Wy w.drew (cq.t 127) (cq.t 3) (cq.t 9) (cq.t 5) L.t127 X.cellsByte g cur.size (by have dr:w.drew.heap[g]? =some (.cells cur (cq.t 5) (0,0)):=ag;simp[World.shape?,dr]) l aP (by omega) (by unfold maxLen at h4;omega) ?_
  intro j x hx;exact j5 j x hx
 have mixed:=L.mixed
 have t72:=L.t72;have a72:=L.a72;have z72:=L.z72;have v72:=L.v72;have Hf:=run_underlying L.t72
 have t70:=L.t70;have a70:=L.a70;have z70:=L.z70;have v70:=L.v70;have Hg:=run_underlying L.t70
 have t37:=L.t37;have a37:=L.a37;have z37:=L.z37;have v37:=L.v37;have Hh:=run_underlying L.t37
 have t127:=L.t127;have a127:=L.a127;have z127:=L.z127;have v127:=L.v127;have Hi:=run_underlying L.t127
 have t3:=L.t3;have a3:=L.a3;have z3:=L.z3;have v3:=L.v3;have Hj:=run_underlying L.t3
 have t9:=L.t9;have a9:=L.a9;have z9:=L.z9;have v9:=L.v9;have Hk:=run_underlying L.t9
 have t5:=X.t5;have a5:=X.a5;have z5:=X.z5;have v5:=X.v5;have Hl:=run_underlying X.t5
 go_enter L.f169,Body.n169_ntmps cq
 go_wp2
 go_region_o
 all_goals (go_wp2;go_ret;exact⟨rfl,rfl⟩)
set_option maxHeartbeats 2000000 in
set_option maxRecDepth 100000 in
theorem Nv(L:Lays.n169 P cq)(X:Builder.Extra P cq)(b:Nat)(p:Value)(w:World)(a1:w.heap[b]? =some (.cells #[p,.slice none 0 0] (cq.t 72) (0,0))):
 Calls P (cq.f 169) #[.pointer (some ⟨b,0,none⟩)] w fun e w'=>e= .returned (.string ⟨#[]⟩)∧w'=w.drew:=by
 have He:=Any.unsafeString_none L X
 have aF:w.drew.cell? ⟨b,1,none⟩=some (.slice none 0 0):=by
  have:w.drew.heap[b]? =some (.cells #[p,.slice none 0 0] (cq.t 72) (0,0)):=a1
  rw[Lib.cell_of_heap this];rfl
 have Hd:(Builtin.unsafeSliceData_ #[(cq.t 37)] (cq.t 127) #[.slice none 0 0]).run P w.drew= .ok (.pointer none) w.drew:=rfl
 have mixed:=L.mixed
 have t72:=L.t72;have a72:=L.a72;have z72:=L.z72;have v72:=L.v72;have Hf:=run_underlying L.t72
 have t70:=L.t70;have a70:=L.a70;have z70:=L.z70;have v70:=L.v70;have Hg:=run_underlying L.t70
 have t37:=L.t37;have a37:=L.a37;have z37:=L.z37;have v37:=L.v37;have Hh:=run_underlying L.t37
 have t127:=L.t127;have a127:=L.a127;have z127:=L.z127;have v127:=L.v127;have Hi:=run_underlying L.t127
 have t3:=L.t3;have a3:=L.a3;have z3:=L.z3;have v3:=L.v3;have Hj:=run_underlying L.t3
 have t9:=L.t9;have a9:=L.a9;have z9:=L.z9;have v9:=L.v9;have Hk:=run_underlying L.t9
 have t5:=X.t5;have a5:=X.a5;have z5:=X.z5;have v5:=X.v5;have Hl:=run_underlying X.t5
 go_enter L.f169,Body.n169_ntmps cq
 go_wp2
 go_region_o
 all_goals (go_wp2;go_ret;exact⟨rfl,rfl⟩)
set_option maxHeartbeats 2000000 in
set_option maxRecDepth 100000 in
theorem WE(L:Lays.n169 P cq)(X:Builder.Extra P cq)(b g cap:Nat)(p:Value)(w:World)(hr:cap≠0)(a1:w.heap[b]? =some (.cells #[p,.slice (some ⟨g,0,none⟩) 0 cap] (cq.t 72) (0,0))):
 Calls P (cq.f 169) #[.pointer (some ⟨b,0,none⟩)] w fun e w'=>e= .returned (.string ⟨#[]⟩)∧w'=w.drew:=by
 have He:=Any.unsafeString_none L X
 have aF:w.drew.cell? ⟨b,1,none⟩=some (.slice (some ⟨g,0,none⟩) 0 cap):=by
  have:w.drew.heap[b]? =some (.cells #[p,.slice (some ⟨g,0,none⟩) 0 cap] (cq.t 72) (0,0)):=a1
  rw[Lib.cell_of_heap this];rfl
 have Hd:(Builtin.unsafeSliceData_ #[(cq.t 37)] (cq.t 127) #[.slice (some ⟨g,0,none⟩) 0 cap]).run P w.drew= .ok (.pointer (some ⟨g,0,none⟩)) w.drew:=
  Lib.run_unsafeSliceData_row _ _ _ _ _ _ hr
 clear hr
 have mixed:=L.mixed
 have t72:=L.t72;have a72:=L.a72;have z72:=L.z72;have v72:=L.v72;have Hf:=run_underlying L.t72
 have t70:=L.t70;have a70:=L.a70;have z70:=L.z70;have v70:=L.v70;have Hg:=run_underlying L.t70
 have t37:=L.t37;have a37:=L.a37;have z37:=L.z37;have v37:=L.v37;have Hh:=run_underlying L.t37
 have t127:=L.t127;have a127:=L.a127;have z127:=L.z127;have v127:=L.v127;have Hi:=run_underlying L.t127
 have t3:=L.t3;have a3:=L.a3;have z3:=L.z3;have v3:=L.v3;have Hj:=run_underlying L.t3
 have t9:=L.t9;have a9:=L.a9;have z9:=L.z9;have v9:=L.v9;have Hk:=run_underlying L.t9
 have t5:=X.t5;have a5:=X.a5;have z5:=X.z5;have v5:=X.v5;have Hl:=run_underlying X.t5
 go_enter L.f169,Body.n169_ntmps cq
 go_wp2
 go_region_o
 all_goals (go_wp2;go_ret;exact⟨rfl,rfl⟩)
set_option maxHeartbeats 2000000 in
set_option maxRecDepth 100000 in
theorem WG(L:Lays.n169 P cq)(X:Builder.Extra P cq)(b:Nat)(cz q:Addr)(p:Value)(w c0:World)(a1:w.heap[b]? =some (.cells #[p,.slice (some cz) 0 0] (cq.t 72) (0,0)))(od:c0.heap[b]? =w.heap[b]?)
 (Hd:(Builtin.unsafeSliceData_ #[(cq.t 37)] (cq.t 127) #[.slice (some cz) 0 0]).run P w.drew= .ok (.pointer (some q)) c0):
 Calls P (cq.f 169) #[.pointer (some ⟨b,0,none⟩)] w fun e w'=>e= .returned (.string ⟨#[]⟩)∧w'=c0:=by
 have He:=Any.unsafeString_none L X
 have aF:w.drew.cell? ⟨b,1,none⟩=some (.slice (some cz) 0 0):=by
  have:w.drew.heap[b]? =some (.cells #[p,.slice (some cz) 0 0] (cq.t 72) (0,0)):=a1
  rw[Lib.cell_of_heap this];rfl
 have ea:c0.cell? ⟨b,1,none⟩=some (.slice (some cz) 0 0):=by
  have:c0.heap[b]? =some (.cells #[p,.slice (some cz) 0 0] (cq.t 72) (0,0)):=od.trans a1
  rw[Lib.cell_of_heap this];rfl
 clear od
 have mixed:=L.mixed
 have t72:=L.t72;have a72:=L.a72;have z72:=L.z72;have v72:=L.v72;have Hf:=run_underlying L.t72
 have t70:=L.t70;have a70:=L.a70;have z70:=L.z70;have v70:=L.v70;have Hg:=run_underlying L.t70
 have t37:=L.t37;have a37:=L.a37;have z37:=L.z37;have v37:=L.v37;have Hh:=run_underlying L.t37
 have t127:=L.t127;have a127:=L.a127;have z127:=L.z127;have v127:=L.v127;have Hi:=run_underlying L.t127
 have t3:=L.t3;have a3:=L.a3;have z3:=L.z3;have v3:=L.v3;have Hj:=run_underlying L.t3
 have t9:=L.t9;have a9:=L.a9;have z9:=L.z9;have v9:=L.v9;have Hk:=run_underlying L.t9
 have t5:=X.t5;have a5:=X.a5;have z5:=X.z5;have v5:=X.v5;have Hl:=run_underlying X.t5
 go_enter L.f169,Body.n169_ntmps cq
 go_wp2
 go_region_o
 all_goals (go_wp2;go_ret;exact⟨rfl,rfl⟩)
theorem WH(L:Lays.n169 P cq)(cz:Addr)(w:World)(hex:cz.block<w.heap.size): ∃q c0,(Builtin.unsafeSliceData_ #[(cq.t 37)] (cq.t 127) #[.slice (some cz) 0 0]).run P w= .ok (.pointer (some q)) c0∧(c0=w∨∃o,c0=w.alloc o):=by
 obtain⟨o,ao⟩: ∃o,w.heap[cz.block]? =some o:=⟨_,Array.getElem?_eq_getElem hex⟩
 have he:(elemOf (cq.t 127)).run P w= .ok (cq.t 5) w:=by simp[elemOf,run_underlying L.t127]
 have Hc:Builtin.unsafeSliceData_ #[(cq.t 37)] (cq.t 127) #[.slice (some cz) 0 0]=
  (do
   if(0:Nat)≠0 then pure (.pointer (some cz))
   else if(←viewAt cz.block).isSome then pure (.pointer (some cz))
   else pure (.pointer (some ⟨←newObj (.view cz (←elemOf (cq.t 127))),0,none⟩))):=rfl
 rw[Hc]
 unfold viewAt
 cases ah:w.shape? cz.block with
 |some s=>exact⟨⟨w.heap.size,0,none⟩,w.alloc (.view cz (cq.t 5)),by simp[ah,he],.inr ⟨_,rfl⟩⟩
 |none=>
  cases o with
  |cells c e f=>simp[World.shape?,ao]at ah
  |view a t=>exact⟨cz,w,by simp[ah,getObj,Sem.run,ao],.inl rfl⟩
  |_=>exact⟨⟨w.heap.size,0,none⟩,w.alloc (.view cz (cq.t 5)),by simp[ah,getObj,Sem.run,ao,he],.inr ⟨_,rfl⟩⟩
section
variable {w w':World} {ro:Nat→Prop} {σ:bp} {β:Nat→Value} {n rid:Nat}
theorem gJ.drop(h:gJ w ro σ β n){t:TypeId}{m:Nat}{es:List (List ba)}(ae:aA σ rid=some (.row false t m es))(hw: ∀k,k<w.heap.size→b0 (β rid)≠some k→w'.heap[k]? =w.heap[k]?)(bA:w.heap.size≤w'.heap.size):
 gJ w' ro (fF σ rid) β n:=by
 have bZ: ∀b,ro b→w'.heap[b]? =w.heap[b]? :=fun b ad=>hw b (h.lt b ad) fun e=>h.fe b ad ⟨rid,_,ae,rfl,e⟩
 have sub: ∀k o,aA (fF σ rid) k=some o→aA σ k=some o∧k≠rid:=by
  intro k o aj;rw[y2]at aj
  split at aj
  ·cases aj
  ·rename_i bX
   exact⟨aj,fun e=>bX e.symm⟩
 have key: ∀x c,bk w ro σ β n x c→bk w' ro (fF σ rid) β n x c:=fun x c hx=>hx.keep bZ (fun _ h=>h) (Nat.le_refl _) (fun id t cs aj=>⟨rfl,t,cs,(sub _ _ aj).1⟩) (fun id z t n es aj=>⟨rfl,z,t,es,(sub _ _ aj).1⟩) (fun id br aj=>⟨rfl,br,(sub _ _ aj).1⟩)
 refine⟨fun k o aj=>?_,fun k bj o b6 b aj dZ=>h.inj k bj o b6 b (sub _ _ aj).1 (sub _ _ dZ).1,fun b ad ⟨k,o,aj,an,a1⟩=>h.fe b ad ⟨k,o,(sub _ _ aj).1,an,a1⟩,fun b ad=>Nat.lt_of_lt_of_le (h.lt b ad) bA⟩
 obtain⟨fB,bX⟩:=sub k o aj
 have fW:=h.cL k o fB
 have Hm:o.live=true→∀b,b0 (β k)=some b→w'.heap[b]? =w.heap[b]? :=fun an b ad=>hw b (fW.gI an ad) fun e=>bX (h.inj k rid o _ b fB ae an rfl ad e)
 cases fW with
 |box t cs b arr aa af ar aQ=>exact .box t cs b arr aa ((Hm rfl b (by rw[aa];rfl)).trans af) ar fun j x ai=>key _ _ (aQ j x ai)
 |row t n es xs aa af ar=>exact .row t n es xs (aa.keep (fun b ad=>Hm rfl b ad) bA) af fun j x ai=>(ar j x ai).keep bZ fun _ h=>h
 |fG t n es aa=>exact .fG t n es (aa.keep bZ fun _ h=>h)
 |bO br b o aa af ar=>exact .bO br b o aa ((Hm rfl b aa).trans af) (br.mono _ _ _ _ (fun x c h=>h.keep bZ fun _ h=>h) ar)
theorem WI(w:World)(g m k:Nat)(aj:k≠g):(w.freeze ⟨g,0,none⟩ m).heap[k]? =w.heap[k]? :=by
 unfold World.freeze
 split
 ·rfl
 ·simp only[Array.getElem?_modify]
  rw[if_neg (fun e=>aj e.symm)]
theorem WJ(w:World)(a:Addr)(m:Nat):(w.freeze a m).os=w.os∧(w.freeze a m).tape=w.tape∧(w.freeze a m).output=w.output∧(w.freeze a m).heap.size=w.heap.size:=by
 unfold World.freeze
 split
 ·exact⟨rfl,rfl,rfl,rfl⟩
 ·exact⟨rfl,rfl,rfl,by simp⟩
theorem WK(L:Lays.n169 P cq)(X:Builder.Extra P cq){G:aY}{id:Nat}{x0:az}{l:List Int}(aP:l≠[])(hid:aA σ id=some (.box (cq.t 72) [x0,.aL rid]))(ae:aA σ rid=some (.row false (cq.t 5) 1 (l.map fun z=>[.v (.int .u8 z)]))):
 dn P G (cq.f 169) [.ptr id 0] σ n fun r bE=>r= .au (.v (.string (bytesOf l)))∧bE=fF σ rid:=by
 intro w β ro ek aa af ar aQ bx
 have c7:=ar.cL id _ hid
 have fk:=ar.cL rid _ ae
 cases c7 with
 |box _ _ b arr aC a6 ck eT=>
  cases fk with
  |row _ _ _ xs dk bX e0=>
   have hr:ek.getD 0 undef= .pointer (some ⟨b,0,none⟩):=by
    have:=af 0 _ rfl
    generalize ek.getD 0 undef=cG at this⊢
    cases this with
    |ptr _ _ _ an kj=>
     obtain⟨b',dx,dG⟩:=kj _ _ hid;rw[aC]at dx
     cases dx
     exact dG
   have rG:ek= #[.pointer (some ⟨b,0,none⟩)]:=by
    have ah:ek.size=1:=aa
    apply Array.ext
    ·simpa using ah
    ·intro i s7 h1
     have:i=0:=by omega
     subst this;simpa[Array.getD,ah]using hr
   have xY:arr.getD 1 undef=β rid:=by
    have:=eT 1 _ rfl
    generalize arr.getD 1 undef=cG at this⊢
    cases this with
    |aL _ _ _ ak=>exact ak _ _ _ _ ae
   have py:arr= #[arr.getD 0 undef,β rid]:=by
    have ah:arr.size=2:=ck
    apply Array.ext
    ·simpa using ah
    ·intro i s7 h1
     have hi:i=0∨i=1:=by omega
     rcases hi with rfl|rfl
     ·simp[Array.getD,ah]
     ·have:=xY
      simp only[Array.getD,ah]at this;simpa using this
   have hlen:(l.map fun z=>[ba.v (.int .u8 z)]).length=l.length:=List.length_map ..
   rcases dk.2 with⟨_,bl⟩|⟨g,cap,cur,av,ak,ag,hle,h4,ff,kv⟩
   ·rw[hlen]at bl
    exact absurd (List.eq_nil_of_length_eq_zero bl) aP
   ·rw[hlen]at av hle kv
    have WL:b0 (β rid)=some g:=by rw[av];simp[b0,Nat.ne_of_gt ak]
    rw[rG];refine Calls.mono (WD L X b g cap (arr.getD 0 undef) cur l w aP (by rw[a6,←av,←py]) ag hle h4 ff fun j x hx=>?_) fun e w' ⟨he,hw⟩=>?_
    ·have ai:=(List.getElem?_eq_some_iff.1 hx).1
     have hc:=e0 j (.v (.int .u8 x)) (by rw[Eh,List.getElem?_map,hx];rfl)
     have WM:xs.getD j undef= .int .u8 x:=by
      generalize xs.getD j undef=cG at hc⊢
      cases hc with
      |v=>rfl
     have Bt:xs[j]? =some (.int .u8 x):=by
      have iD:j<xs.length:=by rw[dk.1,hlen];omega
      rw[←WM];simp[List.getD,List.getElem?_eq_getElem iD]
     rw[addLit,Nat.zero_add,cell_of_row w g j cur (cq.t 5) (0,0) ag];rw[←kv,List.getElem?_take]at Bt
     split at Bt
     ·simpa using Bt
     ·cases Bt
    ·subst hw
     obtain⟨f1,f2,f3,f4⟩:=WJ w.drew ⟨g,0,none⟩ l.length
     have mb: ∀k,k<w.heap.size→b0 (β rid)≠some k→(w.drew.freeze ⟨g,0,none⟩ l.length).heap[k]? =w.heap[k]? :=fun k _ aj=>WI w.drew g l.length k fun e=>aj (by rw[WL,e])
     have bA:w.heap.size≤(w.drew.freeze ⟨g,0,none⟩ l.length).heap.size:=Nat.le_of_eq f4.symm
     have sub: ∀k o,aA (fF σ rid) k=some o→aA σ k=some o:=by
      intro k o aj;rw[y2]at aj
      split at aj
      ·cases aj
      ·exact aj
     refine⟨_,_,fF σ rid,β,ro,n,he,⟨rfl,rfl⟩,.fw rfl,ar.drop ae mb bA,⟨f1,f2,f3,bA,fun k aj ao=>mb k aj fun e=>ao ⟨rid,_,ae,rfl,e⟩,fun _ h=>.inl h,fun _ h=>h,fun k ⟨j,o,ai,an,ad⟩=>.inl ⟨j,o,sub _ _ ai,an,ad⟩,fun k aj o ag=>⟨by rw[sub _ _ ag];simp,rfl⟩,fun k o ag=>bx k o (sub _ _ ag),Nat.le_refl _⟩⟩
theorem gJ.same(h:gJ w ro σ β n)(he:w'.heap=w.heap):gJ w' ro σ β n:=by
 have bZ: ∀b,ro b→w'.heap[b]? =w.heap[b]? :=fun b _=>by rw[he]
 have key: ∀x c,bk w ro σ β n x c→bk w' ro σ β n x c:=fun x c hx=>hx.keep bZ (fun _ h=>h) (Nat.le_refl _) (fun id t cs aj=>⟨rfl,t,cs,aj⟩) (fun id z t n es aj=>⟨rfl,z,t,es,aj⟩) (fun id br aj=>⟨rfl,br,aj⟩)
 refine⟨fun k o aj=>?_,h.inj,h.fe,fun b ad=>by rw[he];exact h.lt b ad⟩
 have fW:=h.cL k o aj
 cases fW with
 |box t cs b arr aa af ar aQ=>exact .box t cs b arr aa (by rw[he];exact af) ar fun j x ai=>key _ _ (aQ j x ai)
 |row t n es xs aa af ar=>exact .row t n es xs (aa.keep (fun b ad=>by rw[he]) (Nat.le_of_eq (by rw[he]))) af fun j x ai=>(ar j x ai).keep bZ fun _ h=>h
 |fG t n es aa=>exact .fG t n es (aa.keep bZ fun _ h=>h)
 |bO br b o aa af ar=>exact .bO br b o aa (by rw[he];exact af) (br.mono _ _ _ _ (fun x c h=>h.keep bZ fun _ h=>h) ar)
theorem Trans.drew(hx: ∀id o,aA σ id=some o→id<n):Trans ⟨w,ro,σ,β,n⟩ w.drew ro σ β n:=
 ⟨rfl,rfl,rfl,Nat.le_refl _,fun _ _ _=>rfl,fun _ h=>.inl h,fun _ h=>h,fun _ h=>.inl h,fun k _ o ag=>⟨by rw[ag];simp,rfl⟩,hx,Nat.le_refl _⟩
theorem QT(L:Lays.n169 P cq)(X:Builder.Extra P cq){G:aY}{id:Nat}{x0:az}(hid:aA σ id=some (.box (cq.t 72) [x0,.au (.v (.slice none 0 0))])):
 dn P G (cq.f 169) [.ptr id 0] σ n fun r bE=>r= .au (.v (.string ⟨#[]⟩))∧bE=σ:=by
 intro w β ro ek aa af ar aQ bx
 have c7:=ar.cL id _ hid
 cases c7 with
 |box _ _ b arr aC a6 ck eT=>
  have hr:ek.getD 0 undef= .pointer (some ⟨b,0,none⟩):=by
   have:=af 0 _ rfl
   generalize ek.getD 0 undef=cG at this⊢
   cases this with
   |ptr _ _ _ an kj=>
    obtain⟨b',dx,dG⟩:=kj _ _ hid;rw[aC]at dx
    cases dx
    exact dG
  have rG:ek= #[.pointer (some ⟨b,0,none⟩)]:=by
   have ah:ek.size=1:=aa
   apply Array.ext
   ·simpa using ah
   ·intro i s7 h1
    have:i=0:=by omega
    subst this;simpa[Array.getD,ah]using hr
  have xY:arr.getD 1 undef= .slice none 0 0:=bk.val (eT 1 _ rfl)
  have py:arr= #[arr.getD 0 undef,.slice none 0 0]:=by
   have ah:arr.size=2:=ck
   apply Array.ext
   ·simpa using ah
   ·intro i s7 h1
    have hi:i=0∨i=1:=by omega
    rcases hi with rfl|rfl
    ·simp[Array.getD,ah]
    ·have:=xY
     simp only[Array.getD,ah]at this;simpa using this
  rw[rG];refine Calls.mono (Nv L X b (arr.getD 0 undef) w (by rw[a6,←py])) fun e w' ⟨he,hw⟩=>?_
  subst hw;exact⟨_,_,σ,β,ro,n,he,⟨rfl,rfl⟩,.fw rfl,ar.same rfl,Trans.drew bx⟩
theorem WN(L:Lays.n169 P cq)(X:Builder.Extra P cq){G:aY}{id:Nat}{x0:az}(hid:aA σ id=some (.box (cq.t 72) [x0,.aL rid]))(ae:aA σ rid=some (.row false (cq.t 5) 1 [])):
 dn P G (cq.f 169) [.ptr id 0] σ n fun r bE=>r= .au (.v (.string ⟨#[]⟩))∧bE=fF σ rid:=by
 intro w β ro ek aa af ar aQ bx
 have c7:=ar.cL id _ hid
 have fk:=ar.cL rid _ ae
 cases c7 with
 |box _ _ b arr aC a6 ck eT=>
  cases fk with
  |row _ _ _ xs dk bX e0=>
   have hr:ek.getD 0 undef= .pointer (some ⟨b,0,none⟩):=by
    have:=af 0 _ rfl
    generalize ek.getD 0 undef=cG at this⊢
    cases this with
    |ptr _ _ _ an kj=>
     obtain⟨b',dx,dG⟩:=kj _ _ hid;rw[aC]at dx
     cases dx
     exact dG
   have rG:ek= #[.pointer (some ⟨b,0,none⟩)]:=by
    have ah:ek.size=1:=aa
    apply Array.ext
    ·simpa using ah
    ·intro i s7 h1
     have:i=0:=by omega
     subst this;simpa[Array.getD,ah]using hr
   have xY:arr.getD 1 undef=β rid:=by
    have:=eT 1 _ rfl
    generalize arr.getD 1 undef=cG at this⊢
    cases this with
    |aL _ _ _ ak=>exact ak _ _ _ _ ae
   have py:arr= #[arr.getD 0 undef,β rid]:=by
    have ah:arr.size=2:=ck
    apply Array.ext
    ·simpa using ah
    ·intro i s7 h1
     have hi:i=0∨i=1:=by omega
     rcases hi with rfl|rfl
     ·simp[Array.getD,ah]
     ·have:=xY
      simp only[Array.getD,ah]at this;simpa using this
   have bz:b<w.heap.size:=(Array.getElem?_eq_some_iff.1 a6).1
   have fin:Calls P (cq.f 169) #[.pointer (some ⟨b,0,none⟩)] w fun e w'=>e= .returned (.string ⟨#[]⟩)∧(w'=w.drew∨∃o,w'=w.drew.alloc o):=by
    rcases dk.2 with⟨⟨c,av,rQ⟩,_⟩|⟨g,cap,cur,av,ak,_⟩
    ·cases c with
     |none=>exact Calls.mono (Nv L X b (arr.getD 0 undef) w (by rw[a6,←av,←py])) fun e w' ⟨he,hw⟩=>⟨he,.inl hw⟩
     |some cz=>
      obtain⟨q,c0,aH,Nw⟩:=WH L cz w.drew (rQ cz rfl);refine Calls.mono (WG L X b cz q (arr.getD 0 undef) w c0 (by rw[a6,←av,←py]) ?_ aH) fun e w' ⟨he,hw⟩=>⟨he,by rw[hw];exact Nw⟩
      rcases Nw with rfl|⟨o,rfl⟩
      ·rfl
      ·exact Lib.alloc_old w.drew _ b bz
    ·exact Calls.mono (WE L X b g cap (arr.getD 0 undef) w (Nat.ne_of_gt ak) (by rw[a6,←(show β rid= .slice (some ⟨g,0,none⟩) 0 cap from av),←py])) fun e w' ⟨he,hw⟩=>⟨he,.inl hw⟩
   rw[rG];refine Calls.mono fin fun e w' ⟨he,hw⟩=>?_
   have hold: ∀k,k<w.heap.size→w'.heap[k]? =w.heap[k]? :=fun k aj=>by
    rcases hw with rfl|⟨o,rfl⟩
    ·rfl
    ·exact Lib.alloc_old w.drew _ k aj
   have bA:w.heap.size≤w'.heap.size:=by
    rcases hw with rfl|⟨o,rfl⟩
    ·exact Nat.le_refl _
    ·show w.heap.size≤(w.heap.push _).size
     rw[Array.size_push];exact Nat.le_succ _
   have mX:w'.os=w.os∧w'.tape=w.drew.tape∧w'.output=w.output:=by
    rcases hw with rfl|⟨o,rfl⟩<;>exact⟨rfl,rfl,rfl⟩
   have sub: ∀k o,aA (fF σ rid) k=some o→aA σ k=some o:=by
    intro k o aj;rw[y2]at aj
    split at aj
    ·cases aj
    ·exact aj
   refine⟨_,_,fF σ rid,β,ro,n,he,⟨rfl,rfl⟩,.fw rfl,ar.drop ae (fun k aj _=>hold k aj) bA,⟨mX.1,mX.2.1,mX.2.2,bA,fun k aj _=>hold k aj,fun _ h=>.inl h,fun _ h=>h,fun k ⟨j,o,ai,an,ad⟩=>.inl ⟨j,o,sub _ _ ai,an,ad⟩,fun k aj o ag=>⟨by rw[sub _ _ ag];simp,rfl⟩,fun k o ag=>bx k o (sub _ _ ag),Nat.le_refl _⟩⟩
theorem QS(L:Lays.n169 P cq)(X:Builder.Extra P cq){G:aY}{id:Nat}{x0:az}{l:List Int}(hid:aA σ id=some (.box (cq.t 72) [x0,.aL rid]))(ae:aA σ rid=some (.row false (cq.t 5) 1 (l.map fun z=>[.v (.int .u8 z)]))):
 dn P G (cq.f 169) [.ptr id 0] σ n fun r bE=>r= .au (.v (.string (bytesOf l)))∧bE=fF σ rid:=by
 cases l with
 |nil=>exact WN L X hid ae
 |cons z l=>exact WK L X (by simp) hid ae
end
end Go.aG
