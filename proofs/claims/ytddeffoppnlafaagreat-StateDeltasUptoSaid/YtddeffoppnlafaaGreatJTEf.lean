/- Conditions: none. -/
import Derived.Shelf.Strings.Builder1
import Derived.Test.YtddeffoppnlafaaGreatJTEv
open Array renaming ext->zV1,getD->zV2
open Nat renaming le_of_eq->zVe,le_refl->zZv,ne_of_gt->zXu
namespace Go.aH
open Go Go.Proofs Go.Shelf Go.RowKit
variable {P:Program} {ρ:Ren}
theorem zaE(w:World): ∀(l:List Int) (a:Addr) (acc:ByteArray),(∀j x,l[j]? =some x->w.cell? (a.add j)=some (.int .u8 x))->
 (loadBytes a acc l.length).run P w= .ok (l.foldl (λr n=>r.push (UInt8.ofNat n.toNat)) acc) w
 |[],a,acc,_=>by simp[loadBytes]|x::l,a,acc,h=>by
  have aP:w.cell? a=some (.int .u8 x):=by
   have:=h 0 x rfl;simpa[Addr.add]using this
  have bb:=zaE w l (a.add 1) (acc.push (UInt8.ofNat x.toNat)) (λj y aA=>by
   have:=h (j+1) y (by simpa using aA)
   have e:(a.add 1).add j=a.add (j+1):=by
    unfold Addr.add
    by_cases aj:j=0
    ·subst aj;simp
    ·simp[aj];omega
   rw[e];exact this)
  simp only[List.length_cons,loadBytes,Sem.run_bind,run_load,aP,Result.andThen];exact bb
theorem zlr(w:World)(K9 it ty e:TypeId)(ar:P.underlying K9=some (.pointer e))(hc:P.cellsOf e=1)(g cells:Nat)(CN:w.shape? g=some (e,cells))(l:List Int)(aP:l≠[])(hn:l.length<=cells)(xc:l.length<=9223372036854775807)
 (kF: ∀j x,l[j]? =some x->w.cell? ((⟨g,0,none⟩:Addr).add j)=some (.int .u8 x)):
 (Builtin.unsafeString_ #[K9,it] ty #[.pointer (some ⟨g,0,none⟩),.int .i64 l.length]).run P w= .ok (.string (bytesOf l)) (w.freeze ⟨g,0,none⟩ l.length):=by
 have au:l.length≠0:=by simpa using aP
 have QF:=zaE (P:=P) w l ⟨g,0,none⟩ .empty kF;have zls:=Lib.liesAt_bytes (P:=P) hc (cells/ P.cellsOf e) l.length (by rw[hc];simpa using hn)
 have zlt: ¬(9223372036854775807:Int)<(l.length:Int):=by omega
 have Ry:Builtin.unsafeString_ #[K9,it] ty #[.pointer (some ⟨g,0,none⟩),.int .i64 l.length]=
  (do
   let n <-asInt (.int .i64 l.length)
   if n<0 then runtimePanic (.error "unsafe.String: len out of range")
   if n>IntKind.i64.max then unsupported (.unsafePointer "String: a length above the largest int")
   if n=0 then pure (.string .empty)
   else if <-variablesAt ⟨g,0,none⟩ (<-elemOf K9) n.toNat then do
    let s <-loadBytes ⟨g,0,none⟩ .empty n.toNat
    freeze ⟨g,0,none⟩ n.toNat
    pure (.string s)
   else unsupported (.unsafePointer "String: not so many bytes at ptr")):=rfl
 rw[Ry];have zlu:IntKind.i64.max=9223372036854775807:=rfl;have zlv: ¬(l.length:Int)<0:=by omega
 simp[asInt,asIntOf,zlu,zlt,zlv,au,variablesAt,CN,elemOf,run_underlying ar,zls,QF,bytesOf]
set_option maxHeartbeats 2000000 in
set_option maxRecDepth 100000 in
theorem zlw(L:Lays.n169 P ρ)(X:Builder.Extra P ρ)(b g cap:Nat)(p:Value)(cur:Array Value)(l:List Int)(w:World)(aP:l≠[])(bp:w.heap[b]? =some (.cells #[p,.slice (some ⟨g,0,none⟩) l.length cap] (ρ.t 72) (0,0)))
 (ai:w.heap[g]? =some (.cells cur (ρ.t 5) (0,0)))(Yh:l.length<=cap)(kE:cap<=maxLen)(fH:cur.size=cap*1)(kF: ∀j x,l[j]? =some x->w.cell? ((⟨g,0,none⟩:Addr).add j)=some (.int .u8 x)):
 Calls P (ρ.f 169) #[.pointer (some ⟨b,0,none⟩)] w λe w'=>e= .returned (.string (bytesOf l))/\w'=w.drew.freeze ⟨g,0,none⟩ l.length:=by
 have Jb:l.length≠0:=by simpa using aP
 have aO:w.drew.cell? ⟨b,1,none⟩=some (.slice (some ⟨g,0,none⟩) l.length cap):=by
  have:w.drew.heap[b]? =some (.cells #[p,.slice (some ⟨g,0,none⟩) l.length cap] (ρ.t 72) (0,0)):=bp;rw[Lib.cell_of_heap this];rfl
 have Rz:(Builtin.unsafeSliceData_ #[(ρ.t 37)] (ρ.t 127) #[.slice (some ⟨g,0,none⟩) l.length cap]).run P w.drew= .ok (.pointer (some ⟨g,0,none⟩)) w.drew:=
  Lib.run_unsafeSliceData_row _ _ _ _ _ _ (by omega)
 have RA:(Builtin.unsafeString_ #[(ρ.t 127),(ρ.t 3)] (ρ.t 9) #[.pointer (some ⟨g,0,none⟩),.int .i64 l.length]).run P w.drew= .ok (.string (bytesOf l)) (w.drew.freeze ⟨g,0,none⟩ l.length):=by
  refine zlr w.drew (ρ.t 127) (ρ.t 3) (ρ.t 9) (ρ.t 5) L.t127 X.cellsByte g cur.size (by have ee:w.drew.heap[g]? =some (.cells cur (ρ.t 5) (0,0)):=ai;simp[World.shape?,ee]) l aP (by omega) (by unfold maxLen at kE;omega) ?_
  intro j x hx;exact kF j x hx
 have mixed:=L.mixed;have t72:=L.t72;have a72:=L.a72;have z72:=L.z72;have v72:=L.v72;have RB:=run_underlying L.t72;have t70:=L.t70;have a70:=L.a70;have z70:=L.z70;have v70:=L.v70;have RD:=run_underlying L.t70;have t37:=L.t37;have a37:=L.a37;have z37:=L.z37;have v37:=L.v37;have RE:=run_underlying L.t37;have t127:=L.t127;have a127:=L.a127;have z127:=L.z127;have v127:=L.v127;have RF:=run_underlying L.t127;have t3:=L.t3;have a3:=L.a3;have z3:=L.z3;have v3:=L.v3;have y2:=run_underlying L.t3;have t9:=L.t9;have a9:=L.a9;have z9:=L.z9;have v9:=L.v9;have RG:=run_underlying L.t9;have t5:=X.t5;have a5:=X.a5;have z5:=X.z5;have v5:=X.v5;have y4:=run_underlying X.t5
 go_enter L.f169,Body.n169_ntmps ρ
 go_wp2
 go_region_o
 all_goals (go_wp2;go_ret;exact⟨rfl,rfl⟩)
set_option maxHeartbeats 2000000 in
set_option maxRecDepth 100000 in
theorem zaF(L:Lays.n169 P ρ)(X:Builder.Extra P ρ)(b:Nat)(p:Value)(w:World)(bp:w.heap[b]? =some (.cells #[p,.slice none 0 0] (ρ.t 72) (0,0))):
 Calls P (ρ.f 169) #[.pointer (some ⟨b,0,none⟩)] w λe w'=>e= .returned (.string ⟨#[]⟩)/\w'=w.drew:=by
 have RA:=Any.unsafeString_none L X
 have aO:w.drew.cell? ⟨b,1,none⟩=some (.slice none 0 0):=by
  have:w.drew.heap[b]? =some (.cells #[p,.slice none 0 0] (ρ.t 72) (0,0)):=bp;rw[Lib.cell_of_heap this];rfl
 have Rz:(Builtin.unsafeSliceData_ #[(ρ.t 37)] (ρ.t 127) #[.slice none 0 0]).run P w.drew= .ok (.pointer none) w.drew:=rfl;have mixed:=L.mixed;have t72:=L.t72;have a72:=L.a72;have z72:=L.z72;have v72:=L.v72;have RB:=run_underlying L.t72;have t70:=L.t70;have a70:=L.a70;have z70:=L.z70;have v70:=L.v70;have RD:=run_underlying L.t70;have t37:=L.t37;have a37:=L.a37;have z37:=L.z37;have v37:=L.v37;have RE:=run_underlying L.t37;have t127:=L.t127;have a127:=L.a127;have z127:=L.z127;have v127:=L.v127;have RF:=run_underlying L.t127;have t3:=L.t3;have a3:=L.a3;have z3:=L.z3;have v3:=L.v3;have y2:=run_underlying L.t3;have t9:=L.t9;have a9:=L.a9;have z9:=L.z9;have v9:=L.v9;have RG:=run_underlying L.t9;have t5:=X.t5;have a5:=X.a5;have z5:=X.z5;have v5:=X.v5;have y4:=run_underlying X.t5
 go_enter L.f169,Body.n169_ntmps ρ
 go_wp2
 go_region_o
 all_goals (go_wp2;go_ret;exact⟨rfl,rfl⟩)
set_option maxHeartbeats 2000000 in
set_option maxRecDepth 100000 in
theorem zlx(L:Lays.n169 P ρ)(X:Builder.Extra P ρ)(b g cap:Nat)(p:Value)(w:World)(iD:cap≠0)(bp:w.heap[b]? =some (.cells #[p,.slice (some ⟨g,0,none⟩) 0 cap] (ρ.t 72) (0,0))):
 Calls P (ρ.f 169) #[.pointer (some ⟨b,0,none⟩)] w λe w'=>e= .returned (.string ⟨#[]⟩)/\w'=w.drew:=by
 have RA:=Any.unsafeString_none L X
 have aO:w.drew.cell? ⟨b,1,none⟩=some (.slice (some ⟨g,0,none⟩) 0 cap):=by
  have:w.drew.heap[b]? =some (.cells #[p,.slice (some ⟨g,0,none⟩) 0 cap] (ρ.t 72) (0,0)):=bp;rw[Lib.cell_of_heap this];rfl
 have Rz:(Builtin.unsafeSliceData_ #[(ρ.t 37)] (ρ.t 127) #[.slice (some ⟨g,0,none⟩) 0 cap]).run P w.drew= .ok (.pointer (some ⟨g,0,none⟩)) w.drew:=
  Lib.run_unsafeSliceData_row _ _ _ _ _ _ iD
 clear iD;have mixed:=L.mixed;have t72:=L.t72;have a72:=L.a72;have z72:=L.z72;have v72:=L.v72;have RB:=run_underlying L.t72;have t70:=L.t70;have a70:=L.a70;have z70:=L.z70;have v70:=L.v70;have RD:=run_underlying L.t70;have t37:=L.t37;have a37:=L.a37;have z37:=L.z37;have v37:=L.v37;have RE:=run_underlying L.t37;have t127:=L.t127;have a127:=L.a127;have z127:=L.z127;have v127:=L.v127;have RF:=run_underlying L.t127;have t3:=L.t3;have a3:=L.a3;have z3:=L.z3;have v3:=L.v3;have y2:=run_underlying L.t3;have t9:=L.t9;have a9:=L.a9;have z9:=L.z9;have v9:=L.v9;have RG:=run_underlying L.t9;have t5:=X.t5;have a5:=X.a5;have z5:=X.z5;have v5:=X.v5;have y4:=run_underlying X.t5
 go_enter L.f169,Body.n169_ntmps ρ
 go_wp2
 go_region_o
 all_goals (go_wp2;go_ret;exact⟨rfl,rfl⟩)
set_option maxHeartbeats 2000000 in
set_option maxRecDepth 100000 in
theorem zly(L:Lays.n169 P ρ)(X:Builder.Extra P ρ)(b:Nat)(dj q:Addr)(p:Value)(w ec:World)(bp:w.heap[b]? =some (.cells #[p,.slice (some dj) 0 0] (ρ.t 72) (0,0)))(tS:ec.heap[b]? =w.heap[b]?)
 (Rz:(Builtin.unsafeSliceData_ #[(ρ.t 37)] (ρ.t 127) #[.slice (some dj) 0 0]).run P w.drew= .ok (.pointer (some q)) ec):
 Calls P (ρ.f 169) #[.pointer (some ⟨b,0,none⟩)] w λe w'=>e= .returned (.string ⟨#[]⟩)/\w'=ec:=by
 have RA:=Any.unsafeString_none L X
 have aO:w.drew.cell? ⟨b,1,none⟩=some (.slice (some dj) 0 0):=by
  have:w.drew.heap[b]? =some (.cells #[p,.slice (some dj) 0 0] (ρ.t 72) (0,0)):=bp;rw[Lib.cell_of_heap this];rfl
 have bz:ec.cell? ⟨b,1,none⟩=some (.slice (some dj) 0 0):=by
  have:ec.heap[b]? =some (.cells #[p,.slice (some dj) 0 0] (ρ.t 72) (0,0)):=tS.trans bp;rw[Lib.cell_of_heap this];rfl
 clear tS;have mixed:=L.mixed;have t72:=L.t72;have a72:=L.a72;have z72:=L.z72;have v72:=L.v72;have RB:=run_underlying L.t72;have t70:=L.t70;have a70:=L.a70;have z70:=L.z70;have v70:=L.v70;have RD:=run_underlying L.t70;have t37:=L.t37;have a37:=L.a37;have z37:=L.z37;have v37:=L.v37;have RE:=run_underlying L.t37;have t127:=L.t127;have a127:=L.a127;have z127:=L.z127;have v127:=L.v127;have RF:=run_underlying L.t127;have t3:=L.t3;have a3:=L.a3;have z3:=L.z3;have v3:=L.v3;have y2:=run_underlying L.t3;have t9:=L.t9;have a9:=L.a9;have z9:=L.z9;have v9:=L.v9;have RG:=run_underlying L.t9;have t5:=X.t5;have a5:=X.a5;have z5:=X.z5;have v5:=X.v5;have y4:=run_underlying X.t5
 go_enter L.f169,Body.n169_ntmps ρ
 go_wp2
 go_region_o
 all_goals (go_wp2;go_ret;exact⟨rfl,rfl⟩)
theorem zlz(L:Lays.n169 P ρ)(dj:Addr)(w:World)(hex:dj.block<w.heap.size): ∃q ec,(Builtin.unsafeSliceData_ #[(ρ.t 37)] (ρ.t 127) #[.slice (some dj) 0 0]).run P w= .ok (.pointer (some q)) ec/\(ec=w\/∃o,ec=w.alloc o):=by
 obtain⟨o,av⟩: ∃o,w.heap[dj.block]? =some o:=⟨_,Array.getElem?_eq_getElem hex⟩;have he:(elemOf (ρ.t 127)).run P w= .ok (ρ.t 5) w:=by simp[elemOf,run_underlying L.t127]
 have Ry:Builtin.unsafeSliceData_ #[(ρ.t 37)] (ρ.t 127) #[.slice (some dj) 0 0]=
  (do
   if(0:Nat)≠0 then pure (.pointer (some dj))
   else if(<-viewAt dj.block).isSome then pure (.pointer (some dj))
   else pure (.pointer (some ⟨<-newObj (.view dj (<-elemOf (ρ.t 127))),0,none⟩))):=rfl
 rw[Ry];unfold viewAt
 cases ao:w.shape? dj.block with
 |some s=>exact⟨⟨w.heap.size,0,none⟩,w.alloc (.view dj (ρ.t 5)),by simp[ao,he],.inr ⟨_,rfl⟩⟩|none=>
  cases o with
  |cells c e f=>simp[World.shape?,av]at ao|view a t=>exact⟨dj,w,by simp[ao,getObj,Sem.run,av],.inl rfl⟩|_=>exact⟨⟨w.heap.size,0,none⟩,w.alloc (.view dj (ρ.t 5)),by simp[ao,getObj,Sem.run,av,he],.inr ⟨_,rfl⟩⟩
section
variable {w w':World} {ro:Nat->Prop} {σ:bK} {β:Nat->Value} {n rid:Nat}
theorem hA.drop(h:hA w ro σ β n){t:TypeId}{m:Nat}{es:List (List a7)}(ah:aF σ rid=some (.row false t m es))(hw: ∀k,k<w.heap.size->cF (β rid)≠some k->w'.heap[k]? =w.heap[k]?)(b4:w.heap.size<=w'.heap.size):
 hA w' ro (hM σ rid) β n:=by
 have cA: ∀b,ro b->w'.heap[b]? =w.heap[b]? :=λb af=>hw b (h.lt b af) λe=>h.fy b af ⟨rid,_,ah,rfl,e⟩
 have sub: ∀k o,aF (hM σ rid) k=some o->aF σ k=some o/\k≠rid:=by
  intro k o an;rw[ED]at an
  split at an
  ·cases an
  ·rename_i b6
   exact⟨an,λe=>b6 e.symm⟩
 have key: ∀x c,bN w ro σ β n x c->bN w' ro (hM σ rid) β n x c:=λx c hx=>hx.keep cA (λ_ h=>h) (zZv _) (λid t cs an=>⟨rfl,t,cs,(sub _ _ an).1⟩) (λid z t n es an=>⟨rfl,z,t,es,(sub _ _ an).1⟩) (λid bU an=>⟨rfl,bU,(sub _ _ an).1⟩);refine⟨λk o an=>?_,λk bl o ct b an fI=>h.inj k bl o ct b (sub _ _ an).1 (sub _ _ fI).1,λb af ⟨k,o,an,au,bp⟩=>h.fy b af ⟨k,o,(sub _ _ an).1,au,bp⟩,λb af=>Nat.lt_of_lt_of_le (h.lt b af) b4⟩;obtain⟨hE,b6⟩:=sub k o an;have gw:=h.dB k o hE;have RH:o.live=true->∀b,cF (β k)=some b->w'.heap[b]? =w.heap[b]? :=λau b af=>hw b (gw.jB au af) λe=>b6 (h.inj k rid o _ b hE ah au rfl af e)
 cases gw with
 |box t cs b arr aa ae aw aN=>exact .box t cs b arr aa ((RH rfl b (by rw[aa];rfl)).trans ae) aw λj x aj=>key _ _ (aN j x aj)
 |row t n es xs aa ae aw=>exact .row t n es xs (aa.keep (λb af=>RH rfl b af) b4) ae λj x aj=>(aw j x aj).keep cA λ_ h=>h
 |gH t n es aa=>exact .gH t n es (aa.keep cA λ_ h=>h)
 |bW bU b o aa ae aw=>exact .bW bU b o aa ((RH rfl b aa).trans ae) (bU.mono _ _ _ _ (λx c h=>h.keep cA λ_ h=>h) aw)
theorem zlA(w:World)(g m k:Nat)(an:k≠g):(w.freeze ⟨g,0,none⟩ m).heap[k]? =w.heap[k]? :=by
 unfold World.freeze
 split
 ·rfl
 ·simp only[Array.getElem?_modify]
  rw[if_neg (λe=>an e.symm)]
theorem zlB(w:World)(a:Addr)(m:Nat):(w.freeze a m).os=w.os/\(w.freeze a m).tape=w.tape/\(w.freeze a m).output=w.output/\(w.freeze a m).heap.size=w.heap.size:=by
 unfold World.freeze
 split
 ·exact⟨rfl,rfl,rfl,rfl⟩
 ·exact⟨rfl,rfl,rfl,by simp⟩
theorem zlC(L:Lays.n169 P ρ)(X:Builder.Extra P ρ){G:aV}{id:Nat}{x0:aC}{l:List Int}(aP:l≠[])(bq:aF σ id=some (.box (ρ.t 72) [x0,.aq rid]))(ah:aF σ rid=some (.row false (ρ.t 5) 1 (l.map λz=>[.v (.int .u8 z)]))):
 fa P G (ρ.f 169) [.ptr id 0] σ n λr cu=>r= .ad (.v (.string (bytesOf l)))/\cu=hM σ rid:=by
 intro w β ro dY aa ae aw aN bx;have eg:=aw.dB id _ bq;have iZ:=aw.dB rid _ ah
 cases eg with
 |box _ _ b arr aE bc cJ ek=>
  cases iZ with
  |row _ _ _ xs ea b6 fW=>
   have iD:dY.getD 0 undef= .pointer (some ⟨b,0,none⟩):=by
    have:=ae 0 _ rfl;generalize dY.getD 0 undef=aT at this⊢
    cases this with
    |ptr _ _ _ au lx=>
     obtain⟨hL,dp,dP⟩:=lx _ _ bq;rw[aE]at dp
     cases dp
     exact dP
   have ym:dY= #[.pointer (some ⟨b,0,none⟩)]:=by
    have ao:dY.size=1:=aa;apply zV1
    ·simpa using ao
    ·intro i AM tv
     have:i=0:=by omega
     subst this;simpa[zV2,ao]using iD
   have Gn:arr.getD 1 undef=β rid:=by
    have:=ek 1 _ rfl;generalize arr.getD 1 undef=aT at this⊢
    cases this with
    |aq _ _ _ ar=>exact ar _ _ _ _ ah
   have vE:arr= #[arr.getD 0 undef,β rid]:=by
    have ao:arr.size=2:=cJ;apply zV1
    ·simpa using ao
    ·intro i AM tv
     have hi:i=0\/i=1:=by omega
     rcases hi with rfl|rfl
     ·simp[zV2,ao]
     ·have:=Gn
      simp only[zV2,ao]at this;simpa using this
   have hlen:(l.map λz=>[a7.v (.int .u8 z)]).length=l.length:=List.length_map ..
   rcases ea.2 with⟨_,aW⟩|⟨g,cap,cur,az,ar,ai,hle,kE,fH,nh⟩
   ·rw[hlen]at aW
    exact absurd (List.eq_nil_of_length_eq_zero aW) aP
   ·rw[hlen]at az hle nh
    have Hx:cF (β rid)=some g:=by rw[az];simp[cF,zXu ar]
    rw[ym];refine Calls.mono (zlw L X b g cap (arr.getD 0 undef) cur l w aP (by rw[bc,<-az,<-vE]) ai hle kE fH λj x hx=>?_) λe w' ⟨he,hw⟩=>?_
    ·have aj:=(List.getElem?_eq_some_iff.1 hx).1
     have hc:=fW j (.v (.int .u8 x)) (by rw[OB,List.getElem?_map,hx];rfl)
     have zlD:xs.getD j undef= .int .u8 x:=by
      generalize xs.getD j undef=aT at hc⊢
      cases hc with
      |v=>rfl
     have La:xs[j]? =some (.int .u8 x):=by
      have oO:j<xs.length:=by rw[ea.1,hlen];omega
      rw[<-zlD];simp[List.getD,List.getElem?_eq_getElem oO]
     rw[addLit,Nat.zero_add,cell_of_row w g j cur (ρ.t 5) (0,0) ai];rw[<-nh,List.getElem?_take]at La
     split at La
     ·simpa using La
     ·cases La
    ·subst hw
     obtain⟨f1,f2,f3,f4⟩:=zlB w.drew ⟨g,0,none⟩ l.length;have o5: ∀k,k<w.heap.size->cF (β rid)≠some k->(w.drew.freeze ⟨g,0,none⟩ l.length).heap[k]? =w.heap[k]? :=λk _ an=>zlA w.drew g l.length k λe=>an (by rw[Hx,e])
     have b4:w.heap.size<=(w.drew.freeze ⟨g,0,none⟩ l.length).heap.size:=zVe f4.symm
     have sub: ∀k o,aF (hM σ rid) k=some o->aF σ k=some o:=by
      intro k o an;rw[ED]at an
      split at an
      ·cases an
      ·exact an
     refine⟨_,_,hM σ rid,β,ro,n,he,⟨rfl,rfl⟩,.fu rfl,aw.drop ah o5 b4,⟨f1,f2,f3,b4,λk an av=>o5 k an λe=>av ⟨rid,_,ah,rfl,e⟩,λ_ h=>.inl h,λ_ h=>h,λk ⟨j,o,aj,au,af⟩=>.inl ⟨j,o,sub _ _ aj,au,af⟩,λk an o ai=>⟨by rw[sub _ _ ai];simp,rfl⟩,λk o ai=>bx k o (sub _ _ ai),zZv _⟩⟩
theorem hA.same(h:hA w ro σ β n)(he:w'.heap=w.heap):hA w' ro σ β n:=by
 have cA: ∀b,ro b->w'.heap[b]? =w.heap[b]? :=λb _=>by rw[he]
 have key: ∀x c,bN w ro σ β n x c->bN w' ro σ β n x c:=λx c hx=>hx.keep cA (λ_ h=>h) (zZv _) (λid t cs an=>⟨rfl,t,cs,an⟩) (λid z t n es an=>⟨rfl,z,t,es,an⟩) (λid bU an=>⟨rfl,bU,an⟩);refine⟨λk o an=>?_,h.inj,h.fy,λb af=>by rw[he];exact h.lt b af⟩
 have gw:=h.dB k o an
 cases gw with
 |box t cs b arr aa ae aw aN=>exact .box t cs b arr aa (by rw[he];exact ae) aw λj x aj=>key _ _ (aN j x aj)
 |row t n es xs aa ae aw=>exact .row t n es xs (aa.keep (λb af=>by rw[he]) (zVe (by rw[he]))) ae λj x aj=>(aw j x aj).keep cA λ_ h=>h
 |gH t n es aa=>exact .gH t n es (aa.keep cA λ_ h=>h)
 |bW bU b o aa ae aw=>exact .bW bU b o aa (by rw[he];exact ae) (bU.mono _ _ _ _ (λx c h=>h.keep cA λ_ h=>h) aw)
theorem Trans.drew(hx: ∀id o,aF σ id=some o->id<n):Trans ⟨w,ro,σ,β,n,[]⟩ w.drew ro σ β n:=
 ⟨rfl,rfl,rfl,zZv _,λ_ _ _=>rfl,λ_ h=>.inl h,λ_ h=>h,λ_ h=>.inl h,λk _ o ai=>⟨by rw[ai];simp,rfl⟩,hx,zZv _⟩
theorem zek(L:Lays.n169 P ρ)(X:Builder.Extra P ρ){G:aV}{id:Nat}{x0:aC}(bq:aF σ id=some (.box (ρ.t 72) [x0,.ad (.v (.slice none 0 0))])):
 fa P G (ρ.f 169) [.ptr id 0] σ n λr cu=>r= .ad (.v (.string ⟨#[]⟩))/\cu=σ:=by
 intro w β ro dY aa ae aw aN bx;have eg:=aw.dB id _ bq
 cases eg with
 |box _ _ b arr aE bc cJ ek=>
  have iD:dY.getD 0 undef= .pointer (some ⟨b,0,none⟩):=by
   have:=ae 0 _ rfl;generalize dY.getD 0 undef=aT at this⊢
   cases this with
   |ptr _ _ _ au lx=>
    obtain⟨hL,dp,dP⟩:=lx _ _ bq;rw[aE]at dp
    cases dp
    exact dP
  have ym:dY= #[.pointer (some ⟨b,0,none⟩)]:=by
   have ao:dY.size=1:=aa;apply zV1
   ·simpa using ao
   ·intro i AM tv
    have:i=0:=by omega
    subst this;simpa[zV2,ao]using iD
  have Gn:arr.getD 1 undef= .slice none 0 0:=bN.val (ek 1 _ rfl)
  have vE:arr= #[arr.getD 0 undef,.slice none 0 0]:=by
   have ao:arr.size=2:=cJ;apply zV1
   ·simpa using ao
   ·intro i AM tv
    have hi:i=0\/i=1:=by omega
    rcases hi with rfl|rfl
    ·simp[zV2,ao]
    ·have:=Gn
     simp only[zV2,ao]at this;simpa using this
  rw[ym];refine Calls.mono (zaF L X b (arr.getD 0 undef) w (by rw[bc,<-vE])) λe w' ⟨he,hw⟩=>?_
  subst hw;exact⟨_,_,σ,β,ro,n,he,⟨rfl,rfl⟩,.fu rfl,aw.same rfl,Trans.drew bx⟩
theorem zlE(L:Lays.n169 P ρ)(X:Builder.Extra P ρ){G:aV}{id:Nat}{x0:aC}(bq:aF σ id=some (.box (ρ.t 72) [x0,.aq rid]))(ah:aF σ rid=some (.row false (ρ.t 5) 1 [])):
 fa P G (ρ.f 169) [.ptr id 0] σ n λr cu=>r= .ad (.v (.string ⟨#[]⟩))/\cu=hM σ rid:=by
 intro w β ro dY aa ae aw aN bx;have eg:=aw.dB id _ bq;have iZ:=aw.dB rid _ ah
 cases eg with
 |box _ _ b arr aE bc cJ ek=>
  cases iZ with
  |row _ _ _ xs ea b6 fW=>
   have iD:dY.getD 0 undef= .pointer (some ⟨b,0,none⟩):=by
    have:=ae 0 _ rfl;generalize dY.getD 0 undef=aT at this⊢
    cases this with
    |ptr _ _ _ au lx=>
     obtain⟨hL,dp,dP⟩:=lx _ _ bq;rw[aE]at dp
     cases dp
     exact dP
   have ym:dY= #[.pointer (some ⟨b,0,none⟩)]:=by
    have ao:dY.size=1:=aa;apply zV1
    ·simpa using ao
    ·intro i AM tv
     have:i=0:=by omega
     subst this;simpa[zV2,ao]using iD
   have Gn:arr.getD 1 undef=β rid:=by
    have:=ek 1 _ rfl;generalize arr.getD 1 undef=aT at this⊢
    cases this with
    |aq _ _ _ ar=>exact ar _ _ _ _ ah
   have vE:arr= #[arr.getD 0 undef,β rid]:=by
    have ao:arr.size=2:=cJ;apply zV1
    ·simpa using ao
    ·intro i AM tv
     have hi:i=0\/i=1:=by omega
     rcases hi with rfl|rfl
     ·simp[zV2,ao]
     ·have:=Gn
      simp only[zV2,ao]at this;simpa using this
   have bR:b<w.heap.size:=(Array.getElem?_eq_some_iff.1 bc).1
   have fin:Calls P (ρ.f 169) #[.pointer (some ⟨b,0,none⟩)] w λe w'=>e= .returned (.string ⟨#[]⟩)/\(w'=w.drew\/∃o,w'=w.drew.alloc o):=by
    rcases ea.2 with⟨⟨c,az,zf⟩,_⟩|⟨g,cap,cur,az,ar,_⟩
    ·cases c with
     |none=>exact Calls.mono (zaF L X b (arr.getD 0 undef) w (by rw[bc,<-az,<-vE])) λe w' ⟨he,hw⟩=>⟨he,.inl hw⟩
     |some dj=>
      obtain⟨q,ec,aB,zaG⟩:=zlz L dj w.drew (zf dj rfl);refine Calls.mono (zly L X b dj q (arr.getD 0 undef) w ec (by rw[bc,<-az,<-vE]) ?_ aB) λe w' ⟨he,hw⟩=>⟨he,by rw[hw];exact zaG⟩
      rcases zaG with rfl|⟨o,rfl⟩
      ·rfl
      ·exact Lib.alloc_old w.drew _ b bR
    ·exact Calls.mono (zlx L X b g cap (arr.getD 0 undef) w (zXu ar) (by rw[bc,<-(show β rid= .slice (some ⟨g,0,none⟩) 0 cap from az),<-vE])) λe w' ⟨he,hw⟩=>⟨he,.inl hw⟩
   rw[ym];refine Calls.mono fin λe w' ⟨he,hw⟩=>?_
   have hold: ∀k,k<w.heap.size->w'.heap[k]? =w.heap[k]? :=λk an=>by
    rcases hw with rfl|⟨o,rfl⟩
    ·rfl
    ·exact Lib.alloc_old w.drew _ k an
   have b4:w.heap.size<=w'.heap.size:=by
    rcases hw with rfl|⟨o,rfl⟩
    ·exact zZv _
    ·show w.heap.size<=(w.heap.push _).size
     rw[Array.size_push];exact Nat.le_succ _
   have oN:w'.os=w.os/\w'.tape=w.drew.tape/\w'.output=w.output:=by
    rcases hw with rfl|⟨o,rfl⟩<;>exact⟨rfl,rfl,rfl⟩
   have sub: ∀k o,aF (hM σ rid) k=some o->aF σ k=some o:=by
    intro k o an;rw[ED]at an
    split at an
    ·cases an
    ·exact an
   refine⟨_,_,hM σ rid,β,ro,n,he,⟨rfl,rfl⟩,.fu rfl,aw.drop ah (λk an _=>hold k an) b4,⟨oN.1,oN.2.1,oN.2.2,b4,λk an _=>hold k an,λ_ h=>.inl h,λ_ h=>h,λk ⟨j,o,aj,au,af⟩=>.inl ⟨j,o,sub _ _ aj,au,af⟩,λk an o ai=>⟨by rw[sub _ _ ai];simp,rfl⟩,λk o ai=>bx k o (sub _ _ ai),zZv _⟩⟩
theorem zej(L:Lays.n169 P ρ)(X:Builder.Extra P ρ){G:aV}{id:Nat}{x0:aC}{l:List Int}(bq:aF σ id=some (.box (ρ.t 72) [x0,.aq rid]))(ah:aF σ rid=some (.row false (ρ.t 5) 1 (l.map λz=>[.v (.int .u8 z)]))):
 fa P G (ρ.f 169) [.ptr id 0] σ n λr cu=>r= .ad (.v (.string (bytesOf l)))/\cu=hM σ rid:=by
 cases l with
 |nil=>exact zlE L X bq ah|cons z l=>exact zlC L X (by simp) bq ah
end
end Go.aH
