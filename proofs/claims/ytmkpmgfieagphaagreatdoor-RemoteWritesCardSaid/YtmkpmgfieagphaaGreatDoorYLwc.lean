/- Apply is the reference's. Conditions: none. -/
import Derived.Test.YtmkpmgfieagphaaGreatDoorYLwb
namespace Go.aO
open Go Go.eK
noncomputable def Cy(x0:aA)(d:Command)(aH:az)(aX:List az):(List az) × Int:=
 bif((aX.length:Int) != (List.length x0.attrs:Int))then
  ([],1)
 else
  Sum.elim (fun r=>r) (fun bl=>
   Sum.elim (fun r=>r) (fun aY=>(aY,0))
   (bq (fun(i19:Nat) (bW:List az)=>(Step.bn (List.set bW (Int.toNat (jb x0 ((List.getD d.c4 (Int.toNat (i19:Int)) (av .bV)).attr))) (r5 (List.getD d.c4 (Int.toNat (i19:Int)) (av .bV)) (List.getD x0.attrs (Int.toNat (jb x0 ((List.getD d.c4 (Int.toNat (i19:Int)) (av .bV)).attr))) (av .Attr)) aH (List.getD bW (Int.toNat (jb x0 ((List.getD d.c4 (Int.toNat (i19:Int)) (av .bV)).attr))) (av .az)))):Step ((List az) × Int) (List az))) 0 (Int.toNat (d.c4.length:Int)) bl))
  (bq (fun(i17:Nat) (cK:List az)=>
   bif((mA (List.getD x0.attrs (Int.toNat (i17:Int)) (av .Attr)) (List.getD aX (Int.toNat (i17:Int)) (av .az))) != 0)then(.ret ([],1):Step ((List az) × Int) (List az))
   else .bn (List.append cK ([List.getD aX (Int.toNat (i17:Int)) (av .az)]:List az))) 0 (Int.toNat (aX.length:Int)) (List.replicate (Int.toNat (0:Int)) (av .az)))
noncomputable def vU(x0:aA)(d:Command)(aH:az)(aX:List az):(List az) × Int:=
 bif((aX.length:Int) != (List.length x0.attrs:Int))then
  ([],1)
 else
  Sum.elim (fun r=>r) (fun _=>
   Sum.elim (fun r=>r) (fun aY=>(aY,0))
   (bq (fun(i17:Nat) (bW:List az)=>
    Sum.elim (fun r=>r) (fun cK=>(.bn cK:Step ((List az) × Int) (List az)))
     (bq (fun(i21:Nat) (eo:List az)=>
      bif(cO .eql (List.getD x0.attrs (Int.toNat (i21:Int)) (av .Attr)).name (List.getD d.c4 (Int.toNat (i17:Int)) (av .bV)).attr)then
       .bn (List.set eo (Int.toNat (i21:Int)) (nq (List.getD d.c4 (Int.toNat (i17:Int)) (av .bV)) (List.getD x0.attrs (Int.toNat (i21:Int)) (av .Attr)) aH (List.getD eo (Int.toNat (i21:Int)) (av .az))))
      else .bn eo) 0 (Int.toNat (List.length x0.attrs:Int)) bW)) 0 (Int.toNat (d.c4.length:Int)) aX))
  (bq (fun(i15:Nat) (_:Unit)=>
   bif((hD (List.getD x0.attrs (Int.toNat (i15:Int)) (av .Attr)) (List.getD aX (Int.toNat (i15:Int)) (av .az))) != 0)then(.ret ([],1):Step ((List az) × Int) Unit)else .bn ()) 0 (Int.toNat (aX.length:Int)) ())
theorem Qe{c:aA}(hc:mB c){d:Command}{aH:az}(he: ∀i,i<d.c4.length→kD c d.param (d.c4.getD i (av .bV))=0)(hx:d.param.kind≠0→lj d.param aH)(vs:List az):
 Cy c d aH vs=vU c d aH vs∧((vU c d aH vs).2=0→r8 c (vU c d aH vs).1∧vs.length=c.attrs.length):=by
 unfold Cy vU
 cases ar:((vs.length:Int) != (List.length c.attrs:Int))with
 |true=>exact⟨rfl,fun h=>absurd (show(1:Int)=0 from h) (by decide)⟩
 |false=>
  have ar:vs.length=c.attrs.length:=by
   have:(vs.length:Int)=(c.attrs.length:Int):=by simpa using ar
   omega
  simp only[toNat_cast,cond_false]
  rw[show(List.replicate (Int.toNat (0:Int)) (av .az):List az)=vs.take 0 from rfl,ZP (l:=vs) (bad:=fun i=>hD (c.attrs.getD i (av .Attr)) (vs.getD i (av .az)) != 0) (r:=(([],1):(List az) × Int)) (fun i hi o=>by rw[yx];rfl) vs.length 0 (Nat.zero_add _),
   hq (p:=fun i=>hD (c.attrs.getD i (av .Attr)) (vs.getD i (av .az)) != 0) (F:=fun _=>(([],1):(List az) × Int)) (fun _ _=>rfl)]
  unfold cd;rw[List.range_eq_range']
  cases hf:(List.range' 0 vs.length).find? (fun i=>hD (c.attrs.getD i (av .Attr)) (vs.getD i (av .az)) != 0)with
  |some i=>exact⟨rfl,fun h=>absurd (show(1:Int)=0 from h) (by decide)⟩
  |none=>
   have ax:r8 c vs:=⟨ar,fun j af=>by
    have ZR:cd (fun i=>hD (c.attrs.getD i (av .Attr)) (vs.getD i (av .az)) != 0) vs.length=none:=by
     unfold cd;rw[List.range_eq_range'];exact hf
    exact(Hi _ _).1 (ih (pD ZR j (by omega)))⟩
   dsimp only[Sum.elim_inr]
   obtain⟨bf,g1,g2,g3⟩:=Qd (R:=(List az) × Int)
    (b:=fun(i19:Nat) (bW:List az)=>Step.bn (List.set bW (Int.toNat (jb c ((List.getD d.c4 i19 (av .bV)).attr))) (r5 (List.getD d.c4 i19 (av .bV)) (List.getD c.attrs (Int.toNat (jb c ((List.getD d.c4 i19 (av .bV)).attr))) (av .Attr)) aH (List.getD bW (Int.toNat (jb c ((List.getD d.c4 i19 (av .bV)).attr))) (av .az)))))
    (b':=fun(i17:Nat) (bW:List az)=>
     Sum.elim (fun r=>r) (fun cK=>(.bn cK:Step ((List az) × Int) (List az)))
      (bq (fun(i21:Nat) (eo:List az)=>
       bif(cO .eql (List.getD c.attrs i21 (av .Attr)).name (List.getD d.c4 i17 (av .bV)).attr)then
        .bn (List.set eo i21 (nq (List.getD d.c4 i17 (av .bV)) (List.getD c.attrs i21 (av .Attr)) aH (List.getD eo i21 (av .az))))
       else .bn eo) 0 c.attrs.length bW))
    (f:=yU c d aH) (I:=r8 c) d.c4.length 0 vs ax (fun i a _ hi ba=>by
     obtain⟨aa,j,af,ae⟩:=ZQ he hx (show i<d.c4.length by omega) ba
     refine⟨?_,?_,aa⟩
     ·unfold yU
      rw[yd,af];dsimp only;rw[toNat_cast,ae]
     ·have fD:=ZO hc (R:=Step ((List az) × Int) (List az)) af (fun k v=>nq (List.getD d.c4 i (av .bV)) (List.getD c.attrs k (av .Attr)) aH v) (b:=fun(i21:Nat) (eo:List az)=>
       bif(cO .eql (List.getD c.attrs i21 (av .Attr)).name (List.getD d.c4 i (av .bV)).attr)then
        .bn (List.set eo i21 (nq (List.getD d.c4 i (av .bV)) (List.getD c.attrs i21 (av .Attr)) aH (List.getD eo i21 (av .az))))
       else .bn eo) (fun k l=>by rw[nk]) a
      rw[fD];unfold yU;rw[af]
      rfl)
   rw[g1,g2];exact⟨rfl,fun _=>⟨g3,ar⟩⟩
theorem F0(c:aA)(n:ByteArray)(aH:az)(vs:List az):vl c n aH vs=nf c n aH vs∧((nf c n aH vs).2=0→r8 c (nf c n aH vs).1∧vs.length=c.attrs.length):=by
 have Hk:vl c n aH vs=bif(qE c != 0)then([],qE c)else bif !(km c n).2 then([],8)else bif((km c n).1.param.kind==0)then(bif(!(bif aH.kind==0 then bif aH.n==0 then cW aH.s (⟨#[]⟩:ByteArray)else false else false))then([],11)else Cy c (km c n).1 aH vs)else bif(mA (km c n).1.param aH != 0)then([],mA (km c n).1.param aH)else Cy c (km c n).1 aH vs:=rfl
 have Hl:nf c n aH vs=bif(jc c != 0)then([],jc c)else bif !(ko c n).2 then([],8)else bif(sa (ko c n).1 aH != 0)then([],sa (ko c n).1 aH)else vU c (ko c n).1 aH vs:=rfl
 rw[Hk,Hl,FT,FU]
 cases aS:(jc c != 0)with
 |true=>
  refine⟨rfl,fun h=>?_⟩
  have h:jc c=0:=h
  rw[h]at aS;cases aS
 |false=>
  have hc:=x9 (ih aS)
  rw[cond_false,cond_false,OY]
  cases hf:cd (fun i=>decide ((c.commands.getD i (av .Command)).name=n)) c.commands.length with
  |none=>exact⟨rfl,fun h=>absurd (show(8:Int)=0 from h) (by decide)⟩
  |some k=>
   have aj:=(hA hf).1
   obtain⟨_,he⟩:=FV (hc.FW k aj) aj;dsimp only;generalize c.commands.getD k (av .Command)=d at he⊢;rw[Bool.not_true,cond_false,cond_false]
   have eC:sa d aH=bif(d.param.kind != 0)then hD d.param aH else bif(!(bif aH.kind==0 then bif aH.n==0 then cW aH.s (⟨#[]⟩:ByteArray)else false else false))then 11 else 0:=rfl
   rw[eC,yx,show(d.param.kind != 0)= !(d.param.kind==0)from rfl]
   generalize (bif aH.kind==0 then bif aH.n==0 then cW aH.s (⟨#[]⟩:ByteArray)else false else false)=Hm
   cases fV:d.param.kind==0 with
   |true=>
    cases Hm with
    |false=>exact⟨rfl,fun h=>absurd (show(11:Int)=0 from h) (by decide)⟩
    |true=>exact Qe hc he (fun h=>absurd (by simpa using fV) h) vs
   |false=>
    cases ak:(hD d.param aH != 0)with
    |true=>
     have e:(bif !false then hD d.param aH else bif !Hm then(11:Int)else 0)=hD d.param aH:=rfl
     rw[e,ak];refine⟨rfl,fun h=>?_⟩
     have h:hD d.param aH=0:=h
     rw[h]at ak;cases ak
    |false=>
     have e:(bif !false then hD d.param aH else bif !Hm then(11:Int)else 0)=hD d.param aH:=rfl
     rw[e,ak];exact Qe hc he (fun _=>(Hi _ _).1 (ih ak)) vs
end Go.aO
