/- Models, printed. Conditions: none. -/
import Derived.Test.YtddeffoppnlafaaGreatKTEk
open Go Go.aK Go.fb
namespace Go.aK
noncomputable def oo(x0:List bk):Bool:=
 (decide ((List.length x0:Int)≤40))
noncomputable def wm(x0:bG):Bool:=
 let v1:Int:=(List.length x0.fY:Int)
 let v6:Int:=(List.length x0.members:Int)
 let v12:Int:=(List.length x0.eB:Int)
 let cV:Bool:=(((((decide (v1>24))||(decide ((List.length x0.ju:Int)>24)))||(decide (v6>24)))||(decide ((List.length x0.fg:Int)>24)))||(decide (v12>24)))||(decide ((List.length x0.j5:Int)>24))
 bif((cV||(decide ((ByteArray.size x0.source:Int)>3000)))||(decide ((ByteArray.size x0.mode:Int)>3000)))then
  false
 else
  Sum.elim (fun r=>r) (fun aZ=>
   Sum.elim (fun r=>r) (fun aB=>
    Sum.elim (fun r=>r) (fun bU=>
     true)
    (bJ (fun(i24:Nat) (b7:Unit)=>
     show Step (Bool) (Unit)from
     bif(!(oo ((List.getD x0.eB (Int.toNat (i24:Int)) (bj .ch)).items)))then
      .ret false
     else
      .bM ()) 0 (Int.toNat v12) ():Bool⊕(Unit)))
   (bJ (fun(i24:Nat) (c2:Unit)=>
    show Step (Bool) (Unit)from
    let fI:Bool:=(decide ((List.length ((List.getD x0.members (Int.toNat (i24:Int)) (bj .bC)).h8):Int)>24))||(decide ((List.length ((List.getD x0.members (Int.toNat (i24:Int)) (bj .bC)).k0):Int)>24))
    bif fI then
     .ret false
    else
     .bM ()) 0 (Int.toNat v6) ():Bool⊕(Unit)))
  (bJ (fun(i24:Nat) (dT:Unit)=>
   show Step (Bool) (Unit)from
   let v28:=!(oo ((List.getD x0.fY (Int.toNat (i24:Int)) (bj .bS)).reported))
   let bp:Bool→Step (Bool) (Unit):=fun v30=>
    bif(v28||(!v30))then
     .ret false
    else
     .bM ()
   bif v28 then
    bp false
   else
    bp (oo ((List.getD x0.fY (Int.toNat (i24:Int)) (bj .bS)).kt))) 0 (Int.toNat v1) ():Bool⊕(Unit))
def sQ(x0:bG):Prop:=
 let v1:Int:=(List.length x0.fY:Int)
 let v6:Int:=(List.length x0.members:Int)
 let v12:Int:=(List.length x0.eB:Int)
 let cV:Bool:=(((((decide (v1>24))||(decide ((List.length x0.ju:Int)>24)))||(decide (v6>24)))||(decide ((List.length x0.fg:Int)>24)))||(decide (v12>24)))||(decide ((List.length x0.j5:Int)>24))
 (((cV||(decide ((ByteArray.size x0.source:Int)>3000)))||(decide ((ByteArray.size x0.mode:Int)>3000)))=false→(
  let aW:Unit→Prop:=fun aZ=>
   (0≤v6∧v6<(9223372036854775808:Int))∧
   let fm:Unit→Prop:=fun aB=>
    0≤v12∧v12<(9223372036854775808:Int)
   ∃eU:Nat→(Unit)→Prop,eU 0 ()∧(∀(i24:Nat) (d1:Unit),i24<Int.toNat v6→eU i24 d1→(
    let fI:Bool:=(decide ((List.length ((List.getD x0.members (Int.toNat (i24:Int)) (bj .bC)).h8):Int)>24))||(decide ((List.length ((List.getD x0.members (Int.toNat (i24:Int)) (bj .bC)).k0):Int)>24))
    (fI=false→(
     eU (i24+1) ()))))∧∀aB,eU (Int.toNat v6) aB→fm aB
  ∃bq:Nat→(Unit)→Prop,bq 0 ()∧(∀(i24:Nat) (d0:Unit),i24<Int.toNat v1→bq i24 d0→(
   let v28:=!(oo ((List.getD x0.fY (Int.toNat (i24:Int)) (bj .bS)).reported))
   let bp:Bool→Prop:=fun v30=>
    ((v28||(!v30))=false→(
     bq (i24+1) ()))
   (v28=true→(
    bp false))∧(v28=false→(
    bp (oo ((List.getD x0.fY (Int.toNat (i24:Int)) (bj .bS)).kt))))))∧∀aZ,bq (Int.toNat v1) aZ→aW aZ))
def J6:Bool:=true
def J7:Prop:=True
noncomputable def fp(x0:Rd):Rd × Int:=
 bif !x0.made then
  (x0,15)
 else
  (x0,x0.err)
noncomputable def Bo(x0:ByteArray):Int × Int × Int:=
 let v1:Int:=(ByteArray.size x0:Int)
 Sum.elim (fun r=>r) (fun aZ=>
  (0,0,5))
 (bJ (fun(i3:Nat) (aB:Int)=>
  show Step (Int × Int × Int) (Int)from
  let v5:Int:=m1 x0 (i3:Int)
  bif(((decide ((i3:Int)>0))&&(v5==0))||(((i3:Int)==9)&&(decide (v5>1))))then
   .ret (0,0,4)
  else
   let cV:Int:=dw .or .u64 aB (dw .shl .u64 (IntKind.wrap .u64 (dw .and .u8 v5 (127:Int))) (IntKind.wrap .i64 ((7:Int)*(i3:Int))))
   bif(decide (v5<128))then
    .ret (cV,(IntKind.wrap .i64 ((i3:Int)+(1:Int))),0)
   else
    .bM cV) 0 (Int.toNat v1) 0:(Int × Int × Int)⊕(Int))
def J8(x0:ByteArray):Prop:=
 let v1:Int:=(ByteArray.size x0:Int)
 (0≤v1∧v1<(9223372036854775808:Int))∧
 ∃bq:Nat→(Int)→Prop,bq 0 0∧∀(i3:Nat) (d0:Int),i3<Int.toNat v1→bq i3 d0→(
  let v5:Int:=m1 x0 (i3:Int)
  ((((decide ((i3:Int)>0))&&(v5==0))||(((i3:Int)==9)&&(decide (v5>1))))=false→(
   let cn:Int:=IntKind.wrap .u64 (dw .and .u8 v5 (127:Int))
   let cj:Int:=IntKind.wrap .i64 ((7:Int)*(i3:Int))
   (0≤cj)∧
   let cV:Int:=dw .or .u64 d0 (dw .shl .u64 cn cj)
   ((decide (v5<128))=false→(
    bq (i3+1) cV)))))
noncomputable def eg(x0:Rd):Rd × Int:=
 let v1:=fp x0
 bif(v1.2 != 0)then
  (v1.1,0)
 else
  let v5:=Bo v1.1.rest
  bif(v5.2.2 != 0)then
   (⟨v1.1.rest,v5.2.2,v1.1.made⟩,0)
  else
   (⟨(wu v1.1.rest (some v5.2.1) none),v1.1.err,v1.1.made⟩,(dw .xor .i64 (IntKind.wrap .i64 (dw .shr .u64 v5.1 (1:Int))) (IntKind.wrap .i64 (0-(IntKind.wrap .i64 (dw .and .u64 v5.1 (1:Int)))))))
def iR(x0:Rd):Prop:=
 let v1:=fp x0
 ((v1.2 != 0)=false→(
  let v5:=Bo v1.1.rest
  (J8 v1.1.rest)∧
  ((v5.2.2 != 0)=false→(
   sR (ByteArray.size v1.1.rest) (some v5.2.1) none))))
noncomputable def gi(x0:Rd)(a7:Int):Rd × Int:=
 let v2:=eg x0
 let v5:=fp v2.1
 bif(v5.2 != 0)then
  (v5.1,0)
 else
  bif(decide (v2.2<0))then
   (⟨v5.1.rest,4,v5.1.made⟩,0)
  else
   bif(decide (v2.2>(fN.den (.mx .i64) a7 (0:Int))))then
    (⟨v5.1.rest,3,v5.1.made⟩,0)
   else
    (v5.1,v2.2)
def m2(x0:Rd)(a7:Int):Prop:=
 let v2:=eg x0
 iR x0
noncomputable def pc(x0:Rd)(a7:Int):Rd × ByteArray:=
 let v2:=gi x0 a7
 let v5:=fp v2.1
 bif(v5.2 != 0)then
  (v5.1,⟨#[]⟩)
 else
  bif(decide (v2.2>(ByteArray.size v5.1.rest:Int)))then
   (⟨v5.1.rest,5,v5.1.made⟩,⟨#[]⟩)
  else
   (⟨(wu v5.1.rest (some v2.2) none),v5.1.err,v5.1.made⟩,(wu v5.1.rest none (some v2.2)))
def Bp(x0:Rd)(a7:Int):Prop:=
 let v2:=gi x0 a7
 (m2 x0 a7)∧
 let v5:=fp v2.1
 ((v5.2 != 0)=false→(
  ((decide (v2.2>(ByteArray.size v5.1.rest:Int)))=false→(
   (sR (ByteArray.size v5.1.rest) none (some v2.2))∧
   sR (ByteArray.size v5.1.rest) (some v2.2) none))))
noncomputable def jL(x0:Rd):Rd × ByteArray:=
 let v1:=pc x0 (60:Int)
 (v1.1,v1.2)
def rG(x0:Rd):Prop:=
 let v1:=pc x0 (60:Int)
 Bp x0 (60:Int)
noncomputable def Fg(x0:Rd)(a7:Int):Rd:=
 let v2:=fp x0
 bif(v2.2==0)then
  ⟨v2.1.rest,a7,v2.1.made⟩
 else
  v2.1
noncomputable def J9(x0:Int):Bool:=
 ((decide (x0≥(-1099511627776)))&&(decide (x0≤1099511627776)))
noncomputable def wv(x0:dz):Int:=
 let cu:Bool→Int:=fun v1=>
  bif !v1 then
   2
  else
   bif(decide ((ByteArray.size x0.s:Int)>60))then
    3
   else
    bif((iS .neq x0.s (⟨#[]⟩:ByteArray))&&(x0.kind != 4))then
     4
    else
     0
 let bp:Bool→Int:=fun v1=>
  bif v1 then
   cu (x0.n==0)
  else
   bif(x0.kind==1)then
    cu ((x0.n==0)||(x0.n==1))
   else
    bif(x0.kind==2)then
     cu (J9 x0.n)
    else
     bif(x0.kind==3)then
      cu ((decide (x0.n≥0))&&(decide (x0.n≤63)))
     else
      7
 let v1:=x0.kind==0
 bif v1 then
  bp v1
 else
  bp (x0.kind==4)
noncomputable def Bq(x0:Rd):Rd × dz:=
 let v1:=eg x0
 let cu:Int→ByteArray→ByteArray→Int→Bool→Rd × dz:=fun v6 ba cq v9 v10=>
  let bp:ByteArray→Int→Bool→Rd × dz:=fun cd cn cj=>
   let b5:=fp ⟨cd,cn,cj⟩
   bif(b5.2 != 0)then
    (b5.1,⟨0,0,⟨#[]⟩⟩)
   else
    (b5.1,⟨v1.2,v6,ba⟩)
  bif((wv ⟨v1.2,v6,ba⟩) != 0)then
   let cd:=Fg ⟨cq,v9,v10⟩ (4:Int)
   bp cd.rest cd.err cd.made
  else
   bp cq v9 v10
 let bp:Bool→Rd × dz:=fun v4=>
  bif v4 then
   let v6:=eg v1.1
   cu v6.2 (⟨#[]⟩:ByteArray) v6.1.rest v6.1.err v6.1.made
  else
   bif(v1.2==4)then
    let ba:=pc v1.1 (60:Int)
    cu (0:Int) ba.2 ba.1.rest ba.1.err ba.1.made
   else
    cu (0:Int) (⟨#[]⟩:ByteArray) v1.1.rest v1.1.err v1.1.made
 let v4:=v1.2==1
 bif v4 then
  bp v4
 else
  let v5:=v1.2==2
  bif v5 then
   bp v5
  else
   bp (v1.2==3)
def Fh(x0:Rd):Prop:=
 let v1:=eg x0
 (iR x0)∧
 let bp:Bool→Prop:=fun v4=>
  (v4=true→(
   let v6:=eg v1.1
   iR v1.1))∧(v4=false→(
   ((v1.2==4)=true→(
    let ba:=pc v1.1 (60:Int)
    Bp v1.1 (60:Int)))))
 let v4:=v1.2==1
 (v4=true→(
  bp v4))∧(v4=false→(
  let v5:=v1.2==2
  (v5=true→(
   bp v5))∧(v5=false→(
   bp (v1.2==3)))))
noncomputable def sS(x0:Rd):Rd × bk:=
 let v1:=eg x0
 let v4:=jL v1.1
 let ba:=jL v4.1
 let v10:=Bq ba.1
 let cd:=eg v10.1
 (cd.1,⟨⟨v1.2,v4.2,ba.2⟩,⟨v10.2.kind,v10.2.n,v10.2.s⟩,cd.2⟩)
def yq(x0:Rd):Prop:=
 let v1:=eg x0
 (iR x0)∧
 let v4:=jL v1.1
 (rG v1.1)∧
 let ba:=jL v4.1
 (rG v4.1)∧
 let v10:=Bq ba.1
 (Fh ba.1)∧
 let cd:=eg v10.1
 iR v10.1
noncomputable def yr(x0:Rd):Rd × bS:=
 let v1:=eg x0
 let v4:=eg v1.1
 let ba:=eg v4.1
 let cu:(List bk)→ByteArray→Int→Bool→Rd × bS:=fun v10 v11 v12 cd=>
  let cu:(List bk)→ByteArray→Int→Bool→Rd × bS:=fun cn cj b5 cV=>
   let cv:=eg ⟨cj,b5,cV⟩
   let v21:=eg cv.1
   let v24:=eg v21.1
   let dX:=eg v24.1
   (dX.1,⟨v1.2,v4.2,ba.2,v10,cn,cv.2,v21.2,v24.2,dX.2⟩)
  let cn:=gi ⟨v11,v12,cd⟩ (256:Int)
  Sum.elim (fun r=>r) (fun aZ=>
   cu aZ.1 aZ.2.1 aZ.2.2.1 aZ.2.2.2)
  (bJ (fun(i21:Nat) (aB:(List bk) × ByteArray × Int × Bool)=>
   show Step (Rd × bS) ((List bk) × ByteArray × Int × Bool)from
   let v23:=sS ⟨aB.2.1,aB.2.2.1,aB.2.2.2⟩
   let v26:=fp v23.1
   bif(v26.2 != 0)then
    .ret (cu ([]:List bk) v26.1.rest v26.1.err v26.1.made)
   else
    .bM ((List.append aB.1 ([v23.2]:List bk)),v26.1.rest,v26.1.err,v26.1.made)) 0 (Int.toNat cn.2) ([],cn.1.rest,cn.1.err,cn.1.made):(Rd × bS)⊕((List bk) × ByteArray × Int × Bool))
 let v10:=gi ba.1 (256:Int)
 Sum.elim (fun r=>r) (fun bU=>
  cu bU.1 bU.2.1 bU.2.2.1 bU.2.2.2)
 (bJ (fun(i17:Nat) (b7:(List bk) × ByteArray × Int × Bool)=>
  show Step (Rd × bS) ((List bk) × ByteArray × Int × Bool)from
  let b3:=sS ⟨b7.2.1,b7.2.2.1,b7.2.2.2⟩
  let v22:=fp b3.1
  bif(v22.2 != 0)then
   .ret (cu ([]:List bk) v22.1.rest v22.1.err v22.1.made)
  else
   .bM ((List.append b7.1 ([b3.2]:List bk)),v22.1.rest,v22.1.err,v22.1.made)) 0 (Int.toNat v10.2) ([],v10.1.rest,v10.1.err,v10.1.made):(Rd × bS)⊕((List bk) × ByteArray × Int × Bool))
def Br(x0:Rd):Prop:=
 let v1:=eg x0
 (iR x0)∧
 let v4:=eg v1.1
 (iR v1.1)∧
 let ba:=eg v4.1
 (iR v4.1)∧
 let cu:(List bk)→ByteArray→Int→Bool→Prop:=fun v10 v11 v12 cd=>
  let cu:(List bk)→ByteArray→Int→Bool→Prop:=fun cn cj b5 cV=>
   let cv:=eg ⟨cj,b5,cV⟩
   (iR ⟨cj,b5,cV⟩)∧
   let v21:=eg cv.1
   (iR cv.1)∧
   let v24:=eg v21.1
   (iR v21.1)∧
   let dX:=eg v24.1
   iR v24.1
  let cn:=gi ⟨v11,v12,cd⟩ (256:Int)
  (m2 ⟨v11,v12,cd⟩ (256:Int))∧
  (0≤cn.2∧cn.2<(9223372036854775808:Int))∧
  let aW:((List bk) × ByteArray × Int × Bool)→Prop:=fun aZ=>
   cu aZ.1 aZ.2.1 aZ.2.2.1 aZ.2.2.2
  ∃bq:Nat→((List bk) × ByteArray × Int × Bool)→Prop,bq 0 ([],cn.1.rest,cn.1.err,cn.1.made)∧(∀(i21:Nat) (d0:(List bk) × ByteArray × Int × Bool),i21<Int.toNat cn.2→bq i21 d0→(
   let v23:=sS ⟨d0.2.1,d0.2.2.1,d0.2.2.2⟩
   (yq ⟨d0.2.1,d0.2.2.1,d0.2.2.2⟩)∧
   let v26:=fp v23.1
   ((v26.2 != 0)=true→(
    cu ([]:List bk) v26.1.rest v26.1.err v26.1.made))∧((v26.2 != 0)=false→(
    let v30:List bk:=([v23.2]:List bk)
    (List.length d0.1+List.length v30≤maxLen∧(List.length d0.1+List.length v30)*80≤140737488355328)∧
    bq (i21+1) ((List.append d0.1 v30),v26.1.rest,v26.1.err,v26.1.made)))))∧∀aZ,bq (Int.toNat cn.2) aZ→aW aZ
 let v10:=gi ba.1 (256:Int)
 (m2 ba.1 (256:Int))∧
 (0≤v10.2∧v10.2<(9223372036854775808:Int))∧
 let fm:((List bk) × ByteArray × Int × Bool)→Prop:=fun aB=>
  cu aB.1 aB.2.1 aB.2.2.1 aB.2.2.2
 ∃eU:Nat→((List bk) × ByteArray × Int × Bool)→Prop,eU 0 ([],v10.1.rest,v10.1.err,v10.1.made)∧(∀(i17:Nat) (d1:(List bk) × ByteArray × Int × Bool),i17<Int.toNat v10.2→eU i17 d1→(
  let b3:=sS ⟨d1.2.1,d1.2.2.1,d1.2.2.2⟩
  (yq ⟨d1.2.1,d1.2.2.1,d1.2.2.2⟩)∧
  let v22:=fp b3.1
  ((v22.2 != 0)=true→(
   cu ([]:List bk) v22.1.rest v22.1.err v22.1.made))∧((v22.2 != 0)=false→(
   let v26:List bk:=([b3.2]:List bk)
   (List.length d1.1+List.length v26≤maxLen∧(List.length d1.1+List.length v26)*80≤140737488355328)∧
   eU (i17+1) ((List.append d1.1 v26),v22.1.rest,v22.1.err,v22.1.made)))))∧∀aB,eU (Int.toNat v10.2) aB→fm aB
noncomputable def Bs(x0:Rd):Rd × cG:=
 let v1:=eg x0
 let v4:=eg v1.1
 (v4.1,⟨v1.2,v4.2⟩)
def Fi(x0:Rd):Prop:=
 let v1:=eg x0
 (iR x0)∧
 let v4:=eg v1.1
 iR v1.1
noncomputable def yt(x0:Rd):Rd × Bool:=
 let v1:=fp x0
 bif(v1.2 != 0)then
  (v1.1,false)
 else
  bif(iS .eql v1.1.rest (⟨#[]⟩:ByteArray))then
   (⟨v1.1.rest,5,v1.1.made⟩,false)
  else
   bif(decide ((m1 v1.1.rest (0:Int))>1))then
    (⟨v1.1.rest,4,v1.1.made⟩,false)
   else
    (⟨(wu v1.1.rest (some (1:Int)) none),v1.1.err,v1.1.made⟩,((m1 v1.1.rest (0:Int))==1))
def Fj(x0:Rd):Prop:=
 let v1:=fp x0
 ((v1.2 != 0)=false→(
  ((iS .eql v1.1.rest (⟨#[]⟩:ByteArray))=false→(
   (0≤(0:Int)∧(0:Int)<(ByteArray.size v1.1.rest:Int))∧
   ((decide ((m1 v1.1.rest (0:Int))>1))=false→(
    (0≤(0:Int)∧(0:Int)<(ByteArray.size v1.1.rest:Int))∧
    sR (ByteArray.size v1.1.rest) (some (1:Int)) none))))))
noncomputable def Bt(x0:Rd):Rd × bC:=
 let v1:=jL x0
 let v4:=eg v1.1
 let cu:(List cG)→ByteArray→Int→Bool→Rd × bC:=fun ba cq v9 v10=>
  let cu:(List ByteArray)→ByteArray→Int→Bool→Rd × bC:=fun v11 v12 cd cn=>
   let cj:=yt ⟨v12,cd,cn⟩
   (cj.1,⟨v1.2,v4.2,ba,v11,cj.2⟩)
  let v11:=gi ⟨cq,v9,v10⟩ (256:Int)
  Sum.elim (fun r=>r) (fun aZ=>
   cu aZ.1 aZ.2.1 aZ.2.2.1 aZ.2.2.2)
  (bJ (fun(i18:Nat) (aB:(List ByteArray) × ByteArray × Int × Bool)=>
   show Step (Rd × bC) ((List ByteArray) × ByteArray × Int × Bool)from
   let v20:=jL ⟨aB.2.1,aB.2.2.1,aB.2.2.2⟩
   let v23:=fp v20.1
   bif(v23.2 != 0)then
    .ret (cu ([]:List ByteArray) v23.1.rest v23.1.err v23.1.made)
   else
    .bM ((List.append aB.1 ([v20.2]:List ByteArray)),v23.1.rest,v23.1.err,v23.1.made)) 0 (Int.toNat v11.2) ([],v11.1.rest,v11.1.err,v11.1.made):(Rd × bC)⊕((List ByteArray) × ByteArray × Int × Bool))
 let ba:=gi v4.1 (256:Int)
 Sum.elim (fun r=>r) (fun bU=>
  cu bU.1 bU.2.1 bU.2.2.1 bU.2.2.2)
 (bJ (fun(i14:Nat) (b7:(List cG) × ByteArray × Int × Bool)=>
  show Step (Rd × bC) ((List cG) × ByteArray × Int × Bool)from
  let b5:=Bs ⟨b7.2.1,b7.2.2.1,b7.2.2.2⟩
  let b3:=fp b5.1
  bif(b3.2 != 0)then
   .ret (cu ([]:List cG) b3.1.rest b3.1.err b3.1.made)
  else
   .bM ((List.append b7.1 ([b5.2]:List cG)),b3.1.rest,b3.1.err,b3.1.made)) 0 (Int.toNat ba.2) ([],ba.1.rest,ba.1.err,ba.1.made):(Rd × bC)⊕((List cG) × ByteArray × Int × Bool))
def Fk(x0:Rd):Prop:=
 let v1:=jL x0
 (rG x0)∧
 let v4:=eg v1.1
 (iR v1.1)∧
 let cu:(List cG)→ByteArray→Int→Bool→Prop:=fun ba cq v9 v10=>
  let cu:(List ByteArray)→ByteArray→Int→Bool→Prop:=fun v11 v12 cd cn=>
   let cj:=yt ⟨v12,cd,cn⟩
   Fj ⟨v12,cd,cn⟩
  let v11:=gi ⟨cq,v9,v10⟩ (256:Int)
  (m2 ⟨cq,v9,v10⟩ (256:Int))∧
  (0≤v11.2∧v11.2<(9223372036854775808:Int))∧
  let aW:((List ByteArray) × ByteArray × Int × Bool)→Prop:=fun aZ=>
   cu aZ.1 aZ.2.1 aZ.2.2.1 aZ.2.2.2
  ∃bq:Nat→((List ByteArray) × ByteArray × Int × Bool)→Prop,bq 0 ([],v11.1.rest,v11.1.err,v11.1.made)∧(∀(i18:Nat) (d0:(List ByteArray) × ByteArray × Int × Bool),i18<Int.toNat v11.2→bq i18 d0→(
   let v20:=jL ⟨d0.2.1,d0.2.2.1,d0.2.2.2⟩
   (rG ⟨d0.2.1,d0.2.2.1,d0.2.2.2⟩)∧
   let v23:=fp v20.1
   ((v23.2 != 0)=true→(
    cu ([]:List ByteArray) v23.1.rest v23.1.err v23.1.made))∧((v23.2 != 0)=false→(
    let dX:List ByteArray:=([v20.2]:List ByteArray)
    (List.length d0.1+List.length dX≤maxLen∧(List.length d0.1+List.length dX)*16≤140737488355328)∧
    bq (i18+1) ((List.append d0.1 dX),v23.1.rest,v23.1.err,v23.1.made)))))∧∀aZ,bq (Int.toNat v11.2) aZ→aW aZ
 let ba:=gi v4.1 (256:Int)
 (m2 v4.1 (256:Int))∧
 (0≤ba.2∧ba.2<(9223372036854775808:Int))∧
 let fm:((List cG) × ByteArray × Int × Bool)→Prop:=fun aB=>
  cu aB.1 aB.2.1 aB.2.2.1 aB.2.2.2
 ∃eU:Nat→((List cG) × ByteArray × Int × Bool)→Prop,eU 0 ([],ba.1.rest,ba.1.err,ba.1.made)∧(∀(i14:Nat) (d1:(List cG) × ByteArray × Int × Bool),i14<Int.toNat ba.2→eU i14 d1→(
  let b5:=Bs ⟨d1.2.1,d1.2.2.1,d1.2.2.2⟩
  (Fi ⟨d1.2.1,d1.2.2.1,d1.2.2.2⟩)∧
  let b3:=fp b5.1
  ((b3.2 != 0)=true→(
   cu ([]:List cG) b3.1.rest b3.1.err b3.1.made))∧((b3.2 != 0)=false→(
   let v23:List cG:=([b5.2]:List cG)
   (List.length d1.1+List.length v23≤maxLen∧(List.length d1.1+List.length v23)*16≤140737488355328)∧
   eU (i14+1) ((List.append d1.1 v23),b3.1.rest,b3.1.err,b3.1.made)))))∧∀aB,eU (Int.toNat ba.2) aB→fm aB
noncomputable def Bu(x0:Rd):Rd × cm:=
 let v1:=jL x0
 let v4:=eg v1.1
 let ba:=eg v4.1
 (ba.1,⟨v1.2,⟨v4.2,(IntKind.wrap .u64 ba.2)⟩⟩)
def Fl(x0:Rd):Prop:=
 let v1:=jL x0
 (rG x0)∧
 let v4:=eg v1.1
 (iR v1.1)∧
 let ba:=eg v4.1
 iR v4.1
noncomputable def Bv(x0:Rd):Rd × ch:=
 let v1:=jL x0
 let cu:(List bk)→ByteArray→Int→Bool→Rd × ch:=fun v4 v5 v6 ba=>
  (⟨v5,v6,ba⟩,⟨v1.2,v4⟩)
 let v4:=gi v1.1 (256:Int)
 Sum.elim (fun r=>r) (fun aZ=>
  cu aZ.1 aZ.2.1 aZ.2.2.1 aZ.2.2.2)
 (bJ (fun(i11:Nat) (aB:(List bk) × ByteArray × Int × Bool)=>
  show Step (Rd × ch) ((List bk) × ByteArray × Int × Bool)from
  let cd:=sS ⟨aB.2.1,aB.2.2.1,aB.2.2.2⟩
  let b5:=fp cd.1
  bif(b5.2 != 0)then
   .ret (cu ([]:List bk) b5.1.rest b5.1.err b5.1.made)
  else
   .bM ((List.append aB.1 ([cd.2]:List bk)),b5.1.rest,b5.1.err,b5.1.made)) 0 (Int.toNat v4.2) ([],v4.1.rest,v4.1.err,v4.1.made):(Rd × ch)⊕((List bk) × ByteArray × Int × Bool))
def Fm(x0:Rd):Prop:=
 let v1:=jL x0
 (rG x0)∧
 let v4:=gi v1.1 (256:Int)
 (m2 v1.1 (256:Int))∧
 (0≤v4.2∧v4.2<(9223372036854775808:Int))∧
 ∃bq:Nat→((List bk) × ByteArray × Int × Bool)→Prop,bq 0 ([],v4.1.rest,v4.1.err,v4.1.made)∧∀(i11:Nat) (d0:(List bk) × ByteArray × Int × Bool),i11<Int.toNat v4.2→bq i11 d0→(
  let cd:=sS ⟨d0.2.1,d0.2.2.1,d0.2.2.2⟩
  (yq ⟨d0.2.1,d0.2.2.1,d0.2.2.2⟩)∧
  let b5:=fp cd.1
  ((b5.2 != 0)=false→(
   let v20:List bk:=([cd.2]:List bk)
   (List.length d0.1+List.length v20≤maxLen∧(List.length d0.1+List.length v20)*80≤140737488355328)∧
   bq (i11+1) ((List.append d0.1 v20),b5.1.rest,b5.1.err,b5.1.made))))
noncomputable def wx(x0:Rd):Rd × Int:=
 let v1:=fp x0
 bif(v1.2 != 0)then
  (v1.1,0)
 else
  (v1.1,(ByteArray.size v1.1.rest:Int))
noncomputable def rH(x0:Rd)(a7:Int):Rd × (List Int):=
 let v2:=gi x0 a7
 let v5:=wx v2.1
 bif(decide (v2.2>v5.2))then
  Sum.elim (fun r=>r) (fun aZ=>
   (⟨aZ.1,aZ.2.1,aZ.2.2⟩,[]))
  (dA (fun(aB:ByteArray × Int × Bool)=>
   show Step (Rd × (List Int)) (ByteArray × Int × Bool)from
   let v12:=fp ⟨aB.1,aB.2.1,aB.2.2⟩
   bif(v12.2==0)then
    let b5:=eg v12.1
    .bM (b5.1.rest,b5.1.err,b5.1.made)
   else
    .c9 (v12.1.rest,v12.1.err,v12.1.made)) dt (v5.1.rest,v5.1.err,v5.1.made):(Rd × (List Int))⊕(ByteArray × Int × Bool))
 else
  Sum.elim (fun r=>r) (fun bU=>
   let cd:=fp ⟨bU.2.1,bU.2.2.1,bU.2.2.2⟩
   bif(cd.2 != 0)then
    (cd.1,[])
   else
    (cd.1,bU.1))
  (bJ (fun(i13:Nat) (b7:(List Int) × ByteArray × Int × Bool)=>
   show Step (Rd × (List Int)) ((List Int) × ByteArray × Int × Bool)from
   let cj:=eg ⟨b7.2.1,b7.2.2.1,b7.2.2.2⟩
   .bM ((List.append b7.1 ([cj.2]:List Int)),cj.1.rest,cj.1.err,cj.1.made)) 0 (Int.toNat v2.2) ([],v5.1.rest,v5.1.err,v5.1.made):(Rd × (List Int))⊕((List Int) × ByteArray × Int × Bool))
def Bw(x0:Rd)(a7:Int):Prop:=
 let v2:=gi x0 a7
 (m2 x0 a7)∧
 let v5:=wx v2.1
 ((decide (v2.2>v5.2))=true→(
  ∃(bq:(ByteArray × Int × Bool)→Prop) (fO:(ByteArray × Int × Bool)→Nat),bq (v5.1.rest,v5.1.err,v5.1.made)∧fO (v5.1.rest,v5.1.err,v5.1.made)<dt∧∀(d0:ByteArray × Int × Bool),bq d0→(
   let v12:=fp ⟨d0.1,d0.2.1,d0.2.2⟩
   ((v12.2==0)=true→(
    let b5:=eg v12.1
    (iR v12.1)∧
    bq (b5.1.rest,b5.1.err,b5.1.made)∧fO (b5.1.rest,b5.1.err,b5.1.made)<fO d0)))))∧((decide (v2.2>v5.2))=false→(
  (0≤v2.2∧v2.2<(9223372036854775808:Int))∧
  ∃eU:Nat→((List Int) × ByteArray × Int × Bool)→Prop,eU 0 ([],v5.1.rest,v5.1.err,v5.1.made)∧∀(i13:Nat) (d1:(List Int) × ByteArray × Int × Bool),i13<Int.toNat v2.2→eU i13 d1→(
   let cj:=eg ⟨d1.2.1,d1.2.2.1,d1.2.2.2⟩
   (iR ⟨d1.2.1,d1.2.2.1,d1.2.2.2⟩)∧
   let cv:List Int:=([cj.2]:List Int)
   (List.length d1.1+List.length cv≤maxLen∧(List.length d1.1+List.length cv)*8≤140737488355328)∧
   eU (i13+1) ((List.append d1.1 cv),cj.1.rest,cj.1.err,cj.1.made))))
noncomputable def Bx(x0:Rd):Rd × Int:=
 let v1:=wx x0
 bif(decide (v1.2>0))then
  (v1.1,23)
 else
  let v5:=fp v1.1
  (v5.1,v5.2)
noncomputable def sT(x0:ByteArray):bG × Int:=
 Sum.elim (fun r=>r) (fun aZ=>
  let cn:=Bx ⟨aZ.2.2.2.2.2.2.2.2.2.2.1,aZ.2.2.2.2.2.2.2.2.2.2.2.1,aZ.2.2.2.2.2.2.2.2.2.2.2.2⟩
  bif(cn.2 != 0)then
   (⟨0,⟨#[]⟩,[],[],[],[],⟨#[]⟩,[],0,[]⟩,cn.2)
  else
   (⟨aZ.1,aZ.2.1,aZ.2.2.1,aZ.2.2.2.1,aZ.2.2.2.2.1,aZ.2.2.2.2.2.1,aZ.2.2.2.2.2.2.1,aZ.2.2.2.2.2.2.2.1,aZ.2.2.2.2.2.2.2.2.1,aZ.2.2.2.2.2.2.2.2.2.1⟩,0))
 (bJ (fun(i14:Nat) (aB:Int × ByteArray × (List bS) × (List ByteArray) × (List bC) × (List cm) × ByteArray × (List ch) × Int × (List Int) × ByteArray × Int × Bool)=>
  show Step (bG × Int) (Int × ByteArray × (List bS) × (List ByteArray) × (List bC) × (List cm) × ByteArray × (List ch) × Int × (List Int) × ByteArray × Int × Bool)from
  let gj:Int→ByteArray→(List bS)→(List ByteArray)→(List bC)→(List cm)→ByteArray→(List ch)→Int→(List Int)→ByteArray→Int→Bool→Step (bG × Int) (Int × ByteArray × (List bS) × (List ByteArray) × (List bC) × (List cm) × ByteArray × (List ch) × Int × (List Int) × ByteArray × Int × Bool):=fun b5 cV cv b3 v20 v21 v22 v23 v24 v25 v26 dX v28=>
   .bM (b5,cV,cv,b3,v20,v21,v22,v23,v24,v25,v26,dX,v28)
  bif((i14:Int)==0)then
   let cV:=eg ⟨aB.2.2.2.2.2.2.2.2.2.2.1,aB.2.2.2.2.2.2.2.2.2.2.2.1,aB.2.2.2.2.2.2.2.2.2.2.2.2⟩
   gj cV.2 aB.2.1 aB.2.2.1 aB.2.2.2.1 aB.2.2.2.2.1 aB.2.2.2.2.2.1 aB.2.2.2.2.2.2.1 aB.2.2.2.2.2.2.2.1 aB.2.2.2.2.2.2.2.2.1 aB.2.2.2.2.2.2.2.2.2.1 cV.1.rest cV.1.err cV.1.made
  else
   bif((i14:Int)==1)then
    let cv:=jL ⟨aB.2.2.2.2.2.2.2.2.2.2.1,aB.2.2.2.2.2.2.2.2.2.2.2.1,aB.2.2.2.2.2.2.2.2.2.2.2.2⟩
    gj aB.1 cv.2 aB.2.2.1 aB.2.2.2.1 aB.2.2.2.2.1 aB.2.2.2.2.2.1 aB.2.2.2.2.2.2.1 aB.2.2.2.2.2.2.2.1 aB.2.2.2.2.2.2.2.2.1 aB.2.2.2.2.2.2.2.2.2.1 cv.1.rest cv.1.err cv.1.made
   else
    bif((i14:Int)==2)then
     let cu:(List bS)→ByteArray→Int→Bool→Step (bG × Int) (Int × ByteArray × (List bS) × (List ByteArray) × (List bC) × (List cm) × ByteArray × (List ch) × Int × (List Int) × ByteArray × Int × Bool):=fun b3 v20 v21 v22=>
      gj aB.1 aB.2.1 b3 aB.2.2.2.1 aB.2.2.2.2.1 aB.2.2.2.2.2.1 aB.2.2.2.2.2.2.1 aB.2.2.2.2.2.2.2.1 aB.2.2.2.2.2.2.2.2.1 aB.2.2.2.2.2.2.2.2.2.1 v20 v21 v22
     let b3:=gi ⟨aB.2.2.2.2.2.2.2.2.2.2.1,aB.2.2.2.2.2.2.2.2.2.2.2.1,aB.2.2.2.2.2.2.2.2.2.2.2.2⟩ (256:Int)
     Sum.elim (fun r=>r) (fun bU=>
      cu bU.1 bU.2.1 bU.2.2.1 bU.2.2.2)
     (bJ (fun(i26:Nat) (b7:(List bS) × ByteArray × Int × Bool)=>
      show Step (Step (bG × Int) (Int × ByteArray × (List bS) × (List ByteArray) × (List bC) × (List cm) × ByteArray × (List ch) × Int × (List Int) × ByteArray × Int × Bool)) ((List bS) × ByteArray × Int × Bool)from
      let v28:=yr ⟨b7.2.1,b7.2.2.1,b7.2.2.2⟩
      let v31:=fp v28.1
      bif(v31.2 != 0)then
       .ret (cu ([]:List bS) v31.1.rest v31.1.err v31.1.made)
      else
       .bM ((List.append b7.1 ([v28.2]:List bS)),v31.1.rest,v31.1.err,v31.1.made)) 0 (Int.toNat b3.2) ([],b3.1.rest,b3.1.err,b3.1.made):(Step (bG × Int) (Int × ByteArray × (List bS) × (List ByteArray) × (List bC) × (List cm) × ByteArray × (List ch) × Int × (List Int) × ByteArray × Int × Bool))⊕((List bS) × ByteArray × Int × Bool))
    else
     bif((i14:Int)==3)then
      let cu:(List ByteArray)→ByteArray→Int→Bool→Step (bG × Int) (Int × ByteArray × (List bS) × (List ByteArray) × (List bC) × (List cm) × ByteArray × (List ch) × Int × (List Int) × ByteArray × Int × Bool):=fun v20 v21 v22 v23=>
       gj aB.1 aB.2.1 aB.2.2.1 v20 aB.2.2.2.2.1 aB.2.2.2.2.2.1 aB.2.2.2.2.2.2.1 aB.2.2.2.2.2.2.2.1 aB.2.2.2.2.2.2.2.2.1 aB.2.2.2.2.2.2.2.2.2.1 v21 v22 v23
      let v20:=gi ⟨aB.2.2.2.2.2.2.2.2.2.2.1,aB.2.2.2.2.2.2.2.2.2.2.2.1,aB.2.2.2.2.2.2.2.2.2.2.2.2⟩ (256:Int)
      Sum.elim (fun r=>r) (fun c2=>
       cu c2.1 c2.2.1 c2.2.2.1 c2.2.2.2)
      (bJ (fun(i27:Nat) (dT:(List ByteArray) × ByteArray × Int × Bool)=>
       show Step (Step (bG × Int) (Int × ByteArray × (List bS) × (List ByteArray) × (List bC) × (List cm) × ByteArray × (List ch) × Int × (List Int) × ByteArray × Int × Bool)) ((List ByteArray) × ByteArray × Int × Bool)from
       let iT:=jL ⟨dT.2.1,dT.2.2.1,dT.2.2.2⟩
       let fI:=fp iT.1
       bif(fI.2 != 0)then
        .ret (cu ([]:List ByteArray) fI.1.rest fI.1.err fI.1.made)
       else
        .bM ((List.append dT.1 ([iT.2]:List ByteArray)),fI.1.rest,fI.1.err,fI.1.made)) 0 (Int.toNat v20.2) ([],v20.1.rest,v20.1.err,v20.1.made):(Step (bG × Int) (Int × ByteArray × (List bS) × (List ByteArray) × (List bC) × (List cm) × ByteArray × (List ch) × Int × (List Int) × ByteArray × Int × Bool))⊕((List ByteArray) × ByteArray × Int × Bool))
     else
      bif((i14:Int)==4)then
       let cu:(List bC)→ByteArray→Int→Bool→Step (bG × Int) (Int × ByteArray × (List bS) × (List ByteArray) × (List bC) × (List cm) × ByteArray × (List ch) × Int × (List Int) × ByteArray × Int × Bool):=fun v21 v22 v23 v24=>
        gj aB.1 aB.2.1 aB.2.2.1 aB.2.2.2.1 v21 aB.2.2.2.2.2.1 aB.2.2.2.2.2.2.1 aB.2.2.2.2.2.2.2.1 aB.2.2.2.2.2.2.2.2.1 aB.2.2.2.2.2.2.2.2.2.1 v22 v23 v24
       let v21:=gi ⟨aB.2.2.2.2.2.2.2.2.2.2.1,aB.2.2.2.2.2.2.2.2.2.2.2.1,aB.2.2.2.2.2.2.2.2.2.2.2.2⟩ (256:Int)
       Sum.elim (fun r=>r) (fun fo=>
        cu fo.1 fo.2.1 fo.2.2.1 fo.2.2.2)
       (bJ (fun(i28:Nat) (fh:(List bC) × ByteArray × Int × Bool)=>
        show Step (Step (bG × Int) (Int × ByteArray × (List bS) × (List ByteArray) × (List bC) × (List cm) × ByteArray × (List ch) × Int × (List Int) × ByteArray × Int × Bool)) ((List bC) × ByteArray × Int × Bool)from
        let v30:=Bt ⟨fh.2.1,fh.2.2.1,fh.2.2.2⟩
        let ez:=fp v30.1
        bif(ez.2 != 0)then
         .ret (cu ([]:List bC) ez.1.rest ez.1.err ez.1.made)
        else
         .bM ((List.append fh.1 ([v30.2]:List bC)),ez.1.rest,ez.1.err,ez.1.made)) 0 (Int.toNat v21.2) ([],v21.1.rest,v21.1.err,v21.1.made):(Step (bG × Int) (Int × ByteArray × (List bS) × (List ByteArray) × (List bC) × (List cm) × ByteArray × (List ch) × Int × (List Int) × ByteArray × Int × Bool))⊕((List bC) × ByteArray × Int × Bool))
      else
       bif((i14:Int)==5)then
        let cu:(List cm)→ByteArray→Int→Bool→Step (bG × Int) (Int × ByteArray × (List bS) × (List ByteArray) × (List bC) × (List cm) × ByteArray × (List ch) × Int × (List Int) × ByteArray × Int × Bool):=fun v22 v23 v24 v25=>
         gj aB.1 aB.2.1 aB.2.2.1 aB.2.2.2.1 aB.2.2.2.2.1 v22 aB.2.2.2.2.2.2.1 aB.2.2.2.2.2.2.2.1 aB.2.2.2.2.2.2.2.2.1 aB.2.2.2.2.2.2.2.2.2.1 v23 v24 v25
        let v22:=gi ⟨aB.2.2.2.2.2.2.2.2.2.2.1,aB.2.2.2.2.2.2.2.2.2.2.2.1,aB.2.2.2.2.2.2.2.2.2.2.2.2⟩ (256:Int)
        Sum.elim (fun r=>r) (fun om=>
         cu om.1 om.2.1 om.2.2.1 om.2.2.2)
        (bJ (fun(i29:Nat) (pd:(List cm) × ByteArray × Int × Bool)=>
         show Step (Step (bG × Int) (Int × ByteArray × (List bS) × (List ByteArray) × (List bC) × (List cm) × ByteArray × (List ch) × Int × (List Int) × ByteArray × Int × Bool)) ((List cm) × ByteArray × Int × Bool)from
         let v31:=Bu ⟨pd.2.1,pd.2.2.1,pd.2.2.2⟩
         let k1:=fp v31.1
         bif(k1.2 != 0)then
          .ret (cu ([]:List cm) k1.1.rest k1.1.err k1.1.made)
         else
          .bM ((List.append pd.1 ([v31.2]:List cm)),k1.1.rest,k1.1.err,k1.1.made)) 0 (Int.toNat v22.2) ([],v22.1.rest,v22.1.err,v22.1.made):(Step (bG × Int) (Int × ByteArray × (List bS) × (List ByteArray) × (List bC) × (List cm) × ByteArray × (List ch) × Int × (List Int) × ByteArray × Int × Bool))⊕((List cm) × ByteArray × Int × Bool))
       else
        bif((i14:Int)==6)then
         let v23:=pc ⟨aB.2.2.2.2.2.2.2.2.2.2.1,aB.2.2.2.2.2.2.2.2.2.2.2.1,aB.2.2.2.2.2.2.2.2.2.2.2.2⟩ (20000:Int)
         gj aB.1 aB.2.1 aB.2.2.1 aB.2.2.2.1 aB.2.2.2.2.1 aB.2.2.2.2.2.1 v23.2 aB.2.2.2.2.2.2.2.1 aB.2.2.2.2.2.2.2.2.1 aB.2.2.2.2.2.2.2.2.2.1 v23.1.rest v23.1.err v23.1.made
        else
         bif((i14:Int)==7)then
          let cu:(List ch)→ByteArray→Int→Bool→Step (bG × Int) (Int × ByteArray × (List bS) × (List ByteArray) × (List bC) × (List cm) × ByteArray × (List ch) × Int × (List Int) × ByteArray × Int × Bool):=fun v24 v25 v26 dX=>
           gj aB.1 aB.2.1 aB.2.2.1 aB.2.2.2.1 aB.2.2.2.2.1 aB.2.2.2.2.2.1 aB.2.2.2.2.2.2.1 v24 aB.2.2.2.2.2.2.2.2.1 aB.2.2.2.2.2.2.2.2.2.1 v25 v26 dX
          let v24:=gi ⟨aB.2.2.2.2.2.2.2.2.2.2.1,aB.2.2.2.2.2.2.2.2.2.2.2.1,aB.2.2.2.2.2.2.2.2.2.2.2.2⟩ (256:Int)
          Sum.elim (fun r=>r) (fun sU=>
           cu sU.1 sU.2.1 sU.2.2.1 sU.2.2.2)
          (bJ (fun(i31:Nat) (nG:(List ch) × ByteArray × Int × Bool)=>
           show Step (Step (bG × Int) (Int × ByteArray × (List bS) × (List ByteArray) × (List bC) × (List cm) × ByteArray × (List ch) × Int × (List Int) × ByteArray × Int × Bool)) ((List ch) × ByteArray × Int × Bool)from
           let ez:=Bv ⟨nG.2.1,nG.2.2.1,nG.2.2.2⟩
           let fJ:=fp ez.1
           bif(fJ.2 != 0)then
            .ret (cu ([]:List ch) fJ.1.rest fJ.1.err fJ.1.made)
           else
            .bM ((List.append nG.1 ([ez.2]:List ch)),fJ.1.rest,fJ.1.err,fJ.1.made)) 0 (Int.toNat v24.2) ([],v24.1.rest,v24.1.err,v24.1.made):(Step (bG × Int) (Int × ByteArray × (List bS) × (List ByteArray) × (List bC) × (List cm) × ByteArray × (List ch) × Int × (List Int) × ByteArray × Int × Bool))⊕((List ch) × ByteArray × Int × Bool))
         else
          bif((i14:Int)==8)then
           let v25:=eg ⟨aB.2.2.2.2.2.2.2.2.2.2.1,aB.2.2.2.2.2.2.2.2.2.2.2.1,aB.2.2.2.2.2.2.2.2.2.2.2.2⟩
           gj aB.1 aB.2.1 aB.2.2.1 aB.2.2.2.1 aB.2.2.2.2.1 aB.2.2.2.2.2.1 aB.2.2.2.2.2.2.1 aB.2.2.2.2.2.2.2.1 v25.2 aB.2.2.2.2.2.2.2.2.2.1 v25.1.rest v25.1.err v25.1.made
          else
           bif((i14:Int)==9)then
            let v26:=rH ⟨aB.2.2.2.2.2.2.2.2.2.2.1,aB.2.2.2.2.2.2.2.2.2.2.2.1,aB.2.2.2.2.2.2.2.2.2.2.2.2⟩ (256:Int)
            gj aB.1 aB.2.1 aB.2.2.1 aB.2.2.2.1 aB.2.2.2.2.1 aB.2.2.2.2.2.1 aB.2.2.2.2.2.2.1 aB.2.2.2.2.2.2.2.1 aB.2.2.2.2.2.2.2.2.1 v26.2 v26.1.rest v26.1.err v26.1.made
           else
            gj aB.1 aB.2.1 aB.2.2.1 aB.2.2.2.1 aB.2.2.2.2.1 aB.2.2.2.2.2.1 aB.2.2.2.2.2.2.1 aB.2.2.2.2.2.2.2.1 aB.2.2.2.2.2.2.2.2.1 aB.2.2.2.2.2.2.2.2.2.1 aB.2.2.2.2.2.2.2.2.2.2.1 aB.2.2.2.2.2.2.2.2.2.2.2.1 aB.2.2.2.2.2.2.2.2.2.2.2.2) 0 (Int.toNat (10:Int)) (0,⟨#[]⟩,[],[],[],[],⟨#[]⟩,[],0,[],x0,0,true):(bG × Int)⊕(Int × ByteArray × (List bS) × (List ByteArray) × (List bC) × (List cm) × ByteArray × (List ch) × Int × (List Int) × ByteArray × Int × Bool))
def Fo(x0:ByteArray):Prop:=
 ∃bq:Nat→(Int × ByteArray × (List bS) × (List ByteArray) × (List bC) × (List cm) × ByteArray × (List ch) × Int × (List Int) × ByteArray × Int × Bool)→Prop,bq 0 (0,⟨#[]⟩,[],[],[],[],⟨#[]⟩,[],0,[],x0,0,true)∧∀(i14:Nat) (d0:Int × ByteArray × (List bS) × (List ByteArray) × (List bC) × (List cm) × ByteArray × (List ch) × Int × (List Int) × ByteArray × Int × Bool),i14<Int.toNat (10:Int)→bq i14 d0→(
  let gj:Int→ByteArray→(List bS)→(List ByteArray)→(List bC)→(List cm)→ByteArray→(List ch)→Int→(List Int)→ByteArray→Int→Bool→Prop:=fun b5 cV cv b3 v20 v21 v22 v23 v24 v25 v26 dX v28=>
   bq (i14+1) (b5,cV,cv,b3,v20,v21,v22,v23,v24,v25,v26,dX,v28)
  (((i14:Int)==0)=true→(
   let cV:=eg ⟨d0.2.2.2.2.2.2.2.2.2.2.1,d0.2.2.2.2.2.2.2.2.2.2.2.1,d0.2.2.2.2.2.2.2.2.2.2.2.2⟩
   (iR ⟨d0.2.2.2.2.2.2.2.2.2.2.1,d0.2.2.2.2.2.2.2.2.2.2.2.1,d0.2.2.2.2.2.2.2.2.2.2.2.2⟩)∧
   gj cV.2 d0.2.1 d0.2.2.1 d0.2.2.2.1 d0.2.2.2.2.1 d0.2.2.2.2.2.1 d0.2.2.2.2.2.2.1 d0.2.2.2.2.2.2.2.1 d0.2.2.2.2.2.2.2.2.1 d0.2.2.2.2.2.2.2.2.2.1 cV.1.rest cV.1.err cV.1.made))∧(((i14:Int)==0)=false→(
   (((i14:Int)==1)=true→(
    let cv:=jL ⟨d0.2.2.2.2.2.2.2.2.2.2.1,d0.2.2.2.2.2.2.2.2.2.2.2.1,d0.2.2.2.2.2.2.2.2.2.2.2.2⟩
    (rG ⟨d0.2.2.2.2.2.2.2.2.2.2.1,d0.2.2.2.2.2.2.2.2.2.2.2.1,d0.2.2.2.2.2.2.2.2.2.2.2.2⟩)∧
    gj d0.1 cv.2 d0.2.2.1 d0.2.2.2.1 d0.2.2.2.2.1 d0.2.2.2.2.2.1 d0.2.2.2.2.2.2.1 d0.2.2.2.2.2.2.2.1 d0.2.2.2.2.2.2.2.2.1 d0.2.2.2.2.2.2.2.2.2.1 cv.1.rest cv.1.err cv.1.made))∧(((i14:Int)==1)=false→(
    (((i14:Int)==2)=true→(
     let cu:(List bS)→ByteArray→Int→Bool→Prop:=fun b3 v20 v21 v22=>
      gj d0.1 d0.2.1 b3 d0.2.2.2.1 d0.2.2.2.2.1 d0.2.2.2.2.2.1 d0.2.2.2.2.2.2.1 d0.2.2.2.2.2.2.2.1 d0.2.2.2.2.2.2.2.2.1 d0.2.2.2.2.2.2.2.2.2.1 v20 v21 v22
     let b3:=gi ⟨d0.2.2.2.2.2.2.2.2.2.2.1,d0.2.2.2.2.2.2.2.2.2.2.2.1,d0.2.2.2.2.2.2.2.2.2.2.2.2⟩ (256:Int)
     (m2 ⟨d0.2.2.2.2.2.2.2.2.2.2.1,d0.2.2.2.2.2.2.2.2.2.2.2.1,d0.2.2.2.2.2.2.2.2.2.2.2.2⟩ (256:Int))∧
     (0≤b3.2∧b3.2<(9223372036854775808:Int))∧
     let fm:((List bS) × ByteArray × Int × Bool)→Prop:=fun aB=>
      cu aB.1 aB.2.1 aB.2.2.1 aB.2.2.2
     ∃eU:Nat→((List bS) × ByteArray × Int × Bool)→Prop,eU 0 ([],b3.1.rest,b3.1.err,b3.1.made)∧(∀(i26:Nat) (d1:(List bS) × ByteArray × Int × Bool),i26<Int.toNat b3.2→eU i26 d1→(
      let v28:=yr ⟨d1.2.1,d1.2.2.1,d1.2.2.2⟩
      (Br ⟨d1.2.1,d1.2.2.1,d1.2.2.2⟩)∧
      let v31:=fp v28.1
      ((v31.2 != 0)=true→(
       cu ([]:List bS) v31.1.rest v31.1.err v31.1.made))∧((v31.2 != 0)=false→(
       let yu:List bS:=([v28.2]:List bS)
       (List.length d1.1+List.length yu≤maxLen∧(List.length d1.1+List.length yu)*104≤140737488355328)∧
       eU (i26+1) ((List.append d1.1 yu),v31.1.rest,v31.1.err,v31.1.made)))))∧∀aB,eU (Int.toNat b3.2) aB→fm aB))∧(((i14:Int)==2)=false→(
     (((i14:Int)==3)=true→(
      let cu:(List ByteArray)→ByteArray→Int→Bool→Prop:=fun v20 v21 v22 v23=>
       gj d0.1 d0.2.1 d0.2.2.1 v20 d0.2.2.2.2.1 d0.2.2.2.2.2.1 d0.2.2.2.2.2.2.1 d0.2.2.2.2.2.2.2.1 d0.2.2.2.2.2.2.2.2.1 d0.2.2.2.2.2.2.2.2.2.1 v21 v22 v23
      let v20:=gi ⟨d0.2.2.2.2.2.2.2.2.2.2.1,d0.2.2.2.2.2.2.2.2.2.2.2.1,d0.2.2.2.2.2.2.2.2.2.2.2.2⟩ (256:Int)
      (m2 ⟨d0.2.2.2.2.2.2.2.2.2.2.1,d0.2.2.2.2.2.2.2.2.2.2.2.1,d0.2.2.2.2.2.2.2.2.2.2.2.2⟩ (256:Int))∧
      (0≤v20.2∧v20.2<(9223372036854775808:Int))∧
      let ha:((List ByteArray) × ByteArray × Int × Bool)→Prop:=fun bU=>
       cu bU.1 bU.2.1 bU.2.2.1 bU.2.2.2
      ∃kv:Nat→((List ByteArray) × ByteArray × Int × Bool)→Prop,kv 0 ([],v20.1.rest,v20.1.err,v20.1.made)∧(∀(i27:Nat) (d2:(List ByteArray) × ByteArray × Int × Bool),i27<Int.toNat v20.2→kv i27 d2→(
       let iT:=jL ⟨d2.2.1,d2.2.2.1,d2.2.2.2⟩
       (rG ⟨d2.2.1,d2.2.2.1,d2.2.2.2⟩)∧
       let fI:=fp iT.1
       ((fI.2 != 0)=true→(
        cu ([]:List ByteArray) fI.1.rest fI.1.err fI.1.made))∧((fI.2 != 0)=false→(
        let fJ:List ByteArray:=([iT.2]:List ByteArray)
        (List.length d2.1+List.length fJ≤maxLen∧(List.length d2.1+List.length fJ)*16≤140737488355328)∧
        kv (i27+1) ((List.append d2.1 fJ),fI.1.rest,fI.1.err,fI.1.made)))))∧∀bU,kv (Int.toNat v20.2) bU→ha bU))∧(((i14:Int)==3)=false→(
      (((i14:Int)==4)=true→(
       let cu:(List bC)→ByteArray→Int→Bool→Prop:=fun v21 v22 v23 v24=>
        gj d0.1 d0.2.1 d0.2.2.1 d0.2.2.2.1 v21 d0.2.2.2.2.2.1 d0.2.2.2.2.2.2.1 d0.2.2.2.2.2.2.2.1 d0.2.2.2.2.2.2.2.2.1 d0.2.2.2.2.2.2.2.2.2.1 v22 v23 v24
       let v21:=gi ⟨d0.2.2.2.2.2.2.2.2.2.2.1,d0.2.2.2.2.2.2.2.2.2.2.2.1,d0.2.2.2.2.2.2.2.2.2.2.2.2⟩ (256:Int)
       (m2 ⟨d0.2.2.2.2.2.2.2.2.2.2.1,d0.2.2.2.2.2.2.2.2.2.2.2.1,d0.2.2.2.2.2.2.2.2.2.2.2.2⟩ (256:Int))∧
       (0≤v21.2∧v21.2<(9223372036854775808:Int))∧
       let oq:((List bC) × ByteArray × Int × Bool)→Prop:=fun b7=>
        cu b7.1 b7.2.1 b7.2.2.1 b7.2.2.2
       ∃mn:Nat→((List bC) × ByteArray × Int × Bool)→Prop,mn 0 ([],v21.1.rest,v21.1.err,v21.1.made)∧(∀(i28:Nat) (d3:(List bC) × ByteArray × Int × Bool),i28<Int.toNat v21.2→mn i28 d3→(
        let v30:=Bt ⟨d3.2.1,d3.2.2.1,d3.2.2.2⟩
        (Fk ⟨d3.2.1,d3.2.2.1,d3.2.2.2⟩)∧
        let ez:=fp v30.1
        ((ez.2 != 0)=true→(
         cu ([]:List bC) ez.1.rest ez.1.err ez.1.made))∧((ez.2 != 0)=false→(
         let v37:List bC:=([v30.2]:List bC)
         (List.length d3.1+List.length v37≤maxLen∧(List.length d3.1+List.length v37)*80≤140737488355328)∧
         mn (i28+1) ((List.append d3.1 v37),ez.1.rest,ez.1.err,ez.1.made)))))∧∀b7,mn (Int.toNat v21.2) b7→oq b7))∧(((i14:Int)==4)=false→(
       (((i14:Int)==5)=true→(
        let cu:(List cm)→ByteArray→Int→Bool→Prop:=fun v22 v23 v24 v25=>
         gj d0.1 d0.2.1 d0.2.2.1 d0.2.2.2.1 d0.2.2.2.2.1 v22 d0.2.2.2.2.2.2.1 d0.2.2.2.2.2.2.2.1 d0.2.2.2.2.2.2.2.2.1 d0.2.2.2.2.2.2.2.2.2.1 v23 v24 v25
        let v22:=gi ⟨d0.2.2.2.2.2.2.2.2.2.2.1,d0.2.2.2.2.2.2.2.2.2.2.2.1,d0.2.2.2.2.2.2.2.2.2.2.2.2⟩ (256:Int)
        (m2 ⟨d0.2.2.2.2.2.2.2.2.2.2.1,d0.2.2.2.2.2.2.2.2.2.2.2.1,d0.2.2.2.2.2.2.2.2.2.2.2.2⟩ (256:Int))∧
        (0≤v22.2∧v22.2<(9223372036854775808:Int))∧
        let yv:((List cm) × ByteArray × Int × Bool)→Prop:=fun c2=>
         cu c2.1 c2.2.1 c2.2.2.1 c2.2.2.2
        ∃uH:Nat→((List cm) × ByteArray × Int × Bool)→Prop,uH 0 ([],v22.1.rest,v22.1.err,v22.1.made)∧(∀(i29:Nat) (d4:(List cm) × ByteArray × Int × Bool),i29<Int.toNat v22.2→uH i29 d4→(
         let v31:=Bu ⟨d4.2.1,d4.2.2.1,d4.2.2.2⟩
         (Fl ⟨d4.2.1,d4.2.2.1,d4.2.2.2⟩)∧
         let k1:=fp v31.1
         ((k1.2 != 0)=true→(
          cu ([]:List cm) k1.1.rest k1.1.err k1.1.made))∧((k1.2 != 0)=false→(
          let ky:List cm:=([v31.2]:List cm)
          (List.length d4.1+List.length ky≤maxLen∧(List.length d4.1+List.length ky)*32≤140737488355328)∧
          uH (i29+1) ((List.append d4.1 ky),k1.1.rest,k1.1.err,k1.1.made)))))∧∀c2,uH (Int.toNat v22.2) c2→yv c2))∧(((i14:Int)==5)=false→(
        (((i14:Int)==6)=true→(
         let v23:=pc ⟨d0.2.2.2.2.2.2.2.2.2.2.1,d0.2.2.2.2.2.2.2.2.2.2.2.1,d0.2.2.2.2.2.2.2.2.2.2.2.2⟩ (20000:Int)
         (Bp ⟨d0.2.2.2.2.2.2.2.2.2.2.1,d0.2.2.2.2.2.2.2.2.2.2.2.1,d0.2.2.2.2.2.2.2.2.2.2.2.2⟩ (20000:Int))∧
         gj d0.1 d0.2.1 d0.2.2.1 d0.2.2.2.1 d0.2.2.2.2.1 d0.2.2.2.2.2.1 v23.2 d0.2.2.2.2.2.2.2.1 d0.2.2.2.2.2.2.2.2.1 d0.2.2.2.2.2.2.2.2.2.1 v23.1.rest v23.1.err v23.1.made))∧(((i14:Int)==6)=false→(
         (((i14:Int)==7)=true→(
          let cu:(List ch)→ByteArray→Int→Bool→Prop:=fun v24 v25 v26 dX=>
           gj d0.1 d0.2.1 d0.2.2.1 d0.2.2.2.1 d0.2.2.2.2.1 d0.2.2.2.2.2.1 d0.2.2.2.2.2.2.1 v24 d0.2.2.2.2.2.2.2.2.1 d0.2.2.2.2.2.2.2.2.2.1 v25 v26 dX
          let v24:=gi ⟨d0.2.2.2.2.2.2.2.2.2.2.1,d0.2.2.2.2.2.2.2.2.2.2.2.1,d0.2.2.2.2.2.2.2.2.2.2.2.2⟩ (256:Int)
          (m2 ⟨d0.2.2.2.2.2.2.2.2.2.2.1,d0.2.2.2.2.2.2.2.2.2.2.2.1,d0.2.2.2.2.2.2.2.2.2.2.2.2⟩ (256:Int))∧
          (0≤v24.2∧v24.2<(9223372036854775808:Int))∧
          let Ka:((List ch) × ByteArray × Int × Bool)→Prop:=fun dT=>
           cu dT.1 dT.2.1 dT.2.2.1 dT.2.2.2
          ∃Fp:Nat→((List ch) × ByteArray × Int × Bool)→Prop,Fp 0 ([],v24.1.rest,v24.1.err,v24.1.made)∧(∀(i31:Nat) (d5:(List ch) × ByteArray × Int × Bool),i31<Int.toNat v24.2→Fp i31 d5→(
           let ez:=Bv ⟨d5.2.1,d5.2.2.1,d5.2.2.2⟩
           (Fm ⟨d5.2.1,d5.2.2.1,d5.2.2.2⟩)∧
           let fJ:=fp ez.1
           ((fJ.2 != 0)=true→(
            cu ([]:List ch) fJ.1.rest fJ.1.err fJ.1.made))∧((fJ.2 != 0)=false→(
            let v40:List ch:=([ez.2]:List ch)
            (List.length d5.1+List.length v40≤maxLen∧(List.length d5.1+List.length v40)*40≤140737488355328)∧
            Fp (i31+1) ((List.append d5.1 v40),fJ.1.rest,fJ.1.err,fJ.1.made)))))∧∀dT,Fp (Int.toNat v24.2) dT→Ka dT))∧(((i14:Int)==7)=false→(
          (((i14:Int)==8)=true→(
           let v25:=eg ⟨d0.2.2.2.2.2.2.2.2.2.2.1,d0.2.2.2.2.2.2.2.2.2.2.2.1,d0.2.2.2.2.2.2.2.2.2.2.2.2⟩
           (iR ⟨d0.2.2.2.2.2.2.2.2.2.2.1,d0.2.2.2.2.2.2.2.2.2.2.2.1,d0.2.2.2.2.2.2.2.2.2.2.2.2⟩)∧
           gj d0.1 d0.2.1 d0.2.2.1 d0.2.2.2.1 d0.2.2.2.2.1 d0.2.2.2.2.2.1 d0.2.2.2.2.2.2.1 d0.2.2.2.2.2.2.2.1 v25.2 d0.2.2.2.2.2.2.2.2.2.1 v25.1.rest v25.1.err v25.1.made))∧(((i14:Int)==8)=false→(
           (((i14:Int)==9)=true→(
            let v26:=rH ⟨d0.2.2.2.2.2.2.2.2.2.2.1,d0.2.2.2.2.2.2.2.2.2.2.2.1,d0.2.2.2.2.2.2.2.2.2.2.2.2⟩ (256:Int)
            (Bw ⟨d0.2.2.2.2.2.2.2.2.2.2.1,d0.2.2.2.2.2.2.2.2.2.2.2.1,d0.2.2.2.2.2.2.2.2.2.2.2.2⟩ (256:Int))∧
            gj d0.1 d0.2.1 d0.2.2.1 d0.2.2.2.1 d0.2.2.2.2.1 d0.2.2.2.2.2.1 d0.2.2.2.2.2.2.1 d0.2.2.2.2.2.2.2.1 d0.2.2.2.2.2.2.2.2.1 v26.2 v26.1.rest v26.1.err v26.1.made))∧(((i14:Int)==9)=false→(
            gj d0.1 d0.2.1 d0.2.2.1 d0.2.2.2.1 d0.2.2.2.2.1 d0.2.2.2.2.2.1 d0.2.2.2.2.2.2.1 d0.2.2.2.2.2.2.2.1 d0.2.2.2.2.2.2.2.2.1 d0.2.2.2.2.2.2.2.2.2.1 d0.2.2.2.2.2.2.2.2.2.2.1 d0.2.2.2.2.2.2.2.2.2.2.2.1 d0.2.2.2.2.2.2.2.2.2.2.2.2)))))))))))))))))))))
noncomputable def gk(x0:bm):bm × Int:=
 bif !x0.made then
  (x0,15)
 else
  (x0,x0.bad)
noncomputable def eb(x0:bm):bm × Int:=
 let v1:=gk x0
 bif(v1.2 != 0)then
  (v1.1,0)
 else
  Sum.elim (fun r=>r) (fun aZ=>
   (v1.1,0))
  (bJ (fun(i6:Nat) (aB:Int)=>
   show Step (bm × Int) (Int)from
   bif(decide ((IntKind.wrap .i64 (v1.1.at_+(i6:Int)))≥(ByteArray.size v1.1.s:Int)))then
    .ret (⟨v1.1.s,v1.1.at_,5,v1.1.made⟩,0)
   else
    let v12:Int:=m1 v1.1.s (IntKind.wrap .i64 (v1.1.at_+(i6:Int)))
    bif(((decide ((i6:Int)>0))&&(v12==0))||(((i6:Int)==9)&&(decide (v12>1))))then
     .ret (⟨v1.1.s,v1.1.at_,4,v1.1.made⟩,0)
    else
     let v24:Int:=dw .or .u64 aB (dw .shl .u64 (IntKind.wrap .u64 (dw .rem .u8 v12 (128:Int))) (IntKind.wrap .i64 ((7:Int)*(i6:Int))))
     bif(decide (v12<128))then
      let iT:Int:=IntKind.wrap .i64 (dw .shr .u64 v24 (1:Int))
      let bp:Int→Step (bm × Int) (Int):=fun v30=>
       .ret (⟨v1.1.s,(IntKind.wrap .i64 ((IntKind.wrap .i64 (v1.1.at_+(i6:Int)))+(1:Int))),v1.1.bad,v1.1.made⟩,v30)
      bif((dw .rem .u64 v24 (2:Int))==1)then
       bp (IntKind.wrap .i64 (((-1):Int)-iT))
      else
       bp iT
     else
      .bM v24) 0 (Int.toNat (10:Int)) 0:(bm × Int)⊕(Int))
def hO(x0:bm):Prop:=
 let v1:=gk x0
 ((v1.2 != 0)=false→(
  ∃bq:Nat→(Int)→Prop,bq 0 0∧∀(i6:Nat) (d0:Int),i6<Int.toNat (10:Int)→bq i6 d0→(
   ((decide ((IntKind.wrap .i64 (v1.1.at_+(i6:Int)))≥(ByteArray.size v1.1.s:Int)))=false→(
    let v11:Int:=IntKind.wrap .i64 (v1.1.at_+(i6:Int))
    let v12:Int:=m1 v1.1.s v11
    (0≤v11∧v11<(ByteArray.size v1.1.s:Int))∧
    ((((decide ((i6:Int)>0))&&(v12==0))||(((i6:Int)==9)&&(decide (v12>1))))=false→(
     let v21:Int:=IntKind.wrap .u64 (dw .rem .u8 v12 (128:Int))
     let v22:Int:=IntKind.wrap .i64 ((7:Int)*(i6:Int))
     (0≤v22)∧
     let v24:Int:=dw .or .u64 d0 (dw .shl .u64 v21 v22)
     ((decide (v12<128))=false→(
      bq (i6+1) v24)))))))))
noncomputable def gT(x0:bm)(a7:Int):bm × Int:=
 let v2:=eb x0
 let bp:Int→bm × Int:=fun v5=>
  let ba:=gk v2.1
  bif(ba.2 != 0)then
   (ba.1,0)
  else
   bif(decide (v2.2<0))then
    (⟨ba.1.s,ba.1.at_,4,ba.1.made⟩,0)
   else
    bif(decide (v2.2>v5))then
     (⟨ba.1.s,ba.1.at_,3,ba.1.made⟩,0)
    else
     (ba.1,v2.2)
 bif(decide (a7<0))then
  bp (0:Int)
 else
  bp a7
def qm(x0:bm)(a7:Int):Prop:=
 let v2:=eb x0
 hO x0
noncomputable def gq(x0:bm)(a7:Int):bm × ByteArray:=
 let v2:=gT x0 a7
 let v5:=gk v2.1
 bif(v5.2 != 0)then
  (v5.1,⟨#[]⟩)
 else
  bif(decide (v2.2>(IntKind.wrap .i64 ((ByteArray.size v5.1.s:Int)-v5.1.at_))))then
   (⟨v5.1.s,v5.1.at_,5,v5.1.made⟩,⟨#[]⟩)
  else
   (⟨v5.1.s,(IntKind.wrap .i64 (v5.1.at_+v2.2)),v5.1.bad,v5.1.made⟩,(wu v5.1.s (some v5.1.at_) (some (IntKind.wrap .i64 (v5.1.at_+v2.2)))))
def lT(x0:bm)(a7:Int):Prop:=
 let v2:=gT x0 a7
 (qm x0 a7)∧
 let v5:=gk v2.1
 ((v5.2 != 0)=false→(
  ((decide (v2.2>(IntKind.wrap .i64 ((ByteArray.size v5.1.s:Int)-v5.1.at_))))=false→(
   let v12:Int:=IntKind.wrap .i64 (v5.1.at_+v2.2)
   sR (ByteArray.size v5.1.s) (some v5.1.at_) (some v12)))))
noncomputable def Fq(x0:bm)(a7:Int):bm:=
 let v2:=gk x0
 bif(v2.2==0)then
  ⟨v2.1.s,v2.1.at_,a7,v2.1.made⟩
 else
  v2.1
noncomputable def wy(x0:dz):Int:=
 let cu:Int→Int→Int:=fun v1 v2=>
  bif((decide (x0.n<v1))||(decide (x0.n>v2)))then
   2
  else
   bif(decide ((ByteArray.size x0.s:Int)>60))then
    3
   else
    bif((iS .neq x0.s (⟨#[]⟩:ByteArray))&&(x0.kind != 4))then
     4
    else
     0
 let bp:Bool→Int:=fun v1=>
  bif v1 then
   cu (0:Int) (0:Int)
  else
   bif(x0.kind==1)then
    cu (0:Int) (1:Int)
   else
    bif(x0.kind==2)then
     cu ((-1099511627776):Int) (1099511627776:Int)
    else
     bif(x0.kind==3)then
      cu (0:Int) (63:Int)
     else
      7
 let v1:=x0.kind==0
 bif v1 then
  bp v1
 else
  bp (x0.kind==4)
noncomputable def wz(x0:bm):bm × dz:=
 let v1:=eb x0
 let bp:ByteArray→ByteArray→Int→Int→Bool→bm × dz:=fun v5 v6 ba cq v9=>
  let bp:Int→ByteArray→Int→Int→Bool→bm × dz:=fun cd cn cj b5 cV=>
   let cu:ByteArray→Int→Int→Bool→bm × dz:=fun v22 v23 v24 v25=>
    let v26:=gk ⟨v22,v23,v24,v25⟩
    bif(v26.2 != 0)then
     (v26.1,⟨0,0,⟨#[]⟩⟩)
    else
     (v26.1,⟨v1.2,cd,v5⟩)
   let cv:=gk ⟨cn,cj,b5,cV⟩
   let v21:=cv.2==0
   let bp:Int→bm × dz:=fun v22=>
    bif(v21&&(v22 != 0))then
     let v25:=Fq cv.1 (4:Int)
     cu v25.s v25.at_ v25.bad v25.made
    else
     cu cv.1.s cv.1.at_ cv.1.bad cv.1.made
   bif v21 then
    bp (wy ⟨v1.2,cd,v5⟩)
   else
    bp (0:Int)
  bif((decide (v1.2≥1))&&(decide (v1.2≤3)))then
   let cd:=eb ⟨v6,ba,cq,v9⟩
   bp cd.2 cd.1.s cd.1.at_ cd.1.bad cd.1.made
  else
   bp (0:Int) v6 ba cq v9
 bif(v1.2==4)then
  let v5:=gq v1.1 (60:Int)
  bp v5.2 v5.1.s v5.1.at_ v5.1.bad v5.1.made
 else
  bp (⟨#[]⟩:ByteArray) v1.1.s v1.1.at_ v1.1.bad v1.1.made
def By(x0:bm):Prop:=
 let v1:=eb x0
 (hO x0)∧
 let bp:ByteArray→ByteArray→Int→Int→Bool→Prop:=fun v5 v6 ba cq v9=>
  (((decide (v1.2≥1))&&(decide (v1.2≤3)))=true→(
   let cd:=eb ⟨v6,ba,cq,v9⟩
   hO ⟨v6,ba,cq,v9⟩))
 ((v1.2==4)=true→(
  let v5:=gq v1.1 (60:Int)
  (lT v1.1 (60:Int))∧
  bp v5.2 v5.1.s v5.1.at_ v5.1.bad v5.1.made))∧((v1.2==4)=false→(
  bp (⟨#[]⟩:ByteArray) v1.1.s v1.1.at_ v1.1.bad v1.1.made))
noncomputable def qn(x0:bm):bm × (List bk):=
 let v1:=gT x0 (256:Int)
 Sum.elim (fun r=>r) (fun aZ=>
  (⟨aZ.2.2.1,aZ.2.2.2.1,aZ.2.2.2.2.1,aZ.2.2.2.2.2⟩,aZ.2.1))
 (dA (fun(aB:Int × (List bk) × ByteArray × Int × Int × Bool)=>
  show Step (bm × (List bk)) (Int × (List bk) × ByteArray × Int × Int × Bool)from
  let v10:=decide (aB.1<v1.2)
  let bp:Int→ByteArray→Int→Int→Bool→Step (bm × (List bk)) (Int × (List bk) × ByteArray × Int × Int × Bool):=fun v11 v12 cd cn cj=>
   bif(v10&&(v11==0))then
    let cv:=eb ⟨v12,cd,cn,cj⟩
    let v21:=gq cv.1 (60:Int)
    let v24:=gq v21.1 (60:Int)
    let dX:=wz v24.1
    let v30:=eb dX.1
    .bM ((IntKind.wrap .i64 (aB.1+(1:Int))),(List.append aB.2.1 ([⟨⟨cv.2,v21.2,v24.2⟩,⟨dX.2.kind,dX.2.n,dX.2.s⟩,v30.2⟩]:List bk)),v30.1.s,v30.1.at_,v30.1.bad,v30.1.made)
   else
    .c9 (aB.1,aB.2.1,v12,cd,cn,cj)
  bif v10 then
   let v11:=gk ⟨aB.2.2.1,aB.2.2.2.1,aB.2.2.2.2.1,aB.2.2.2.2.2⟩
   bp v11.2 v11.1.s v11.1.at_ v11.1.bad v11.1.made
  else
   bp (0:Int) aB.2.2.1 aB.2.2.2.1 aB.2.2.2.2.1 aB.2.2.2.2.2) dt (0,[],v1.1.s,v1.1.at_,v1.1.bad,v1.1.made):(bm × (List bk))⊕(Int × (List bk) × ByteArray × Int × Int × Bool))
def wA(x0:bm):Prop:=
 let v1:=gT x0 (256:Int)
 (qm x0 (256:Int))∧
 ∃(bq:(Int × (List bk) × ByteArray × Int × Int × Bool)→Prop) (fO:(Int × (List bk) × ByteArray × Int × Int × Bool)→Nat),bq (0,[],v1.1.s,v1.1.at_,v1.1.bad,v1.1.made)∧fO (0,[],v1.1.s,v1.1.at_,v1.1.bad,v1.1.made)<dt∧∀(d0:Int × (List bk) × ByteArray × Int × Int × Bool),bq d0→(
  let v10:=decide (d0.1<v1.2)
  let bp:Int→ByteArray→Int→Int→Bool→Prop:=fun v11 v12 cd cn cj=>
   ((v10&&(v11==0))=true→(
    let cv:=eb ⟨v12,cd,cn,cj⟩
    (hO ⟨v12,cd,cn,cj⟩)∧
    let v21:=gq cv.1 (60:Int)
    (lT cv.1 (60:Int))∧
    let v24:=gq v21.1 (60:Int)
    (lT v21.1 (60:Int))∧
    let dX:=wz v24.1
    (By v24.1)∧
    let v30:=eb dX.1
    (hO dX.1)∧
    let ez:List bk:=([⟨⟨cv.2,v21.2,v24.2⟩,⟨dX.2.kind,dX.2.n,dX.2.s⟩,v30.2⟩]:List bk)
    (List.length d0.2.1+List.length ez≤maxLen∧(List.length d0.2.1+List.length ez)*80≤140737488355328)∧
    bq ((IntKind.wrap .i64 (d0.1+(1:Int))),(List.append d0.2.1 ez),v30.1.s,v30.1.at_,v30.1.bad,v30.1.made)∧fO ((IntKind.wrap .i64 (d0.1+(1:Int))),(List.append d0.2.1 ez),v30.1.s,v30.1.at_,v30.1.bad,v30.1.made)<fO d0))
  (v10=true→(
   let v11:=gk ⟨d0.2.2.1,d0.2.2.2.1,d0.2.2.2.2.1,d0.2.2.2.2.2⟩
   bp v11.2 v11.1.s v11.1.at_ v11.1.bad v11.1.made))∧(v10=false→(
   bp (0:Int) d0.2.2.1 d0.2.2.2.1 d0.2.2.2.2.1 d0.2.2.2.2.2)))
noncomputable def uI(x0:bm):bm × bS:=
 let v1:=eb x0
 let v4:=eb v1.1
 let ba:=eb v4.1
 let v10:=qn ba.1
 let cd:=qn v10.1
 let b5:=eb cd.1
 let b3:=eb b5.1
 let v22:=eb b3.1
 let v25:=eb v22.1
 (v25.1,⟨v1.2,v4.2,ba.2,v10.2,cd.2,b5.2,b3.2,v22.2,v25.2⟩)
def Bz(x0:bm):Prop:=
 let v1:=eb x0
 (hO x0)∧
 let v4:=eb v1.1
 (hO v1.1)∧
 let ba:=eb v4.1
 (hO v4.1)∧
 let v10:=qn ba.1
 (wA ba.1)∧
 let cd:=qn v10.1
 (wA v10.1)∧
 let b5:=eb cd.1
 (hO cd.1)∧
 let b3:=eb b5.1
 (hO b5.1)∧
 let v22:=eb b3.1
 (hO b3.1)∧
 let v25:=eb v22.1
 hO v22.1
noncomputable def qo(x0:bm):bm × (List ByteArray):=
 let v1:=gT x0 (256:Int)
 Sum.elim (fun r=>r) (fun aZ=>
  (⟨aZ.2.2.1,aZ.2.2.2.1,aZ.2.2.2.2.1,aZ.2.2.2.2.2⟩,aZ.2.1))
 (dA (fun(aB:Int × (List ByteArray) × ByteArray × Int × Int × Bool)=>
  show Step (bm × (List ByteArray)) (Int × (List ByteArray) × ByteArray × Int × Int × Bool)from
  let v10:=decide (aB.1<v1.2)
  let bp:Int→ByteArray→Int→Int→Bool→Step (bm × (List ByteArray)) (Int × (List ByteArray) × ByteArray × Int × Int × Bool):=fun v11 v12 cd cn cj=>
   bif(v10&&(v11==0))then
    let cv:=gq ⟨v12,cd,cn,cj⟩ (60:Int)
    .bM ((IntKind.wrap .i64 (aB.1+(1:Int))),(List.append aB.2.1 ([cv.2]:List ByteArray)),cv.1.s,cv.1.at_,cv.1.bad,cv.1.made)
   else
    .c9 (aB.1,aB.2.1,v12,cd,cn,cj)
  bif v10 then
   let v11:=gk ⟨aB.2.2.1,aB.2.2.2.1,aB.2.2.2.2.1,aB.2.2.2.2.2⟩
   bp v11.2 v11.1.s v11.1.at_ v11.1.bad v11.1.made
  else
   bp (0:Int) aB.2.2.1 aB.2.2.2.1 aB.2.2.2.2.1 aB.2.2.2.2.2) dt (0,[],v1.1.s,v1.1.at_,v1.1.bad,v1.1.made):(bm × (List ByteArray))⊕(Int × (List ByteArray) × ByteArray × Int × Int × Bool))
def yw(x0:bm):Prop:=
 let v1:=gT x0 (256:Int)
 (qm x0 (256:Int))∧
 ∃(bq:(Int × (List ByteArray) × ByteArray × Int × Int × Bool)→Prop) (fO:(Int × (List ByteArray) × ByteArray × Int × Int × Bool)→Nat),bq (0,[],v1.1.s,v1.1.at_,v1.1.bad,v1.1.made)∧fO (0,[],v1.1.s,v1.1.at_,v1.1.bad,v1.1.made)<dt∧∀(d0:Int × (List ByteArray) × ByteArray × Int × Int × Bool),bq d0→(
  let v10:=decide (d0.1<v1.2)
  let bp:Int→ByteArray→Int→Int→Bool→Prop:=fun v11 v12 cd cn cj=>
   ((v10&&(v11==0))=true→(
    let cv:=gq ⟨v12,cd,cn,cj⟩ (60:Int)
    (lT ⟨v12,cd,cn,cj⟩ (60:Int))∧
    let v21:List ByteArray:=([cv.2]:List ByteArray)
    (List.length d0.2.1+List.length v21≤maxLen∧(List.length d0.2.1+List.length v21)*16≤140737488355328)∧
    bq ((IntKind.wrap .i64 (d0.1+(1:Int))),(List.append d0.2.1 v21),cv.1.s,cv.1.at_,cv.1.bad,cv.1.made)∧fO ((IntKind.wrap .i64 (d0.1+(1:Int))),(List.append d0.2.1 v21),cv.1.s,cv.1.at_,cv.1.bad,cv.1.made)<fO d0))
  (v10=true→(
   let v11:=gk ⟨d0.2.2.1,d0.2.2.2.1,d0.2.2.2.2.1,d0.2.2.2.2.2⟩
   bp v11.2 v11.1.s v11.1.at_ v11.1.bad v11.1.made))∧(v10=false→(
   bp (0:Int) d0.2.2.1 d0.2.2.2.1 d0.2.2.2.2.1 d0.2.2.2.2.2)))
noncomputable def wB(x0:bm):bm × Bool:=
 let v1:=gk x0
 bif(v1.2 != 0)then
  (v1.1,false)
 else
  bif(decide (v1.1.at_≥(ByteArray.size v1.1.s:Int)))then
   (⟨v1.1.s,v1.1.at_,5,v1.1.made⟩,false)
  else
   let ba:Int:=m1 v1.1.s v1.1.at_
   bif(decide (ba>1))then
    (⟨v1.1.s,v1.1.at_,4,v1.1.made⟩,false)
   else
    (⟨v1.1.s,(IntKind.wrap .i64 (v1.1.at_+(1:Int))),v1.1.bad,v1.1.made⟩,(ba==1))
def BA(x0:bm):Prop:=
 let v1:=gk x0
 ((v1.2 != 0)=false→(
  ((decide (v1.1.at_≥(ByteArray.size v1.1.s:Int)))=false→(
   let ba:Int:=m1 v1.1.s v1.1.at_
   0≤v1.1.at_∧v1.1.at_<(ByteArray.size v1.1.s:Int)))))
noncomputable def uJ(x0:bm):bm × bC:=
 let v1:=gq x0 (60:Int)
 let v4:=eb v1.1
 let ba:=gT v4.1 (256:Int)
 Sum.elim (fun r=>r) (fun aZ=>
  let b5:=qo ⟨aZ.2.2.1,aZ.2.2.2.1,aZ.2.2.2.2.1,aZ.2.2.2.2.2⟩
  let b3:=wB b5.1
  (b3.1,⟨v1.2,v4.2,aZ.2.1,b5.2,b3.2⟩))
 (dA (fun(aB:Int × (List cG) × ByteArray × Int × Int × Bool)=>
  show Step (bm × bC) (Int × (List cG) × ByteArray × Int × Int × Bool)from
  let b5:=decide (aB.1<ba.2)
  let bp:Int→ByteArray→Int→Int→Bool→Step (bm × bC) (Int × (List cG) × ByteArray × Int × Int × Bool):=fun cV cv b3 v20 v21=>
   bif(b5&&(cV==0))then
    let v24:=eb ⟨cv,b3,v20,v21⟩
    let dX:=eb v24.1
    .bM ((IntKind.wrap .i64 (aB.1+(1:Int))),(List.append aB.2.1 ([⟨v24.2,dX.2⟩]:List cG)),dX.1.s,dX.1.at_,dX.1.bad,dX.1.made)
   else
    .c9 (aB.1,aB.2.1,cv,b3,v20,v21)
  bif b5 then
   let cV:=gk ⟨aB.2.2.1,aB.2.2.2.1,aB.2.2.2.2.1,aB.2.2.2.2.2⟩
   bp cV.2 cV.1.s cV.1.at_ cV.1.bad cV.1.made
  else
   bp (0:Int) aB.2.2.1 aB.2.2.2.1 aB.2.2.2.2.1 aB.2.2.2.2.2) dt (0,[],ba.1.s,ba.1.at_,ba.1.bad,ba.1.made):(bm × bC)⊕(Int × (List cG) × ByteArray × Int × Int × Bool))
def BB(x0:bm):Prop:=
 let v1:=gq x0 (60:Int)
 (lT x0 (60:Int))∧
 let v4:=eb v1.1
 (hO v1.1)∧
 let ba:=gT v4.1 (256:Int)
 (qm v4.1 (256:Int))∧
 let aW:(Int × (List cG) × ByteArray × Int × Int × Bool)→Prop:=fun aZ=>
  let b5:=qo ⟨aZ.2.2.1,aZ.2.2.2.1,aZ.2.2.2.2.1,aZ.2.2.2.2.2⟩
  (yw ⟨aZ.2.2.1,aZ.2.2.2.1,aZ.2.2.2.2.1,aZ.2.2.2.2.2⟩)∧
  let b3:=wB b5.1
  BA b5.1
 ∃(bq:(Int × (List cG) × ByteArray × Int × Int × Bool)→Prop) (fO:(Int × (List cG) × ByteArray × Int × Int × Bool)→Nat),bq (0,[],ba.1.s,ba.1.at_,ba.1.bad,ba.1.made)∧fO (0,[],ba.1.s,ba.1.at_,ba.1.bad,ba.1.made)<dt∧∀(d0:Int × (List cG) × ByteArray × Int × Int × Bool),bq d0→(
  let b5:=decide (d0.1<ba.2)
  let bp:Int→ByteArray→Int→Int→Bool→Prop:=fun cV cv b3 v20 v21=>
   ((b5&&(cV==0))=true→(
    let v24:=eb ⟨cv,b3,v20,v21⟩
    (hO ⟨cv,b3,v20,v21⟩)∧
    let dX:=eb v24.1
    (hO v24.1)∧
    let v30:List cG:=([⟨v24.2,dX.2⟩]:List cG)
    (List.length d0.2.1+List.length v30≤maxLen∧(List.length d0.2.1+List.length v30)*16≤140737488355328)∧
    bq ((IntKind.wrap .i64 (d0.1+(1:Int))),(List.append d0.2.1 v30),dX.1.s,dX.1.at_,dX.1.bad,dX.1.made)∧fO ((IntKind.wrap .i64 (d0.1+(1:Int))),(List.append d0.2.1 v30),dX.1.s,dX.1.at_,dX.1.bad,dX.1.made)<fO d0))∧((b5&&(cV==0))=false→(
    aW (d0.1,d0.2.1,cv,b3,v20,v21)))
  (b5=true→(
   let cV:=gk ⟨d0.2.2.1,d0.2.2.2.1,d0.2.2.2.2.1,d0.2.2.2.2.2⟩
   bp cV.2 cV.1.s cV.1.at_ cV.1.bad cV.1.made))∧(b5=false→(
   bp (0:Int) d0.2.2.1 d0.2.2.2.1 d0.2.2.2.2.1 d0.2.2.2.2.2)))
noncomputable def wC(x0:bm)(a7:Int):bm × (List Int):=
 let v2:=gT x0 a7
 Sum.elim (fun r=>r) (fun aZ=>
  (⟨aZ.2.1,aZ.2.2.1,aZ.2.2.2.1,aZ.2.2.2.2⟩,aZ.1))
 (bJ (fun(i10:Nat) (aB:(List Int) × ByteArray × Int × Int × Bool)=>
  show Step (bm × (List Int)) ((List Int) × ByteArray × Int × Int × Bool)from
  let v12:=eb ⟨aB.2.1,aB.2.2.1,aB.2.2.2.1,aB.2.2.2.2⟩
  let cj:=gk v12.1
  bif(cj.2 != 0)then
   .ret (cj.1,[])
  else
   .bM ((List.append aB.1 ([v12.2]:List Int)),cj.1.s,cj.1.at_,cj.1.bad,cj.1.made)) 0 (Int.toNat v2.2) ([],v2.1.s,v2.1.at_,v2.1.bad,v2.1.made):(bm × (List Int))⊕((List Int) × ByteArray × Int × Int × Bool))
def BC(x0:bm)(a7:Int):Prop:=
 let v2:=gT x0 a7
 (qm x0 a7)∧
 (0≤v2.2∧v2.2<(9223372036854775808:Int))∧
 ∃bq:Nat→((List Int) × ByteArray × Int × Int × Bool)→Prop,bq 0 ([],v2.1.s,v2.1.at_,v2.1.bad,v2.1.made)∧∀(i10:Nat) (d0:(List Int) × ByteArray × Int × Int × Bool),i10<Int.toNat v2.2→bq i10 d0→(
  let v12:=eb ⟨d0.2.1,d0.2.2.1,d0.2.2.2.1,d0.2.2.2.2⟩
  (hO ⟨d0.2.1,d0.2.2.1,d0.2.2.2.1,d0.2.2.2.2⟩)∧
  let cj:=gk v12.1
  ((cj.2 != 0)=false→(
   let b3:List Int:=([v12.2]:List Int)
   (List.length d0.1+List.length b3≤maxLen∧(List.length d0.1+List.length b3)*8≤140737488355328)∧
   bq (i10+1) ((List.append d0.1 b3),cj.1.s,cj.1.at_,cj.1.bad,cj.1.made))))
noncomputable def uK(x0:bm):bm × Int:=
 let v1:=gk x0
 bif(v1.2 != 0)then
  let v5:=gk v1.1
  (v5.1,v5.2)
 else
  bif(decide (v1.1.at_<(ByteArray.size v1.1.s:Int)))then
   (v1.1,23)
  else
   (v1.1,0)
noncomputable def yx(x0:ByteArray):bG × Int:=
 let v1:=eb ⟨x0,0,0,true⟩
 let v4:=gq v1.1 (60:Int)
 let ba:=gT v4.1 (256:Int)
 Sum.elim (fun r=>r) (fun aZ=>
  let b5:=qo ⟨aZ.2.2.1,aZ.2.2.2.1,aZ.2.2.2.2.1,aZ.2.2.2.2.2⟩
  let b3:=gT b5.1 (256:Int)
  Sum.elim (fun r=>r) (fun aB=>
   let v28:=gT ⟨aB.2.2.1,aB.2.2.2.1,aB.2.2.2.2.1,aB.2.2.2.2.2⟩ (256:Int)
   Sum.elim (fun r=>r) (fun bU=>
    let v37:=gq ⟨bU.2.2.1,bU.2.2.2.1,bU.2.2.2.2.1,bU.2.2.2.2.2⟩ (20000:Int)
    let v40:=gT v37.1 (256:Int)
    Sum.elim (fun r=>r) (fun b7=>
     let v49:=eb ⟨b7.2.2.1,b7.2.2.2.1,b7.2.2.2.2.1,b7.2.2.2.2.2⟩
     let ot:=wC v49.1 (256:Int)
     let sV:=uK ot.1
     bif(sV.2 != 0)then
      let v59:=uK sV.1
      (⟨0,⟨#[]⟩,[],[],[],[],⟨#[]⟩,[],0,[]⟩,v59.2)
     else
      (⟨v1.2,v4.2,aZ.2.1,b5.2,aB.2.1,bU.2.1,v37.2,b7.2.1,v49.2,ot.2⟩,0))
    (dA (fun(c2:Int × (List ch) × ByteArray × Int × Int × Bool)=>
     show Step (bG × Int) (Int × (List ch) × ByteArray × Int × Int × Bool)from
     let v49:=decide (c2.1<v40.2)
     let bp:Int→ByteArray→Int→Int→Bool→Step (bG × Int) (Int × (List ch) × ByteArray × Int × Int × Bool):=fun mo v51 ot v53 yy=>
      bif(v49&&(mo==0))then
       let ou:=gq ⟨v51,ot,v53,yy⟩ (60:Int)
       let j7:=qn ou.1
       .bM ((IntKind.wrap .i64 (c2.1+(1:Int))),(List.append c2.2.1 ([⟨ou.2,j7.2⟩]:List ch)),j7.1.s,j7.1.at_,j7.1.bad,j7.1.made)
      else
       .c9 (c2.1,c2.2.1,v51,ot,v53,yy)
     bif v49 then
      let mo:=gk ⟨c2.2.2.1,c2.2.2.2.1,c2.2.2.2.2.1,c2.2.2.2.2.2⟩
      bp mo.2 mo.1.s mo.1.at_ mo.1.bad mo.1.made
     else
      bp (0:Int) c2.2.2.1 c2.2.2.2.1 c2.2.2.2.2.1 c2.2.2.2.2.2) dt (0,[],v40.1.s,v40.1.at_,v40.1.bad,v40.1.made):(bG × Int)⊕(Int × (List ch) × ByteArray × Int × Int × Bool)))
   (dA (fun(dT:Int × (List cm) × ByteArray × Int × Int × Bool)=>
    show Step (bG × Int) (Int × (List cm) × ByteArray × Int × Int × Bool)from
    let v37:=decide (dT.1<v28.2)
    let bp:Int→ByteArray→Int→Int→Bool→Step (bG × Int) (Int × (List cm) × ByteArray × Int × Int × Bool):=fun ky qp v40 yz yA=>
     bif(v37&&(ky==0))then
      let ov:=gq ⟨qp,v40,yz,yA⟩ (60:Int)
      let ow:=eb ov.1
      let v51:=eb ow.1
      .bM ((IntKind.wrap .i64 (dT.1+(1:Int))),(List.append dT.2.1 ([⟨ov.2,⟨ow.2,(IntKind.wrap .u64 v51.2)⟩⟩]:List cm)),v51.1.s,v51.1.at_,v51.1.bad,v51.1.made)
     else
      .c9 (dT.1,dT.2.1,qp,v40,yz,yA)
    bif v37 then
     let ky:=gk ⟨dT.2.2.1,dT.2.2.2.1,dT.2.2.2.2.1,dT.2.2.2.2.2⟩
     bp ky.2 ky.1.s ky.1.at_ ky.1.bad ky.1.made
    else
     bp (0:Int) dT.2.2.1 dT.2.2.2.1 dT.2.2.2.2.1 dT.2.2.2.2.2) dt (0,[],v28.1.s,v28.1.at_,v28.1.bad,v28.1.made):(bG × Int)⊕(Int × (List cm) × ByteArray × Int × Int × Bool)))
  (dA (fun(fo:Int × (List bC) × ByteArray × Int × Int × Bool)=>
   show Step (bG × Int) (Int × (List bC) × ByteArray × Int × Int × Bool)from
   let v28:=decide (fo.1<b3.2)
   let bp:Int→ByteArray→Int→Int→Bool→Step (bG × Int) (Int × (List bC) × ByteArray × Int × Int × Bool):=fun iT v30 v31 fI ez=>
    bif(v28&&(iT==0))then
     let fJ:=uJ ⟨v30,v31,fI,ez⟩
     .bM ((IntKind.wrap .i64 (fo.1+(1:Int))),(List.append fo.2.1 ([fJ.2]:List bC)),fJ.1.s,fJ.1.at_,fJ.1.bad,fJ.1.made)
    else
     .c9 (fo.1,fo.2.1,v30,v31,fI,ez)
   bif v28 then
    let iT:=gk ⟨fo.2.2.1,fo.2.2.2.1,fo.2.2.2.2.1,fo.2.2.2.2.2⟩
    bp iT.2 iT.1.s iT.1.at_ iT.1.bad iT.1.made
   else
    bp (0:Int) fo.2.2.1 fo.2.2.2.1 fo.2.2.2.2.1 fo.2.2.2.2.2) dt (0,[],b3.1.s,b3.1.at_,b3.1.bad,b3.1.made):(bG × Int)⊕(Int × (List bC) × ByteArray × Int × Int × Bool)))
 (dA (fun(fh:Int × (List bS) × ByteArray × Int × Int × Bool)=>
  show Step (bG × Int) (Int × (List bS) × ByteArray × Int × Int × Bool)from
  let b5:=decide (fh.1<ba.2)
  let bp:Int→ByteArray→Int→Int→Bool→Step (bG × Int) (Int × (List bS) × ByteArray × Int × Int × Bool):=fun cV cv b3 v20 v21=>
   bif(b5&&(cV==0))then
    let v24:=uI ⟨cv,b3,v20,v21⟩
    .bM ((IntKind.wrap .i64 (fh.1+(1:Int))),(List.append fh.2.1 ([v24.2]:List bS)),v24.1.s,v24.1.at_,v24.1.bad,v24.1.made)
   else
    .c9 (fh.1,fh.2.1,cv,b3,v20,v21)
  bif b5 then
   let cV:=gk ⟨fh.2.2.1,fh.2.2.2.1,fh.2.2.2.2.1,fh.2.2.2.2.2⟩
   bp cV.2 cV.1.s cV.1.at_ cV.1.bad cV.1.made
  else
   bp (0:Int) fh.2.2.1 fh.2.2.2.1 fh.2.2.2.2.1 fh.2.2.2.2.2) dt (0,[],ba.1.s,ba.1.at_,ba.1.bad,ba.1.made):(bG × Int)⊕(Int × (List bS) × ByteArray × Int × Int × Bool))
def Fs(x0:ByteArray):Prop:=
 let v1:=eb ⟨x0,0,0,true⟩
 (hO ⟨x0,0,0,true⟩)∧
 let v4:=gq v1.1 (60:Int)
 (lT v1.1 (60:Int))∧
 let ba:=gT v4.1 (256:Int)
 (qm v4.1 (256:Int))∧
 let aW:(Int × (List bS) × ByteArray × Int × Int × Bool)→Prop:=fun aZ=>
  let b5:=qo ⟨aZ.2.2.1,aZ.2.2.2.1,aZ.2.2.2.2.1,aZ.2.2.2.2.2⟩
  (yw ⟨aZ.2.2.1,aZ.2.2.2.1,aZ.2.2.2.2.1,aZ.2.2.2.2.2⟩)∧
  let b3:=gT b5.1 (256:Int)
  (qm b5.1 (256:Int))∧
  let fm:(Int × (List bC) × ByteArray × Int × Int × Bool)→Prop:=fun aB=>
   let v28:=gT ⟨aB.2.2.1,aB.2.2.2.1,aB.2.2.2.2.1,aB.2.2.2.2.2⟩ (256:Int)
   (qm ⟨aB.2.2.1,aB.2.2.2.1,aB.2.2.2.2.1,aB.2.2.2.2.2⟩ (256:Int))∧
   let ha:(Int × (List cm) × ByteArray × Int × Int × Bool)→Prop:=fun bU=>
    let v37:=gq ⟨bU.2.2.1,bU.2.2.2.1,bU.2.2.2.2.1,bU.2.2.2.2.2⟩ (20000:Int)
    (lT ⟨bU.2.2.1,bU.2.2.2.1,bU.2.2.2.2.1,bU.2.2.2.2.2⟩ (20000:Int))∧
    let v40:=gT v37.1 (256:Int)
    (qm v37.1 (256:Int))∧
    let oq:(Int × (List ch) × ByteArray × Int × Int × Bool)→Prop:=fun b7=>
     let v49:=eb ⟨b7.2.2.1,b7.2.2.2.1,b7.2.2.2.2.1,b7.2.2.2.2.2⟩
     (hO ⟨b7.2.2.1,b7.2.2.2.1,b7.2.2.2.2.1,b7.2.2.2.2.2⟩)∧
     let ot:=wC v49.1 (256:Int)
     BC v49.1 (256:Int)
    ∃(mn:(Int × (List ch) × ByteArray × Int × Int × Bool)→Prop) (wD:(Int × (List ch) × ByteArray × Int × Int × Bool)→Nat),mn (0,[],v40.1.s,v40.1.at_,v40.1.bad,v40.1.made)∧wD (0,[],v40.1.s,v40.1.at_,v40.1.bad,v40.1.made)<dt∧∀(d3:Int × (List ch) × ByteArray × Int × Int × Bool),mn d3→(
     let v49:=decide (d3.1<v40.2)
     let bp:Int→ByteArray→Int→Int→Bool→Prop:=fun mo v51 ot v53 yy=>
      ((v49&&(mo==0))=true→(
       let ou:=gq ⟨v51,ot,v53,yy⟩ (60:Int)
       (lT ⟨v51,ot,v53,yy⟩ (60:Int))∧
       let j7:=qn ou.1
       (wA ou.1)∧
       let Ft:List ch:=([⟨ou.2,j7.2⟩]:List ch)
       (List.length d3.2.1+List.length Ft≤maxLen∧(List.length d3.2.1+List.length Ft)*40≤140737488355328)∧
       mn ((IntKind.wrap .i64 (d3.1+(1:Int))),(List.append d3.2.1 Ft),j7.1.s,j7.1.at_,j7.1.bad,j7.1.made)∧wD ((IntKind.wrap .i64 (d3.1+(1:Int))),(List.append d3.2.1 Ft),j7.1.s,j7.1.at_,j7.1.bad,j7.1.made)<wD d3))∧((v49&&(mo==0))=false→(
       oq (d3.1,d3.2.1,v51,ot,v53,yy)))
     (v49=true→(
      let mo:=gk ⟨d3.2.2.1,d3.2.2.2.1,d3.2.2.2.2.1,d3.2.2.2.2.2⟩
      bp mo.2 mo.1.s mo.1.at_ mo.1.bad mo.1.made))∧(v49=false→(
      bp (0:Int) d3.2.2.1 d3.2.2.2.1 d3.2.2.2.2.1 d3.2.2.2.2.2)))
   ∃(kv:(Int × (List cm) × ByteArray × Int × Int × Bool)→Prop) (qh:(Int × (List cm) × ByteArray × Int × Int × Bool)→Nat),kv (0,[],v28.1.s,v28.1.at_,v28.1.bad,v28.1.made)∧qh (0,[],v28.1.s,v28.1.at_,v28.1.bad,v28.1.made)<dt∧∀(d2:Int × (List cm) × ByteArray × Int × Int × Bool),kv d2→(
    let v37:=decide (d2.1<v28.2)
    let bp:Int→ByteArray→Int→Int→Bool→Prop:=fun ky qp v40 yz yA=>
     ((v37&&(ky==0))=true→(
      let ov:=gq ⟨qp,v40,yz,yA⟩ (60:Int)
      (lT ⟨qp,v40,yz,yA⟩ (60:Int))∧
      let ow:=eb ov.1
      (hO ov.1)∧
      let v51:=eb ow.1
      (hO ow.1)∧
      let sV:List cm:=([⟨ov.2,⟨ow.2,(IntKind.wrap .u64 v51.2)⟩⟩]:List cm)
      (List.length d2.2.1+List.length sV≤maxLen∧(List.length d2.2.1+List.length sV)*32≤140737488355328)∧
      kv ((IntKind.wrap .i64 (d2.1+(1:Int))),(List.append d2.2.1 sV),v51.1.s,v51.1.at_,v51.1.bad,v51.1.made)∧qh ((IntKind.wrap .i64 (d2.1+(1:Int))),(List.append d2.2.1 sV),v51.1.s,v51.1.at_,v51.1.bad,v51.1.made)<qh d2))∧((v37&&(ky==0))=false→(
      ha (d2.1,d2.2.1,qp,v40,yz,yA)))
    (v37=true→(
     let ky:=gk ⟨d2.2.2.1,d2.2.2.2.1,d2.2.2.2.2.1,d2.2.2.2.2.2⟩
     bp ky.2 ky.1.s ky.1.at_ ky.1.bad ky.1.made))∧(v37=false→(
     bp (0:Int) d2.2.2.1 d2.2.2.2.1 d2.2.2.2.2.1 d2.2.2.2.2.2)))
  ∃(eU:(Int × (List bC) × ByteArray × Int × Int × Bool)→Prop) (qg:(Int × (List bC) × ByteArray × Int × Int × Bool)→Nat),eU (0,[],b3.1.s,b3.1.at_,b3.1.bad,b3.1.made)∧qg (0,[],b3.1.s,b3.1.at_,b3.1.bad,b3.1.made)<dt∧∀(d1:Int × (List bC) × ByteArray × Int × Int × Bool),eU d1→(
   let v28:=decide (d1.1<b3.2)
   let bp:Int→ByteArray→Int→Int→Bool→Prop:=fun iT v30 v31 fI ez=>
    ((v28&&(iT==0))=true→(
     let fJ:=uJ ⟨v30,v31,fI,ez⟩
     (BB ⟨v30,v31,fI,ez⟩)∧
     let qp:List bC:=([fJ.2]:List bC)
     (List.length d1.2.1+List.length qp≤maxLen∧(List.length d1.2.1+List.length qp)*80≤140737488355328)∧
     eU ((IntKind.wrap .i64 (d1.1+(1:Int))),(List.append d1.2.1 qp),fJ.1.s,fJ.1.at_,fJ.1.bad,fJ.1.made)∧qg ((IntKind.wrap .i64 (d1.1+(1:Int))),(List.append d1.2.1 qp),fJ.1.s,fJ.1.at_,fJ.1.bad,fJ.1.made)<qg d1))∧((v28&&(iT==0))=false→(
     fm (d1.1,d1.2.1,v30,v31,fI,ez)))
   (v28=true→(
    let iT:=gk ⟨d1.2.2.1,d1.2.2.2.1,d1.2.2.2.2.1,d1.2.2.2.2.2⟩
    bp iT.2 iT.1.s iT.1.at_ iT.1.bad iT.1.made))∧(v28=false→(
    bp (0:Int) d1.2.2.1 d1.2.2.2.1 d1.2.2.2.2.1 d1.2.2.2.2.2)))
 ∃(bq:(Int × (List bS) × ByteArray × Int × Int × Bool)→Prop) (fO:(Int × (List bS) × ByteArray × Int × Int × Bool)→Nat),bq (0,[],ba.1.s,ba.1.at_,ba.1.bad,ba.1.made)∧fO (0,[],ba.1.s,ba.1.at_,ba.1.bad,ba.1.made)<dt∧∀(d0:Int × (List bS) × ByteArray × Int × Int × Bool),bq d0→(
  let b5:=decide (d0.1<ba.2)
  let bp:Int→ByteArray→Int→Int→Bool→Prop:=fun cV cv b3 v20 v21=>
   ((b5&&(cV==0))=true→(
    let v24:=uI ⟨cv,b3,v20,v21⟩
    (Bz ⟨cv,b3,v20,v21⟩)∧
    let dX:List bS:=([v24.2]:List bS)
    (List.length d0.2.1+List.length dX≤maxLen∧(List.length d0.2.1+List.length dX)*104≤140737488355328)∧
    bq ((IntKind.wrap .i64 (d0.1+(1:Int))),(List.append d0.2.1 dX),v24.1.s,v24.1.at_,v24.1.bad,v24.1.made)∧fO ((IntKind.wrap .i64 (d0.1+(1:Int))),(List.append d0.2.1 dX),v24.1.s,v24.1.at_,v24.1.bad,v24.1.made)<fO d0))∧((b5&&(cV==0))=false→(
    aW (d0.1,d0.2.1,cv,b3,v20,v21)))
  (b5=true→(
   let cV:=gk ⟨d0.2.2.1,d0.2.2.2.1,d0.2.2.2.2.1,d0.2.2.2.2.2⟩
   bp cV.2 cV.1.s cV.1.at_ cV.1.bad cV.1.made))∧(b5=false→(
   bp (0:Int) d0.2.2.1 d0.2.2.2.1 d0.2.2.2.2.1 d0.2.2.2.2.2)))
noncomputable def dh(x0:Int):ByteArray:=
 Sum.elim (fun r=>r) (fun aZ=>
  (bytesOf (List.append aZ.2 ([(IntKind.wrap .u8 aZ.1)]:List Int))))
 (dA (fun(aB:Int × (List Int))=>
  show Step (ByteArray) (Int × (List Int))from
  bif(decide (aB.1≥128))then
   .bM ((dw .shr .u64 aB.1 (7:Int)),(List.append aB.2 ([(dw .or .u8 (IntKind.wrap .u8 aB.1) (128:Int))]:List Int)))
  else
   .c9 (aB.1,aB.2)) dt ((dw .xor .u64 (dw .shl .u64 (IntKind.wrap .u64 x0) (1:Int)) (IntKind.wrap .u64 (dw .shr .i64 x0 (63:Int)))),[]):ByteArray⊕(Int × (List Int)))
def fP(x0:Int):Prop:=
 let aW:(Int × (List Int))→Prop:=fun aZ=>
  let v9:List Int:=([(IntKind.wrap .u8 aZ.1)]:List Int)
  List.length aZ.2+List.length v9≤maxLen∧(List.length aZ.2+List.length v9)*1≤140737488355328
 ∃(bq:(Int × (List Int))→Prop) (fO:(Int × (List Int))→Nat),bq ((dw .xor .u64 (dw .shl .u64 (IntKind.wrap .u64 x0) (1:Int)) (IntKind.wrap .u64 (dw .shr .i64 x0 (63:Int)))),[])∧fO ((dw .xor .u64 (dw .shl .u64 (IntKind.wrap .u64 x0) (1:Int)) (IntKind.wrap .u64 (dw .shr .i64 x0 (63:Int)))),[])<dt∧∀(d0:Int × (List Int)),bq d0→(
  ((decide (d0.1≥128))=true→(
   let v11:List Int:=([(dw .or .u8 (IntKind.wrap .u8 d0.1) (128:Int))]:List Int)
   (List.length d0.2+List.length v11≤maxLen∧(List.length d0.2+List.length v11)*1≤140737488355328)∧
   bq ((dw .shr .u64 d0.1 (7:Int)),(List.append d0.2 v11))∧fO ((dw .shr .u64 d0.1 (7:Int)),(List.append d0.2 v11))<fO d0))∧((decide (d0.1≥128))=false→(
   aW (d0.1,d0.2))))
noncomputable def jv(x0:ByteArray):ByteArray:=
 (ByteArray.append (dh (ByteArray.size x0:Int)) x0)
def nH(x0:ByteArray):Prop:=
 let v1:Int:=(ByteArray.size x0:Int)
 let v2:=dh v1
 (fP v1)∧
 ByteArray.size v2+ByteArray.size x0≤9223372036854775807
noncomputable def wE(x0:dz):ByteArray:=
 let bp:Int→Int→ByteArray→ByteArray:=fun v3 v4 v5=>
  let v6:=dh v3
  let cu:ByteArray→ByteArray:=fun ba=>
   ba
  let bp:Bool→ByteArray:=fun ba=>
   bif ba then
    cu (ByteArray.append v6 (dh v4))
   else
    bif(v3==4)then
     cu (ByteArray.append v6 (jv v5))
    else
     cu v6
  let ba:=v3==1
  bif ba then
   bp ba
  else
   let cq:=v3==2
   bif cq then
    bp cq
   else
    bp (v3==3)
 bif((wv x0) != 0)then
  bp (0:Int) (0:Int) (⟨#[]⟩:ByteArray)
 else
  bp x0.kind x0.n x0.s
def Fu(x0:dz):Prop:=
 let bp:Int→Int→ByteArray→Prop:=fun v3 v4 v5=>
  let v6:=dh v3
  (fP v3)∧
  let bp:Bool→Prop:=fun ba=>
   (ba=true→(
    let v9:=dh v4
    (fP v4)∧
    ByteArray.size v6+ByteArray.size v9≤9223372036854775807))∧(ba=false→(
    ((v3==4)=true→(
     let v10:=jv v5
     (nH v5)∧
     ByteArray.size v6+ByteArray.size v10≤9223372036854775807))))
  let ba:=v3==1
  (ba=true→(
   bp ba))∧(ba=false→(
   let cq:=v3==2
   (cq=true→(
    bp cq))∧(cq=false→(
    bp (v3==3)))))
 (((wv x0) != 0)=true→(
  bp (0:Int) (0:Int) (⟨#[]⟩:ByteArray)))∧(((wv x0) != 0)=false→(
  bp x0.kind x0.n x0.s))
noncomputable def sW(x0:bk):ByteArray:=
 (ByteArray.append (ByteArray.append (ByteArray.append (ByteArray.append (dh x0.key.dev) (jv x0.key.m3)) (jv x0.key.attr)) (wE ⟨x0.value.kind,x0.value.n,x0.value.s⟩)) (dh x0.version))
def yB(x0:bk):Prop:=
 let v1:=dh x0.key.dev
 (fP x0.key.dev)∧
 let v2:=jv x0.key.m3
 (nH x0.key.m3)∧
 let v3:=ByteArray.append v1 v2
 (ByteArray.size v1+ByteArray.size v2≤9223372036854775807)∧
 let v4:=jv x0.key.attr
 (nH x0.key.attr)∧
 let v5:=ByteArray.append v3 v4
 (ByteArray.size v3+ByteArray.size v4≤9223372036854775807)∧
 let v6:=wE ⟨x0.value.kind,x0.value.n,x0.value.s⟩
 (Fu ⟨x0.value.kind,x0.value.n,x0.value.s⟩)∧
 let ba:=ByteArray.append v5 v6
 (ByteArray.size v5+ByteArray.size v6≤9223372036854775807)∧
 let cq:=dh x0.version
 (fP x0.version)∧
 ByteArray.size ba+ByteArray.size cq≤9223372036854775807
noncomputable def BD(x0:bS):ByteArray:=
 let v6:Int:=(List.length x0.reported:Int)
 let ba:=dh v6
 Sum.elim (fun r=>r) (fun aZ=>
  let cd:Int:=(List.length x0.kt:Int)
  let cn:=dh cd
  Sum.elim (fun r=>r) (fun aB=>
   let v23:=ByteArray.append (ByteArray.append (ByteArray.append (ByteArray.append (ByteArray.append (ByteArray.append (dh x0.dev) (dh x0.gU)) (dh x0.version)) (bytesOf aZ)) (bytesOf aB)) (dh x0.want)) (dh x0.done)
   (ByteArray.append (ByteArray.append v23 (dh x0.mq)) (dh x0.heard)))
  (bJ (fun(i18:Nat) (bU:(List Int))=>
   show Step (ByteArray) ((List Int))from
   let v20:bk:=List.getD x0.kt (Int.toNat (i18:Int)) (bj .bk)
   let v21:=sW v20
   .bM (List.append bU (cB.den .dk v21))) 0 (Int.toNat cd) (cB.den .dk cn):ByteArray⊕((List Int))))
 (bJ (fun(i11:Nat) (b7:(List Int))=>
  show Step (ByteArray) ((List Int))from
  let cd:bk:=List.getD x0.reported (Int.toNat (i11:Int)) (bj .bk)
  let cn:=sW cd
  .bM (List.append b7 (cB.den .dk cn))) 0 (Int.toNat v6) (cB.den .dk ba):ByteArray⊕((List Int)))
def Fv(x0:bS):Prop:=
 let v1:=dh x0.dev
 (fP x0.dev)∧
 let v2:=dh x0.gU
 (fP x0.gU)∧
 let v3:=ByteArray.append v1 v2
 (ByteArray.size v1+ByteArray.size v2≤9223372036854775807)∧
 let v4:=dh x0.version
 (fP x0.version)∧
 let v5:=ByteArray.append v3 v4
 (ByteArray.size v3+ByteArray.size v4≤9223372036854775807)∧
 let v6:Int:=(List.length x0.reported:Int)
 let ba:=dh v6
 (fP v6)∧
 let cq:List Int:=cB.den .dk ba
 (List.length ([]:List Int)+List.length cq≤maxLen∧(List.length ([]:List Int)+List.length cq)*1≤140737488355328)∧
 let aW:(List Int)→Prop:=fun aZ=>
  let v11:=bytesOf aZ
  let v12:=ByteArray.append v5 v11
  (ByteArray.size v5+ByteArray.size v11≤9223372036854775807)∧
  let cd:Int:=(List.length x0.kt:Int)
  let cn:=dh cd
  (fP cd)∧
  let cj:List Int:=cB.den .dk cn
  (List.length ([]:List Int)+List.length cj≤maxLen∧(List.length ([]:List Int)+List.length cj)*1≤140737488355328)∧
  let fm:(List Int)→Prop:=fun aB=>
   let cv:=bytesOf aB
   let b3:=ByteArray.append v12 cv
   (ByteArray.size v12+ByteArray.size cv≤9223372036854775807)∧
   let v20:=dh x0.want
   (fP x0.want)∧
   let v21:=ByteArray.append b3 v20
   (ByteArray.size b3+ByteArray.size v20≤9223372036854775807)∧
   let v22:=dh x0.done
   (fP x0.done)∧
   let v23:=ByteArray.append v21 v22
   (ByteArray.size v21+ByteArray.size v22≤9223372036854775807)∧
   let v24:=dh x0.mq
   (fP x0.mq)∧
   let v25:=ByteArray.append v23 v24
   (ByteArray.size v23+ByteArray.size v24≤9223372036854775807)∧
   let v26:=dh x0.heard
   (fP x0.heard)∧
   ByteArray.size v25+ByteArray.size v26≤9223372036854775807
  ∃eU:Nat→((List Int))→Prop,eU 0 cj∧(∀(i18:Nat) (d1:(List Int)),i18<Int.toNat cd→eU i18 d1→(
   let v20:bk:=List.getD x0.kt (Int.toNat (i18:Int)) (bj .bk)
   let v21:=sW v20
   (yB v20)∧
   let v22:List Int:=cB.den .dk v21
   (List.length d1+List.length v22≤maxLen∧(List.length d1+List.length v22)*1≤140737488355328)∧
   eU (i18+1) (List.append d1 v22)))∧∀aB,eU (Int.toNat cd) aB→fm aB
 ∃bq:Nat→((List Int))→Prop,bq 0 cq∧(∀(i11:Nat) (d0:(List Int)),i11<Int.toNat v6→bq i11 d0→(
  let cd:bk:=List.getD x0.reported (Int.toNat (i11:Int)) (bj .bk)
  let cn:=sW cd
  (yB cd)∧
  let cj:List Int:=cB.den .dk cn
  (List.length d0+List.length cj≤maxLen∧(List.length d0+List.length cj)*1≤140737488355328)∧
  bq (i11+1) (List.append d0 cj)))∧∀aZ,bq (Int.toNat v6) aZ→aW aZ
noncomputable def BE(x0:cG):ByteArray:=
 (ByteArray.append (dh x0.from_) (dh x0.mr))
def Fw(x0:cG):Prop:=
 let v1:=dh x0.from_
 (fP x0.from_)∧
 let v2:=dh x0.mr
 (fP x0.mr)∧
 ByteArray.size v1+ByteArray.size v2≤9223372036854775807
noncomputable def BF(x0:Bool):ByteArray:=
 bif x0 then
  ⟨#[1]⟩
 else
  ⟨#[0]⟩
noncomputable def BG(x0:bC):ByteArray:=
 let v4:Int:=(List.length x0.h8:Int)
 let v5:=dh v4
 Sum.elim (fun r=>r) (fun aZ=>
  let v11:Int:=(List.length x0.k0:Int)
  let v12:=dh v11
  Sum.elim (fun r=>r) (fun aB=>
   (ByteArray.append (ByteArray.append (ByteArray.append (ByteArray.append (jv x0.name) (dh x0.role)) (bytesOf aZ)) (bytesOf aB)) (BF x0.home)))
  (bJ (fun(i16:Nat) (bU:(List Int))=>
   show Step (ByteArray) ((List Int))from
   let b3:=jv (List.getD x0.k0 (Int.toNat (i16:Int)) (bj .str))
   .bM (List.append bU (cB.den .dk b3))) 0 (Int.toNat v11) (cB.den .dk v12):ByteArray⊕((List Int))))
 (bJ (fun(i9:Nat) (b7:(List Int))=>
  show Step (ByteArray) ((List Int))from
  let v11:cG:=List.getD x0.h8 (Int.toNat (i9:Int)) (bj .cG)
  let v12:=BE v11
  .bM (List.append b7 (cB.den .dk v12))) 0 (Int.toNat v4) (cB.den .dk v5):ByteArray⊕((List Int)))
def Fx(x0:bC):Prop:=
 let v1:=jv x0.name
 (nH x0.name)∧
 let v2:=dh x0.role
 (fP x0.role)∧
 let v3:=ByteArray.append v1 v2
 (ByteArray.size v1+ByteArray.size v2≤9223372036854775807)∧
 let v4:Int:=(List.length x0.h8:Int)
 let v5:=dh v4
 (fP v4)∧
 let v6:List Int:=cB.den .dk v5
 (List.length ([]:List Int)+List.length v6≤maxLen∧(List.length ([]:List Int)+List.length v6)*1≤140737488355328)∧
 let aW:(List Int)→Prop:=fun aZ=>
  let v9:=bytesOf aZ
  let v10:=ByteArray.append v3 v9
  (ByteArray.size v3+ByteArray.size v9≤9223372036854775807)∧
  let v11:Int:=(List.length x0.k0:Int)
  let v12:=dh v11
  (fP v11)∧
  let cd:List Int:=cB.den .dk v12
  (List.length ([]:List Int)+List.length cd≤maxLen∧(List.length ([]:List Int)+List.length cd)*1≤140737488355328)∧
  let fm:(List Int)→Prop:=fun aB=>
   let b5:=bytesOf aB
   let cV:=ByteArray.append v10 b5
   (ByteArray.size v10+ByteArray.size b5≤9223372036854775807)∧
   let cv:=BF x0.home
   ByteArray.size cV+ByteArray.size cv≤9223372036854775807
  ∃eU:Nat→((List Int))→Prop,eU 0 cd∧(∀(i16:Nat) (d1:(List Int)),i16<Int.toNat v11→eU i16 d1→(
   let cv:ByteArray:=List.getD x0.k0 (Int.toNat (i16:Int)) (bj .str)
   let b3:=jv cv
   (nH cv)∧
   let v20:List Int:=cB.den .dk b3
   (List.length d1+List.length v20≤maxLen∧(List.length d1+List.length v20)*1≤140737488355328)∧
   eU (i16+1) (List.append d1 v20)))∧∀aB,eU (Int.toNat v11) aB→fm aB
 ∃bq:Nat→((List Int))→Prop,bq 0 v6∧(∀(i9:Nat) (d0:(List Int)),i9<Int.toNat v4→bq i9 d0→(
  let v11:cG:=List.getD x0.h8 (Int.toNat (i9:Int)) (bj .cG)
  let v12:=BE v11
  (Fw v11)∧
  let cd:List Int:=cB.den .dk v12
  (List.length d0+List.length cd≤maxLen∧(List.length d0+List.length cd)*1≤140737488355328)∧
  bq (i9+1) (List.append d0 cd)))∧∀aZ,bq (Int.toNat v4) aZ→aW aZ
noncomputable def BH(x0:cm):ByteArray:=
 (ByteArray.append (ByteArray.append (jv x0.hj) (dh x0.h9.top)) (dh (IntKind.wrap .i64 x0.h9.bits)))
def Fy(x0:cm):Prop:=
 let v1:Int:=IntKind.wrap .i64 x0.h9.bits
 let v2:=jv x0.hj
 (nH x0.hj)∧
 let v3:=dh x0.h9.top
 (fP x0.h9.top)∧
 let v4:=ByteArray.append v2 v3
 (ByteArray.size v2+ByteArray.size v3≤9223372036854775807)∧
 let v5:=dh v1
 (fP v1)∧
 ByteArray.size v4+ByteArray.size v5≤9223372036854775807
noncomputable def BI(x0:ch):ByteArray:=
 let v2:Int:=(List.length x0.items:Int)
 let v3:=dh v2
 Sum.elim (fun r=>r) (fun aZ=>
  (ByteArray.append (jv x0.name) (bytesOf aZ)))
 (bJ (fun(i7:Nat) (aB:(List Int))=>
  show Step (ByteArray) ((List Int))from
  let v9:bk:=List.getD x0.items (Int.toNat (i7:Int)) (bj .bk)
  let v10:=sW v9
  .bM (List.append aB (cB.den .dk v10))) 0 (Int.toNat v2) (cB.den .dk v3):ByteArray⊕((List Int)))
def Fz(x0:ch):Prop:=
 let v1:=jv x0.name
 (nH x0.name)∧
 let v2:Int:=(List.length x0.items:Int)
 let v3:=dh v2
 (fP v2)∧
 let v4:List Int:=cB.den .dk v3
 (List.length ([]:List Int)+List.length v4≤maxLen∧(List.length ([]:List Int)+List.length v4)*1≤140737488355328)∧
 let aW:(List Int)→Prop:=fun aZ=>
  let ba:=bytesOf aZ
  ByteArray.size v1+ByteArray.size ba≤9223372036854775807
 ∃bq:Nat→((List Int))→Prop,bq 0 v4∧(∀(i7:Nat) (d0:(List Int)),i7<Int.toNat v2→bq i7 d0→(
  let v9:bk:=List.getD x0.items (Int.toNat (i7:Int)) (bj .bk)
  let v10:=sW v9
  (yB v9)∧
  let v11:List Int:=cB.den .dk v10
  (List.length d0+List.length v11≤maxLen∧(List.length d0+List.length v11)*1≤140737488355328)∧
  bq (i7+1) (List.append d0 v11)))∧∀aZ,bq (Int.toNat v2) aZ→aW aZ
noncomputable def FA(x0:List Int):ByteArray:=
 let v1:Int:=(List.length x0:Int)
 let v2:=dh v1
 Sum.elim (fun r=>r) (fun aZ=>
  (bytesOf aZ))
 (bJ (fun(i6:Nat) (aB:(List Int))=>
  show Step (ByteArray) ((List Int))from
  let v9:=dh (List.getD x0 (Int.toNat (i6:Int)) (bj .i64))
  .bM (List.append aB (cB.den .dk v9))) 0 (Int.toNat v1) (cB.den .dk v2):ByteArray⊕((List Int)))
def FB(x0:List Int):Prop:=
 let v1:Int:=(List.length x0:Int)
 let v2:=dh v1
 (fP v1)∧
 let v3:List Int:=cB.den .dk v2
 (List.length ([]:List Int)+List.length v3≤maxLen∧(List.length ([]:List Int)+List.length v3)*1≤140737488355328)∧
 ∃bq:Nat→((List Int))→Prop,bq 0 v3∧∀(i6:Nat) (d0:(List Int)),i6<Int.toNat v1→bq i6 d0→(
  let cq:Int:=List.getD x0 (Int.toNat (i6:Int)) (bj .i64)
  let v9:=dh cq
  (fP cq)∧
  let v10:List Int:=cB.den .dk v9
  (List.length d0+List.length v10≤maxLen∧(List.length d0+List.length v10)*1≤140737488355328)∧
  bq (i6+1) (List.append d0 v10))
noncomputable def BJ(x0:bG)(a7:Int):ByteArray:=
 bif(a7==0)then
  (dh x0.gU)
 else
  bif(a7==1)then
   (jv x0.mode)
  else
   bif(a7==2)then
    let v5:Int:=(List.length x0.fY:Int)
    let v6:=dh v5
    Sum.elim (fun r=>r) (fun aZ=>
     (bytesOf aZ))
    (bJ (fun(i10:Nat) (aB:(List Int))=>
     show Step (ByteArray) ((List Int))from
     let v12:bS:=List.getD x0.fY (Int.toNat (i10:Int)) (bj .bS)
     let cd:=BD v12
     .bM (List.append aB (cB.den .dk cd))) 0 (Int.toNat v5) (cB.den .dk v6):ByteArray⊕((List Int)))
   else
    bif(a7==3)then
     let v6:Int:=(List.length x0.ju:Int)
     let ba:=dh v6
     Sum.elim (fun r=>r) (fun bU=>
      (bytesOf bU))
     (bJ (fun(i11:Nat) (b7:(List Int))=>
      show Step (ByteArray) ((List Int))from
      let cn:=jv (List.getD x0.ju (Int.toNat (i11:Int)) (bj .str))
      .bM (List.append b7 (cB.den .dk cn))) 0 (Int.toNat v6) (cB.den .dk ba):ByteArray⊕((List Int)))
    else
     bif(a7==4)then
      let ba:Int:=(List.length x0.members:Int)
      let cq:=dh ba
      Sum.elim (fun r=>r) (fun c2=>
       (bytesOf c2))
      (bJ (fun(i12:Nat) (dT:(List Int))=>
       show Step (ByteArray) ((List Int))from
       let cn:bC:=List.getD x0.members (Int.toNat (i12:Int)) (bj .bC)
       let cj:=BG cn
       .bM (List.append dT (cB.den .dk cj))) 0 (Int.toNat ba) (cB.den .dk cq):ByteArray⊕((List Int)))
     else
      bif(a7==5)then
       let cq:Int:=(List.length x0.fg:Int)
       let v9:=dh cq
       Sum.elim (fun r=>r) (fun fo=>
        (bytesOf fo))
       (bJ (fun(i13:Nat) (fh:(List Int))=>
        show Step (ByteArray) ((List Int))from
        let cj:cm:=List.getD x0.fg (Int.toNat (i13:Int)) (bj .cm)
        let b5:=BH cj
        .bM (List.append fh (cB.den .dk b5))) 0 (Int.toNat cq) (cB.den .dk v9):ByteArray⊕((List Int)))
      else
       bif(a7==6)then
        (jv x0.source)
       else
        bif(a7==7)then
         let v10:Int:=(List.length x0.eB:Int)
         let v11:=dh v10
         Sum.elim (fun r=>r) (fun om=>
          (bytesOf om))
         (bJ (fun(i15:Nat) (pd:(List Int))=>
          show Step (ByteArray) ((List Int))from
          let cV:ch:=List.getD x0.eB (Int.toNat (i15:Int)) (bj .ch)
          let cv:=BI cV
          .bM (List.append pd (cB.den .dk cv))) 0 (Int.toNat v10) (cB.den .dk v11):ByteArray⊕((List Int)))
        else
         bif(a7==8)then
          (dh x0.next)
         else
          (FA x0.j5)
def FC(x0:bG)(a7:Int):Prop:=
 ((a7==0)=true→(
  fP x0.gU))∧((a7==0)=false→(
  ((a7==1)=true→(
   nH x0.mode))∧((a7==1)=false→(
   ((a7==2)=true→(
    let v5:Int:=(List.length x0.fY:Int)
    let v6:=dh v5
    (fP v5)∧
    let ba:List Int:=cB.den .dk v6
    (List.length ([]:List Int)+List.length ba≤maxLen∧(List.length ([]:List Int)+List.length ba)*1≤140737488355328)∧
    ∃bq:Nat→((List Int))→Prop,bq 0 ba∧∀(i10:Nat) (d0:(List Int)),i10<Int.toNat v5→bq i10 d0→(
     let v12:bS:=List.getD x0.fY (Int.toNat (i10:Int)) (bj .bS)
     let cd:=BD v12
     (Fv v12)∧
     let cn:List Int:=cB.den .dk cd
     (List.length d0+List.length cn≤maxLen∧(List.length d0+List.length cn)*1≤140737488355328)∧
     bq (i10+1) (List.append d0 cn))))∧((a7==2)=false→(
    ((a7==3)=true→(
     let v6:Int:=(List.length x0.ju:Int)
     let ba:=dh v6
     (fP v6)∧
     let cq:List Int:=cB.den .dk ba
     (List.length ([]:List Int)+List.length cq≤maxLen∧(List.length ([]:List Int)+List.length cq)*1≤140737488355328)∧
     ∃eU:Nat→((List Int))→Prop,eU 0 cq∧∀(i11:Nat) (d1:(List Int)),i11<Int.toNat v6→eU i11 d1→(
      let cd:ByteArray:=List.getD x0.ju (Int.toNat (i11:Int)) (bj .str)
      let cn:=jv cd
      (nH cd)∧
      let cj:List Int:=cB.den .dk cn
      (List.length d1+List.length cj≤maxLen∧(List.length d1+List.length cj)*1≤140737488355328)∧
      eU (i11+1) (List.append d1 cj))))∧((a7==3)=false→(
     ((a7==4)=true→(
      let ba:Int:=(List.length x0.members:Int)
      let cq:=dh ba
      (fP ba)∧
      let v9:List Int:=cB.den .dk cq
      (List.length ([]:List Int)+List.length v9≤maxLen∧(List.length ([]:List Int)+List.length v9)*1≤140737488355328)∧
      ∃kv:Nat→((List Int))→Prop,kv 0 v9∧∀(i12:Nat) (d2:(List Int)),i12<Int.toNat ba→kv i12 d2→(
       let cn:bC:=List.getD x0.members (Int.toNat (i12:Int)) (bj .bC)
       let cj:=BG cn
       (Fx cn)∧
       let b5:List Int:=cB.den .dk cj
       (List.length d2+List.length b5≤maxLen∧(List.length d2+List.length b5)*1≤140737488355328)∧
       kv (i12+1) (List.append d2 b5))))∧((a7==4)=false→(
      ((a7==5)=true→(
       let cq:Int:=(List.length x0.fg:Int)
       let v9:=dh cq
       (fP cq)∧
       let v10:List Int:=cB.den .dk v9
       (List.length ([]:List Int)+List.length v10≤maxLen∧(List.length ([]:List Int)+List.length v10)*1≤140737488355328)∧
       ∃mn:Nat→((List Int))→Prop,mn 0 v10∧∀(i13:Nat) (d3:(List Int)),i13<Int.toNat cq→mn i13 d3→(
        let cj:cm:=List.getD x0.fg (Int.toNat (i13:Int)) (bj .cm)
        let b5:=BH cj
        (Fy cj)∧
        let cV:List Int:=cB.den .dk b5
        (List.length d3+List.length cV≤maxLen∧(List.length d3+List.length cV)*1≤140737488355328)∧
        mn (i13+1) (List.append d3 cV))))∧((a7==5)=false→(
       ((a7==6)=true→(
        nH x0.source))∧((a7==6)=false→(
        ((a7==7)=true→(
         let v10:Int:=(List.length x0.eB:Int)
         let v11:=dh v10
         (fP v10)∧
         let v12:List Int:=cB.den .dk v11
         (List.length ([]:List Int)+List.length v12≤maxLen∧(List.length ([]:List Int)+List.length v12)*1≤140737488355328)∧
         ∃uH:Nat→((List Int))→Prop,uH 0 v12∧∀(i15:Nat) (d4:(List Int)),i15<Int.toNat v10→uH i15 d4→(
          let cV:ch:=List.getD x0.eB (Int.toNat (i15:Int)) (bj .ch)
          let cv:=BI cV
          (Fz cV)∧
          let b3:List Int:=cB.den .dk cv
          (List.length d4+List.length b3≤maxLen∧(List.length d4+List.length b3)*1≤140737488355328)∧
          uH (i15+1) (List.append d4 b3))))∧((a7==7)=false→(
         ((a7==8)=true→(
          fP x0.next))∧((a7==8)=false→(
          FB x0.j5))))))))))))))))))
noncomputable def yC(x0:bG):ByteArray:=
 Sum.elim (fun r=>r) (fun aZ=>
  (bytesOf aZ.1))
 (bJ (fun(i3:Nat) (aB:(List Int) × Bool)=>
  show Step (ByteArray) ((List Int) × Bool)from
  let v5:=BJ x0 (i3:Int)
  let bp:Bool→Step (ByteArray) ((List Int) × Bool):=fun v6=>
   .bM ((List.append aB.1 (cB.den .dk v5)),v6)
  bif !aB.2 then
   bp true
  else
   bp aB.2) 0 (Int.toNat (10:Int)) ([],false):ByteArray⊕((List Int) × Bool))
def FD(x0:bG):Prop:=
 ∃bq:Nat→((List Int) × Bool)→Prop,bq 0 ([],false)∧∀(i3:Nat) (d0:(List Int) × Bool),i3<Int.toNat (10:Int)→bq i3 d0→(
  let v5:=BJ x0 (i3:Int)
  (FC x0 (i3:Int))∧
  let bp:Bool→Prop:=fun v6=>
   let ba:List Int:=cB.den .dk v5
   (List.length d0.1+List.length ba≤maxLen∧(List.length d0.1+List.length ba)*1≤140737488355328)∧
   bq (i3+1) ((List.append d0.1 ba),v6)
  ((!d0.2)=true→(
   bp true))∧((!d0.2)=false→(
   bp d0.2)))
noncomputable def dx(x0:Int):ByteArray:=
 let v2:Int:=dw .shl .u64 (IntKind.wrap .u64 x0) (1:Int)
 let bp:Int→ByteArray:=fun v3=>
  Sum.elim (fun r=>r) (fun aZ=>
   (bytesOf (List.append aZ.2 ([(IntKind.wrap .u8 aZ.1)]:List Int))))
  (dA (fun(aB:Int × (List Int))=>
   show Step (ByteArray) (Int × (List Int))from
   bif(decide (aB.1≥128))then
    .bM ((dw .quo .u64 aB.1 (128:Int)),(List.append aB.2 ([(IntKind.wrap .u8 ((IntKind.wrap .u8 (dw .rem .u64 aB.1 (128:Int)))+(128:Int)))]:List Int)))
   else
    .c9 (aB.1,aB.2)) dt (v3,[]):ByteArray⊕(Int × (List Int)))
 bif(decide (x0<0))then
  bp (cB.den (.wF .u64) v2)
 else
  bp v2
def fZ(x0:Int):Prop:=
 let v2:Int:=dw .shl .u64 (IntKind.wrap .u64 x0) (1:Int)
 let bp:Int→Prop:=fun v3=>
  let aW:(Int × (List Int))→Prop:=fun aZ=>
   let cq:List Int:=([(IntKind.wrap .u8 aZ.1)]:List Int)
   List.length aZ.2+List.length cq≤maxLen∧(List.length aZ.2+List.length cq)*1≤140737488355328
  ∃(bq:(Int × (List Int))→Prop) (fO:(Int × (List Int))→Nat),bq (v3,[])∧fO (v3,[])<dt∧∀(d0:Int × (List Int)),bq d0→(
   ((decide (d0.1≥128))=true→(
    let v11:List Int:=([(IntKind.wrap .u8 ((IntKind.wrap .u8 (dw .rem .u64 d0.1 (128:Int)))+(128:Int)))]:List Int)
    (List.length d0.2+List.length v11≤maxLen∧(List.length d0.2+List.length v11)*1≤140737488355328)∧
    bq ((dw .quo .u64 d0.1 (128:Int)),(List.append d0.2 v11))∧fO ((dw .quo .u64 d0.1 (128:Int)),(List.append d0.2 v11))<fO d0))∧((decide (d0.1≥128))=false→(
    aW (d0.1,d0.2))))
 ((decide (x0<0))=true→(
  bp (cB.den (.wF .u64) v2)))∧((decide (x0<0))=false→(
  bp v2))
noncomputable def jw(x0:ByteArray):ByteArray:=
 (ByteArray.append (dx (ByteArray.size x0:Int)) x0)
def ox(x0:ByteArray):Prop:=
 let v1:Int:=(ByteArray.size x0:Int)
 let v2:=dx v1
 (fZ v1)∧
 ByteArray.size v2+ByteArray.size x0≤9223372036854775807
noncomputable def wG(x0:dz):ByteArray:=
 let bp:Int→Int→ByteArray→ByteArray:=fun v3 v4 v5=>
  bif(v3==0)then
   (dx (0:Int))
  else
   bif(v3==4)then
    (ByteArray.append (dx v3) (jw v5))
   else
    (ByteArray.append (dx v3) (dx v4))
 bif((wy x0) != 0)then
  bp (0:Int) (0:Int) (⟨#[]⟩:ByteArray)
 else
  bp x0.kind x0.n x0.s
def FE(x0:dz):Prop:=
 let bp:Int→Int→ByteArray→Prop:=fun v3 v4 v5=>
  ((v3==0)=true→(
   fZ (0:Int)))∧((v3==0)=false→(
   ((v3==4)=true→(
    let cq:=dx v3
    (fZ v3)∧
    let v9:=jw v5
    (ox v5)∧
    ByteArray.size cq+ByteArray.size v9≤9223372036854775807))∧((v3==4)=false→(
    let cq:=dx v3
    (fZ v3)∧
    let v9:=dx v4
    (fZ v4)∧
    ByteArray.size cq+ByteArray.size v9≤9223372036854775807))))
 (((wy x0) != 0)=true→(
  bp (0:Int) (0:Int) (⟨#[]⟩:ByteArray)))∧(((wy x0) != 0)=false→(
  bp x0.kind x0.n x0.s))
noncomputable def sX(x0:List bk):ByteArray:=
 let v1:Int:=(List.length x0:Int)
 Sum.elim (fun r=>r) (fun aZ=>
  aZ)
 (bJ (fun(i4:Nat) (aB:ByteArray)=>
  show Step (ByteArray) (ByteArray)from
  let v9:bk:=List.getD x0 (Int.toNat (i4:Int)) (bj .bk)
  let b5:=ByteArray.append (ByteArray.append (ByteArray.append aB (dx ((List.getD x0 (Int.toNat (i4:Int)) (bj .bk)).key.dev))) (jw ((List.getD x0 (Int.toNat (i4:Int)) (bj .bk)).key.m3))) (jw ((List.getD x0 (Int.toNat (i4:Int)) (bj .bk)).key.attr))
  .bM (ByteArray.append (ByteArray.append b5 (wG ⟨v9.value.kind,v9.value.n,v9.value.s⟩)) (dx ((List.getD x0 (Int.toNat (i4:Int)) (bj .bk)).version)))) 0 (Int.toNat v1) (dx v1):ByteArray⊕(ByteArray))
def yD(x0:List bk):Prop:=
 let v1:Int:=(List.length x0:Int)
 (fZ v1)∧
 ∃bq:Nat→(ByteArray)→Prop,bq 0 (dx v1)∧∀(i4:Nat) (d0:ByteArray),i4<Int.toNat v1→bq i4 d0→(
  let v6:bk:=List.getD x0 (Int.toNat (i4:Int)) (bj .bk)
  let ba:bk:=List.getD x0 (Int.toNat (i4:Int)) (bj .bk)
  let cq:bk:=List.getD x0 (Int.toNat (i4:Int)) (bj .bk)
  let v9:bk:=List.getD x0 (Int.toNat (i4:Int)) (bj .bk)
  let v10:bk:=List.getD x0 (Int.toNat (i4:Int)) (bj .bk)
  let v11:=dx v6.key.dev
  (fZ v6.key.dev)∧
  let v12:=ByteArray.append d0 v11
  (ByteArray.size d0+ByteArray.size v11≤9223372036854775807)∧
  let cd:=jw ba.key.m3
  (ox ba.key.m3)∧
  let cn:=ByteArray.append v12 cd
  (ByteArray.size v12+ByteArray.size cd≤9223372036854775807)∧
  let cj:=jw cq.key.attr
  (ox cq.key.attr)∧
  let b5:=ByteArray.append cn cj
  (ByteArray.size cn+ByteArray.size cj≤9223372036854775807)∧
  let cV:=wG ⟨v9.value.kind,v9.value.n,v9.value.s⟩
  (FE ⟨v9.value.kind,v9.value.n,v9.value.s⟩)∧
  let cv:=ByteArray.append b5 cV
  (ByteArray.size b5+ByteArray.size cV≤9223372036854775807)∧
  let b3:=dx v10.version
  (fZ v10.version)∧
  (ByteArray.size cv+ByteArray.size b3≤9223372036854775807)∧
  bq (i4+1) (ByteArray.append cv b3))
noncomputable def BK(x0:bS):ByteArray:=
 let cd:=ByteArray.append (ByteArray.append (ByteArray.append (ByteArray.append (ByteArray.append (ByteArray.append (dx x0.dev) (dx x0.gU)) (dx x0.version)) (sX x0.reported)) (sX x0.kt)) (dx x0.want)) (dx x0.done)
 (ByteArray.append (ByteArray.append cd (dx x0.mq)) (dx x0.heard))
def FF(x0:bS):Prop:=
 let v1:=dx x0.dev
 (fZ x0.dev)∧
 let v2:=dx x0.gU
 (fZ x0.gU)∧
 let v3:=ByteArray.append v1 v2
 (ByteArray.size v1+ByteArray.size v2≤9223372036854775807)∧
 let v4:=dx x0.version
 (fZ x0.version)∧
 let v5:=ByteArray.append v3 v4
 (ByteArray.size v3+ByteArray.size v4≤9223372036854775807)∧
 let v6:=sX x0.reported
 (yD x0.reported)∧
 let ba:=ByteArray.append v5 v6
 (ByteArray.size v5+ByteArray.size v6≤9223372036854775807)∧
 let cq:=sX x0.kt
 (yD x0.kt)∧
 let v9:=ByteArray.append ba cq
 (ByteArray.size ba+ByteArray.size cq≤9223372036854775807)∧
 let v10:=dx x0.want
 (fZ x0.want)∧
 let v11:=ByteArray.append v9 v10
 (ByteArray.size v9+ByteArray.size v10≤9223372036854775807)∧
 let v12:=dx x0.done
 (fZ x0.done)∧
 let cd:=ByteArray.append v11 v12
 (ByteArray.size v11+ByteArray.size v12≤9223372036854775807)∧
 let cn:=dx x0.mq
 (fZ x0.mq)∧
 let cj:=ByteArray.append cd cn
 (ByteArray.size cd+ByteArray.size cn≤9223372036854775807)∧
 let b5:=dx x0.heard
 (fZ x0.heard)∧
 ByteArray.size cj+ByteArray.size b5≤9223372036854775807
noncomputable def yE(x0:List ByteArray):ByteArray:=
 let v1:Int:=(List.length x0:Int)
 Sum.elim (fun r=>r) (fun aZ=>
  aZ)
 (bJ (fun(i4:Nat) (aB:ByteArray)=>
  show Step (ByteArray) (ByteArray)from
  .bM (ByteArray.append aB (jw (List.getD x0 (Int.toNat (i4:Int)) (bj .str))))) 0 (Int.toNat v1) (dx v1):ByteArray⊕(ByteArray))
def BL(x0:List ByteArray):Prop:=
 let v1:Int:=(List.length x0:Int)
 (fZ v1)∧
 ∃bq:Nat→(ByteArray)→Prop,bq 0 (dx v1)∧∀(i4:Nat) (d0:ByteArray),i4<Int.toNat v1→bq i4 d0→(
  let v6:ByteArray:=List.getD x0 (Int.toNat (i4:Int)) (bj .str)
  let ba:=jw v6
  (ox v6)∧
  (ByteArray.size d0+ByteArray.size ba≤9223372036854775807)∧
  bq (i4+1) (ByteArray.append d0 ba))
noncomputable def BM(x0:Bool):ByteArray:=
 bif x0 then
  ⟨#[1]⟩
 else
  ⟨#[0]⟩
noncomputable def BN(x0:bC):ByteArray:=
 let v1:Int:=(List.length x0.h8:Int)
 Sum.elim (fun r=>r) (fun aZ=>
  (ByteArray.append (ByteArray.append aZ (yE x0.k0)) (BM x0.home)))
 (bJ (fun(i8:Nat) (aB:ByteArray)=>
  show Step (ByteArray) (ByteArray)from
  .bM (ByteArray.append (ByteArray.append aB (dx ((List.getD x0.h8 (Int.toNat (i8:Int)) (bj .cG)).from_))) (dx ((List.getD x0.h8 (Int.toNat (i8:Int)) (bj .cG)).mr)))) 0 (Int.toNat v1) (ByteArray.append (ByteArray.append (jw x0.name) (dx x0.role)) (dx v1)):ByteArray⊕(ByteArray))
def FG(x0:bC):Prop:=
 let v1:Int:=(List.length x0.h8:Int)
 let v2:=jw x0.name
 (ox x0.name)∧
 let v3:=dx x0.role
 (fZ x0.role)∧
 let v4:=ByteArray.append v2 v3
 (ByteArray.size v2+ByteArray.size v3≤9223372036854775807)∧
 let v5:=dx v1
 (fZ v1)∧
 (ByteArray.size v4+ByteArray.size v5≤9223372036854775807)∧
 let aW:ByteArray→Prop:=fun aZ=>
  let cq:=yE x0.k0
  (BL x0.k0)∧
  let v9:=ByteArray.append aZ cq
  (ByteArray.size aZ+ByteArray.size cq≤9223372036854775807)∧
  let v10:=BM x0.home
  ByteArray.size v9+ByteArray.size v10≤9223372036854775807
 ∃bq:Nat→(ByteArray)→Prop,bq 0 (ByteArray.append v4 v5)∧(∀(i8:Nat) (d0:ByteArray),i8<Int.toNat v1→bq i8 d0→(
  let v10:cG:=List.getD x0.h8 (Int.toNat (i8:Int)) (bj .cG)
  let v11:cG:=List.getD x0.h8 (Int.toNat (i8:Int)) (bj .cG)
  let v12:=dx v10.from_
  (fZ v10.from_)∧
  let cd:=ByteArray.append d0 v12
  (ByteArray.size d0+ByteArray.size v12≤9223372036854775807)∧
  let cn:=dx v11.mr
  (fZ v11.mr)∧
  (ByteArray.size cd+ByteArray.size cn≤9223372036854775807)∧
  bq (i8+1) (ByteArray.append cd cn)))∧∀aZ,bq (Int.toNat v1) aZ→aW aZ
noncomputable def FH(x0:List Int):ByteArray:=
 let v1:Int:=(List.length x0:Int)
 Sum.elim (fun r=>r) (fun aZ=>
  aZ)
 (bJ (fun(i4:Nat) (aB:ByteArray)=>
  show Step (ByteArray) (ByteArray)from
  .bM (ByteArray.append aB (dx (List.getD x0 (Int.toNat (i4:Int)) (bj .i64))))) 0 (Int.toNat v1) (dx v1):ByteArray⊕(ByteArray))
def FI(x0:List Int):Prop:=
 let v1:Int:=(List.length x0:Int)
 (fZ v1)∧
 ∃bq:Nat→(ByteArray)→Prop,bq 0 (dx v1)∧∀(i4:Nat) (d0:ByteArray),i4<Int.toNat v1→bq i4 d0→(
  let v6:Int:=List.getD x0 (Int.toNat (i4:Int)) (bj .i64)
  let ba:=dx v6
  (fZ v6)∧
  (ByteArray.size d0+ByteArray.size ba≤9223372036854775807)∧
  bq (i4+1) (ByteArray.append d0 ba))
noncomputable def FJ(x0:bG)(a7:Int):ByteArray:=
 let cu:ByteArray→ByteArray:=fun v2=>
  v2
 bif(a7==0)then
  (dx x0.gU)
 else
  bif(a7==1)then
   (jw x0.mode)
  else
   bif(a7==2)then
    let v5:Int:=(List.length x0.fY:Int)
    Sum.elim (fun r=>r) (fun aZ=>
     cu aZ)
    (bJ (fun(i8:Nat) (aB:ByteArray)=>
     show Step (ByteArray) (ByteArray)from
     let v10:bS:=List.getD x0.fY (Int.toNat (i8:Int)) (bj .bS)
     .bM (ByteArray.append aB (BK v10))) 0 (Int.toNat v5) (dx v5):ByteArray⊕(ByteArray))
   else
    bif(a7==3)then
     (yE x0.ju)
    else
     bif(a7==4)then
      let ba:Int:=(List.length x0.members:Int)
      Sum.elim (fun r=>r) (fun bU=>
       cu bU)
      (bJ (fun(i10:Nat) (b7:ByteArray)=>
       show Step (ByteArray) (ByteArray)from
       let v12:bC:=List.getD x0.members (Int.toNat (i10:Int)) (bj .bC)
       .bM (ByteArray.append b7 (BN v12))) 0 (Int.toNat ba) (dx ba):ByteArray⊕(ByteArray))
     else
      bif(a7==5)then
       let cq:Int:=(List.length x0.fg:Int)
       Sum.elim (fun r=>r) (fun c2=>
        cu c2)
       (bJ (fun(i11:Nat) (dT:ByteArray)=>
        show Step (ByteArray) (ByteArray)from
        let v22:=ByteArray.append (ByteArray.append (ByteArray.append dT (jw ((List.getD x0.fg (Int.toNat (i11:Int)) (bj .cm)).hj))) (dx ((List.getD x0.fg (Int.toNat (i11:Int)) (bj .cm)).h9.top))) (dx (IntKind.wrap .i64 ((List.getD x0.fg (Int.toNat (i11:Int)) (bj .cm)).h9.bits)))
        .bM v22) 0 (Int.toNat cq) (dx cq):ByteArray⊕(ByteArray))
      else
       bif(a7==6)then
        (jw x0.source)
       else
        bif(a7==7)then
         let v10:Int:=(List.length x0.eB:Int)
         Sum.elim (fun r=>r) (fun fo=>
          cu fo)
         (bJ (fun(i13:Nat) (fh:ByteArray)=>
          show Step (ByteArray) (ByteArray)from
          .bM (ByteArray.append (ByteArray.append fh (jw ((List.getD x0.eB (Int.toNat (i13:Int)) (bj .ch)).name))) (sX ((List.getD x0.eB (Int.toNat (i13:Int)) (bj .ch)).items)))) 0 (Int.toNat v10) (dx v10):ByteArray⊕(ByteArray))
        else
         bif(a7==8)then
          (dx x0.next)
         else
          bif(a7==9)then
           (FH x0.j5)
          else
           cu (⟨#[]⟩:ByteArray)
def FK(x0:bG)(a7:Int):Prop:=
 ((a7==0)=true→(
  fZ x0.gU))∧((a7==0)=false→(
  ((a7==1)=true→(
   ox x0.mode))∧((a7==1)=false→(
   ((a7==2)=true→(
    let v5:Int:=(List.length x0.fY:Int)
    (fZ v5)∧
    ∃bq:Nat→(ByteArray)→Prop,bq 0 (dx v5)∧∀(i8:Nat) (d0:ByteArray),i8<Int.toNat v5→bq i8 d0→(
     let v10:bS:=List.getD x0.fY (Int.toNat (i8:Int)) (bj .bS)
     let v11:=BK v10
     (FF v10)∧
     (ByteArray.size d0+ByteArray.size v11≤9223372036854775807)∧
     bq (i8+1) (ByteArray.append d0 v11))))∧((a7==2)=false→(
    ((a7==3)=true→(
     BL x0.ju))∧((a7==3)=false→(
     ((a7==4)=true→(
      let ba:Int:=(List.length x0.members:Int)
      (fZ ba)∧
      ∃eU:Nat→(ByteArray)→Prop,eU 0 (dx ba)∧∀(i10:Nat) (d1:ByteArray),i10<Int.toNat ba→eU i10 d1→(
       let v12:bC:=List.getD x0.members (Int.toNat (i10:Int)) (bj .bC)
       let cd:=BN v12
       (FG v12)∧
       (ByteArray.size d1+ByteArray.size cd≤9223372036854775807)∧
       eU (i10+1) (ByteArray.append d1 cd))))∧((a7==4)=false→(
      ((a7==5)=true→(
       let cq:Int:=(List.length x0.fg:Int)
       (fZ cq)∧
       ∃kv:Nat→(ByteArray)→Prop,kv 0 (dx cq)∧∀(i11:Nat) (d2:ByteArray),i11<Int.toNat cq→kv i11 d2→(
        let cd:cm:=List.getD x0.fg (Int.toNat (i11:Int)) (bj .cm)
        let cn:cm:=List.getD x0.fg (Int.toNat (i11:Int)) (bj .cm)
        let b5:Int:=IntKind.wrap .i64 ((List.getD x0.fg (Int.toNat (i11:Int)) (bj .cm)).h9.bits)
        let cV:=jw cd.hj
        (ox cd.hj)∧
        let cv:=ByteArray.append d2 cV
        (ByteArray.size d2+ByteArray.size cV≤9223372036854775807)∧
        let b3:=dx cn.h9.top
        (fZ cn.h9.top)∧
        let v20:=ByteArray.append cv b3
        (ByteArray.size cv+ByteArray.size b3≤9223372036854775807)∧
        let v21:=dx b5
        (fZ b5)∧
        (ByteArray.size v20+ByteArray.size v21≤9223372036854775807)∧
        kv (i11+1) (ByteArray.append v20 v21))))∧((a7==5)=false→(
       ((a7==6)=true→(
        ox x0.source))∧((a7==6)=false→(
        ((a7==7)=true→(
         let v10:Int:=(List.length x0.eB:Int)
         (fZ v10)∧
         ∃mn:Nat→(ByteArray)→Prop,mn 0 (dx v10)∧∀(i13:Nat) (d3:ByteArray),i13<Int.toNat v10→mn i13 d3→(
          let cj:ch:=List.getD x0.eB (Int.toNat (i13:Int)) (bj .ch)
          let b5:ch:=List.getD x0.eB (Int.toNat (i13:Int)) (bj .ch)
          let cV:=jw cj.name
          (ox cj.name)∧
          let cv:=ByteArray.append d3 cV
          (ByteArray.size d3+ByteArray.size cV≤9223372036854775807)∧
          let b3:=sX b5.items
          (yD b5.items)∧
          (ByteArray.size cv+ByteArray.size b3≤9223372036854775807)∧
          mn (i13+1) (ByteArray.append cv b3))))∧((a7==7)=false→(
         ((a7==8)=true→(
          fZ x0.next))∧((a7==8)=false→(
          ((a7==9)=true→(
           FI x0.j5))))))))))))))))))))
noncomputable def yF(x0:bG):ByteArray:=
 Sum.elim (fun r=>r) (fun aZ=>
  aZ)
 (bJ (fun(i2:Nat) (aB:ByteArray)=>
  show Step (ByteArray) (ByteArray)from
  .bM (ByteArray.append aB (FJ x0 (i2:Int)))) 0 (Int.toNat (10:Int)) ⟨#[]⟩:ByteArray⊕(ByteArray))
def FL(x0:bG):Prop:=
 ∃bq:Nat→(ByteArray)→Prop,bq 0 ⟨#[]⟩∧∀(i2:Nat) (d0:ByteArray),i2<Int.toNat (10:Int)→bq i2 d0→(
  let v4:=FJ x0 (i2:Int)
  (FK x0 (i2:Int))∧
  (ByteArray.size d0+ByteArray.size v4≤9223372036854775807)∧
  bq (i2+1) (ByteArray.append d0 v4))
noncomputable def m32(x0:List ByteArray)(a7:List ByteArray):Bool:=
 let v2:Int:=(List.length x0:Int)
 bif(v2 != (List.length a7:Int))then
  false
 else
  Sum.elim (fun r=>r) (fun aZ=>
   true)
  (bJ (fun(i5:Nat) (aB:Unit)=>
   show Step (Bool) (Unit)from
   bif(iS .neq (List.getD x0 (Int.toNat (i5:Int)) (bj .str)) (List.getD a7 (Int.toNat (i5:Int)) (bj .str)))then
    .ret false
   else
    .bM ()) 0 (Int.toNat v2) ():Bool⊕(Unit))
def FM(x0:List ByteArray)(a7:List ByteArray):Prop:=
 let v2:Int:=(List.length x0:Int)
 ((v2 != (List.length a7:Int))=false→(
  ∃bq:Nat→(Unit)→Prop,bq 0 ()∧∀(i5:Nat) (d0:Unit),i5<Int.toNat v2→bq i5 d0→(
   (0≤(i5:Int)∧(i5:Int)<(List.length a7:Int))∧
   ((iS .neq (List.getD x0 (Int.toNat (i5:Int)) (bj .str)) (List.getD a7 (Int.toNat (i5:Int)) (bj .str)))=false→(
    bq (i5+1) ())))))
noncomputable def BO(x0:List cG)(a7:List cG):Bool:=
 let v2:Int:=(List.length x0:Int)
 bif(v2 != (List.length a7:Int))then
  false
 else
  Sum.elim (fun r=>r) (fun aZ=>
   true)
  (bJ (fun(i5:Nat) (aB:Unit)=>
   show Step (Bool) (Unit)from
   let ba:cG:=List.getD x0 (Int.toNat (i5:Int)) (bj .cG)
   let cq:cG:=List.getD a7 (Int.toNat (i5:Int)) (bj .cG)
   bif(!(bif ba.from_==cq.from_ then ba.mr==cq.mr else false))then
    .ret false
   else
    .bM ()) 0 (Int.toNat v2) ():Bool⊕(Unit))
def Kb(x0:List cG)(a7:List cG):Prop:=
 let v2:Int:=(List.length x0:Int)
 ((v2 != (List.length a7:Int))=false→(
  ∃bq:Nat→(Unit)→Prop,bq 0 ()∧∀(i5:Nat) (d0:Unit),i5<Int.toNat v2→bq i5 d0→(
   let ba:cG:=List.getD x0 (Int.toNat (i5:Int)) (bj .cG)
   let cq:cG:=List.getD a7 (Int.toNat (i5:Int)) (bj .cG)
   (0≤(i5:Int)∧(i5:Int)<(List.length a7:Int))∧
   ((!(bif ba.from_==cq.from_ then ba.mr==cq.mr else false))=false→(
    bq (i5+1) ())))))
noncomputable def BP(x0:bC)(a7:bC):Bool:=
 let v6:Bool:=((iS .eql x0.name a7.name)&&(x0.role==a7.role))&&(fN.den (.pe false) x0.home a7.home)
 let bp:Bool→Bool:=fun ba=>
  let cq:Bool:=v6&&ba
  let bp:Bool→Bool:=fun v9=>
   (cq&&v9)
  bif cq then
   bp (m32 x0.k0 a7.k0)
  else
   bp false
 bif v6 then
  bp (BO x0.h8 a7.h8)
 else
  bp false
def FN(x0:bC)(a7:bC):Prop:=
 let v6:Bool:=((iS .eql x0.name a7.name)&&(x0.role==a7.role))&&(fN.den (.pe false) x0.home a7.home)
 let bp:Bool→Prop:=fun ba=>
  let cq:Bool:=v6&&ba
  (cq=true→(
   FM x0.k0 a7.k0))
 (v6=true→(
  (Kb x0.h8 a7.h8)∧
  bp (BO x0.h8 a7.h8)))∧(v6=false→(
  bp false))
noncomputable def BQ(x0:List bC)(a7:List bC):Bool:=
 let v2:Int:=(List.length x0:Int)
 bif(v2 != (List.length a7:Int))then
  false
 else
  Sum.elim (fun r=>r) (fun aZ=>
   true)
  (bJ (fun(i5:Nat) (aB:Unit)=>
   show Step (Bool) (Unit)from
   let ba:bC:=List.getD x0 (Int.toNat (i5:Int)) (bj .bC)
   let cq:bC:=List.getD a7 (Int.toNat (i5:Int)) (bj .bC)
   bif(!(BP ba cq))then
    .ret false
   else
    .bM ()) 0 (Int.toNat v2) ():Bool⊕(Unit))
def Kc(x0:List bC)(a7:List bC):Prop:=
 let v2:Int:=(List.length x0:Int)
 ((v2 != (List.length a7:Int))=false→(
  ∃bq:Nat→(Unit)→Prop,bq 0 ()∧∀(i5:Nat) (d0:Unit),i5<Int.toNat v2→bq i5 d0→(
   let ba:bC:=List.getD x0 (Int.toNat (i5:Int)) (bj .bC)
   let cq:bC:=List.getD a7 (Int.toNat (i5:Int)) (bj .bC)
   (0≤(i5:Int)∧(i5:Int)<(List.length a7:Int))∧
   (FN ba cq)∧
   ((!(BP ba cq))=false→(
    bq (i5+1) ())))))
noncomputable def BR(x0:List Int)(a7:List Int):Bool:=
 let v2:Int:=(List.length x0:Int)
 bif(v2 != (List.length a7:Int))then
  false
 else
  Sum.elim (fun r=>r) (fun aZ=>
   true)
  (bJ (fun(i5:Nat) (aB:Unit)=>
   show Step (Bool) (Unit)from
   bif((List.getD x0 (Int.toNat (i5:Int)) (bj .i64)) != (List.getD a7 (Int.toNat (i5:Int)) (bj .i64)))then
    .ret false
   else
    .bM ()) 0 (Int.toNat v2) ():Bool⊕(Unit))
def Kd(x0:List Int)(a7:List Int):Prop:=
 let v2:Int:=(List.length x0:Int)
 ((v2 != (List.length a7:Int))=false→(
  ∃bq:Nat→(Unit)→Prop,bq 0 ()∧∀(i5:Nat) (d0:Unit),i5<Int.toNat v2→bq i5 d0→(
   (0≤(i5:Int)∧(i5:Int)<(List.length a7:Int))∧
   (((List.getD x0 (Int.toNat (i5:Int)) (bj .i64)) != (List.getD a7 (Int.toNat (i5:Int)) (bj .i64)))=false→(
    bq (i5+1) ())))))
noncomputable def uL(x0:List bk)(a7:List bk):Bool:=
 let v2:Int:=(List.length x0:Int)
 bif(v2 != (List.length a7:Int))then
  false
 else
  Sum.elim (fun r=>r) (fun aZ=>
   true)
  (bJ (fun(i5:Nat) (aB:Unit)=>
   show Step (Bool) (Unit)from
   let ba:bk:=List.getD x0 (Int.toNat (i5:Int)) (bj .bk)
   let cq:bk:=List.getD a7 (Int.toNat (i5:Int)) (bj .bk)
   let v9:=!(bif ba.key.dev==cq.key.dev then bif gB ba.key.m3 cq.key.m3 then bif gB ba.key.attr cq.key.attr then bif ba.value.kind==cq.value.kind then bif ba.value.n==cq.value.n then bif gB ba.value.s cq.value.s then ba.version==cq.version else false else false else false else false else false else false)
   bif v9 then
    .ret false
   else
    .bM ()) 0 (Int.toNat v2) ():Bool⊕(Unit))
def BS(x0:List bk)(a7:List bk):Prop:=
 let v2:Int:=(List.length x0:Int)
 ((v2 != (List.length a7:Int))=false→(
  ∃bq:Nat→(Unit)→Prop,bq 0 ()∧∀(i5:Nat) (d0:Unit),i5<Int.toNat v2→bq i5 d0→(
   let ba:bk:=List.getD x0 (Int.toNat (i5:Int)) (bj .bk)
   let cq:bk:=List.getD a7 (Int.toNat (i5:Int)) (bj .bk)
   (0≤(i5:Int)∧(i5:Int)<(List.length a7:Int))∧
   let v9:=!(bif ba.key.dev==cq.key.dev then bif gB ba.key.m3 cq.key.m3 then bif gB ba.key.attr cq.key.attr then bif ba.value.kind==cq.value.kind then bif ba.value.n==cq.value.n then bif gB ba.value.s cq.value.s then ba.version==cq.version else false else false else false else false else false else false)
   (v9=false→(
    bq (i5+1) ())))))
noncomputable def BT(x0:bS)(a7:bS):Bool:=
 let cn:Bool:=((((((x0.dev==a7.dev)&&(x0.gU==a7.gU))&&(x0.version==a7.version))&&(x0.want==a7.want))&&(x0.done==a7.done))&&(x0.mq==a7.mq))&&(x0.heard==a7.heard)
 let bp:Bool→Bool:=fun cj=>
  let b5:Bool:=cn&&cj
  let bp:Bool→Bool:=fun cV=>
   (b5&&cV)
  bif b5 then
   bp (uL x0.kt a7.kt)
  else
   bp false
 bif cn then
  bp (uL x0.reported a7.reported)
 else
  bp false
def FO(x0:bS)(a7:bS):Prop:=
 let cn:Bool:=((((((x0.dev==a7.dev)&&(x0.gU==a7.gU))&&(x0.version==a7.version))&&(x0.want==a7.want))&&(x0.done==a7.done))&&(x0.mq==a7.mq))&&(x0.heard==a7.heard)
 let bp:Bool→Prop:=fun cj=>
  let b5:Bool:=cn&&cj
  (b5=true→(
   BS x0.kt a7.kt))
 (cn=true→(
  (BS x0.reported a7.reported)∧
  bp (uL x0.reported a7.reported)))∧(cn=false→(
  bp false))
noncomputable def BU(x0:bG)(a7:bG):Bool:=
 let cq:Bool:=(((x0.gU != a7.gU)||(iS .neq x0.mode a7.mode))||(iS .neq x0.source a7.source))||(x0.next != a7.next)
 let bp:Bool→Bool:=fun v9=>
  let v11:Bool:=cq||(!v9)
  let bp:Bool→Bool:=fun v12=>
   let cn:Bool:=v11||(!v12)
   let bp:Bool→Bool:=fun cj=>
    bif(cn||(!cj))then
     false
    else
     let cv:Int:=(List.length x0.fY:Int)
     let v21:Int:=(List.length x0.fg:Int)
     let v25:Int:=(List.length x0.eB:Int)
     bif(((cv != (List.length a7.fY:Int))||(v21 != (List.length a7.fg:Int)))||(v25 != (List.length a7.eB:Int)))then
      false
     else
      Sum.elim (fun r=>r) (fun aZ=>
       Sum.elim (fun r=>r) (fun aB=>
        Sum.elim (fun r=>r) (fun bU=>
         true)
        (bJ (fun(i29:Nat) (b7:Unit)=>
         show Step (Bool) (Unit)from
         let ez:=iS .neq ((List.getD x0.eB (Int.toNat (i29:Int)) (bj .ch)).name) ((List.getD a7.eB (Int.toNat (i29:Int)) (bj .ch)).name)
         let bp:Bool→Step (Bool) (Unit):=fun fJ=>
          bif(ez||(!fJ))then
           .ret false
          else
           .bM ()
         bif ez then
          bp false
         else
          bp (uL ((List.getD x0.eB (Int.toNat (i29:Int)) (bj .ch)).items) ((List.getD a7.eB (Int.toNat (i29:Int)) (bj .ch)).items))) 0 (Int.toNat v25) ():Bool⊕(Unit)))
       (bJ (fun(i29:Nat) (c2:Unit)=>
        show Step (Bool) (Unit)from
        let v31:cm:=List.getD x0.fg (Int.toNat (i29:Int)) (bj .cm)
        let fI:cm:=List.getD a7.fg (Int.toNat (i29:Int)) (bj .cm)
        bif(!(bif gB v31.hj fI.hj then bif v31.h9.top==fI.h9.top then v31.h9.bits==fI.h9.bits else false else false))then
         .ret false
        else
         .bM ()) 0 (Int.toNat v21) ():Bool⊕(Unit)))
      (bJ (fun(i29:Nat) (dT:Unit)=>
       show Step (Bool) (Unit)from
       let v31:bS:=List.getD x0.fY (Int.toNat (i29:Int)) (bj .bS)
       let fI:bS:=List.getD a7.fY (Int.toNat (i29:Int)) (bj .bS)
       bif(!(BT v31 fI))then
        .ret false
       else
        .bM ()) 0 (Int.toNat cv) ():Bool⊕(Unit))
   bif cn then
    bp false
   else
    bp (BR x0.j5 a7.j5)
  bif v11 then
   bp false
  else
   bp (m32 x0.ju a7.ju)
 bif cq then
  bp false
 else
  bp (BQ x0.members a7.members)
def FP(x0:bG)(a7:bG):Prop:=
 let cq:Bool:=(((x0.gU != a7.gU)||(iS .neq x0.mode a7.mode))||(iS .neq x0.source a7.source))||(x0.next != a7.next)
 let bp:Bool→Prop:=fun v9=>
  let v11:Bool:=cq||(!v9)
  let bp:Bool→Prop:=fun v12=>
   let cn:Bool:=v11||(!v12)
   let bp:Bool→Prop:=fun cj=>
    ((cn||(!cj))=false→(
     let cv:Int:=(List.length x0.fY:Int)
     let v21:Int:=(List.length x0.fg:Int)
     let v25:Int:=(List.length x0.eB:Int)
     ((((cv != (List.length a7.fY:Int))||(v21 != (List.length a7.fg:Int)))||(v25 != (List.length a7.eB:Int)))=false→(
      let aW:Unit→Prop:=fun aZ=>
       (0≤v21∧v21<(9223372036854775808:Int))∧
       let fm:Unit→Prop:=fun aB=>
        (0≤v25∧v25<(9223372036854775808:Int))∧
        ∃kv:Nat→(Unit)→Prop,kv 0 ()∧∀(i29:Nat) (d2:Unit),i29<Int.toNat v25→kv i29 d2→(
         (0≤(i29:Int)∧(i29:Int)<(List.length a7.eB:Int))∧
         let ez:=iS .neq ((List.getD x0.eB (Int.toNat (i29:Int)) (bj .ch)).name) ((List.getD a7.eB (Int.toNat (i29:Int)) (bj .ch)).name)
         let k1:ch:=List.getD x0.eB (Int.toNat (i29:Int)) (bj .ch)
         let yu:ch:=List.getD a7.eB (Int.toNat (i29:Int)) (bj .ch)
         (ez=false→0≤(i29:Int)∧(i29:Int)<(List.length a7.eB:Int))∧
         let bp:Bool→Prop:=fun fJ=>
          ((ez||(!fJ))=false→(
           kv (i29+1) ()))
         (ez=true→(
          bp false))∧(ez=false→(
          (BS k1.items yu.items)∧
          bp (uL k1.items yu.items))))
       ∃eU:Nat→(Unit)→Prop,eU 0 ()∧(∀(i29:Nat) (d1:Unit),i29<Int.toNat v21→eU i29 d1→(
        let v31:cm:=List.getD x0.fg (Int.toNat (i29:Int)) (bj .cm)
        let fI:cm:=List.getD a7.fg (Int.toNat (i29:Int)) (bj .cm)
        (0≤(i29:Int)∧(i29:Int)<(List.length a7.fg:Int))∧
        ((!(bif gB v31.hj fI.hj then bif v31.h9.top==fI.h9.top then v31.h9.bits==fI.h9.bits else false else false))=false→(
         eU (i29+1) ()))))∧∀aB,eU (Int.toNat v21) aB→fm aB
      ∃bq:Nat→(Unit)→Prop,bq 0 ()∧(∀(i29:Nat) (d0:Unit),i29<Int.toNat cv→bq i29 d0→(
       let v31:bS:=List.getD x0.fY (Int.toNat (i29:Int)) (bj .bS)
       let fI:bS:=List.getD a7.fY (Int.toNat (i29:Int)) (bj .bS)
       (0≤(i29:Int)∧(i29:Int)<(List.length a7.fY:Int))∧
       (FO v31 fI)∧
       ((!(BT v31 fI))=false→(
        bq (i29+1) ()))))∧∀aZ,bq (Int.toNat cv) aZ→aW aZ))))
   (cn=true→(
    bp false))∧(cn=false→(
    (Kd x0.j5 a7.j5)∧
    bp (BR x0.j5 a7.j5)))
  (v11=true→(
   bp false))∧(v11=false→(
   (FM x0.ju a7.ju)∧
   bp (m32 x0.ju a7.ju)))
 (cq=true→(
  bp false))∧(cq=false→(
  (Kc x0.members a7.members)∧
  bp (BQ x0.members a7.members)))
noncomputable def Ff(x0:bG)(a7:ByteArray):Bool:=
 bif((!(wm x0))||(decide ((ByteArray.size a7:Int)>5000)))then
  (J6)
 else
  let ba:=sT a7
  let v10:=yx a7
  let cj:=iS .eql (yC x0) (yF x0)
  let bp:Bool→Bool:=fun b5=>
   let b3:Bool:=(cj&&b5)&&(ba.2==v10.2)
   let bp:Bool→Bool:=fun v20=>
    (b3&&v20)
   bif b3 then
    bp (J6)
   else
    bp false
  bif cj then
   bp (BU ba.1 v10.1)
  else
   bp false
def yp(x0:bG)(a7:ByteArray):Prop:=
 (sQ x0)∧
 (((!(wm x0))||(decide ((ByteArray.size a7:Int)>5000)))=true→(
  J7))∧(((!(wm x0))||(decide ((ByteArray.size a7:Int)>5000)))=false→(
  let ba:=sT a7
  (Fo a7)∧
  let v10:=yx a7
  (Fs a7)∧
  (FD x0)∧
  (FL x0)∧
  let cj:=iS .eql (yC x0) (yF x0)
  let bp:Bool→Prop:=fun b5=>
   let b3:Bool:=(cj&&b5)&&(ba.2==v10.2)
   (b3=true→(
    J7))
  (cj=true→(
   (FP ba.1 v10.1)∧
   bp (BU ba.1 v10.1)))∧(cj=false→(
   bp false))))
end Go.aK
