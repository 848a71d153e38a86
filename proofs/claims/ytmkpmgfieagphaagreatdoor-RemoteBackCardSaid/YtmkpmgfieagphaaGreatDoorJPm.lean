/- Models, printed. Conditions: none. -/
import Derived.Test.YtmkpmgfieagphaaGreatDoorJTEk
open Go Go.aM Go.eQ
namespace Go.aM
def G7{α:Type}[Inhabited α]:List α→Nat→α
 |[],_=>default
 |[x],_=>x
 |x::l,n=>bif Nat.beq n 0 then x else G7 l (n-1)
noncomputable def fP(x0:Int):ByteArray:=
 Sum.elim (fun r=>r) (fun bR=>
  (bytesOf (List.append bR.2 ([(IntKind.wrap .u8 bR.1)]:List Int))))
 (c0 (fun(aU:Int × (List Int))=>
  show Step (ByteArray) (Int × (List Int))from
  bif(decide (aU.1≥128))then
   .br ((bD .shr .u64 aU.1 (7:Int)),(List.append aU.2 ([(bD .or .u8 (IntKind.wrap .u8 aU.1) (128:Int))]:List Int)))
  else
   .cI (aU.1,aU.2)) dU ((bD .xor .u64 (bD .shl .u64 (IntKind.wrap .u64 x0) (1:Int)) (IntKind.wrap .u64 (bD .shr .i64 x0 (63:Int)))),[]):ByteArray⊕(Int × (List Int)))
def oD(x0:Int):Prop:=
 let aX:(Int × (List Int))→Prop:=fun bR=>
  let v9:List Int:=([(IntKind.wrap .u8 bR.1)]:List Int)
  List.length bR.2+List.length v9≤maxLen∧(List.length bR.2+List.length v9)*1≤140737488355328
 ∃(bx:(Int × (List Int))→Prop) (gY:(Int × (List Int))→Nat),bx ((bD .xor .u64 (bD .shl .u64 (IntKind.wrap .u64 x0) (1:Int)) (IntKind.wrap .u64 (bD .shr .i64 x0 (63:Int)))),[])∧gY ((bD .xor .u64 (bD .shl .u64 (IntKind.wrap .u64 x0) (1:Int)) (IntKind.wrap .u64 (bD .shr .i64 x0 (63:Int)))),[])<dU∧∀(d0:Int × (List Int)),bx d0→(
  ((decide (d0.1≥128))=true→(
   let v11:List Int:=([(bD .or .u8 (IntKind.wrap .u8 d0.1) (128:Int))]:List Int)
   (List.length d0.2+List.length v11≤maxLen∧(List.length d0.2+List.length v11)*1≤140737488355328)∧
   bx ((bD .shr .u64 d0.1 (7:Int)),(List.append d0.2 v11))∧gY ((bD .shr .u64 d0.1 (7:Int)),(List.append d0.2 v11))<gY d0))∧((decide (d0.1≥128))=false→(
   aX (d0.1,d0.2))))
noncomputable def hX(x0:ByteArray):ByteArray:=
 (ByteArray.append (fP (ByteArray.size x0:Int)) x0)
def sk(x0:ByteArray):Prop:=
 let v1:Int:=(ByteArray.size x0:Int)
 let v2:=fP v1
 (oD v1)∧
 ByteArray.size v2+ByteArray.size x0≤9223372036854775807
noncomputable def sl(x0:Int):Bool:=
 ((decide (x0≥(-1099511627776)))&&(decide (x0≤1099511627776)))
noncomputable def iY(x0:cD):Int:=
 let bO:Bool→Int:=fun v1=>
  bif !v1 then
   2
  else
   bif(decide ((ByteArray.size x0.s:Int)>60))then
    3
   else
    bif((cq .neq x0.s (⟨#[]⟩:ByteArray))&&(x0.kind != 4))then
     4
    else
     0
 let aN:Bool→Int:=fun v1=>
  bif v1 then
   bO (x0.n==0)
  else
   bif(x0.kind==1)then
    bO ((x0.n==0)||(x0.n==1))
   else
    bif(x0.kind==2)then
     bO (sl x0.n)
    else
     bif(x0.kind==3)then
      bO ((decide (x0.n≥0))&&(decide (x0.n≤63)))
     else
      7
 let v1:=x0.kind==0
 bif v1 then
  aN v1
 else
  aN (x0.kind==4)
noncomputable def mT(x0:cD):ByteArray:=
 let aN:Int→Int→ByteArray→ByteArray:=fun v3 v4 v5=>
  let v6:=fP v3
  let bO:ByteArray→ByteArray:=fun bF=>
   bF
  let aN:Bool→ByteArray:=fun bF=>
   bif bF then
    bO (ByteArray.append v6 (fP v4))
   else
    bif(v3==4)then
     bO (ByteArray.append v6 (hX v5))
    else
     bO v6
  let bF:=v3==1
  bif bF then
   aN bF
  else
   let bw:=v3==2
   bif bw then
    aN bw
   else
    aN (v3==3)
 bif((iY x0) != 0)then
  aN (0:Int) (0:Int) (⟨#[]⟩:ByteArray)
 else
  aN x0.kind x0.n x0.s
def F2(x0:cD):Prop:=
 let aN:Int→Int→ByteArray→Prop:=fun v3 v4 v5=>
  let v6:=fP v3
  (oD v3)∧
  let aN:Bool→Prop:=fun bF=>
   (bF=true→(
    let v9:=fP v4
    (oD v4)∧
    ByteArray.size v6+ByteArray.size v9≤9223372036854775807))∧(bF=false→(
    ((v3==4)=true→(
     let v10:=hX v5
     (sk v5)∧
     ByteArray.size v6+ByteArray.size v10≤9223372036854775807))))
  let bF:=v3==1
  (bF=true→(
   aN bF))∧(bF=false→(
   let bw:=v3==2
   (bw=true→(
    aN bw))∧(bw=false→(
    aN (v3==3)))))
 (((iY x0) != 0)=true→(
  aN (0:Int) (0:Int) (⟨#[]⟩:ByteArray)))∧(((iY x0) != 0)=false→(
  aN x0.kind x0.n x0.s))
noncomputable def ky(x0:bK):ByteArray:=
 let b3:=ByteArray.append (ByteArray.append (ByteArray.append (ByteArray.append (ByteArray.append (ByteArray.append (fP x0.kind) (fP x0.de)) (fP x0.key.dev)) (hX x0.key.cU)) (hX x0.key.attr)) (hX x0.name)) (mT ⟨x0.value.kind,x0.value.n,x0.value.s⟩)
 (ByteArray.append b3 (hX x0.text))
def vD(x0:bK):Prop:=
 let v1:=fP x0.kind
 (oD x0.kind)∧
 let v2:=fP x0.de
 (oD x0.de)∧
 let v3:=ByteArray.append v1 v2
 (ByteArray.size v1+ByteArray.size v2≤9223372036854775807)∧
 let v4:=fP x0.key.dev
 (oD x0.key.dev)∧
 let v5:=ByteArray.append v3 v4
 (ByteArray.size v3+ByteArray.size v4≤9223372036854775807)∧
 let v6:=hX x0.key.cU
 (sk x0.key.cU)∧
 let bF:=ByteArray.append v5 v6
 (ByteArray.size v5+ByteArray.size v6≤9223372036854775807)∧
 let bw:=hX x0.key.attr
 (sk x0.key.attr)∧
 let v9:=ByteArray.append bF bw
 (ByteArray.size bF+ByteArray.size bw≤9223372036854775807)∧
 let v10:=hX x0.name
 (sk x0.name)∧
 let v11:=ByteArray.append v9 v10
 (ByteArray.size v9+ByteArray.size v10≤9223372036854775807)∧
 let v12:=mT ⟨x0.value.kind,x0.value.n,x0.value.s⟩
 (F2 ⟨x0.value.kind,x0.value.n,x0.value.s⟩)∧
 let b3:=ByteArray.append v11 v12
 (ByteArray.size v11+ByteArray.size v12≤9223372036854775807)∧
 let cV:=hX x0.text
 (sk x0.text)∧
 ByteArray.size b3+ByteArray.size cV≤9223372036854775807
noncomputable def nG(x0:Rd):Rd × Int:=
 bif !x0.made then
  (x0,15)
 else
  (x0,x0.err)
noncomputable def yt(x0:ByteArray):Int × Int × Int:=
 let v1:Int:=(ByteArray.size x0:Int)
 Sum.elim (fun r=>r) (fun _=>
  (0,0,5))
 (bp (fun(i3:Nat) (aU:Int)=>
  show Step (Int × Int × Int) (Int)from
  let v5:Int:=ez x0 (i3:Int)
  bif(((decide ((i3:Int)>0))&&(v5==0))||(((i3:Int)==9)&&(decide (v5>1))))then
   .ret (0,0,4)
  else
   let dH:Int:=bD .or .u64 aU (bD .shl .u64 (IntKind.wrap .u64 (bD .and .u8 v5 (127:Int))) (IntKind.wrap .i64 ((7:Int)*(i3:Int))))
   bif(decide (v5<128))then
    .ret (dH,(IntKind.wrap .i64 ((i3:Int)+(1:Int))),0)
   else
    .br dH) 0 (Int.toNat v1) 0:(Int × Int × Int)⊕(Int))
def F0(x0:ByteArray):Prop:=
 let v1:Int:=(ByteArray.size x0:Int)
 (0≤v1∧v1<(9223372036854775808:Int))∧
 ∃bx:Nat→(Int)→Prop,bx 0 0∧∀(i3:Nat) (d0:Int),i3<Int.toNat v1→bx i3 d0→(
  let v5:Int:=ez x0 (i3:Int)
  ((((decide ((i3:Int)>0))&&(v5==0))||(((i3:Int)==9)&&(decide (v5>1))))=false→(
   let cV:Int:=IntKind.wrap .u64 (bD .and .u8 v5 (127:Int))
   let eU:Int:=IntKind.wrap .i64 ((7:Int)*(i3:Int))
   (0≤eU)∧
   let dH:Int:=bD .or .u64 d0 (bD .shl .u64 cV eU)
   ((decide (v5<128))=false→(
    bx (i3+1) dH)))))
noncomputable def gq(x0:Rd):Rd × Int:=
 let v1:=nG x0
 bif(v1.2 != 0)then
  (v1.1,0)
 else
  let v5:=yt v1.1.rest
  bif(v5.2.2 != 0)then
   (⟨v1.1.rest,v5.2.2,v1.1.made⟩,0)
  else
   (⟨(nK v1.1.rest (some v5.2.1) none),v1.1.err,v1.1.made⟩,(bD .xor .i64 (IntKind.wrap .i64 (bD .shr .u64 v5.1 (1:Int))) (IntKind.wrap .i64 (0-(IntKind.wrap .i64 (bD .and .u64 v5.1 (1:Int)))))))
def nI(x0:Rd):Prop:=
 let v1:=nG x0
 ((v1.2 != 0)=false→(
  let v5:=yt v1.1.rest
  (F0 v1.1.rest)∧
  ((v5.2.2 != 0)=false→(
   jH (ByteArray.size v1.1.rest) (some v5.2.1) none))))
noncomputable def yv(x0:Rd)(ao:Int):Rd × Int:=
 let v2:=gq x0
 let v5:=nG v2.1
 bif(v5.2 != 0)then
  (v5.1,0)
 else
  bif(decide (v2.2<0))then
   (⟨v5.1.rest,4,v5.1.made⟩,0)
  else
   bif(decide (v2.2>(cC.den (.mx .i64) ao (0:Int))))then
    (⟨v5.1.rest,3,v5.1.made⟩,0)
   else
    (v5.1,v2.2)
def F1(x0:Rd)(_:Int):Prop:=
 let _:=gq x0
 nI x0
noncomputable def hG(x0:Rd)(ao:Int):Rd × ByteArray:=
 let v2:=yv x0 ao
 let v5:=nG v2.1
 bif(v5.2 != 0)then
  (v5.1,⟨#[]⟩)
 else
  bif(decide (v2.2>(ByteArray.size v5.1.rest:Int)))then
   (⟨v5.1.rest,5,v5.1.made⟩,⟨#[]⟩)
  else
   (⟨(nK v5.1.rest (some v2.2) none),v5.1.err,v5.1.made⟩,(nK v5.1.rest none (some v2.2)))
def sn(x0:Rd)(ao:Int):Prop:=
 let v2:=yv x0 ao
 (F1 x0 ao)∧
 let v5:=nG v2.1
 ((v5.2 != 0)=false→(
  ((decide (v2.2>(ByteArray.size v5.1.rest:Int)))=false→(
   (jH (ByteArray.size v5.1.rest) none (some v2.2))∧
   jH (ByteArray.size v5.1.rest) (some v2.2) none))))
noncomputable def BE(x0:Rd)(ao:Int):Rd:=
 let v2:=nG x0
 bif(v2.2==0)then
  ⟨v2.1.rest,ao,v2.1.made⟩
 else
  v2.1
noncomputable def tY(x0:Rd):Rd × cD:=
 let v1:=gq x0
 let bO:Int→ByteArray→ByteArray→Int→Bool→Rd × cD:=fun v6 bF bw v9 v10=>
  let aN:ByteArray→Int→Bool→Rd × cD:=fun b3 cV eU=>
   let df:=nG ⟨b3,cV,eU⟩
   bif(df.2 != 0)then
    (df.1,⟨0,0,⟨#[]⟩⟩)
   else
    (df.1,⟨v1.2,v6,bF⟩)
  bif((iY ⟨v1.2,v6,bF⟩) != 0)then
   let b3:=BE ⟨bw,v9,v10⟩ (4:Int)
   aN b3.rest b3.err b3.made
  else
   aN bw v9 v10
 let aN:Bool→Rd × cD:=fun v4=>
  bif v4 then
   let v6:=gq v1.1
   bO v6.2 (⟨#[]⟩:ByteArray) v6.1.rest v6.1.err v6.1.made
  else
   bif(v1.2==4)then
    let bF:=hG v1.1 (60:Int)
    bO (0:Int) bF.2 bF.1.rest bF.1.err bF.1.made
   else
    bO (0:Int) (⟨#[]⟩:ByteArray) v1.1.rest v1.1.err v1.1.made
 let v4:=v1.2==1
 bif v4 then
  aN v4
 else
  let v5:=v1.2==2
  bif v5 then
   aN v5
  else
   aN (v1.2==3)
def BF(x0:Rd):Prop:=
 let v1:=gq x0
 (nI x0)∧
 let aN:Bool→Prop:=fun v4=>
  (v4=true→(
   let _:=gq v1.1
   nI v1.1))∧(v4=false→(
   ((v1.2==4)=true→(
    let _:=hG v1.1 (60:Int)
    sn v1.1 (60:Int)))))
 let v4:=v1.2==1
 (v4=true→(
  aN v4))∧(v4=false→(
  let v5:=v1.2==2
  (v5=true→(
   aN v5))∧(v5=false→(
   aN (v1.2==3)))))
noncomputable def FZ(x0:Rd):Rd × Int:=
 let v1:=nG x0
 bif(v1.2 != 0)then
  (v1.1,0)
 else
  (v1.1,(ByteArray.size v1.1.rest:Int))
noncomputable def vM(x0:Rd):Rd × Int:=
 let v1:=FZ x0
 bif(decide (v1.2>0))then
  (v1.1,23)
 else
  let v5:=nG v1.1
  (v5.1,v5.2)
noncomputable def yw(x0:bK):Int:=
 bif((decide (x0.kind<1))||(decide (x0.kind>7)))then
  7
 else
  0
noncomputable def yx(x0:bK):Int:=
 bif((decide (x0.de<0))||(decide (x0.de>1099511627776)))then
  2
 else
  0
noncomputable def hE(x0:ByteArray):bK × Int:=
 let v1:=gq ⟨x0,0,true⟩
 let v4:=gq v1.1
 let bF:=gq v4.1
 let v10:=hG bF.1 (24:Int)
 let b3:=hG v10.1 (24:Int)
 let df:=hG b3.1 (24:Int)
 let cG:=tY df.1
 let v22:=hG cG.1 (20000:Int)
 let aN:Int→bK × Int:=fun v25=>
  bif(v25 != 0)then
   (⟨0,0,⟨0,⟨#[]⟩,⟨#[]⟩⟩,⟨#[]⟩,⟨0,0,⟨#[]⟩⟩,⟨#[]⟩⟩,v25)
  else
   (⟨v1.2,v4.2,⟨bF.2,v10.2,b3.2⟩,df.2,⟨cG.2.kind,cG.2.n,cG.2.s⟩,v22.2⟩,0)
 let v25:=vM v22.1
 bif(v25.2 != 0)then
  aN v25.2
 else
  let iG:=yw ⟨v1.2,v4.2,⟨bF.2,v10.2,b3.2⟩,df.2,⟨cG.2.kind,cG.2.n,cG.2.s⟩,v22.2⟩
  bif(iG != 0)then
   aN iG
  else
   let v31:=yx ⟨v1.2,v4.2,⟨bF.2,v10.2,b3.2⟩,df.2,⟨cG.2.kind,cG.2.n,cG.2.s⟩,v22.2⟩
   bif(v31 != 0)then
    aN v31
   else
    aN (0:Int)
def tM(x0:ByteArray):Prop:=
 let v1:=gq ⟨x0,0,true⟩
 (nI ⟨x0,0,true⟩)∧
 let v4:=gq v1.1
 (nI v1.1)∧
 let bF:=gq v4.1
 (nI v4.1)∧
 let v10:=hG bF.1 (24:Int)
 (sn bF.1 (24:Int))∧
 let b3:=hG v10.1 (24:Int)
 (sn v10.1 (24:Int))∧
 let df:=hG b3.1 (24:Int)
 (sn b3.1 (24:Int))∧
 let cG:=tY df.1
 (BF df.1)∧
 let _:=hG cG.1 (20000:Int)
 sn cG.1 (20000:Int)
noncomputable def G9(x0:Int):Bool:=
 ((decide (x0≥97))&&(decide (x0≤122)))
noncomputable def iq(x0:ByteArray):Bool:=
 bif((decide ((ByteArray.size x0:Int)<1))||(decide ((ByteArray.size x0:Int)>24)))then
  false
 else
  Sum.elim (fun r=>r) (fun _=>
   true)
  (c0 (fun(aU:Int)=>
   show Step (Bool) (Int)from
   let v9:Int:=cC.den .l6 x0 aU
   bif(cC.den .l5 x0 aU)then
    bif((!(G9 v9))&&(((cC.den .l7 x0 aU)==0)||(((v9 != 95)&&(v9 != 45))&&((decide (v9<48))||(decide (v9>57))))))then
     .ret false
    else
     .br (cC.den .kP x0 aU)
   else
    .cI aU) dU 0:Bool⊕(Int))
def nJ(x0:ByteArray):Prop:=
 (((decide ((ByteArray.size x0:Int)<1))||(decide ((ByteArray.size x0:Int)>24)))=false→(
  ∃(bx:(Int)→Prop) (gY:(Int)→Nat),bx 0∧gY 0<dU∧∀(d0:Int),bx d0→(
   let v9:Int:=cC.den .l6 x0 d0
   ((cC.den .l5 x0 d0)=true→(
    (((!(G9 v9))&&(((cC.den .l7 x0 d0)==0)||(((v9 != 95)&&(v9 != 45))&&((decide (v9<48))||(decide (v9>57))))))=false→(
     bx (cC.den .kP x0 d0)∧gY (cC.den .kP x0 d0)<gY d0)))))))
noncomputable def vL(x0:cD):Int:=
 let bO:Int→Int→Int:=fun v1 v2=>
  bif((decide (x0.n<v1))||(decide (x0.n>v2)))then
   2
  else
   bif(decide ((ByteArray.size x0.s:Int)>60))then
    3
   else
    bif((cq .neq x0.s (⟨#[]⟩:ByteArray))&&(x0.kind != 4))then
     4
    else
     0
 let aN:Bool→Int:=fun v1=>
  bif v1 then
   bO (0:Int) (0:Int)
  else
   bif(x0.kind==1)then
    bO (0:Int) (1:Int)
   else
    bif(x0.kind==2)then
     bO ((-1099511627776):Int) (1099511627776:Int)
    else
     bif(x0.kind==3)then
      bO (0:Int) (63:Int)
     else
      7
 let v1:=x0.kind==0
 bif v1 then
  aN v1
 else
  aN (x0.kind==4)
noncomputable def j0(x0:Int):ByteArray:=
 let v2:Int:=bD .shl .u64 (IntKind.wrap .u64 x0) (1:Int)
 let aN:Int→ByteArray:=fun v3=>
  Sum.elim (fun r=>r) (fun bR=>
   (bytesOf (List.append bR.2 ([(IntKind.wrap .u8 bR.1)]:List Int))))
  (c0 (fun(aU:Int × (List Int))=>
   show Step (ByteArray) (Int × (List Int))from
   bif(decide (aU.1≥128))then
    .br ((bD .quo .u64 aU.1 (128:Int)),(List.append aU.2 ([(IntKind.wrap .u8 ((IntKind.wrap .u8 (bD .rem .u64 aU.1 (128:Int)))+(128:Int)))]:List Int)))
   else
    .cI (aU.1,aU.2)) dU (v3,[]):ByteArray⊕(Int × (List Int)))
 bif(decide (x0<0))then
  aN (gF.den (.ux .u64) v2)
 else
  aN v2
def pS(x0:Int):Prop:=
 let v2:Int:=bD .shl .u64 (IntKind.wrap .u64 x0) (1:Int)
 let aN:Int→Prop:=fun v3=>
  let aX:(Int × (List Int))→Prop:=fun bR=>
   let bw:List Int:=([(IntKind.wrap .u8 bR.1)]:List Int)
   List.length bR.2+List.length bw≤maxLen∧(List.length bR.2+List.length bw)*1≤140737488355328
  ∃(bx:(Int × (List Int))→Prop) (gY:(Int × (List Int))→Nat),bx (v3,[])∧gY (v3,[])<dU∧∀(d0:Int × (List Int)),bx d0→(
   ((decide (d0.1≥128))=true→(
    let v11:List Int:=([(IntKind.wrap .u8 ((IntKind.wrap .u8 (bD .rem .u64 d0.1 (128:Int)))+(128:Int)))]:List Int)
    (List.length d0.2+List.length v11≤maxLen∧(List.length d0.2+List.length v11)*1≤140737488355328)∧
    bx ((bD .quo .u64 d0.1 (128:Int)),(List.append d0.2 v11))∧gY ((bD .quo .u64 d0.1 (128:Int)),(List.append d0.2 v11))<gY d0))∧((decide (d0.1≥128))=false→(
    aX (d0.1,d0.2))))
 ((decide (x0<0))=true→(
  aN (gF.den (.ux .u64) v2)))∧((decide (x0<0))=false→(
  aN v2))
noncomputable def qV(x0:ByteArray):ByteArray:=
 (ByteArray.append (j0 (ByteArray.size x0:Int)) x0)
def BC(x0:ByteArray):Prop:=
 let v1:Int:=(ByteArray.size x0:Int)
 let v2:=j0 v1
 (pS v1)∧
 ByteArray.size v2+ByteArray.size x0≤9223372036854775807
noncomputable def jG(x0:ByteArray):Bool:=
 let v3:Int:=(ByteArray.size x0:Int)
 bif((decide ((ByteArray.size x0:Int)<1))||(decide (v3>24)))then
  false
 else
  Sum.elim (fun r=>r) (fun _=>
   true)
  (bp (fun(i6:Nat) (_:Unit)=>
   show Step (Bool) (Unit)from
   let bw:Int:=ez x0 (i6:Int)
   bif((!((decide (bw≥97))&&(decide (bw≤122))))&&(((i6:Int)==0)||(((bw != 95)&&(bw != 45))&&((decide (bw<48))||(decide (bw>57))))))then
    .ret false
   else
    .br ()) 0 (Int.toNat v3) ():Bool⊕(Unit))
def pW(x0:ByteArray):Prop:=
 let v3:Int:=(ByteArray.size x0:Int)
 (((decide ((ByteArray.size x0:Int)<1))||(decide (v3>24)))=false→(
  0≤v3∧v3<(9223372036854775808:Int)))
noncomputable def PY(x0:ByteArray):ByteArray:=
 let v1:Int:=(ByteArray.size x0:Int)
 Sum.elim (fun r=>r) (fun bR=>
  (bytesOf bR))
 (bp (fun(i3:Nat) (aU:(List Int))=>
  show Step (ByteArray) ((List Int))from
  let v11:List Int:=([(ez (⟨#[48,49,50,51,52,53,54,55,56,57,97,98,99,100,101,102]⟩:ByteArray) (bD .quo .u8 (ez x0 (i3:Int)) (16:Int))),(ez (⟨#[48,49,50,51,52,53,54,55,56,57,97,98,99,100,101,102]⟩:ByteArray) (bD .rem .u8 (ez x0 (i3:Int)) (16:Int)))]:List Int)
  .br (List.append aU v11)) 0 (Int.toNat v1) []:ByteArray⊕((List Int)))
def GB(x0:ByteArray):Prop:=
 let v1:Int:=(ByteArray.size x0:Int)
 (0≤v1∧v1<(9223372036854775808:Int))∧
 ∃bx:Nat→((List Int))→Prop,bx 0 []∧∀(i3:Nat) (d0:(List Int)),i3<Int.toNat v1→bx i3 d0→(
  let v6:Int:=bD .quo .u8 (ez x0 (i3:Int)) (16:Int)
  (0≤v6∧v6<(ByteArray.size (⟨#[48,49,50,51,52,53,54,55,56,57,97,98,99,100,101,102]⟩:ByteArray):Int))∧
  let v9:Int:=bD .rem .u8 (ez x0 (i3:Int)) (16:Int)
  (0≤v9∧v9<(ByteArray.size (⟨#[48,49,50,51,52,53,54,55,56,57,97,98,99,100,101,102]⟩:ByteArray):Int))∧
  let v11:List Int:=([(ez (⟨#[48,49,50,51,52,53,54,55,56,57,97,98,99,100,101,102]⟩:ByteArray) v6),(ez (⟨#[48,49,50,51,52,53,54,55,56,57,97,98,99,100,101,102]⟩:ByteArray) v9)]:List Int)
  (List.length d0+List.length v11≤maxLen∧(List.length d0+List.length v11)*1≤140737488355328)∧
  bx (i3+1) (List.append d0 v11))
noncomputable def BS(x0:Int):Int:=
 (cC.den (.uy .i64) (cC.den (.mx .i64) x0 ((-1099511627776):Int)) (1099511627776:Int))
noncomputable def y8(x0:Int):Int:=
 Sum.elim (fun r=>r) (fun _=>
  (-1))
 (bp (fun(i17:Nat) (_:Unit)=>
  show Step (Int) (Unit)from
  let cG:Int:=G7 ([(ez (⟨#[48,49,50,51,52,53,54,55,56,57,97,98,99,100,101,102]⟩:ByteArray) (0:Int)),(ez (⟨#[48,49,50,51,52,53,54,55,56,57,97,98,99,100,101,102]⟩:ByteArray) (1:Int)),(ez (⟨#[48,49,50,51,52,53,54,55,56,57,97,98,99,100,101,102]⟩:ByteArray) (2:Int)),(ez (⟨#[48,49,50,51,52,53,54,55,56,57,97,98,99,100,101,102]⟩:ByteArray) (3:Int)),(ez (⟨#[48,49,50,51,52,53,54,55,56,57,97,98,99,100,101,102]⟩:ByteArray) (4:Int)),(ez (⟨#[48,49,50,51,52,53,54,55,56,57,97,98,99,100,101,102]⟩:ByteArray) (5:Int)),(ez (⟨#[48,49,50,51,52,53,54,55,56,57,97,98,99,100,101,102]⟩:ByteArray) (6:Int)),(ez (⟨#[48,49,50,51,52,53,54,55,56,57,97,98,99,100,101,102]⟩:ByteArray) (7:Int)),(ez (⟨#[48,49,50,51,52,53,54,55,56,57,97,98,99,100,101,102]⟩:ByteArray) (8:Int)),(ez (⟨#[48,49,50,51,52,53,54,55,56,57,97,98,99,100,101,102]⟩:ByteArray) (9:Int)),(ez (⟨#[48,49,50,51,52,53,54,55,56,57,97,98,99,100,101,102]⟩:ByteArray) (10:Int)),(ez (⟨#[48,49,50,51,52,53,54,55,56,57,97,98,99,100,101,102]⟩:ByteArray) (11:Int)),(ez (⟨#[48,49,50,51,52,53,54,55,56,57,97,98,99,100,101,102]⟩:ByteArray) (12:Int)),(ez (⟨#[48,49,50,51,52,53,54,55,56,57,97,98,99,100,101,102]⟩:ByteArray) (13:Int)),(ez (⟨#[48,49,50,51,52,53,54,55,56,57,97,98,99,100,101,102]⟩:ByteArray) (14:Int)),(ez (⟨#[48,49,50,51,52,53,54,55,56,57,97,98,99,100,101,102]⟩:ByteArray) (15:Int))]:List Int) (Int.toNat (i17:Int))
  bif(cG==x0)then
   .ret (i17:Int)
  else
   .br ()) 0 (Int.toNat (16:Int)) ():Int⊕(Unit))
def yR(_:Int):Prop:=
 (0≤(0:Int)∧(0:Int)<(ByteArray.size (⟨#[48,49,50,51,52,53,54,55,56,57,97,98,99,100,101,102]⟩:ByteArray):Int))∧
 (0≤(1:Int)∧(1:Int)<(ByteArray.size (⟨#[48,49,50,51,52,53,54,55,56,57,97,98,99,100,101,102]⟩:ByteArray):Int))∧
 (0≤(2:Int)∧(2:Int)<(ByteArray.size (⟨#[48,49,50,51,52,53,54,55,56,57,97,98,99,100,101,102]⟩:ByteArray):Int))∧
 (0≤(3:Int)∧(3:Int)<(ByteArray.size (⟨#[48,49,50,51,52,53,54,55,56,57,97,98,99,100,101,102]⟩:ByteArray):Int))∧
 (0≤(4:Int)∧(4:Int)<(ByteArray.size (⟨#[48,49,50,51,52,53,54,55,56,57,97,98,99,100,101,102]⟩:ByteArray):Int))∧
 (0≤(5:Int)∧(5:Int)<(ByteArray.size (⟨#[48,49,50,51,52,53,54,55,56,57,97,98,99,100,101,102]⟩:ByteArray):Int))∧
 (0≤(6:Int)∧(6:Int)<(ByteArray.size (⟨#[48,49,50,51,52,53,54,55,56,57,97,98,99,100,101,102]⟩:ByteArray):Int))∧
 (0≤(7:Int)∧(7:Int)<(ByteArray.size (⟨#[48,49,50,51,52,53,54,55,56,57,97,98,99,100,101,102]⟩:ByteArray):Int))∧
 (0≤(8:Int)∧(8:Int)<(ByteArray.size (⟨#[48,49,50,51,52,53,54,55,56,57,97,98,99,100,101,102]⟩:ByteArray):Int))∧
 (0≤(9:Int)∧(9:Int)<(ByteArray.size (⟨#[48,49,50,51,52,53,54,55,56,57,97,98,99,100,101,102]⟩:ByteArray):Int))∧
 (0≤(10:Int)∧(10:Int)<(ByteArray.size (⟨#[48,49,50,51,52,53,54,55,56,57,97,98,99,100,101,102]⟩:ByteArray):Int))∧
 (0≤(11:Int)∧(11:Int)<(ByteArray.size (⟨#[48,49,50,51,52,53,54,55,56,57,97,98,99,100,101,102]⟩:ByteArray):Int))∧
 (0≤(12:Int)∧(12:Int)<(ByteArray.size (⟨#[48,49,50,51,52,53,54,55,56,57,97,98,99,100,101,102]⟩:ByteArray):Int))∧
 (0≤(13:Int)∧(13:Int)<(ByteArray.size (⟨#[48,49,50,51,52,53,54,55,56,57,97,98,99,100,101,102]⟩:ByteArray):Int))∧
 (0≤(14:Int)∧(14:Int)<(ByteArray.size (⟨#[48,49,50,51,52,53,54,55,56,57,97,98,99,100,101,102]⟩:ByteArray):Int))∧
 0≤(15:Int)∧(15:Int)<(ByteArray.size (⟨#[48,49,50,51,52,53,54,55,56,57,97,98,99,100,101,102]⟩:ByteArray):Int)
noncomputable def oL(x0:ByteArray):ByteArray × Int:=
 let v1:Int:=(ByteArray.size x0:Int)
 bif((bD .rem .i64 v1 (2:Int)) != 0)then
  (⟨#[]⟩,4)
 else
  Sum.elim (fun r=>r) (fun bR=>
   ((bytesOf bR.2),0))
  (c0 (fun(aU:Int × (List Int))=>
   show Step (ByteArray × Int) (Int × (List Int))from
   bif(decide (aU.1<v1))then
    let v12:=y8 (ez x0 aU.1)
    let b3:=y8 (ez x0 (IntKind.wrap .i64 (aU.1+(1:Int))))
    bif((decide (v12<0))||(decide (b3<0)))then
     .ret (⟨#[]⟩,4)
    else
     .br ((IntKind.wrap .i64 (aU.1+(2:Int))),(List.append aU.2 ([(IntKind.wrap .u8 (IntKind.wrap .i64 ((IntKind.wrap .i64 ((16:Int)*v12))+b3)))]:List Int)))
   else
    .cI (aU.1,aU.2)) dU (0,(List.replicate (Int.toNat (0:Int)) (az .u8))):(ByteArray × Int)⊕(Int × (List Int)))
def B9(x0:ByteArray):Prop:=
 let v1:Int:=(ByteArray.size x0:Int)
 (((bD .rem .i64 v1 (2:Int)) != 0)=false→(
  (0≤(0:Int)∧(0:Int)≤(bD .quo .i64 v1 (2:Int))∧(bD .quo .i64 v1 (2:Int))≤(maxLen:Int)∧(1:Int)*(bD .quo .i64 v1 (2:Int))≤281474976710656)∧
  ∃(bx:(Int × (List Int))→Prop) (gY:(Int × (List Int))→Nat),bx (0,(List.replicate (Int.toNat (0:Int)) (az .u8)))∧gY (0,(List.replicate (Int.toNat (0:Int)) (az .u8)))<dU∧∀(d0:Int × (List Int)),bx d0→(
   ((decide (d0.1<v1))=true→(
    let v9:Int:=ez x0 d0.1
    (0≤d0.1∧d0.1<(ByteArray.size x0:Int))∧
    let v10:Int:=IntKind.wrap .i64 (d0.1+(1:Int))
    let v11:Int:=ez x0 v10
    (0≤v10∧v10<(ByteArray.size x0:Int))∧
    let v12:=y8 v9
    (yR v9)∧
    let b3:=y8 v11
    (yR v11)∧
    (((decide (v12<0))||(decide (b3<0)))=false→(
     let v20:List Int:=([(IntKind.wrap .u8 (IntKind.wrap .i64 ((IntKind.wrap .i64 ((16:Int)*v12))+b3)))]:List Int)
     (List.length d0.2+List.length v20≤maxLen∧(List.length d0.2+List.length v20)*1≤140737488355328)∧
     bx ((IntKind.wrap .i64 (d0.1+(2:Int))),(List.append d0.2 v20))∧gY ((IntKind.wrap .i64 (d0.1+(2:Int))),(List.append d0.2 v20))<gY d0)))))))
noncomputable def q0(x0:List ByteArray)(ao:ByteArray):Int:=
 let v2:Int:=(List.length x0:Int)
 Sum.elim (fun r=>r) (fun _=>
  (-1))
 (bp (fun(i3:Nat) (_:Unit)=>
  show Step (Int) (Unit)from
  bif(cq .eql ao (List.getD x0 (Int.toNat (i3:Int)) (az .str)))then
   .ret (i3:Int)
  else
   .br ()) 0 (Int.toNat v2) ():Int⊕(Unit))
noncomputable def jI(x0:List ByteArray)(ao:ByteArray):Bool:=
 (decide ((q0 x0 ao)≥0))
noncomputable def q3(x0:List ByteArray)(ao:ByteArray):Int:=
 (q0 x0 ao)
noncomputable def vS(x0:List ByteArray):Int:=
 let v3:Int:=(List.length x0:Int)
 bif((decide ((List.length x0:Int)<1))||(decide (v3>64)))then
  3
 else
  Sum.elim (fun r=>r) (fun _=>
   0)
  (bp (fun(i6:Nat) (_:Unit)=>
   show Step (Int) (Unit)from
   let bw:ByteArray:=List.getD x0 (Int.toNat (i6:Int)) (az .str)
   bif(!(iq bw))then
    .ret 10
   else
    bif(decide ((q3 x0 bw)<(i6:Int)))then
     .ret 9
    else
     .br ()) 0 (Int.toNat v3) ():Int⊕(Unit))
def BK(x0:List ByteArray):Prop:=
 let v3:Int:=(List.length x0:Int)
 (((decide ((List.length x0:Int)<1))||(decide (v3>64)))=false→(
  ∃bx:Nat→(Unit)→Prop,bx 0 ()∧∀(i6:Nat) (d0:Unit),i6<Int.toNat v3→bx i6 d0→(
   let bw:ByteArray:=List.getD x0 (Int.toNat (i6:Int)) (az .str)
   (nJ bw)∧
   ((!(iq bw))=false→(
    ((decide ((q3 x0 bw)<(i6:Int)))=false→(
     bx (i6+1) ())))))))
noncomputable def j2(x0:Attr):Int:=
 bif(!(iq x0.name))then
  10
 else
  bif((decide (x0.kind<1))||(decide (x0.kind>4)))then
   7
  else
   let bO:Int:=
    bif(x0.kind==3)then
     (vS x0.enum)
    else
     bif(decide ((List.length x0.enum:Int)>0))then
      4
     else
      0
   bif(x0.kind==2)then
    let bw:=!(sl x0.min)
    let aN:Bool→Int:=fun v9=>
     bif((bw||(!v9))||(decide (x0.min>x0.max)))then
      2
     else
      bO
    bif bw then
     aN false
    else
     aN (sl x0.max)
   else
    bif((x0.min != 0)||(x0.max != 0))then
     2
    else
     bO
def vR(x0:Attr):Prop:=
 (nJ x0.name)∧
 ((!(iq x0.name))=false→(
  (((decide (x0.kind<1))||(decide (x0.kind>4)))=false→(
   let bO:Prop:=
    ((x0.kind==3)=true→(
     BK x0.enum))
   ((x0.kind==2)=true→(
    let bw:=!(sl x0.min)
    let aN:Bool→Prop:=fun v9=>
     (((bw||(!v9))||(decide (x0.min>x0.max)))=false→(
      bO))
    (bw=true→(
     aN false))∧(bw=false→(
     aN (sl x0.max)))))∧((x0.kind==2)=false→(
    (((x0.min != 0)||(x0.max != 0))=false→(
     bO))))))))
noncomputable def oI(x0:aK):Bool:=
 let v1:Int:=(List.length x0.commands:Int)
 Sum.elim (fun r=>r) (fun _=>
  (((decide ((List.length x0.attrs:Int)>12))||(decide ((List.length x0.commands:Int)>12)))||(decide ((List.length x0.events:Int)>12))))
 (bp (fun(i2:Nat) (_:Unit)=>
  show Step (Bool) (Unit)from
  bif(decide ((List.length ((List.getD x0.commands (Int.toNat (i2:Int)) (az .Command)).gj):Int)>12))then
   .ret true
  else
   .br ()) 0 (Int.toNat v1) ():Bool⊕(Unit))
noncomputable def uc(x0:Attr):Bool:=
 (((((((cq .eql x0.name (⟨#[]⟩:ByteArray))&&(x0.kind==0))&&(x0.min==0))&&(x0.max==0))&&((List.length x0.enum:Int)==0))&&(!x0.fx))&&(!x0.safety))
def CH(x:List ByteArray):List ByteArray:=x
def vQ(x:List ByteArray):Prop:=x.length≤maxLen∧x.length*16≤140737488355328
noncomputable def ss(x0:aK)(ao:ByteArray):Attr × Bool:=
 let v2:Int:=(List.length x0.attrs:Int)
 Sum.elim (fun r=>r) (fun _=>
  (⟨⟨#[]⟩,0,0,0,[],false,false⟩,false))
 (bp (fun(i3:Nat) (_:Unit)=>
  show Step (Attr × Bool) (Unit)from
  let v5:Attr:=List.getD x0.attrs (Int.toNat (i3:Int)) (az .Attr)
  bif(cq .eql v5.name ao)then
   .ret (⟨v5.name,v5.kind,v5.min,v5.max,(CH v5.enum),v5.fx,v5.safety⟩,true)
  else
   .br ()) 0 (Int.toNat v2) ():(Attr × Bool)⊕(Unit))
def yz(x0:aK)(ao:ByteArray):Prop:=
 let v2:Int:=(List.length x0.attrs:Int)
 ∃bx:Nat→(Unit)→Prop,bx 0 ()∧∀(i3:Nat) (d0:Unit),i3<Int.toNat v2→bx i3 d0→(
  let v5:Attr:=List.getD x0.attrs (Int.toNat (i3:Int)) (az .Attr)
  ((cq .eql v5.name ao)=true→(
   vQ v5.enum))∧((cq .eql v5.name ao)=false→(
   bx (i3+1) ())))
noncomputable def vT(x0:Attr)(ao:cD):Int:=
 let v2:=j2 x0
 bif(v2 != 0)then
  v2
 else
  let v4:=iY ao
  bif(v4 != 0)then
   v4
  else
   bif(ao.kind != x0.kind)then
    11
   else
    let aN:Bool→Int:=fun bF=>
     bif bF then
      2
     else
      0
    let v11:Bool:=(ao.kind==2)&&((decide (ao.n<x0.min))||(decide (ao.n>x0.max)))
    bif v11 then
     aN v11
    else
     aN ((ao.kind==3)&&(decide (ao.n≥(List.length x0.enum:Int))))
def yy(x0:Attr)(_:cD):Prop:=
 let _:=j2 x0
 vR x0
noncomputable def yF(x0:List ByteArray)(ao:List ByteArray):Bool:=
 let v2:Int:=(List.length x0:Int)
 bif(v2 != (List.length ao:Int))then
  false
 else
  Sum.elim (fun r=>r) (fun _=>
   true)
  (bp (fun(i5:Nat) (_:Unit)=>
   show Step (Bool) (Unit)from
   bif(cq .neq (List.getD x0 (Int.toNat (i5:Int)) (az .str)) (List.getD ao (Int.toNat (i5:Int)) (az .str)))then
    .ret false
   else
    .br ()) 0 (Int.toNat v2) ():Bool⊕(Unit))
def F6(x0:List ByteArray)(ao:List ByteArray):Prop:=
 let v2:Int:=(List.length x0:Int)
 ((v2 != (List.length ao:Int))=false→(
  ∃bx:Nat→(Unit)→Prop,bx 0 ()∧∀(i5:Nat) (d0:Unit),i5<Int.toNat v2→bx i5 d0→(
   (0≤(i5:Int)∧(i5:Int)<(List.length ao:Int))∧
   ((cq .neq (List.getD x0 (Int.toNat (i5:Int)) (az .str)) (List.getD ao (Int.toNat (i5:Int)) (az .str)))=false→(
    bx (i5+1) ())))))
noncomputable def BT(x0:Attr)(ao:Attr):Bool:=
 let v2:=x0.kind==ao.kind
 let aN:Bool→Bool:=fun v3=>
  (v2&&v3)
 bif v2 then
  aN (yF x0.enum ao.enum)
 else
  aN false
def F7(x0:Attr)(ao:Attr):Prop:=
 let v2:=x0.kind==ao.kind
 (v2=true→(
  F6 x0.enum ao.enum))
noncomputable def BV(x0:cM)(ao:Attr)(bW:Attr):Bool:=
 bif(x0.kind==1)then
  let v4:=ao.kind != 4
  let aN:Int→Bool:=fun v5=>
   (v4&&(v5==0))
  bif v4 then
   aN (vT ao ⟨ao.kind,x0.n,⟨#[]⟩⟩)
  else
   aN (0:Int)
 else
  bif(x0.kind==2)then
   (BT ao bW)
  else
   bif(x0.kind==3)then
    (ao.kind==2)
   else
    (ao.kind==1)
def BM(x0:cM)(ao:Attr)(bW:Attr):Prop:=
 ((x0.kind==1)=true→(
  let v4:=ao.kind != 4
  (v4=true→(
   yy ao ⟨ao.kind,x0.n,⟨#[]⟩⟩))))∧((x0.kind==1)=false→(
  ((x0.kind==2)=true→(
   F7 ao bW))))
noncomputable def pZ(x0:aK)(ao:Attr)(bW:cM):Int:=
 bif((decide (bW.kind<1))||(decide (bW.kind>4)))then
  7
 else
  let v6:=ss x0 bW.attr
  bif !v6.2 then
   8
  else
   bif !v6.1.fx then
    24
   else
    bif(!(BV bW v6.1 ao))then
     11
    else
     let b3:=bW.kind==3
     let aN:Int→Int:=fun cV=>
      bif(b3&&(cV != bW.n))then
       2
      else
       bif(((bW.kind==2)||(bW.kind==4))&&(bW.n != 0))then
        4
       else
        0
     bif b3 then
      aN (BS bW.n)
     else
      aN (0:Int)
def BN(x0:aK)(ao:Attr)(bW:cM):Prop:=
 (((decide (bW.kind<1))||(decide (bW.kind>4)))=false→(
  let v6:=ss x0 bW.attr
  (yz x0 bW.attr)∧
  ((!v6.2)=false→(
   ((!v6.1.fx)=false→(
    BM bW v6.1 ao))))))
noncomputable def oH(x0:aK)(ao:Int):Int:=
 let v2:Command:=List.getD x0.commands (Int.toNat ao) (az .Command)
 bif(!(iq v2.name))then
  10
 else
  let v5:=iF x0.commands none (some ao)
  let v6:Int:=(List.length v5:Int)
  Sum.elim (fun r=>r) (fun _=>
   let aN:Int:=
    let bw:Int:=(List.length v2.gj:Int)
    Sum.elim (fun r=>r) (fun _=>
     0)
    (bp (fun(i9:Nat) (_:Unit)=>
     show Step (Int) (Unit)from
     let v11:cM:=List.getD v2.gj (Int.toNat (i9:Int)) (az .cM)
     let v12:=pZ x0 ⟨v2.param.name,v2.param.kind,v2.param.min,v2.param.max,v2.param.enum,v2.param.fx,v2.param.safety⟩ v11
     bif(v12 != 0)then
      .ret v12
     else
      .br ()) 0 (Int.toNat bw) ():Int⊕(Unit))
   bif(v2.param.kind==0)then
    bif(!(uc ⟨v2.param.name,v2.param.kind,v2.param.min,v2.param.max,v2.param.enum,v2.param.fx,v2.param.safety⟩))then
     4
    else
     aN
   else
    let bw:=j2 ⟨v2.param.name,v2.param.kind,v2.param.min,v2.param.max,v2.param.enum,v2.param.fx,v2.param.safety⟩
    bif(bw != 0)then
     bw
    else
     aN)
  (bp (fun(i7:Nat) (_:Unit)=>
   show Step (Int) (Unit)from
   bif(cq .eql ((List.getD v5 (Int.toNat (i7:Int)) (az .Command)).name) v2.name)then
    .ret 9
   else
    .br ()) 0 (Int.toNat v6) ():Int⊕(Unit))
def BO(x0:aK)(ao:Int):Prop:=
 let v2:Command:=List.getD x0.commands (Int.toNat ao) (az .Command)
 (0≤ao∧ao<(List.length x0.commands:Int))∧
 (nJ v2.name)∧
 ((!(iq v2.name))=false→(
  let v5:=iF x0.commands none (some ao)
  (jH (List.length x0.commands) none (some ao))∧
  let v6:Int:=(List.length v5:Int)
  let aX:Unit→Prop:=fun _=>
   let aN:Prop:=
    let bw:Int:=(List.length v2.gj:Int)
    ∃eo:Nat→(Unit)→Prop,eo 0 ()∧∀(i9:Nat) (d1:Unit),i9<Int.toNat bw→eo i9 d1→(
     let v11:cM:=List.getD v2.gj (Int.toNat (i9:Int)) (az .cM)
     let v12:=pZ x0 ⟨v2.param.name,v2.param.kind,v2.param.min,v2.param.max,v2.param.enum,v2.param.fx,v2.param.safety⟩ v11
     (BN x0 ⟨v2.param.name,v2.param.kind,v2.param.min,v2.param.max,v2.param.enum,v2.param.fx,v2.param.safety⟩ v11)∧
     ((v12 != 0)=false→(
      eo (i9+1) ())))
   ((v2.param.kind==0)=true→(
    ((!(uc ⟨v2.param.name,v2.param.kind,v2.param.min,v2.param.max,v2.param.enum,v2.param.fx,v2.param.safety⟩))=false→(
     aN))))∧((v2.param.kind==0)=false→(
    let bw:=j2 ⟨v2.param.name,v2.param.kind,v2.param.min,v2.param.max,v2.param.enum,v2.param.fx,v2.param.safety⟩
    (vR ⟨v2.param.name,v2.param.kind,v2.param.min,v2.param.max,v2.param.enum,v2.param.fx,v2.param.safety⟩)∧
    ((bw != 0)=false→(
     aN))))
  ∃bx:Nat→(Unit)→Prop,bx 0 ()∧(∀(i7:Nat) (d0:Unit),i7<Int.toNat v6→bx i7 d0→(
   ((cq .eql ((List.getD v5 (Int.toNat (i7:Int)) (az .Command)).name) v2.name)=false→(
    bx (i7+1) ()))))∧∀bR,bx (Int.toNat v6) bR→aX bR))
noncomputable def kQ(x0:aK):Int:=
 bif(!(iq x0.name))then
  10
 else
  bif(oI x0)then
   3
  else
   let v4:Int:=(List.length x0.attrs:Int)
   Sum.elim (fun r=>r) (fun _=>
    let v5:Int:=(List.length x0.commands:Int)
    Sum.elim (fun r=>r) (fun _=>
     let v6:Int:=(List.length x0.events:Int)
     Sum.elim (fun r=>r) (fun _=>
      0)
     (bp (fun(i7:Nat) (_:Unit)=>
      show Step (Int) (Unit)from
      let v9:ByteArray:=List.getD x0.events (Int.toNat (i7:Int)) (az .str)
      bif(!(iq v9))then
       .ret 10
      else
       bif(jI (iF x0.events none (some (i7:Int))) v9)then
        .ret 9
       else
        .br ()) 0 (Int.toNat v6) ():Int⊕(Unit)))
    (bp (fun(i6:Nat) (_:Unit)=>
     show Step (Int) (Unit)from
     let bw:=oH x0 (i6:Int)
     bif(bw != 0)then
      .ret bw
     else
      .br ()) 0 (Int.toNat v5) ():Int⊕(Unit)))
   (bp (fun(i5:Nat) (_:Unit)=>
    show Step (Int) (Unit)from
    let bF:Attr:=List.getD x0.attrs (Int.toNat (i5:Int)) (az .Attr)
    let bw:=j2 bF
    bif(bw != 0)then
     .ret bw
    else
     let v10:=iF x0.attrs none (some (i5:Int))
     let v11:Int:=(List.length v10:Int)
     Sum.elim (fun r=>r) (fun _=>
      .br ())
     (bp (fun(i12:Nat) (_:Unit)=>
      show Step (Step (Int) (Unit)) (Unit)from
      bif(cq .eql ((List.getD v10 (Int.toNat (i12:Int)) (az .Attr)).name) bF.name)then
       .ret (.ret 9)
      else
       .br ()) 0 (Int.toNat v11) ():(Step (Int) (Unit))⊕(Unit))) 0 (Int.toNat v4) ():Int⊕(Unit))
def F9(x0:aK):Prop:=
 (nJ x0.name)∧
 ((!(iq x0.name))=false→(
  ((oI x0)=false→(
   let v4:Int:=(List.length x0.attrs:Int)
   let aX:Unit→Prop:=fun _=>
    let v5:Int:=(List.length x0.commands:Int)
    let ft:Unit→Prop:=fun _=>
     let v6:Int:=(List.length x0.events:Int)
     ∃kD:Nat→(Unit)→Prop,kD 0 ()∧∀(i7:Nat) (d2:Unit),i7<Int.toNat v6→kD i7 d2→(
      let v9:ByteArray:=List.getD x0.events (Int.toNat (i7:Int)) (az .str)
      (nJ v9)∧
      ((!(iq v9))=false→(
       (jH (List.length x0.events) none (some (i7:Int)))∧
       ((jI (iF x0.events none (some (i7:Int))) v9)=false→(
        kD (i7+1) ())))))
    ∃eo:Nat→(Unit)→Prop,eo 0 ()∧(∀(i6:Nat) (d1:Unit),i6<Int.toNat v5→eo i6 d1→(
     let bw:=oH x0 (i6:Int)
     (BO x0 (i6:Int))∧
     ((bw != 0)=false→(
      eo (i6+1) ()))))∧∀aU,eo (Int.toNat v5) aU→ft aU
   ∃bx:Nat→(Unit)→Prop,bx 0 ()∧(∀(i5:Nat) (d0:Unit),i5<Int.toNat v4→bx i5 d0→(
    let bF:Attr:=List.getD x0.attrs (Int.toNat (i5:Int)) (az .Attr)
    let bw:=j2 bF
    (vR bF)∧
    ((bw != 0)=false→(
     let v10:=iF x0.attrs none (some (i5:Int))
     (jH (List.length x0.attrs) none (some (i5:Int)))∧
     let v11:Int:=(List.length v10:Int)
     let kZ:Unit→Prop:=fun _=>
      bx (i5+1) ()
     ∃mf:Nat→(Unit)→Prop,mf 0 ()∧(∀(i12:Nat) (d3:Unit),i12<Int.toNat v11→mf i12 d3→(
      ((cq .eql ((List.getD v10 (Int.toNat (i12:Int)) (az .Attr)).name) bF.name)=false→(
       mf (i12+1) ()))))∧∀c9,mf (Int.toNat v11) c9→kZ c9))))∧∀bR,bx (Int.toNat v4) bR→aX bR))))
noncomputable def ma(x0:List aK):Int:=
 let v1:Int:=(List.length x0:Int)
 bif(decide (v1>256))then
  3
 else
  Sum.elim (fun r=>r) (fun _=>
   0)
  (bp (fun(i3:Nat) (_:Unit)=>
   show Step (Int) (Unit)from
   let v5:aK:=List.getD x0 (Int.toNat (i3:Int)) (az .aK)
   let v6:=kQ v5
   bif(v6 != 0)then
    .ret v6
   else
    let bw:=iF x0 none (some (i3:Int))
    let v9:Int:=(List.length bw:Int)
    Sum.elim (fun r=>r) (fun _=>
     .br ())
    (bp (fun(i10:Nat) (_:Unit)=>
     show Step (Step (Int) (Unit)) (Unit)from
     bif(cq .eql ((List.getD bw (Int.toNat (i10:Int)) (az .aK)).name) v5.name)then
      .ret (.ret 9)
     else
      .br ()) 0 (Int.toNat v9) ():(Step (Int) (Unit))⊕(Unit))) 0 (Int.toNat v1) ():Int⊕(Unit))
def Ga(x0:List aK):Prop:=
 let v1:Int:=(List.length x0:Int)
 ((decide (v1>256))=false→(
  ∃bx:Nat→(Unit)→Prop,bx 0 ()∧∀(i3:Nat) (d0:Unit),i3<Int.toNat v1→bx i3 d0→(
   let v5:aK:=List.getD x0 (Int.toNat (i3:Int)) (az .aK)
   let v6:=kQ v5
   (F9 v5)∧
   ((v6 != 0)=false→(
    let bw:=iF x0 none (some (i3:Int))
    (jH (List.length x0) none (some (i3:Int)))∧
    let v9:Int:=(List.length bw:Int)
    let ft:Unit→Prop:=fun _=>
     bx (i3+1) ()
    ∃eo:Nat→(Unit)→Prop,eo 0 ()∧(∀(i10:Nat) (d1:Unit),i10<Int.toNat v9→eo i10 d1→(
     ((cq .eql ((List.getD bw (Int.toNat (i10:Int)) (az .aK)).name) v5.name)=false→(
      eo (i10+1) ()))))∧∀aU,eo (Int.toNat v9) aU→ft aU)))))
noncomputable def kA(x0:Home):(List (ByteArray × aK)):=
 let v2:Int:=(List.length x0.bl:Int)
 Sum.elim (fun r=>r) (fun bR=>
  bR)
 (bp (fun(i4:Nat) (aU:(List (ByteArray × aK)))=>
  show Step ((List (ByteArray × aK))) ((List (ByteArray × aK)))from
  let v6:aK:=List.getD x0.bl (Int.toNat (i4:Int)) (az .aK)
  .br (sx (.str) aU v6.name v6)) 0 (Int.toNat v2) ([]:List (ByteArray × aK)):(List (ByteArray × aK))⊕((List (ByteArray × aK))))
noncomputable def vV(x0:bB):Bool:=
 bif((((decide (x0.id<1))||(decide (x0.id>250)))||(decide (x0.oJ<0)))||(decide (x0.oJ>255)))then
  false
 else
  bif x0.oK then
   ((decide (x0.kR≥4))&&(decide (x0.kR≤3600)))
  else
   (x0.kR==0)
noncomputable def sw(x0:bB)(ao:List (ByteArray × aK)):Int:=
 let v4:Int:=(List.length x0.bl:Int)
 bif((decide ((List.length x0.bl:Int)<1))||(decide (v4>4)))then
  3
 else
  Sum.elim (fun r=>r) (fun bR=>
   bif(decide (bR>24))then
    3
   else
    0)
  (bp (fun(i8:Nat) (aU:Int)=>
   show Step (Int) (Int)from
   let v10:ByteArray:=List.getD x0.bl (Int.toNat (i8:Int)) (az .str)
   bif(!((jJ (.str) ao v10).isSome))then
    .ret 8
   else
    bif(decide ((q3 x0.bl v10)<(i8:Int)))then
     .ret 9
    else
     .br (IntKind.wrap .i64 (aU+(List.length (((jJ (.str) ao v10).getD (az .aK)).attrs):Int)))) 0 (Int.toNat v4) 0:Int⊕(Int))
noncomputable def gv(x0:Home):Int:=
 let v1:=ma x0.bl
 bif(v1 != 0)then
  v1
 else
  let v3:Int:=(List.length x0.bn:Int)
  bif(decide (v3>20))then
   3
  else
   Sum.elim (fun r=>r) (fun _=>
    0)
   (bp (fun(i8:Nat) (aU:(List (Int × Bool)))=>
    show Step (Int) ((List (Int × Bool)))from
    let v10:bB:=List.getD x0.bn (Int.toNat (i8:Int)) (az .bB)
    bif(!(vV v10))then
     .ret 2
    else
     bif((decide ((i8:Int)>0))&&(decide (v10.id≤((List.getD x0.bn (Int.toNat (IntKind.wrap .i64 ((i8:Int)-(1:Int)))) (az .bB)).id))))then
      .ret 14
     else
      bif((jJ (.int .u64) aU v10.gZ).getD false)then
       .ret 9
      else
       bif(!(iq v10.room))then
        .ret 10
       else
        let v21:=sw v10 (kA x0)
        bif(v21 != 0)then
         .ret v21
        else
         .br (sx (.int .u64) aU v10.gZ true)) 0 (Int.toNat v3) ([]:List (Int × Bool)):Int⊕((List (Int × Bool))))
def yA(x0:Home):Prop:=
 let v1:=ma x0.bl
 (Ga x0.bl)∧
 ((v1 != 0)=false→(
  let v3:Int:=(List.length x0.bn:Int)
  ((decide (v3>20))=false→(
   ∃bx:Nat→((List (Int × Bool)))→Prop,bx 0 ([]:List (Int × Bool))∧∀(i8:Nat) (d0:(List (Int × Bool))),i8<Int.toNat v3→bx i8 d0→(
    let v10:bB:=List.getD x0.bn (Int.toNat (i8:Int)) (az .bB)
    ((!(vV v10))=false→(
     let b3:=decide ((i8:Int)>0)
     let cV:Int:=IntKind.wrap .i64 ((i8:Int)-(1:Int))
     (b3=true→0≤cV∧cV<(List.length x0.bn:Int))∧
     ((b3&&(decide (v10.id≤((List.getD x0.bn (Int.toNat cV) (az .bB)).id))))=false→(
      (((jJ (.int .u64) d0 v10.gZ).getD false)=false→(
       (nJ v10.room)∧
       ((!(iq v10.room))=false→(
        let v21:=sw v10 (kA x0)
        ((v21 != 0)=false→(
         bx (i8+1) (sx (.int .u64) d0 v10.gZ true))))))))))))))))
noncomputable def Ha(x0:bK):bK:=
 let bO:Int→ByteArray→ByteArray→ByteArray→Int→Int→ByteArray→ByteArray→bK:=fun v3 v4 v5 v6 bF bw v9 v10=>
  ⟨x0.kind,x0.de,⟨v3,v4,v5⟩,v6,⟨bF,bw,v9⟩,v10⟩
 bif(x0.kind==1)then
  bO x0.key.dev x0.key.cU x0.key.attr (⟨#[]⟩:ByteArray) (0:Int) (0:Int) (⟨#[]⟩:ByteArray) (⟨#[]⟩:ByteArray)
 else
  bif(x0.kind==2)then
   bO x0.key.dev x0.key.cU x0.key.attr (⟨#[]⟩:ByteArray) x0.value.kind x0.value.n x0.value.s (⟨#[]⟩:ByteArray)
  else
   bif(x0.kind==3)then
    bO x0.key.dev x0.key.cU (⟨#[]⟩:ByteArray) x0.name x0.value.kind x0.value.n x0.value.s (⟨#[]⟩:ByteArray)
   else
    let aN:Bool→bK:=fun v4=>
     bif v4 then
      bO (0:Int) (⟨#[]⟩:ByteArray) (⟨#[]⟩:ByteArray) x0.name (0:Int) (0:Int) (⟨#[]⟩:ByteArray) (⟨#[]⟩:ByteArray)
     else
      bif(x0.kind==7)then
       bO (0:Int) (⟨#[]⟩:ByteArray) (⟨#[]⟩:ByteArray) (⟨#[]⟩:ByteArray) (0:Int) (0:Int) (⟨#[]⟩:ByteArray) x0.text
      else
       bO (0:Int) (⟨#[]⟩:ByteArray) (⟨#[]⟩:ByteArray) (⟨#[]⟩:ByteArray) (0:Int) (0:Int) (⟨#[]⟩:ByteArray) (⟨#[]⟩:ByteArray)
    let v4:=x0.kind==4
    bif v4 then
     aN v4
    else
     let v5:=x0.kind==5
     bif v5 then
      aN v5
     else
      aN (x0.kind==6)
noncomputable def mc(x0:Home)(ao:Int):bB × Bool:=
 bif((gv x0) != 0)then
  (⟨0,0,0,false,0,⟨#[]⟩,[]⟩,false)
 else
  let v4:Int:=(List.length x0.bn:Int)
  Sum.elim (fun r=>r) (fun _=>
   (⟨0,0,0,false,0,⟨#[]⟩,[]⟩,false))
  (bp (fun(i5:Nat) (_:Unit)=>
   show Step (bB × Bool) (Unit)from
   let bF:bB:=List.getD x0.bn (Int.toNat (i5:Int)) (az .bB)
   bif(bF.id==ao)then
    .ret (bF,true)
   else
    .br ()) 0 (Int.toNat v4) ():(bB × Bool)⊕(Unit))
def yB(x0:Home)(_:Int):Prop:=
 yA x0
noncomputable def y9(x0:Home)(ao:dm):Attr × Bool:=
 let v2:=mc x0 ao.dev
 let aN:Int→Attr × Bool:=fun v6=>
  bif((!v2.2)||(decide (v6<0)))then
   (⟨⟨#[]⟩,0,0,0,[],false,false⟩,false)
  else
   let v10:aK:=(jJ (.str) (kA x0) ao.cU).getD (az .aK)
   let v11:=ss v10 ao.attr
   bif !v11.2 then
    (⟨⟨#[]⟩,0,0,0,[],false,false⟩,false)
   else
    (v11.1,true)
 bif !v2.2 then
  aN (0:Int)
 else
  aN (q3 v2.1.bl ao.cU)
def BX(x0:Home)(ao:dm):Prop:=
 let v2:=mc x0 ao.dev
 (yB x0 ao.dev)∧
 let aN:Int→Prop:=fun v6=>
  (((!v2.2)||(decide (v6<0)))=false→(
   let v10:aK:=(jJ (.str) (kA x0) ao.cU).getD (az .aK)
   let _:=ss v10 ao.attr
   yz v10 ao.attr))
 ((!v2.2)=true→(
  aN (0:Int)))∧((!v2.2)=false→(
  aN (q3 v2.1.bl ao.cU)))
noncomputable def PZ(x0:Home)(ao:bK):Int:=
 let v2:=y9 x0 ⟨ao.key.dev,ao.key.cU,ao.key.attr⟩
 bif !v2.2 then
  8
 else
  bif(ao.kind==1)then
   0
  else
   bif !v2.1.fx then
    24
   else
    (vT v2.1 ⟨ao.value.kind,ao.value.n,ao.value.s⟩)
def BY(x0:Home)(ao:bK):Prop:=
 let v2:=y9 x0 ⟨ao.key.dev,ao.key.cU,ao.key.attr⟩
 (BX x0 ⟨ao.key.dev,ao.key.cU,ao.key.attr⟩)∧
 ((!v2.2)=false→(
  ((ao.kind==1)=false→(
   ((!v2.1.fx)=false→(
    yy v2.1 ⟨ao.value.kind,ao.value.n,ao.value.s⟩))))))
noncomputable def sz(x0:Home)(ao:Int)(bW:ByteArray):aK × Bool:=
 let eD:Int→aK × Bool:=fun v3=>
  bif(!(decide (v3≥0)))then
   (⟨⟨#[]⟩,[],[],[]⟩,false)
  else
   let bO:Int→aK × Bool:=fun v6=>
    bif(decide (v6<0))then
     (⟨⟨#[]⟩,[],[],[]⟩,false)
    else
     let bw:aK:=List.getD x0.bl (Int.toNat v6) (az .aK)
     (bw,true)
   let v6:Int:=(List.length x0.bl:Int)
   Sum.elim (fun r=>r) (fun _=>
    bO ((-1):Int))
   (bp (fun(i7:Nat) (_:Unit)=>
    show Step (aK × Bool) (Unit)from
    bif(cq .eql ((List.getD x0.bl (Int.toNat (i7:Int)) (az .aK)).name) bW)then
     .ret (bO (i7:Int))
    else
     .br ()) 0 (Int.toNat v6) ():(aK × Bool)⊕(Unit))
 let v3:Int:=(List.length x0.bn:Int)
 Sum.elim (fun r=>r) (fun _=>
  eD ((-1):Int))
 (bp (fun(i4:Nat) (_:Unit)=>
  show Step (aK × Bool) (Unit)from
  let v6:bB:=List.getD x0.bn (Int.toNat (i4:Int)) (az .bB)
  let bF:=v6.id==ao
  let aN:Bool→Step (aK × Bool) (Unit):=fun bw=>
   bif(bF&&bw)then
    .ret (eD (i4:Int))
   else
    .br ()
  bif bF then
   aN (jI v6.bl bW)
  else
   aN false) 0 (Int.toNat v3) ():(aK × Bool)⊕(Unit))
def Gl(x0:Home)(ao:Int)(bW:ByteArray):Prop:=
 let eD:Int→Prop:=fun v3=>
  ((!(decide (v3≥0)))=false→(
   let bO:Int→Prop:=fun v6=>
    ((decide (v6<0))=false→(
     let _:aK:=List.getD x0.bl (Int.toNat v6) (az .aK)
     0≤v6∧v6<(List.length x0.bl:Int)))
   let v6:Int:=(List.length x0.bl:Int)
   let aX:Unit→Prop:=fun _=>
    bO ((-1):Int)
   ∃bx:Nat→(Unit)→Prop,bx 0 ()∧(∀(i7:Nat) (d0:Unit),i7<Int.toNat v6→bx i7 d0→(
    ((cq .eql ((List.getD x0.bl (Int.toNat (i7:Int)) (az .aK)).name) bW)=true→(
     bO (i7:Int)))∧((cq .eql ((List.getD x0.bl (Int.toNat (i7:Int)) (az .aK)).name) bW)=false→(
     bx (i7+1) ()))))∧∀bR,bx (Int.toNat v6) bR→aX bR))
 let v3:Int:=(List.length x0.bn:Int)
 let ft:Unit→Prop:=fun _=>
  eD ((-1):Int)
 ∃eo:Nat→(Unit)→Prop,eo 0 ()∧(∀(i4:Nat) (d1:Unit),i4<Int.toNat v3→eo i4 d1→(
  let v6:bB:=List.getD x0.bn (Int.toNat (i4:Int)) (az .bB)
  let bF:=v6.id==ao
  let aN:Bool→Prop:=fun bw=>
   ((bF&&bw)=true→(
    eD (i4:Int)))∧((bF&&bw)=false→(
    eo (i4+1) ()))
  (bF=true→(
   aN (jI v6.bl bW)))∧(bF=false→(
   aN false))))∧∀aU,eo (Int.toNat v3) aU→ft aU
def P0(x:List cM):List cM:=x
def BJ(x:List cM):Prop:=x.length≤maxLen∧x.length*32≤140737488355328
noncomputable def vW(x0:aK)(ao:ByteArray):Command × Bool:=
 let v2:Int:=(List.length x0.commands:Int)
 Sum.elim (fun r=>r) (fun _=>
  (⟨⟨#[]⟩,⟨⟨#[]⟩,0,0,0,[],false,false⟩,[]⟩,false))
 (bp (fun(i3:Nat) (_:Unit)=>
  show Step (Command × Bool) (Unit)from
  let v5:Command:=List.getD x0.commands (Int.toNat (i3:Int)) (az .Command)
  bif(cq .eql v5.name ao)then
   .ret (⟨v5.name,⟨v5.param.name,v5.param.kind,v5.param.min,v5.param.max,(CH v5.param.enum),v5.param.fx,v5.param.safety⟩,(P0 v5.gj)⟩,true)
  else
   .br ()) 0 (Int.toNat v2) ():(Command × Bool)⊕(Unit))
def Gm(x0:aK)(ao:ByteArray):Prop:=
 let v2:Int:=(List.length x0.commands:Int)
 ∃bx:Nat→(Unit)→Prop,bx 0 ()∧∀(i3:Nat) (d0:Unit),i3<Int.toNat v2→bx i3 d0→(
  let v5:Command:=List.getD x0.commands (Int.toNat (i3:Int)) (az .Command)
  ((cq .eql v5.name ao)=true→(
   (vQ v5.param.enum)∧
   BJ v5.gj))∧((cq .eql v5.name ao)=false→(
   bx (i3+1) ())))
noncomputable def P1(x0:Home)(ao:bK):Int:=
 let v2:=sz x0 ao.key.dev ao.key.cU
 bif !v2.2 then
  8
 else
  let v6:=vW v2.1 ao.name
  bif !v6.2 then
   8
  else
   bif(v6.1.param.kind != 0)then
    (vT ⟨v6.1.param.name,v6.1.param.kind,v6.1.param.min,v6.1.param.max,v6.1.param.enum,v6.1.param.fx,v6.1.param.safety⟩ ⟨ao.value.kind,ao.value.n,ao.value.s⟩)
   else
    bif(!(bif ao.value.kind==0 then bif ao.value.n==0 then dw ao.value.s (⟨#[]⟩:ByteArray)else false else false))then
     11
    else
     0
def Gn(x0:Home)(ao:bK):Prop:=
 let v2:=sz x0 ao.key.dev ao.key.cU
 (Gl x0 ao.key.dev ao.key.cU)∧
 ((!v2.2)=false→(
  let v6:=vW v2.1 ao.name
  (Gm v2.1 ao.name)∧
  ((!v6.2)=false→(
   ((v6.1.param.kind != 0)=true→(
    yy ⟨v6.1.param.name,v6.1.param.kind,v6.1.param.min,v6.1.param.max,v6.1.param.enum,v6.1.param.fx,v6.1.param.safety⟩ ⟨ao.value.kind,ao.value.n,ao.value.s⟩))))))
noncomputable def Hb(x0:Home)(ao:bK):Int:=
 let aN:Bool→Int:=fun v2=>
  bif v2 then
   (PZ x0 ao)
  else
   bif(ao.kind==3)then
    (P1 x0 ao)
   else
    bif(ao.kind==7)then
     bif(decide ((ByteArray.size ao.text:Int)>20000))then
      3
     else
      0
    else
     bif(!(iq ao.name))then
      10
     else
      0
 let v2:=ao.kind==1
 bif v2 then
  aN v2
 else
  aN (ao.kind==2)
def BZ(x0:Home)(ao:bK):Prop:=
 let aN:Bool→Prop:=fun v2=>
  (v2=true→(
   BY x0 ao))∧(v2=false→(
   ((ao.kind==3)=true→(
    Gn x0 ao))∧((ao.kind==3)=false→(
    ((ao.kind==7)=false→(
     nJ ao.name))))))
 let v2:=ao.kind==1
 (v2=true→(
  aN v2))∧(v2=false→(
  aN (ao.kind==2)))
noncomputable def ug(x0:Home)(ao:bK):Int:=
 let bO:Int→Int:=fun v2=>
  v2
 let v2:=gv x0
 bif(v2 != 0)then
  bO v2
 else
  let v4:=yw ao
  bif(v4 != 0)then
   bO v4
  else
   let v6:=yx ao
   bif(v6 != 0)then
    bO v6
   else
    let aN:Int→Int:=fun bw=>
     bif(bw != 0)then
      bO bw
     else
      let v10:=Hb x0 ao
      bif(v10 != 0)then
       bO v10
      else
       bO (0:Int)
    let bw:=Ha ao
    let v9:=!(bif ao.kind==bw.kind then bif ao.de==bw.de then bif ao.key.dev==bw.key.dev then bif dw ao.key.cU bw.key.cU then bif dw ao.key.attr bw.key.attr then bif dw ao.name bw.name then bif ao.value.kind==bw.value.kind then bif ao.value.n==bw.value.n then bif dw ao.value.s bw.value.s then dw ao.text bw.text else false else false else false else false else false else false else false else false else false)
    bif v9 then
     aN (1:Int)
    else
     aN (0:Int)
def Gp(x0:Home)(ao:bK):Prop:=
 let v2:=gv x0
 (yA x0)∧
 ((v2 != 0)=false→(
  let v4:=yw ao
  ((v4 != 0)=false→(
   let v6:=yx ao
   ((v6 != 0)=false→(
    let aN:Int→Prop:=fun bw=>
     ((bw != 0)=false→(
      let _:=Hb x0 ao
      BZ x0 ao))
    let bw:=Ha ao
    let v9:=!(bif ao.kind==bw.kind then bif ao.de==bw.de then bif ao.key.dev==bw.key.dev then bif dw ao.key.cU bw.key.cU then bif dw ao.key.attr bw.key.attr then bif dw ao.name bw.name then bif ao.value.kind==bw.value.kind then bif ao.value.n==bw.value.n then bif dw ao.value.s bw.value.s then dw ao.text bw.text else false else false else false else false else false else false else false else false else false)
    (v9=true→(
     aN (1:Int)))∧(v9=false→(
     aN (0:Int)))))))))
noncomputable def ub(x0:List ByteArray)(ao:ByteArray):Bool:=
 let v2:Int:=(List.length x0:Int)
 Sum.elim (fun r=>r) (fun _=>
  false)
 (bp (fun(i3:Nat) (_:Unit)=>
  show Step (Bool) (Unit)from
  bif(cq .eql (List.getD x0 (Int.toNat (i3:Int)) (az .str)) ao)then
   .ret true
  else
   .br ()) 0 (Int.toNat v2) ():Bool⊕(Unit))
noncomputable def pY(x0:Attr):Int:=
 bif(!(jG x0.name))then
  10
 else
  bif((decide (x0.kind<1))||(decide (x0.kind>4)))then
   7
  else
   let aN:Int:=
    bif(x0.kind != 3)then
     bif(decide ((List.length x0.enum:Int)>0))then
      4
     else
      0
    else
     let v10:Int:=(List.length x0.enum:Int)
     bif((decide ((List.length x0.enum:Int)<1))||(decide (v10>64)))then
      3
     else
      Sum.elim (fun r=>r) (fun _=>
       0)
      (bp (fun(i13:Nat) (_:Unit)=>
       show Step (Int) (Unit)from
       bif(!(jG (List.getD x0.enum (Int.toNat (i13:Int)) (az .str))))then
        .ret 10
       else
        bif(ub (iF x0.enum none (some (i13:Int))) (List.getD x0.enum (Int.toNat (i13:Int)) (az .str)))then
         .ret 9
        else
         .br ()) 0 (Int.toNat v10) ():Int⊕(Unit))
   bif(x0.kind==2)then
    bif(((decide (x0.min<(-1099511627776)))||(decide (x0.max>1099511627776)))||(decide (x0.min>x0.max)))then
     2
    else
     aN
   else
    bif((x0.min != 0)||(x0.max != 0))then
     2
    else
     aN
def ud(x0:Attr):Prop:=
 (pW x0.name)∧
 ((!(jG x0.name))=false→(
  (((decide (x0.kind<1))||(decide (x0.kind>4)))=false→(
   let aN:Prop:=
    ((x0.kind != 3)=false→(
     let v10:Int:=(List.length x0.enum:Int)
     (((decide ((List.length x0.enum:Int)<1))||(decide (v10>64)))=false→(
      ∃bx:Nat→(Unit)→Prop,bx 0 ()∧∀(i13:Nat) (d0:Unit),i13<Int.toNat v10→bx i13 d0→(
       let eU:ByteArray:=List.getD x0.enum (Int.toNat (i13:Int)) (az .str)
       (pW eU)∧
       ((!(jG eU))=false→(
        (jH (List.length x0.enum) none (some (i13:Int)))∧
        ((ub (iF x0.enum none (some (i13:Int))) (List.getD x0.enum (Int.toNat (i13:Int)) (az .str)))=false→(
         bx (i13+1) ())))))))))
   ((x0.kind==2)=true→(
    ((((decide (x0.min<(-1099511627776)))||(decide (x0.max>1099511627776)))||(decide (x0.min>x0.max)))=false→(
     aN))))∧((x0.kind==2)=false→(
    (((x0.min != 0)||(x0.max != 0))=false→(
     aN))))))))
noncomputable def oG(x0:aK)(ao:ByteArray):Int:=
 let v2:Int:=(List.length x0.attrs:Int)
 Sum.elim (fun r=>r) (fun _=>
  (-1))
 (bp (fun(i3:Nat) (_:Unit)=>
  show Step (Int) (Unit)from
  bif(cq .eql ((List.getD x0.attrs (Int.toNat (i3:Int)) (az .Attr)).name) ao)then
   .ret (i3:Int)
  else
   .br ()) 0 (Int.toNat v2) ():Int⊕(Unit))
noncomputable def yJ(x0:aK):Bool:=
 let v3:Int:=(List.length x0.commands:Int)
 bif(((decide ((List.length x0.attrs:Int)>12))||(decide (v3>12)))||(decide ((List.length x0.events:Int)>12)))then
  true
 else
  Sum.elim (fun r=>r) (fun _=>
   false)
  (bp (fun(i9:Nat) (_:Unit)=>
   show Step (Bool) (Unit)from
   bif(decide ((List.length ((List.getD x0.commands (Int.toNat (i9:Int)) (az .Command)).gj):Int)>12))then
    .ret true
   else
    .br ()) 0 (Int.toNat v3) ():Bool⊕(Unit))
noncomputable def yE(x0:List ByteArray)(ao:List ByteArray):Bool:=
 let v2:Int:=(List.length x0:Int)
 bif(v2 != (List.length ao:Int))then
  false
 else
  Sum.elim (fun r=>r) (fun _=>
   true)
  (bp (fun(i5:Nat) (_:Unit)=>
   show Step (Bool) (Unit)from
   bif(cq .neq (List.getD x0 (Int.toNat (i5:Int)) (az .str)) (List.getD ao (Int.toNat (i5:Int)) (az .str)))then
    .ret false
   else
    .br ()) 0 (Int.toNat v2) ():Bool⊕(Unit))
def B1(x0:List ByteArray)(ao:List ByteArray):Prop:=
 let v2:Int:=(List.length x0:Int)
 ((v2 != (List.length ao:Int))=false→(
  ∃bx:Nat→(Unit)→Prop,bx 0 ()∧∀(i5:Nat) (d0:Unit),i5<Int.toNat v2→bx i5 d0→(
   (0≤(i5:Int)∧(i5:Int)<(List.length ao:Int))∧
   ((cq .neq (List.getD x0 (Int.toNat (i5:Int)) (az .str)) (List.getD ao (Int.toNat (i5:Int)) (az .str)))=false→(
    bx (i5+1) ())))))
noncomputable def yG(x0:Attr)(ao:Attr):Bool:=
 let bw:Bool:=(((cq .eql x0.name ao.name)&&(x0.kind==ao.kind))&&(x0.min==ao.min))&&(x0.max==ao.max)
 let aN:Bool→Bool:=fun v9=>
  (((bw&&v9)&&(cC.den (.nN false) x0.fx ao.fx))&&(cC.den (.nN false) x0.safety ao.safety))
 bif bw then
  aN (yE x0.enum ao.enum)
 else
  aN false
def Gq(x0:Attr)(ao:Attr):Prop:=
 let bw:Bool:=(((cq .eql x0.name ao.name)&&(x0.kind==ao.kind))&&(x0.min==ao.min))&&(x0.max==ao.max)
 (bw=true→(
  B1 x0.enum ao.enum))
noncomputable def su(x0:aK)(ao:ByteArray):Attr × Bool:=
 let v2:=oG x0 ao
 bif(decide (v2<0))then
  (⟨⟨#[]⟩,0,0,0,[],false,false⟩,false)
 else
  let v4:Attr:=List.getD x0.attrs (Int.toNat v2) (az .Attr)
  (v4,true)
def B2(x0:aK)(ao:ByteArray):Prop:=
 let v2:=oG x0 ao
 ((decide (v2<0))=false→(
  let _:Attr:=List.getD x0.attrs (Int.toNat v2) (az .Attr)
  0≤v2∧v2<(List.length x0.attrs:Int)))
noncomputable def q4(x0:Attr)(ao:cD):Int:=
 bif((pY x0) != 0)then
  (pY x0)
 else
  bif((vL ao) != 0)then
   (vL ao)
  else
   bif(ao.kind != x0.kind)then
    11
   else
    bif(((ao.kind==2)&&((decide (ao.n<x0.min))||(decide (ao.n>x0.max))))||((ao.kind==3)&&(decide (ao.n≥(List.length x0.enum:Int)))))then
     2
    else
     0
def yQ(x0:Attr)(_:cD):Prop:=
 (ud x0)∧
 (((pY x0) != 0)=true→(
  ud x0))
noncomputable def BU(x0:cM)(ao:Attr)(bW:Attr):Bool:=
 bif(x0.kind==1)then
  let v4:=ao.kind != 4
  let aN:Int→Bool:=fun v5=>
   (v4&&(v5==0))
  bif v4 then
   aN (q4 ao ⟨ao.kind,x0.n,⟨#[]⟩⟩)
  else
   aN (0:Int)
 else
  bif(x0.kind==2)then
   let v5:=bW.kind==ao.kind
   let aN:Bool→Bool:=fun v6=>
    (v5&&v6)
   bif v5 then
    aN (yE bW.enum ao.enum)
   else
    aN false
  else
   bif(x0.kind==3)then
    (ao.kind==2)
   else
    (ao.kind==1)
def B3(x0:cM)(ao:Attr)(bW:Attr):Prop:=
 ((x0.kind==1)=true→(
  let v4:=ao.kind != 4
  (v4=true→(
   yQ ao ⟨ao.kind,x0.n,⟨#[]⟩⟩))))∧((x0.kind==1)=false→(
  ((x0.kind==2)=true→(
   let v5:=bW.kind==ao.kind
   (v5=true→(
    B1 bW.enum ao.enum))))))
noncomputable def yH(x0:aK)(ao:Attr)(bW:cM):Int:=
 bif((decide (bW.kind<1))||(decide (bW.kind>4)))then
  7
 else
  let v6:=su x0 bW.attr
  bif !v6.2 then
   8
  else
   bif !v6.1.fx then
    24
   else
    bif(!(BU bW v6.1 ao))then
     11
    else
     bif((bW.kind==3)&&((decide (bW.n<(-1099511627776)))||(decide (bW.n>1099511627776))))then
      2
     else
      bif(((bW.kind==2)||(bW.kind==4))&&(bW.n != 0))then
       4
      else
       0
def B4(x0:aK)(ao:Attr)(bW:cM):Prop:=
 (((decide (bW.kind<1))||(decide (bW.kind>4)))=false→(
  let v6:=su x0 bW.attr
  (B2 x0 bW.attr)∧
  ((!v6.2)=false→(
   ((!v6.1.fx)=false→(
    B3 bW v6.1 ao))))))
noncomputable def yI(x0:aK)(ao:Int):Int:=
 let v2:Command:=List.getD x0.commands (Int.toNat ao) (az .Command)
 bif(!(jG v2.name))then
  10
 else
  Sum.elim (fun r=>r) (fun _=>
   let aN:Int:=
    let v6:Int:=(List.length v2.gj:Int)
    Sum.elim (fun r=>r) (fun _=>
     0)
    (bp (fun(i7:Nat) (_:Unit)=>
     show Step (Int) (Unit)from
     let v9:cM:=List.getD v2.gj (Int.toNat (i7:Int)) (az .cM)
     let v10:=yH x0 ⟨v2.param.name,v2.param.kind,v2.param.min,v2.param.max,v2.param.enum,v2.param.fx,v2.param.safety⟩ v9
     bif(v10 != 0)then
      .ret v10
     else
      .br ()) 0 (Int.toNat v6) ():Int⊕(Unit))
   bif(v2.param.kind==0)then
    bif(!(yG ⟨v2.param.name,v2.param.kind,v2.param.min,v2.param.max,v2.param.enum,v2.param.fx,v2.param.safety⟩ ⟨⟨#[]⟩,0,0,0,[],false,false⟩))then
     4
    else
     aN
   else
    let v6:=pY ⟨v2.param.name,v2.param.kind,v2.param.min,v2.param.max,v2.param.enum,v2.param.fx,v2.param.safety⟩
    bif(v6 != 0)then
     v6
    else
     aN)
  (bp (fun(i5:Nat) (_:Unit)=>
   show Step (Int) (Unit)from
   bif(cq .eql ((List.getD x0.commands (Int.toNat (i5:Int)) (az .Command)).name) v2.name)then
    .ret 9
   else
    .br ()) 0 (Int.toNat ao) ():Int⊕(Unit))
def Gs(x0:aK)(ao:Int):Prop:=
 let v2:Command:=List.getD x0.commands (Int.toNat ao) (az .Command)
 (0≤ao∧ao<(List.length x0.commands:Int))∧
 (pW v2.name)∧
 ((!(jG v2.name))=false→(
  (0≤ao∧ao<(9223372036854775808:Int))∧
  let aX:Unit→Prop:=fun _=>
   let aN:Prop:=
    let v6:Int:=(List.length v2.gj:Int)
    ∃eo:Nat→(Unit)→Prop,eo 0 ()∧∀(i7:Nat) (d1:Unit),i7<Int.toNat v6→eo i7 d1→(
     let v9:cM:=List.getD v2.gj (Int.toNat (i7:Int)) (az .cM)
     let v10:=yH x0 ⟨v2.param.name,v2.param.kind,v2.param.min,v2.param.max,v2.param.enum,v2.param.fx,v2.param.safety⟩ v9
     (B4 x0 ⟨v2.param.name,v2.param.kind,v2.param.min,v2.param.max,v2.param.enum,v2.param.fx,v2.param.safety⟩ v9)∧
     ((v10 != 0)=false→(
      eo (i7+1) ())))
   ((v2.param.kind==0)=true→(
    (Gq ⟨v2.param.name,v2.param.kind,v2.param.min,v2.param.max,v2.param.enum,v2.param.fx,v2.param.safety⟩ ⟨⟨#[]⟩,0,0,0,[],false,false⟩)∧
    ((!(yG ⟨v2.param.name,v2.param.kind,v2.param.min,v2.param.max,v2.param.enum,v2.param.fx,v2.param.safety⟩ ⟨⟨#[]⟩,0,0,0,[],false,false⟩))=false→(
     aN))))∧((v2.param.kind==0)=false→(
    let v6:=pY ⟨v2.param.name,v2.param.kind,v2.param.min,v2.param.max,v2.param.enum,v2.param.fx,v2.param.safety⟩
    (ud ⟨v2.param.name,v2.param.kind,v2.param.min,v2.param.max,v2.param.enum,v2.param.fx,v2.param.safety⟩)∧
    ((v6 != 0)=false→(
     aN))))
  ∃bx:Nat→(Unit)→Prop,bx 0 ()∧(∀(i5:Nat) (d0:Unit),i5<Int.toNat ao→bx i5 d0→(
   (0≤(i5:Int)∧(i5:Int)<(List.length x0.commands:Int))∧
   ((cq .eql ((List.getD x0.commands (Int.toNat (i5:Int)) (az .Command)).name) v2.name)=false→(
    bx (i5+1) ()))))∧∀bR,bx (Int.toNat ao) bR→aX bR))
noncomputable def yL(x0:aK):Int:=
 bif(!(jG x0.name))then
  10
 else
  bif(yJ x0)then
   3
  else
   let v4:Int:=(List.length x0.attrs:Int)
   Sum.elim (fun r=>r) (fun _=>
    let v5:Int:=(List.length x0.commands:Int)
    Sum.elim (fun r=>r) (fun _=>
     let v6:Int:=(List.length x0.events:Int)
     Sum.elim (fun r=>r) (fun _=>
      0)
     (bp (fun(i7:Nat) (_:Unit)=>
      show Step (Int) (Unit)from
      bif(!(jG (List.getD x0.events (Int.toNat (i7:Int)) (az .str))))then
       .ret 10
      else
       Sum.elim (fun r=>r) (fun _=>
        .br ())
       (bp (fun(i12:Nat) (_:Unit)=>
        show Step (Step (Int) (Unit)) (Unit)from
        bif(cq .eql (List.getD x0.events (Int.toNat (i12:Int)) (az .str)) (List.getD x0.events (Int.toNat (i7:Int)) (az .str)))then
         .ret (.ret 9)
        else
         .br ()) 0 (Int.toNat (i7:Int)) ():(Step (Int) (Unit))⊕(Unit))) 0 (Int.toNat v6) ():Int⊕(Unit)))
    (bp (fun(i6:Nat) (_:Unit)=>
     show Step (Int) (Unit)from
     let bw:=yI x0 (i6:Int)
     bif(bw != 0)then
      .ret bw
     else
      .br ()) 0 (Int.toNat v5) ():Int⊕(Unit)))
   (bp (fun(i5:Nat) (_:Unit)=>
    show Step (Int) (Unit)from
    let bF:Attr:=List.getD x0.attrs (Int.toNat (i5:Int)) (az .Attr)
    let bw:=pY bF
    bif(bw != 0)then
     .ret bw
    else
     bif(decide ((oG x0 ((List.getD x0.attrs (Int.toNat (i5:Int)) (az .Attr)).name))<(i5:Int)))then
      .ret 9
     else
      .br ()) 0 (Int.toNat v4) ():Int⊕(Unit))
def Gt(x0:aK):Prop:=
 (pW x0.name)∧
 ((!(jG x0.name))=false→(
  ((yJ x0)=false→(
   let v4:Int:=(List.length x0.attrs:Int)
   let aX:Unit→Prop:=fun _=>
    let v5:Int:=(List.length x0.commands:Int)
    let ft:Unit→Prop:=fun _=>
     let v6:Int:=(List.length x0.events:Int)
     ∃kD:Nat→(Unit)→Prop,kD 0 ()∧∀(i7:Nat) (d2:Unit),i7<Int.toNat v6→kD i7 d2→(
      let v9:ByteArray:=List.getD x0.events (Int.toNat (i7:Int)) (az .str)
      (pW v9)∧
      ((!(jG v9))=false→(
       (0≤(i7:Int)∧(i7:Int)<(9223372036854775808:Int))∧
       let kZ:Unit→Prop:=fun _=>
        kD (i7+1) ()
       ∃mf:Nat→(Unit)→Prop,mf 0 ()∧(∀(i12:Nat) (d3:Unit),i12<Int.toNat (i7:Int)→mf i12 d3→(
        (0≤(i12:Int)∧(i12:Int)<(List.length x0.events:Int))∧
        ((cq .eql (List.getD x0.events (Int.toNat (i12:Int)) (az .str)) (List.getD x0.events (Int.toNat (i7:Int)) (az .str)))=false→(
         mf (i12+1) ()))))∧∀c9,mf (Int.toNat (i7:Int)) c9→kZ c9)))
    ∃eo:Nat→(Unit)→Prop,eo 0 ()∧(∀(i6:Nat) (d1:Unit),i6<Int.toNat v5→eo i6 d1→(
     let bw:=yI x0 (i6:Int)
     (Gs x0 (i6:Int))∧
     ((bw != 0)=false→(
      eo (i6+1) ()))))∧∀aU,eo (Int.toNat v5) aU→ft aU
   ∃bx:Nat→(Unit)→Prop,bx 0 ()∧(∀(i5:Nat) (d0:Unit),i5<Int.toNat v4→bx i5 d0→(
    let bF:Attr:=List.getD x0.attrs (Int.toNat (i5:Int)) (az .Attr)
    let bw:=pY bF
    (ud bF)∧
    ((bw != 0)=false→(
     ((decide ((oG x0 ((List.getD x0.attrs (Int.toNat (i5:Int)) (az .Attr)).name))<(i5:Int)))=false→(
      bx (i5+1) ()))))))∧∀bR,bx (Int.toNat v4) bR→aX bR))))
noncomputable def yM(x0:List aK):Int:=
 let v1:Int:=(List.length x0:Int)
 bif(decide (v1>256))then
  3
 else
  Sum.elim (fun r=>r) (fun _=>
   0)
  (bp (fun(i3:Nat) (_:Unit)=>
   show Step (Int) (Unit)from
   let v5:aK:=List.getD x0 (Int.toNat (i3:Int)) (az .aK)
   let v6:=yL v5
   bif(v6 != 0)then
    .ret v6
   else
    Sum.elim (fun r=>r) (fun _=>
     .br ())
    (bp (fun(i8:Nat) (_:Unit)=>
     show Step (Step (Int) (Unit)) (Unit)from
     bif(cq .eql ((List.getD x0 (Int.toNat (i8:Int)) (az .aK)).name) ((List.getD x0 (Int.toNat (i3:Int)) (az .aK)).name))then
      .ret (.ret 9)
     else
      .br ()) 0 (Int.toNat (i3:Int)) ():(Step (Int) (Unit))⊕(Unit))) 0 (Int.toNat v1) ():Int⊕(Unit))
def Gu(x0:List aK):Prop:=
 let v1:Int:=(List.length x0:Int)
 ((decide (v1>256))=false→(
  ∃bx:Nat→(Unit)→Prop,bx 0 ()∧∀(i3:Nat) (d0:Unit),i3<Int.toNat v1→bx i3 d0→(
   let v5:aK:=List.getD x0 (Int.toNat (i3:Int)) (az .aK)
   let v6:=yL v5
   (Gt v5)∧
   ((v6 != 0)=false→(
    (0≤(i3:Int)∧(i3:Int)<(9223372036854775808:Int))∧
    let ft:Unit→Prop:=fun _=>
     bx (i3+1) ()
    ∃eo:Nat→(Unit)→Prop,eo 0 ()∧(∀(i8:Nat) (d1:Unit),i8<Int.toNat (i3:Int)→eo i8 d1→(
     (0≤(i8:Int)∧(i8:Int)<(List.length x0:Int))∧
     ((cq .eql ((List.getD x0 (Int.toNat (i8:Int)) (az .aK)).name) ((List.getD x0 (Int.toNat (i3:Int)) (az .aK)).name))=false→(
      eo (i8+1) ()))))∧∀aU,eo (Int.toNat (i3:Int)) aU→ft aU)))))
noncomputable def q1(x0:List ByteArray)(ao:ByteArray):Int:=
 let v2:Int:=(List.length x0:Int)
 Sum.elim (fun r=>r) (fun _=>
  (-1))
 (bp (fun(i3:Nat) (_:Unit)=>
  show Step (Int) (Unit)from
  bif(cq .eql (List.getD x0 (Int.toNat (i3:Int)) (az .str)) ao)then
   .ret (i3:Int)
  else
   .br ()) 0 (Int.toNat v2) ():Int⊕(Unit))
noncomputable def mb(x0:Home)(ao:ByteArray):Int:=
 let v2:Int:=(List.length x0.bl:Int)
 Sum.elim (fun r=>r) (fun _=>
  (-1))
 (bp (fun(i3:Nat) (_:Unit)=>
  show Step (Int) (Unit)from
  bif(cq .eql ((List.getD x0.bl (Int.toNat (i3:Int)) (az .aK)).name) ao)then
   .ret (i3:Int)
  else
   .br ()) 0 (Int.toNat v2) ():Int⊕(Unit))
def B5(x0:Home)(_:ByteArray):Prop:=
 let v2:Int:=(List.length x0.bl:Int)
 0≤v2∧v2<(9223372036854775808:Int)
noncomputable def q5(x0:Home)(ao:bB):Int:=
 let v4:Int:=(List.length ao.bl:Int)
 bif((decide ((List.length ao.bl:Int)<1))||(decide (v4>4)))then
  3
 else
  Sum.elim (fun r=>r) (fun bR=>
   bif(decide (bR>24))then
    3
   else
    0)
  (bp (fun(i8:Nat) (aU:Int)=>
   show Step (Int) (Int)from
   let v11:=mb x0 (List.getD ao.bl (Int.toNat (i8:Int)) (az .str))
   bif(decide (v11<0))then
    .ret 8
   else
    bif(decide ((q1 ao.bl (List.getD ao.bl (Int.toNat (i8:Int)) (az .str)))<(i8:Int)))then
     .ret 9
    else
     .br (IntKind.wrap .i64 (aU+(List.length ((List.getD x0.bl (Int.toNat v11) (az .aK)).attrs):Int)))) 0 (Int.toNat v4) 0:Int⊕(Int))
def Gv(x0:Home)(ao:bB):Prop:=
 let v4:Int:=(List.length ao.bl:Int)
 (((decide ((List.length ao.bl:Int)<1))||(decide (v4>4)))=false→(
  ∃bx:Nat→(Int)→Prop,bx 0 0∧∀(i8:Nat) (d0:Int),i8<Int.toNat v4→bx i8 d0→(
   let v10:ByteArray:=List.getD ao.bl (Int.toNat (i8:Int)) (az .str)
   let v11:=mb x0 v10
   (B5 x0 v10)∧
   ((decide (v11<0))=false→(
    ((decide ((q1 ao.bl (List.getD ao.bl (Int.toNat (i8:Int)) (az .str)))<(i8:Int)))=false→(
     (0≤v11∧v11<(List.length x0.bl:Int))∧
     bx (i8+1) (IntKind.wrap .i64 (d0+(List.length ((List.getD x0.bl (Int.toNat v11) (az .aK)).attrs):Int))))))))))
noncomputable def p3(x0:Home)(ao:Int):Int:=
 let v2:bB:=List.getD x0.bn (Int.toNat ao) (az .bB)
 let dy:Bool:=(((((decide (v2.id<1))||(decide (v2.id>250)))||(decide (v2.oJ<0)))||(decide (v2.oJ>255)))||((!v2.oK)&&(v2.kR != 0)))||(v2.oK&&((decide (v2.kR<4))||(decide (v2.kR>3600))))
 bif dy then
  2
 else
  bif((decide (ao>0))&&(decide (((List.getD x0.bn (Int.toNat (IntKind.wrap .i64 (ao-(1:Int)))) (az .bB)).id)≥v2.id)))then
   14
  else
   Sum.elim (fun r=>r) (fun _=>
    bif(!(jG v2.room))then
     10
    else
     (q5 x0 v2))
   (bp (fun(i24:Nat) (_:Unit)=>
    show Step (Int) (Unit)from
    bif(((List.getD x0.bn (Int.toNat (i24:Int)) (az .bB)).gZ)==v2.gZ)then
     .ret 9
    else
     .br ()) 0 (Int.toNat ao) ():Int⊕(Unit))
def Gw(x0:Home)(ao:Int):Prop:=
 let v2:bB:=List.getD x0.bn (Int.toNat ao) (az .bB)
 (0≤ao∧ao<(List.length x0.bn:Int))∧
 let dy:Bool:=(((((decide (v2.id<1))||(decide (v2.id>250)))||(decide (v2.oJ<0)))||(decide (v2.oJ>255)))||((!v2.oK)&&(v2.kR != 0)))||(v2.oK&&((decide (v2.kR<4))||(decide (v2.kR>3600))))
 (dy=false→(
  let cG:=decide (ao>0)
  let v20:Int:=IntKind.wrap .i64 (ao-(1:Int))
  (cG=true→0≤v20∧v20<(List.length x0.bn:Int))∧
  ((cG&&(decide (((List.getD x0.bn (Int.toNat v20) (az .bB)).id)≥v2.id)))=false→(
   (0≤ao∧ao<(9223372036854775808:Int))∧
   let aX:Unit→Prop:=fun _=>
    (pW v2.room)∧
    ((!(jG v2.room))=false→(
     Gv x0 v2))
   ∃bx:Nat→(Unit)→Prop,bx 0 ()∧(∀(i24:Nat) (d0:Unit),i24<Int.toNat ao→bx i24 d0→(
    (0≤(i24:Int)∧(i24:Int)<(List.length x0.bn:Int))∧
    ((((List.getD x0.bn (Int.toNat (i24:Int)) (az .bB)).gZ)==v2.gZ)=false→(
     bx (i24+1) ()))))∧∀bR,bx (Int.toNat ao) bR→aX bR))))
noncomputable def p2(x0:Home):Int:=
 let v1:=yM x0.bl
 bif(v1 != 0)then
  v1
 else
  let v3:Int:=(List.length x0.bn:Int)
  bif(decide (v3>20))then
   3
  else
   Sum.elim (fun r=>r) (fun _=>
    0)
   (bp (fun(i5:Nat) (_:Unit)=>
    show Step (Int) (Unit)from
    let bF:=p3 x0 (i5:Int)
    bif(bF != 0)then
     .ret bF
    else
     .br ()) 0 (Int.toNat v3) ():Int⊕(Unit))
def B6(x0:Home):Prop:=
 let v1:=yM x0.bl
 (Gu x0.bl)∧
 ((v1 != 0)=false→(
  let v3:Int:=(List.length x0.bn:Int)
  ((decide (v3>20))=false→(
   ∃bx:Nat→(Unit)→Prop,bx 0 ()∧∀(i5:Nat) (d0:Unit),i5<Int.toNat v3→bx i5 d0→(
    let bF:=p3 x0 (i5:Int)
    (Gw x0 (i5:Int))∧
    ((bF != 0)=false→(
     bx (i5+1) ())))))))
noncomputable def sD(x0:bK):Bool:=
 let v3:Bool:=(x0.kind==1)||(x0.kind==2)
 let v12:Bool:=((!v3)&&(cq .neq x0.key.attr (⟨#[]⟩:ByteArray)))||(((!v3)&&(x0.kind != 3))&&(!(bif x0.key.dev==0 then bif dw x0.key.cU (⟨#[]⟩:ByteArray)then dw x0.key.attr (⟨#[]⟩:ByteArray)else false else false)))
 bif v12 then
  false
 else
  let ZT:Bool:=(((((x0.kind==3)||(x0.kind==4))||(x0.kind==5))||(x0.kind==6))||(cq .eql x0.name (⟨#[]⟩:ByteArray)))&&(((x0.kind==2)||(x0.kind==3))||(bif x0.value.kind==0 then bif x0.value.n==0 then dw x0.value.s (⟨#[]⟩:ByteArray)else false else false))
  (ZT&&((x0.kind==7)||(cq .eql x0.text (⟨#[]⟩:ByteArray))))
noncomputable def p4(x0:Home)(ao:Int):Int:=
 let v2:Int:=(List.length x0.bn:Int)
 Sum.elim (fun r=>r) (fun _=>
  (-1))
 (bp (fun(i3:Nat) (_:Unit)=>
  show Step (Int) (Unit)from
  bif(((List.getD x0.bn (Int.toNat (i3:Int)) (az .bB)).id)==ao)then
   .ret (i3:Int)
  else
   .br ()) 0 (Int.toNat v2) ():Int⊕(Unit))
def P2(x0:Home)(_:Int):Prop:=
 let v2:Int:=(List.length x0.bn:Int)
 0≤v2∧v2<(9223372036854775808:Int)
noncomputable def mV(x0:Home)(ao:Int)(bW:ByteArray):aK × Bool:=
 let v3:=p4 x0 ao
 let v4:=decide (v3<0)
 let aN:Int→aK × Bool:=fun v5=>
  let bF:Bool:=v4||(v5 != 0)
  let aN:Int→aK × Bool:=fun v9=>
   bif(bF||(decide (v9<0)))then
    (⟨⟨#[]⟩,[],[],[]⟩,false)
   else
    let b3:aK:=List.getD x0.bl (Int.toNat (mb x0 bW)) (az .aK)
    (b3,true)
  bif bF then
   aN (0:Int)
  else
   aN (q1 ((List.getD x0.bn (Int.toNat v3) (az .bB)).bl) bW)
 bif v4 then
  aN (0:Int)
 else
  aN (p2 x0)
def B7(x0:Home)(ao:Int)(bW:ByteArray):Prop:=
 let v3:=p4 x0 ao
 (P2 x0 ao)∧
 let v4:=decide (v3<0)
 let aN:Int→Prop:=fun v5=>
  let bF:Bool:=v4||(v5 != 0)
  (bF=false→0≤v3∧v3<(List.length x0.bn:Int))∧
  let aN:Int→Prop:=fun v9=>
   ((bF||(decide (v9<0)))=false→(
    let v12:=mb x0 bW
    (B5 x0 bW)∧
    let _:aK:=List.getD x0.bl (Int.toNat v12) (az .aK)
    0≤v12∧v12<(List.length x0.bl:Int)))
  (bF=true→(
   aN (0:Int)))∧(bF=false→(
   aN (q1 ((List.getD x0.bn (Int.toNat v3) (az .bB)).bl) bW)))
 (v4=true→(
  aN (0:Int)))∧(v4=false→(
  (B6 x0)∧
  aN (p2 x0)))
noncomputable def y0(x0:Home)(ao:dm):Attr × Bool:=
 let v2:=mV x0 ao.dev ao.cU
 bif !v2.2 then
  (⟨⟨#[]⟩,0,0,0,[],false,false⟩,false)
 else
  let v6:=su v2.1 ao.attr
  (v6.1,v6.2)
def Gx(x0:Home)(ao:dm):Prop:=
 let v2:=mV x0 ao.dev ao.cU
 (B7 x0 ao.dev ao.cU)∧
 ((!v2.2)=false→(
  let _:=su v2.1 ao.attr
  B2 v2.1 ao.attr))
noncomputable def we(x0:Home)(ao:bK):Int:=
 let v2:=y0 x0 ⟨ao.key.dev,ao.key.cU,ao.key.attr⟩
 bif !v2.2 then
  8
 else
  bif(ao.kind==1)then
   0
  else
   bif !v2.1.fx then
    24
   else
    (q4 v2.1 ⟨ao.value.kind,ao.value.n,ao.value.s⟩)
def Gy(x0:Home)(ao:bK):Prop:=
 let v2:=y0 x0 ⟨ao.key.dev,ao.key.cU,ao.key.attr⟩
 (Gx x0 ⟨ao.key.dev,ao.key.cU,ao.key.attr⟩)∧
 ((!v2.2)=false→(
  ((ao.kind==1)=false→(
   ((!v2.1.fx)=false→(
    yQ v2.1 ⟨ao.value.kind,ao.value.n,ao.value.s⟩))))))
noncomputable def ue(x0:aK)(ao:ByteArray):Command × Bool:=
 let v2:Int:=(List.length x0.commands:Int)
 Sum.elim (fun r=>r) (fun _=>
  (⟨⟨#[]⟩,⟨⟨#[]⟩,0,0,0,[],false,false⟩,[]⟩,false))
 (bp (fun(i3:Nat) (_:Unit)=>
  show Step (Command × Bool) (Unit)from
  bif(cq .eql ((List.getD x0.commands (Int.toNat (i3:Int)) (az .Command)).name) ao)then
   let bF:Command:=List.getD x0.commands (Int.toNat (i3:Int)) (az .Command)
   .ret (bF,true)
  else
   .br ()) 0 (Int.toNat v2) ():(Command × Bool)⊕(Unit))
noncomputable def Cs(x0:Home)(ao:bK):Int:=
 let v2:=mV x0 ao.key.dev ao.key.cU
 bif !v2.2 then
  8
 else
  let v6:=ue v2.1 ao.name
  bif !v6.2 then
   8
  else
   bif(v6.1.param.kind != 0)then
    (q4 ⟨v6.1.param.name,v6.1.param.kind,v6.1.param.min,v6.1.param.max,v6.1.param.enum,v6.1.param.fx,v6.1.param.safety⟩ ⟨ao.value.kind,ao.value.n,ao.value.s⟩)
   else
    bif(!(bif ao.value.kind==0 then bif ao.value.n==0 then dw ao.value.s (⟨#[]⟩:ByteArray)else false else false))then
     11
    else
     0
def Gz(x0:Home)(ao:bK):Prop:=
 let v2:=mV x0 ao.key.dev ao.key.cU
 (B7 x0 ao.key.dev ao.key.cU)∧
 ((!v2.2)=false→(
  let v6:=ue v2.1 ao.name
  ((!v6.2)=false→(
   ((v6.1.param.kind != 0)=true→(
    yQ ⟨v6.1.param.name,v6.1.param.kind,v6.1.param.min,v6.1.param.max,v6.1.param.enum,v6.1.param.fx,v6.1.param.safety⟩ ⟨ao.value.kind,ao.value.n,ao.value.s⟩))))))
noncomputable def tN(x0:Home)(ao:bK):Int:=
 let v2:=p2 x0
 bif(v2 != 0)then
  v2
 else
  bif((decide (ao.kind<1))||(decide (ao.kind>7)))then
   7
  else
   bif((decide (ao.de<0))||(decide (ao.de>1099511627776)))then
    2
   else
    bif(!(sD ao))then
     1
    else
     let aN:Bool→Int:=fun v12=>
      bif v12 then
       (we x0 ao)
      else
       bif(ao.kind==3)then
        (Cs x0 ao)
       else
        bif(ao.kind==7)then
         bif(decide ((ByteArray.size ao.text:Int)>20000))then
          3
         else
          0
        else
         bif(!(jG ao.name))then
          10
         else
          0
     let v12:=ao.kind==1
     bif v12 then
      aN v12
     else
      aN (ao.kind==2)
def B8(x0:Home)(ao:bK):Prop:=
 let v2:=p2 x0
 (B6 x0)∧
 ((v2 != 0)=false→(
  (((decide (ao.kind<1))||(decide (ao.kind>7)))=false→(
   (((decide (ao.de<0))||(decide (ao.de>1099511627776)))=false→(
    ((!(sD ao))=false→(
     let aN:Bool→Prop:=fun v12=>
      (v12=true→(
       Gy x0 ao))∧(v12=false→(
       ((ao.kind==3)=true→(
        Gz x0 ao))∧((ao.kind==3)=false→(
        ((ao.kind==7)=false→(
         pW ao.name))))))
     let v12:=ao.kind==1
     (v12=true→(
      aN v12))∧(v12=false→(
      aN (ao.kind==2)))))))))))
noncomputable def P3(x0:ByteArray):Int:=
 let v1:Int:=(ByteArray.size x0:Int)
 Sum.elim (fun r=>r) (fun bR=>
  bR)
 (bp (fun(i3:Nat) (aU:Int)=>
  show Step (Int) (Int)from
  .br (IntKind.wrap .u64 ((bD .xor .u64 aU (IntKind.wrap .u64 (ez x0 (i3:Int))))*(1099511628211:Int)))) 0 (Int.toNat v1) 14695981039346656037:Int⊕(Int))
def GC(x0:ByteArray):Prop:=
 let v1:Int:=(ByteArray.size x0:Int)
 0≤v1∧v1<(9223372036854775808:Int)
noncomputable def Hc(x0:Int)(ao:ByteArray):Int:=
 let dy:List Int:=([(IntKind.wrap .u8 (bD .shr .u64 x0 (56:Int))),(IntKind.wrap .u8 (bD .shr .u64 x0 (48:Int))),(IntKind.wrap .u8 (bD .shr .u64 x0 (40:Int))),(IntKind.wrap .u8 (bD .shr .u64 x0 (32:Int))),(IntKind.wrap .u8 (bD .shr .u64 x0 (24:Int))),(IntKind.wrap .u8 (bD .shr .u64 x0 (16:Int))),(IntKind.wrap .u8 (bD .shr .u64 x0 (8:Int))),(IntKind.wrap .u8 (bD .shr .u64 x0 (0:Int)))]:List Int)
 let cG:=bytesOf dy
 (IntKind.wrap .i64 (bD .shr .u64 (P3 (ByteArray.append (ByteArray.append cG ao) cG)) (32:Int)))
def Ca(x0:Int)(ao:ByteArray):Prop:=
 let dy:List Int:=([(IntKind.wrap .u8 (bD .shr .u64 x0 (56:Int))),(IntKind.wrap .u8 (bD .shr .u64 x0 (48:Int))),(IntKind.wrap .u8 (bD .shr .u64 x0 (40:Int))),(IntKind.wrap .u8 (bD .shr .u64 x0 (32:Int))),(IntKind.wrap .u8 (bD .shr .u64 x0 (24:Int))),(IntKind.wrap .u8 (bD .shr .u64 x0 (16:Int))),(IntKind.wrap .u8 (bD .shr .u64 x0 (8:Int))),(IntKind.wrap .u8 (bD .shr .u64 x0 (0:Int)))]:List Int)
 let cG:=bytesOf dy
 let v20:=ByteArray.append cG ao
 (ByteArray.size cG+ByteArray.size ao≤9223372036854775807)∧
 let v21:=ByteArray.append v20 cG
 (ByteArray.size v20+ByteArray.size cG≤9223372036854775807)∧
 GC v21
noncomputable def p5(x0:Int)(ao:ByteArray):ByteArray × Int:=
 let v2:Int:=(ByteArray.size ao:Int)
 bif(decide (v2<4))then
  (⟨#[]⟩,5)
 else
  let v5:=nK ao none (some (IntKind.wrap .i64 (v2-(4:Int))))
  let v6:=Hc x0 v5
  let dH:List Int:=([(IntKind.wrap .u8 (bD .shr .i64 v6 (24:Int))),(IntKind.wrap .u8 (bD .shr .i64 v6 (16:Int))),(IntKind.wrap .u8 (bD .shr .i64 v6 (8:Int))),(IntKind.wrap .u8 (bD .shr .i64 v6 (0:Int)))]:List Int)
  bif(cq .neq (nK ao (some (ByteArray.size v5:Int)) none) (bytesOf dH))then
   (⟨#[]⟩,6)
  else
   (v5,0)
def GD(x0:Int)(ao:ByteArray):Prop:=
 let v2:Int:=(ByteArray.size ao:Int)
 ((decide (v2<4))=false→(
  let v4:Int:=IntKind.wrap .i64 (v2-(4:Int))
  let v5:=nK ao none (some v4)
  (jH (ByteArray.size ao) none (some v4))∧
  let _:=Hc x0 v5
  (Ca x0 v5)∧
  let eU:Int:=(ByteArray.size v5:Int)
  jH (ByteArray.size ao) (some eU) none))
noncomputable def P4(x0:eN):Int:=
 bif(!(iq x0.eC))then
  10
 else
  bif(((((decide (x0.id<1))||(decide (x0.id>1099511627776)))||(decide (x0.oP<0)))||(decide (x0.oP>x0.oQ)))||(decide (x0.oQ>1099511627776)))then
   2
  else
   bif(decide ((IntKind.wrap .i64 (x0.oQ-x0.oP))>43200))then
    3
   else
    0
def P5(x0:eN):Prop:=
 nJ x0.eC
noncomputable def Hd(x0:Int)(ao:ByteArray):eN × Int:=
 let v2:=oL ao
 bif(v2.2 != 0)then
  (⟨⟨#[]⟩,0,0,0⟩,v2.2)
 else
  let v6:=p5 x0 v2.1
  bif(v6.2 != 0)then
   (⟨⟨#[]⟩,0,0,0⟩,v6.2)
  else
   let v10:=hG ⟨v6.1,0,true⟩ (24:Int)
   let b3:=gq v10.1
   let df:=gq b3.1
   let cG:=gq df.1
   let v22:=vM cG.1
   let aN:Int→eN × Int:=fun v25=>
    bif(v25 != 0)then
     (⟨⟨#[]⟩,0,0,0⟩,v25)
    else
     (⟨v10.2,b3.2,df.2,cG.2⟩,0)
   bif(v22.2==0)then
    aN (P4 ⟨v10.2,b3.2,df.2,cG.2⟩)
   else
    aN v22.2
def GF(x0:Int)(ao:ByteArray):Prop:=
 let v2:=oL ao
 (B9 ao)∧
 ((v2.2 != 0)=false→(
  let v6:=p5 x0 v2.1
  (GD x0 v2.1)∧
  ((v6.2 != 0)=false→(
   let v10:=hG ⟨v6.1,0,true⟩ (24:Int)
   (sn ⟨v6.1,0,true⟩ (24:Int))∧
   let b3:=gq v10.1
   (nI v10.1)∧
   let df:=gq b3.1
   (nI b3.1)∧
   let cG:=gq df.1
   (nI df.1)∧
   let v22:=vM cG.1
   ((v22.2==0)=true→(
    P5 ⟨v10.2,b3.2,df.2,cG.2⟩))))))
noncomputable def P6(x0:List Int)(ao:Int):Int:=
 let v2:Int:=(List.length x0:Int)
 Sum.elim (fun r=>r) (fun _=>
  (-1))
 (bp (fun(i3:Nat) (_:Unit)=>
  show Step (Int) (Unit)from
  bif(ao==(List.getD x0 (Int.toNat (i3:Int)) (az .i64)))then
   .ret (i3:Int)
  else
   .br ()) 0 (Int.toNat v2) ():Int⊕(Unit))
noncomputable def P7(x0:List Int)(ao:Int):Bool:=
 (decide ((P6 x0 ao)≥0))
noncomputable def lA(x0:Int)(ao:ByteArray)(bW:Int)(cd:List Int):eN × Int:=
 let v4:=Hd x0 ao
 let aN:Int→eN × Int:=fun bF=>
  (⟨⟨#[]⟩,0,0,0⟩,bF)
 bif(v4.2 != 0)then
  aN v4.2
 else
  bif((decide (bW<v4.1.oP))||(decide (bW≥v4.1.oQ)))then
   aN (17:Int)
  else
   bif(P7 cd v4.1.id)then
    aN (16:Int)
   else
    (v4.1,0)
def GG(x0:Int)(ao:ByteArray)(_:Int)(_:List Int):Prop:=
 let _:=Hd x0 ao
 GF x0 ao
noncomputable def za(x0:eT):Bool:=
 (((decide (0≤x0.from_))&&(decide (x0.from_<x0.wm)))&&(decide (x0.wm≤10080)))
noncomputable def He(x0:List eT):Int:=
 let v1:Int:=(List.length x0:Int)
 bif(decide (v1>256))then
  3
 else
  Sum.elim (fun r=>r) (fun _=>
   0)
  (bp (fun(i3:Nat) (_:Unit)=>
   show Step (Int) (Unit)from
   let v5:eT:=List.getD x0 (Int.toNat (i3:Int)) (az .eT)
   bif(!(za v5))then
    .ret 2
   else
    .br ()) 0 (Int.toNat v1) ():Int⊕(Unit))
noncomputable def Hf(x0:Home)(ao:List cu)(bW:Int):Int:=
 let v3:cu:=List.getD ao (Int.toNat bW) (az .cu)
 bif(!(iq v3.name))then
  10
 else
  let v6:=iF ao none (some bW)
  let bO:Int→Int:=fun bF=>
   bif(decide (bF≥0))then
    9
   else
    bif((decide (v3.role<1))||(decide (v3.role>4)))then
     2
    else
     let v12:=He v3.mW
     bif(v12 != 0)then
      v12
     else
      let cG:Int:=(List.length v3.fU:Int)
      bif((cC.den (.nN true) (v3.role==1) (decide ((List.length v3.mW:Int)>0)))||((decide (v3.role≥3))&&(decide (cG>0))))then
       4
      else
       bif(decide (cG>256))then
        3
       else
        Sum.elim (fun r=>r) (fun _=>
         0)
        (bp (fun(i24:Nat) (_:Unit)=>
         show Step (Int) (Unit)from
         let v26:ByteArray:=List.getD v3.fU (Int.toNat (i24:Int)) (az .str)
         bif(!(iq v26))then
          .ret 10
         else
          let bO:Int→Step (Int) (Unit):=fun iG=>
           bif(!(decide (iG≥0)))then
            .ret 8
           else
            .br ()
          let iG:Int:=(List.length x0.bn:Int)
          Sum.elim (fun r=>r) (fun _=>
           bO ((-1):Int))
          (bp (fun(i30:Nat) (_:Unit)=>
           show Step (Step (Int) (Unit)) (Unit)from
           bif(cq .eql ((List.getD x0.bn (Int.toNat (i30:Int)) (az .bB)).room) v26)then
            .ret (bO (i30:Int))
           else
            .br ()) 0 (Int.toNat iG) ():(Step (Int) (Unit))⊕(Unit))) 0 (Int.toNat cG) ():Int⊕(Unit))
  let bF:Int:=(List.length v6:Int)
  Sum.elim (fun r=>r) (fun _=>
   bO ((-1):Int))
  (bp (fun(i8:Nat) (_:Unit)=>
   show Step (Int) (Unit)from
   bif(cq .eql ((List.getD v6 (Int.toNat (i8:Int)) (az .cu)).name) v3.name)then
    .ret (bO (i8:Int))
   else
    .br ()) 0 (Int.toNat bF) ():Int⊕(Unit))
def Cf(x0:Home)(ao:List cu)(bW:Int):Prop:=
 let v3:cu:=List.getD ao (Int.toNat bW) (az .cu)
 (0≤bW∧bW<(List.length ao:Int))∧
 (nJ v3.name)∧
 ((!(iq v3.name))=false→(
  let v6:=iF ao none (some bW)
  (jH (List.length ao) none (some bW))∧
  let bO:Int→Prop:=fun bF=>
   ((decide (bF≥0))=false→(
    (((decide (v3.role<1))||(decide (v3.role>4)))=false→(
     let v12:=He v3.mW
     ((v12 != 0)=false→(
      let cG:Int:=(List.length v3.fU:Int)
      (((cC.den (.nN true) (v3.role==1) (decide ((List.length v3.mW:Int)>0)))||((decide (v3.role≥3))&&(decide (cG>0))))=false→(
       ((decide (cG>256))=false→(
        ∃bx:Nat→(Unit)→Prop,bx 0 ()∧∀(i24:Nat) (d0:Unit),i24<Int.toNat cG→bx i24 d0→(
         let v26:ByteArray:=List.getD v3.fU (Int.toNat (i24:Int)) (az .str)
         (nJ v26)∧
         ((!(iq v26))=false→(
          let bO:Int→Prop:=fun iG=>
           ((!(decide (iG≥0)))=false→(
            bx (i24+1) ()))
          let iG:Int:=(List.length x0.bn:Int)
          let ft:Unit→Prop:=fun _=>
           bO ((-1):Int)
          ∃eo:Nat→(Unit)→Prop,eo 0 ()∧(∀(i30:Nat) (d1:Unit),i30<Int.toNat iG→eo i30 d1→(
           ((cq .eql ((List.getD x0.bn (Int.toNat (i30:Int)) (az .bB)).room) v26)=true→(
            bO (i30:Int)))∧((cq .eql ((List.getD x0.bn (Int.toNat (i30:Int)) (az .bB)).room) v26)=false→(
            eo (i30+1) ()))))∧∀aU,eo (Int.toNat iG) aU→ft aU)))))))))))))
  let bF:Int:=(List.length v6:Int)
  let gG:Unit→Prop:=fun _=>
   bO ((-1):Int)
  ∃kD:Nat→(Unit)→Prop,kD 0 ()∧(∀(i8:Nat) (d2:Unit),i8<Int.toNat bF→kD i8 d2→(
   ((cq .eql ((List.getD v6 (Int.toNat (i8:Int)) (az .cu)).name) v3.name)=true→(
    bO (i8:Int)))∧((cq .eql ((List.getD v6 (Int.toNat (i8:Int)) (az .cu)).name) v3.name)=false→(
    kD (i8+1) ()))))∧∀da,kD (Int.toNat bF) da→gG da))
noncomputable def P8(x0:cu):Bool:=
 (x0.role==4)
noncomputable def Hg(x0:Home)(ao:List cu):Int:=
 let v2:=gv x0
 bif(v2 != 0)then
  v2
 else
  let v6:Int:=(List.length ao:Int)
  bif((decide ((List.length ao:Int)<1))||(decide (v6>16)))then
   3
  else
   Sum.elim (fun r=>r) (fun _=>
    let bO:Int→Int:=fun v9=>
     bif(!(decide (v9≥0)))then
      8
     else
      0
    Sum.elim (fun r=>r) (fun _=>
     bO ((-1):Int))
    (bp (fun(i9:Nat) (_:Unit)=>
     show Step (Int) (Unit)from
     let v11:cu:=List.getD ao (Int.toNat (i9:Int)) (az .cu)
     bif(P8 v11)then
      .ret (bO (i9:Int))
     else
      .br ()) 0 (Int.toNat v6) ():Int⊕(Unit)))
   (bp (fun(i9:Nat) (_:Unit)=>
    show Step (Int) (Unit)from
    let v11:=Hf x0 ao (i9:Int)
    bif(v11 != 0)then
     .ret v11
    else
     .br ()) 0 (Int.toNat v6) ():Int⊕(Unit))
def GJ(x0:Home)(ao:List cu):Prop:=
 let v2:=gv x0
 (yA x0)∧
 ((v2 != 0)=false→(
  let v6:Int:=(List.length ao:Int)
  (((decide ((List.length ao:Int)<1))||(decide (v6>16)))=false→(
   ∃bx:Nat→(Unit)→Prop,bx 0 ()∧∀(i9:Nat) (d0:Unit),i9<Int.toNat v6→bx i9 d0→(
    let v11:=Hf x0 ao (i9:Int)
    (Cf x0 ao (i9:Int))∧
    ((v11 != 0)=false→(
     bx (i9+1) ())))))))
def P9(x:List eT):List eT:=x
def GL(x:List eT):Prop:=x.length≤maxLen∧x.length*16≤140737488355328
noncomputable def Hh(x0:List cu)(ao:ByteArray):cu × Bool:=
 let v2:Int:=(List.length x0:Int)
 Sum.elim (fun r=>r) (fun _=>
  (⟨⟨#[]⟩,0,[],[],false⟩,false))
 (bp (fun(i3:Nat) (_:Unit)=>
  show Step (cu × Bool) (Unit)from
  let v5:cu:=List.getD x0 (Int.toNat (i3:Int)) (az .cu)
  bif(cq .eql v5.name ao)then
   .ret (⟨v5.name,v5.role,(P9 v5.mW),(CH v5.fU),v5.home⟩,true)
  else
   .br ()) 0 (Int.toNat v2) ():(cu × Bool)⊕(Unit))
def GK(x0:List cu)(ao:ByteArray):Prop:=
 let v2:Int:=(List.length x0:Int)
 ∃bx:Nat→(Unit)→Prop,bx 0 ()∧∀(i3:Nat) (d0:Unit),i3<Int.toNat v2→bx i3 d0→(
  let v5:cu:=List.getD x0 (Int.toNat (i3:Int)) (az .cu)
  ((cq .eql v5.name ao)=true→(
   (GL v5.mW)∧
   vQ v5.fU))∧((cq .eql v5.name ao)=false→(
   bx (i3+1) ())))
noncomputable def oR(x0:Home)(ao:Int):ByteArray:=
 let v2:=mc x0 ao
 v2.1.room
def q7(x0:Home)(ao:Int):Prop:=
 let _:=mc x0 ao
 yB x0 ao
noncomputable def CI(x0:Home)(ao:dm):Bool:=
 let v2:=y9 x0 ao
 (v2.2&&v2.1.safety)
def Ch(x0:Home)(ao:dm):Prop:=
 let _:=y9 x0 ao
 BX x0 ao
noncomputable def Hi(x0:Home)(ao:Int):(List dm):=
 let v2:=mc x0 ao
 let v6:Int:=(List.length v2.1.bl:Int)
 Sum.elim (fun r=>r) (fun bR=>
  bR)
 (bp (fun(i8:Nat) (aU:(List dm))=>
  show Step ((List dm)) ((List dm))from
  let v10:ByteArray:=List.getD v2.1.bl (Int.toNat (i8:Int)) (az .str)
  let v11:aK:=(jJ (.str) (kA x0) v10).getD (az .aK)
  let v12:Int:=(List.length v11.attrs:Int)
  Sum.elim (fun r=>r) (fun da=>
   .br da)
  (bp (fun(i14:Nat) (c9:(List dm))=>
   show Step (Step ((List dm)) ((List dm))) ((List dm))from
   .br (List.append c9 ([⟨ao,v10,(List.getD v11.attrs (Int.toNat (i14:Int)) (az .Attr)).name⟩]:List dm))) 0 (Int.toNat v12) aU:(Step ((List dm)) ((List dm)))⊕((List dm)))) 0 (Int.toNat v6) []:(List dm)⊕((List dm)))
def GM(x0:Home)(ao:Int):Prop:=
 let v2:=mc x0 ao
 (yB x0 ao)∧
 let v6:Int:=(List.length v2.1.bl:Int)
 ∃bx:Nat→((List dm))→Prop,bx 0 []∧∀(i8:Nat) (d0:(List dm)),i8<Int.toNat v6→bx i8 d0→(
  let v10:ByteArray:=List.getD v2.1.bl (Int.toNat (i8:Int)) (az .str)
  let v11:aK:=(jJ (.str) (kA x0) v10).getD (az .aK)
  let v12:Int:=(List.length v11.attrs:Int)
  let ft:(List dm)→Prop:=fun aU=>
   bx (i8+1) aU
  ∃eo:Nat→((List dm))→Prop,eo 0 d0∧(∀(i14:Nat) (d1:(List dm)),i14<Int.toNat v12→eo i14 d1→(
   let dH:List dm:=([⟨ao,v10,(List.getD v11.attrs (Int.toNat (i14:Int)) (az .Attr)).name⟩]:List dm)
   (List.length d1+List.length dH≤maxLen∧(List.length d1+List.length dH)*40≤140737488355328)∧
   eo (i14+1) (List.append d1 dH)))∧∀aU,eo (Int.toNat v12) aU→ft aU)
noncomputable def CJ(x0:Home)(ao:bK):Bool:=
 bif(ao.kind==2)then
  (CI x0 ⟨ao.key.dev,ao.key.cU,ao.key.attr⟩)
 else
  let v3:=Hi x0 ao.key.dev
  let eD:Int→Bool:=fun v4=>
   (decide (v4≥0))
  let v4:Int:=(List.length v3:Int)
  Sum.elim (fun r=>r) (fun _=>
   eD ((-1):Int))
  (bp (fun(i5:Nat) (_:Unit)=>
   show Step (Bool) (Unit)from
   let bF:dm:=List.getD v3 (Int.toNat (i5:Int)) (az .dm)
   let bw:=cq .eql bF.cU ao.key.cU
   let aN:Bool→Step (Bool) (Unit):=fun v9=>
    bif(bw&&v9)then
     .ret (eD (i5:Int))
    else
     .br ()
   bif bw then
    aN (CI x0 bF)
   else
    aN false) 0 (Int.toNat v4) ():Bool⊕(Unit))
def v7(x0:Home)(ao:bK):Prop:=
 ((ao.kind==2)=true→(
  Ch x0 ⟨ao.key.dev,ao.key.cU,ao.key.attr⟩))∧((ao.kind==2)=false→(
  let v3:=Hi x0 ao.key.dev
  (GM x0 ao.key.dev)∧
  let v4:Int:=(List.length v3:Int)
  ∃bx:Nat→(Unit)→Prop,bx 0 ()∧∀(i5:Nat) (d0:Unit),i5<Int.toNat v4→bx i5 d0→(
   let bF:dm:=List.getD v3 (Int.toNat (i5:Int)) (az .dm)
   let bw:=cq .eql bF.cU ao.key.cU
   let aN:Bool→Prop:=fun v9=>
    ((bw&&v9)=false→(
     bx (i5+1) ()))
   (bw=true→(
    (Ch x0 bF)∧
    aN (CI x0 bF)))∧(bw=false→(
    aN false)))))
noncomputable def Qa(x0:Home)(ao:cu)(bW:Int)(cd:bK):Int:=
 bif((decide (cd.kind<1))||(decide (cd.kind>7)))then
  7
 else
  bif(ao.role==1)then
   let bw:=decide (bW≥0)
   let eD:Bool→Int:=fun v9=>
    bif(!(bw&&v9))then
     17
    else
     let jM:Int→Int:=fun v12=>
      bif(decide (0<v12))then
       16
      else
       0
     let aN:Bool→Int:=fun v12=>
      bif v12 then
       let eD:Int→Int:=fun cV=>
        cV
       let bO:Int→Int:=fun cV=>
        bif(!(decide (cV≥0)))then
         eD (8:Int)
        else
         let dy:=decide ((List.length ao.fU:Int)>0)
         let aN:ByteArray→Int:=fun cG=>
          let aN:Bool→Int:=fun v20=>
           bif(dy&&(!v20))then
            eD (16:Int)
           else
            bif(CJ x0 cd)then
             eD (16:Int)
            else
             eD (0:Int)
          bif dy then
           aN (jI ao.fU cG)
          else
           aN false
         bif dy then
          aN (oR x0 cd.key.dev)
         else
          aN (⟨#[]⟩:ByteArray)
       let cV:Int:=(List.length x0.bn:Int)
       Sum.elim (fun r=>r) (fun _=>
        bO ((-1):Int))
       (bp (fun(i15:Nat) (_:Unit)=>
        show Step (Int) (Unit)from
        bif(((List.getD x0.bn (Int.toNat (i15:Int)) (az .bB)).id)==cd.key.dev)then
         .ret (bO (i15:Int))
        else
         .br ()) 0 (Int.toNat cV) ():Int⊕(Unit))
      else
       bif(cd.kind==4)then
        jM (1:Int)
       else
        bif(cd.kind==5)then
         jM (2:Int)
        else
         let aN:Bool→Int:=fun df=>
          bif df then
           jM (3:Int)
          else
           jM (0:Int)
         let df:=cd.kind==6
         bif df then
          aN df
         else
          aN (cd.kind==7)
     let v12:=cd.kind==2
     bif v12 then
      aN v12
     else
      aN (cd.kind==3)
   bif bw then
    let bO:Bool→Int:=fun v9=>
     eD v9
    let v9:Int:=bD .rem .i64 bW (10080:Int)
    let aN:Int→Int:=fun v10=>
     let v12:Int:=(List.length ao.mW:Int)
     Sum.elim (fun r=>r) (fun _=>
      bO false)
     (bp (fun(i13:Nat) (_:Unit)=>
      show Step (Int) (Unit)from
      let eU:eT:=List.getD ao.mW (Int.toNat (i13:Int)) (az .eT)
      bif(((za eU)&&(decide (eU.from_≤v10)))&&(decide (v10<eU.wm)))then
       .ret (bO true)
      else
       .br ()) 0 (Int.toNat v12) ():Int⊕(Unit))
    bif(decide (v9<0))then
     aN (IntKind.wrap .i64 (v9+(10080:Int)))
    else
     aN v9
   else
    eD false
  else
   bif(ao.role==2)then
    bif !true then
     17
    else
     let jM:Int→Int:=fun v10=>
      bif(decide (1<v10))then
       16
      else
       0
     bif(cd.kind==2)then
      let eD:Int→Int:=fun v11=>
       v11
      let bO:Int→Int:=fun v11=>
       bif(!(decide (v11≥0)))then
        eD (8:Int)
       else
        let eU:=decide ((List.length ao.fU:Int)>0)
        let aN:ByteArray→Int:=fun df=>
         let aN:Bool→Int:=fun dH=>
          bif(eU&&(!dH))then
           eD (16:Int)
          else
           bif(CJ x0 cd)then
            eD (16:Int)
           else
            eD (0:Int)
         bif eU then
          aN (jI ao.fU df)
         else
          aN false
        bif eU then
         aN (oR x0 cd.key.dev)
        else
         aN (⟨#[]⟩:ByteArray)
      let v11:Int:=(List.length x0.bn:Int)
      Sum.elim (fun r=>r) (fun _=>
       bO ((-1):Int))
      (bp (fun(i12:Nat) (_:Unit)=>
       show Step (Int) (Unit)from
       bif(((List.getD x0.bn (Int.toNat (i12:Int)) (az .bB)).id)==cd.key.dev)then
        .ret (bO (i12:Int))
       else
        .br ()) 0 (Int.toNat v11) ():Int⊕(Unit))
     else
      bif(cd.kind==3)then
       let eD:Int→Int:=fun v12=>
        v12
       let bO:Int→Int:=fun v12=>
        bif(!(decide (v12≥0)))then
         eD (8:Int)
        else
         let df:=decide ((List.length ao.fU:Int)>0)
         let aN:ByteArray→Int:=fun dH=>
          let aN:Bool→Int:=fun dy=>
           bif(df&&(!dy))then
            eD (16:Int)
           else
            bif(CJ x0 cd)then
             eD (16:Int)
            else
             eD (0:Int)
          bif df then
           aN (jI ao.fU dH)
          else
           aN false
         bif df then
          aN (oR x0 cd.key.dev)
         else
          aN (⟨#[]⟩:ByteArray)
       let v12:Int:=(List.length x0.bn:Int)
       Sum.elim (fun r=>r) (fun _=>
        bO ((-1):Int))
       (bp (fun(i13:Nat) (_:Unit)=>
        show Step (Int) (Unit)from
        bif(((List.getD x0.bn (Int.toNat (i13:Int)) (az .bB)).id)==cd.key.dev)then
         .ret (bO (i13:Int))
        else
         .br ()) 0 (Int.toNat v12) ():Int⊕(Unit))
      else
       bif(cd.kind==4)then
        jM (1:Int)
       else
        bif(cd.kind==5)then
         jM (2:Int)
        else
         let aN:Bool→Int:=fun cV=>
          bif cV then
           jM (3:Int)
          else
           jM (0:Int)
         let cV:=cd.kind==6
         bif cV then
          aN cV
         else
          aN (cd.kind==7)
   else
    bif(ao.role==3)then
     bif !true then
      17
     else
      let jM:Int→Int:=fun v11=>
       bif(decide (2<v11))then
        16
       else
        0
      bif(cd.kind==2)then
       let eD:Int→Int:=fun v12=>
        v12
       let bO:Int→Int:=fun v12=>
        bif(!(decide (v12≥0)))then
         eD (8:Int)
        else
         let df:=decide ((List.length ao.fU:Int)>0)
         let aN:ByteArray→Int:=fun dH=>
          let aN:Bool→Int:=fun dy=>
           bif(df&&(!dy))then
            eD (16:Int)
           else
            eD (0:Int)
          bif df then
           aN (jI ao.fU dH)
          else
           aN false
         bif df then
          aN (oR x0 cd.key.dev)
         else
          aN (⟨#[]⟩:ByteArray)
       let v12:Int:=(List.length x0.bn:Int)
       Sum.elim (fun r=>r) (fun _=>
        bO ((-1):Int))
       (bp (fun(i13:Nat) (_:Unit)=>
        show Step (Int) (Unit)from
        bif(((List.getD x0.bn (Int.toNat (i13:Int)) (az .bB)).id)==cd.key.dev)then
         .ret (bO (i13:Int))
        else
         .br ()) 0 (Int.toNat v12) ():Int⊕(Unit))
      else
       bif(cd.kind==3)then
        let eD:Int→Int:=fun b3=>
         b3
        let bO:Int→Int:=fun b3=>
         bif(!(decide (b3≥0)))then
          eD (8:Int)
         else
          let dH:=decide ((List.length ao.fU:Int)>0)
          let aN:ByteArray→Int:=fun dy=>
           let aN:Bool→Int:=fun cG=>
            bif(dH&&(!cG))then
             eD (16:Int)
            else
             eD (0:Int)
           bif dH then
            aN (jI ao.fU dy)
           else
            aN false
          bif dH then
           aN (oR x0 cd.key.dev)
          else
           aN (⟨#[]⟩:ByteArray)
        let b3:Int:=(List.length x0.bn:Int)
        Sum.elim (fun r=>r) (fun _=>
         bO ((-1):Int))
        (bp (fun(i14:Nat) (_:Unit)=>
         show Step (Int) (Unit)from
         bif(((List.getD x0.bn (Int.toNat (i14:Int)) (az .bB)).id)==cd.key.dev)then
          .ret (bO (i14:Int))
         else
          .br ()) 0 (Int.toNat b3) ():Int⊕(Unit))
       else
        bif(cd.kind==4)then
         jM (1:Int)
        else
         bif(cd.kind==5)then
          jM (2:Int)
         else
          let aN:Bool→Int:=fun eU=>
           bif eU then
            jM (3:Int)
           else
            jM (0:Int)
          let eU:=cd.kind==6
          bif eU then
           aN eU
          else
           aN (cd.kind==7)
    else
     bif !true then
      17
     else
      let jM:Int→Int:=fun v11=>
       bif(decide (3<v11))then
        16
       else
        0
      bif(cd.kind==2)then
       let eD:Int→Int:=fun v12=>
        v12
       let bO:Int→Int:=fun v12=>
        bif(!(decide (v12≥0)))then
         eD (8:Int)
        else
         let df:=decide ((List.length ao.fU:Int)>0)
         let aN:ByteArray→Int:=fun dH=>
          let aN:Bool→Int:=fun dy=>
           bif(df&&(!dy))then
            eD (16:Int)
           else
            eD (0:Int)
          bif df then
           aN (jI ao.fU dH)
          else
           aN false
         bif df then
          aN (oR x0 cd.key.dev)
         else
          aN (⟨#[]⟩:ByteArray)
       let v12:Int:=(List.length x0.bn:Int)
       Sum.elim (fun r=>r) (fun _=>
        bO ((-1):Int))
       (bp (fun(i13:Nat) (_:Unit)=>
        show Step (Int) (Unit)from
        bif(((List.getD x0.bn (Int.toNat (i13:Int)) (az .bB)).id)==cd.key.dev)then
         .ret (bO (i13:Int))
        else
         .br ()) 0 (Int.toNat v12) ():Int⊕(Unit))
      else
       bif(cd.kind==3)then
        let eD:Int→Int:=fun b3=>
         b3
        let bO:Int→Int:=fun b3=>
         bif(!(decide (b3≥0)))then
          eD (8:Int)
         else
          let dH:=decide ((List.length ao.fU:Int)>0)
          let aN:ByteArray→Int:=fun dy=>
           let aN:Bool→Int:=fun cG=>
            bif(dH&&(!cG))then
             eD (16:Int)
            else
             eD (0:Int)
           bif dH then
            aN (jI ao.fU dy)
           else
            aN false
          bif dH then
           aN (oR x0 cd.key.dev)
          else
           aN (⟨#[]⟩:ByteArray)
        let b3:Int:=(List.length x0.bn:Int)
        Sum.elim (fun r=>r) (fun _=>
         bO ((-1):Int))
        (bp (fun(i14:Nat) (_:Unit)=>
         show Step (Int) (Unit)from
         bif(((List.getD x0.bn (Int.toNat (i14:Int)) (az .bB)).id)==cd.key.dev)then
          .ret (bO (i14:Int))
         else
          .br ()) 0 (Int.toNat b3) ():Int⊕(Unit))
       else
        bif(cd.kind==4)then
         jM (1:Int)
        else
         bif(cd.kind==5)then
          jM (2:Int)
         else
          let aN:Bool→Int:=fun eU=>
           bif eU then
            jM (3:Int)
           else
            jM (0:Int)
          let eU:=cd.kind==6
          bif eU then
           aN eU
          else
           aN (cd.kind==7)
def Ci(x0:Home)(ao:cu)(bW:Int)(cd:bK):Prop:=
 (((decide (cd.kind<1))||(decide (cd.kind>7)))=false→(
  ((ao.role==1)=true→(
   let bw:=decide (bW≥0)
   let eD:Bool→Prop:=fun v9=>
    ((!(bw&&v9))=false→(
     let aN:Bool→Prop:=fun v12=>
      (v12=true→(
       let bO:Int→Prop:=fun cV=>
        ((!(decide (cV≥0)))=false→(
         let dy:=decide ((List.length ao.fU:Int)>0)
         let aN:ByteArray→Prop:=fun cG=>
          let aN:Bool→Prop:=fun v20=>
           ((dy&&(!v20))=false→(
            v7 x0 cd))
          (dy=true→(
           aN (jI ao.fU cG)))∧(dy=false→(
           aN false))
         (dy=true→(
          (q7 x0 cd.key.dev)∧
          aN (oR x0 cd.key.dev)))∧(dy=false→(
          aN (⟨#[]⟩:ByteArray)))))
       let cV:Int:=(List.length x0.bn:Int)
       let aX:Unit→Prop:=fun _=>
        bO ((-1):Int)
       ∃bx:Nat→(Unit)→Prop,bx 0 ()∧(∀(i15:Nat) (d0:Unit),i15<Int.toNat cV→bx i15 d0→(
        ((((List.getD x0.bn (Int.toNat (i15:Int)) (az .bB)).id)==cd.key.dev)=true→(
         bO (i15:Int)))∧((((List.getD x0.bn (Int.toNat (i15:Int)) (az .bB)).id)==cd.key.dev)=false→(
         bx (i15+1) ()))))∧∀bR,bx (Int.toNat cV) bR→aX bR))
     let v12:=cd.kind==2
     (v12=true→(
      aN v12))∧(v12=false→(
      aN (cd.kind==3)))))
   (bw=true→(
    let bO:Bool→Prop:=fun v9=>
     eD v9
    let v9:Int:=bD .rem .i64 bW (10080:Int)
    let aN:Int→Prop:=fun v10=>
     let v12:Int:=(List.length ao.mW:Int)
     let ft:Unit→Prop:=fun _=>
      bO false
     ∃eo:Nat→(Unit)→Prop,eo 0 ()∧(∀(i13:Nat) (d1:Unit),i13<Int.toNat v12→eo i13 d1→(
      let eU:eT:=List.getD ao.mW (Int.toNat (i13:Int)) (az .eT)
      ((((za eU)&&(decide (eU.from_≤v10)))&&(decide (v10<eU.wm)))=true→(
       bO true))∧((((za eU)&&(decide (eU.from_≤v10)))&&(decide (v10<eU.wm)))=false→(
       eo (i13+1) ()))))∧∀aU,eo (Int.toNat v12) aU→ft aU
    ((decide (v9<0))=true→(
     aN (IntKind.wrap .i64 (v9+(10080:Int)))))∧((decide (v9<0))=false→(
     aN v9))))∧(bw=false→(
    eD false))))∧((ao.role==1)=false→(
   ((ao.role==2)=true→(
    ((!true)=false→(
     ((cd.kind==2)=true→(
      let bO:Int→Prop:=fun v11=>
       ((!(decide (v11≥0)))=false→(
        let eU:=decide ((List.length ao.fU:Int)>0)
        let aN:ByteArray→Prop:=fun df=>
         let aN:Bool→Prop:=fun dH=>
          ((eU&&(!dH))=false→(
           v7 x0 cd))
         (eU=true→(
          aN (jI ao.fU df)))∧(eU=false→(
          aN false))
        (eU=true→(
         (q7 x0 cd.key.dev)∧
         aN (oR x0 cd.key.dev)))∧(eU=false→(
         aN (⟨#[]⟩:ByteArray)))))
      let v11:Int:=(List.length x0.bn:Int)
      let gG:Unit→Prop:=fun _=>
       bO ((-1):Int)
      ∃kD:Nat→(Unit)→Prop,kD 0 ()∧(∀(i12:Nat) (d2:Unit),i12<Int.toNat v11→kD i12 d2→(
       ((((List.getD x0.bn (Int.toNat (i12:Int)) (az .bB)).id)==cd.key.dev)=true→(
        bO (i12:Int)))∧((((List.getD x0.bn (Int.toNat (i12:Int)) (az .bB)).id)==cd.key.dev)=false→(
        kD (i12+1) ()))))∧∀da,kD (Int.toNat v11) da→gG da))∧((cd.kind==2)=false→(
      ((cd.kind==3)=true→(
       let bO:Int→Prop:=fun v12=>
        ((!(decide (v12≥0)))=false→(
         let df:=decide ((List.length ao.fU:Int)>0)
         let aN:ByteArray→Prop:=fun dH=>
          let aN:Bool→Prop:=fun dy=>
           ((df&&(!dy))=false→(
            v7 x0 cd))
          (df=true→(
           aN (jI ao.fU dH)))∧(df=false→(
           aN false))
         (df=true→(
          (q7 x0 cd.key.dev)∧
          aN (oR x0 cd.key.dev)))∧(df=false→(
          aN (⟨#[]⟩:ByteArray)))))
       let v12:Int:=(List.length x0.bn:Int)
       let kZ:Unit→Prop:=fun _=>
        bO ((-1):Int)
       ∃mf:Nat→(Unit)→Prop,mf 0 ()∧(∀(i13:Nat) (d3:Unit),i13<Int.toNat v12→mf i13 d3→(
        ((((List.getD x0.bn (Int.toNat (i13:Int)) (az .bB)).id)==cd.key.dev)=true→(
         bO (i13:Int)))∧((((List.getD x0.bn (Int.toNat (i13:Int)) (az .bB)).id)==cd.key.dev)=false→(
         mf (i13+1) ()))))∧∀c9,mf (Int.toNat v12) c9→kZ c9))))))))∧((ao.role==2)=false→(
    ((ao.role==3)=true→(
     ((!true)=false→(
      ((cd.kind==2)=true→(
       let bO:Int→Prop:=fun v12=>
        ((!(decide (v12≥0)))=false→(
         let df:=decide ((List.length ao.fU:Int)>0)
         (df=true→(
          q7 x0 cd.key.dev))))
       let v12:Int:=(List.length x0.bn:Int)
       let sH:Unit→Prop:=fun _=>
        bO ((-1):Int)
       ∃CM:Nat→(Unit)→Prop,CM 0 ()∧(∀(i13:Nat) (d4:Unit),i13<Int.toNat v12→CM i13 d4→(
        ((((List.getD x0.bn (Int.toNat (i13:Int)) (az .bB)).id)==cd.key.dev)=true→(
         bO (i13:Int)))∧((((List.getD x0.bn (Int.toNat (i13:Int)) (az .bB)).id)==cd.key.dev)=false→(
         CM (i13+1) ()))))∧∀gk,CM (Int.toNat v12) gk→sH gk))∧((cd.kind==2)=false→(
       ((cd.kind==3)=true→(
        let bO:Int→Prop:=fun b3=>
         ((!(decide (b3≥0)))=false→(
          let dH:=decide ((List.length ao.fU:Int)>0)
          (dH=true→(
           q7 x0 cd.key.dev))))
        let b3:Int:=(List.length x0.bn:Int)
        let zc:Unit→Prop:=fun _=>
         bO ((-1):Int)
        ∃CN:Nat→(Unit)→Prop,CN 0 ()∧(∀(i14:Nat) (d5:Unit),i14<Int.toNat b3→CN i14 d5→(
         ((((List.getD x0.bn (Int.toNat (i14:Int)) (az .bB)).id)==cd.key.dev)=true→(
          bO (i14:Int)))∧((((List.getD x0.bn (Int.toNat (i14:Int)) (az .bB)).id)==cd.key.dev)=false→(
          CN (i14+1) ()))))∧∀iJ,CN (Int.toNat b3) iJ→zc iJ))))))))∧((ao.role==3)=false→(
     ((!true)=false→(
      ((cd.kind==2)=true→(
       let bO:Int→Prop:=fun v12=>
        ((!(decide (v12≥0)))=false→(
         let df:=decide ((List.length ao.fU:Int)>0)
         (df=true→(
          q7 x0 cd.key.dev))))
       let v12:Int:=(List.length x0.bn:Int)
       let uz:Unit→Prop:=fun _=>
        bO ((-1):Int)
       ∃CO:Nat→(Unit)→Prop,CO 0 ()∧(∀(i13:Nat) (d6:Unit),i13<Int.toNat v12→CO i13 d6→(
        ((((List.getD x0.bn (Int.toNat (i13:Int)) (az .bB)).id)==cd.key.dev)=true→(
         bO (i13:Int)))∧((((List.getD x0.bn (Int.toNat (i13:Int)) (az .bB)).id)==cd.key.dev)=false→(
         CO (i13+1) ()))))∧∀kC,CO (Int.toNat v12) kC→uz kC))∧((cd.kind==2)=false→(
       ((cd.kind==3)=true→(
        let bO:Int→Prop:=fun b3=>
         ((!(decide (b3≥0)))=false→(
          let dH:=decide ((List.length ao.fU:Int)>0)
          (dH=true→(
           q7 x0 cd.key.dev))))
        let b3:Int:=(List.length x0.bn:Int)
        let wv:Unit→Prop:=fun _=>
         bO ((-1):Int)
        ∃CP:Nat→(Unit)→Prop,CP 0 ()∧(∀(i14:Nat) (d7:Unit),i14<Int.toNat b3→CP i14 d7→(
         ((((List.getD x0.bn (Int.toNat (i14:Int)) (az .bB)).id)==cd.key.dev)=true→(
          bO (i14:Int)))∧((((List.getD x0.bn (Int.toNat (i14:Int)) (az .bB)).id)==cd.key.dev)=false→(
          CP (i14+1) ()))))∧∀jL,CP (Int.toNat b3) jL→wv jL))))))))))))))
noncomputable def uh(x0:Home)(ao:List cu)(bW:ByteArray)(cd:Int)(c4:bK):Int:=
 let v5:=Hg x0 ao
 bif(v5 != 0)then
  v5
 else
  let bF:=Hh ao bW
  bif !bF.2 then
   8
  else
   (Qa x0 bF.1 cd c4)
def GN(x0:Home)(ao:List cu)(bW:ByteArray)(cd:Int)(c4:bK):Prop:=
 let v5:=Hg x0 ao
 (GJ x0 ao)∧
 ((v5 != 0)=false→(
  let bF:=Hh ao bW
  (GK ao bW)∧
  ((!bF.2)=false→(
   Ci x0 bF.1 cd c4))))
noncomputable def j3(x0:List b8)(ao:ByteArray):Int × Bool:=
 let bO:Int→Int × Bool:=fun v2=>
  bif(decide (v2≥0))then
   (v2,true)
  else
   let bO:Int→Int × Bool:=fun v4=>
    let aN:Int→Int × Bool:=fun v5=>
     (v5,false)
    bif(decide (v4<0))then
     aN (List.length x0:Int)
    else
     aN v4
   let v4:Int:=(List.length x0:Int)
   Sum.elim (fun r=>r) (fun _=>
    bO ((-1):Int))
   (bp (fun(i5:Nat) (_:Unit)=>
    show Step (Int × Bool) (Unit)from
    bif(cq .gtr ((List.getD x0 (Int.toNat (i5:Int)) (az .b8)).eC) ao)then
     .ret (bO (i5:Int))
    else
     .br ()) 0 (Int.toNat v4) ():(Int × Bool)⊕(Unit))
 let v2:Int:=(List.length x0:Int)
 Sum.elim (fun r=>r) (fun _=>
  bO ((-1):Int))
 (bp (fun(i3:Nat) (_:Unit)=>
  show Step (Int × Bool) (Unit)from
  bif(cq .eql ((List.getD x0 (Int.toNat (i3:Int)) (az .b8)).eC) ao)then
   .ret (bO (i3:Int))
  else
   .br ()) 0 (Int.toNat v2) ():(Int × Bool)⊕(Unit))
noncomputable def Hj:eg:=
 ⟨(-1),0⟩
noncomputable def yT(x0:eg):Int:=
 bif((x0.top==(-1))&&(x0.bits==0))then
  0
 else
  bif(((decide (x0.top<0))||(decide (x0.top>1099511627776)))||((bD .and .u64 x0.bits (1:Int))==0))then
   2
  else
   bif((decide (x0.top<63))&&((bD .shr .u64 x0.bits (IntKind.wrap .i64 (x0.top+(1:Int)))) != 0))then
    2
   else
    0
def GO(x0:eg):Prop:=
 (((x0.top==(-1))&&(x0.bits==0))=false→(
  ((((decide (x0.top<0))||(decide (x0.top>1099511627776)))||((bD .and .u64 x0.bits (1:Int))==0))=false→(
   let v10:=decide (x0.top<63)
   let v11:Int:=IntKind.wrap .i64 (x0.top+(1:Int))
   v10=true→0≤v11))))
noncomputable def uf(x0:eg)(ao:Int):eg × Bool:=
 bif(((((yT x0) != 0)||(decide (ao<0)))||(decide (ao>1099511627776)))||(decide (ao≤(IntKind.wrap .i64 (x0.top-(64:Int))))))then
  (x0,false)
 else
  bif(decide (ao>x0.top))then
   let aN:Int→eg × Bool:=fun v12=>
    (⟨ao,(bD .or .u64 v12 (1:Int))⟩,true)
   bif(decide ((IntKind.wrap .i64 (ao-x0.top))<64))then
    aN (bD .shl .u64 x0.bits (IntKind.wrap .i64 (ao-x0.top)))
   else
    aN (0:Int)
  else
   let b3:Int:=bD .shl .u64 (1:Int) (IntKind.wrap .i64 (x0.top-ao))
   bif((bD .and .u64 x0.bits b3) != 0)then
    (x0,false)
   else
    (⟨x0.top,(bD .or .u64 x0.bits b3)⟩,true)
def GQ(x0:eg)(ao:Int):Prop:=
 (GO x0)∧
 ((((((yT x0) != 0)||(decide (ao<0)))||(decide (ao>1099511627776)))||(decide (ao≤(IntKind.wrap .i64 (x0.top-(64:Int))))))=false→(
  ((decide (ao>x0.top))=true→(
   ((decide ((IntKind.wrap .i64 (ao-x0.top))<64))=true→(
    let cV:Int:=IntKind.wrap .i64 (ao-x0.top)
    0≤cV))))∧((decide (ao>x0.top))=false→(
   let v12:Int:=IntKind.wrap .i64 (x0.top-ao)
   let _:Int:=bD .shl .u64 (1:Int) v12
   0≤v12))))
noncomputable def j4(x0:Config)(ao:List cu)(bW:List b8)(cd:List Int)(c4:ha)(CQ:Int)(CR:Int):ByteArray × (List b8) × Int:=
 let bF:=lA x0.key c4.token CQ cd
 let bO:Int→ByteArray × (List b8) × Int:=fun v10=>
  bif(v10 != 0)then
   (⟨#[]⟩,bW,v10)
  else
   let b3:=j3 bW bF.1.eC
   let df:=Hj
   let aN:Int→Int→ByteArray × (List b8) × Int:=fun dH dy=>
    let cG:=uf ⟨dH,dy⟩ c4.request.de
    let aN:(List b8)→ByteArray × (List b8) × Int:=fun v24=>
     (bF.1.eC,v24,0)
    bif !cG.2 then
     (⟨#[]⟩,bW,18)
    else
     bif b3.2 then
      aN (List.set bW (Int.toNat b3.1) ⟨(List.getD bW (Int.toNat b3.1) (az .b8)).eC,⟨cG.1.top,cG.1.bits⟩⟩)
     else
      aN (List.append (List.append (iF bW none (some b3.1)) ([⟨bF.1.eC,⟨cG.1.top,cG.1.bits⟩⟩]:List b8)) (iF bW (some b3.1) none))
   bif b3.2 then
    let dH:b8:=List.getD bW (Int.toNat b3.1) (az .b8)
    aN dH.kB.top dH.kB.bits
   else
    aN df.top df.bits
 bif(bF.2==0)then
  let aN:Int→ByteArray × (List b8) × Int:=fun v11=>
   bO v11
  let v11:=ug ⟨x0.home.bl,x0.home.bn⟩ ⟨c4.request.kind,c4.request.de,⟨c4.request.key.dev,c4.request.key.cU,c4.request.key.attr⟩,c4.request.name,⟨c4.request.value.kind,c4.request.value.n,c4.request.value.s⟩,c4.request.text⟩
  bif(v11 != 0)then
   aN v11
  else
   let b3:=uh ⟨x0.home.bl,x0.home.bn⟩ ao bF.1.eC CR ⟨c4.request.kind,c4.request.de,⟨c4.request.key.dev,c4.request.key.cU,c4.request.key.attr⟩,c4.request.name,⟨c4.request.value.kind,c4.request.value.n,c4.request.value.s⟩,c4.request.text⟩
   bif(b3 != 0)then
    aN b3
   else
    aN (0:Int)
 else
  bO bF.2
def p6(x0:Config)(ao:List cu)(bW:List b8)(cd:List Int)(c4:ha)(CQ:Int)(CR:Int):Prop:=
 (List.length ([]:List b8)+List.length bW≤maxLen∧(List.length ([]:List b8)+List.length bW)*32≤140737488355328)∧
 let bF:=lA x0.key c4.token CQ cd
 (GG x0.key c4.token CQ cd)∧
 let bO:Int→Prop:=fun v10=>
  ((v10 != 0)=false→(
   let b3:=j3 bW bF.1.eC
   let df:=Hj
   let aN:Int→Int→Prop:=fun dH dy=>
    let cG:=uf ⟨dH,dy⟩ c4.request.de
    (GQ ⟨dH,dy⟩ c4.request.de)∧
    ((!cG.2)=false→(
     (b3.2=true→(
      (0≤b3.1∧b3.1<(List.length bW:Int))∧
      0≤b3.1∧b3.1<(List.length bW:Int)))∧(b3.2=false→(
      let v23:List b8:=([⟨bF.1.eC,⟨cG.1.top,cG.1.bits⟩⟩]:List b8)
      (jH (List.length bW) none (some b3.1))∧
      (0≤(0:Int)∧(0:Int)<(List.length v23:Int))∧
      List.length bW+List.length v23≤maxLen∧(List.length bW+List.length v23)*32≤140737488355328))))
   (b3.2=true→(
    (0≤b3.1∧b3.1<(List.length bW:Int))∧
    let dH:b8:=List.getD bW (Int.toNat b3.1) (az .b8)
    (0≤b3.1∧b3.1<(List.length bW:Int))∧
    aN dH.kB.top dH.kB.bits))∧(b3.2=false→(
    aN df.top df.bits))))
 ((bF.2==0)=true→(
  let aN:Int→Prop:=fun v11=>
   bO v11
  let v11:=ug ⟨x0.home.bl,x0.home.bn⟩ ⟨c4.request.kind,c4.request.de,⟨c4.request.key.dev,c4.request.key.cU,c4.request.key.attr⟩,c4.request.name,⟨c4.request.value.kind,c4.request.value.n,c4.request.value.s⟩,c4.request.text⟩
  (Gp ⟨x0.home.bl,x0.home.bn⟩ ⟨c4.request.kind,c4.request.de,⟨c4.request.key.dev,c4.request.key.cU,c4.request.key.attr⟩,c4.request.name,⟨c4.request.value.kind,c4.request.value.n,c4.request.value.s⟩,c4.request.text⟩)∧
  ((v11 != 0)=true→(
   aN v11))∧((v11 != 0)=false→(
   let b3:=uh ⟨x0.home.bl,x0.home.bn⟩ ao bF.1.eC CR ⟨c4.request.kind,c4.request.de,⟨c4.request.key.dev,c4.request.key.cU,c4.request.key.attr⟩,c4.request.name,⟨c4.request.value.kind,c4.request.value.n,c4.request.value.s⟩,c4.request.text⟩
   (GN ⟨x0.home.bl,x0.home.bn⟩ ao bF.1.eC CR ⟨c4.request.kind,c4.request.de,⟨c4.request.key.dev,c4.request.key.cU,c4.request.key.attr⟩,c4.request.name,⟨c4.request.value.kind,c4.request.value.n,c4.request.value.s⟩,c4.request.text⟩)∧
   ((b3 != 0)=true→(
    aN b3))∧((b3 != 0)=false→(
    aN (0:Int)))))))∧((bF.2==0)=false→(
  bO bF.2))
def Qb:List aK:=[⟨⟨#[111,110,111,102,102]⟩,[⟨⟨#[111,110]⟩,1,0,0,[],true,false⟩],[⟨⟨#[111,110]⟩,⟨⟨#[]⟩,0,0,0,[],false,false⟩,[⟨1,⟨#[111,110]⟩,1⟩]⟩,⟨⟨#[111,102,102]⟩,⟨⟨#[]⟩,0,0,0,[],false,false⟩,[⟨1,⟨#[111,110]⟩,0⟩]⟩,⟨⟨#[116,111,103,103,108,101]⟩,⟨⟨#[]⟩,0,0,0,[],false,false⟩,[⟨4,⟨#[111,110]⟩,0⟩]⟩],[]⟩,
 ⟨⟨#[108,101,118,101,108]⟩,[⟨⟨#[108,101,118,101,108]⟩,2,0,100,[],true,false⟩],[⟨⟨#[109,111,118,101]⟩,⟨⟨#[116,111]⟩,2,0,100,[],false,false⟩,[⟨2,⟨#[108,101,118,101,108]⟩,0⟩]⟩,⟨⟨#[115,116,101,112]⟩,⟨⟨#[]⟩,0,0,0,[],false,false⟩,[⟨3,⟨#[108,101,118,101,108]⟩,10⟩]⟩],[]⟩,
 ⟨⟨#[108,111,99,107]⟩,[⟨⟨#[108,111,99,107,101,100]⟩,1,0,0,[],true,true⟩],[⟨⟨#[108,111,99,107]⟩,⟨⟨#[]⟩,0,0,0,[],false,false⟩,[⟨1,⟨#[108,111,99,107,101,100]⟩,1⟩]⟩,⟨⟨#[117,110,108,111,99,107]⟩,⟨⟨#[]⟩,0,0,0,[],false,false⟩,[⟨1,⟨#[108,111,99,107,101,100]⟩,0⟩]⟩],[⟨#[106,97,109]⟩]⟩,
 ⟨⟨#[116,104,101,114,109,111,115,116,97,116]⟩,[⟨⟨#[116,97,114,103,101,116]⟩,2,50,300,[],true,false⟩,⟨⟨#[116,101,109,112]⟩,2,(-500),1000,[],false,false⟩],[],[]⟩,
 ⟨⟨#[115,109,111,107,101]⟩,[⟨⟨#[97,108,97,114,109]⟩,1,0,0,[],false,true⟩],[],[⟨#[116,101,115,116]⟩]⟩,
 ⟨⟨#[108,101,97,107]⟩,[⟨⟨#[119,101,116]⟩,1,0,0,[],false,true⟩],[],[]⟩,
 ⟨⟨#[118,97,108,118,101]⟩,[⟨⟨#[111,112,101,110]⟩,1,0,0,[],true,true⟩],[⟨⟨#[111,112,101,110]⟩,⟨⟨#[]⟩,0,0,0,[],false,false⟩,[⟨1,⟨#[111,112,101,110]⟩,1⟩]⟩,⟨⟨#[99,108,111,115,101]⟩,⟨⟨#[]⟩,0,0,0,[],false,false⟩,[⟨1,⟨#[111,112,101,110]⟩,0⟩]⟩],[]⟩,
 ⟨⟨#[109,101,116,101,114]⟩,[⟨⟨#[112,111,119,101,114]⟩,2,0,100000,[],false,false⟩],[],[]⟩]
def Qc:Prop:=True
noncomputable def Cm:Config × (List cu):=
 (⟨⟨(Qb),([⟨1,0,0,false,0,⟨#[104,97,108,108]⟩,([⟨#[111,110,111,102,102]⟩]:List ByteArray)⟩]:List bB)⟩,[],[],⟨0,[]⟩,7⟩,([⟨⟨#[97,110,110]⟩,4,[],[],false⟩]:List cu))
def Qd:Prop:=
 Qc
noncomputable def Hk(x0:eN):Int:=
 bif(!(jG x0.eC))then
  10
 else
  bif(((((decide (x0.id<1))||(decide (x0.id>1099511627776)))||(decide (x0.oP<0)))||(decide (x0.oP>x0.oQ)))||(decide (x0.oQ>1099511627776)))then
   2
  else
   bif(decide ((IntKind.wrap .i64 (x0.oQ-x0.oP))>43200))then
    3
   else
    0
def Qe(x0:eN):Prop:=
 pW x0.eC
noncomputable def yS(x0:Int):ByteArray:=
 (bytesOf ([(IntKind.wrap .u8 (bD .shr .i64 x0 (24:Int))),(IntKind.wrap .u8 (bD .shr .i64 x0 (16:Int))),(IntKind.wrap .u8 (bD .shr .i64 x0 (8:Int))),(IntKind.wrap .u8 x0)]:List Int))
noncomputable def Qf(x0:ByteArray):Int:=
 let v1:Int:=(ByteArray.size x0:Int)
 Sum.elim (fun r=>r) (fun bR=>
  bR)
 (bp (fun(i3:Nat) (aU:Int)=>
  show Step (Int) (Int)from
  .br (IntKind.wrap .u64 ((bD .xor .u64 aU (IntKind.wrap .u64 (ez x0 (i3:Int))))*(1099511628211:Int)))) 0 (Int.toNat v1) 14695981039346656037:Int⊕(Int))
def Qg(x0:ByteArray):Prop:=
 let v1:Int:=(ByteArray.size x0:Int)
 0≤v1∧v1<(9223372036854775808:Int)
noncomputable def vZ(x0:Int):ByteArray:=
 Sum.elim (fun r=>r) (fun bR=>
  bR.1)
 (c0 (fun(aU:ByteArray × Int)=>
  show Step (ByteArray) (ByteArray × Int)from
  bif(decide (aU.2≥0))then
   .br ((ByteArray.append aU.1 (bytesOf ([(IntKind.wrap .u8 (bD .shr .u64 x0 (IntKind.wrap .u64 ((8:Int)*(IntKind.wrap .u64 aU.2)))))]:List Int))),(IntKind.wrap .i64 (aU.2-(1:Int))))
  else
   .cI (aU.1,aU.2)) dU (⟨#[]⟩,7):ByteArray⊕(ByteArray × Int))
def Cc(x0:Int):Prop:=
 ∃(bx:(ByteArray × Int)→Prop) (gY:(ByteArray × Int)→Nat),bx (⟨#[]⟩,7)∧gY (⟨#[]⟩,7)<dU∧∀(d0:ByteArray × Int),bx d0→(
  ((decide (d0.2≥0))=true→(
   let v5:Int:=IntKind.wrap .u64 ((8:Int)*(IntKind.wrap .u64 d0.2))
   (0≤v5)∧
   let v9:=bytesOf ([(IntKind.wrap .u8 (bD .shr .u64 x0 v5))]:List Int)
   (ByteArray.size d0.1+ByteArray.size v9≤9223372036854775807)∧
   bx ((ByteArray.append d0.1 v9),(IntKind.wrap .i64 (d0.2-(1:Int))))∧gY ((ByteArray.append d0.1 v9),(IntKind.wrap .i64 (d0.2-(1:Int))))<gY d0)))
noncomputable def Ce(x0:Int)(ao:ByteArray):Int:=
 (IntKind.wrap .i64 (bD .shr .u64 (Qf (ByteArray.append (ByteArray.append (vZ x0) ao) (vZ x0))) (32:Int)))
def Cd(x0:Int)(ao:ByteArray):Prop:=
 let v2:=vZ x0
 (Cc x0)∧
 let v3:=ByteArray.append v2 ao
 (ByteArray.size v2+ByteArray.size ao≤9223372036854775807)∧
 let v4:=vZ x0
 (Cc x0)∧
 let v5:=ByteArray.append v3 v4
 (ByteArray.size v3+ByteArray.size v4≤9223372036854775807)∧
 Qg v5
noncomputable def Ck(x0:Int)(ao:ByteArray):ByteArray:=
 (ByteArray.append ao (yS (Ce x0 ao)))
def GI(x0:Int)(ao:ByteArray):Prop:=
 (Cd x0 ao)∧
 let v3:=yS (Ce x0 ao)
 ByteArray.size ao+ByteArray.size v3≤9223372036854775807
noncomputable def yW(x0:eN):ByteArray:=
 (ByteArray.append (ByteArray.append (ByteArray.append (qV x0.eC) (j0 x0.id)) (j0 x0.oP)) (j0 x0.oQ))
def Cl(x0:eN):Prop:=
 let v1:=qV x0.eC
 (BC x0.eC)∧
 let v2:=j0 x0.id
 (pS x0.id)∧
 let v3:=ByteArray.append v1 v2
 (ByteArray.size v1+ByteArray.size v2≤9223372036854775807)∧
 let v4:=j0 x0.oP
 (pS x0.oP)∧
 let v5:=ByteArray.append v3 v4
 (ByteArray.size v3+ByteArray.size v4≤9223372036854775807)∧
 let v6:=j0 x0.oQ
 (pS x0.oQ)∧
 ByteArray.size v5+ByteArray.size v6≤9223372036854775807
noncomputable def yV(x0:Int)(ao:eN):ByteArray × Int:=
 let v2:=Hk ao
 bif(v2 != 0)then
  (⟨#[]⟩,v2)
 else
  ((PY (Ck x0 (yW ao))),0)
def GV(x0:Int)(ao:eN):Prop:=
 let v2:=Hk ao
 (Qe ao)∧
 ((v2 != 0)=false→(
  let v4:=yW ao
  (Cl ao)∧
  let v5:=Ck x0 v4
  (GI x0 v4)∧
  GB v5))
noncomputable def q8:Bool:=
 let v0:=Cm
 let v3:=yV (7:Int) ⟨⟨#[97,110,110]⟩,1,0,100⟩
 let v6:=j4 v0.1 v0.2 ([]:List b8) ([]:List Int) ⟨v3.1,⟨1,5,⟨1,⟨#[111,110,111,102,102]⟩,⟨#[111,110]⟩⟩,⟨#[]⟩,⟨0,0,⟨#[]⟩⟩,⟨#[]⟩⟩⟩ (5:Int) (5:Int)
 let v10:=j4 v0.1 v0.2 v6.2.1 ([]:List Int) ⟨v3.1,⟨1,5,⟨1,⟨#[111,110,111,102,102]⟩,⟨#[111,110]⟩⟩,⟨#[]⟩,⟨0,0,⟨#[]⟩⟩,⟨#[]⟩⟩⟩ (5:Int) (5:Int)
 let cV:=j4 v0.1 v0.2 v6.2.1 ([]:List Int) ⟨v3.1,⟨1,4,⟨1,⟨#[111,110,111,102,102]⟩,⟨#[111,110]⟩⟩,⟨#[]⟩,⟨0,0,⟨#[]⟩⟩,⟨#[]⟩⟩⟩ (5:Int) (5:Int)
 let cG:=hE (ky ⟨1,4,⟨1,⟨#[111,110,111,102,102]⟩,⟨#[111,110]⟩⟩,⟨#[]⟩,⟨0,0,⟨#[]⟩⟩,⟨#[]⟩⟩)
 let y6:Bool:=(((((v3.2==0)&&(cq .eql v6.1 (⟨#[97,110,110]⟩:ByteArray)))&&(v6.2.2==0))&&((List.length v6.2.1:Int)==1))&&(((List.getD v6.2.1 (Int.toNat (0:Int)) (az .b8)).kB.top)==5))&&(v10.2.2==18)
 let v37:=bif cG.1.kind==1 then bif cG.1.de==4 then bif cG.1.key.dev==1 then bif dw cG.1.key.cU (⟨#[111,110,111,102,102]⟩:ByteArray)then bif dw cG.1.key.attr (⟨#[111,110]⟩:ByteArray)then bif dw cG.1.name (⟨#[]⟩:ByteArray)then bif cG.1.value.kind==0 then bif cG.1.value.n==0 then bif dw cG.1.value.s (⟨#[]⟩:ByteArray)then dw cG.1.text (⟨#[]⟩:ByteArray)else false else false else false else false else false else false else false else false else false
 (((y6&&(cV.2.2==0))&&v37)&&(cG.2==0))
def nD:Prop:=
 let v0:=Cm
 (Qd)∧
 let v3:=yV (7:Int) ⟨⟨#[97,110,110]⟩,1,0,100⟩
 (GV (7:Int) ⟨⟨#[97,110,110]⟩,1,0,100⟩)∧
 let v6:=j4 v0.1 v0.2 ([]:List b8) ([]:List Int) ⟨v3.1,⟨1,5,⟨1,⟨#[111,110,111,102,102]⟩,⟨#[111,110]⟩⟩,⟨#[]⟩,⟨0,0,⟨#[]⟩⟩,⟨#[]⟩⟩⟩ (5:Int) (5:Int)
 (p6 v0.1 v0.2 ([]:List b8) ([]:List Int) ⟨v3.1,⟨1,5,⟨1,⟨#[111,110,111,102,102]⟩,⟨#[111,110]⟩⟩,⟨#[]⟩,⟨0,0,⟨#[]⟩⟩,⟨#[]⟩⟩⟩ (5:Int) (5:Int))∧
 let _:=j4 v0.1 v0.2 v6.2.1 ([]:List Int) ⟨v3.1,⟨1,5,⟨1,⟨#[111,110,111,102,102]⟩,⟨#[111,110]⟩⟩,⟨#[]⟩,⟨0,0,⟨#[]⟩⟩,⟨#[]⟩⟩⟩ (5:Int) (5:Int)
 (p6 v0.1 v0.2 v6.2.1 ([]:List Int) ⟨v3.1,⟨1,5,⟨1,⟨#[111,110,111,102,102]⟩,⟨#[111,110]⟩⟩,⟨#[]⟩,⟨0,0,⟨#[]⟩⟩,⟨#[]⟩⟩⟩ (5:Int) (5:Int))∧
 let _:=j4 v0.1 v0.2 v6.2.1 ([]:List Int) ⟨v3.1,⟨1,4,⟨1,⟨#[111,110,111,102,102]⟩,⟨#[111,110]⟩⟩,⟨#[]⟩,⟨0,0,⟨#[]⟩⟩,⟨#[]⟩⟩⟩ (5:Int) (5:Int)
 (p6 v0.1 v0.2 v6.2.1 ([]:List Int) ⟨v3.1,⟨1,4,⟨1,⟨#[111,110,111,102,102]⟩,⟨#[111,110]⟩⟩,⟨#[]⟩,⟨0,0,⟨#[]⟩⟩,⟨#[]⟩⟩⟩ (5:Int) (5:Int))∧
 let dy:=ky ⟨1,4,⟨1,⟨#[111,110,111,102,102]⟩,⟨#[111,110]⟩⟩,⟨#[]⟩,⟨0,0,⟨#[]⟩⟩,⟨#[]⟩⟩
 (vD ⟨1,4,⟨1,⟨#[111,110,111,102,102]⟩,⟨#[111,110]⟩⟩,⟨#[]⟩,⟨0,0,⟨#[]⟩⟩,⟨#[]⟩⟩)∧
 let _:=hE dy
 (tM dy)∧
 let iG:Bool:=(((v3.2==0)&&(cq .eql v6.1 (⟨#[97,110,110]⟩:ByteArray)))&&(v6.2.2==0))&&((List.length v6.2.1:Int)==1)
 iG=true→0≤(0:Int)∧(0:Int)<(List.length v6.2.1:Int)
noncomputable def uA(x0:Case):Bool:=
 let v6:Int:=(List.length x0.members:Int)
 let cV:Bool:=((((decide ((List.length x0.c.home.bl:Int)>100))||(decide ((List.length x0.c.home.bn:Int)>30)))||(decide (v6>30)))||(decide ((List.length x0.k0:Int)>60)))||(decide ((List.length x0.lC:Int)>100))
 bif((cV||(decide ((ByteArray.size x0.a.token:Int)>1000)))||(decide ((ByteArray.size x0.a.request.text:Int)>25000)))then
  true
 else
  Sum.elim (fun r=>r) (fun _=>
   false)
  (bp (fun(i21:Nat) (_:Unit)=>
   show Step (Bool) (Unit)from
   let iG:Bool:=(decide ((List.length ((List.getD x0.members (Int.toNat (i21:Int)) (az .cu)).mW):Int)>300))||(decide ((List.length ((List.getD x0.members (Int.toNat (i21:Int)) (az .cu)).fU):Int)>300))
   bif iG then
    .ret true
   else
    .br ()) 0 (Int.toNat v6) ():Bool⊕(Unit))
def Hl(x0:Case):Prop:=
 let v6:Int:=(List.length x0.members:Int)
 let cV:Bool:=((((decide ((List.length x0.c.home.bl:Int)>100))||(decide ((List.length x0.c.home.bn:Int)>30)))||(decide (v6>30)))||(decide ((List.length x0.k0:Int)>60)))||(decide ((List.length x0.lC:Int)>100))
 (((cV||(decide ((ByteArray.size x0.a.token:Int)>1000)))||(decide ((ByteArray.size x0.a.request.text:Int)>25000)))=false→(
  0≤v6∧v6<(9223372036854775808:Int)))
noncomputable def Qh:eg:=
 ⟨(-1),0⟩
noncomputable def zd(x0:List b8)(ao:ByteArray):eg:=
 let v2:Int:=(List.length x0:Int)
 Sum.elim (fun r=>r) (fun _=>
  let v3:=Qh
  v3)
 (bp (fun(i3:Nat) (_:Unit)=>
  show Step (eg) (Unit)from
  bif(cq .eql ((List.getD x0 (Int.toNat (i3:Int)) (az .b8)).eC) ao)then
   let bF:b8:=List.getD x0 (Int.toNat (i3:Int)) (az .b8)
   .ret ⟨bF.kB.top,bF.kB.bits⟩
  else
   .br ()) 0 (Int.toNat v2) ():eg⊕(Unit))
noncomputable def ze(x0:List b8)(ao:List b8):Bool:=
 let v2:Int:=(List.length x0:Int)
 bif(v2 != (List.length ao:Int))then
  false
 else
  Sum.elim (fun r=>r) (fun _=>
   true)
  (bp (fun(i5:Nat) (_:Unit)=>
   show Step (Bool) (Unit)from
   let bF:b8:=List.getD x0 (Int.toNat (i5:Int)) (az .b8)
   let bw:b8:=List.getD ao (Int.toNat (i5:Int)) (az .b8)
   bif(!(bif dw bF.eC bw.eC then bif bF.kB.top==bw.kB.top then bF.kB.bits==bw.kB.bits else false else false))then
    .ret false
   else
    .br ()) 0 (Int.toNat v2) ():Bool⊕(Unit))
def Hm(x0:List b8)(ao:List b8):Prop:=
 let v2:Int:=(List.length x0:Int)
 ((v2 != (List.length ao:Int))=false→(
  ∃bx:Nat→(Unit)→Prop,bx 0 ()∧∀(i5:Nat) (d0:Unit),i5<Int.toNat v2→bx i5 d0→(
   let bF:b8:=List.getD x0 (Int.toNat (i5:Int)) (az .b8)
   let bw:b8:=List.getD ao (Int.toNat (i5:Int)) (az .b8)
   (0≤(i5:Int)∧(i5:Int)<(List.length ao:Int))∧
   ((!(bif dw bF.eC bw.eC then bif bF.kB.top==bw.kB.top then bF.kB.bits==bw.kB.bits else false else false))=false→(
    bx (i5+1) ())))))
noncomputable def Bq(x0:Home)(ao:bK)(bW:ByteArray):Bool:=
 bif(((decide ((List.length x0.bl:Int)>300))||(decide ((List.length x0.bn:Int)>60)))||(decide ((ByteArray.size bW:Int)>25000)))then
  (q8)
 else
  let aN:Bool:=
   let b3:=hE bW
   let df:=b3.2 != 0
   let aN:ByteArray→Bool:=fun dH=>
    let cG:Bool:=df||(cq .eql dH bW)
    let aN:Bool→Bool:=fun v20=>
     (cG&&v20)
    bif cG then
     aN (q8)
    else
     aN false
   bif df then
    aN (⟨#[]⟩:ByteArray)
   else
    aN (ky b3.1)
  bif((tN x0 ao)==0)then
   let cV:=hE (ky ao)
   let dy:=!(bif cV.1.kind==ao.kind then bif cV.1.de==ao.de then bif cV.1.key.dev==ao.key.dev then bif dw cV.1.key.cU ao.key.cU then bif dw cV.1.key.attr ao.key.attr then bif dw cV.1.name ao.name then bif cV.1.value.kind==ao.value.kind then bif cV.1.value.n==ao.value.n then bif dw cV.1.value.s ao.value.s then dw cV.1.text ao.text else false else false else false else false else false else false else false else false else false)
   bif((cV.2 != 0)||dy)then
    false
   else
    aN
  else
   aN
def Od(x0:Home)(ao:bK)(bW:ByteArray):Prop:=
 ((((decide ((List.length x0.bl:Int)>300))||(decide ((List.length x0.bn:Int)>60)))||(decide ((ByteArray.size bW:Int)>25000)))=true→(
  nD))∧((((decide ((List.length x0.bl:Int)>300))||(decide ((List.length x0.bn:Int)>60)))||(decide ((ByteArray.size bW:Int)>25000)))=false→(
  let aN:Prop:=
   let b3:=hE bW
   (tM bW)∧
   let df:=b3.2 != 0
   let aN:ByteArray→Prop:=fun dH=>
    let cG:Bool:=df||(cq .eql dH bW)
    (cG=true→(
     nD))
   (df=true→(
    aN (⟨#[]⟩:ByteArray)))∧(df=false→(
    (vD b3.1)∧
    aN (ky b3.1)))
  (B8 x0 ao)∧
  (((tN x0 ao)==0)=true→(
   let b3:=ky ao
   (vD ao)∧
   let cV:=hE b3
   (tM b3)∧
   let dy:=!(bif cV.1.kind==ao.kind then bif cV.1.de==ao.de then bif cV.1.key.dev==ao.key.dev then bif dw cV.1.key.cU ao.key.cU then bif dw cV.1.key.attr ao.key.attr then bif dw cV.1.name ao.name then bif cV.1.value.kind==ao.value.kind then bif cV.1.value.n==ao.value.n then bif dw cV.1.value.s ao.value.s then dw cV.1.text ao.text else false else false else false else false else false else false else false else false else false)
   (((cV.2 != 0)||dy)=false→(
    aN))))∧(((tN x0 ao)==0)=false→(
   aN))))
noncomputable def ZU(x0:Case)(ao:ha):Bool:=
 bif(((uA x0)||(decide ((ByteArray.size ao.token:Int)>1000)))||(decide ((ByteArray.size ao.request.text:Int)>25000)))then
  (q8)
 else
  let v9:=j4 ⟨⟨x0.c.home.bl,x0.c.home.bn⟩,x0.c.mY,x0.c.mZ,⟨x0.c.hI.offset,x0.c.hI.changes⟩,x0.c.key⟩ x0.members x0.k0 x0.lC ⟨x0.a.token,⟨x0.a.request.kind,x0.a.request.de,⟨x0.a.request.key.dev,x0.a.request.key.cU,x0.a.request.key.attr⟩,x0.a.request.name,⟨x0.a.request.value.kind,x0.a.request.value.n,x0.a.request.value.s⟩,x0.a.request.text⟩⟩ x0.now x0.ia
  bif(v9.2.2 != 0)then
   let cV:=ze v9.2.1 x0.k0
   let aN:Bool→Bool:=fun eU=>
    (cV&&eU)
   bif cV then
    aN (q8)
   else
    aN false
  else
   let cV:=j4 ⟨⟨x0.c.home.bl,x0.c.home.bn⟩,x0.c.mY,x0.c.mZ,⟨x0.c.hI.offset,x0.c.hI.changes⟩,x0.c.key⟩ x0.members v9.2.1 x0.lC ao x0.now x0.ia
   let dy:=j4 ⟨⟨x0.c.home.bl,x0.c.home.bn⟩,x0.c.mY,x0.c.mZ,⟨x0.c.hI.offset,x0.c.hI.changes⟩,x0.c.key⟩ x0.members cV.2.1 x0.lC ⟨x0.a.token,⟨x0.a.request.kind,x0.a.request.de,⟨x0.a.request.key.dev,x0.a.request.key.cU,x0.a.request.key.attr⟩,x0.a.request.name,⟨x0.a.request.value.kind,x0.a.request.value.n,x0.a.request.value.s⟩,x0.a.request.text⟩⟩ x0.now x0.ia
   let v22:=dy.2.2==18
   let aN:Bool→Bool:=fun v23=>
    let v24:Bool:=v22&&v23
    let aN:Bool→Bool:=fun v25=>
     (v24&&v25)
    bif v24 then
     aN (q8)
    else
     aN false
   bif v22 then
    aN (ze dy.2.1 cV.2.1)
   else
    aN false
def ZV(x0:Case)(ao:ha):Prop:=
 (Hl x0)∧
 ((((uA x0)||(decide ((ByteArray.size ao.token:Int)>1000)))||(decide ((ByteArray.size ao.request.text:Int)>25000)))=true→(
  nD))∧((((uA x0)||(decide ((ByteArray.size ao.token:Int)>1000)))||(decide ((ByteArray.size ao.request.text:Int)>25000)))=false→(
  let v9:=j4 ⟨⟨x0.c.home.bl,x0.c.home.bn⟩,x0.c.mY,x0.c.mZ,⟨x0.c.hI.offset,x0.c.hI.changes⟩,x0.c.key⟩ x0.members x0.k0 x0.lC ⟨x0.a.token,⟨x0.a.request.kind,x0.a.request.de,⟨x0.a.request.key.dev,x0.a.request.key.cU,x0.a.request.key.attr⟩,x0.a.request.name,⟨x0.a.request.value.kind,x0.a.request.value.n,x0.a.request.value.s⟩,x0.a.request.text⟩⟩ x0.now x0.ia
  (p6 ⟨⟨x0.c.home.bl,x0.c.home.bn⟩,x0.c.mY,x0.c.mZ,⟨x0.c.hI.offset,x0.c.hI.changes⟩,x0.c.key⟩ x0.members x0.k0 x0.lC ⟨x0.a.token,⟨x0.a.request.kind,x0.a.request.de,⟨x0.a.request.key.dev,x0.a.request.key.cU,x0.a.request.key.attr⟩,x0.a.request.name,⟨x0.a.request.value.kind,x0.a.request.value.n,x0.a.request.value.s⟩,x0.a.request.text⟩⟩ x0.now x0.ia)∧
  ((v9.2.2 != 0)=true→(
   let cV:=ze v9.2.1 x0.k0
   (Hm v9.2.1 x0.k0)∧
   (cV=true→(
    nD))))∧((v9.2.2 != 0)=false→(
   let cV:=j4 ⟨⟨x0.c.home.bl,x0.c.home.bn⟩,x0.c.mY,x0.c.mZ,⟨x0.c.hI.offset,x0.c.hI.changes⟩,x0.c.key⟩ x0.members v9.2.1 x0.lC ao x0.now x0.ia
   (p6 ⟨⟨x0.c.home.bl,x0.c.home.bn⟩,x0.c.mY,x0.c.mZ,⟨x0.c.hI.offset,x0.c.hI.changes⟩,x0.c.key⟩ x0.members v9.2.1 x0.lC ao x0.now x0.ia)∧
   let dy:=j4 ⟨⟨x0.c.home.bl,x0.c.home.bn⟩,x0.c.mY,x0.c.mZ,⟨x0.c.hI.offset,x0.c.hI.changes⟩,x0.c.key⟩ x0.members cV.2.1 x0.lC ⟨x0.a.token,⟨x0.a.request.kind,x0.a.request.de,⟨x0.a.request.key.dev,x0.a.request.key.cU,x0.a.request.key.attr⟩,x0.a.request.name,⟨x0.a.request.value.kind,x0.a.request.value.n,x0.a.request.value.s⟩,x0.a.request.text⟩⟩ x0.now x0.ia
   (p6 ⟨⟨x0.c.home.bl,x0.c.home.bn⟩,x0.c.mY,x0.c.mZ,⟨x0.c.hI.offset,x0.c.hI.changes⟩,x0.c.key⟩ x0.members cV.2.1 x0.lC ⟨x0.a.token,⟨x0.a.request.kind,x0.a.request.de,⟨x0.a.request.key.dev,x0.a.request.key.cU,x0.a.request.key.attr⟩,x0.a.request.name,⟨x0.a.request.value.kind,x0.a.request.value.n,x0.a.request.value.s⟩,x0.a.request.text⟩⟩ x0.now x0.ia)∧
   let v22:=dy.2.2==18
   let aN:Bool→Prop:=fun v23=>
    let v24:Bool:=v22&&v23
    (v24=true→(
     nD))
   (v22=true→(
    (Hm dy.2.1 cV.2.1)∧
    aN (ze dy.2.1 cV.2.1)))∧(v22=false→(
    aN false))))))
noncomputable def ZW(x0:Case)(ao:ByteArray):Bool:=
 bif(uA x0)then
  (q8)
 else
  let v3:=j4 ⟨⟨x0.c.home.bl,x0.c.home.bn⟩,x0.c.mY,x0.c.mZ,⟨x0.c.hI.offset,x0.c.hI.changes⟩,x0.c.key⟩ x0.members x0.k0 x0.lC ⟨x0.a.token,⟨x0.a.request.kind,x0.a.request.de,⟨x0.a.request.key.dev,x0.a.request.key.cU,x0.a.request.key.attr⟩,x0.a.request.name,⟨x0.a.request.value.kind,x0.a.request.value.n,x0.a.request.value.s⟩,x0.a.request.text⟩⟩ x0.now x0.ia
  let bF:=cq .eql ao v3.1
  let aN:Int→Int→Bool:=fun bw v9=>
   let aN:Int→Int→Bool:=fun v10 v11=>
    let dy:Bool:=(bF||(bif bw==v10 then v9==v11 else false))&&(decide ((List.length v3.2.1:Int)≤(IntKind.wrap .i64 ((List.length x0.k0:Int)+(1:Int)))))
    let aN:Bool→Bool:=fun cG=>
     (dy&&cG)
    bif dy then
     aN (q8)
    else
     aN false
   bif bF then
    aN (0:Int) (0:Int)
   else
    let v10:=zd x0.k0 ao
    aN v10.top v10.bits
  bif bF then
   aN (0:Int) (0:Int)
  else
   let bw:=zd v3.2.1 ao
   aN bw.top bw.bits
def ZX(x0:Case)(ao:ByteArray):Prop:=
 (Hl x0)∧
 ((uA x0)=true→(
  nD))∧((uA x0)=false→(
  let v3:=j4 ⟨⟨x0.c.home.bl,x0.c.home.bn⟩,x0.c.mY,x0.c.mZ,⟨x0.c.hI.offset,x0.c.hI.changes⟩,x0.c.key⟩ x0.members x0.k0 x0.lC ⟨x0.a.token,⟨x0.a.request.kind,x0.a.request.de,⟨x0.a.request.key.dev,x0.a.request.key.cU,x0.a.request.key.attr⟩,x0.a.request.name,⟨x0.a.request.value.kind,x0.a.request.value.n,x0.a.request.value.s⟩,x0.a.request.text⟩⟩ x0.now x0.ia
  (p6 ⟨⟨x0.c.home.bl,x0.c.home.bn⟩,x0.c.mY,x0.c.mZ,⟨x0.c.hI.offset,x0.c.hI.changes⟩,x0.c.key⟩ x0.members x0.k0 x0.lC ⟨x0.a.token,⟨x0.a.request.kind,x0.a.request.de,⟨x0.a.request.key.dev,x0.a.request.key.cU,x0.a.request.key.attr⟩,x0.a.request.name,⟨x0.a.request.value.kind,x0.a.request.value.n,x0.a.request.value.s⟩,x0.a.request.text⟩⟩ x0.now x0.ia)∧
  let bF:=cq .eql ao v3.1
  let aN:Int→Int→Prop:=fun bw v9=>
   let aN:Int→Int→Prop:=fun v10 v11=>
    let dy:Bool:=(bF||(bif bw==v10 then v9==v11 else false))&&(decide ((List.length v3.2.1:Int)≤(IntKind.wrap .i64 ((List.length x0.k0:Int)+(1:Int)))))
    (dy=true→(
     nD))
   (bF=true→(
    aN (0:Int) (0:Int)))∧(bF=false→(
    let v10:=zd x0.k0 ao
    aN v10.top v10.bits))
  (bF=true→(
   aN (0:Int) (0:Int)))∧(bF=false→(
   let bw:=zd v3.2.1 ao
   aN bw.top bw.bits))))
end Go.aM
