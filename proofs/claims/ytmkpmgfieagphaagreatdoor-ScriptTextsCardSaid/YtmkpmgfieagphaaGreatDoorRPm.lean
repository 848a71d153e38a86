/- Models, printed. Conditions: none. -/
import Derived.Test.YtmkpmgfieagphaaGreatDoorRTEk
open Go Go.aM Go.ed
namespace Go.aM
def hD{α:Type}[Inhabited α]:List α→Nat→α
 |[],_=>default
 |[x],_=>x
 |x::l,n=>bif Nat.beq n 0 then x else hD l (n-1)
noncomputable def fH(x0:Int):ByteArray:=
 Sum.elim (fun r=>r) (fun bj=>
  (bytesOf (List.append bj.2 ([(IntKind.wrap .u8 bj.1)]:List Int))))
 (b4 (fun(aw:Int × (List Int))=>
  show Step (ByteArray) (Int × (List Int))from
  bif(decide (aw.1≥128))then
   .bn ((ba .shr .u64 aw.1 (7:Int)),(List.append aw.2 ([(ba .or .u8 (IntKind.wrap .u8 aw.1) (128:Int))]:List Int)))
  else
   .b8 (aw.1,aw.2)) cn ((ba .xor .u64 (ba .shl .u64 (IntKind.wrap .u64 x0) (1:Int)) (IntKind.wrap .u64 (ba .shr .i64 x0 (63:Int)))),[]):ByteArray⊕(Int × (List Int)))
def n8(x0:Int):Prop:=
 let aV:(Int × (List Int))→Prop:=fun bj=>
  let v9:List Int:=([(IntKind.wrap .u8 bj.1)]:List Int)
  List.length bj.2+List.length v9≤maxLen∧(List.length bj.2+List.length v9)*1≤140737488355328
 ∃(bP:(Int × (List Int))→Prop) (dA:(Int × (List Int))→Nat),bP ((ba .xor .u64 (ba .shl .u64 (IntKind.wrap .u64 x0) (1:Int)) (IntKind.wrap .u64 (ba .shr .i64 x0 (63:Int)))),[])∧dA ((ba .xor .u64 (ba .shl .u64 (IntKind.wrap .u64 x0) (1:Int)) (IntKind.wrap .u64 (ba .shr .i64 x0 (63:Int)))),[])<cn∧∀(d0:Int × (List Int)),bP d0→(
  ((decide (d0.1≥128))=true→(
   let v11:List Int:=([(ba .or .u8 (IntKind.wrap .u8 d0.1) (128:Int))]:List Int)
   (List.length d0.2+List.length v11≤maxLen∧(List.length d0.2+List.length v11)*1≤140737488355328)∧
   bP ((ba .shr .u64 d0.1 (7:Int)),(List.append d0.2 v11))∧dA ((ba .shr .u64 d0.1 (7:Int)),(List.append d0.2 v11))<dA d0))∧((decide (d0.1≥128))=false→(
   aV (d0.1,d0.2))))
noncomputable def hB(x0:ByteArray):ByteArray:=
 (ByteArray.append (fH (ByteArray.size x0:Int)) x0)
def rL(x0:ByteArray):Prop:=
 let v1:Int:=(ByteArray.size x0:Int)
 let v2:=fH v1
 (n8 v1)∧
 ByteArray.size v2+ByteArray.size x0≤9223372036854775807
noncomputable def Et(x0:Int):Bool:=
 ((decide (x0≥(-1099511627776)))&&(decide (x0≤1099511627776)))
noncomputable def eU(x0:bI):Int:=
 let bV:Bool→Int:=fun v1=>
  bif !v1 then
   2
  else
   bif(decide ((ByteArray.size x0.s:Int)>60))then
    3
   else
    bif((a8 .neq x0.s (⟨#[]⟩:ByteArray))&&(x0.kind != 4))then
     4
    else
     0
 let ay:Bool→Int:=fun v1=>
  bif v1 then
   bV (x0.n==0)
  else
   bif(x0.kind==1)then
    bV ((x0.n==0)||(x0.n==1))
   else
    bif(x0.kind==2)then
     bV (Et x0.n)
    else
     bif(x0.kind==3)then
      bV ((decide (x0.n≥0))&&(decide (x0.n≤63)))
     else
      7
 let v1:=x0.kind==0
 bif v1 then
  ay v1
 else
  ay (x0.kind==4)
noncomputable def l0(x0:bI):ByteArray:=
 let ay:Int→Int→ByteArray→ByteArray:=fun v3 v4 v5=>
  let v6:=fH v3
  let bV:ByteArray→ByteArray:=fun aT=>
   aT
  let ay:Bool→ByteArray:=fun aT=>
   bif aT then
    bV (ByteArray.append v6 (fH v4))
   else
    bif(v3==4)then
     bV (ByteArray.append v6 (hB v5))
    else
     bV v6
  let aT:=v3==1
  bif aT then
   ay aT
  else
   let bf:=v3==2
   bif bf then
    ay bf
   else
    ay (v3==3)
 bif((eU x0) != 0)then
  ay (0:Int) (0:Int) (⟨#[]⟩:ByteArray)
 else
  ay x0.kind x0.n x0.s
def EG(x0:bI):Prop:=
 let ay:Int→Int→ByteArray→Prop:=fun v3 v4 v5=>
  let v6:=fH v3
  (n8 v3)∧
  let ay:Bool→Prop:=fun aT=>
   (aT=true→(
    let v9:=fH v4
    (n8 v4)∧
    ByteArray.size v6+ByteArray.size v9≤9223372036854775807))∧(aT=false→(
    ((v3==4)=true→(
     let v10:=hB v5
     (rL v5)∧
     ByteArray.size v6+ByteArray.size v10≤9223372036854775807))))
  let aT:=v3==1
  (aT=true→(
   ay aT))∧(aT=false→(
   let bf:=v3==2
   (bf=true→(
    ay bf))∧(bf=false→(
    ay (v3==3)))))
 (((eU x0) != 0)=true→(
  ay (0:Int) (0:Int) (⟨#[]⟩:ByteArray)))∧(((eU x0) != 0)=false→(
  ay x0.kind x0.n x0.s))
noncomputable def eZ(x0:dI):ByteArray:=
 let bW:=ByteArray.append (ByteArray.append (ByteArray.append (ByteArray.append (ByteArray.append (ByteArray.append (fH x0.kind) (fH x0.cY)) (fH x0.key.dev)) (hB x0.key.bp)) (hB x0.key.attr)) (hB x0.name)) (l0 ⟨x0.value.kind,x0.value.n,x0.value.s⟩)
 (ByteArray.append bW (hB x0.text))
def AV(x0:dI):Prop:=
 let v1:=fH x0.kind
 (n8 x0.kind)∧
 let v2:=fH x0.cY
 (n8 x0.cY)∧
 let v3:=ByteArray.append v1 v2
 (ByteArray.size v1+ByteArray.size v2≤9223372036854775807)∧
 let v4:=fH x0.key.dev
 (n8 x0.key.dev)∧
 let v5:=ByteArray.append v3 v4
 (ByteArray.size v3+ByteArray.size v4≤9223372036854775807)∧
 let v6:=hB x0.key.bp
 (rL x0.key.bp)∧
 let aT:=ByteArray.append v5 v6
 (ByteArray.size v5+ByteArray.size v6≤9223372036854775807)∧
 let bf:=hB x0.key.attr
 (rL x0.key.attr)∧
 let v9:=ByteArray.append aT bf
 (ByteArray.size aT+ByteArray.size bf≤9223372036854775807)∧
 let v10:=hB x0.name
 (rL x0.name)∧
 let v11:=ByteArray.append v9 v10
 (ByteArray.size v9+ByteArray.size v10≤9223372036854775807)∧
 let v12:=l0 ⟨x0.value.kind,x0.value.n,x0.value.s⟩
 (EG ⟨x0.value.kind,x0.value.n,x0.value.s⟩)∧
 let bW:=ByteArray.append v11 v12
 (ByteArray.size v11+ByteArray.size v12≤9223372036854775807)∧
 let dM:=hB x0.text
 (rL x0.text)∧
 ByteArray.size bW+ByteArray.size dM≤9223372036854775807
noncomputable def qo(x0:aK):aK:=
 let bV:Int→Int→Int→ByteArray→ByteArray→Int→Int→ByteArray→Int→ByteArray→ByteArray→ByteArray→Int→Int→Int→ByteArray→ByteArray→ByteArray→Int→Int→ByteArray→ByteArray→aK:=fun v3 v4 v5 v6 aT bf v9 v10 v11 v12 bW dM eK cG c6 c0 cN v20 v21 e1 jE v24=>
  ⟨x0.kind,v3,v4,⟨v5,v6,aT⟩,⟨bf,v9,v10⟩,⟨v11,v12,bW⟩,⟨dM,⟨eK,cG,⟨c6,c0,cN⟩,v20,⟨v21,e1,jE⟩,v24⟩⟩⟩
 let ay:Bool→aK:=fun v1=>
  bif v1 then
   bV (0:Int) (0:Int) x0.key.dev x0.key.bp x0.key.attr x0.value.kind x0.value.n x0.value.s (0:Int) (⟨#[]⟩:ByteArray) (⟨#[]⟩:ByteArray) (⟨#[]⟩:ByteArray) (0:Int) (0:Int) (0:Int) (⟨#[]⟩:ByteArray) (⟨#[]⟩:ByteArray) (⟨#[]⟩:ByteArray) (0:Int) (0:Int) (⟨#[]⟩:ByteArray) (⟨#[]⟩:ByteArray)
  else
   bif(x0.kind==3)then
    bV (0:Int) (0:Int) (0:Int) (⟨#[]⟩:ByteArray) (⟨#[]⟩:ByteArray) (0:Int) (0:Int) (⟨#[]⟩:ByteArray) x0.event.dev x0.event.bp x0.event.name (⟨#[]⟩:ByteArray) (0:Int) (0:Int) (0:Int) (⟨#[]⟩:ByteArray) (⟨#[]⟩:ByteArray) (⟨#[]⟩:ByteArray) (0:Int) (0:Int) (⟨#[]⟩:ByteArray) (⟨#[]⟩:ByteArray)
   else
    bif(x0.kind==12)then
     bV (0:Int) (0:Int) (0:Int) (⟨#[]⟩:ByteArray) (⟨#[]⟩:ByteArray) (0:Int) (0:Int) (⟨#[]⟩:ByteArray) (0:Int) (⟨#[]⟩:ByteArray) (⟨#[]⟩:ByteArray) x0.asked.token x0.asked.request.kind x0.asked.request.cY x0.asked.request.key.dev x0.asked.request.key.bp x0.asked.request.key.attr x0.asked.request.name x0.asked.request.value.kind x0.asked.request.value.n x0.asked.request.value.s x0.asked.request.text
    else
     let ay:Bool→aK:=fun v5=>
      bif v5 then
       bV x0.n x0.m (0:Int) (⟨#[]⟩:ByteArray) (⟨#[]⟩:ByteArray) (0:Int) (0:Int) (⟨#[]⟩:ByteArray) (0:Int) (⟨#[]⟩:ByteArray) (⟨#[]⟩:ByteArray) (⟨#[]⟩:ByteArray) (0:Int) (0:Int) (0:Int) (⟨#[]⟩:ByteArray) (⟨#[]⟩:ByteArray) (⟨#[]⟩:ByteArray) (0:Int) (0:Int) (⟨#[]⟩:ByteArray) (⟨#[]⟩:ByteArray)
      else
       bif(x0.kind==14)then
        bV (0:Int) (0:Int) (0:Int) (⟨#[]⟩:ByteArray) (⟨#[]⟩:ByteArray) (0:Int) (0:Int) (⟨#[]⟩:ByteArray) (0:Int) (⟨#[]⟩:ByteArray) (⟨#[]⟩:ByteArray) (⟨#[]⟩:ByteArray) (0:Int) (0:Int) (0:Int) (⟨#[]⟩:ByteArray) (⟨#[]⟩:ByteArray) (⟨#[]⟩:ByteArray) (0:Int) (0:Int) (⟨#[]⟩:ByteArray) (⟨#[]⟩:ByteArray)
       else
        bV x0.n (0:Int) (0:Int) (⟨#[]⟩:ByteArray) (⟨#[]⟩:ByteArray) (0:Int) (0:Int) (⟨#[]⟩:ByteArray) (0:Int) (⟨#[]⟩:ByteArray) (⟨#[]⟩:ByteArray) (⟨#[]⟩:ByteArray) (0:Int) (0:Int) (0:Int) (⟨#[]⟩:ByteArray) (⟨#[]⟩:ByteArray) (⟨#[]⟩:ByteArray) (0:Int) (0:Int) (⟨#[]⟩:ByteArray) (⟨#[]⟩:ByteArray)
     let v5:=x0.kind==8
     bif v5 then
      ay v5
     else
      ay (x0.kind==9)
 let v1:=x0.kind==2
 bif v1 then
  ay v1
 else
  ay (x0.kind==13)
noncomputable def jK(x0:aK):Int:=
 let ay:Int→Int:=fun v1=>
  bif((((decide (x0.n<v1))||(decide (x0.n>1099511627776)))||(decide (x0.m<0)))||(decide (x0.m>1099511627776)))then
   2
  else
   let bV:Int→Int:=fun v10=>
    bif((decide (v10<1))||(decide (v10>250)))then
     2
    else
     0
   let ay:Bool→Int:=fun v10=>
    bif v10 then
     bV x0.key.dev
    else
     bif(x0.kind==3)then
      bV x0.event.dev
     else
      bV (1:Int)
   let v10:=x0.kind==2
   bif v10 then
    ay v10
   else
    ay (x0.kind==13)
 bif(x0.kind==11)then
  ay ((-1):Int)
 else
  ay (0:Int)
noncomputable def nz(x0:Rd):Rd × Int:=
 bif !x0.made then
  (x0,15)
 else
  (x0,x0.err)
noncomputable def xK(x0:ByteArray):Int × Int × Int:=
 let v1:Int:=(ByteArray.size x0:Int)
 Sum.elim (fun r=>r) (fun bj=>
  (0,0,5))
 (bL (fun(i3:Nat) (aw:Int)=>
  show Step (Int × Int × Int) (Int)from
  let v5:Int:=aC x0 (i3:Int)
  bif(((decide ((i3:Int)>0))&&(v5==0))||(((i3:Int)==9)&&(decide (v5>1))))then
   .ret (0,0,4)
  else
   let c6:Int:=ba .or .u64 aw (ba .shl .u64 (IntKind.wrap .u64 (ba .and .u8 v5 (127:Int))) (IntKind.wrap .i64 ((7:Int)*(i3:Int))))
   bif(decide (v5<128))then
    .ret (c6,(IntKind.wrap .i64 ((i3:Int)+(1:Int))),0)
   else
    .bn c6) 0 (Int.toNat v1) 0:(Int × Int × Int)⊕(Int))
def Ev(x0:ByteArray):Prop:=
 let v1:Int:=(ByteArray.size x0:Int)
 (0≤v1∧v1<(9223372036854775808:Int))∧
 ∃bP:Nat→(Int)→Prop,bP 0 0∧∀(i3:Nat) (d0:Int),i3<Int.toNat v1→bP i3 d0→(
  let v5:Int:=aC x0 (i3:Int)
  ((((decide ((i3:Int)>0))&&(v5==0))||(((i3:Int)==9)&&(decide (v5>1))))=false→(
   let dM:Int:=IntKind.wrap .u64 (ba .and .u8 v5 (127:Int))
   let eK:Int:=IntKind.wrap .i64 ((7:Int)*(i3:Int))
   (0≤eK)∧
   let c6:Int:=ba .or .u64 d0 (ba .shl .u64 dM eK)
   ((decide (v5<128))=false→(
    bP (i3+1) c6)))))
noncomputable def iq(x0:Rd):Rd × Int:=
 let v1:=nz x0
 bif(v1.2 != 0)then
  (v1.1,0)
 else
  let v5:=xK v1.1.rest
  bif(v5.2.2 != 0)then
   (⟨v1.1.rest,v5.2.2,v1.1.made⟩,0)
  else
   (⟨(bk v1.1.rest (some v5.2.1) none),v1.1.err,v1.1.made⟩,(ba .xor .i64 (IntKind.wrap .i64 (ba .shr .u64 v5.1 (1:Int))) (IntKind.wrap .i64 (0-(IntKind.wrap .i64 (ba .and .u64 v5.1 (1:Int)))))))
def qi(x0:Rd):Prop:=
 let v1:=nz x0
 ((v1.2 != 0)=false→(
  let v5:=xK v1.1.rest
  (Ev v1.1.rest)∧
  ((v5.2.2 != 0)=false→(
   er (ByteArray.size v1.1.rest) (some v5.2.1) none))))
noncomputable def xM(x0:Rd)(b2:Int):Rd × Int:=
 let v2:=iq x0
 let v5:=nz v2.1
 bif(v5.2 != 0)then
  (v5.1,0)
 else
  bif(decide (v2.2<0))then
   (⟨v5.1.rest,4,v5.1.made⟩,0)
  else
   bif(decide (v2.2>(b6.den (.mx .i64) b2 (0:Int))))then
    (⟨v5.1.rest,3,v5.1.made⟩,0)
   else
    (v5.1,v2.2)
def Ew(x0:Rd)(b2:Int):Prop:=
 let v2:=iq x0
 qi x0
noncomputable def iG(x0:Rd)(b2:Int):Rd × ByteArray:=
 let v2:=xM x0 b2
 let v5:=nz v2.1
 bif(v5.2 != 0)then
  (v5.1,⟨#[]⟩)
 else
  bif(decide (v2.2>(ByteArray.size v5.1.rest:Int)))then
   (⟨v5.1.rest,5,v5.1.made⟩,⟨#[]⟩)
  else
   (⟨(bk v5.1.rest (some v2.2) none),v5.1.err,v5.1.made⟩,(bk v5.1.rest none (some v2.2)))
def ti(x0:Rd)(b2:Int):Prop:=
 let v2:=xM x0 b2
 (Ew x0 b2)∧
 let v5:=nz v2.1
 ((v5.2 != 0)=false→(
  ((decide (v2.2>(ByteArray.size v5.1.rest:Int)))=false→(
   (er (ByteArray.size v5.1.rest) none (some v2.2))∧
   er (ByteArray.size v5.1.rest) (some v2.2) none))))
noncomputable def AI(x0:Rd)(b2:Int):Rd:=
 let v2:=nz x0
 bif(v2.2==0)then
  ⟨v2.1.rest,b2,v2.1.made⟩
 else
  v2.1
noncomputable def td(x0:Rd):Rd × bI:=
 let v1:=iq x0
 let bV:Int→ByteArray→ByteArray→Int→Bool→Rd × bI:=fun v6 aT bf v9 v10=>
  let ay:ByteArray→Int→Bool→Rd × bI:=fun bW dM eK=>
   let cG:=nz ⟨bW,dM,eK⟩
   bif(cG.2 != 0)then
    (cG.1,⟨0,0,⟨#[]⟩⟩)
   else
    (cG.1,⟨v1.2,v6,aT⟩)
  bif((eU ⟨v1.2,v6,aT⟩) != 0)then
   let bW:=AI ⟨bf,v9,v10⟩ (4:Int)
   ay bW.rest bW.err bW.made
  else
   ay bf v9 v10
 let ay:Bool→Rd × bI:=fun v4=>
  bif v4 then
   let v6:=iq v1.1
   bV v6.2 (⟨#[]⟩:ByteArray) v6.1.rest v6.1.err v6.1.made
  else
   bif(v1.2==4)then
    let aT:=iG v1.1 (60:Int)
    bV (0:Int) aT.2 aT.1.rest aT.1.err aT.1.made
   else
    bV (0:Int) (⟨#[]⟩:ByteArray) v1.1.rest v1.1.err v1.1.made
 let v4:=v1.2==1
 bif v4 then
  ay v4
 else
  let v5:=v1.2==2
  bif v5 then
   ay v5
  else
   ay (v1.2==3)
def AM(x0:Rd):Prop:=
 let v1:=iq x0
 (qi x0)∧
 let ay:Bool→Prop:=fun v4=>
  (v4=true→(
   let v6:=iq v1.1
   qi v1.1))∧(v4=false→(
   ((v1.2==4)=true→(
    let aT:=iG v1.1 (60:Int)
    ti v1.1 (60:Int)))))
 let v4:=v1.2==1
 (v4=true→(
  ay v4))∧(v4=false→(
  let v5:=v1.2==2
  (v5=true→(
   ay v5))∧(v5=false→(
   ay (v1.2==3)))))
noncomputable def Eu(x0:Rd):Rd × Int:=
 let v1:=nz x0
 bif(v1.2 != 0)then
  (v1.1,0)
 else
  (v1.1,(ByteArray.size v1.1.rest:Int))
noncomputable def AJ(x0:Rd):Rd × Int:=
 let v1:=Eu x0
 bif(decide (v1.2>0))then
  (v1.1,23)
 else
  let v5:=nz v1.1
  (v5.1,v5.2)
noncomputable def Ex(x0:dI):Int:=
 bif((decide (x0.kind<1))||(decide (x0.kind>7)))then
  7
 else
  0
noncomputable def Ey(x0:dI):Int:=
 bif((decide (x0.cY<0))||(decide (x0.cY>1099511627776)))then
  2
 else
  0
noncomputable def hC(x0:ByteArray):dI × Int:=
 let v1:=iq ⟨x0,0,true⟩
 let v4:=iq v1.1
 let aT:=iq v4.1
 let v10:=iG aT.1 (24:Int)
 let bW:=iG v10.1 (24:Int)
 let cG:=iG bW.1 (24:Int)
 let cN:=td cG.1
 let e1:=iG cN.1 (20000:Int)
 let ay:Int→dI × Int:=fun c5=>
  bif(c5 != 0)then
   (⟨0,0,⟨0,⟨#[]⟩,⟨#[]⟩⟩,⟨#[]⟩,⟨0,0,⟨#[]⟩⟩,⟨#[]⟩⟩,c5)
  else
   (⟨v1.2,v4.2,⟨aT.2,v10.2,bW.2⟩,cG.2,⟨cN.2.kind,cN.2.n,cN.2.s⟩,e1.2⟩,0)
 let c5:=AJ e1.1
 bif(c5.2 != 0)then
  ay c5.2
 else
  let hG:=Ex ⟨v1.2,v4.2,⟨aT.2,v10.2,bW.2⟩,cG.2,⟨cN.2.kind,cN.2.n,cN.2.s⟩,e1.2⟩
  bif(hG != 0)then
   ay hG
  else
   let v31:=Ey ⟨v1.2,v4.2,⟨aT.2,v10.2,bW.2⟩,cG.2,⟨cN.2.kind,cN.2.n,cN.2.s⟩,e1.2⟩
   bif(v31 != 0)then
    ay v31
   else
    ay (0:Int)
def vk(x0:ByteArray):Prop:=
 let v1:=iq ⟨x0,0,true⟩
 (qi ⟨x0,0,true⟩)∧
 let v4:=iq v1.1
 (qi v1.1)∧
 let aT:=iq v4.1
 (qi v4.1)∧
 let v10:=iG aT.1 (24:Int)
 (ti aT.1 (24:Int))∧
 let bW:=iG v10.1 (24:Int)
 (ti v10.1 (24:Int))∧
 let cG:=iG bW.1 (24:Int)
 (ti bW.1 (24:Int))∧
 let cN:=td cG.1
 (AM cG.1)∧
 let e1:=iG cN.1 (20000:Int)
 ti cN.1 (20000:Int)
noncomputable def FL(x0:Int):Bool:=
 ((decide (x0≥97))&&(decide (x0≤122)))
noncomputable def kt(x0:ByteArray):Bool:=
 bif((decide ((ByteArray.size x0:Int)<1))||(decide ((ByteArray.size x0:Int)>24)))then
  false
 else
  Sum.elim (fun r=>r) (fun bj=>
   true)
  (b4 (fun(aw:Int)=>
   show Step (Bool) (Int)from
   let v9:Int:=b6.den .jn x0 aw
   bif(b6.den .jm x0 aw)then
    bif((!(FL v9))&&(((b6.den .kr x0 aw)==0)||(((v9 != 95)&&(v9 != 45))&&((decide (v9<48))||(decide (v9>57))))))then
     .ret false
    else
     .bn (b6.den .h0 x0 aw)
   else
    .b8 aw) cn 0:Bool⊕(Int))
def vm(x0:ByteArray):Prop:=
 (((decide ((ByteArray.size x0:Int)<1))||(decide ((ByteArray.size x0:Int)>24)))=false→(
  ∃(bP:(Int)→Prop) (dA:(Int)→Nat),bP 0∧dA 0<cn∧∀(d0:Int),bP d0→(
   let v9:Int:=b6.den .jn x0 d0
   ((b6.den .jm x0 d0)=true→(
    (((!(FL v9))&&(((b6.den .kr x0 d0)==0)||(((v9 != 95)&&(v9 != 45))&&((decide (v9<48))||(decide (v9>57))))))=false→(
     bP (b6.den .h0 x0 d0)∧dA (b6.den .h0 x0 d0)<dA d0)))))))
noncomputable def vn(x0:ByteArray):Bool:=
 Sum.elim (fun r=>r) (fun bj=>
  ((decide ((ByteArray.size x0:Int)≥1))&&(decide ((ByteArray.size x0:Int)≤1000))))
 (b4 (fun(aw:Int)=>
  show Step (Bool) (Int)from
  let v4:Int:=b6.den .jn x0 aw
  bif(b6.den .jm x0 aw)then
   bif((decide (v4<33))||(decide (v4>126)))then
    .ret false
   else
    .bn (b6.den .h0 x0 aw)
  else
   .b8 aw) cn 0:Bool⊕(Int))
def EE(x0:ByteArray):Prop:=
 ∃(bP:(Int)→Prop) (dA:(Int)→Nat),bP 0∧dA 0<cn∧∀(d0:Int),bP d0→(
  let v4:Int:=b6.den .jn x0 d0
  ((b6.den .jm x0 d0)=true→(
   (((decide (v4<33))||(decide (v4>126)))=false→(
    bP (b6.den .h0 x0 d0)∧dA (b6.den .h0 x0 d0)<dA d0)))))
noncomputable def pn(x0:aK):Int:=
 let bV:Int:=
  0
 let ay:Bool→Int:=fun v1=>
  bif v1 then
   let v4:=!(kt x0.key.bp)
   let ay:Bool→Int:=fun v5=>
    bif(v4||(!v5))then
     10
    else
     let bf:=eU ⟨x0.value.kind,x0.value.n,x0.value.s⟩
     bif(bf != 0)then
      bf
     else
      bif(x0.value.kind==0)then
       4
      else
       bV
   bif v4 then
    ay false
   else
    ay (kt x0.key.attr)
  else
   bif(x0.kind==3)then
    let v5:=!(kt x0.event.bp)
    let ay:Bool→Int:=fun v6=>
     bif(v5||(!v6))then
      10
     else
      bV
    bif v5 then
     ay false
    else
     ay (kt x0.event.name)
   else
    bif(x0.kind==12)then
     let v5:=eZ ⟨x0.asked.request.kind,x0.asked.request.cY,⟨x0.asked.request.key.dev,x0.asked.request.key.bp,x0.asked.request.key.attr⟩,x0.asked.request.name,⟨x0.asked.request.value.kind,x0.asked.request.value.n,x0.asked.request.value.s⟩,x0.asked.request.text⟩
     let v6:=hC v5
     let v10:=!(bif v6.1.kind==x0.asked.request.kind then bif v6.1.cY==x0.asked.request.cY then bif v6.1.key.dev==x0.asked.request.key.dev then bif bq v6.1.key.bp x0.asked.request.key.bp then bif bq v6.1.key.attr x0.asked.request.key.attr then bif bq v6.1.name x0.asked.request.name then bif v6.1.value.kind==x0.asked.request.value.kind then bif v6.1.value.n==x0.asked.request.value.n then bif bq v6.1.value.s x0.asked.request.value.s then bq v6.1.text x0.asked.request.text else false else false else false else false else false else false else false else false else false)
     let v11:Bool:=(v6.2 != 0)||v10
     let ay:Bool→Int:=fun v12=>
      bif(v11||(!v12))then
       4
      else
       bV
     bif v11 then
      ay false
     else
      ay (vn x0.asked.token)
    else
     bV
 let v1:=x0.kind==2
 bif v1 then
  ay v1
 else
  ay (x0.kind==13)
def Be(x0:aK):Prop:=
 let ay:Bool→Prop:=fun v1=>
  (v1=true→(
   (vm x0.key.bp)∧
   let v4:=!(kt x0.key.bp)
   (v4=false→(
    vm x0.key.attr))))∧(v1=false→(
   ((x0.kind==3)=true→(
    (vm x0.event.bp)∧
    let v5:=!(kt x0.event.bp)
    (v5=false→(
     vm x0.event.name))))∧((x0.kind==3)=false→(
    ((x0.kind==12)=true→(
     let v5:=eZ ⟨x0.asked.request.kind,x0.asked.request.cY,⟨x0.asked.request.key.dev,x0.asked.request.key.bp,x0.asked.request.key.attr⟩,x0.asked.request.name,⟨x0.asked.request.value.kind,x0.asked.request.value.n,x0.asked.request.value.s⟩,x0.asked.request.text⟩
     (AV ⟨x0.asked.request.kind,x0.asked.request.cY,⟨x0.asked.request.key.dev,x0.asked.request.key.bp,x0.asked.request.key.attr⟩,x0.asked.request.name,⟨x0.asked.request.value.kind,x0.asked.request.value.n,x0.asked.request.value.s⟩,x0.asked.request.text⟩)∧
     let v6:=hC v5
     (vk v5)∧
     let v10:=!(bif v6.1.kind==x0.asked.request.kind then bif v6.1.cY==x0.asked.request.cY then bif v6.1.key.dev==x0.asked.request.key.dev then bif bq v6.1.key.bp x0.asked.request.key.bp then bif bq v6.1.key.attr x0.asked.request.key.attr then bif bq v6.1.name x0.asked.request.name then bif v6.1.value.kind==x0.asked.request.value.kind then bif v6.1.value.n==x0.asked.request.value.n then bif bq v6.1.value.s x0.asked.request.value.s then bq v6.1.text x0.asked.request.text else false else false else false else false else false else false else false else false else false)
     let v11:Bool:=(v6.2 != 0)||v10
     (v11=false→(
      EE x0.asked.token))))))))
 let v1:=x0.kind==2
 (v1=true→(
  ay v1))∧(v1=false→(
  ay (x0.kind==13)))
def pt:Nat→Nat→List UInt8
 |0,_=>[]
 |f+1,u=>bif Nat.blt u 10 then[UInt8.ofNat (48+u)]else pt f (u/ 10)++[UInt8.ofNat (48+u%10)]
def fN(n:Int):ByteArray:=⟨(bif decide (n<0)then 45::pt 20 n.natAbs else pt 20 n.toNat).toArray⟩
def N1(n:Int):ByteArray:=fN n
def BM(n:Int):Prop:= -9223372036854775808≤n∧n≤9223372036854775807
noncomputable def fe(x0:Int):ByteArray:=
 (N1 x0)
def r2(x0:Int):Prop:=
 BM x0
noncomputable def gY(x0:Int)(b2:ByteArray)(kz:ByteArray):ByteArray:=
 (ByteArray.append (ByteArray.append (ByteArray.append (ByteArray.append (fe x0) (⟨#[46]⟩:ByteArray)) b2) (⟨#[46]⟩:ByteArray)) kz)
def Bd(x0:Int)(b2:ByteArray)(kz:ByteArray):Prop:=
 let v3:=fe x0
 (r2 x0)∧
 let v4:=ByteArray.append v3 (⟨#[46]⟩:ByteArray)
 (ByteArray.size v3+ByteArray.size (⟨#[46]⟩:ByteArray)≤9223372036854775807)∧
 let v5:=ByteArray.append v4 b2
 (ByteArray.size v4+ByteArray.size b2≤9223372036854775807)∧
 let v6:=ByteArray.append v5 (⟨#[46]⟩:ByteArray)
 (ByteArray.size v5+ByteArray.size (⟨#[46]⟩:ByteArray)≤9223372036854775807)∧
 ByteArray.size v6+ByteArray.size kz≤9223372036854775807
noncomputable def vw(x0:h5):ByteArray:=
 (gY x0.dev x0.bp x0.attr)
def N2(x0:h5):Prop:=
 Bd x0.dev x0.bp x0.attr
noncomputable def lz(x0:Int):ByteArray:=
 bif((x0==34)||(x0==92))then
  (ByteArray.append (⟨#[92]⟩:ByteArray) (bytesOf ([x0]:List Int)))
 else
  bif((decide (x0<32))||(decide (x0>126)))then
   let v11:=ByteArray.append (⟨#[92,120]⟩:ByteArray) (bk (⟨#[48,49,50,51,52,53,54,55,56,57,97,98,99,100,101,102]⟩:ByteArray) (some (ba .shr .u8 x0 (4:Int))) (some (IntKind.wrap .u8 ((ba .shr .u8 x0 (4:Int))+(1:Int)))))
   let cG:=ByteArray.append v11 (bk (⟨#[48,49,50,51,52,53,54,55,56,57,97,98,99,100,101,102]⟩:ByteArray) (some (ba .and .u8 x0 (15:Int))) (some (IntKind.wrap .u8 ((ba .and .u8 x0 (15:Int))+(1:Int)))))
   cG
  else
   (bytesOf ([x0]:List Int))
def tt(x0:Int):Prop:=
 (((x0==34)||(x0==92))=true→(
  let v5:=bytesOf ([x0]:List Int)
  ByteArray.size (⟨#[92]⟩:ByteArray)+ByteArray.size v5≤9223372036854775807))∧(((x0==34)||(x0==92))=false→(
  (((decide (x0<32))||(decide (x0>126)))=true→(
   let aT:Int:=ba .shr .u8 x0 (4:Int)
   let v9:Int:=IntKind.wrap .u8 ((ba .shr .u8 x0 (4:Int))+(1:Int))
   let v10:=bk (⟨#[48,49,50,51,52,53,54,55,56,57,97,98,99,100,101,102]⟩:ByteArray) (some aT) (some v9)
   (er (ByteArray.size (⟨#[48,49,50,51,52,53,54,55,56,57,97,98,99,100,101,102]⟩:ByteArray)) (some aT) (some v9))∧
   let v11:=ByteArray.append (⟨#[92,120]⟩:ByteArray) v10
   (ByteArray.size (⟨#[92,120]⟩:ByteArray)+ByteArray.size v10≤9223372036854775807)∧
   let v12:Int:=ba .and .u8 x0 (15:Int)
   let dM:Int:=IntKind.wrap .u8 ((ba .and .u8 x0 (15:Int))+(1:Int))
   let eK:=bk (⟨#[48,49,50,51,52,53,54,55,56,57,97,98,99,100,101,102]⟩:ByteArray) (some v12) (some dM)
   (er (ByteArray.size (⟨#[48,49,50,51,52,53,54,55,56,57,97,98,99,100,101,102]⟩:ByteArray)) (some v12) (some dM))∧
   ByteArray.size v11+ByteArray.size eK≤9223372036854775807))))
noncomputable def AX(x0:ByteArray):ByteArray:=
 let v2:Int:=(ByteArray.size x0:Int)
 Sum.elim (fun r=>r) (fun bj=>
  (bytesOf (List.append bj (db.den .eu (⟨#[34]⟩:ByteArray)))))
 (bL (fun(i4:Nat) (aw:(List Int))=>
  show Step (ByteArray) ((List Int))from
  let aT:=lz (aC x0 (i4:Int))
  .bn (List.append aw (db.den .eu aT))) 0 (Int.toNat v2) (db.den .eu (⟨#[34]⟩:ByteArray)):ByteArray⊕((List Int)))
def EM(x0:ByteArray):Prop:=
 let v1:List Int:=db.den .eu (⟨#[34]⟩:ByteArray)
 (List.length ([]:List Int)+List.length v1≤maxLen∧(List.length ([]:List Int)+List.length v1)*1≤140737488355328)∧
 let v2:Int:=(ByteArray.size x0:Int)
 (0≤v2∧v2<(9223372036854775808:Int))∧
 let aV:(List Int)→Prop:=fun bj=>
  let v4:List Int:=db.den .eu (⟨#[34]⟩:ByteArray)
  List.length bj+List.length v4≤maxLen∧(List.length bj+List.length v4)*1≤140737488355328
 ∃bP:Nat→((List Int))→Prop,bP 0 v1∧(∀(i4:Nat) (d0:(List Int)),i4<Int.toNat v2→bP i4 d0→(
  let v6:Int:=aC x0 (i4:Int)
  let aT:=lz v6
  (tt v6)∧
  let bf:List Int:=db.den .eu aT
  (List.length d0+List.length bf≤maxLen∧(List.length d0+List.length bf)*1≤140737488355328)∧
  bP (i4+1) (List.append d0 bf)))∧∀bj,bP (Int.toNat v2) bj→aV bj
noncomputable def fT(x0:bI):ByteArray:=
 bif((eU x0) != 0)then
  ⟨#[]⟩
 else
  bif(x0.kind==1)then
   bif(x0.n==1)then
    ⟨#[116,114,117,101]⟩
   else
    ⟨#[102,97,108,115,101]⟩
  else
   bif(x0.kind==2)then
    (fe x0.n)
   else
    bif(x0.kind==3)then
     (ByteArray.append (⟨#[35]⟩:ByteArray) (fe x0.n))
    else
     bif(x0.kind==4)then
      (AX x0.s)
     else
      ⟨#[110,111,110,101]⟩
def A0(x0:bI):Prop:=
 (((eU x0) != 0)=false→(
  ((x0.kind==1)=false→(
   ((x0.kind==2)=true→(
    r2 x0.n))∧((x0.kind==2)=false→(
    ((x0.kind==3)=true→(
     let v6:=fe x0.n
     (r2 x0.n)∧
     ByteArray.size (⟨#[35]⟩:ByteArray)+ByteArray.size v6≤9223372036854775807))∧((x0.kind==3)=false→(
     ((x0.kind==4)=true→(
      EM x0.s))))))))))
noncomputable def tv(x0:ByteArray):ByteArray:=
 let v1:Int:=aC (⟨#[48,49,50,51,52,53,54,55,56,57,97,98,99,100,101,102]⟩:ByteArray) (0:Int)
 let v2:Int:=aC (⟨#[48,49,50,51,52,53,54,55,56,57,97,98,99,100,101,102]⟩:ByteArray) (1:Int)
 let v3:Int:=aC (⟨#[48,49,50,51,52,53,54,55,56,57,97,98,99,100,101,102]⟩:ByteArray) (2:Int)
 let v4:Int:=aC (⟨#[48,49,50,51,52,53,54,55,56,57,97,98,99,100,101,102]⟩:ByteArray) (3:Int)
 let v5:Int:=aC (⟨#[48,49,50,51,52,53,54,55,56,57,97,98,99,100,101,102]⟩:ByteArray) (4:Int)
 let v6:Int:=aC (⟨#[48,49,50,51,52,53,54,55,56,57,97,98,99,100,101,102]⟩:ByteArray) (5:Int)
 let aT:Int:=aC (⟨#[48,49,50,51,52,53,54,55,56,57,97,98,99,100,101,102]⟩:ByteArray) (6:Int)
 let bf:Int:=aC (⟨#[48,49,50,51,52,53,54,55,56,57,97,98,99,100,101,102]⟩:ByteArray) (7:Int)
 let v9:Int:=aC (⟨#[48,49,50,51,52,53,54,55,56,57,97,98,99,100,101,102]⟩:ByteArray) (8:Int)
 let v10:Int:=aC (⟨#[48,49,50,51,52,53,54,55,56,57,97,98,99,100,101,102]⟩:ByteArray) (9:Int)
 let v11:Int:=aC (⟨#[48,49,50,51,52,53,54,55,56,57,97,98,99,100,101,102]⟩:ByteArray) (10:Int)
 let v12:Int:=aC (⟨#[48,49,50,51,52,53,54,55,56,57,97,98,99,100,101,102]⟩:ByteArray) (11:Int)
 let bW:Int:=aC (⟨#[48,49,50,51,52,53,54,55,56,57,97,98,99,100,101,102]⟩:ByteArray) (12:Int)
 let dM:Int:=aC (⟨#[48,49,50,51,52,53,54,55,56,57,97,98,99,100,101,102]⟩:ByteArray) (13:Int)
 let eK:Int:=aC (⟨#[48,49,50,51,52,53,54,55,56,57,97,98,99,100,101,102]⟩:ByteArray) (14:Int)
 let cG:Int:=aC (⟨#[48,49,50,51,52,53,54,55,56,57,97,98,99,100,101,102]⟩:ByteArray) (15:Int)
 let c6:Int:=(ByteArray.size x0:Int)
 Sum.elim (fun r=>r) (fun bj=>
  (bytesOf bj))
 (bL (fun(i21:Nat) (aw:(List Int))=>
  show Step (ByteArray) ((List Int))from
  let hG:List Int:=([(hD ([v1,v2,v3,v4,v5,v6,aT,bf,v9,v10,v11,v12,bW,dM,eK,cG]:List Int) (Int.toNat (ba .shr .u8 (aC x0 (i21:Int)) (4:Int)))),(hD ([v1,v2,v3,v4,v5,v6,aT,bf,v9,v10,v11,v12,bW,dM,eK,cG]:List Int) (Int.toNat (ba .and .u8 (aC x0 (i21:Int)) (15:Int))))]:List Int)
  .bn (List.append aw hG)) 0 (Int.toNat c6) (List.replicate (Int.toNat (0:Int)) (dJ .u8)):ByteArray⊕((List Int)))
def ET(x0:ByteArray):Prop:=
 let v1:Int:=aC (⟨#[48,49,50,51,52,53,54,55,56,57,97,98,99,100,101,102]⟩:ByteArray) (0:Int)
 (0≤(0:Int)∧(0:Int)<(ByteArray.size (⟨#[48,49,50,51,52,53,54,55,56,57,97,98,99,100,101,102]⟩:ByteArray):Int))∧
 let v2:Int:=aC (⟨#[48,49,50,51,52,53,54,55,56,57,97,98,99,100,101,102]⟩:ByteArray) (1:Int)
 (0≤(1:Int)∧(1:Int)<(ByteArray.size (⟨#[48,49,50,51,52,53,54,55,56,57,97,98,99,100,101,102]⟩:ByteArray):Int))∧
 let v3:Int:=aC (⟨#[48,49,50,51,52,53,54,55,56,57,97,98,99,100,101,102]⟩:ByteArray) (2:Int)
 (0≤(2:Int)∧(2:Int)<(ByteArray.size (⟨#[48,49,50,51,52,53,54,55,56,57,97,98,99,100,101,102]⟩:ByteArray):Int))∧
 let v4:Int:=aC (⟨#[48,49,50,51,52,53,54,55,56,57,97,98,99,100,101,102]⟩:ByteArray) (3:Int)
 (0≤(3:Int)∧(3:Int)<(ByteArray.size (⟨#[48,49,50,51,52,53,54,55,56,57,97,98,99,100,101,102]⟩:ByteArray):Int))∧
 let v5:Int:=aC (⟨#[48,49,50,51,52,53,54,55,56,57,97,98,99,100,101,102]⟩:ByteArray) (4:Int)
 (0≤(4:Int)∧(4:Int)<(ByteArray.size (⟨#[48,49,50,51,52,53,54,55,56,57,97,98,99,100,101,102]⟩:ByteArray):Int))∧
 let v6:Int:=aC (⟨#[48,49,50,51,52,53,54,55,56,57,97,98,99,100,101,102]⟩:ByteArray) (5:Int)
 (0≤(5:Int)∧(5:Int)<(ByteArray.size (⟨#[48,49,50,51,52,53,54,55,56,57,97,98,99,100,101,102]⟩:ByteArray):Int))∧
 let aT:Int:=aC (⟨#[48,49,50,51,52,53,54,55,56,57,97,98,99,100,101,102]⟩:ByteArray) (6:Int)
 (0≤(6:Int)∧(6:Int)<(ByteArray.size (⟨#[48,49,50,51,52,53,54,55,56,57,97,98,99,100,101,102]⟩:ByteArray):Int))∧
 let bf:Int:=aC (⟨#[48,49,50,51,52,53,54,55,56,57,97,98,99,100,101,102]⟩:ByteArray) (7:Int)
 (0≤(7:Int)∧(7:Int)<(ByteArray.size (⟨#[48,49,50,51,52,53,54,55,56,57,97,98,99,100,101,102]⟩:ByteArray):Int))∧
 let v9:Int:=aC (⟨#[48,49,50,51,52,53,54,55,56,57,97,98,99,100,101,102]⟩:ByteArray) (8:Int)
 (0≤(8:Int)∧(8:Int)<(ByteArray.size (⟨#[48,49,50,51,52,53,54,55,56,57,97,98,99,100,101,102]⟩:ByteArray):Int))∧
 let v10:Int:=aC (⟨#[48,49,50,51,52,53,54,55,56,57,97,98,99,100,101,102]⟩:ByteArray) (9:Int)
 (0≤(9:Int)∧(9:Int)<(ByteArray.size (⟨#[48,49,50,51,52,53,54,55,56,57,97,98,99,100,101,102]⟩:ByteArray):Int))∧
 let v11:Int:=aC (⟨#[48,49,50,51,52,53,54,55,56,57,97,98,99,100,101,102]⟩:ByteArray) (10:Int)
 (0≤(10:Int)∧(10:Int)<(ByteArray.size (⟨#[48,49,50,51,52,53,54,55,56,57,97,98,99,100,101,102]⟩:ByteArray):Int))∧
 let v12:Int:=aC (⟨#[48,49,50,51,52,53,54,55,56,57,97,98,99,100,101,102]⟩:ByteArray) (11:Int)
 (0≤(11:Int)∧(11:Int)<(ByteArray.size (⟨#[48,49,50,51,52,53,54,55,56,57,97,98,99,100,101,102]⟩:ByteArray):Int))∧
 let bW:Int:=aC (⟨#[48,49,50,51,52,53,54,55,56,57,97,98,99,100,101,102]⟩:ByteArray) (12:Int)
 (0≤(12:Int)∧(12:Int)<(ByteArray.size (⟨#[48,49,50,51,52,53,54,55,56,57,97,98,99,100,101,102]⟩:ByteArray):Int))∧
 let dM:Int:=aC (⟨#[48,49,50,51,52,53,54,55,56,57,97,98,99,100,101,102]⟩:ByteArray) (13:Int)
 (0≤(13:Int)∧(13:Int)<(ByteArray.size (⟨#[48,49,50,51,52,53,54,55,56,57,97,98,99,100,101,102]⟩:ByteArray):Int))∧
 let eK:Int:=aC (⟨#[48,49,50,51,52,53,54,55,56,57,97,98,99,100,101,102]⟩:ByteArray) (14:Int)
 (0≤(14:Int)∧(14:Int)<(ByteArray.size (⟨#[48,49,50,51,52,53,54,55,56,57,97,98,99,100,101,102]⟩:ByteArray):Int))∧
 let cG:Int:=aC (⟨#[48,49,50,51,52,53,54,55,56,57,97,98,99,100,101,102]⟩:ByteArray) (15:Int)
 (0≤(15:Int)∧(15:Int)<(ByteArray.size (⟨#[48,49,50,51,52,53,54,55,56,57,97,98,99,100,101,102]⟩:ByteArray):Int))∧
 let c6:Int:=(ByteArray.size x0:Int)
 (0≤(0:Int)∧(0:Int)≤(IntKind.wrap .i64 ((2:Int)*c6))∧(IntKind.wrap .i64 ((2:Int)*c6))≤(maxLen:Int)∧(1:Int)*(IntKind.wrap .i64 ((2:Int)*c6))≤281474976710656)∧
 (0≤c6∧c6<(9223372036854775808:Int))∧
 ∃bP:Nat→((List Int))→Prop,bP 0 (List.replicate (Int.toNat (0:Int)) (dJ .u8))∧∀(i21:Nat) (d0:(List Int)),i21<Int.toNat c6→bP i21 d0→(
  let v24:Int:=ba .shr .u8 (aC x0 (i21:Int)) (4:Int)
  (0≤v24∧v24<(16:Int))∧
  (0≤v24∧v24<(16:Int))∧
  let gD:Int:=ba .and .u8 (aC x0 (i21:Int)) (15:Int)
  (0≤gD∧gD<(16:Int))∧
  (0≤gD∧gD<(16:Int))∧
  let hG:List Int:=([(hD ([v1,v2,v3,v4,v5,v6,aT,bf,v9,v10,v11,v12,bW,dM,eK,cG]:List Int) (Int.toNat v24)),(hD ([v1,v2,v3,v4,v5,v6,aT,bf,v9,v10,v11,v12,bW,dM,eK,cG]:List Int) (Int.toNat gD))]:List Int)
  (List.length d0+List.length hG≤maxLen∧(List.length d0+List.length hG)*1≤140737488355328)∧
  bP (i21+1) (List.append d0 hG))
noncomputable def m13(x0:aK):ByteArray × Int:=
 bif((decide (x0.kind<1))||(decide (x0.kind>16)))then
  (⟨#[]⟩,7)
 else
  let v4:=qo x0
  let v5:=!(bif v4.kind==x0.kind then bif v4.n==x0.n then bif v4.m==x0.m then bif v4.key.dev==x0.key.dev then bif bq v4.key.bp x0.key.bp then bif bq v4.key.attr x0.key.attr then bif v4.value.kind==x0.value.kind then bif v4.value.n==x0.value.n then bif bq v4.value.s x0.value.s then bif v4.event.dev==x0.event.dev then bif bq v4.event.bp x0.event.bp then bif bq v4.event.name x0.event.name then bif bq v4.asked.token x0.asked.token then bif v4.asked.request.kind==x0.asked.request.kind then bif v4.asked.request.cY==x0.asked.request.cY then bif v4.asked.request.key.dev==x0.asked.request.key.dev then bif bq v4.asked.request.key.bp x0.asked.request.key.bp then bif bq v4.asked.request.key.attr x0.asked.request.key.attr then bif bq v4.asked.request.name x0.asked.request.name then bif v4.asked.request.value.kind==x0.asked.request.value.kind then bif v4.asked.request.value.n==x0.asked.request.value.n then bif bq v4.asked.request.value.s x0.asked.request.value.s then bq v4.asked.request.text x0.asked.request.text else false else false else false else false else false else false else false else false else false else false else false else false else false else false else false else false else false else false else false else false else false else false)
  bif v5 then
   (⟨#[]⟩,1)
  else
   let v6:=jK x0
   bif(v6 != 0)then
    (⟨#[]⟩,v6)
   else
    let bf:=pn x0
    bif(bf != 0)then
     (⟨#[]⟩,bf)
    else
     let v11:ByteArray:=hD ([⟨#[116,105,99,107]⟩,⟨#[115,101,110,115,101]⟩,⟨#[101,118,101,110,116]⟩,⟨#[110,111,105,115,101]⟩,⟨#[113,117,105,101,116]⟩,⟨#[111,102,102]⟩,⟨#[111,110]⟩,⟨#[99,117,116]⟩,⟨#[106,111,105,110]⟩,⟨#[99,114,97,115,104]⟩,⟨#[99,108,111,99,107]⟩,⟨#[97,115,107]⟩,⟨#[101,110,101,114,103,121]⟩,⟨#[109,111,118,101]⟩,⟨#[108,111,115,101]⟩,⟨#[116,119,105,99,101]⟩]:List ByteArray) (Int.toNat (IntKind.wrap .i64 (x0.kind-(1:Int))))
     let ay:Bool→ByteArray × Int:=fun v12=>
      bif v12 then
       let cN:=ByteArray.append (ByteArray.append (ByteArray.append (ByteArray.append v11 (⟨#[32]⟩:ByteArray)) (vw ⟨x0.key.dev,x0.key.bp,x0.key.attr⟩)) (⟨#[32]⟩:ByteArray)) (fT ⟨x0.value.kind,x0.value.n,x0.value.s⟩)
       (cN,0)
      else
       bif(x0.kind==3)then
        ((ByteArray.append (ByteArray.append v11 (⟨#[32]⟩:ByteArray)) (gY x0.event.dev x0.event.bp x0.event.name)),0)
       else
        bif(x0.kind==12)then
         let cN:=eZ ⟨x0.asked.request.kind,x0.asked.request.cY,⟨x0.asked.request.key.dev,x0.asked.request.key.bp,x0.asked.request.key.attr⟩,x0.asked.request.name,⟨x0.asked.request.value.kind,x0.asked.request.value.n,x0.asked.request.value.s⟩,x0.asked.request.text⟩
         ((ByteArray.append (ByteArray.append (ByteArray.append (ByteArray.append v11 (⟨#[32]⟩:ByteArray)) x0.asked.token) (⟨#[32]⟩:ByteArray)) (tv cN)),0)
        else
         let ay:Bool→ByteArray × Int:=fun cG=>
          bif cG then
           ((ByteArray.append (ByteArray.append (ByteArray.append (ByteArray.append v11 (⟨#[32]⟩:ByteArray)) (fe x0.n)) (⟨#[32]⟩:ByteArray)) (fe x0.m)),0)
          else
           bif(x0.kind==14)then
            (v11,0)
           else
            ((ByteArray.append (ByteArray.append v11 (⟨#[32]⟩:ByteArray)) (fe x0.n)),0)
         let cG:=x0.kind==8
         bif cG then
          ay cG
         else
          ay (x0.kind==9)
     let v12:=x0.kind==2
     bif v12 then
      ay v12
     else
      ay (x0.kind==13)
def vu(x0:aK):Prop:=
 (((decide (x0.kind<1))||(decide (x0.kind>16)))=false→(
  let v4:=qo x0
  let v5:=!(bif v4.kind==x0.kind then bif v4.n==x0.n then bif v4.m==x0.m then bif v4.key.dev==x0.key.dev then bif bq v4.key.bp x0.key.bp then bif bq v4.key.attr x0.key.attr then bif v4.value.kind==x0.value.kind then bif v4.value.n==x0.value.n then bif bq v4.value.s x0.value.s then bif v4.event.dev==x0.event.dev then bif bq v4.event.bp x0.event.bp then bif bq v4.event.name x0.event.name then bif bq v4.asked.token x0.asked.token then bif v4.asked.request.kind==x0.asked.request.kind then bif v4.asked.request.cY==x0.asked.request.cY then bif v4.asked.request.key.dev==x0.asked.request.key.dev then bif bq v4.asked.request.key.bp x0.asked.request.key.bp then bif bq v4.asked.request.key.attr x0.asked.request.key.attr then bif bq v4.asked.request.name x0.asked.request.name then bif v4.asked.request.value.kind==x0.asked.request.value.kind then bif v4.asked.request.value.n==x0.asked.request.value.n then bif bq v4.asked.request.value.s x0.asked.request.value.s then bq v4.asked.request.text x0.asked.request.text else false else false else false else false else false else false else false else false else false else false else false else false else false else false else false else false else false else false else false else false else false else false)
  (v5=false→(
   let v6:=jK x0
   ((v6 != 0)=false→(
    let bf:=pn x0
    (Be x0)∧
    ((bf != 0)=false→(
     let v10:Int:=IntKind.wrap .i64 (x0.kind-(1:Int))
     let v11:ByteArray:=hD ([⟨#[116,105,99,107]⟩,⟨#[115,101,110,115,101]⟩,⟨#[101,118,101,110,116]⟩,⟨#[110,111,105,115,101]⟩,⟨#[113,117,105,101,116]⟩,⟨#[111,102,102]⟩,⟨#[111,110]⟩,⟨#[99,117,116]⟩,⟨#[106,111,105,110]⟩,⟨#[99,114,97,115,104]⟩,⟨#[99,108,111,99,107]⟩,⟨#[97,115,107]⟩,⟨#[101,110,101,114,103,121]⟩,⟨#[109,111,118,101]⟩,⟨#[108,111,115,101]⟩,⟨#[116,119,105,99,101]⟩]:List ByteArray) (Int.toNat v10)
     (0≤v10∧v10<(16:Int))∧
     let ay:Bool→Prop:=fun v12=>
      (v12=true→(
       let dM:=ByteArray.append v11 (⟨#[32]⟩:ByteArray)
       (ByteArray.size v11+ByteArray.size (⟨#[32]⟩:ByteArray)≤9223372036854775807)∧
       let eK:=vw ⟨x0.key.dev,x0.key.bp,x0.key.attr⟩
       (N2 ⟨x0.key.dev,x0.key.bp,x0.key.attr⟩)∧
       let cG:=ByteArray.append dM eK
       (ByteArray.size dM+ByteArray.size eK≤9223372036854775807)∧
       let c6:=ByteArray.append cG (⟨#[32]⟩:ByteArray)
       (ByteArray.size cG+ByteArray.size (⟨#[32]⟩:ByteArray)≤9223372036854775807)∧
       let c0:=fT ⟨x0.value.kind,x0.value.n,x0.value.s⟩
       (A0 ⟨x0.value.kind,x0.value.n,x0.value.s⟩)∧
       ByteArray.size c6+ByteArray.size c0≤9223372036854775807))∧(v12=false→(
       ((x0.kind==3)=true→(
        let eK:=ByteArray.append v11 (⟨#[32]⟩:ByteArray)
        (ByteArray.size v11+ByteArray.size (⟨#[32]⟩:ByteArray)≤9223372036854775807)∧
        let cG:=gY x0.event.dev x0.event.bp x0.event.name
        (Bd x0.event.dev x0.event.bp x0.event.name)∧
        ByteArray.size eK+ByteArray.size cG≤9223372036854775807))∧((x0.kind==3)=false→(
        ((x0.kind==12)=true→(
         let cG:=ByteArray.append v11 (⟨#[32]⟩:ByteArray)
         (ByteArray.size v11+ByteArray.size (⟨#[32]⟩:ByteArray)≤9223372036854775807)∧
         let c6:=ByteArray.append cG x0.asked.token
         (ByteArray.size cG+ByteArray.size x0.asked.token≤9223372036854775807)∧
         let c0:=ByteArray.append c6 (⟨#[32]⟩:ByteArray)
         (ByteArray.size c6+ByteArray.size (⟨#[32]⟩:ByteArray)≤9223372036854775807)∧
         let cN:=eZ ⟨x0.asked.request.kind,x0.asked.request.cY,⟨x0.asked.request.key.dev,x0.asked.request.key.bp,x0.asked.request.key.attr⟩,x0.asked.request.name,⟨x0.asked.request.value.kind,x0.asked.request.value.n,x0.asked.request.value.s⟩,x0.asked.request.text⟩
         (AV ⟨x0.asked.request.kind,x0.asked.request.cY,⟨x0.asked.request.key.dev,x0.asked.request.key.bp,x0.asked.request.key.attr⟩,x0.asked.request.name,⟨x0.asked.request.value.kind,x0.asked.request.value.n,x0.asked.request.value.s⟩,x0.asked.request.text⟩)∧
         let v20:=tv cN
         (ET cN)∧
         ByteArray.size c0+ByteArray.size v20≤9223372036854775807))∧((x0.kind==12)=false→(
         let ay:Bool→Prop:=fun cG=>
          (cG=true→(
           let c0:=ByteArray.append v11 (⟨#[32]⟩:ByteArray)
           (ByteArray.size v11+ByteArray.size (⟨#[32]⟩:ByteArray)≤9223372036854775807)∧
           let cN:=fe x0.n
           (r2 x0.n)∧
           let v20:=ByteArray.append c0 cN
           (ByteArray.size c0+ByteArray.size cN≤9223372036854775807)∧
           let v21:=ByteArray.append v20 (⟨#[32]⟩:ByteArray)
           (ByteArray.size v20+ByteArray.size (⟨#[32]⟩:ByteArray)≤9223372036854775807)∧
           let e1:=fe x0.m
           (r2 x0.m)∧
           ByteArray.size v21+ByteArray.size e1≤9223372036854775807))∧(cG=false→(
           ((x0.kind==14)=false→(
            let cN:=ByteArray.append v11 (⟨#[32]⟩:ByteArray)
            (ByteArray.size v11+ByteArray.size (⟨#[32]⟩:ByteArray)≤9223372036854775807)∧
            let v20:=fe x0.n
            (r2 x0.n)∧
            ByteArray.size cN+ByteArray.size v20≤9223372036854775807))))
         let cG:=x0.kind==8
         (cG=true→(
          ay cG))∧(cG=false→(
          ay (x0.kind==9)))))))))
     let v12:=x0.kind==2
     (v12=true→(
      ay v12))∧(v12=false→(
      ay (x0.kind==13)))))))))))
noncomputable def mF(x0:ch):ch × Int:=
 bif !x0.made then
  (x0,15)
 else
  (x0,x0.bad)
noncomputable def ir(x0:ch):ch × Int:=
 let v1:=mF x0
 bif(v1.2 != 0)then
  (v1.1,0)
 else
  Sum.elim (fun r=>r) (fun bj=>
   (v1.1,0))
  (bL (fun(i6:Nat) (aw:Int)=>
   show Step (ch × Int) (Int)from
   bif(decide ((IntKind.wrap .i64 (v1.1.at_+(i6:Int)))≥(ByteArray.size v1.1.s:Int)))then
    .ret (⟨v1.1.s,v1.1.at_,5,v1.1.made⟩,0)
   else
    let v12:Int:=aC v1.1.s (IntKind.wrap .i64 (v1.1.at_+(i6:Int)))
    bif(((decide ((i6:Int)>0))&&(v12==0))||(((i6:Int)==9)&&(decide (v12>1))))then
     .ret (⟨v1.1.s,v1.1.at_,4,v1.1.made⟩,0)
    else
     let v24:Int:=ba .or .u64 aw (ba .shl .u64 (IntKind.wrap .u64 (ba .rem .u8 v12 (128:Int))) (IntKind.wrap .i64 ((7:Int)*(i6:Int))))
     bif(decide (v12<128))then
      let hG:Int:=IntKind.wrap .i64 (ba .shr .u64 v24 (1:Int))
      let ay:Int→Step (ch × Int) (Int):=fun v30=>
       .ret (⟨v1.1.s,(IntKind.wrap .i64 ((IntKind.wrap .i64 (v1.1.at_+(i6:Int)))+(1:Int))),v1.1.bad,v1.1.made⟩,v30)
      bif((ba .rem .u64 v24 (2:Int))==1)then
       ay (IntKind.wrap .i64 (((-1):Int)-hG))
      else
       ay hG
     else
      .bn v24) 0 (Int.toNat (10:Int)) 0:(ch × Int)⊕(Int))
def qj(x0:ch):Prop:=
 let v1:=mF x0
 ((v1.2 != 0)=false→(
  ∃bP:Nat→(Int)→Prop,bP 0 0∧∀(i6:Nat) (d0:Int),i6<Int.toNat (10:Int)→bP i6 d0→(
   ((decide ((IntKind.wrap .i64 (v1.1.at_+(i6:Int)))≥(ByteArray.size v1.1.s:Int)))=false→(
    let v11:Int:=IntKind.wrap .i64 (v1.1.at_+(i6:Int))
    let v12:Int:=aC v1.1.s v11
    (0≤v11∧v11<(ByteArray.size v1.1.s:Int))∧
    ((((decide ((i6:Int)>0))&&(v12==0))||(((i6:Int)==9)&&(decide (v12>1))))=false→(
     let v21:Int:=IntKind.wrap .u64 (ba .rem .u8 v12 (128:Int))
     let e1:Int:=IntKind.wrap .i64 ((7:Int)*(i6:Int))
     (0≤e1)∧
     let v24:Int:=ba .or .u64 d0 (ba .shl .u64 v21 e1)
     ((decide (v12<128))=false→(
      bP (i6+1) v24)))))))))
noncomputable def xN(x0:ch)(b2:Int):ch × Int:=
 let v2:=ir x0
 let ay:Int→ch × Int:=fun v5=>
  let aT:=mF v2.1
  bif(aT.2 != 0)then
   (aT.1,0)
  else
   bif(decide (v2.2<0))then
    (⟨aT.1.s,aT.1.at_,4,aT.1.made⟩,0)
   else
    bif(decide (v2.2>v5))then
     (⟨aT.1.s,aT.1.at_,3,aT.1.made⟩,0)
    else
     (aT.1,v2.2)
 bif(decide (b2<0))then
  ay (0:Int)
 else
  ay b2
def EB(x0:ch)(b2:Int):Prop:=
 let v2:=ir x0
 qj x0
noncomputable def iH(x0:ch)(b2:Int):ch × ByteArray:=
 let v2:=xN x0 b2
 let v5:=mF v2.1
 bif(v5.2 != 0)then
  (v5.1,⟨#[]⟩)
 else
  bif(decide (v2.2>(IntKind.wrap .i64 ((ByteArray.size v5.1.s:Int)-v5.1.at_))))then
   (⟨v5.1.s,v5.1.at_,5,v5.1.made⟩,⟨#[]⟩)
  else
   (⟨v5.1.s,(IntKind.wrap .i64 (v5.1.at_+v2.2)),v5.1.bad,v5.1.made⟩,(bk v5.1.s (some v5.1.at_) (some (IntKind.wrap .i64 (v5.1.at_+v2.2)))))
def tm(x0:ch)(b2:Int):Prop:=
 let v2:=xN x0 b2
 (EB x0 b2)∧
 let v5:=mF v2.1
 ((v5.2 != 0)=false→(
  ((decide (v2.2>(IntKind.wrap .i64 ((ByteArray.size v5.1.s:Int)-v5.1.at_))))=false→(
   let v12:Int:=IntKind.wrap .i64 (v5.1.at_+v2.2)
   er (ByteArray.size v5.1.s) (some v5.1.at_) (some v12)))))
noncomputable def lZ(x0:bI):Int:=
 let bV:Int→Int→Int:=fun v1 v2=>
  bif((decide (x0.n<v1))||(decide (x0.n>v2)))then
   2
  else
   bif(decide ((ByteArray.size x0.s:Int)>60))then
    3
   else
    bif((a8 .neq x0.s (⟨#[]⟩:ByteArray))&&(x0.kind != 4))then
     4
    else
     0
 let ay:Bool→Int:=fun v1=>
  bif v1 then
   bV (0:Int) (0:Int)
  else
   bif(x0.kind==1)then
    bV (0:Int) (1:Int)
   else
    bif(x0.kind==2)then
     bV ((-1099511627776):Int) (1099511627776:Int)
    else
     bif(x0.kind==3)then
      bV (0:Int) (63:Int)
     else
      7
 let v1:=x0.kind==0
 bif v1 then
  ay v1
 else
  ay (x0.kind==4)
noncomputable def AK(x0:ch)(b2:Int):ch:=
 let v2:=mF x0
 bif(v2.2==0)then
  ⟨v2.1.s,v2.1.at_,b2,v2.1.made⟩
 else
  v2.1
noncomputable def tf(x0:ch):ch × bI:=
 let v1:=ir x0
 let ay:ByteArray→ByteArray→Int→Int→Bool→ch × bI:=fun v5 v6 aT bf v9=>
  let ay:Int→ByteArray→Int→Int→Bool→ch × bI:=fun bW dM eK cG c6=>
   let bV:ByteArray→Int→Int→Bool→ch × bI:=fun e1 jE v24 c5=>
    let mR:=mF ⟨e1,jE,v24,c5⟩
    bif(mR.2 != 0)then
     (mR.1,⟨0,0,⟨#[]⟩⟩)
    else
     (mR.1,⟨v1.2,bW,v5⟩)
   let c0:=mF ⟨dM,eK,cG,c6⟩
   let v21:=c0.2==0
   let ay:Int→ch × bI:=fun e1=>
    bif(v21&&(e1 != 0))then
     let c5:=AK c0.1 (4:Int)
     bV c5.s c5.at_ c5.bad c5.made
    else
     bV c0.1.s c0.1.at_ c0.1.bad c0.1.made
   bif v21 then
    ay (lZ ⟨v1.2,bW,v5⟩)
   else
    ay (0:Int)
  bif((decide (v1.2≥1))&&(decide (v1.2≤3)))then
   let bW:=ir ⟨v6,aT,bf,v9⟩
   ay bW.2 bW.1.s bW.1.at_ bW.1.bad bW.1.made
  else
   ay (0:Int) v6 aT bf v9
 bif(v1.2==4)then
  let v5:=iH v1.1 (60:Int)
  ay v5.2 v5.1.s v5.1.at_ v5.1.bad v5.1.made
 else
  ay (⟨#[]⟩:ByteArray) v1.1.s v1.1.at_ v1.1.bad v1.1.made
def AP(x0:ch):Prop:=
 let v1:=ir x0
 (qj x0)∧
 let ay:ByteArray→ByteArray→Int→Int→Bool→Prop:=fun v5 v6 aT bf v9=>
  (((decide (v1.2≥1))&&(decide (v1.2≤3)))=true→(
   let bW:=ir ⟨v6,aT,bf,v9⟩
   qj ⟨v6,aT,bf,v9⟩))
 ((v1.2==4)=true→(
  let v5:=iH v1.1 (60:Int)
  (tm v1.1 (60:Int))∧
  ay v5.2 v5.1.s v5.1.at_ v5.1.bad v5.1.made))∧((v1.2==4)=false→(
  ay (⟨#[]⟩:ByteArray) v1.1.s v1.1.at_ v1.1.bad v1.1.made))
noncomputable def AL(x0:ch):ch × Int:=
 let v1:=mF x0
 bif(v1.2 != 0)then
  let v5:=mF v1.1
  (v5.1,v5.2)
 else
  bif(decide (v1.1.at_<(ByteArray.size v1.1.s:Int)))then
   (v1.1,23)
  else
   (v1.1,0)
noncomputable def nB(x0:ByteArray):dI × Int:=
 let v1:=ir ⟨x0,0,0,true⟩
 let v4:=ir v1.1
 let aT:=ir v4.1
 let v10:=iH aT.1 (24:Int)
 let bW:=iH v10.1 (24:Int)
 let cG:=iH bW.1 (24:Int)
 let cN:=tf cG.1
 let e1:=iH cN.1 (20000:Int)
 let c5:=AL e1.1
 bif(c5.2 != 0)then
  (⟨0,0,⟨0,⟨#[]⟩,⟨#[]⟩⟩,⟨#[]⟩,⟨0,0,⟨#[]⟩⟩,⟨#[]⟩⟩,c5.2)
 else
  bif((decide (v1.2<1))||(decide (v1.2>7)))then
   (⟨0,0,⟨0,⟨#[]⟩,⟨#[]⟩⟩,⟨#[]⟩,⟨0,0,⟨#[]⟩⟩,⟨#[]⟩⟩,7)
  else
   bif((decide (v4.2<0))||(decide (v4.2>1099511627776)))then
    (⟨0,0,⟨0,⟨#[]⟩,⟨#[]⟩⟩,⟨#[]⟩,⟨0,0,⟨#[]⟩⟩,⟨#[]⟩⟩,2)
   else
    (⟨v1.2,v4.2,⟨aT.2,v10.2,bW.2⟩,cG.2,⟨cN.2.kind,cN.2.n,cN.2.s⟩,e1.2⟩,0)
def qk(x0:ByteArray):Prop:=
 let v1:=ir ⟨x0,0,0,true⟩
 (qj ⟨x0,0,0,true⟩)∧
 let v4:=ir v1.1
 (qj v1.1)∧
 let aT:=ir v4.1
 (qj v4.1)∧
 let v10:=iH aT.1 (24:Int)
 (tm aT.1 (24:Int))∧
 let bW:=iH v10.1 (24:Int)
 (tm v10.1 (24:Int))∧
 let cG:=iH bW.1 (24:Int)
 (tm bW.1 (24:Int))∧
 let cN:=tf cG.1
 (AP cG.1)∧
 let e1:=iH cN.1 (20000:Int)
 tm cN.1 (20000:Int)
noncomputable def hA(x0:Int):ByteArray:=
 let v2:Int:=ba .shl .u64 (IntKind.wrap .u64 x0) (1:Int)
 let ay:Int→ByteArray:=fun v3=>
  Sum.elim (fun r=>r) (fun bj=>
   (bytesOf (List.append bj.2 ([(IntKind.wrap .u8 bj.1)]:List Int))))
  (b4 (fun(aw:Int × (List Int))=>
   show Step (ByteArray) (Int × (List Int))from
   bif(decide (aw.1≥128))then
    .bn ((ba .quo .u64 aw.1 (128:Int)),(List.append aw.2 ([(IntKind.wrap .u8 ((IntKind.wrap .u8 (ba .rem .u64 aw.1 (128:Int)))+(128:Int)))]:List Int)))
   else
    .b8 (aw.1,aw.2)) cn (v3,[]):ByteArray⊕(Int × (List Int)))
 bif(decide (x0<0))then
  ay (db.den (.tV .u64) v2)
 else
  ay v2
def lv(x0:Int):Prop:=
 let v2:Int:=ba .shl .u64 (IntKind.wrap .u64 x0) (1:Int)
 let ay:Int→Prop:=fun v3=>
  let aV:(Int × (List Int))→Prop:=fun bj=>
   let bf:List Int:=([(IntKind.wrap .u8 bj.1)]:List Int)
   List.length bj.2+List.length bf≤maxLen∧(List.length bj.2+List.length bf)*1≤140737488355328
  ∃(bP:(Int × (List Int))→Prop) (dA:(Int × (List Int))→Nat),bP (v3,[])∧dA (v3,[])<cn∧∀(d0:Int × (List Int)),bP d0→(
   ((decide (d0.1≥128))=true→(
    let v11:List Int:=([(IntKind.wrap .u8 ((IntKind.wrap .u8 (ba .rem .u64 d0.1 (128:Int)))+(128:Int)))]:List Int)
    (List.length d0.2+List.length v11≤maxLen∧(List.length d0.2+List.length v11)*1≤140737488355328)∧
    bP ((ba .quo .u64 d0.1 (128:Int)),(List.append d0.2 v11))∧dA ((ba .quo .u64 d0.1 (128:Int)),(List.append d0.2 v11))<dA d0))∧((decide (d0.1≥128))=false→(
    aV (d0.1,d0.2))))
 ((decide (x0<0))=true→(
  ay (db.den (.tV .u64) v2)))∧((decide (x0<0))=false→(
  ay v2))
noncomputable def kS(x0:ByteArray):ByteArray:=
 (ByteArray.append (hA (ByteArray.size x0:Int)) x0)
def rM(x0:ByteArray):Prop:=
 let v1:Int:=(ByteArray.size x0:Int)
 let v2:=hA v1
 (lv v1)∧
 ByteArray.size v2+ByteArray.size x0≤9223372036854775807
noncomputable def tq(x0:bI):ByteArray:=
 let ay:Int→Int→ByteArray→ByteArray:=fun v3 v4 v5=>
  bif(v3==0)then
   (hA (0:Int))
  else
   bif(v3==4)then
    (ByteArray.append (hA v3) (kS v5))
   else
    (ByteArray.append (hA v3) (hA v4))
 bif((lZ x0) != 0)then
  ay (0:Int) (0:Int) (⟨#[]⟩:ByteArray)
 else
  ay x0.kind x0.n x0.s
def EH(x0:bI):Prop:=
 let ay:Int→Int→ByteArray→Prop:=fun v3 v4 v5=>
  ((v3==0)=true→(
   lv (0:Int)))∧((v3==0)=false→(
   ((v3==4)=true→(
    let bf:=hA v3
    (lv v3)∧
    let v9:=kS v5
    (rM v5)∧
    ByteArray.size bf+ByteArray.size v9≤9223372036854775807))∧((v3==4)=false→(
    let bf:=hA v3
    (lv v3)∧
    let v9:=hA v4
    (lv v4)∧
    ByteArray.size bf+ByteArray.size v9≤9223372036854775807))))
 (((lZ x0) != 0)=true→(
  ay (0:Int) (0:Int) (⟨#[]⟩:ByteArray)))∧(((lZ x0) != 0)=false→(
  ay x0.kind x0.n x0.s))
noncomputable def l1(x0:dI):ByteArray:=
 let bW:=ByteArray.append (ByteArray.append (ByteArray.append (ByteArray.append (ByteArray.append (ByteArray.append (hA x0.kind) (hA x0.cY)) (hA x0.key.dev)) (kS x0.key.bp)) (kS x0.key.attr)) (kS x0.name)) (tq ⟨x0.value.kind,x0.value.n,x0.value.s⟩)
 (ByteArray.append bW (kS x0.text))
def EJ(x0:dI):Prop:=
 let v1:=hA x0.kind
 (lv x0.kind)∧
 let v2:=hA x0.cY
 (lv x0.cY)∧
 let v3:=ByteArray.append v1 v2
 (ByteArray.size v1+ByteArray.size v2≤9223372036854775807)∧
 let v4:=hA x0.key.dev
 (lv x0.key.dev)∧
 let v5:=ByteArray.append v3 v4
 (ByteArray.size v3+ByteArray.size v4≤9223372036854775807)∧
 let v6:=kS x0.key.bp
 (rM x0.key.bp)∧
 let aT:=ByteArray.append v5 v6
 (ByteArray.size v5+ByteArray.size v6≤9223372036854775807)∧
 let bf:=kS x0.key.attr
 (rM x0.key.attr)∧
 let v9:=ByteArray.append aT bf
 (ByteArray.size aT+ByteArray.size bf≤9223372036854775807)∧
 let v10:=kS x0.name
 (rM x0.name)∧
 let v11:=ByteArray.append v9 v10
 (ByteArray.size v9+ByteArray.size v10≤9223372036854775807)∧
 let v12:=tq ⟨x0.value.kind,x0.value.n,x0.value.s⟩
 (EH ⟨x0.value.kind,x0.value.n,x0.value.s⟩)∧
 let bW:=ByteArray.append v11 v12
 (ByteArray.size v11+ByteArray.size v12≤9223372036854775807)∧
 let dM:=kS x0.text
 (rM x0.text)∧
 ByteArray.size bW+ByteArray.size dM≤9223372036854775807
noncomputable def xS(x0:aK):aK:=
 let bV:Int→Int→Int→ByteArray→ByteArray→Int→Int→ByteArray→Int→ByteArray→ByteArray→ByteArray→Int→Int→Int→ByteArray→ByteArray→ByteArray→Int→Int→ByteArray→ByteArray→aK:=fun v3 v4 v5 v6 aT bf v9 v10 v11 v12 bW dM eK cG c6 c0 cN v20 v21 e1 jE v24=>
  ⟨x0.kind,v3,v4,⟨v5,v6,aT⟩,⟨bf,v9,v10⟩,⟨v11,v12,bW⟩,⟨dM,⟨eK,cG,⟨c6,c0,cN⟩,v20,⟨v21,e1,jE⟩,v24⟩⟩⟩
 let ay:Bool→aK:=fun v1=>
  bif v1 then
   bV (0:Int) (0:Int) x0.key.dev x0.key.bp x0.key.attr x0.value.kind x0.value.n x0.value.s (0:Int) (⟨#[]⟩:ByteArray) (⟨#[]⟩:ByteArray) (⟨#[]⟩:ByteArray) (0:Int) (0:Int) (0:Int) (⟨#[]⟩:ByteArray) (⟨#[]⟩:ByteArray) (⟨#[]⟩:ByteArray) (0:Int) (0:Int) (⟨#[]⟩:ByteArray) (⟨#[]⟩:ByteArray)
  else
   bif(x0.kind==3)then
    bV (0:Int) (0:Int) (0:Int) (⟨#[]⟩:ByteArray) (⟨#[]⟩:ByteArray) (0:Int) (0:Int) (⟨#[]⟩:ByteArray) x0.event.dev x0.event.bp x0.event.name (⟨#[]⟩:ByteArray) (0:Int) (0:Int) (0:Int) (⟨#[]⟩:ByteArray) (⟨#[]⟩:ByteArray) (⟨#[]⟩:ByteArray) (0:Int) (0:Int) (⟨#[]⟩:ByteArray) (⟨#[]⟩:ByteArray)
   else
    let ay:Bool→aK:=fun v4=>
     bif v4 then
      bV x0.n x0.m (0:Int) (⟨#[]⟩:ByteArray) (⟨#[]⟩:ByteArray) (0:Int) (0:Int) (⟨#[]⟩:ByteArray) (0:Int) (⟨#[]⟩:ByteArray) (⟨#[]⟩:ByteArray) (⟨#[]⟩:ByteArray) (0:Int) (0:Int) (0:Int) (⟨#[]⟩:ByteArray) (⟨#[]⟩:ByteArray) (⟨#[]⟩:ByteArray) (0:Int) (0:Int) (⟨#[]⟩:ByteArray) (⟨#[]⟩:ByteArray)
     else
      bif(x0.kind==12)then
       bV (0:Int) (0:Int) (0:Int) (⟨#[]⟩:ByteArray) (⟨#[]⟩:ByteArray) (0:Int) (0:Int) (⟨#[]⟩:ByteArray) (0:Int) (⟨#[]⟩:ByteArray) (⟨#[]⟩:ByteArray) x0.asked.token x0.asked.request.kind x0.asked.request.cY x0.asked.request.key.dev x0.asked.request.key.bp x0.asked.request.key.attr x0.asked.request.name x0.asked.request.value.kind x0.asked.request.value.n x0.asked.request.value.s x0.asked.request.text
      else
       bif(x0.kind==14)then
        bV (0:Int) (0:Int) (0:Int) (⟨#[]⟩:ByteArray) (⟨#[]⟩:ByteArray) (0:Int) (0:Int) (⟨#[]⟩:ByteArray) (0:Int) (⟨#[]⟩:ByteArray) (⟨#[]⟩:ByteArray) (⟨#[]⟩:ByteArray) (0:Int) (0:Int) (0:Int) (⟨#[]⟩:ByteArray) (⟨#[]⟩:ByteArray) (⟨#[]⟩:ByteArray) (0:Int) (0:Int) (⟨#[]⟩:ByteArray) (⟨#[]⟩:ByteArray)
       else
        bV x0.n (0:Int) (0:Int) (⟨#[]⟩:ByteArray) (⟨#[]⟩:ByteArray) (0:Int) (0:Int) (⟨#[]⟩:ByteArray) (0:Int) (⟨#[]⟩:ByteArray) (⟨#[]⟩:ByteArray) (⟨#[]⟩:ByteArray) (0:Int) (0:Int) (0:Int) (⟨#[]⟩:ByteArray) (⟨#[]⟩:ByteArray) (⟨#[]⟩:ByteArray) (0:Int) (0:Int) (⟨#[]⟩:ByteArray) (⟨#[]⟩:ByteArray)
    let v4:=x0.kind==8
    bif v4 then
     ay v4
    else
     ay (x0.kind==9)
 let v1:=x0.kind==2
 bif v1 then
  ay v1
 else
  ay (x0.kind==13)
noncomputable def qp:(List ByteArray):=
 let v0:List ByteArray:=([⟨#[116,105,99,107]⟩,⟨#[115,101,110,115,101]⟩,⟨#[101,118,101,110,116]⟩,⟨#[110,111,105,115,101]⟩,⟨#[113,117,105,101,116]⟩,⟨#[111,102,102]⟩,⟨#[111,110]⟩,⟨#[99,117,116]⟩,⟨#[106,111,105,110]⟩,⟨#[99,114,97,115,104]⟩,⟨#[99,108,111,99,107]⟩,⟨#[97,115,107]⟩,⟨#[101,110,101,114,103,121]⟩,⟨#[109,111,118,101]⟩,⟨#[108,111,115,101]⟩,⟨#[116,119,105,99,101]⟩]:List ByteArray)
 v0
def kW(n:Int):ByteArray:=fN n
def gX(n:Int):Prop:= -9223372036854775808≤n∧n≤9223372036854775807
noncomputable def tn(x0:ByteArray):Bool:=
 let v3:Int:=(ByteArray.size x0:Int)
 bif((decide ((ByteArray.size x0:Int)<1))||(decide (v3>24)))then
  false
 else
  Sum.elim (fun r=>r) (fun bj=>
   true)
  (bL (fun(i6:Nat) (aw:Unit)=>
   show Step (Bool) (Unit)from
   let bf:Int:=aC x0 (i6:Int)
   bif((!((decide (bf≥97))&&(decide (bf≤122))))&&(((i6:Int)==0)||(((bf != 95)&&(bf != 45))&&((decide (bf<48))||(decide (bf>57))))))then
    .ret false
   else
    .bn ()) 0 (Int.toNat v3) ():Bool⊕(Unit))
def AS(x0:ByteArray):Prop:=
 let v3:Int:=(ByteArray.size x0:Int)
 (((decide ((ByteArray.size x0:Int)<1))||(decide (v3>24)))=false→(
  0≤v3∧v3<(9223372036854775808:Int)))
noncomputable def jI(x0:Int)(b2:ByteArray)(kz:ByteArray):ByteArray × Int:=
 bif((decide (x0<1))||(decide (x0>250)))then
  (⟨#[]⟩,2)
 else
  let aT:=!(tn b2)
  let ay:Bool→ByteArray × Int:=fun bf=>
   bif(aT||(!bf))then
    (⟨#[]⟩,10)
   else
    ((ByteArray.append (ByteArray.append (ByteArray.append (ByteArray.append (kW x0) (⟨#[46]⟩:ByteArray)) b2) (⟨#[46]⟩:ByteArray)) kz),0)
  bif aT then
   ay false
  else
   ay (tn kz)
def xV(x0:Int)(b2:ByteArray)(kz:ByteArray):Prop:=
 (((decide (x0<1))||(decide (x0>250)))=false→(
  (AS b2)∧
  let aT:=!(tn b2)
  let ay:Bool→Prop:=fun bf=>
   ((aT||(!bf))=false→(
    let v11:=kW x0
    (gX x0)∧
    let v12:=ByteArray.append v11 (⟨#[46]⟩:ByteArray)
    (ByteArray.size v11+ByteArray.size (⟨#[46]⟩:ByteArray)≤9223372036854775807)∧
    let bW:=ByteArray.append v12 b2
    (ByteArray.size v12+ByteArray.size b2≤9223372036854775807)∧
    let dM:=ByteArray.append bW (⟨#[46]⟩:ByteArray)
    (ByteArray.size bW+ByteArray.size (⟨#[46]⟩:ByteArray)≤9223372036854775807)∧
    ByteArray.size dM+ByteArray.size kz≤9223372036854775807))
  (aT=true→(
   ay false))∧(aT=false→(
   (AS kz)∧
   ay (tn kz)))))
noncomputable def tr(x0:Int):Int:=
 (aC (⟨#[48,49,50,51,52,53,54,55,56,57,97,98,99,100,101,102]⟩:ByteArray) (ba .rem .u8 x0 (16:Int)))
def AY(x0:Int):Prop:=
 let v1:Int:=ba .rem .u8 x0 (16:Int)
 0≤v1∧v1<(ByteArray.size (⟨#[48,49,50,51,52,53,54,55,56,57,97,98,99,100,101,102]⟩:ByteArray):Int)
noncomputable def vp(x0:ByteArray):ByteArray:=
 let v2:Int:=(ByteArray.size x0:Int)
 Sum.elim (fun r=>r) (fun bj=>
  (bytesOf (List.append bj ([34]:List Int))))
 (bL (fun(i4:Nat) (aw:(List Int))=>
  show Step (ByteArray) ((List Int))from
  let ay:(List Int)→Step (ByteArray) ((List Int)):=fun v12=>
   .bn v12
  let v6:Int:=aC x0 (i4:Int)
  bif((v6==34)||(v6==92))then
   ay (List.append aw ([92,v6]:List Int))
  else
   bif((decide (v6<32))||(decide (v6>126)))then
    ay (List.append aw ([92,120,(tr (ba .quo .u8 v6 (16:Int))),(tr v6)]:List Int))
   else
    ay (List.append aw ([v6]:List Int))) 0 (Int.toNat v2) ([34]:List Int):ByteArray⊕((List Int)))
def AZ(x0:ByteArray):Prop:=
 let v2:Int:=(ByteArray.size x0:Int)
 (0≤v2∧v2<(9223372036854775808:Int))∧
 let aV:(List Int)→Prop:=fun bj=>
  let v4:List Int:=([34]:List Int)
  List.length bj+List.length v4≤maxLen∧(List.length bj+List.length v4)*1≤140737488355328
 ∃bP:Nat→((List Int))→Prop,bP 0 ([34]:List Int)∧(∀(i4:Nat) (d0:(List Int)),i4<Int.toNat v2→bP i4 d0→(
  let ay:(List Int)→Prop:=fun v12=>
   bP (i4+1) v12
  let v6:Int:=aC x0 (i4:Int)
  (((v6==34)||(v6==92))=true→(
   let v10:List Int:=([92,v6]:List Int)
   (List.length d0+List.length v10≤maxLen∧(List.length d0+List.length v10)*1≤140737488355328)∧
   ay (List.append d0 v10)))∧(((v6==34)||(v6==92))=false→(
   (((decide (v6<32))||(decide (v6>126)))=true→(
    let bW:Int:=ba .quo .u8 v6 (16:Int)
    (AY bW)∧
    (AY v6)∧
    let cG:List Int:=([92,120,(tr bW),(tr v6)]:List Int)
    (List.length d0+List.length cG≤maxLen∧(List.length d0+List.length cG)*1≤140737488355328)∧
    ay (List.append d0 cG)))∧(((decide (v6<32))||(decide (v6>126)))=false→(
    let bW:List Int:=([v6]:List Int)
    (List.length d0+List.length bW≤maxLen∧(List.length d0+List.length bW)*1≤140737488355328)∧
    ay (List.append d0 bW)))))))∧∀bj,bP (Int.toNat v2) bj→aV bj
noncomputable def pk(x0:bI):ByteArray:=
 bif((lZ x0) != 0)then
  ⟨#[]⟩
 else
  bif(x0.kind==0)then
   ⟨#[110,111,110,101]⟩
  else
   bif(x0.kind==1)then
    bif(x0.n==1)then
     ⟨#[116,114,117,101]⟩
    else
     ⟨#[102,97,108,115,101]⟩
   else
    bif(x0.kind==2)then
     (kW x0.n)
    else
     bif(x0.kind==3)then
      (ByteArray.append (⟨#[35]⟩:ByteArray) (kW x0.n))
     else
      (vp x0.s)
def A1(x0:bI):Prop:=
 (((lZ x0) != 0)=false→(
  ((x0.kind==0)=false→(
   ((x0.kind==1)=false→(
    ((x0.kind==2)=true→(
     gX x0.n))∧((x0.kind==2)=false→(
     ((x0.kind==3)=true→(
      let aT:=kW x0.n
      (gX x0.n)∧
      ByteArray.size (⟨#[35]⟩:ByteArray)+ByteArray.size aT≤9223372036854775807))∧((x0.kind==3)=false→(
      AZ x0.s))))))))))
noncomputable def vo(x0:ByteArray):Bool:=
 let v3:Int:=(ByteArray.size x0:Int)
 bif((decide ((ByteArray.size x0:Int)<1))||(decide (v3>1000)))then
  false
 else
  Sum.elim (fun r=>r) (fun bj=>
   true)
  (bL (fun(i6:Nat) (aw:Unit)=>
   show Step (Bool) (Unit)from
   bif((decide ((aC x0 (i6:Int))<33))||(decide ((aC x0 (i6:Int))>126)))then
    .ret false
   else
    .bn ()) 0 (Int.toNat v3) ():Bool⊕(Unit))
def EF(x0:ByteArray):Prop:=
 let v3:Int:=(ByteArray.size x0:Int)
 (((decide ((ByteArray.size x0:Int)<1))||(decide (v3>1000)))=false→(
  0≤v3∧v3<(9223372036854775808:Int)))
noncomputable def rQ(x0:ByteArray):ByteArray:=
 let v1:Int:=(ByteArray.size x0:Int)
 Sum.elim (fun r=>r) (fun bj=>
  (bytesOf bj))
 (bL (fun(i3:Nat) (aw:(List Int))=>
  show Step (ByteArray) ((List Int))from
  let v11:List Int:=([(aC (⟨#[48,49,50,51,52,53,54,55,56,57,97,98,99,100,101,102]⟩:ByteArray) (ba .quo .u8 (aC x0 (i3:Int)) (16:Int))),(aC (⟨#[48,49,50,51,52,53,54,55,56,57,97,98,99,100,101,102]⟩:ByteArray) (ba .rem .u8 (aC x0 (i3:Int)) (16:Int)))]:List Int)
  .bn (List.append aw v11)) 0 (Int.toNat v1) []:ByteArray⊕((List Int)))
def A4(x0:ByteArray):Prop:=
 let v1:Int:=(ByteArray.size x0:Int)
 (0≤v1∧v1<(9223372036854775808:Int))∧
 ∃bP:Nat→((List Int))→Prop,bP 0 []∧∀(i3:Nat) (d0:(List Int)),i3<Int.toNat v1→bP i3 d0→(
  let v6:Int:=ba .quo .u8 (aC x0 (i3:Int)) (16:Int)
  (0≤v6∧v6<(ByteArray.size (⟨#[48,49,50,51,52,53,54,55,56,57,97,98,99,100,101,102]⟩:ByteArray):Int))∧
  let v9:Int:=ba .rem .u8 (aC x0 (i3:Int)) (16:Int)
  (0≤v9∧v9<(ByteArray.size (⟨#[48,49,50,51,52,53,54,55,56,57,97,98,99,100,101,102]⟩:ByteArray):Int))∧
  let v11:List Int:=([(aC (⟨#[48,49,50,51,52,53,54,55,56,57,97,98,99,100,101,102]⟩:ByteArray) v6),(aC (⟨#[48,49,50,51,52,53,54,55,56,57,97,98,99,100,101,102]⟩:ByteArray) v9)]:List Int)
  (List.length d0+List.length v11≤maxLen∧(List.length d0+List.length v11)*1≤140737488355328)∧
  bP (i3+1) (List.append d0 v11))
noncomputable def m14(x0:aK):ByteArray × Int:=
 bif((decide (x0.kind<1))||(decide (x0.kind>16)))then
  (⟨#[]⟩,7)
 else
  let v4:=xS x0
  let v5:=!(bif v4.kind==x0.kind then bif v4.n==x0.n then bif v4.m==x0.m then bif v4.key.dev==x0.key.dev then bif bq v4.key.bp x0.key.bp then bif bq v4.key.attr x0.key.attr then bif v4.value.kind==x0.value.kind then bif v4.value.n==x0.value.n then bif bq v4.value.s x0.value.s then bif v4.event.dev==x0.event.dev then bif bq v4.event.bp x0.event.bp then bif bq v4.event.name x0.event.name then bif bq v4.asked.token x0.asked.token then bif v4.asked.request.kind==x0.asked.request.kind then bif v4.asked.request.cY==x0.asked.request.cY then bif v4.asked.request.key.dev==x0.asked.request.key.dev then bif bq v4.asked.request.key.bp x0.asked.request.key.bp then bif bq v4.asked.request.key.attr x0.asked.request.key.attr then bif bq v4.asked.request.name x0.asked.request.name then bif v4.asked.request.value.kind==x0.asked.request.value.kind then bif v4.asked.request.value.n==x0.asked.request.value.n then bif bq v4.asked.request.value.s x0.asked.request.value.s then bq v4.asked.request.text x0.asked.request.text else false else false else false else false else false else false else false else false else false else false else false else false else false else false else false else false else false else false else false else false else false else false)
  bif v5 then
   (⟨#[]⟩,1)
  else
   let bf:ByteArray:=List.getD (qp) (Int.toNat (IntKind.wrap .i64 (x0.kind-(1:Int)))) (dJ .str)
   let ay:Int→ByteArray × Int:=fun v9=>
    bif((((decide (x0.n<v9))||(decide (x0.n>1099511627776)))||(decide (x0.m<0)))||(decide (x0.m>1099511627776)))then
     (⟨#[]⟩,2)
    else
     let ay:Bool→ByteArray × Int:=fun c0=>
      bif c0 then
       let v20:=jI x0.key.dev x0.key.bp x0.key.attr
       bif(v20.2 != 0)then
        (⟨#[]⟩,v20.2)
       else
        let v24:=lZ ⟨x0.value.kind,x0.value.n,x0.value.s⟩
        bif(v24 != 0)then
         (⟨#[]⟩,v24)
        else
         bif(x0.value.kind==0)then
          (⟨#[]⟩,4)
         else
          ((ByteArray.append (ByteArray.append (ByteArray.append (ByteArray.append bf (⟨#[32]⟩:ByteArray)) v20.1) (⟨#[32]⟩:ByteArray)) (pk ⟨x0.value.kind,x0.value.n,x0.value.s⟩)),0)
      else
       bif(x0.kind==3)then
        let v21:=jI x0.event.dev x0.event.bp x0.event.name
        bif(v21.2 != 0)then
         (⟨#[]⟩,v21.2)
        else
         ((ByteArray.append (ByteArray.append bf (⟨#[32]⟩:ByteArray)) v21.1),0)
       else
        let ay:Bool→ByteArray × Int:=fun v21=>
         bif v21 then
          ((ByteArray.append (ByteArray.append (ByteArray.append (ByteArray.append bf (⟨#[32]⟩:ByteArray)) (kW x0.n)) (⟨#[32]⟩:ByteArray)) (kW x0.m)),0)
         else
          bif(x0.kind==12)then
           let v24:=l1 ⟨x0.asked.request.kind,x0.asked.request.cY,⟨x0.asked.request.key.dev,x0.asked.request.key.bp,x0.asked.request.key.attr⟩,x0.asked.request.name,⟨x0.asked.request.value.kind,x0.asked.request.value.n,x0.asked.request.value.s⟩,x0.asked.request.text⟩
           let c5:=nB v24
           let nD:=!(bif c5.1.kind==x0.asked.request.kind then bif c5.1.cY==x0.asked.request.cY then bif c5.1.key.dev==x0.asked.request.key.dev then bif bq c5.1.key.bp x0.asked.request.key.bp then bif bq c5.1.key.attr x0.asked.request.key.attr then bif bq c5.1.name x0.asked.request.name then bif c5.1.value.kind==x0.asked.request.value.kind then bif c5.1.value.n==x0.asked.request.value.n then bif bq c5.1.value.s x0.asked.request.value.s then bq c5.1.text x0.asked.request.text else false else false else false else false else false else false else false else false else false)
           bif(((!(vo x0.asked.token))||(c5.2 != 0))||nD)then
            (⟨#[]⟩,4)
           else
            ((ByteArray.append (ByteArray.append (ByteArray.append (ByteArray.append bf (⟨#[32]⟩:ByteArray)) x0.asked.token) (⟨#[32]⟩:ByteArray)) (rQ v24)),0)
          else
           bif(x0.kind==14)then
            (bf,0)
           else
            ((ByteArray.append (ByteArray.append bf (⟨#[32]⟩:ByteArray)) (kW x0.n)),0)
        let v21:=x0.kind==8
        bif v21 then
         ay v21
        else
         ay (x0.kind==9)
     let c0:=x0.kind==2
     bif c0 then
      ay c0
     else
      ay (x0.kind==13)
   bif(x0.kind==11)then
    ay ((-1):Int)
   else
    ay (0:Int)
def Bh(x0:aK):Prop:=
 (((decide (x0.kind<1))||(decide (x0.kind>16)))=false→(
  let v4:=xS x0
  let v5:=!(bif v4.kind==x0.kind then bif v4.n==x0.n then bif v4.m==x0.m then bif v4.key.dev==x0.key.dev then bif bq v4.key.bp x0.key.bp then bif bq v4.key.attr x0.key.attr then bif v4.value.kind==x0.value.kind then bif v4.value.n==x0.value.n then bif bq v4.value.s x0.value.s then bif v4.event.dev==x0.event.dev then bif bq v4.event.bp x0.event.bp then bif bq v4.event.name x0.event.name then bif bq v4.asked.token x0.asked.token then bif v4.asked.request.kind==x0.asked.request.kind then bif v4.asked.request.cY==x0.asked.request.cY then bif v4.asked.request.key.dev==x0.asked.request.key.dev then bif bq v4.asked.request.key.bp x0.asked.request.key.bp then bif bq v4.asked.request.key.attr x0.asked.request.key.attr then bif bq v4.asked.request.name x0.asked.request.name then bif v4.asked.request.value.kind==x0.asked.request.value.kind then bif v4.asked.request.value.n==x0.asked.request.value.n then bif bq v4.asked.request.value.s x0.asked.request.value.s then bq v4.asked.request.text x0.asked.request.text else false else false else false else false else false else false else false else false else false else false else false else false else false else false else false else false else false else false else false else false else false else false)
  (v5=false→(
   let v6:Int:=IntKind.wrap .i64 (x0.kind-(1:Int))
   let aT:=qp
   let bf:ByteArray:=List.getD aT (Int.toNat v6) (dJ .str)
   (0≤v6∧v6<(List.length aT:Int))∧
   let ay:Int→Prop:=fun v9=>
    (((((decide (x0.n<v9))||(decide (x0.n>1099511627776)))||(decide (x0.m<0)))||(decide (x0.m>1099511627776)))=false→(
     let ay:Bool→Prop:=fun c0=>
      (c0=true→(
       let v20:=jI x0.key.dev x0.key.bp x0.key.attr
       (xV x0.key.dev x0.key.bp x0.key.attr)∧
       ((v20.2 != 0)=false→(
        let v24:=lZ ⟨x0.value.kind,x0.value.n,x0.value.s⟩
        ((v24 != 0)=false→(
         ((x0.value.kind==0)=false→(
          let gD:=ByteArray.append bf (⟨#[32]⟩:ByteArray)
          (ByteArray.size bf+ByteArray.size (⟨#[32]⟩:ByteArray)≤9223372036854775807)∧
          let v28:=ByteArray.append gD v20.1
          (ByteArray.size gD+ByteArray.size v20.1≤9223372036854775807)∧
          let hG:=ByteArray.append v28 (⟨#[32]⟩:ByteArray)
          (ByteArray.size v28+ByteArray.size (⟨#[32]⟩:ByteArray)≤9223372036854775807)∧
          let v30:=pk ⟨x0.value.kind,x0.value.n,x0.value.s⟩
          (A1 ⟨x0.value.kind,x0.value.n,x0.value.s⟩)∧
          ByteArray.size hG+ByteArray.size v30≤9223372036854775807))))))))∧(c0=false→(
       ((x0.kind==3)=true→(
        let v21:=jI x0.event.dev x0.event.bp x0.event.name
        (xV x0.event.dev x0.event.bp x0.event.name)∧
        ((v21.2 != 0)=false→(
         let c5:=ByteArray.append bf (⟨#[32]⟩:ByteArray)
         (ByteArray.size bf+ByteArray.size (⟨#[32]⟩:ByteArray)≤9223372036854775807)∧
         ByteArray.size c5+ByteArray.size v21.1≤9223372036854775807))))∧((x0.kind==3)=false→(
        let ay:Bool→Prop:=fun v21=>
         (v21=true→(
          let jE:=ByteArray.append bf (⟨#[32]⟩:ByteArray)
          (ByteArray.size bf+ByteArray.size (⟨#[32]⟩:ByteArray)≤9223372036854775807)∧
          let v24:=kW x0.n
          (gX x0.n)∧
          let c5:=ByteArray.append jE v24
          (ByteArray.size jE+ByteArray.size v24≤9223372036854775807)∧
          let mR:=ByteArray.append c5 (⟨#[32]⟩:ByteArray)
          (ByteArray.size c5+ByteArray.size (⟨#[32]⟩:ByteArray)≤9223372036854775807)∧
          let gD:=kW x0.m
          (gX x0.m)∧
          ByteArray.size mR+ByteArray.size gD≤9223372036854775807))∧(v21=false→(
          ((x0.kind==12)=true→(
           let v24:=l1 ⟨x0.asked.request.kind,x0.asked.request.cY,⟨x0.asked.request.key.dev,x0.asked.request.key.bp,x0.asked.request.key.attr⟩,x0.asked.request.name,⟨x0.asked.request.value.kind,x0.asked.request.value.n,x0.asked.request.value.s⟩,x0.asked.request.text⟩
           (EJ ⟨x0.asked.request.kind,x0.asked.request.cY,⟨x0.asked.request.key.dev,x0.asked.request.key.bp,x0.asked.request.key.attr⟩,x0.asked.request.name,⟨x0.asked.request.value.kind,x0.asked.request.value.n,x0.asked.request.value.s⟩,x0.asked.request.text⟩)∧
           let c5:=nB v24
           (qk v24)∧
           (EF x0.asked.token)∧
           let nD:=!(bif c5.1.kind==x0.asked.request.kind then bif c5.1.cY==x0.asked.request.cY then bif c5.1.key.dev==x0.asked.request.key.dev then bif bq c5.1.key.bp x0.asked.request.key.bp then bif bq c5.1.key.attr x0.asked.request.key.attr then bif bq c5.1.name x0.asked.request.name then bif c5.1.value.kind==x0.asked.request.value.kind then bif c5.1.value.n==x0.asked.request.value.n then bif bq c5.1.value.s x0.asked.request.value.s then bq c5.1.text x0.asked.request.text else false else false else false else false else false else false else false else false else false)
           ((((!(vo x0.asked.token))||(c5.2 != 0))||nD)=false→(
            let fy:=ByteArray.append bf (⟨#[32]⟩:ByteArray)
            (ByteArray.size bf+ByteArray.size (⟨#[32]⟩:ByteArray)≤9223372036854775807)∧
            let vD:=ByteArray.append fy x0.asked.token
            (ByteArray.size fy+ByteArray.size x0.asked.token≤9223372036854775807)∧
            let kZ:=ByteArray.append vD (⟨#[32]⟩:ByteArray)
            (ByteArray.size vD+ByteArray.size (⟨#[32]⟩:ByteArray)≤9223372036854775807)∧
            let v37:=rQ v24
            (A4 v24)∧
            ByteArray.size kZ+ByteArray.size v37≤9223372036854775807))))∧((x0.kind==12)=false→(
           ((x0.kind==14)=false→(
            let c5:=ByteArray.append bf (⟨#[32]⟩:ByteArray)
            (ByteArray.size bf+ByteArray.size (⟨#[32]⟩:ByteArray)≤9223372036854775807)∧
            let mR:=kW x0.n
            (gX x0.n)∧
            ByteArray.size c5+ByteArray.size mR≤9223372036854775807))))))
        let v21:=x0.kind==8
        (v21=true→(
         ay v21))∧(v21=false→(
         ay (x0.kind==9)))))))
     let c0:=x0.kind==2
     (c0=true→(
      ay c0))∧(c0=false→(
      ay (x0.kind==13)))))
   ((x0.kind==11)=true→(
    ay ((-1):Int)))∧((x0.kind==11)=false→(
    ay (0:Int)))))))
noncomputable def eV(x0:ByteArray)(b2:Int):Int:=
 (b6.den .tW x0 b2)
noncomputable def hQ(x0:Int):Int:=
 (b6.den (.tX .i64) (b6.den (.mx .i64) x0 ((-1099511627776):Int)) (1099511627776:Int))
noncomputable def cK(x0:ByteArray):Int × Bool:=
 let v3:Int:=(ByteArray.size x0:Int)
 bif(((ByteArray.size x0:Int)==0)||(decide (v3>14)))then
  (0,false)
 else
  Sum.elim (fun r=>r) (fun bj=>
   let ay:Int→Int × Bool:=fun aT=>
    let v11:=(hQ aT) != aT
    let ay:ByteArray→Int × Bool:=fun v12=>
     bif(v11||(a8 .neq v12 x0))then
      (0,false)
     else
      (aT,true)
    bif v11 then
     ay (⟨#[]⟩:ByteArray)
    else
     ay (fe aT)
   bif((aC x0 (0:Int))==45)then
    ay (IntKind.wrap .i64 (0-bj))
   else
    ay bj)
  (bL (fun(i7:Nat) (aw:Int)=>
   show Step (Int × Bool) (Int)from
   let ay:Int→Step (Int × Bool) (Int):=fun v9=>
    .bn v9
   let v9:Int:=aC x0 (i7:Int)
   bif((decide (v9≥48))&&(decide (v9≤57)))then
    ay (IntKind.wrap .i64 ((IntKind.wrap .i64 ((10:Int)*aw))+(IntKind.wrap .i64 (IntKind.wrap .u8 (v9-(48:Int))))))
   else
    bif((decide ((i7:Int)>0))||(v9 != 45))then
     .ret (0,false)
    else
     ay aw) 0 (Int.toNat v3) 0:(Int × Bool)⊕(Int))
def ku(x0:ByteArray):Prop:=
 let v3:Int:=(ByteArray.size x0:Int)
 ((((ByteArray.size x0:Int)==0)||(decide (v3>14)))=false→(
  (0≤v3∧v3<(9223372036854775808:Int))∧
  let aV:Int→Prop:=fun bj=>
   let ay:Int→Prop:=fun aT=>
    let v11:=(hQ aT) != aT
    (v11=false→(
     r2 aT))
   (0≤(0:Int)∧(0:Int)<(ByteArray.size x0:Int))∧
   (((aC x0 (0:Int))==45)=true→(
    ay (IntKind.wrap .i64 (0-bj))))∧(((aC x0 (0:Int))==45)=false→(
    ay bj))
  ∃bP:Nat→(Int)→Prop,bP 0 0∧(∀(i7:Nat) (d0:Int),i7<Int.toNat v3→bP i7 d0→(
   let ay:Int→Prop:=fun v9=>
    bP (i7+1) v9
   let v9:Int:=aC x0 (i7:Int)
   (((decide (v9≥48))&&(decide (v9≤57)))=true→(
    ay (IntKind.wrap .i64 ((IntKind.wrap .i64 ((10:Int)*d0))+(IntKind.wrap .i64 (IntKind.wrap .u8 (v9-(48:Int))))))))∧(((decide (v9≥48))&&(decide (v9≤57)))=false→(
    (((decide ((i7:Int)>0))||(v9 != 45))=false→(
     ay d0))))))∧∀bj,bP (Int.toNat v3) bj→aV bj))
noncomputable def jo(x0:ByteArray)(b2:Int):Int:=
 (eV x0 b2)
noncomputable def jq(x0:Int):Int:=
 (jo (⟨#[48,49,50,51,52,53,54,55,56,57,97,98,99,100,101,102]⟩:ByteArray) x0)
noncomputable def fI(x0:ByteArray):Int × Int:=
 bif((a8 .eql x0 (⟨#[]⟩:ByteArray))||((aC x0 (0:Int))==34))then
  (0,0)
 else
  bif((aC x0 (0:Int)) != 92)then
   bif(a8 .neq (lz (aC x0 (0:Int))) (bk x0 none (some (1:Int))))then
    (0,0)
   else
    ((aC x0 (0:Int)),1)
  else
   let aT:Int:=(ByteArray.size x0:Int)
   bif((decide (aT≥2))&&(((aC x0 (1:Int))==34)||((aC x0 (1:Int))==92)))then
    ((aC x0 (1:Int)),2)
   else
    let c0:Bool:=(decide (aT<4))||((aC x0 (1:Int)) != 120)
    let ay:Int→Int × Int:=fun v20=>
     let e1:Bool:=c0||(decide (v20<0))
     let ay:Int→Int × Int:=fun v24=>
      bif(e1||(decide (v24<0)))then
       (0,0)
      else
       let rY:Int:=IntKind.wrap .u8 (ba .or .i64 (ba .shl .i64 (jq (aC x0 (2:Int))) (4:Int)) (jq (aC x0 (3:Int))))
       bif(a8 .neq (lz rY) (bk x0 none (some (4:Int))))then
        (0,0)
       else
        (rY,4)
     bif e1 then
      ay (0:Int)
     else
      ay (jq (aC x0 (3:Int)))
    bif c0 then
     ay (0:Int)
    else
     ay (jq (aC x0 (2:Int)))
def Bi(x0:ByteArray):Prop:=
 let v1:=a8 .eql x0 (⟨#[]⟩:ByteArray)
 (v1=false→0≤(0:Int)∧(0:Int)<(ByteArray.size x0:Int))∧
 ((v1||((aC x0 (0:Int))==34))=false→(
  (0≤(0:Int)∧(0:Int)<(ByteArray.size x0:Int))∧
  (((aC x0 (0:Int)) != 92)=true→(
   let aT:Int:=aC x0 (0:Int)
   (0≤(0:Int)∧(0:Int)<(ByteArray.size x0:Int))∧
   (er (ByteArray.size x0) none (some (1:Int)))∧
   (tt aT)∧
   ((a8 .neq (lz aT) (bk x0 none (some (1:Int))))=false→(
    0≤(0:Int)∧(0:Int)<(ByteArray.size x0:Int)))))∧(((aC x0 (0:Int)) != 92)=false→(
   let aT:Int:=(ByteArray.size x0:Int)
   let bf:=decide (aT≥2)
   (bf=true→0≤(1:Int)∧(1:Int)<(ByteArray.size x0:Int))∧
   let v10:=(aC x0 (1:Int))==34
   (bf=true→v10=false→0≤(1:Int)∧(1:Int)<(ByteArray.size x0:Int))∧
   ((bf&&(v10||((aC x0 (1:Int))==92)))=true→(
    0≤(1:Int)∧(1:Int)<(ByteArray.size x0:Int)))∧((bf&&(v10||((aC x0 (1:Int))==92)))=false→(
    let eK:=decide (aT<4)
    (eK=false→0≤(1:Int)∧(1:Int)<(ByteArray.size x0:Int))∧
    let c0:Bool:=eK||((aC x0 (1:Int)) != 120)
    (c0=false→0≤(2:Int)∧(2:Int)<(ByteArray.size x0:Int))∧
    let ay:Int→Prop:=fun v20=>
     let e1:Bool:=c0||(decide (v20<0))
     (e1=false→0≤(3:Int)∧(3:Int)<(ByteArray.size x0:Int))∧
     let ay:Int→Prop:=fun v24=>
      ((e1||(decide (v24<0)))=false→(
       (0≤(2:Int)∧(2:Int)<(ByteArray.size x0:Int))∧
       (0≤(3:Int)∧(3:Int)<(ByteArray.size x0:Int))∧
       let rY:Int:=IntKind.wrap .u8 (ba .or .i64 (ba .shl .i64 (jq (aC x0 (2:Int))) (4:Int)) (jq (aC x0 (3:Int))))
       (er (ByteArray.size x0) none (some (4:Int)))∧
       tt rY))
     (e1=true→(
      ay (0:Int)))∧(e1=false→(
      ay (jq (aC x0 (3:Int)))))
    (c0=true→(
     ay (0:Int)))∧(c0=false→(
     ay (jq (aC x0 (2:Int)))))))))))
noncomputable def x8(x0:ByteArray):ByteArray × Int:=
 bif((a8 .eql x0 (⟨#[]⟩:ByteArray))||((aC x0 (0:Int)) != 34))then
  (⟨#[]⟩,0)
 else
  Sum.elim (fun r=>r) (fun bj=>
   bif(decide (bj.1≥(ByteArray.size x0:Int)))then
    (⟨#[]⟩,0)
   else
    ((bytesOf bj.2.1),(IntKind.wrap .i64 (bj.1+(1:Int)))))
  (b4 (fun(aw:Int × (List Int) × Bool)=>
   show Step (ByteArray × Int) (Int × (List Int) × Bool)from
   bif((decide (aw.1<(ByteArray.size x0:Int)))&&((aC x0 aw.1) != 34))then
    let dM:=fI (bk x0 (some aw.1) none)
    bif(dM.2==0)then
     .ret (⟨#[]⟩,0)
    else
     let ay:Bool→Step (ByteArray × Int) (Int × (List Int) × Bool):=fun c0=>
      .bn ((IntKind.wrap .i64 (aw.1+dM.2)),(List.append aw.2.1 ([dM.1]:List Int)),c0)
     bif !aw.2.2 then
      ay true
     else
      ay aw.2.2
   else
    .b8 (aw.1,aw.2.1,aw.2.2)) cn (1,[],false):(ByteArray × Int)⊕(Int × (List Int) × Bool))
def Bj(x0:ByteArray):Prop:=
 let v1:=a8 .eql x0 (⟨#[]⟩:ByteArray)
 (v1=false→0≤(0:Int)∧(0:Int)<(ByteArray.size x0:Int))∧
 ((v1||((aC x0 (0:Int)) != 34))=false→(
  ∃(bP:(Int × (List Int) × Bool)→Prop) (dA:(Int × (List Int) × Bool)→Nat),bP (1,[],false)∧dA (1,[],false)<cn∧∀(d0:Int × (List Int) × Bool),bP d0→(
   let v9:=decide (d0.1<(ByteArray.size x0:Int))
   (v9=true→0≤d0.1∧d0.1<(ByteArray.size x0:Int))∧
   ((v9&&((aC x0 d0.1) != 34))=true→(
    let bW:=bk x0 (some d0.1) none
    (er (ByteArray.size x0) (some d0.1) none)∧
    let dM:=fI bW
    (Bi bW)∧
    ((dM.2==0)=false→(
     let ay:Bool→Prop:=fun c0=>
      let cN:List Int:=([dM.1]:List Int)
      (List.length d0.2.1+List.length cN≤maxLen∧(List.length d0.2.1+List.length cN)*1≤140737488355328)∧
      bP ((IntKind.wrap .i64 (d0.1+dM.2)),(List.append d0.2.1 cN),c0)∧dA ((IntKind.wrap .i64 (d0.1+dM.2)),(List.append d0.2.1 cN),c0)<dA d0
     ((!d0.2.2)=true→(
      ay true))∧((!d0.2.2)=false→(
      ay d0.2.2)))))))))
noncomputable def qu(x0:ByteArray):ByteArray × Int:=
 let v1:=x8 x0
 bif((v1.2==0)||(v1.2 != (ByteArray.size x0:Int)))then
  (⟨#[]⟩,4)
 else
  bif(decide ((ByteArray.size v1.1:Int)>60))then
   (⟨#[]⟩,3)
  else
   (v1.1,0)
def E1(x0:ByteArray):Prop:=
 let v1:=x8 x0
 Bj x0
noncomputable def e7(x0:ByteArray):bI × Int:=
 let ay:Int→Int→ByteArray→bI × Int:=fun v3 v4 v5=>
  let v6:=a8 .eql x0 (⟨#[]⟩:ByteArray)
  let ay:ByteArray→bI × Int:=fun aT=>
   bif(v6||(a8 .neq aT x0))then
    (⟨0,0,⟨#[]⟩⟩,4)
   else
    (⟨v3,v4,v5⟩,0)
  bif v6 then
   ay (⟨#[]⟩:ByteArray)
  else
   ay (fT ⟨v3,v4,v5⟩)
 bif(a8 .eql x0 (⟨#[110,111,110,101]⟩:ByteArray))then
  ay (0:Int) (0:Int) (⟨#[]⟩:ByteArray)
 else
  bif((a8 .eql x0 (⟨#[116,114,117,101]⟩:ByteArray))||(a8 .eql x0 (⟨#[102,97,108,115,101]⟩:ByteArray)))then
   bif(a8 .eql x0 (⟨#[116,114,117,101]⟩:ByteArray))then
    ay (1:Int) (1:Int) (⟨#[]⟩:ByteArray)
   else
    ay (1:Int) (0:Int) (⟨#[]⟩:ByteArray)
  else
   bif((a8 .neq x0 (⟨#[]⟩:ByteArray))&&((aC x0 (0:Int))==35))then
    let v10:=cK (bk x0 (some (1:Int)) none)
    ay (3:Int) v10.1 (⟨#[]⟩:ByteArray)
   else
    bif((a8 .neq x0 (⟨#[]⟩:ByteArray))&&((aC x0 (0:Int))==34))then
     let bW:=qu x0
     ay (4:Int) (0:Int) bW.1
    else
     let bW:=cK x0
     ay (2:Int) bW.1 (⟨#[]⟩:ByteArray)
def xW(x0:ByteArray):Prop:=
 let ay:Int→Int→ByteArray→Prop:=fun v3 v4 v5=>
  let v6:=a8 .eql x0 (⟨#[]⟩:ByteArray)
  (v6=false→(
   A0 ⟨v3,v4,v5⟩))
 ((a8 .eql x0 (⟨#[110,111,110,101]⟩:ByteArray))=true→(
  ay (0:Int) (0:Int) (⟨#[]⟩:ByteArray)))∧((a8 .eql x0 (⟨#[110,111,110,101]⟩:ByteArray))=false→(
  (((a8 .eql x0 (⟨#[116,114,117,101]⟩:ByteArray))||(a8 .eql x0 (⟨#[102,97,108,115,101]⟩:ByteArray)))=true→(
   ((a8 .eql x0 (⟨#[116,114,117,101]⟩:ByteArray))=true→(
    ay (1:Int) (1:Int) (⟨#[]⟩:ByteArray)))∧((a8 .eql x0 (⟨#[116,114,117,101]⟩:ByteArray))=false→(
    ay (1:Int) (0:Int) (⟨#[]⟩:ByteArray)))))∧(((a8 .eql x0 (⟨#[116,114,117,101]⟩:ByteArray))||(a8 .eql x0 (⟨#[102,97,108,115,101]⟩:ByteArray)))=false→(
   let v5:=a8 .neq x0 (⟨#[]⟩:ByteArray)
   (v5=true→0≤(0:Int)∧(0:Int)<(ByteArray.size x0:Int))∧
   ((v5&&((aC x0 (0:Int))==35))=true→(
    let v9:=bk x0 (some (1:Int)) none
    (er (ByteArray.size x0) (some (1:Int)) none)∧
    let v10:=cK v9
    (ku v9)∧
    ay (3:Int) v10.1 (⟨#[]⟩:ByteArray)))∧((v5&&((aC x0 (0:Int))==35))=false→(
    let v9:=a8 .neq x0 (⟨#[]⟩:ByteArray)
    (v9=true→0≤(0:Int)∧(0:Int)<(ByteArray.size x0:Int))∧
    ((v9&&((aC x0 (0:Int))==34))=true→(
     let bW:=qu x0
     (E1 x0)∧
     ay (4:Int) (0:Int) bW.1))∧((v9&&((aC x0 (0:Int))==34))=false→(
     let bW:=cK x0
     (ku x0)∧
     ay (2:Int) bW.1 (⟨#[]⟩:ByteArray)))))))))
noncomputable def h2(x0:ByteArray):Int × ByteArray × ByteArray × Bool:=
 let bV:ByteArray→ByteArray→Bool→Int × ByteArray × ByteArray × Bool:=fun v1 v2 v3=>
  let bV:ByteArray→ByteArray→Bool→Int × ByteArray × ByteArray × Bool:=fun v4 v5 v6=>
   let aT:=cK v1
   (aT.1,v4,v5,((v3&&v6)&&aT.2))
  let ay:Int→Int × ByteArray × ByteArray × Bool:=fun v4=>
   bif(decide (v4≥0))then
    bV (bk v2 none (some v4)) (bk v2 (some (IntKind.wrap .i64 (v4+(1:Int)))) none) true
   else
    bV v2 (⟨#[]⟩:ByteArray) false
  bif(a8 .eql (⟨#[46]⟩:ByteArray) v2)then
   ay (0:Int)
  else
   ay (eV v2 (aC (⟨#[46]⟩:ByteArray) (0:Int)))
 let ay:Int→Int × ByteArray × ByteArray × Bool:=fun v1=>
  bif(decide (v1≥0))then
   bV (bk x0 none (some v1)) (bk x0 (some (IntKind.wrap .i64 (v1+(1:Int)))) none) true
  else
   bV x0 (⟨#[]⟩:ByteArray) false
 bif(a8 .eql (⟨#[46]⟩:ByteArray) x0)then
  ay (0:Int)
 else
  ay (eV x0 (aC (⟨#[46]⟩:ByteArray) (0:Int)))
def tD(x0:ByteArray):Prop:=
 let bV:ByteArray→ByteArray→Bool→Prop:=fun v1 v2 v3=>
  let bV:ByteArray→ByteArray→Bool→Prop:=fun v4 v5 v6=>
   let aT:=cK v1
   ku v1
  let ay:Int→Prop:=fun v4=>
   ((decide (v4≥0))=true→(
    (er (ByteArray.size v2) none (some v4))∧
    let aT:Int:=IntKind.wrap .i64 (v4+(1:Int))
    (er (ByteArray.size v2) (some aT) none)∧
    bV (bk v2 none (some v4)) (bk v2 (some aT) none) true))∧((decide (v4≥0))=false→(
    bV v2 (⟨#[]⟩:ByteArray) false))
  ((a8 .eql (⟨#[46]⟩:ByteArray) v2)=true→(
   ay (0:Int)))∧((a8 .eql (⟨#[46]⟩:ByteArray) v2)=false→(
   (0≤(0:Int)∧(0:Int)<(ByteArray.size (⟨#[46]⟩:ByteArray):Int))∧
   ay (eV v2 (aC (⟨#[46]⟩:ByteArray) (0:Int)))))
 let ay:Int→Prop:=fun v1=>
  ((decide (v1≥0))=true→(
   (er (ByteArray.size x0) none (some v1))∧
   let v4:Int:=IntKind.wrap .i64 (v1+(1:Int))
   (er (ByteArray.size x0) (some v4) none)∧
   bV (bk x0 none (some v1)) (bk x0 (some v4) none) true))∧((decide (v1≥0))=false→(
   bV x0 (⟨#[]⟩:ByteArray) false))
 ((a8 .eql (⟨#[46]⟩:ByteArray) x0)=true→(
  ay (0:Int)))∧((a8 .eql (⟨#[46]⟩:ByteArray) x0)=false→(
  (0≤(0:Int)∧(0:Int)<(ByteArray.size (⟨#[46]⟩:ByteArray):Int))∧
  ay (eV x0 (aC (⟨#[46]⟩:ByteArray) (0:Int)))))
noncomputable def tJ(x0:Int):Int:=
 Sum.elim (fun r=>r) (fun bj=>
  (-1))
 (bL (fun(i17:Nat) (aw:Unit)=>
  show Step (Int) (Unit)from
  let cN:Int:=hD ([(aC (⟨#[48,49,50,51,52,53,54,55,56,57,97,98,99,100,101,102]⟩:ByteArray) (0:Int)),(aC (⟨#[48,49,50,51,52,53,54,55,56,57,97,98,99,100,101,102]⟩:ByteArray) (1:Int)),(aC (⟨#[48,49,50,51,52,53,54,55,56,57,97,98,99,100,101,102]⟩:ByteArray) (2:Int)),(aC (⟨#[48,49,50,51,52,53,54,55,56,57,97,98,99,100,101,102]⟩:ByteArray) (3:Int)),(aC (⟨#[48,49,50,51,52,53,54,55,56,57,97,98,99,100,101,102]⟩:ByteArray) (4:Int)),(aC (⟨#[48,49,50,51,52,53,54,55,56,57,97,98,99,100,101,102]⟩:ByteArray) (5:Int)),(aC (⟨#[48,49,50,51,52,53,54,55,56,57,97,98,99,100,101,102]⟩:ByteArray) (6:Int)),(aC (⟨#[48,49,50,51,52,53,54,55,56,57,97,98,99,100,101,102]⟩:ByteArray) (7:Int)),(aC (⟨#[48,49,50,51,52,53,54,55,56,57,97,98,99,100,101,102]⟩:ByteArray) (8:Int)),(aC (⟨#[48,49,50,51,52,53,54,55,56,57,97,98,99,100,101,102]⟩:ByteArray) (9:Int)),(aC (⟨#[48,49,50,51,52,53,54,55,56,57,97,98,99,100,101,102]⟩:ByteArray) (10:Int)),(aC (⟨#[48,49,50,51,52,53,54,55,56,57,97,98,99,100,101,102]⟩:ByteArray) (11:Int)),(aC (⟨#[48,49,50,51,52,53,54,55,56,57,97,98,99,100,101,102]⟩:ByteArray) (12:Int)),(aC (⟨#[48,49,50,51,52,53,54,55,56,57,97,98,99,100,101,102]⟩:ByteArray) (13:Int)),(aC (⟨#[48,49,50,51,52,53,54,55,56,57,97,98,99,100,101,102]⟩:ByteArray) (14:Int)),(aC (⟨#[48,49,50,51,52,53,54,55,56,57,97,98,99,100,101,102]⟩:ByteArray) (15:Int))]:List Int) (Int.toNat (i17:Int))
  bif(cN==x0)then
   .ret (i17:Int)
  else
   .bn ()) 0 (Int.toNat (16:Int)) ():Int⊕(Unit))
def xX(x0:Int):Prop:=
 (0≤(0:Int)∧(0:Int)<(ByteArray.size (⟨#[48,49,50,51,52,53,54,55,56,57,97,98,99,100,101,102]⟩:ByteArray):Int))∧
 (0≤(1:Int)∧(1:Int)<(ByteArray.size (⟨#[48,49,50,51,52,53,54,55,56,57,97,98,99,100,101,102]⟩:ByteArray):Int))∧
 (0≤(2:Int)∧(2:Int)<(ByteArray.size (⟨#[48,49,50,51,52,53,54,55,56,57,97,98,99,100,101,102]⟩:ByteArray):Int))∧
 (0≤(3:Int)∧(3:Int)<(ByteArray.size (⟨#[48,49,50,51,52,53,54,55,56,57,97,98,99,100,101,102]⟩:ByteArray):Int))∧
 (0≤(4:Int)∧(4:Int)<(ByteArray.size (⟨#[48,49,50,51,52,53,54,55,56,57,97,98,99,100,101,102]⟩:ByteArray):Int))∧
 (0≤(5:Int)∧(5:Int)<(ByteArray.size (⟨#[48,49,50,51,52,53,54,55,56,57,97,98,99,100,101,102]⟩:ByteArray):Int))∧
 (0≤(6:Int)∧(6:Int)<(ByteArray.size (⟨#[48,49,50,51,52,53,54,55,56,57,97,98,99,100,101,102]⟩:ByteArray):Int))∧
 (0≤(7:Int)∧(7:Int)<(ByteArray.size (⟨#[48,49,50,51,52,53,54,55,56,57,97,98,99,100,101,102]⟩:ByteArray):Int))∧
 (0≤(8:Int)∧(8:Int)<(ByteArray.size (⟨#[48,49,50,51,52,53,54,55,56,57,97,98,99,100,101,102]⟩:ByteArray):Int))∧
 (0≤(9:Int)∧(9:Int)<(ByteArray.size (⟨#[48,49,50,51,52,53,54,55,56,57,97,98,99,100,101,102]⟩:ByteArray):Int))∧
 (0≤(10:Int)∧(10:Int)<(ByteArray.size (⟨#[48,49,50,51,52,53,54,55,56,57,97,98,99,100,101,102]⟩:ByteArray):Int))∧
 (0≤(11:Int)∧(11:Int)<(ByteArray.size (⟨#[48,49,50,51,52,53,54,55,56,57,97,98,99,100,101,102]⟩:ByteArray):Int))∧
 (0≤(12:Int)∧(12:Int)<(ByteArray.size (⟨#[48,49,50,51,52,53,54,55,56,57,97,98,99,100,101,102]⟩:ByteArray):Int))∧
 (0≤(13:Int)∧(13:Int)<(ByteArray.size (⟨#[48,49,50,51,52,53,54,55,56,57,97,98,99,100,101,102]⟩:ByteArray):Int))∧
 (0≤(14:Int)∧(14:Int)<(ByteArray.size (⟨#[48,49,50,51,52,53,54,55,56,57,97,98,99,100,101,102]⟩:ByteArray):Int))∧
 0≤(15:Int)∧(15:Int)<(ByteArray.size (⟨#[48,49,50,51,52,53,54,55,56,57,97,98,99,100,101,102]⟩:ByteArray):Int)
noncomputable def gr(x0:ByteArray):ByteArray × Int:=
 let v1:Int:=(ByteArray.size x0:Int)
 bif((ba .rem .i64 v1 (2:Int)) != 0)then
  (⟨#[]⟩,4)
 else
  Sum.elim (fun r=>r) (fun bj=>
   ((bytesOf bj.2),0))
  (b4 (fun(aw:Int × (List Int))=>
   show Step (ByteArray × Int) (Int × (List Int))from
   bif(decide (aw.1<v1))then
    let v12:=tJ (aC x0 aw.1)
    let bW:=tJ (aC x0 (IntKind.wrap .i64 (aw.1+(1:Int))))
    bif((decide (v12<0))||(decide (bW<0)))then
     .ret (⟨#[]⟩,4)
    else
     .bn ((IntKind.wrap .i64 (aw.1+(2:Int))),(List.append aw.2 ([(IntKind.wrap .u8 (IntKind.wrap .i64 ((IntKind.wrap .i64 ((16:Int)*v12))+bW)))]:List Int)))
   else
    .b8 (aw.1,aw.2)) cn (0,(List.replicate (Int.toNat (0:Int)) (dJ .u8))):(ByteArray × Int)⊕(Int × (List Int)))
def xY(x0:ByteArray):Prop:=
 let v1:Int:=(ByteArray.size x0:Int)
 (((ba .rem .i64 v1 (2:Int)) != 0)=false→(
  (0≤(0:Int)∧(0:Int)≤(ba .quo .i64 v1 (2:Int))∧(ba .quo .i64 v1 (2:Int))≤(maxLen:Int)∧(1:Int)*(ba .quo .i64 v1 (2:Int))≤281474976710656)∧
  ∃(bP:(Int × (List Int))→Prop) (dA:(Int × (List Int))→Nat),bP (0,(List.replicate (Int.toNat (0:Int)) (dJ .u8)))∧dA (0,(List.replicate (Int.toNat (0:Int)) (dJ .u8)))<cn∧∀(d0:Int × (List Int)),bP d0→(
   ((decide (d0.1<v1))=true→(
    let v9:Int:=aC x0 d0.1
    (0≤d0.1∧d0.1<(ByteArray.size x0:Int))∧
    let v10:Int:=IntKind.wrap .i64 (d0.1+(1:Int))
    let v11:Int:=aC x0 v10
    (0≤v10∧v10<(ByteArray.size x0:Int))∧
    let v12:=tJ v9
    (xX v9)∧
    let bW:=tJ v11
    (xX v11)∧
    (((decide (v12<0))||(decide (bW<0)))=false→(
     let v20:List Int:=([(IntKind.wrap .u8 (IntKind.wrap .i64 ((IntKind.wrap .i64 ((16:Int)*v12))+bW)))]:List Int)
     (List.length d0.2+List.length v20≤maxLen∧(List.length d0.2+List.length v20)*1≤140737488355328)∧
     bP ((IntKind.wrap .i64 (d0.1+(2:Int))),(List.append d0.2 v20))∧dA ((IntKind.wrap .i64 (d0.1+(2:Int))),(List.append d0.2 v20))<dA d0)))))))
noncomputable def mP(x0:Int)(b2:ByteArray):aK × Bool:=
 let bV:ByteArray→ByteArray→aK × Bool:=fun v2 v3=>
  let bV:Bool→Int→Int→Int→ByteArray→ByteArray→Int→Int→ByteArray→Int→ByteArray→ByteArray→ByteArray→Int→Int→Int→ByteArray→ByteArray→ByteArray→Int→Int→ByteArray→ByteArray→aK × Bool:=fun v5 bf v9 v10 v11 v12 bW dM eK cG c6 c0 cN v20 v21 e1 jE v24 c5 mR gD v28 hG=>
   (⟨x0,bf,v9,⟨v10,v11,v12⟩,⟨bW,dM,eK⟩,⟨cG,c6,c0⟩,⟨cN,⟨v20,v21,⟨e1,jE,v24⟩,c5,⟨mR,gD,v28⟩,hG⟩⟩⟩,v5)
  let ay:Bool→aK × Bool:=fun v5=>
   bif v5 then
    let aT:=e7 v3
    let v10:=h2 v2
    bV (v10.2.2.2&&(aT.2==0)) (0:Int) (0:Int) v10.1 v10.2.1 v10.2.2.1 aT.1.kind aT.1.n aT.1.s (0:Int) (⟨#[]⟩:ByteArray) (⟨#[]⟩:ByteArray) (⟨#[]⟩:ByteArray) (0:Int) (0:Int) (0:Int) (⟨#[]⟩:ByteArray) (⟨#[]⟩:ByteArray) (⟨#[]⟩:ByteArray) (0:Int) (0:Int) (⟨#[]⟩:ByteArray) (⟨#[]⟩:ByteArray)
   else
    bif(x0==3)then
     let bf:=h2 b2
     bV bf.2.2.2 (0:Int) (0:Int) (0:Int) (⟨#[]⟩:ByteArray) (⟨#[]⟩:ByteArray) (0:Int) (0:Int) (⟨#[]⟩:ByteArray) bf.1 bf.2.1 bf.2.2.1 (⟨#[]⟩:ByteArray) (0:Int) (0:Int) (0:Int) (⟨#[]⟩:ByteArray) (⟨#[]⟩:ByteArray) (⟨#[]⟩:ByteArray) (0:Int) (0:Int) (⟨#[]⟩:ByteArray) (⟨#[]⟩:ByteArray)
    else
     bif(x0==12)then
      let v9:=gr v3
      let v12:=hC v9.1
      bV ((v9.2==0)&&(v12.2==0)) (0:Int) (0:Int) (0:Int) (⟨#[]⟩:ByteArray) (⟨#[]⟩:ByteArray) (0:Int) (0:Int) (⟨#[]⟩:ByteArray) (0:Int) (⟨#[]⟩:ByteArray) (⟨#[]⟩:ByteArray) v2 v12.1.kind v12.1.cY v12.1.key.dev v12.1.key.bp v12.1.key.attr v12.1.name v12.1.value.kind v12.1.value.n v12.1.value.s v12.1.text
     else
      let ay:Bool→aK × Bool:=fun v9=>
       bif v9 then
        let v11:=cK v2
        let dM:=cK v3
        bV (v11.2&&dM.2) v11.1 dM.1 (0:Int) (⟨#[]⟩:ByteArray) (⟨#[]⟩:ByteArray) (0:Int) (0:Int) (⟨#[]⟩:ByteArray) (0:Int) (⟨#[]⟩:ByteArray) (⟨#[]⟩:ByteArray) (⟨#[]⟩:ByteArray) (0:Int) (0:Int) (0:Int) (⟨#[]⟩:ByteArray) (⟨#[]⟩:ByteArray) (⟨#[]⟩:ByteArray) (0:Int) (0:Int) (⟨#[]⟩:ByteArray) (⟨#[]⟩:ByteArray)
       else
        bif(x0==14)then
         bV true (0:Int) (0:Int) (0:Int) (⟨#[]⟩:ByteArray) (⟨#[]⟩:ByteArray) (0:Int) (0:Int) (⟨#[]⟩:ByteArray) (0:Int) (⟨#[]⟩:ByteArray) (⟨#[]⟩:ByteArray) (⟨#[]⟩:ByteArray) (0:Int) (0:Int) (0:Int) (⟨#[]⟩:ByteArray) (⟨#[]⟩:ByteArray) (⟨#[]⟩:ByteArray) (0:Int) (0:Int) (⟨#[]⟩:ByteArray) (⟨#[]⟩:ByteArray)
        else
         let v12:=cK b2
         bV v12.2 v12.1 (0:Int) (0:Int) (⟨#[]⟩:ByteArray) (⟨#[]⟩:ByteArray) (0:Int) (0:Int) (⟨#[]⟩:ByteArray) (0:Int) (⟨#[]⟩:ByteArray) (⟨#[]⟩:ByteArray) (⟨#[]⟩:ByteArray) (0:Int) (0:Int) (0:Int) (⟨#[]⟩:ByteArray) (⟨#[]⟩:ByteArray) (⟨#[]⟩:ByteArray) (0:Int) (0:Int) (⟨#[]⟩:ByteArray) (⟨#[]⟩:ByteArray)
      let v9:=x0==8
      bif v9 then
       ay v9
      else
       ay (x0==9)
  let v5:=x0==2
  bif v5 then
   ay v5
  else
   ay (x0==13)
 let ay:Int→aK × Bool:=fun v2=>
  bif(decide (v2≥0))then
   bV (bk b2 none (some v2)) (bk b2 (some (IntKind.wrap .i64 (v2+(1:Int)))) none)
  else
   bV b2 (⟨#[]⟩:ByteArray)
 bif(a8 .eql (⟨#[32]⟩:ByteArray) b2)then
  ay (0:Int)
 else
  ay (eV b2 (aC (⟨#[32]⟩:ByteArray) (0:Int)))
def Bm(x0:Int)(b2:ByteArray):Prop:=
 let bV:ByteArray→ByteArray→Prop:=fun v2 v3=>
  let ay:Bool→Prop:=fun v5=>
   (v5=true→(
    let aT:=e7 v3
    (xW v3)∧
    let v10:=h2 v2
    tD v2))∧(v5=false→(
    ((x0==3)=true→(
     let bf:=h2 b2
     tD b2))∧((x0==3)=false→(
     ((x0==12)=true→(
      let v9:=gr v3
      (xY v3)∧
      let v12:=hC v9.1
      vk v9.1))∧((x0==12)=false→(
      let ay:Bool→Prop:=fun v9=>
       (v9=true→(
        let v11:=cK v2
        (ku v2)∧
        let dM:=cK v3
        ku v3))∧(v9=false→(
        ((x0==14)=false→(
         let v12:=cK b2
         ku b2))))
      let v9:=x0==8
      (v9=true→(
       ay v9))∧(v9=false→(
       ay (x0==9)))))))))
  let v5:=x0==2
  (v5=true→(
   ay v5))∧(v5=false→(
   ay (x0==13)))
 let ay:Int→Prop:=fun v2=>
  ((decide (v2≥0))=true→(
   (er (ByteArray.size b2) none (some v2))∧
   let v5:Int:=IntKind.wrap .i64 (v2+(1:Int))
   (er (ByteArray.size b2) (some v5) none)∧
   bV (bk b2 none (some v2)) (bk b2 (some v5) none)))∧((decide (v2≥0))=false→(
   bV b2 (⟨#[]⟩:ByteArray)))
 ((a8 .eql (⟨#[32]⟩:ByteArray) b2)=true→(
  ay (0:Int)))∧((a8 .eql (⟨#[32]⟩:ByteArray) b2)=false→(
  (0≤(0:Int)∧(0:Int)<(ByteArray.size (⟨#[32]⟩:ByteArray):Int))∧
  ay (eV b2 (aC (⟨#[32]⟩:ByteArray) (0:Int)))))
noncomputable def m16(x0:ByteArray):aK × Int:=
 let bV:ByteArray→ByteArray→aK × Int:=fun v1 v2=>
  Sum.elim (fun r=>r) (fun bj=>
   (⟨0,0,0,⟨0,⟨#[]⟩,⟨#[]⟩⟩,⟨0,0,⟨#[]⟩⟩,⟨0,⟨#[]⟩,⟨#[]⟩⟩,⟨⟨#[]⟩,⟨0,0,⟨0,⟨#[]⟩,⟨#[]⟩⟩,⟨#[]⟩,⟨0,0,⟨#[]⟩⟩,⟨#[]⟩⟩⟩⟩,4))
  (bL (fun(i4:Nat) (aw:Unit)=>
   show Step (aK × Int) (Unit)from
   let ay:Step (aK × Int) (Unit):=
    .bn ()
   let v6:ByteArray:=hD ([⟨#[116,105,99,107]⟩,⟨#[115,101,110,115,101]⟩,⟨#[101,118,101,110,116]⟩,⟨#[110,111,105,115,101]⟩,⟨#[113,117,105,101,116]⟩,⟨#[111,102,102]⟩,⟨#[111,110]⟩,⟨#[99,117,116]⟩,⟨#[106,111,105,110]⟩,⟨#[99,114,97,115,104]⟩,⟨#[99,108,111,99,107]⟩,⟨#[97,115,107]⟩,⟨#[101,110,101,114,103,121]⟩,⟨#[109,111,118,101]⟩,⟨#[108,111,115,101]⟩,⟨#[116,119,105,99,101]⟩]:List ByteArray) (Int.toNat (i4:Int))
   bif(a8 .neq v6 v1)then
    ay
   else
    let v9:=mP (IntKind.wrap .i64 ((i4:Int)+(1:Int))) v2
    let v12:=m13 v9.1
    bif((v9.2&&(v12.2==0))&&(a8 .eql v12.1 x0))then
     .ret (v9.1,0)
    else
     ay) 0 (Int.toNat (16:Int)) ():(aK × Int)⊕(Unit))
 let ay:Int→aK × Int:=fun v1=>
  bif(decide (v1≥0))then
   bV (bk x0 none (some v1)) (bk x0 (some (IntKind.wrap .i64 (v1+(1:Int)))) none)
  else
   bV x0 (⟨#[]⟩:ByteArray)
 bif(a8 .eql (⟨#[32]⟩:ByteArray) x0)then
  ay (0:Int)
 else
  ay (eV x0 (aC (⟨#[32]⟩:ByteArray) (0:Int)))
def x1(x0:ByteArray):Prop:=
 let bV:ByteArray→ByteArray→Prop:=fun v1 v2=>
  ∃bP:Nat→(Unit)→Prop,bP 0 ()∧∀(i4:Nat) (d0:Unit),i4<Int.toNat (16:Int)→bP i4 d0→(
   let ay:Prop:=
    bP (i4+1) ()
   let v6:ByteArray:=hD ([⟨#[116,105,99,107]⟩,⟨#[115,101,110,115,101]⟩,⟨#[101,118,101,110,116]⟩,⟨#[110,111,105,115,101]⟩,⟨#[113,117,105,101,116]⟩,⟨#[111,102,102]⟩,⟨#[111,110]⟩,⟨#[99,117,116]⟩,⟨#[106,111,105,110]⟩,⟨#[99,114,97,115,104]⟩,⟨#[99,108,111,99,107]⟩,⟨#[97,115,107]⟩,⟨#[101,110,101,114,103,121]⟩,⟨#[109,111,118,101]⟩,⟨#[108,111,115,101]⟩,⟨#[116,119,105,99,101]⟩]:List ByteArray) (Int.toNat (i4:Int))
   ((a8 .neq v6 v1)=true→(
    ay))∧((a8 .neq v6 v1)=false→(
    let bf:Int:=IntKind.wrap .i64 ((i4:Int)+(1:Int))
    let v9:=mP bf v2
    (Bm bf v2)∧
    let v12:=m13 v9.1
    (vu v9.1)∧
    (((v9.2&&(v12.2==0))&&(a8 .eql v12.1 x0))=false→(
     ay)))))
 let ay:Int→Prop:=fun v1=>
  ((decide (v1≥0))=true→(
   (er (ByteArray.size x0) none (some v1))∧
   let v4:Int:=IntKind.wrap .i64 (v1+(1:Int))
   (er (ByteArray.size x0) (some v4) none)∧
   bV (bk x0 none (some v1)) (bk x0 (some v4) none)))∧((decide (v1≥0))=false→(
   bV x0 (⟨#[]⟩:ByteArray)))
 ((a8 .eql (⟨#[32]⟩:ByteArray) x0)=true→(
  ay (0:Int)))∧((a8 .eql (⟨#[32]⟩:ByteArray) x0)=false→(
  (0≤(0:Int)∧(0:Int)<(ByteArray.size (⟨#[32]⟩:ByteArray):Int))∧
  ay (eV x0 (aC (⟨#[32]⟩:ByteArray) (0:Int)))))
noncomputable def m20(x0:ByteArray):(List aK) × Int × Int:=
 bif(decide ((ByteArray.size x0:Int)>1048576))then
  ([],0,3)
 else
  let ay:ByteArray→Bool→Int→(List aK) × Int × Int:=fun v3 v4 v5=>
   Sum.elim (fun r=>r) (fun bj=>
    (bj.2.2.2.1,0,0))
   (b4 (fun(aw:Int × ByteArray × Bool × (List aK) × Bool × Int)=>
    show Step ((List aK) × Int × Int) (Int × ByteArray × Bool × (List aK) × Bool × Int)from
    bif aw.2.2.1 then
     let ay:Int→(List aK)→Step ((List aK) × Int × Int) (Int × ByteArray × Bool × (List aK) × Bool × Int):=fun v12 c6=>
      let ay:ByteArray→Bool→Bool→Int→Step ((List aK) × Int × Int) (Int × ByteArray × Bool × (List aK) × Bool × Int):=fun c0 cN v20 v21=>
       .bn (v12,c0,cN,c6,v20,v21)
      bif aw.2.2.2.2.1 then
       ay (⟨#[]⟩:ByteArray) false aw.2.2.2.2.1 aw.2.2.2.2.2
      else
       let cN:=jo (bk x0 (some aw.2.2.2.2.2) none) (10:Int)
       bif(decide (cN<0))then
        ay (bk x0 (some aw.2.2.2.2.2) none) true true aw.2.2.2.2.2
       else
        ay (bk x0 (some aw.2.2.2.2.2) (some (IntKind.wrap .i64 (aw.2.2.2.2.2+cN)))) true aw.2.2.2.2.1 (IntKind.wrap .i64 (aw.2.2.2.2.2+(IntKind.wrap .i64 (cN+(1:Int)))))
     let v12:Int:=IntKind.wrap .i64 (aw.1+(1:Int))
     bif((a8 .eql aw.2.1 (⟨#[]⟩:ByteArray))||((aC aw.2.1 (0:Int))==35))then
      ay v12 aw.2.2.2.1
     else
      let c6:=m16 aw.2.1
      bif(c6.2 != 0)then
       .ret ([],v12,4)
      else
       ay v12 (List.append aw.2.2.2.1 ([c6.1]:List aK))
    else
     .b8 (aw.1,aw.2.1,aw.2.2.1,aw.2.2.2.1,aw.2.2.2.2.1,aw.2.2.2.2.2)) cn (0,v3,true,[],v4,v5):((List aK) × Int × Int)⊕(Int × ByteArray × Bool × (List aK) × Bool × Int))
  let v4:=jo (bk x0 (some (0:Int)) none) (10:Int)
  bif(decide (v4<0))then
   ay (bk x0 (some (0:Int)) none) true (0:Int)
  else
   ay (bk x0 (some (0:Int)) (some (IntKind.wrap .i64 ((0:Int)+v4)))) false (IntKind.wrap .i64 ((0:Int)+(IntKind.wrap .i64 (v4+(1:Int)))))
def x2(x0:ByteArray):Prop:=
 ((decide ((ByteArray.size x0:Int)>1048576))=false→(
  let ay:ByteArray→Bool→Int→Prop:=fun v3 v4 v5=>
   ∃(bP:(Int × ByteArray × Bool × (List aK) × Bool × Int)→Prop) (dA:(Int × ByteArray × Bool × (List aK) × Bool × Int)→Nat),bP (0,v3,true,[],v4,v5)∧dA (0,v3,true,[],v4,v5)<cn∧∀(d0:Int × ByteArray × Bool × (List aK) × Bool × Int),bP d0→(
    (d0.2.2.1=true→(
     let ay:Int→(List aK)→Prop:=fun v12 c6=>
      let ay:ByteArray→Bool→Bool→Int→Prop:=fun c0 cN v20 v21=>
       bP (v12,c0,cN,c6,v20,v21)∧dA (v12,c0,cN,c6,v20,v21)<dA d0
      (d0.2.2.2.2.1=true→(
       ay (⟨#[]⟩:ByteArray) false d0.2.2.2.2.1 d0.2.2.2.2.2))∧(d0.2.2.2.2.1=false→(
       (er (ByteArray.size x0) (some d0.2.2.2.2.2) none)∧
       let cN:=jo (bk x0 (some d0.2.2.2.2.2) none) (10:Int)
       ((decide (cN<0))=true→(
        (er (ByteArray.size x0) (some d0.2.2.2.2.2) none)∧
        ay (bk x0 (some d0.2.2.2.2.2) none) true true d0.2.2.2.2.2))∧((decide (cN<0))=false→(
        let v21:Int:=IntKind.wrap .i64 (d0.2.2.2.2.2+cN)
        (er (ByteArray.size x0) (some d0.2.2.2.2.2) (some v21))∧
        ay (bk x0 (some d0.2.2.2.2.2) (some v21)) true d0.2.2.2.2.1 (IntKind.wrap .i64 (d0.2.2.2.2.2+(IntKind.wrap .i64 (cN+(1:Int)))))))))
     let v12:Int:=IntKind.wrap .i64 (d0.1+(1:Int))
     let bW:=a8 .eql d0.2.1 (⟨#[]⟩:ByteArray)
     (bW=false→0≤(0:Int)∧(0:Int)<(ByteArray.size d0.2.1:Int))∧
     ((bW||((aC d0.2.1 (0:Int))==35))=true→(
      ay v12 d0.2.2.2.1))∧((bW||((aC d0.2.1 (0:Int))==35))=false→(
      let c6:=m16 d0.2.1
      (x1 d0.2.1)∧
      ((c6.2 != 0)=false→(
       let v21:List aK:=([c6.1]:List aK)
       (List.length d0.2.2.2.1+List.length v21≤maxLen∧(List.length d0.2.2.2.1+List.length v21)*272≤140737488355328)∧
       ay v12 (List.append d0.2.2.2.1 v21))))))))
  (er (ByteArray.size x0) (some (0:Int)) none)∧
  let v4:=jo (bk x0 (some (0:Int)) none) (10:Int)
  ((decide (v4<0))=true→(
   (er (ByteArray.size x0) (some (0:Int)) none)∧
   ay (bk x0 (some (0:Int)) none) true (0:Int)))∧((decide (v4<0))=false→(
   let v6:Int:=IntKind.wrap .i64 ((0:Int)+v4)
   (er (ByteArray.size x0) (some (0:Int)) (some v6))∧
   ay (bk x0 (some (0:Int)) (some v6)) false (IntKind.wrap .i64 ((0:Int)+(IntKind.wrap .i64 (v4+(1:Int)))))))))
noncomputable def m15:Bool:=
 let v0:=m13 ⟨2,0,0,⟨1,⟨#[118,97,108,118,101]⟩,⟨#[111,112,101,110]⟩⟩,⟨1,1,⟨#[]⟩⟩,⟨0,⟨#[]⟩,⟨#[]⟩⟩,⟨⟨#[]⟩,⟨0,0,⟨0,⟨#[]⟩,⟨#[]⟩⟩,⟨#[]⟩,⟨0,0,⟨#[]⟩⟩,⟨#[]⟩⟩⟩⟩
 bif((v0.2 != 0)||(a8 .neq v0.1 (⟨#[115,101,110,115,101,32,49,46,118,97,108,118,101,46,111,112,101,110,32,116,114,117,101]⟩:ByteArray)))then
  false
 else
  let v6:=m13 ⟨11,(-1),0,⟨0,⟨#[]⟩,⟨#[]⟩⟩,⟨0,0,⟨#[]⟩⟩,⟨0,⟨#[]⟩,⟨#[]⟩⟩,⟨⟨#[]⟩,⟨0,0,⟨0,⟨#[]⟩,⟨#[]⟩⟩,⟨#[]⟩,⟨0,0,⟨#[]⟩⟩,⟨#[]⟩⟩⟩⟩
  bif((v6.2 != 0)||(a8 .neq v6.1 (⟨#[99,108,111,99,107,32,45,49]⟩:ByteArray)))then
   false
  else
   let v12:List ByteArray:=([⟨#[116,105,99,107,32,48,53]⟩,⟨#[116,105,99,107]⟩,⟨#[84,105,99,107,32,53]⟩,⟨#[115,101,110,115,101,32,49,46,118,97,108,118,101,46,111,112,101,110,32,110,111,110,101]⟩]:List ByteArray)
   let bW:Int:=(List.length v12:Int)
   Sum.elim (fun r=>r) (fun bj=>
    let dM:=m20 (⟨#[35,32,97,32,114,101,109,97,114,107,10,10,110,111,110,115,101,110,115,101,10]⟩:ByteArray)
    ((dM.2.1==3)&&(dM.2.2==4)))
   (bL (fun(i14:Nat) (aw:Unit)=>
    show Step (Bool) (Unit)from
    let c6:=m16 (List.getD v12 (Int.toNat (i14:Int)) (dJ .str))
    bif(c6.2 != 4)then
     .ret false
    else
     .bn ()) 0 (Int.toNat bW) ():Bool⊕(Unit))
def x3:Prop:=
 let v0:=m13 ⟨2,0,0,⟨1,⟨#[118,97,108,118,101]⟩,⟨#[111,112,101,110]⟩⟩,⟨1,1,⟨#[]⟩⟩,⟨0,⟨#[]⟩,⟨#[]⟩⟩,⟨⟨#[]⟩,⟨0,0,⟨0,⟨#[]⟩,⟨#[]⟩⟩,⟨#[]⟩,⟨0,0,⟨#[]⟩⟩,⟨#[]⟩⟩⟩⟩
 (vu ⟨2,0,0,⟨1,⟨#[118,97,108,118,101]⟩,⟨#[111,112,101,110]⟩⟩,⟨1,1,⟨#[]⟩⟩,⟨0,⟨#[]⟩,⟨#[]⟩⟩,⟨⟨#[]⟩,⟨0,0,⟨0,⟨#[]⟩,⟨#[]⟩⟩,⟨#[]⟩,⟨0,0,⟨#[]⟩⟩,⟨#[]⟩⟩⟩⟩)∧
 (((v0.2 != 0)||(a8 .neq v0.1 (⟨#[115,101,110,115,101,32,49,46,118,97,108,118,101,46,111,112,101,110,32,116,114,117,101]⟩:ByteArray)))=false→(
  let v6:=m13 ⟨11,(-1),0,⟨0,⟨#[]⟩,⟨#[]⟩⟩,⟨0,0,⟨#[]⟩⟩,⟨0,⟨#[]⟩,⟨#[]⟩⟩,⟨⟨#[]⟩,⟨0,0,⟨0,⟨#[]⟩,⟨#[]⟩⟩,⟨#[]⟩,⟨0,0,⟨#[]⟩⟩,⟨#[]⟩⟩⟩⟩
  (vu ⟨11,(-1),0,⟨0,⟨#[]⟩,⟨#[]⟩⟩,⟨0,0,⟨#[]⟩⟩,⟨0,⟨#[]⟩,⟨#[]⟩⟩,⟨⟨#[]⟩,⟨0,0,⟨0,⟨#[]⟩,⟨#[]⟩⟩,⟨#[]⟩,⟨0,0,⟨#[]⟩⟩,⟨#[]⟩⟩⟩⟩)∧
  (((v6.2 != 0)||(a8 .neq v6.1 (⟨#[99,108,111,99,107,32,45,49]⟩:ByteArray)))=false→(
   let v12:List ByteArray:=([⟨#[116,105,99,107,32,48,53]⟩,⟨#[116,105,99,107]⟩,⟨#[84,105,99,107,32,53]⟩,⟨#[115,101,110,115,101,32,49,46,118,97,108,118,101,46,111,112,101,110,32,110,111,110,101]⟩]:List ByteArray)
   let bW:Int:=(List.length v12:Int)
   let aV:Unit→Prop:=fun bj=>
    let dM:=m20 (⟨#[35,32,97,32,114,101,109,97,114,107,10,10,110,111,110,115,101,110,115,101,10]⟩:ByteArray)
    x2 (⟨#[35,32,97,32,114,101,109,97,114,107,10,10,110,111,110,115,101,110,115,101,10]⟩:ByteArray)
   ∃bP:Nat→(Unit)→Prop,bP 0 ()∧(∀(i14:Nat) (d0:Unit),i14<Int.toNat bW→bP i14 d0→(
    let cG:ByteArray:=List.getD v12 (Int.toNat (i14:Int)) (dJ .str)
    let c6:=m16 cG
    (x1 cG)∧
    ((c6.2 != 4)=false→(
     bP (i14+1) ()))))∧∀bj,bP (Int.toNat bW) bj→aV bj))))
noncomputable def cv(x0:ByteArray)(b2:Int):ByteArray × ByteArray:=
 let v2:Int:=(ByteArray.size x0:Int)
 Sum.elim (fun r=>r) (fun bj=>
  (x0,⟨#[]⟩))
 (bL (fun(i3:Nat) (aw:Unit)=>
  show Step (ByteArray × ByteArray) (Unit)from
  bif((aC x0 (i3:Int))==b2)then
   .ret ((bk x0 none (some (i3:Int))),(bk x0 (some (IntKind.wrap .i64 ((i3:Int)+(1:Int)))) none))
  else
   .bn ()) 0 (Int.toNat v2) ():(ByteArray × ByteArray)⊕(Unit))
def rZ(x0:ByteArray)(b2:Int):Prop:=
 let v2:Int:=(ByteArray.size x0:Int)
 (0≤v2∧v2<(9223372036854775808:Int))∧
 ∃bP:Nat→(Unit)→Prop,bP 0 ()∧∀(i3:Nat) (d0:Unit),i3<Int.toNat v2→bP i3 d0→(
  (((aC x0 (i3:Int))==b2)=true→(
   (er (ByteArray.size x0) none (some (i3:Int)))∧
   let bf:Int:=IntKind.wrap .i64 ((i3:Int)+(1:Int))
   er (ByteArray.size x0) (some bf) none))∧(((aC x0 (i3:Int))==b2)=false→(
   bP (i3+1) ())))
noncomputable def hR(x0:ByteArray):Int × Bool:=
 let v1:Int:=(ByteArray.size x0:Int)
 bif(decide (v1>14))then
  (0,false)
 else
  let ay:Int→Int × Bool:=fun v3=>
   Sum.elim (fun r=>r) (fun bj=>
    let ay:Int→Int × Bool:=fun v9=>
     let eK:Bool:=((a8 .eql x0 (⟨#[]⟩:ByteArray))||(decide (v9>1099511627776)))||(decide (v9<(-1099511627776)))
     let ay:ByteArray→Int × Bool:=fun cG=>
      bif(eK||(a8 .neq cG x0))then
       (0,false)
      else
       (v9,true)
     bif eK then
      ay (⟨#[]⟩:ByteArray)
     else
      ay (kW v9)
    bif(v3==1)then
     ay (IntKind.wrap .i64 (0-bj.1))
    else
     ay bj.1)
   (b4 (fun(aw:Int × Int)=>
    show Step (Int × Bool) (Int × Int)from
    bif(decide (aw.2<v1))then
     bif((decide ((aC x0 aw.2)<48))||(decide ((aC x0 aw.2)>57)))then
      .ret (0,false)
     else
      .bn ((IntKind.wrap .i64 ((IntKind.wrap .i64 ((10:Int)*aw.1))+(IntKind.wrap .i64 (IntKind.wrap .u8 ((aC x0 aw.2)-(48:Int)))))),(IntKind.wrap .i64 (aw.2+(1:Int))))
    else
     .b8 (aw.1,aw.2)) cn (0,v3):(Int × Bool)⊕(Int × Int))
  bif((decide (v1>0))&&((aC x0 (0:Int))==45))then
   ay (1:Int)
  else
   ay (0:Int)
def r0(x0:ByteArray):Prop:=
 let v1:Int:=(ByteArray.size x0:Int)
 ((decide (v1>14))=false→(
  let ay:Int→Prop:=fun v3=>
   let aV:(Int × Int)→Prop:=fun bj=>
    let ay:Int→Prop:=fun v9=>
     let eK:Bool:=((a8 .eql x0 (⟨#[]⟩:ByteArray))||(decide (v9>1099511627776)))||(decide (v9<(-1099511627776)))
     (eK=false→(
      gX v9))
    ((v3==1)=true→(
     ay (IntKind.wrap .i64 (0-bj.1))))∧((v3==1)=false→(
     ay bj.1))
   ∃(bP:(Int × Int)→Prop) (dA:(Int × Int)→Nat),bP (0,v3)∧dA (0,v3)<cn∧∀(d0:Int × Int),bP d0→(
    ((decide (d0.2<v1))=true→(
     (0≤d0.2∧d0.2<(ByteArray.size x0:Int))∧
     let v11:=decide ((aC x0 d0.2)<48)
     (v11=false→0≤d0.2∧d0.2<(ByteArray.size x0:Int))∧
     ((v11||(decide ((aC x0 d0.2)>57)))=false→(
      (0≤d0.2∧d0.2<(ByteArray.size x0:Int))∧
      bP ((IntKind.wrap .i64 ((IntKind.wrap .i64 ((10:Int)*d0.1))+(IntKind.wrap .i64 (IntKind.wrap .u8 ((aC x0 d0.2)-(48:Int)))))),(IntKind.wrap .i64 (d0.2+(1:Int))))∧dA ((IntKind.wrap .i64 ((IntKind.wrap .i64 ((10:Int)*d0.1))+(IntKind.wrap .i64 (IntKind.wrap .u8 ((aC x0 d0.2)-(48:Int)))))),(IntKind.wrap .i64 (d0.2+(1:Int))))<dA d0))))∧((decide (d0.2<v1))=false→(
     aV (d0.1,d0.2))))
  let v3:=decide (v1>0)
  (v3=true→0≤(0:Int)∧(0:Int)<(ByteArray.size x0:Int))∧
  ((v3&&((aC x0 (0:Int))==45))=true→(
   ay (1:Int)))∧((v3&&((aC x0 (0:Int))==45))=false→(
   ay (0:Int)))))
noncomputable def hT(x0:Int):Int:=
 bif((decide (x0≥48))&&(decide (x0≤57)))then
  (IntKind.wrap .i64 (IntKind.wrap .u8 (x0-(48:Int))))
 else
  bif((decide (x0≥97))&&(decide (x0≤102)))then
   (IntKind.wrap .i64 ((IntKind.wrap .i64 (IntKind.wrap .u8 (x0-(97:Int))))+(10:Int)))
  else
   (-1)
noncomputable def x9(x0:ByteArray)(b2:Int):ByteArray × Int:=
 let v2:Int:=(ByteArray.size x0:Int)
 bif((decide (b2≥v2))||((aC x0 b2) != 34))then
  (⟨#[]⟩,(-1))
 else
  Sum.elim (fun r=>r) (fun bj=>
   let v11:=decide (bj.1≥(ByteArray.size x0:Int))
   let ay:ByteArray→ByteArray × Int:=fun eK=>
    bif(v11||(a8 .neq eK (bk x0 (some b2) (some (IntKind.wrap .i64 (bj.1+(1:Int)))))))then
     (⟨#[]⟩,(-1))
    else
     ((bytesOf bj.2),(IntKind.wrap .i64 (bj.1+(1:Int))))
   bif v11 then
    ay (⟨#[]⟩:ByteArray)
   else
    ay (vp (bytesOf bj.2)))
  (b4 (fun(aw:Int × (List Int))=>
   show Step (ByteArray × Int) (Int × (List Int))from
   bif((decide (aw.1<v2))&&((aC x0 aw.1) != 34))then
    bif((aC x0 aw.1) != 92)then
     .bn ((IntKind.wrap .i64 (aw.1+(1:Int))),(List.append aw.2 ([(aC x0 aw.1)]:List Int)))
    else
     bif((decide ((IntKind.wrap .i64 (aw.1+(1:Int)))<v2))&&(((aC x0 (IntKind.wrap .i64 (aw.1+(1:Int))))==34)||((aC x0 (IntKind.wrap .i64 (aw.1+(1:Int))))==92)))then
      .bn ((IntKind.wrap .i64 (aw.1+(2:Int))),(List.append aw.2 ([(aC x0 (IntKind.wrap .i64 (aw.1+(1:Int))))]:List Int)))
     else
      let v31:Bool:=(decide ((IntKind.wrap .i64 (aw.1+(3:Int)))<v2))&&((aC x0 (IntKind.wrap .i64 (aw.1+(1:Int))))==120)
      let ay:Int→Step (ByteArray × Int) (Int × (List Int)):=fun fy=>
       let kZ:Bool:=v31&&(decide (fy≥0))
       let ay:Int→Step (ByteArray × Int) (Int × (List Int)):=fun qz=>
        bif(kZ&&(decide (qz≥0)))then
         let v51:List Int:=([(IntKind.wrap .u8 (IntKind.wrap .i64 ((IntKind.wrap .i64 ((16:Int)*(hT (aC x0 (IntKind.wrap .i64 (aw.1+(2:Int)))))))+(hT (aC x0 (IntKind.wrap .i64 (aw.1+(3:Int))))))))]:List Int)
         .bn ((IntKind.wrap .i64 (aw.1+(4:Int))),(List.append aw.2 v51))
        else
         .ret (⟨#[]⟩,(-1))
       bif kZ then
        ay (hT (aC x0 (IntKind.wrap .i64 (aw.1+(3:Int)))))
       else
        ay (0:Int)
      bif v31 then
       ay (hT (aC x0 (IntKind.wrap .i64 (aw.1+(2:Int)))))
      else
       ay (0:Int)
   else
    .b8 (aw.1,aw.2)) cn ((IntKind.wrap .i64 (b2+(1:Int))),[]):(ByteArray × Int)⊕(Int × (List Int)))
def BE(x0:ByteArray)(b2:Int):Prop:=
 let v2:Int:=(ByteArray.size x0:Int)
 let v3:=decide (b2≥v2)
 (v3=false→0≤b2∧b2<(ByteArray.size x0:Int))∧
 ((v3||((aC x0 b2) != 34))=false→(
  let aV:(Int × (List Int))→Prop:=fun bj=>
   let v11:=decide (bj.1≥(ByteArray.size x0:Int))
   let v12:=bytesOf bj.2
   let bW:Int:=IntKind.wrap .i64 (bj.1+(1:Int))
   (v11=false→er (ByteArray.size x0) (some b2) (some bW))∧
   (v11=false→(
    AZ v12))
  ∃(bP:(Int × (List Int))→Prop) (dA:(Int × (List Int))→Nat),bP ((IntKind.wrap .i64 (b2+(1:Int))),[])∧dA ((IntKind.wrap .i64 (b2+(1:Int))),[])<cn∧∀(d0:Int × (List Int)),bP d0→(
   let v10:=decide (d0.1<v2)
   (v10=true→0≤d0.1∧d0.1<(ByteArray.size x0:Int))∧
   ((v10&&((aC x0 d0.1) != 34))=true→(
    (0≤d0.1∧d0.1<(ByteArray.size x0:Int))∧
    (((aC x0 d0.1) != 92)=true→(
     (0≤d0.1∧d0.1<(ByteArray.size x0:Int))∧
     let c6:List Int:=([(aC x0 d0.1)]:List Int)
     (List.length d0.2+List.length c6≤maxLen∧(List.length d0.2+List.length c6)*1≤140737488355328)∧
     bP ((IntKind.wrap .i64 (d0.1+(1:Int))),(List.append d0.2 c6))∧dA ((IntKind.wrap .i64 (d0.1+(1:Int))),(List.append d0.2 c6))<dA d0))∧(((aC x0 d0.1) != 92)=false→(
     let c6:=decide ((IntKind.wrap .i64 (d0.1+(1:Int)))<v2)
     let c0:Int:=IntKind.wrap .i64 (d0.1+(1:Int))
     (c6=true→0≤c0∧c0<(ByteArray.size x0:Int))∧
     let v20:=(aC x0 c0)==34
     let v21:Int:=IntKind.wrap .i64 (d0.1+(1:Int))
     (c6=true→v20=false→0≤v21∧v21<(ByteArray.size x0:Int))∧
     ((c6&&(v20||((aC x0 v21)==92)))=true→(
      let mR:Int:=IntKind.wrap .i64 (d0.1+(1:Int))
      (0≤mR∧mR<(ByteArray.size x0:Int))∧
      let v28:List Int:=([(aC x0 mR)]:List Int)
      (List.length d0.2+List.length v28≤maxLen∧(List.length d0.2+List.length v28)*1≤140737488355328)∧
      bP ((IntKind.wrap .i64 (d0.1+(2:Int))),(List.append d0.2 v28))∧dA ((IntKind.wrap .i64 (d0.1+(2:Int))),(List.append d0.2 v28))<dA d0))∧((c6&&(v20||((aC x0 v21)==92)))=false→(
      let gD:=decide ((IntKind.wrap .i64 (d0.1+(3:Int)))<v2)
      let v28:Int:=IntKind.wrap .i64 (d0.1+(1:Int))
      (gD=true→0≤v28∧v28<(ByteArray.size x0:Int))∧
      let v31:Bool:=gD&&((aC x0 v28)==120)
      let nD:Int:=IntKind.wrap .i64 (d0.1+(2:Int))
      (v31=true→0≤nD∧nD<(ByteArray.size x0:Int))∧
      let ay:Int→Prop:=fun fy=>
       let kZ:Bool:=v31&&(decide (fy≥0))
       let v37:Int:=IntKind.wrap .i64 (d0.1+(3:Int))
       (kZ=true→0≤v37∧v37<(ByteArray.size x0:Int))∧
       let ay:Int→Prop:=fun qz=>
        ((kZ&&(decide (qz≥0)))=true→(
         let tN:Int:=IntKind.wrap .i64 (d0.1+(2:Int))
         (0≤tN∧tN<(ByteArray.size x0:Int))∧
         let tO:Int:=IntKind.wrap .i64 (d0.1+(3:Int))
         (0≤tO∧tO<(ByteArray.size x0:Int))∧
         let v51:List Int:=([(IntKind.wrap .u8 (IntKind.wrap .i64 ((IntKind.wrap .i64 ((16:Int)*(hT (aC x0 tN))))+(hT (aC x0 tO)))))]:List Int)
         (List.length d0.2+List.length v51≤maxLen∧(List.length d0.2+List.length v51)*1≤140737488355328)∧
         bP ((IntKind.wrap .i64 (d0.1+(4:Int))),(List.append d0.2 v51))∧dA ((IntKind.wrap .i64 (d0.1+(4:Int))),(List.append d0.2 v51))<dA d0))
       (kZ=true→(
        ay (hT (aC x0 v37))))∧(kZ=false→(
        ay (0:Int)))
      (v31=true→(
       ay (hT (aC x0 nD))))∧(v31=false→(
       ay (0:Int)))))))))∧((v10&&((aC x0 d0.1) != 34))=false→(
    aV (d0.1,d0.2))))))
noncomputable def tL(x0:ByteArray):ByteArray × Int:=
 let v1:=x9 x0 (0:Int)
 bif((decide (v1.2<0))||(v1.2 != (ByteArray.size x0:Int)))then
  (⟨#[]⟩,4)
 else
  bif(decide ((ByteArray.size v1.1:Int)>60))then
   (⟨#[]⟩,3)
  else
   (v1.1,0)
def N3(x0:ByteArray):Prop:=
 let v1:=x9 x0 (0:Int)
 BE x0 (0:Int)
noncomputable def qA(x0:ByteArray):bI:=
 bif((a8 .eql x0 (⟨#[116,114,117,101]⟩:ByteArray))||(a8 .eql x0 (⟨#[102,97,108,115,101]⟩:ByteArray)))then
  let ay:Int→bI:=fun v5=>
   ⟨1,v5,⟨#[]⟩⟩
  bif(a8 .eql x0 (⟨#[116,114,117,101]⟩:ByteArray))then
   ay (1:Int)
  else
   ay (0:Int)
 else
  bif((a8 .neq x0 (⟨#[]⟩:ByteArray))&&((aC x0 (0:Int))==35))then
   let v9:=hR (bk x0 (some (1:Int)) none)
   ⟨3,v9.1,⟨#[]⟩⟩
  else
   bif((a8 .neq x0 (⟨#[]⟩:ByteArray))&&((aC x0 (0:Int))==34))then
    let v12:=tL x0
    ⟨4,0,v12.1⟩
   else
    let v12:=hR x0
    bif v12.2 then
     ⟨2,v12.1,⟨#[]⟩⟩
    else
     ⟨0,0,⟨#[]⟩⟩
def Fu(x0:ByteArray):Prop:=
 (((a8 .eql x0 (⟨#[116,114,117,101]⟩:ByteArray))||(a8 .eql x0 (⟨#[102,97,108,115,101]⟩:ByteArray)))=false→(
  let v4:=a8 .neq x0 (⟨#[]⟩:ByteArray)
  (v4=true→0≤(0:Int)∧(0:Int)<(ByteArray.size x0:Int))∧
  ((v4&&((aC x0 (0:Int))==35))=true→(
   let bf:=bk x0 (some (1:Int)) none
   (er (ByteArray.size x0) (some (1:Int)) none)∧
   let v9:=hR bf
   r0 bf))∧((v4&&((aC x0 (0:Int))==35))=false→(
   let bf:=a8 .neq x0 (⟨#[]⟩:ByteArray)
   (bf=true→0≤(0:Int)∧(0:Int)<(ByteArray.size x0:Int))∧
   ((bf&&((aC x0 (0:Int))==34))=true→(
    let v12:=tL x0
    N3 x0))∧((bf&&((aC x0 (0:Int))==34))=false→(
    let v12:=hR x0
    r0 x0))))))
noncomputable def om(x0:ByteArray):bI × Int:=
 let v1:=qA x0
 let v2:=a8 .eql x0 (⟨#[]⟩:ByteArray)
 let ay:ByteArray→bI × Int:=fun v3=>
  bif(v2||(a8 .neq v3 x0))then
   (⟨0,0,⟨#[]⟩⟩,4)
  else
   (v1,0)
 bif v2 then
  ay (⟨#[]⟩:ByteArray)
 else
  ay (pk v1)
def BF(x0:ByteArray):Prop:=
 let v1:=qA x0
 (Fu x0)∧
 let v2:=a8 .eql x0 (⟨#[]⟩:ByteArray)
 (v2=false→(
  A1 v1))
noncomputable def tI(x0:Int):Int:=
 bif((decide (x0≥48))&&(decide (x0≤57)))then
  (IntKind.wrap .i64 (IntKind.wrap .u8 (x0-(48:Int))))
 else
  bif((decide (x0≥97))&&(decide (x0≤102)))then
   (IntKind.wrap .i64 ((IntKind.wrap .i64 (IntKind.wrap .u8 (x0-(97:Int))))+(10:Int)))
  else
   (-1)
noncomputable def oj(x0:ByteArray):ByteArray × Int:=
 let v1:Int:=(ByteArray.size x0:Int)
 bif((ba .rem .i64 v1 (2:Int)) != 0)then
  (⟨#[]⟩,4)
 else
  Sum.elim (fun r=>r) (fun bj=>
   ((bytesOf bj.2),0))
  (b4 (fun(aw:Int × (List Int))=>
   show Step (ByteArray × Int) (Int × (List Int))from
   bif(decide (aw.1<v1))then
    let v10:=tI (aC x0 aw.1)
    let v11:=tI (aC x0 (IntKind.wrap .i64 (aw.1+(1:Int))))
    bif((decide (v10<0))||(decide (v11<0)))then
     .ret (⟨#[]⟩,4)
    else
     .bn ((IntKind.wrap .i64 (aw.1+(2:Int))),(List.append aw.2 ([(IntKind.wrap .u8 (IntKind.wrap .i64 ((IntKind.wrap .i64 ((16:Int)*v10))+v11)))]:List Int)))
   else
    .b8 (aw.1,aw.2)) cn (0,[]):(ByteArray × Int)⊕(Int × (List Int)))
def tR(x0:ByteArray):Prop:=
 let v1:Int:=(ByteArray.size x0:Int)
 (((ba .rem .i64 v1 (2:Int)) != 0)=false→(
  ∃(bP:(Int × (List Int))→Prop) (dA:(Int × (List Int))→Nat),bP (0,[])∧dA (0,[])<cn∧∀(d0:Int × (List Int)),bP d0→(
   ((decide (d0.1<v1))=true→(
    (0≤d0.1∧d0.1<(ByteArray.size x0:Int))∧
    let bf:Int:=IntKind.wrap .i64 (d0.1+(1:Int))
    (0≤bf∧bf<(ByteArray.size x0:Int))∧
    let v10:=tI (aC x0 d0.1)
    let v11:=tI (aC x0 bf)
    (((decide (v10<0))||(decide (v11<0)))=false→(
     let c0:List Int:=([(IntKind.wrap .u8 (IntKind.wrap .i64 ((IntKind.wrap .i64 ((16:Int)*v10))+v11)))]:List Int)
     (List.length d0.2+List.length c0≤maxLen∧(List.length d0.2+List.length c0)*1≤140737488355328)∧
     bP ((IntKind.wrap .i64 (d0.1+(2:Int))),(List.append d0.2 c0))∧dA ((IntKind.wrap .i64 (d0.1+(2:Int))),(List.append d0.2 c0))<dA d0)))))))
noncomputable def tP(x0:ByteArray):aK:=
 let v1:=cv x0 (32:Int)
 let v4:=qp
 let v5:Int:=(List.length v4:Int)
 Sum.elim (fun r=>r) (fun bj=>
  let aT:=cv v1.2 (32:Int)
  let v10:=cv aT.1 (46:Int)
  let bW:=cv v10.2 (46:Int)
  let cG:=hR aT.1
  let cN:=hR aT.2
  let e1:=hR v10.1
  let bV:Int→Int→Int→ByteArray→ByteArray→Int→Int→ByteArray→Int→ByteArray→ByteArray→ByteArray→Int→Int→Int→ByteArray→ByteArray→ByteArray→Int→Int→ByteArray→ByteArray→aK:=fun gD v28 hG v30 v31 nD rY fy vD kZ v37 Fk qz v40 Fl tN Fm tO Fo v46 Fp Fq=>
   ⟨bj,gD,v28,⟨hG,v30,v31⟩,⟨nD,rY,fy⟩,⟨vD,kZ,v37⟩,⟨Fk,⟨qz,v40,⟨Fl,tN,Fm⟩,tO,⟨Fo,v46,Fp⟩,Fq⟩⟩⟩
  let ay:Bool→aK:=fun c5=>
   bif c5 then
    let gD:=om aT.2
    bV (0:Int) (0:Int) e1.1 bW.1 bW.2 gD.1.kind gD.1.n gD.1.s (0:Int) (⟨#[]⟩:ByteArray) (⟨#[]⟩:ByteArray) (⟨#[]⟩:ByteArray) (0:Int) (0:Int) (0:Int) (⟨#[]⟩:ByteArray) (⟨#[]⟩:ByteArray) (⟨#[]⟩:ByteArray) (0:Int) (0:Int) (⟨#[]⟩:ByteArray) (⟨#[]⟩:ByteArray)
   else
    bif(bj==3)then
     bV (0:Int) (0:Int) (0:Int) (⟨#[]⟩:ByteArray) (⟨#[]⟩:ByteArray) (0:Int) (0:Int) (⟨#[]⟩:ByteArray) e1.1 bW.1 bW.2 (⟨#[]⟩:ByteArray) (0:Int) (0:Int) (0:Int) (⟨#[]⟩:ByteArray) (⟨#[]⟩:ByteArray) (⟨#[]⟩:ByteArray) (0:Int) (0:Int) (⟨#[]⟩:ByteArray) (⟨#[]⟩:ByteArray)
    else
     let ay:Bool→aK:=fun v28=>
      bif v28 then
       bV cG.1 cN.1 (0:Int) (⟨#[]⟩:ByteArray) (⟨#[]⟩:ByteArray) (0:Int) (0:Int) (⟨#[]⟩:ByteArray) (0:Int) (⟨#[]⟩:ByteArray) (⟨#[]⟩:ByteArray) (⟨#[]⟩:ByteArray) (0:Int) (0:Int) (0:Int) (⟨#[]⟩:ByteArray) (⟨#[]⟩:ByteArray) (⟨#[]⟩:ByteArray) (0:Int) (0:Int) (⟨#[]⟩:ByteArray) (⟨#[]⟩:ByteArray)
      else
       bif(bj==12)then
        let v31:=oj aT.2
        let fy:=nB v31.1
        bV (0:Int) (0:Int) (0:Int) (⟨#[]⟩:ByteArray) (⟨#[]⟩:ByteArray) (0:Int) (0:Int) (⟨#[]⟩:ByteArray) (0:Int) (⟨#[]⟩:ByteArray) (⟨#[]⟩:ByteArray) aT.1 fy.1.kind fy.1.cY fy.1.key.dev fy.1.key.bp fy.1.key.attr fy.1.name fy.1.value.kind fy.1.value.n fy.1.value.s fy.1.text
       else
        bif(bj==14)then
         bV (0:Int) (0:Int) (0:Int) (⟨#[]⟩:ByteArray) (⟨#[]⟩:ByteArray) (0:Int) (0:Int) (⟨#[]⟩:ByteArray) (0:Int) (⟨#[]⟩:ByteArray) (⟨#[]⟩:ByteArray) (⟨#[]⟩:ByteArray) (0:Int) (0:Int) (0:Int) (⟨#[]⟩:ByteArray) (⟨#[]⟩:ByteArray) (⟨#[]⟩:ByteArray) (0:Int) (0:Int) (⟨#[]⟩:ByteArray) (⟨#[]⟩:ByteArray)
        else
         bV cG.1 (0:Int) (0:Int) (⟨#[]⟩:ByteArray) (⟨#[]⟩:ByteArray) (0:Int) (0:Int) (⟨#[]⟩:ByteArray) (0:Int) (⟨#[]⟩:ByteArray) (⟨#[]⟩:ByteArray) (⟨#[]⟩:ByteArray) (0:Int) (0:Int) (0:Int) (⟨#[]⟩:ByteArray) (⟨#[]⟩:ByteArray) (⟨#[]⟩:ByteArray) (0:Int) (0:Int) (⟨#[]⟩:ByteArray) (⟨#[]⟩:ByteArray)
     let v28:=bj==8
     bif v28 then
      ay v28
     else
      ay (bj==9)
  let c5:=bj==2
  bif c5 then
   ay c5
  else
   ay (bj==13))
 (bL (fun(i7:Nat) (aw:Int)=>
  show Step (aK) (Int)from
  let ay:Int→Step (aK) (Int):=fun v11=>
   .bn v11
  bif(a8 .eql (List.getD v4 (Int.toNat (i7:Int)) (dJ .str)) v1.1)then
   ay (IntKind.wrap .i64 ((i7:Int)+(1:Int)))
  else
   ay aw) 0 (Int.toNat v5) 0:aK⊕(Int))
def Fw(x0:ByteArray):Prop:=
 let v1:=cv x0 (32:Int)
 (rZ x0 (32:Int))∧
 let v4:=qp
 let v5:Int:=(List.length v4:Int)
 let aV:Int→Prop:=fun bj=>
  let aT:=cv v1.2 (32:Int)
  (rZ v1.2 (32:Int))∧
  let v10:=cv aT.1 (46:Int)
  (rZ aT.1 (46:Int))∧
  let bW:=cv v10.2 (46:Int)
  (rZ v10.2 (46:Int))∧
  let cG:=hR aT.1
  (r0 aT.1)∧
  let cN:=hR aT.2
  (r0 aT.2)∧
  let e1:=hR v10.1
  (r0 v10.1)∧
  let ay:Bool→Prop:=fun c5=>
   (c5=true→(
    let gD:=om aT.2
    BF aT.2))∧(c5=false→(
    ((bj==3)=false→(
     let ay:Bool→Prop:=fun v28=>
      (v28=false→(
       ((bj==12)=true→(
        let v31:=oj aT.2
        (tR aT.2)∧
        let fy:=nB v31.1
        qk v31.1))))
     let v28:=bj==8
     (v28=true→(
      ay v28))∧(v28=false→(
      ay (bj==9)))))))
  let c5:=bj==2
  (c5=true→(
   ay c5))∧(c5=false→(
   ay (bj==13)))
 ∃bP:Nat→(Int)→Prop,bP 0 0∧(∀(i7:Nat) (d0:Int),i7<Int.toNat v5→bP i7 d0→(
  let ay:Int→Prop:=fun v11=>
   bP (i7+1) v11
  ((a8 .eql (List.getD v4 (Int.toNat (i7:Int)) (dJ .str)) v1.1)=true→(
   ay (IntKind.wrap .i64 ((i7:Int)+(1:Int)))))∧((a8 .eql (List.getD v4 (Int.toNat (i7:Int)) (dJ .str)) v1.1)=false→(
   ay d0))))∧∀bj,bP (Int.toNat v5) bj→aV bj
noncomputable def m17(x0:ByteArray):aK × Int:=
 let v1:=tP x0
 let v2:=m14 v1
 bif((v2.2 != 0)||(a8 .neq v2.1 x0))then
  (⟨0,0,0,⟨0,⟨#[]⟩,⟨#[]⟩⟩,⟨0,0,⟨#[]⟩⟩,⟨0,⟨#[]⟩,⟨#[]⟩⟩,⟨⟨#[]⟩,⟨0,0,⟨0,⟨#[]⟩,⟨#[]⟩⟩,⟨#[]⟩,⟨0,0,⟨#[]⟩⟩,⟨#[]⟩⟩⟩⟩,4)
 else
  (v1,0)
def BG(x0:ByteArray):Prop:=
 let v1:=tP x0
 (Fw x0)∧
 let v2:=m14 v1
 Bh v1
noncomputable def m18(x0:List aK):ByteArray × Int:=
 let v1:Int:=(List.length x0:Int)
 Sum.elim (fun r=>r) (fun bj=>
  ((bytesOf bj.1),0))
 (bL (fun(i4:Nat) (aw:(List Int) × Bool)=>
  show Step (ByteArray × Int) ((List Int) × Bool)from
  let v6:aK:=List.getD x0 (Int.toNat (i4:Int)) (dJ .aK)
  let aT:=m13 v6
  bif(aT.2 != 0)then
   .ret (⟨#[]⟩,aT.2)
  else
   let ay:Bool→Step (ByteArray × Int) ((List Int) × Bool):=fun v11=>
    let ay:Bool→Step (ByteArray × Int) ((List Int) × Bool):=fun eK=>
     .bn ((List.append (List.append aw.1 (db.den .eu aT.1)) ([10]:List Int)),eK)
    bif !v11 then
     ay true
    else
     ay v11
   bif !aw.2 then
    ay true
   else
    ay aw.2) 0 (Int.toNat v1) ([],false):(ByteArray × Int)⊕((List Int) × Bool))
def BH(x0:List aK):Prop:=
 let v1:Int:=(List.length x0:Int)
 ∃bP:Nat→((List Int) × Bool)→Prop,bP 0 ([],false)∧∀(i4:Nat) (d0:(List Int) × Bool),i4<Int.toNat v1→bP i4 d0→(
  let v6:aK:=List.getD x0 (Int.toNat (i4:Int)) (dJ .aK)
  let aT:=m13 v6
  (vu v6)∧
  ((aT.2 != 0)=false→(
   let ay:Bool→Prop:=fun v11=>
    let v12:List Int:=db.den .eu aT.1
    let bW:List Int:=List.append d0.1 v12
    (List.length d0.1+List.length v12≤maxLen∧(List.length d0.1+List.length v12)*1≤140737488355328)∧
    let ay:Bool→Prop:=fun eK=>
     let cG:List Int:=([10]:List Int)
     (List.length bW+List.length cG≤maxLen∧(List.length bW+List.length cG)*1≤140737488355328)∧
     bP (i4+1) ((List.append bW cG),eK)
    ((!v11)=true→(
     ay true))∧((!v11)=false→(
     ay v11))
   ((!d0.2)=true→(
    ay true))∧((!d0.2)=false→(
    ay d0.2)))))
noncomputable def m19(x0:List aK):ByteArray × Int:=
 let v1:Int:=(List.length x0:Int)
 Sum.elim (fun r=>r) (fun bj=>
  (bj,0))
 (bL (fun(i3:Nat) (aw:ByteArray)=>
  show Step (ByteArray × Int) (ByteArray)from
  let v5:aK:=List.getD x0 (Int.toNat (i3:Int)) (dJ .aK)
  let v6:=m14 v5
  bif(v6.2 != 0)then
   .ret (⟨#[]⟩,v6.2)
  else
   .bn (ByteArray.append (ByteArray.append aw v6.1) (⟨#[10]⟩:ByteArray))) 0 (Int.toNat v1) ⟨#[]⟩:(ByteArray × Int)⊕(ByteArray))
def BI(x0:List aK):Prop:=
 let v1:Int:=(List.length x0:Int)
 ∃bP:Nat→(ByteArray)→Prop,bP 0 ⟨#[]⟩∧∀(i3:Nat) (d0:ByteArray),i3<Int.toNat v1→bP i3 d0→(
  let v5:aK:=List.getD x0 (Int.toNat (i3:Int)) (dJ .aK)
  let v6:=m14 v5
  (Bh v5)∧
  ((v6.2 != 0)=false→(
   let v10:=ByteArray.append d0 v6.1
   (ByteArray.size d0+ByteArray.size v6.1≤9223372036854775807)∧
   (ByteArray.size v10+ByteArray.size (⟨#[10]⟩:ByteArray)≤9223372036854775807)∧
   bP (i3+1) (ByteArray.append v10 (⟨#[10]⟩:ByteArray)))))
noncomputable def m21(x0:ByteArray):(List aK) × Int × Int:=
 bif(decide ((ByteArray.size x0:Int)>1048576))then
  ([],0,3)
 else
  Sum.elim (fun r=>r) (fun bj=>
   (bj.2.2,0,0))
  (b4 (fun(aw:ByteArray × Int × (List aK))=>
   show Step ((List aK) × Int × Int) (ByteArray × Int × (List aK))from
   bif(a8 .neq aw.1 (⟨#[]⟩:ByteArray))then
    let ay:ByteArray→(List aK)→Step ((List aK) × Int × Int) (ByteArray × Int × (List aK)):=fun aT v21=>
     .bn (aT,(IntKind.wrap .i64 (aw.2.1+(1:Int))),v21)
    let aT:=cv aw.1 (10:Int)
    bif((a8 .eql aT.1 (⟨#[]⟩:ByteArray))||((aC aT.1 (0:Int))==35))then
     ay aT.2 aw.2.2
    else
     let dM:=m17 aT.1
     bif(dM.2 != 0)then
      .ret ([],aw.2.1,4)
     else
      ay aT.2 (List.append aw.2.2 ([dM.1]:List aK))
   else
    .b8 (aw.1,aw.2.1,aw.2.2)) cn (x0,1,[]):((List aK) × Int × Int)⊕(ByteArray × Int × (List aK)))
def BL(x0:ByteArray):Prop:=
 ((decide ((ByteArray.size x0:Int)>1048576))=false→(
  ∃(bP:(ByteArray × Int × (List aK))→Prop) (dA:(ByteArray × Int × (List aK))→Nat),bP (x0,1,[])∧dA (x0,1,[])<cn∧∀(d0:ByteArray × Int × (List aK)),bP d0→(
   ((a8 .neq d0.1 (⟨#[]⟩:ByteArray))=true→(
    let ay:ByteArray→(List aK)→Prop:=fun aT v21=>
     bP (aT,(IntKind.wrap .i64 (d0.2.1+(1:Int))),v21)∧dA (aT,(IntKind.wrap .i64 (d0.2.1+(1:Int))),v21)<dA d0
    let aT:=cv d0.1 (10:Int)
    (rZ d0.1 (10:Int))∧
    let v10:=a8 .eql aT.1 (⟨#[]⟩:ByteArray)
    (v10=false→0≤(0:Int)∧(0:Int)<(ByteArray.size aT.1:Int))∧
    ((v10||((aC aT.1 (0:Int))==35))=true→(
     ay aT.2 d0.2.2))∧((v10||((aC aT.1 (0:Int))==35))=false→(
     let dM:=m17 aT.1
     (BG aT.1)∧
     ((dM.2 != 0)=false→(
      let c0:List aK:=([dM.1]:List aK)
      (List.length d0.2.2+List.length c0≤maxLen∧(List.length d0.2.2+List.length c0)*272≤140737488355328)∧
      ay aT.2 (List.append d0.2.2 c0))))))))))
noncomputable def m22(x0:List aK)(b2:List aK):Bool:=
 let v2:Int:=(List.length x0:Int)
 bif(v2 != (List.length b2:Int))then
  false
 else
  Sum.elim (fun r=>r) (fun bj=>
   true)
  (bL (fun(i5:Nat) (aw:Unit)=>
   show Step (Bool) (Unit)from
   let aT:aK:=List.getD x0 (Int.toNat (i5:Int)) (dJ .aK)
   let bf:aK:=List.getD b2 (Int.toNat (i5:Int)) (dJ .aK)
   let v9:=!(bif aT.kind==bf.kind then bif aT.n==bf.n then bif aT.m==bf.m then bif aT.key.dev==bf.key.dev then bif bq aT.key.bp bf.key.bp then bif bq aT.key.attr bf.key.attr then bif aT.value.kind==bf.value.kind then bif aT.value.n==bf.value.n then bif bq aT.value.s bf.value.s then bif aT.event.dev==bf.event.dev then bif bq aT.event.bp bf.event.bp then bif bq aT.event.name bf.event.name then bif bq aT.asked.token bf.asked.token then bif aT.asked.request.kind==bf.asked.request.kind then bif aT.asked.request.cY==bf.asked.request.cY then bif aT.asked.request.key.dev==bf.asked.request.key.dev then bif bq aT.asked.request.key.bp bf.asked.request.key.bp then bif bq aT.asked.request.key.attr bf.asked.request.key.attr then bif bq aT.asked.request.name bf.asked.request.name then bif aT.asked.request.value.kind==bf.asked.request.value.kind then bif aT.asked.request.value.n==bf.asked.request.value.n then bif bq aT.asked.request.value.s bf.asked.request.value.s then bq aT.asked.request.text bf.asked.request.text else false else false else false else false else false else false else false else false else false else false else false else false else false else false else false else false else false else false else false else false else false else false)
   bif v9 then
    .ret false
   else
    .bn ()) 0 (Int.toNat v2) ():Bool⊕(Unit))
def xt(x0:List aK)(b2:List aK):Prop:=
 let v2:Int:=(List.length x0:Int)
 ((v2 != (List.length b2:Int))=false→(
  ∃bP:Nat→(Unit)→Prop,bP 0 ()∧∀(i5:Nat) (d0:Unit),i5<Int.toNat v2→bP i5 d0→(
   let aT:aK:=List.getD x0 (Int.toNat (i5:Int)) (dJ .aK)
   let bf:aK:=List.getD b2 (Int.toNat (i5:Int)) (dJ .aK)
   (0≤(i5:Int)∧(i5:Int)<(List.length b2:Int))∧
   let v9:=!(bif aT.kind==bf.kind then bif aT.n==bf.n then bif aT.m==bf.m then bif aT.key.dev==bf.key.dev then bif bq aT.key.bp bf.key.bp then bif bq aT.key.attr bf.key.attr then bif aT.value.kind==bf.value.kind then bif aT.value.n==bf.value.n then bif bq aT.value.s bf.value.s then bif aT.event.dev==bf.event.dev then bif bq aT.event.bp bf.event.bp then bif bq aT.event.name bf.event.name then bif bq aT.asked.token bf.asked.token then bif aT.asked.request.kind==bf.asked.request.kind then bif aT.asked.request.cY==bf.asked.request.cY then bif aT.asked.request.key.dev==bf.asked.request.key.dev then bif bq aT.asked.request.key.bp bf.asked.request.key.bp then bif bq aT.asked.request.key.attr bf.asked.request.key.attr then bif bq aT.asked.request.name bf.asked.request.name then bif aT.asked.request.value.kind==bf.asked.request.value.kind then bif aT.asked.request.value.n==bf.asked.request.value.n then bif bq aT.asked.request.value.s bf.asked.request.value.s then bq aT.asked.request.text bf.asked.request.text else false else false else false else false else false else false else false else false else false else false else false else false else false else false else false else false else false else false else false else false else false else false)
   (v9=false→(
    bP (i5+1) ())))))
noncomputable def m5(x0:List aK)(b2:ByteArray):Bool:=
 bif((decide ((List.length x0:Int)>100))||(decide ((ByteArray.size b2:Int)>6000)))then
  (m15)
 else
  let aT:=m18 x0
  let v10:=m19 x0
  let bW:=m20 b2
  let c6:=m21 b2
  let jE:Bool:=(a8 .eql aT.1 v10.1)&&(aT.2==v10.2)
  let ay:Bool→Bool:=fun v24=>
   let hG:Bool:=((jE&&v24)&&(bW.2.1==c6.2.1))&&(bW.2.2==c6.2.2)
   let ay:Bool→Bool:=fun v30=>
    (hG&&v30)
   bif hG then
    ay (m15)
   else
    ay false
  bif jE then
   ay (m22 bW.1 c6.1)
  else
   ay false
def va(x0:List aK)(b2:ByteArray):Prop:=
 (((decide ((List.length x0:Int)>100))||(decide ((ByteArray.size b2:Int)>6000)))=true→(
  x3))∧(((decide ((List.length x0:Int)>100))||(decide ((ByteArray.size b2:Int)>6000)))=false→(
  let aT:=m18 x0
  (BH x0)∧
  let v10:=m19 x0
  (BI x0)∧
  let bW:=m20 b2
  (x2 b2)∧
  let c6:=m21 b2
  (BL b2)∧
  let jE:Bool:=(a8 .eql aT.1 v10.1)&&(aT.2==v10.2)
  let ay:Bool→Prop:=fun v24=>
   let hG:Bool:=((jE&&v24)&&(bW.2.1==c6.2.1))&&(bW.2.2==c6.2.2)
   (hG=true→(
    x3))
  (jE=true→(
   (xt bW.1 c6.1)∧
   ay (m22 bW.1 c6.1)))∧(jE=false→(
   ay false))))
end Go.aM
