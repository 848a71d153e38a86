/- Models, printed. Conditions: none. -/
import Derived.Test.YtmkpmgfieagphaaGreatDoorQTEk
open Go Go.aL Go.ei
namespace Go.aL
def hD{α:Type}[Inhabited α]:List α→Nat→α
 |[],_=>default
 |[x],_=>x
 |x::l,n=>bif Nat.beq n 0 then x else hD l (n-1)
noncomputable def fB(x0:Int):ByteArray:=
 Sum.elim (fun r=>r) (fun bj=>
  (bytesOf (List.append bj.2 ([(IntKind.wrap .u8 bj.1)]:List Int))))
 (b9 (fun(aA:Int × (List Int))=>
  show Step (ByteArray) (Int × (List Int))from
  bif(decide (aA.1≥128))then
   .bx ((aZ .shr .u64 aA.1 (7:Int)),(List.append aA.2 ([(aZ .or .u8 (IntKind.wrap .u8 aA.1) (128:Int))]:List Int)))
  else
   .b7 (aA.1,aA.2)) cu ((aZ .xor .u64 (aZ .shl .u64 (IntKind.wrap .u64 x0) (1:Int)) (IntKind.wrap .u64 (aZ .shr .i64 x0 (63:Int)))),[]):ByteArray⊕(Int × (List Int)))
def nZ(x0:Int):Prop:=
 let aR:(Int × (List Int))→Prop:=fun bj=>
  let v9:List Int:=([(IntKind.wrap .u8 bj.1)]:List Int)
  List.length bj.2+List.length v9≤maxLen∧(List.length bj.2+List.length v9)*1≤140737488355328
 ∃(b1:(Int × (List Int))→Prop) (dL:(Int × (List Int))→Nat),b1 ((aZ .xor .u64 (aZ .shl .u64 (IntKind.wrap .u64 x0) (1:Int)) (IntKind.wrap .u64 (aZ .shr .i64 x0 (63:Int)))),[])∧dL ((aZ .xor .u64 (aZ .shl .u64 (IntKind.wrap .u64 x0) (1:Int)) (IntKind.wrap .u64 (aZ .shr .i64 x0 (63:Int)))),[])<cu∧∀(d0:Int × (List Int)),b1 d0→(
  ((decide (d0.1≥128))=true→(
   let v11:List Int:=([(aZ .or .u8 (IntKind.wrap .u8 d0.1) (128:Int))]:List Int)
   (List.length d0.2+List.length v11≤maxLen∧(List.length d0.2+List.length v11)*1≤140737488355328)∧
   b1 ((aZ .shr .u64 d0.1 (7:Int)),(List.append d0.2 v11))∧dL ((aZ .shr .u64 d0.1 (7:Int)),(List.append d0.2 v11))<dL d0))∧((decide (d0.1≥128))=false→(
   aR (d0.1,d0.2))))
noncomputable def hB(x0:ByteArray):ByteArray:=
 (ByteArray.append (fB (ByteArray.size x0:Int)) x0)
def rF(x0:ByteArray):Prop:=
 let v1:Int:=(ByteArray.size x0:Int)
 let v2:=fB v1
 (nZ v1)∧
 ByteArray.size v2+ByteArray.size x0≤9223372036854775807
noncomputable def D8(x0:Int):Bool:=
 ((decide (x0≥(-1099511627776)))&&(decide (x0≤1099511627776)))
noncomputable def eP(x0:bH):Int:=
 let bT:Bool→Int:=fun v1=>
  bif !v1 then
   2
  else
   bif(decide ((ByteArray.size x0.s:Int)>60))then
    3
   else
    bif((bb .neq x0.s (⟨#[]⟩:ByteArray))&&(x0.kind != 4))then
     4
    else
     0
 let aF:Bool→Int:=fun v1=>
  bif v1 then
   bT (x0.n==0)
  else
   bif(x0.kind==1)then
    bT ((x0.n==0)||(x0.n==1))
   else
    bif(x0.kind==2)then
     bT (D8 x0.n)
    else
     bif(x0.kind==3)then
      bT ((decide (x0.n≥0))&&(decide (x0.n≤63)))
     else
      7
 let v1:=x0.kind==0
 bif v1 then
  aF v1
 else
  aF (x0.kind==4)
noncomputable def lX(x0:bH):ByteArray:=
 let aF:Int→Int→ByteArray→ByteArray:=fun v3 v4 v5=>
  let v6:=fB v3
  let bT:ByteArray→ByteArray:=fun bl=>
   bl
  let aF:Bool→ByteArray:=fun bl=>
   bif bl then
    bT (ByteArray.append v6 (fB v4))
   else
    bif(v3==4)then
     bT (ByteArray.append v6 (hB v5))
    else
     bT v6
  let bl:=v3==1
  bif bl then
   aF bl
  else
   let bK:=v3==2
   bif bK then
    aF bK
   else
    aF (v3==3)
 bif((eP x0) != 0)then
  aF (0:Int) (0:Int) (⟨#[]⟩:ByteArray)
 else
  aF x0.kind x0.n x0.s
def El(x0:bH):Prop:=
 let aF:Int→Int→ByteArray→Prop:=fun v3 v4 v5=>
  let v6:=fB v3
  (nZ v3)∧
  let aF:Bool→Prop:=fun bl=>
   (bl=true→(
    let v9:=fB v4
    (nZ v4)∧
    ByteArray.size v6+ByteArray.size v9≤9223372036854775807))∧(bl=false→(
    ((v3==4)=true→(
     let v10:=hB v5
     (rF v5)∧
     ByteArray.size v6+ByteArray.size v10≤9223372036854775807))))
  let bl:=v3==1
  (bl=true→(
   aF bl))∧(bl=false→(
   let bK:=v3==2
   (bK=true→(
    aF bK))∧(bK=false→(
    aF (v3==3)))))
 (((eP x0) != 0)=true→(
  aF (0:Int) (0:Int) (⟨#[]⟩:ByteArray)))∧(((eP x0) != 0)=false→(
  aF x0.kind x0.n x0.s))
noncomputable def eZ(x0:dD):ByteArray:=
 let b2:=ByteArray.append (ByteArray.append (ByteArray.append (ByteArray.append (ByteArray.append (ByteArray.append (fB x0.kind) (fB x0.cW)) (fB x0.key.dev)) (hB x0.key.bm)) (hB x0.key.attr)) (hB x0.name)) (lX ⟨x0.value.kind,x0.value.n,x0.value.s⟩)
 (ByteArray.append b2 (hB x0.text))
def AM(x0:dD):Prop:=
 let v1:=fB x0.kind
 (nZ x0.kind)∧
 let v2:=fB x0.cW
 (nZ x0.cW)∧
 let v3:=ByteArray.append v1 v2
 (ByteArray.size v1+ByteArray.size v2≤9223372036854775807)∧
 let v4:=fB x0.key.dev
 (nZ x0.key.dev)∧
 let v5:=ByteArray.append v3 v4
 (ByteArray.size v3+ByteArray.size v4≤9223372036854775807)∧
 let v6:=hB x0.key.bm
 (rF x0.key.bm)∧
 let bl:=ByteArray.append v5 v6
 (ByteArray.size v5+ByteArray.size v6≤9223372036854775807)∧
 let bK:=hB x0.key.attr
 (rF x0.key.attr)∧
 let v9:=ByteArray.append bl bK
 (ByteArray.size bl+ByteArray.size bK≤9223372036854775807)∧
 let v10:=hB x0.name
 (rF x0.name)∧
 let v11:=ByteArray.append v9 v10
 (ByteArray.size v9+ByteArray.size v10≤9223372036854775807)∧
 let v12:=lX ⟨x0.value.kind,x0.value.n,x0.value.s⟩
 (El ⟨x0.value.kind,x0.value.n,x0.value.s⟩)∧
 let b2:=ByteArray.append v11 v12
 (ByteArray.size v11+ByteArray.size v12≤9223372036854775807)∧
 let ed:=hB x0.text
 (rF x0.text)∧
 ByteArray.size b2+ByteArray.size ed≤9223372036854775807
noncomputable def qk(x0:bf):bf:=
 let bT:Int→Int→Int→ByteArray→ByteArray→Int→Int→ByteArray→Int→ByteArray→ByteArray→ByteArray→Int→Int→Int→ByteArray→ByteArray→ByteArray→Int→Int→ByteArray→ByteArray→bf:=fun v3 v4 v5 v6 bl bK v9 v10 v11 v12 b2 ed e7 cR dM da c2 v20 v21 eS pq v24=>
  ⟨x0.kind,v3,v4,⟨v5,v6,bl⟩,⟨bK,v9,v10⟩,⟨v11,v12,b2⟩,⟨ed,⟨e7,cR,⟨dM,da,c2⟩,v20,⟨v21,eS,pq⟩,v24⟩⟩⟩
 let aF:Bool→bf:=fun v1=>
  bif v1 then
   bT (0:Int) (0:Int) x0.key.dev x0.key.bm x0.key.attr x0.value.kind x0.value.n x0.value.s (0:Int) (⟨#[]⟩:ByteArray) (⟨#[]⟩:ByteArray) (⟨#[]⟩:ByteArray) (0:Int) (0:Int) (0:Int) (⟨#[]⟩:ByteArray) (⟨#[]⟩:ByteArray) (⟨#[]⟩:ByteArray) (0:Int) (0:Int) (⟨#[]⟩:ByteArray) (⟨#[]⟩:ByteArray)
  else
   bif(x0.kind==3)then
    bT (0:Int) (0:Int) (0:Int) (⟨#[]⟩:ByteArray) (⟨#[]⟩:ByteArray) (0:Int) (0:Int) (⟨#[]⟩:ByteArray) x0.event.dev x0.event.bm x0.event.name (⟨#[]⟩:ByteArray) (0:Int) (0:Int) (0:Int) (⟨#[]⟩:ByteArray) (⟨#[]⟩:ByteArray) (⟨#[]⟩:ByteArray) (0:Int) (0:Int) (⟨#[]⟩:ByteArray) (⟨#[]⟩:ByteArray)
   else
    bif(x0.kind==12)then
     bT (0:Int) (0:Int) (0:Int) (⟨#[]⟩:ByteArray) (⟨#[]⟩:ByteArray) (0:Int) (0:Int) (⟨#[]⟩:ByteArray) (0:Int) (⟨#[]⟩:ByteArray) (⟨#[]⟩:ByteArray) x0.asked.token x0.asked.request.kind x0.asked.request.cW x0.asked.request.key.dev x0.asked.request.key.bm x0.asked.request.key.attr x0.asked.request.name x0.asked.request.value.kind x0.asked.request.value.n x0.asked.request.value.s x0.asked.request.text
    else
     let aF:Bool→bf:=fun v5=>
      bif v5 then
       bT x0.n x0.m (0:Int) (⟨#[]⟩:ByteArray) (⟨#[]⟩:ByteArray) (0:Int) (0:Int) (⟨#[]⟩:ByteArray) (0:Int) (⟨#[]⟩:ByteArray) (⟨#[]⟩:ByteArray) (⟨#[]⟩:ByteArray) (0:Int) (0:Int) (0:Int) (⟨#[]⟩:ByteArray) (⟨#[]⟩:ByteArray) (⟨#[]⟩:ByteArray) (0:Int) (0:Int) (⟨#[]⟩:ByteArray) (⟨#[]⟩:ByteArray)
      else
       bif(x0.kind==14)then
        bT (0:Int) (0:Int) (0:Int) (⟨#[]⟩:ByteArray) (⟨#[]⟩:ByteArray) (0:Int) (0:Int) (⟨#[]⟩:ByteArray) (0:Int) (⟨#[]⟩:ByteArray) (⟨#[]⟩:ByteArray) (⟨#[]⟩:ByteArray) (0:Int) (0:Int) (0:Int) (⟨#[]⟩:ByteArray) (⟨#[]⟩:ByteArray) (⟨#[]⟩:ByteArray) (0:Int) (0:Int) (⟨#[]⟩:ByteArray) (⟨#[]⟩:ByteArray)
       else
        bT x0.n (0:Int) (0:Int) (⟨#[]⟩:ByteArray) (⟨#[]⟩:ByteArray) (0:Int) (0:Int) (⟨#[]⟩:ByteArray) (0:Int) (⟨#[]⟩:ByteArray) (⟨#[]⟩:ByteArray) (⟨#[]⟩:ByteArray) (0:Int) (0:Int) (0:Int) (⟨#[]⟩:ByteArray) (⟨#[]⟩:ByteArray) (⟨#[]⟩:ByteArray) (0:Int) (0:Int) (⟨#[]⟩:ByteArray) (⟨#[]⟩:ByteArray)
     let v5:=x0.kind==8
     bif v5 then
      aF v5
     else
      aF (x0.kind==9)
 let v1:=x0.kind==2
 bif v1 then
  aF v1
 else
  aF (x0.kind==13)
noncomputable def jE(x0:bf):Int:=
 let aF:Int→Int:=fun v1=>
  bif((((decide (x0.n<v1))||(decide (x0.n>1099511627776)))||(decide (x0.m<0)))||(decide (x0.m>1099511627776)))then
   2
  else
   let bT:Int→Int:=fun v10=>
    bif((decide (v10<1))||(decide (v10>250)))then
     2
    else
     0
   let aF:Bool→Int:=fun v10=>
    bif v10 then
     bT x0.key.dev
    else
     bif(x0.kind==3)then
      bT x0.event.dev
     else
      bT (1:Int)
   let v10:=x0.kind==2
   bif v10 then
    aF v10
   else
    aF (x0.kind==13)
 bif(x0.kind==11)then
  aF ((-1):Int)
 else
  aF (0:Int)
noncomputable def nt(x0:Rd):Rd × Int:=
 bif !x0.made then
  (x0,15)
 else
  (x0,x0.err)
noncomputable def xD(x0:ByteArray):Int × Int × Int:=
 let v1:Int:=(ByteArray.size x0:Int)
 Sum.elim (fun r=>r) (fun bj=>
  (0,0,5))
 (bV (fun(i3:Nat) (aA:Int)=>
  show Step (Int × Int × Int) (Int)from
  let v5:Int:=aC x0 (i3:Int)
  bif(((decide ((i3:Int)>0))&&(v5==0))||(((i3:Int)==9)&&(decide (v5>1))))then
   .ret (0,0,4)
  else
   let dM:Int:=aZ .or .u64 aA (aZ .shl .u64 (IntKind.wrap .u64 (aZ .and .u8 v5 (127:Int))) (IntKind.wrap .i64 ((7:Int)*(i3:Int))))
   bif(decide (v5<128))then
    .ret (dM,(IntKind.wrap .i64 ((i3:Int)+(1:Int))),0)
   else
    .bx dM) 0 (Int.toNat v1) 0:(Int × Int × Int)⊕(Int))
def Ea(x0:ByteArray):Prop:=
 let v1:Int:=(ByteArray.size x0:Int)
 (0≤v1∧v1<(9223372036854775808:Int))∧
 ∃b1:Nat→(Int)→Prop,b1 0 0∧∀(i3:Nat) (d0:Int),i3<Int.toNat v1→b1 i3 d0→(
  let v5:Int:=aC x0 (i3:Int)
  ((((decide ((i3:Int)>0))&&(v5==0))||(((i3:Int)==9)&&(decide (v5>1))))=false→(
   let ed:Int:=IntKind.wrap .u64 (aZ .and .u8 v5 (127:Int))
   let e7:Int:=IntKind.wrap .i64 ((7:Int)*(i3:Int))
   (0≤e7)∧
   let dM:Int:=aZ .or .u64 d0 (aZ .shl .u64 ed e7)
   ((decide (v5<128))=false→(
    b1 (i3+1) dM)))))
noncomputable def il(x0:Rd):Rd × Int:=
 let v1:=nt x0
 bif(v1.2 != 0)then
  (v1.1,0)
 else
  let v5:=xD v1.1.rest
  bif(v5.2.2 != 0)then
   (⟨v1.1.rest,v5.2.2,v1.1.made⟩,0)
  else
   (⟨(bw v1.1.rest (some v5.2.1) none),v1.1.err,v1.1.made⟩,(aZ .xor .i64 (IntKind.wrap .i64 (aZ .shr .u64 v5.1 (1:Int))) (IntKind.wrap .i64 (0-(IntKind.wrap .i64 (aZ .and .u64 v5.1 (1:Int)))))))
def qe(x0:Rd):Prop:=
 let v1:=nt x0
 ((v1.2 != 0)=false→(
  let v5:=xD v1.1.rest
  (Ea v1.1.rest)∧
  ((v5.2.2 != 0)=false→(
   eo (ByteArray.size v1.1.rest) (some v5.2.1) none))))
noncomputable def xF(x0:Rd)(cj:Int):Rd × Int:=
 let v2:=il x0
 let v5:=nt v2.1
 bif(v5.2 != 0)then
  (v5.1,0)
 else
  bif(decide (v2.2<0))then
   (⟨v5.1.rest,4,v5.1.made⟩,0)
  else
   bif(decide (v2.2>(b4.den (.mx .i64) cj (0:Int))))then
    (⟨v5.1.rest,3,v5.1.made⟩,0)
   else
    (v5.1,v2.2)
def Eb(x0:Rd)(cj:Int):Prop:=
 let v2:=il x0
 qe x0
noncomputable def iF(x0:Rd)(cj:Int):Rd × ByteArray:=
 let v2:=xF x0 cj
 let v5:=nt v2.1
 bif(v5.2 != 0)then
  (v5.1,⟨#[]⟩)
 else
  bif(decide (v2.2>(ByteArray.size v5.1.rest:Int)))then
   (⟨v5.1.rest,5,v5.1.made⟩,⟨#[]⟩)
  else
   (⟨(bw v5.1.rest (some v2.2) none),v5.1.err,v5.1.made⟩,(bw v5.1.rest none (some v2.2)))
def s9(x0:Rd)(cj:Int):Prop:=
 let v2:=xF x0 cj
 (Eb x0 cj)∧
 let v5:=nt v2.1
 ((v5.2 != 0)=false→(
  ((decide (v2.2>(ByteArray.size v5.1.rest:Int)))=false→(
   (eo (ByteArray.size v5.1.rest) none (some v2.2))∧
   eo (ByteArray.size v5.1.rest) (some v2.2) none))))
noncomputable def Ay(x0:Rd)(cj:Int):Rd:=
 let v2:=nt x0
 bif(v2.2==0)then
  ⟨v2.1.rest,cj,v2.1.made⟩
 else
  v2.1
noncomputable def s5(x0:Rd):Rd × bH:=
 let v1:=il x0
 let bT:Int→ByteArray→ByteArray→Int→Bool→Rd × bH:=fun v6 bl bK v9 v10=>
  let aF:ByteArray→Int→Bool→Rd × bH:=fun b2 ed e7=>
   let cR:=nt ⟨b2,ed,e7⟩
   bif(cR.2 != 0)then
    (cR.1,⟨0,0,⟨#[]⟩⟩)
   else
    (cR.1,⟨v1.2,v6,bl⟩)
  bif((eP ⟨v1.2,v6,bl⟩) != 0)then
   let b2:=Ay ⟨bK,v9,v10⟩ (4:Int)
   aF b2.rest b2.err b2.made
  else
   aF bK v9 v10
 let aF:Bool→Rd × bH:=fun v4=>
  bif v4 then
   let v6:=il v1.1
   bT v6.2 (⟨#[]⟩:ByteArray) v6.1.rest v6.1.err v6.1.made
  else
   bif(v1.2==4)then
    let bl:=iF v1.1 (60:Int)
    bT (0:Int) bl.2 bl.1.rest bl.1.err bl.1.made
   else
    bT (0:Int) (⟨#[]⟩:ByteArray) v1.1.rest v1.1.err v1.1.made
 let v4:=v1.2==1
 bif v4 then
  aF v4
 else
  let v5:=v1.2==2
  bif v5 then
   aF v5
  else
   aF (v1.2==3)
def AD(x0:Rd):Prop:=
 let v1:=il x0
 (qe x0)∧
 let aF:Bool→Prop:=fun v4=>
  (v4=true→(
   let v6:=il v1.1
   qe v1.1))∧(v4=false→(
   ((v1.2==4)=true→(
    let bl:=iF v1.1 (60:Int)
    s9 v1.1 (60:Int)))))
 let v4:=v1.2==1
 (v4=true→(
  aF v4))∧(v4=false→(
  let v5:=v1.2==2
  (v5=true→(
   aF v5))∧(v5=false→(
   aF (v1.2==3)))))
noncomputable def D9(x0:Rd):Rd × Int:=
 let v1:=nt x0
 bif(v1.2 != 0)then
  (v1.1,0)
 else
  (v1.1,(ByteArray.size v1.1.rest:Int))
noncomputable def Az(x0:Rd):Rd × Int:=
 let v1:=D9 x0
 bif(decide (v1.2>0))then
  (v1.1,23)
 else
  let v5:=nt v1.1
  (v5.1,v5.2)
noncomputable def Ec(x0:dD):Int:=
 bif((decide (x0.kind<1))||(decide (x0.kind>7)))then
  7
 else
  0
noncomputable def Ed(x0:dD):Int:=
 bif((decide (x0.cW<0))||(decide (x0.cW>1099511627776)))then
  2
 else
  0
noncomputable def hC(x0:ByteArray):dD × Int:=
 let v1:=il ⟨x0,0,true⟩
 let v4:=il v1.1
 let bl:=il v4.1
 let v10:=iF bl.1 (24:Int)
 let b2:=iF v10.1 (24:Int)
 let cR:=iF b2.1 (24:Int)
 let c2:=s5 cR.1
 let eS:=iF c2.1 (20000:Int)
 let aF:Int→dD × Int:=fun c3=>
  bif(c3 != 0)then
   (⟨0,0,⟨0,⟨#[]⟩,⟨#[]⟩⟩,⟨#[]⟩,⟨0,0,⟨#[]⟩⟩,⟨#[]⟩⟩,c3)
  else
   (⟨v1.2,v4.2,⟨bl.2,v10.2,b2.2⟩,cR.2,⟨c2.2.kind,c2.2.n,c2.2.s⟩,eS.2⟩,0)
 let c3:=Az eS.1
 bif(c3.2 != 0)then
  aF c3.2
 else
  let jk:=Ec ⟨v1.2,v4.2,⟨bl.2,v10.2,b2.2⟩,cR.2,⟨c2.2.kind,c2.2.n,c2.2.s⟩,eS.2⟩
  bif(jk != 0)then
   aF jk
  else
   let v31:=Ed ⟨v1.2,v4.2,⟨bl.2,v10.2,b2.2⟩,cR.2,⟨c2.2.kind,c2.2.n,c2.2.s⟩,eS.2⟩
   bif(v31 != 0)then
    aF v31
   else
    aF (0:Int)
def vb(x0:ByteArray):Prop:=
 let v1:=il ⟨x0,0,true⟩
 (qe ⟨x0,0,true⟩)∧
 let v4:=il v1.1
 (qe v1.1)∧
 let bl:=il v4.1
 (qe v4.1)∧
 let v10:=iF bl.1 (24:Int)
 (s9 bl.1 (24:Int))∧
 let b2:=iF v10.1 (24:Int)
 (s9 v10.1 (24:Int))∧
 let cR:=iF b2.1 (24:Int)
 (s9 b2.1 (24:Int))∧
 let c2:=s5 cR.1
 (AD cR.1)∧
 let eS:=iF c2.1 (20000:Int)
 s9 c2.1 (20000:Int)
noncomputable def Fl(x0:Int):Bool:=
 ((decide (x0≥97))&&(decide (x0≤122)))
noncomputable def kn(x0:ByteArray):Bool:=
 bif((decide ((ByteArray.size x0:Int)<1))||(decide ((ByteArray.size x0:Int)>24)))then
  false
 else
  Sum.elim (fun r=>r) (fun bj=>
   true)
  (b9 (fun(aA:Int)=>
   show Step (Bool) (Int)from
   let v9:Int:=b4.den .ji x0 aA
   bif(b4.den .jh x0 aA)then
    bif((!(Fl v9))&&(((b4.den .km x0 aA)==0)||(((v9 != 95)&&(v9 != 45))&&((decide (v9<48))||(decide (v9>57))))))then
     .ret false
    else
     .bx (b4.den .hY x0 aA)
   else
    .b7 aA) cu 0:Bool⊕(Int))
def vd(x0:ByteArray):Prop:=
 (((decide ((ByteArray.size x0:Int)<1))||(decide ((ByteArray.size x0:Int)>24)))=false→(
  ∃(b1:(Int)→Prop) (dL:(Int)→Nat),b1 0∧dL 0<cu∧∀(d0:Int),b1 d0→(
   let v9:Int:=b4.den .ji x0 d0
   ((b4.den .jh x0 d0)=true→(
    (((!(Fl v9))&&(((b4.den .km x0 d0)==0)||(((v9 != 95)&&(v9 != 45))&&((decide (v9<48))||(decide (v9>57))))))=false→(
     b1 (b4.den .hY x0 d0)∧dL (b4.den .hY x0 d0)<dL d0)))))))
noncomputable def ve(x0:ByteArray):Bool:=
 Sum.elim (fun r=>r) (fun bj=>
  ((decide ((ByteArray.size x0:Int)≥1))&&(decide ((ByteArray.size x0:Int)≤1000))))
 (b9 (fun(aA:Int)=>
  show Step (Bool) (Int)from
  let v4:Int:=b4.den .ji x0 aA
  bif(b4.den .jh x0 aA)then
   bif((decide (v4<33))||(decide (v4>126)))then
    .ret false
   else
    .bx (b4.den .hY x0 aA)
  else
   .b7 aA) cu 0:Bool⊕(Int))
def Ej(x0:ByteArray):Prop:=
 ∃(b1:(Int)→Prop) (dL:(Int)→Nat),b1 0∧dL 0<cu∧∀(d0:Int),b1 d0→(
  let v4:Int:=b4.den .ji x0 d0
  ((b4.den .jh x0 d0)=true→(
   (((decide (v4<33))||(decide (v4>126)))=false→(
    b1 (b4.den .hY x0 d0)∧dL (b4.den .hY x0 d0)<dL d0)))))
noncomputable def pf(x0:bf):Int:=
 let bT:Int:=
  0
 let aF:Bool→Int:=fun v1=>
  bif v1 then
   let v4:=!(kn x0.key.bm)
   let aF:Bool→Int:=fun v5=>
    bif(v4||(!v5))then
     10
    else
     let bK:=eP ⟨x0.value.kind,x0.value.n,x0.value.s⟩
     bif(bK != 0)then
      bK
     else
      bif(x0.value.kind==0)then
       4
      else
       bT
   bif v4 then
    aF false
   else
    aF (kn x0.key.attr)
  else
   bif(x0.kind==3)then
    let v5:=!(kn x0.event.bm)
    let aF:Bool→Int:=fun v6=>
     bif(v5||(!v6))then
      10
     else
      bT
    bif v5 then
     aF false
    else
     aF (kn x0.event.name)
   else
    bif(x0.kind==12)then
     let v5:=eZ ⟨x0.asked.request.kind,x0.asked.request.cW,⟨x0.asked.request.key.dev,x0.asked.request.key.bm,x0.asked.request.key.attr⟩,x0.asked.request.name,⟨x0.asked.request.value.kind,x0.asked.request.value.n,x0.asked.request.value.s⟩,x0.asked.request.text⟩
     let v6:=hC v5
     let v10:=!(bif v6.1.kind==x0.asked.request.kind then bif v6.1.cW==x0.asked.request.cW then bif v6.1.key.dev==x0.asked.request.key.dev then bif bn v6.1.key.bm x0.asked.request.key.bm then bif bn v6.1.key.attr x0.asked.request.key.attr then bif bn v6.1.name x0.asked.request.name then bif v6.1.value.kind==x0.asked.request.value.kind then bif v6.1.value.n==x0.asked.request.value.n then bif bn v6.1.value.s x0.asked.request.value.s then bn v6.1.text x0.asked.request.text else false else false else false else false else false else false else false else false else false)
     let v11:Bool:=(v6.2 != 0)||v10
     let aF:Bool→Int:=fun v12=>
      bif(v11||(!v12))then
       4
      else
       bT
     bif v11 then
      aF false
     else
      aF (ve x0.asked.token)
    else
     bT
 let v1:=x0.kind==2
 bif v1 then
  aF v1
 else
  aF (x0.kind==13)
def A1(x0:bf):Prop:=
 let aF:Bool→Prop:=fun v1=>
  (v1=true→(
   (vd x0.key.bm)∧
   let v4:=!(kn x0.key.bm)
   (v4=false→(
    vd x0.key.attr))))∧(v1=false→(
   ((x0.kind==3)=true→(
    (vd x0.event.bm)∧
    let v5:=!(kn x0.event.bm)
    (v5=false→(
     vd x0.event.name))))∧((x0.kind==3)=false→(
    ((x0.kind==12)=true→(
     let v5:=eZ ⟨x0.asked.request.kind,x0.asked.request.cW,⟨x0.asked.request.key.dev,x0.asked.request.key.bm,x0.asked.request.key.attr⟩,x0.asked.request.name,⟨x0.asked.request.value.kind,x0.asked.request.value.n,x0.asked.request.value.s⟩,x0.asked.request.text⟩
     (AM ⟨x0.asked.request.kind,x0.asked.request.cW,⟨x0.asked.request.key.dev,x0.asked.request.key.bm,x0.asked.request.key.attr⟩,x0.asked.request.name,⟨x0.asked.request.value.kind,x0.asked.request.value.n,x0.asked.request.value.s⟩,x0.asked.request.text⟩)∧
     let v6:=hC v5
     (vb v5)∧
     let v10:=!(bif v6.1.kind==x0.asked.request.kind then bif v6.1.cW==x0.asked.request.cW then bif v6.1.key.dev==x0.asked.request.key.dev then bif bn v6.1.key.bm x0.asked.request.key.bm then bif bn v6.1.key.attr x0.asked.request.key.attr then bif bn v6.1.name x0.asked.request.name then bif v6.1.value.kind==x0.asked.request.value.kind then bif v6.1.value.n==x0.asked.request.value.n then bif bn v6.1.value.s x0.asked.request.value.s then bn v6.1.text x0.asked.request.text else false else false else false else false else false else false else false else false else false)
     let v11:Bool:=(v6.2 != 0)||v10
     (v11=false→(
      Ej x0.asked.token))))))))
 let v1:=x0.kind==2
 (v1=true→(
  aF v1))∧(v1=false→(
  aF (x0.kind==13)))
def pk:Nat→Nat→List UInt8
 |0,_=>[]
 |f+1,u=>bif Nat.blt u 10 then[UInt8.ofNat (48+u)]else pk f (u/ 10)++[UInt8.ofNat (48+u%10)]
def fI(n:Int):ByteArray:=⟨(bif decide (n<0)then 45::pk 20 n.natAbs else pk 20 n.toNat).toArray⟩
def No(n:Int):ByteArray:=fI n
def Bq(n:Int):Prop:= -9223372036854775808≤n∧n≤9223372036854775807
noncomputable def e6(x0:Int):ByteArray:=
 (No x0)
def rU(x0:Int):Prop:=
 Bq x0
noncomputable def hg(x0:Int)(cj:ByteArray)(kr:ByteArray):ByteArray:=
 (ByteArray.append (ByteArray.append (ByteArray.append (ByteArray.append (e6 x0) (⟨#[46]⟩:ByteArray)) cj) (⟨#[46]⟩:ByteArray)) kr)
def A0(x0:Int)(cj:ByteArray)(kr:ByteArray):Prop:=
 let v3:=e6 x0
 (rU x0)∧
 let v4:=ByteArray.append v3 (⟨#[46]⟩:ByteArray)
 (ByteArray.size v3+ByteArray.size (⟨#[46]⟩:ByteArray)≤9223372036854775807)∧
 let v5:=ByteArray.append v4 cj
 (ByteArray.size v4+ByteArray.size cj≤9223372036854775807)∧
 let v6:=ByteArray.append v5 (⟨#[46]⟩:ByteArray)
 (ByteArray.size v5+ByteArray.size (⟨#[46]⟩:ByteArray)≤9223372036854775807)∧
 ByteArray.size v6+ByteArray.size kr≤9223372036854775807
noncomputable def vk(x0:h4):ByteArray:=
 (hg x0.dev x0.bm x0.attr)
def Np(x0:h4):Prop:=
 A0 x0.dev x0.bm x0.attr
noncomputable def lv(x0:Int):ByteArray:=
 bif((x0==34)||(x0==92))then
  (ByteArray.append (⟨#[92]⟩:ByteArray) (bytesOf ([x0]:List Int)))
 else
  bif((decide (x0<32))||(decide (x0>126)))then
   let v11:=ByteArray.append (⟨#[92,120]⟩:ByteArray) (bw (⟨#[48,49,50,51,52,53,54,55,56,57,97,98,99,100,101,102]⟩:ByteArray) (some (aZ .shr .u8 x0 (4:Int))) (some (IntKind.wrap .u8 ((aZ .shr .u8 x0 (4:Int))+(1:Int)))))
   let cR:=ByteArray.append v11 (bw (⟨#[48,49,50,51,52,53,54,55,56,57,97,98,99,100,101,102]⟩:ByteArray) (some (aZ .and .u8 x0 (15:Int))) (some (IntKind.wrap .u8 ((aZ .and .u8 x0 (15:Int))+(1:Int)))))
   cR
  else
   (bytesOf ([x0]:List Int))
def tj(x0:Int):Prop:=
 (((x0==34)||(x0==92))=true→(
  let v5:=bytesOf ([x0]:List Int)
  ByteArray.size (⟨#[92]⟩:ByteArray)+ByteArray.size v5≤9223372036854775807))∧(((x0==34)||(x0==92))=false→(
  (((decide (x0<32))||(decide (x0>126)))=true→(
   let bl:Int:=aZ .shr .u8 x0 (4:Int)
   let v9:Int:=IntKind.wrap .u8 ((aZ .shr .u8 x0 (4:Int))+(1:Int))
   let v10:=bw (⟨#[48,49,50,51,52,53,54,55,56,57,97,98,99,100,101,102]⟩:ByteArray) (some bl) (some v9)
   (eo (ByteArray.size (⟨#[48,49,50,51,52,53,54,55,56,57,97,98,99,100,101,102]⟩:ByteArray)) (some bl) (some v9))∧
   let v11:=ByteArray.append (⟨#[92,120]⟩:ByteArray) v10
   (ByteArray.size (⟨#[92,120]⟩:ByteArray)+ByteArray.size v10≤9223372036854775807)∧
   let v12:Int:=aZ .and .u8 x0 (15:Int)
   let ed:Int:=IntKind.wrap .u8 ((aZ .and .u8 x0 (15:Int))+(1:Int))
   let e7:=bw (⟨#[48,49,50,51,52,53,54,55,56,57,97,98,99,100,101,102]⟩:ByteArray) (some v12) (some ed)
   (eo (ByteArray.size (⟨#[48,49,50,51,52,53,54,55,56,57,97,98,99,100,101,102]⟩:ByteArray)) (some v12) (some ed))∧
   ByteArray.size v11+ByteArray.size e7≤9223372036854775807))))
noncomputable def AO(x0:ByteArray):ByteArray:=
 let v2:Int:=(ByteArray.size x0:Int)
 Sum.elim (fun r=>r) (fun bj=>
  (bytesOf (List.append bj (eQ.den .iH (⟨#[34]⟩:ByteArray)))))
 (bV (fun(i4:Nat) (aA:(List Int))=>
  show Step (ByteArray) ((List Int))from
  let bl:=lv (aC x0 (i4:Int))
  .bx (List.append aA (eQ.den .iH bl))) 0 (Int.toNat v2) (eQ.den .iH (⟨#[34]⟩:ByteArray)):ByteArray⊕((List Int)))
def Es(x0:ByteArray):Prop:=
 let v1:List Int:=eQ.den .iH (⟨#[34]⟩:ByteArray)
 (List.length ([]:List Int)+List.length v1≤maxLen∧(List.length ([]:List Int)+List.length v1)*1≤140737488355328)∧
 let v2:Int:=(ByteArray.size x0:Int)
 (0≤v2∧v2<(9223372036854775808:Int))∧
 let aR:(List Int)→Prop:=fun bj=>
  let v4:List Int:=eQ.den .iH (⟨#[34]⟩:ByteArray)
  List.length bj+List.length v4≤maxLen∧(List.length bj+List.length v4)*1≤140737488355328
 ∃b1:Nat→((List Int))→Prop,b1 0 v1∧(∀(i4:Nat) (d0:(List Int)),i4<Int.toNat v2→b1 i4 d0→(
  let v6:Int:=aC x0 (i4:Int)
  let bl:=lv v6
  (tj v6)∧
  let bK:List Int:=eQ.den .iH bl
  (List.length d0+List.length bK≤maxLen∧(List.length d0+List.length bK)*1≤140737488355328)∧
  b1 (i4+1) (List.append d0 bK)))∧∀bj,b1 (Int.toNat v2) bj→aR bj
noncomputable def fO(x0:bH):ByteArray:=
 bif((eP x0) != 0)then
  ⟨#[]⟩
 else
  bif(x0.kind==1)then
   bif(x0.n==1)then
    ⟨#[116,114,117,101]⟩
   else
    ⟨#[102,97,108,115,101]⟩
  else
   bif(x0.kind==2)then
    (e6 x0.n)
   else
    bif(x0.kind==3)then
     (ByteArray.append (⟨#[35]⟩:ByteArray) (e6 x0.n))
    else
     bif(x0.kind==4)then
      (AO x0.s)
     else
      ⟨#[110,111,110,101]⟩
def AR(x0:bH):Prop:=
 (((eP x0) != 0)=false→(
  ((x0.kind==1)=false→(
   ((x0.kind==2)=true→(
    rU x0.n))∧((x0.kind==2)=false→(
    ((x0.kind==3)=true→(
     let v6:=e6 x0.n
     (rU x0.n)∧
     ByteArray.size (⟨#[35]⟩:ByteArray)+ByteArray.size v6≤9223372036854775807))∧((x0.kind==3)=false→(
     ((x0.kind==4)=true→(
      Es x0.s))))))))))
noncomputable def tl(x0:ByteArray):ByteArray:=
 let v1:Int:=aC (⟨#[48,49,50,51,52,53,54,55,56,57,97,98,99,100,101,102]⟩:ByteArray) (0:Int)
 let v2:Int:=aC (⟨#[48,49,50,51,52,53,54,55,56,57,97,98,99,100,101,102]⟩:ByteArray) (1:Int)
 let v3:Int:=aC (⟨#[48,49,50,51,52,53,54,55,56,57,97,98,99,100,101,102]⟩:ByteArray) (2:Int)
 let v4:Int:=aC (⟨#[48,49,50,51,52,53,54,55,56,57,97,98,99,100,101,102]⟩:ByteArray) (3:Int)
 let v5:Int:=aC (⟨#[48,49,50,51,52,53,54,55,56,57,97,98,99,100,101,102]⟩:ByteArray) (4:Int)
 let v6:Int:=aC (⟨#[48,49,50,51,52,53,54,55,56,57,97,98,99,100,101,102]⟩:ByteArray) (5:Int)
 let bl:Int:=aC (⟨#[48,49,50,51,52,53,54,55,56,57,97,98,99,100,101,102]⟩:ByteArray) (6:Int)
 let bK:Int:=aC (⟨#[48,49,50,51,52,53,54,55,56,57,97,98,99,100,101,102]⟩:ByteArray) (7:Int)
 let v9:Int:=aC (⟨#[48,49,50,51,52,53,54,55,56,57,97,98,99,100,101,102]⟩:ByteArray) (8:Int)
 let v10:Int:=aC (⟨#[48,49,50,51,52,53,54,55,56,57,97,98,99,100,101,102]⟩:ByteArray) (9:Int)
 let v11:Int:=aC (⟨#[48,49,50,51,52,53,54,55,56,57,97,98,99,100,101,102]⟩:ByteArray) (10:Int)
 let v12:Int:=aC (⟨#[48,49,50,51,52,53,54,55,56,57,97,98,99,100,101,102]⟩:ByteArray) (11:Int)
 let b2:Int:=aC (⟨#[48,49,50,51,52,53,54,55,56,57,97,98,99,100,101,102]⟩:ByteArray) (12:Int)
 let ed:Int:=aC (⟨#[48,49,50,51,52,53,54,55,56,57,97,98,99,100,101,102]⟩:ByteArray) (13:Int)
 let e7:Int:=aC (⟨#[48,49,50,51,52,53,54,55,56,57,97,98,99,100,101,102]⟩:ByteArray) (14:Int)
 let cR:Int:=aC (⟨#[48,49,50,51,52,53,54,55,56,57,97,98,99,100,101,102]⟩:ByteArray) (15:Int)
 let dM:Int:=(ByteArray.size x0:Int)
 Sum.elim (fun r=>r) (fun bj=>
  (bytesOf bj))
 (bV (fun(i21:Nat) (aA:(List Int))=>
  show Step (ByteArray) ((List Int))from
  let jk:List Int:=([(hD ([v1,v2,v3,v4,v5,v6,bl,bK,v9,v10,v11,v12,b2,ed,e7,cR]:List Int) (Int.toNat (aZ .shr .u8 (aC x0 (i21:Int)) (4:Int)))),(hD ([v1,v2,v3,v4,v5,v6,bl,bK,v9,v10,v11,v12,b2,ed,e7,cR]:List Int) (Int.toNat (aZ .and .u8 (aC x0 (i21:Int)) (15:Int))))]:List Int)
  .bx (List.append aA jk)) 0 (Int.toNat dM) (List.replicate (Int.toNat (0:Int)) (fJ .u8)):ByteArray⊕((List Int)))
def Ey(x0:ByteArray):Prop:=
 let v1:Int:=aC (⟨#[48,49,50,51,52,53,54,55,56,57,97,98,99,100,101,102]⟩:ByteArray) (0:Int)
 (0≤(0:Int)∧(0:Int)<(ByteArray.size (⟨#[48,49,50,51,52,53,54,55,56,57,97,98,99,100,101,102]⟩:ByteArray):Int))∧
 let v2:Int:=aC (⟨#[48,49,50,51,52,53,54,55,56,57,97,98,99,100,101,102]⟩:ByteArray) (1:Int)
 (0≤(1:Int)∧(1:Int)<(ByteArray.size (⟨#[48,49,50,51,52,53,54,55,56,57,97,98,99,100,101,102]⟩:ByteArray):Int))∧
 let v3:Int:=aC (⟨#[48,49,50,51,52,53,54,55,56,57,97,98,99,100,101,102]⟩:ByteArray) (2:Int)
 (0≤(2:Int)∧(2:Int)<(ByteArray.size (⟨#[48,49,50,51,52,53,54,55,56,57,97,98,99,100,101,102]⟩:ByteArray):Int))∧
 let v4:Int:=aC (⟨#[48,49,50,51,52,53,54,55,56,57,97,98,99,100,101,102]⟩:ByteArray) (3:Int)
 (0≤(3:Int)∧(3:Int)<(ByteArray.size (⟨#[48,49,50,51,52,53,54,55,56,57,97,98,99,100,101,102]⟩:ByteArray):Int))∧
 let v5:Int:=aC (⟨#[48,49,50,51,52,53,54,55,56,57,97,98,99,100,101,102]⟩:ByteArray) (4:Int)
 (0≤(4:Int)∧(4:Int)<(ByteArray.size (⟨#[48,49,50,51,52,53,54,55,56,57,97,98,99,100,101,102]⟩:ByteArray):Int))∧
 let v6:Int:=aC (⟨#[48,49,50,51,52,53,54,55,56,57,97,98,99,100,101,102]⟩:ByteArray) (5:Int)
 (0≤(5:Int)∧(5:Int)<(ByteArray.size (⟨#[48,49,50,51,52,53,54,55,56,57,97,98,99,100,101,102]⟩:ByteArray):Int))∧
 let bl:Int:=aC (⟨#[48,49,50,51,52,53,54,55,56,57,97,98,99,100,101,102]⟩:ByteArray) (6:Int)
 (0≤(6:Int)∧(6:Int)<(ByteArray.size (⟨#[48,49,50,51,52,53,54,55,56,57,97,98,99,100,101,102]⟩:ByteArray):Int))∧
 let bK:Int:=aC (⟨#[48,49,50,51,52,53,54,55,56,57,97,98,99,100,101,102]⟩:ByteArray) (7:Int)
 (0≤(7:Int)∧(7:Int)<(ByteArray.size (⟨#[48,49,50,51,52,53,54,55,56,57,97,98,99,100,101,102]⟩:ByteArray):Int))∧
 let v9:Int:=aC (⟨#[48,49,50,51,52,53,54,55,56,57,97,98,99,100,101,102]⟩:ByteArray) (8:Int)
 (0≤(8:Int)∧(8:Int)<(ByteArray.size (⟨#[48,49,50,51,52,53,54,55,56,57,97,98,99,100,101,102]⟩:ByteArray):Int))∧
 let v10:Int:=aC (⟨#[48,49,50,51,52,53,54,55,56,57,97,98,99,100,101,102]⟩:ByteArray) (9:Int)
 (0≤(9:Int)∧(9:Int)<(ByteArray.size (⟨#[48,49,50,51,52,53,54,55,56,57,97,98,99,100,101,102]⟩:ByteArray):Int))∧
 let v11:Int:=aC (⟨#[48,49,50,51,52,53,54,55,56,57,97,98,99,100,101,102]⟩:ByteArray) (10:Int)
 (0≤(10:Int)∧(10:Int)<(ByteArray.size (⟨#[48,49,50,51,52,53,54,55,56,57,97,98,99,100,101,102]⟩:ByteArray):Int))∧
 let v12:Int:=aC (⟨#[48,49,50,51,52,53,54,55,56,57,97,98,99,100,101,102]⟩:ByteArray) (11:Int)
 (0≤(11:Int)∧(11:Int)<(ByteArray.size (⟨#[48,49,50,51,52,53,54,55,56,57,97,98,99,100,101,102]⟩:ByteArray):Int))∧
 let b2:Int:=aC (⟨#[48,49,50,51,52,53,54,55,56,57,97,98,99,100,101,102]⟩:ByteArray) (12:Int)
 (0≤(12:Int)∧(12:Int)<(ByteArray.size (⟨#[48,49,50,51,52,53,54,55,56,57,97,98,99,100,101,102]⟩:ByteArray):Int))∧
 let ed:Int:=aC (⟨#[48,49,50,51,52,53,54,55,56,57,97,98,99,100,101,102]⟩:ByteArray) (13:Int)
 (0≤(13:Int)∧(13:Int)<(ByteArray.size (⟨#[48,49,50,51,52,53,54,55,56,57,97,98,99,100,101,102]⟩:ByteArray):Int))∧
 let e7:Int:=aC (⟨#[48,49,50,51,52,53,54,55,56,57,97,98,99,100,101,102]⟩:ByteArray) (14:Int)
 (0≤(14:Int)∧(14:Int)<(ByteArray.size (⟨#[48,49,50,51,52,53,54,55,56,57,97,98,99,100,101,102]⟩:ByteArray):Int))∧
 let cR:Int:=aC (⟨#[48,49,50,51,52,53,54,55,56,57,97,98,99,100,101,102]⟩:ByteArray) (15:Int)
 (0≤(15:Int)∧(15:Int)<(ByteArray.size (⟨#[48,49,50,51,52,53,54,55,56,57,97,98,99,100,101,102]⟩:ByteArray):Int))∧
 let dM:Int:=(ByteArray.size x0:Int)
 (0≤(0:Int)∧(0:Int)≤(IntKind.wrap .i64 ((2:Int)*dM))∧(IntKind.wrap .i64 ((2:Int)*dM))≤(maxLen:Int)∧(1:Int)*(IntKind.wrap .i64 ((2:Int)*dM))≤281474976710656)∧
 (0≤dM∧dM<(9223372036854775808:Int))∧
 ∃b1:Nat→((List Int))→Prop,b1 0 (List.replicate (Int.toNat (0:Int)) (fJ .u8))∧∀(i21:Nat) (d0:(List Int)),i21<Int.toNat dM→b1 i21 d0→(
  let v24:Int:=aZ .shr .u8 (aC x0 (i21:Int)) (4:Int)
  (0≤v24∧v24<(16:Int))∧
  (0≤v24∧v24<(16:Int))∧
  let gz:Int:=aZ .and .u8 (aC x0 (i21:Int)) (15:Int)
  (0≤gz∧gz<(16:Int))∧
  (0≤gz∧gz<(16:Int))∧
  let jk:List Int:=([(hD ([v1,v2,v3,v4,v5,v6,bl,bK,v9,v10,v11,v12,b2,ed,e7,cR]:List Int) (Int.toNat v24)),(hD ([v1,v2,v3,v4,v5,v6,bl,bK,v9,v10,v11,v12,b2,ed,e7,cR]:List Int) (Int.toNat gz))]:List Int)
  (List.length d0+List.length jk≤maxLen∧(List.length d0+List.length jk)*1≤140737488355328)∧
  b1 (i21+1) (List.append d0 jk))
noncomputable def m13(x0:bf):ByteArray × Int:=
 bif((decide (x0.kind<1))||(decide (x0.kind>16)))then
  (⟨#[]⟩,7)
 else
  let v4:=qk x0
  let v5:=!(bif v4.kind==x0.kind then bif v4.n==x0.n then bif v4.m==x0.m then bif v4.key.dev==x0.key.dev then bif bn v4.key.bm x0.key.bm then bif bn v4.key.attr x0.key.attr then bif v4.value.kind==x0.value.kind then bif v4.value.n==x0.value.n then bif bn v4.value.s x0.value.s then bif v4.event.dev==x0.event.dev then bif bn v4.event.bm x0.event.bm then bif bn v4.event.name x0.event.name then bif bn v4.asked.token x0.asked.token then bif v4.asked.request.kind==x0.asked.request.kind then bif v4.asked.request.cW==x0.asked.request.cW then bif v4.asked.request.key.dev==x0.asked.request.key.dev then bif bn v4.asked.request.key.bm x0.asked.request.key.bm then bif bn v4.asked.request.key.attr x0.asked.request.key.attr then bif bn v4.asked.request.name x0.asked.request.name then bif v4.asked.request.value.kind==x0.asked.request.value.kind then bif v4.asked.request.value.n==x0.asked.request.value.n then bif bn v4.asked.request.value.s x0.asked.request.value.s then bn v4.asked.request.text x0.asked.request.text else false else false else false else false else false else false else false else false else false else false else false else false else false else false else false else false else false else false else false else false else false else false)
  bif v5 then
   (⟨#[]⟩,1)
  else
   let v6:=jE x0
   bif(v6 != 0)then
    (⟨#[]⟩,v6)
   else
    let bK:=pf x0
    bif(bK != 0)then
     (⟨#[]⟩,bK)
    else
     let v11:ByteArray:=hD ([⟨#[116,105,99,107]⟩,⟨#[115,101,110,115,101]⟩,⟨#[101,118,101,110,116]⟩,⟨#[110,111,105,115,101]⟩,⟨#[113,117,105,101,116]⟩,⟨#[111,102,102]⟩,⟨#[111,110]⟩,⟨#[99,117,116]⟩,⟨#[106,111,105,110]⟩,⟨#[99,114,97,115,104]⟩,⟨#[99,108,111,99,107]⟩,⟨#[97,115,107]⟩,⟨#[101,110,101,114,103,121]⟩,⟨#[109,111,118,101]⟩,⟨#[108,111,115,101]⟩,⟨#[116,119,105,99,101]⟩]:List ByteArray) (Int.toNat (IntKind.wrap .i64 (x0.kind-(1:Int))))
     let aF:Bool→ByteArray × Int:=fun v12=>
      bif v12 then
       let c2:=ByteArray.append (ByteArray.append (ByteArray.append (ByteArray.append v11 (⟨#[32]⟩:ByteArray)) (vk ⟨x0.key.dev,x0.key.bm,x0.key.attr⟩)) (⟨#[32]⟩:ByteArray)) (fO ⟨x0.value.kind,x0.value.n,x0.value.s⟩)
       (c2,0)
      else
       bif(x0.kind==3)then
        ((ByteArray.append (ByteArray.append v11 (⟨#[32]⟩:ByteArray)) (hg x0.event.dev x0.event.bm x0.event.name)),0)
       else
        bif(x0.kind==12)then
         let c2:=eZ ⟨x0.asked.request.kind,x0.asked.request.cW,⟨x0.asked.request.key.dev,x0.asked.request.key.bm,x0.asked.request.key.attr⟩,x0.asked.request.name,⟨x0.asked.request.value.kind,x0.asked.request.value.n,x0.asked.request.value.s⟩,x0.asked.request.text⟩
         ((ByteArray.append (ByteArray.append (ByteArray.append (ByteArray.append v11 (⟨#[32]⟩:ByteArray)) x0.asked.token) (⟨#[32]⟩:ByteArray)) (tl c2)),0)
        else
         let aF:Bool→ByteArray × Int:=fun cR=>
          bif cR then
           ((ByteArray.append (ByteArray.append (ByteArray.append (ByteArray.append v11 (⟨#[32]⟩:ByteArray)) (e6 x0.n)) (⟨#[32]⟩:ByteArray)) (e6 x0.m)),0)
          else
           bif(x0.kind==14)then
            (v11,0)
           else
            ((ByteArray.append (ByteArray.append v11 (⟨#[32]⟩:ByteArray)) (e6 x0.n)),0)
         let cR:=x0.kind==8
         bif cR then
          aF cR
         else
          aF (x0.kind==9)
     let v12:=x0.kind==2
     bif v12 then
      aF v12
     else
      aF (x0.kind==13)
def xP(x0:bf):Prop:=
 (((decide (x0.kind<1))||(decide (x0.kind>16)))=false→(
  let v4:=qk x0
  let v5:=!(bif v4.kind==x0.kind then bif v4.n==x0.n then bif v4.m==x0.m then bif v4.key.dev==x0.key.dev then bif bn v4.key.bm x0.key.bm then bif bn v4.key.attr x0.key.attr then bif v4.value.kind==x0.value.kind then bif v4.value.n==x0.value.n then bif bn v4.value.s x0.value.s then bif v4.event.dev==x0.event.dev then bif bn v4.event.bm x0.event.bm then bif bn v4.event.name x0.event.name then bif bn v4.asked.token x0.asked.token then bif v4.asked.request.kind==x0.asked.request.kind then bif v4.asked.request.cW==x0.asked.request.cW then bif v4.asked.request.key.dev==x0.asked.request.key.dev then bif bn v4.asked.request.key.bm x0.asked.request.key.bm then bif bn v4.asked.request.key.attr x0.asked.request.key.attr then bif bn v4.asked.request.name x0.asked.request.name then bif v4.asked.request.value.kind==x0.asked.request.value.kind then bif v4.asked.request.value.n==x0.asked.request.value.n then bif bn v4.asked.request.value.s x0.asked.request.value.s then bn v4.asked.request.text x0.asked.request.text else false else false else false else false else false else false else false else false else false else false else false else false else false else false else false else false else false else false else false else false else false else false)
  (v5=false→(
   let v6:=jE x0
   ((v6 != 0)=false→(
    let bK:=pf x0
    (A1 x0)∧
    ((bK != 0)=false→(
     let v10:Int:=IntKind.wrap .i64 (x0.kind-(1:Int))
     let v11:ByteArray:=hD ([⟨#[116,105,99,107]⟩,⟨#[115,101,110,115,101]⟩,⟨#[101,118,101,110,116]⟩,⟨#[110,111,105,115,101]⟩,⟨#[113,117,105,101,116]⟩,⟨#[111,102,102]⟩,⟨#[111,110]⟩,⟨#[99,117,116]⟩,⟨#[106,111,105,110]⟩,⟨#[99,114,97,115,104]⟩,⟨#[99,108,111,99,107]⟩,⟨#[97,115,107]⟩,⟨#[101,110,101,114,103,121]⟩,⟨#[109,111,118,101]⟩,⟨#[108,111,115,101]⟩,⟨#[116,119,105,99,101]⟩]:List ByteArray) (Int.toNat v10)
     (0≤v10∧v10<(16:Int))∧
     let aF:Bool→Prop:=fun v12=>
      (v12=true→(
       let ed:=ByteArray.append v11 (⟨#[32]⟩:ByteArray)
       (ByteArray.size v11+ByteArray.size (⟨#[32]⟩:ByteArray)≤9223372036854775807)∧
       let e7:=vk ⟨x0.key.dev,x0.key.bm,x0.key.attr⟩
       (Np ⟨x0.key.dev,x0.key.bm,x0.key.attr⟩)∧
       let cR:=ByteArray.append ed e7
       (ByteArray.size ed+ByteArray.size e7≤9223372036854775807)∧
       let dM:=ByteArray.append cR (⟨#[32]⟩:ByteArray)
       (ByteArray.size cR+ByteArray.size (⟨#[32]⟩:ByteArray)≤9223372036854775807)∧
       let da:=fO ⟨x0.value.kind,x0.value.n,x0.value.s⟩
       (AR ⟨x0.value.kind,x0.value.n,x0.value.s⟩)∧
       ByteArray.size dM+ByteArray.size da≤9223372036854775807))∧(v12=false→(
       ((x0.kind==3)=true→(
        let e7:=ByteArray.append v11 (⟨#[32]⟩:ByteArray)
        (ByteArray.size v11+ByteArray.size (⟨#[32]⟩:ByteArray)≤9223372036854775807)∧
        let cR:=hg x0.event.dev x0.event.bm x0.event.name
        (A0 x0.event.dev x0.event.bm x0.event.name)∧
        ByteArray.size e7+ByteArray.size cR≤9223372036854775807))∧((x0.kind==3)=false→(
        ((x0.kind==12)=true→(
         let cR:=ByteArray.append v11 (⟨#[32]⟩:ByteArray)
         (ByteArray.size v11+ByteArray.size (⟨#[32]⟩:ByteArray)≤9223372036854775807)∧
         let dM:=ByteArray.append cR x0.asked.token
         (ByteArray.size cR+ByteArray.size x0.asked.token≤9223372036854775807)∧
         let da:=ByteArray.append dM (⟨#[32]⟩:ByteArray)
         (ByteArray.size dM+ByteArray.size (⟨#[32]⟩:ByteArray)≤9223372036854775807)∧
         let c2:=eZ ⟨x0.asked.request.kind,x0.asked.request.cW,⟨x0.asked.request.key.dev,x0.asked.request.key.bm,x0.asked.request.key.attr⟩,x0.asked.request.name,⟨x0.asked.request.value.kind,x0.asked.request.value.n,x0.asked.request.value.s⟩,x0.asked.request.text⟩
         (AM ⟨x0.asked.request.kind,x0.asked.request.cW,⟨x0.asked.request.key.dev,x0.asked.request.key.bm,x0.asked.request.key.attr⟩,x0.asked.request.name,⟨x0.asked.request.value.kind,x0.asked.request.value.n,x0.asked.request.value.s⟩,x0.asked.request.text⟩)∧
         let v20:=tl c2
         (Ey c2)∧
         ByteArray.size da+ByteArray.size v20≤9223372036854775807))∧((x0.kind==12)=false→(
         let aF:Bool→Prop:=fun cR=>
          (cR=true→(
           let da:=ByteArray.append v11 (⟨#[32]⟩:ByteArray)
           (ByteArray.size v11+ByteArray.size (⟨#[32]⟩:ByteArray)≤9223372036854775807)∧
           let c2:=e6 x0.n
           (rU x0.n)∧
           let v20:=ByteArray.append da c2
           (ByteArray.size da+ByteArray.size c2≤9223372036854775807)∧
           let v21:=ByteArray.append v20 (⟨#[32]⟩:ByteArray)
           (ByteArray.size v20+ByteArray.size (⟨#[32]⟩:ByteArray)≤9223372036854775807)∧
           let eS:=e6 x0.m
           (rU x0.m)∧
           ByteArray.size v21+ByteArray.size eS≤9223372036854775807))∧(cR=false→(
           ((x0.kind==14)=false→(
            let c2:=ByteArray.append v11 (⟨#[32]⟩:ByteArray)
            (ByteArray.size v11+ByteArray.size (⟨#[32]⟩:ByteArray)≤9223372036854775807)∧
            let v20:=e6 x0.n
            (rU x0.n)∧
            ByteArray.size c2+ByteArray.size v20≤9223372036854775807))))
         let cR:=x0.kind==8
         (cR=true→(
          aF cR))∧(cR=false→(
          aF (x0.kind==9)))))))))
     let v12:=x0.kind==2
     (v12=true→(
      aF v12))∧(v12=false→(
      aF (x0.kind==13)))))))))))
noncomputable def my(x0:cd):cd × Int:=
 bif !x0.made then
  (x0,15)
 else
  (x0,x0.bad)
noncomputable def im(x0:cd):cd × Int:=
 let v1:=my x0
 bif(v1.2 != 0)then
  (v1.1,0)
 else
  Sum.elim (fun r=>r) (fun bj=>
   (v1.1,0))
  (bV (fun(i6:Nat) (aA:Int)=>
   show Step (cd × Int) (Int)from
   bif(decide ((IntKind.wrap .i64 (v1.1.at_+(i6:Int)))≥(ByteArray.size v1.1.s:Int)))then
    .ret (⟨v1.1.s,v1.1.at_,5,v1.1.made⟩,0)
   else
    let v12:Int:=aC v1.1.s (IntKind.wrap .i64 (v1.1.at_+(i6:Int)))
    bif(((decide ((i6:Int)>0))&&(v12==0))||(((i6:Int)==9)&&(decide (v12>1))))then
     .ret (⟨v1.1.s,v1.1.at_,4,v1.1.made⟩,0)
    else
     let v24:Int:=aZ .or .u64 aA (aZ .shl .u64 (IntKind.wrap .u64 (aZ .rem .u8 v12 (128:Int))) (IntKind.wrap .i64 ((7:Int)*(i6:Int))))
     bif(decide (v12<128))then
      let jk:Int:=IntKind.wrap .i64 (aZ .shr .u64 v24 (1:Int))
      let aF:Int→Step (cd × Int) (Int):=fun v30=>
       .ret (⟨v1.1.s,(IntKind.wrap .i64 ((IntKind.wrap .i64 (v1.1.at_+(i6:Int)))+(1:Int))),v1.1.bad,v1.1.made⟩,v30)
      bif((aZ .rem .u64 v24 (2:Int))==1)then
       aF (IntKind.wrap .i64 (((-1):Int)-jk))
      else
       aF jk
     else
      .bx v24) 0 (Int.toNat (10:Int)) 0:(cd × Int)⊕(Int))
def qf(x0:cd):Prop:=
 let v1:=my x0
 ((v1.2 != 0)=false→(
  ∃b1:Nat→(Int)→Prop,b1 0 0∧∀(i6:Nat) (d0:Int),i6<Int.toNat (10:Int)→b1 i6 d0→(
   ((decide ((IntKind.wrap .i64 (v1.1.at_+(i6:Int)))≥(ByteArray.size v1.1.s:Int)))=false→(
    let v11:Int:=IntKind.wrap .i64 (v1.1.at_+(i6:Int))
    let v12:Int:=aC v1.1.s v11
    (0≤v11∧v11<(ByteArray.size v1.1.s:Int))∧
    ((((decide ((i6:Int)>0))&&(v12==0))||(((i6:Int)==9)&&(decide (v12>1))))=false→(
     let v21:Int:=IntKind.wrap .u64 (aZ .rem .u8 v12 (128:Int))
     let eS:Int:=IntKind.wrap .i64 ((7:Int)*(i6:Int))
     (0≤eS)∧
     let v24:Int:=aZ .or .u64 d0 (aZ .shl .u64 v21 eS)
     ((decide (v12<128))=false→(
      b1 (i6+1) v24)))))))))
noncomputable def xG(x0:cd)(cj:Int):cd × Int:=
 let v2:=im x0
 let aF:Int→cd × Int:=fun v5=>
  let bl:=my v2.1
  bif(bl.2 != 0)then
   (bl.1,0)
  else
   bif(decide (v2.2<0))then
    (⟨bl.1.s,bl.1.at_,4,bl.1.made⟩,0)
   else
    bif(decide (v2.2>v5))then
     (⟨bl.1.s,bl.1.at_,3,bl.1.made⟩,0)
    else
     (bl.1,v2.2)
 bif(decide (cj<0))then
  aF (0:Int)
 else
  aF cj
def Eg(x0:cd)(cj:Int):Prop:=
 let v2:=im x0
 qf x0
noncomputable def iG(x0:cd)(cj:Int):cd × ByteArray:=
 let v2:=xG x0 cj
 let v5:=my v2.1
 bif(v5.2 != 0)then
  (v5.1,⟨#[]⟩)
 else
  bif(decide (v2.2>(IntKind.wrap .i64 ((ByteArray.size v5.1.s:Int)-v5.1.at_))))then
   (⟨v5.1.s,v5.1.at_,5,v5.1.made⟩,⟨#[]⟩)
  else
   (⟨v5.1.s,(IntKind.wrap .i64 (v5.1.at_+v2.2)),v5.1.bad,v5.1.made⟩,(bw v5.1.s (some v5.1.at_) (some (IntKind.wrap .i64 (v5.1.at_+v2.2)))))
def te(x0:cd)(cj:Int):Prop:=
 let v2:=xG x0 cj
 (Eg x0 cj)∧
 let v5:=my v2.1
 ((v5.2 != 0)=false→(
  ((decide (v2.2>(IntKind.wrap .i64 ((ByteArray.size v5.1.s:Int)-v5.1.at_))))=false→(
   let v12:Int:=IntKind.wrap .i64 (v5.1.at_+v2.2)
   eo (ByteArray.size v5.1.s) (some v5.1.at_) (some v12)))))
noncomputable def lW(x0:bH):Int:=
 let bT:Int→Int→Int:=fun v1 v2=>
  bif((decide (x0.n<v1))||(decide (x0.n>v2)))then
   2
  else
   bif(decide ((ByteArray.size x0.s:Int)>60))then
    3
   else
    bif((bb .neq x0.s (⟨#[]⟩:ByteArray))&&(x0.kind != 4))then
     4
    else
     0
 let aF:Bool→Int:=fun v1=>
  bif v1 then
   bT (0:Int) (0:Int)
  else
   bif(x0.kind==1)then
    bT (0:Int) (1:Int)
   else
    bif(x0.kind==2)then
     bT ((-1099511627776):Int) (1099511627776:Int)
    else
     bif(x0.kind==3)then
      bT (0:Int) (63:Int)
     else
      7
 let v1:=x0.kind==0
 bif v1 then
  aF v1
 else
  aF (x0.kind==4)
noncomputable def AA(x0:cd)(cj:Int):cd:=
 let v2:=my x0
 bif(v2.2==0)then
  ⟨v2.1.s,v2.1.at_,cj,v2.1.made⟩
 else
  v2.1
noncomputable def s7(x0:cd):cd × bH:=
 let v1:=im x0
 let aF:ByteArray→ByteArray→Int→Int→Bool→cd × bH:=fun v5 v6 bl bK v9=>
  let aF:Int→ByteArray→Int→Int→Bool→cd × bH:=fun b2 ed e7 cR dM=>
   let bT:ByteArray→Int→Int→Bool→cd × bH:=fun eS pq v24 c3=>
    let mJ:=my ⟨eS,pq,v24,c3⟩
    bif(mJ.2 != 0)then
     (mJ.1,⟨0,0,⟨#[]⟩⟩)
    else
     (mJ.1,⟨v1.2,b2,v5⟩)
   let da:=my ⟨ed,e7,cR,dM⟩
   let v21:=da.2==0
   let aF:Int→cd × bH:=fun eS=>
    bif(v21&&(eS != 0))then
     let c3:=AA da.1 (4:Int)
     bT c3.s c3.at_ c3.bad c3.made
    else
     bT da.1.s da.1.at_ da.1.bad da.1.made
   bif v21 then
    aF (lW ⟨v1.2,b2,v5⟩)
   else
    aF (0:Int)
  bif((decide (v1.2≥1))&&(decide (v1.2≤3)))then
   let b2:=im ⟨v6,bl,bK,v9⟩
   aF b2.2 b2.1.s b2.1.at_ b2.1.bad b2.1.made
  else
   aF (0:Int) v6 bl bK v9
 bif(v1.2==4)then
  let v5:=iG v1.1 (60:Int)
  aF v5.2 v5.1.s v5.1.at_ v5.1.bad v5.1.made
 else
  aF (⟨#[]⟩:ByteArray) v1.1.s v1.1.at_ v1.1.bad v1.1.made
def AG(x0:cd):Prop:=
 let v1:=im x0
 (qf x0)∧
 let aF:ByteArray→ByteArray→Int→Int→Bool→Prop:=fun v5 v6 bl bK v9=>
  (((decide (v1.2≥1))&&(decide (v1.2≤3)))=true→(
   let b2:=im ⟨v6,bl,bK,v9⟩
   qf ⟨v6,bl,bK,v9⟩))
 ((v1.2==4)=true→(
  let v5:=iG v1.1 (60:Int)
  (te v1.1 (60:Int))∧
  aF v5.2 v5.1.s v5.1.at_ v5.1.bad v5.1.made))∧((v1.2==4)=false→(
  aF (⟨#[]⟩:ByteArray) v1.1.s v1.1.at_ v1.1.bad v1.1.made))
noncomputable def AB(x0:cd):cd × Int:=
 let v1:=my x0
 bif(v1.2 != 0)then
  let v5:=my v1.1
  (v5.1,v5.2)
 else
  bif(decide (v1.1.at_<(ByteArray.size v1.1.s:Int)))then
   (v1.1,23)
  else
   (v1.1,0)
noncomputable def nv(x0:ByteArray):dD × Int:=
 let v1:=im ⟨x0,0,0,true⟩
 let v4:=im v1.1
 let bl:=im v4.1
 let v10:=iG bl.1 (24:Int)
 let b2:=iG v10.1 (24:Int)
 let cR:=iG b2.1 (24:Int)
 let c2:=s7 cR.1
 let eS:=iG c2.1 (20000:Int)
 let c3:=AB eS.1
 bif(c3.2 != 0)then
  (⟨0,0,⟨0,⟨#[]⟩,⟨#[]⟩⟩,⟨#[]⟩,⟨0,0,⟨#[]⟩⟩,⟨#[]⟩⟩,c3.2)
 else
  bif((decide (v1.2<1))||(decide (v1.2>7)))then
   (⟨0,0,⟨0,⟨#[]⟩,⟨#[]⟩⟩,⟨#[]⟩,⟨0,0,⟨#[]⟩⟩,⟨#[]⟩⟩,7)
  else
   bif((decide (v4.2<0))||(decide (v4.2>1099511627776)))then
    (⟨0,0,⟨0,⟨#[]⟩,⟨#[]⟩⟩,⟨#[]⟩,⟨0,0,⟨#[]⟩⟩,⟨#[]⟩⟩,2)
   else
    (⟨v1.2,v4.2,⟨bl.2,v10.2,b2.2⟩,cR.2,⟨c2.2.kind,c2.2.n,c2.2.s⟩,eS.2⟩,0)
def qg(x0:ByteArray):Prop:=
 let v1:=im ⟨x0,0,0,true⟩
 (qf ⟨x0,0,0,true⟩)∧
 let v4:=im v1.1
 (qf v1.1)∧
 let bl:=im v4.1
 (qf v4.1)∧
 let v10:=iG bl.1 (24:Int)
 (te bl.1 (24:Int))∧
 let b2:=iG v10.1 (24:Int)
 (te v10.1 (24:Int))∧
 let cR:=iG b2.1 (24:Int)
 (te b2.1 (24:Int))∧
 let c2:=s7 cR.1
 (AG cR.1)∧
 let eS:=iG c2.1 (20000:Int)
 te c2.1 (20000:Int)
noncomputable def hA(x0:Int):ByteArray:=
 let v2:Int:=aZ .shl .u64 (IntKind.wrap .u64 x0) (1:Int)
 let aF:Int→ByteArray:=fun v3=>
  Sum.elim (fun r=>r) (fun bj=>
   (bytesOf (List.append bj.2 ([(IntKind.wrap .u8 bj.1)]:List Int))))
  (b9 (fun(aA:Int × (List Int))=>
   show Step (ByteArray) (Int × (List Int))from
   bif(decide (aA.1≥128))then
    .bx ((aZ .quo .u64 aA.1 (128:Int)),(List.append aA.2 ([(IntKind.wrap .u8 ((IntKind.wrap .u8 (aZ .rem .u64 aA.1 (128:Int)))+(128:Int)))]:List Int)))
   else
    .b7 (aA.1,aA.2)) cu (v3,[]):ByteArray⊕(Int × (List Int)))
 bif(decide (x0<0))then
  aF (eQ.den (.tM .u64) v2)
 else
  aF v2
def lq(x0:Int):Prop:=
 let v2:Int:=aZ .shl .u64 (IntKind.wrap .u64 x0) (1:Int)
 let aF:Int→Prop:=fun v3=>
  let aR:(Int × (List Int))→Prop:=fun bj=>
   let bK:List Int:=([(IntKind.wrap .u8 bj.1)]:List Int)
   List.length bj.2+List.length bK≤maxLen∧(List.length bj.2+List.length bK)*1≤140737488355328
  ∃(b1:(Int × (List Int))→Prop) (dL:(Int × (List Int))→Nat),b1 (v3,[])∧dL (v3,[])<cu∧∀(d0:Int × (List Int)),b1 d0→(
   ((decide (d0.1≥128))=true→(
    let v11:List Int:=([(IntKind.wrap .u8 ((IntKind.wrap .u8 (aZ .rem .u64 d0.1 (128:Int)))+(128:Int)))]:List Int)
    (List.length d0.2+List.length v11≤maxLen∧(List.length d0.2+List.length v11)*1≤140737488355328)∧
    b1 ((aZ .quo .u64 d0.1 (128:Int)),(List.append d0.2 v11))∧dL ((aZ .quo .u64 d0.1 (128:Int)),(List.append d0.2 v11))<dL d0))∧((decide (d0.1≥128))=false→(
    aR (d0.1,d0.2))))
 ((decide (x0<0))=true→(
  aF (eQ.den (.tM .u64) v2)))∧((decide (x0<0))=false→(
  aF v2))
noncomputable def kN(x0:ByteArray):ByteArray:=
 (ByteArray.append (hA (ByteArray.size x0:Int)) x0)
def rG(x0:ByteArray):Prop:=
 let v1:Int:=(ByteArray.size x0:Int)
 let v2:=hA v1
 (lq v1)∧
 ByteArray.size v2+ByteArray.size x0≤9223372036854775807
noncomputable def th(x0:bH):ByteArray:=
 let aF:Int→Int→ByteArray→ByteArray:=fun v3 v4 v5=>
  bif(v3==0)then
   (hA (0:Int))
  else
   bif(v3==4)then
    (ByteArray.append (hA v3) (kN v5))
   else
    (ByteArray.append (hA v3) (hA v4))
 bif((lW x0) != 0)then
  aF (0:Int) (0:Int) (⟨#[]⟩:ByteArray)
 else
  aF x0.kind x0.n x0.s
def Em(x0:bH):Prop:=
 let aF:Int→Int→ByteArray→Prop:=fun v3 v4 v5=>
  ((v3==0)=true→(
   lq (0:Int)))∧((v3==0)=false→(
   ((v3==4)=true→(
    let bK:=hA v3
    (lq v3)∧
    let v9:=kN v5
    (rG v5)∧
    ByteArray.size bK+ByteArray.size v9≤9223372036854775807))∧((v3==4)=false→(
    let bK:=hA v3
    (lq v3)∧
    let v9:=hA v4
    (lq v4)∧
    ByteArray.size bK+ByteArray.size v9≤9223372036854775807))))
 (((lW x0) != 0)=true→(
  aF (0:Int) (0:Int) (⟨#[]⟩:ByteArray)))∧(((lW x0) != 0)=false→(
  aF x0.kind x0.n x0.s))
noncomputable def lY(x0:dD):ByteArray:=
 let b2:=ByteArray.append (ByteArray.append (ByteArray.append (ByteArray.append (ByteArray.append (ByteArray.append (hA x0.kind) (hA x0.cW)) (hA x0.key.dev)) (kN x0.key.bm)) (kN x0.key.attr)) (kN x0.name)) (th ⟨x0.value.kind,x0.value.n,x0.value.s⟩)
 (ByteArray.append b2 (kN x0.text))
def Eo(x0:dD):Prop:=
 let v1:=hA x0.kind
 (lq x0.kind)∧
 let v2:=hA x0.cW
 (lq x0.cW)∧
 let v3:=ByteArray.append v1 v2
 (ByteArray.size v1+ByteArray.size v2≤9223372036854775807)∧
 let v4:=hA x0.key.dev
 (lq x0.key.dev)∧
 let v5:=ByteArray.append v3 v4
 (ByteArray.size v3+ByteArray.size v4≤9223372036854775807)∧
 let v6:=kN x0.key.bm
 (rG x0.key.bm)∧
 let bl:=ByteArray.append v5 v6
 (ByteArray.size v5+ByteArray.size v6≤9223372036854775807)∧
 let bK:=kN x0.key.attr
 (rG x0.key.attr)∧
 let v9:=ByteArray.append bl bK
 (ByteArray.size bl+ByteArray.size bK≤9223372036854775807)∧
 let v10:=kN x0.name
 (rG x0.name)∧
 let v11:=ByteArray.append v9 v10
 (ByteArray.size v9+ByteArray.size v10≤9223372036854775807)∧
 let v12:=th ⟨x0.value.kind,x0.value.n,x0.value.s⟩
 (Em ⟨x0.value.kind,x0.value.n,x0.value.s⟩)∧
 let b2:=ByteArray.append v11 v12
 (ByteArray.size v11+ByteArray.size v12≤9223372036854775807)∧
 let ed:=kN x0.text
 (rG x0.text)∧
 ByteArray.size b2+ByteArray.size ed≤9223372036854775807
noncomputable def xL(x0:bf):bf:=
 let bT:Int→Int→Int→ByteArray→ByteArray→Int→Int→ByteArray→Int→ByteArray→ByteArray→ByteArray→Int→Int→Int→ByteArray→ByteArray→ByteArray→Int→Int→ByteArray→ByteArray→bf:=fun v3 v4 v5 v6 bl bK v9 v10 v11 v12 b2 ed e7 cR dM da c2 v20 v21 eS pq v24=>
  ⟨x0.kind,v3,v4,⟨v5,v6,bl⟩,⟨bK,v9,v10⟩,⟨v11,v12,b2⟩,⟨ed,⟨e7,cR,⟨dM,da,c2⟩,v20,⟨v21,eS,pq⟩,v24⟩⟩⟩
 let aF:Bool→bf:=fun v1=>
  bif v1 then
   bT (0:Int) (0:Int) x0.key.dev x0.key.bm x0.key.attr x0.value.kind x0.value.n x0.value.s (0:Int) (⟨#[]⟩:ByteArray) (⟨#[]⟩:ByteArray) (⟨#[]⟩:ByteArray) (0:Int) (0:Int) (0:Int) (⟨#[]⟩:ByteArray) (⟨#[]⟩:ByteArray) (⟨#[]⟩:ByteArray) (0:Int) (0:Int) (⟨#[]⟩:ByteArray) (⟨#[]⟩:ByteArray)
  else
   bif(x0.kind==3)then
    bT (0:Int) (0:Int) (0:Int) (⟨#[]⟩:ByteArray) (⟨#[]⟩:ByteArray) (0:Int) (0:Int) (⟨#[]⟩:ByteArray) x0.event.dev x0.event.bm x0.event.name (⟨#[]⟩:ByteArray) (0:Int) (0:Int) (0:Int) (⟨#[]⟩:ByteArray) (⟨#[]⟩:ByteArray) (⟨#[]⟩:ByteArray) (0:Int) (0:Int) (⟨#[]⟩:ByteArray) (⟨#[]⟩:ByteArray)
   else
    let aF:Bool→bf:=fun v4=>
     bif v4 then
      bT x0.n x0.m (0:Int) (⟨#[]⟩:ByteArray) (⟨#[]⟩:ByteArray) (0:Int) (0:Int) (⟨#[]⟩:ByteArray) (0:Int) (⟨#[]⟩:ByteArray) (⟨#[]⟩:ByteArray) (⟨#[]⟩:ByteArray) (0:Int) (0:Int) (0:Int) (⟨#[]⟩:ByteArray) (⟨#[]⟩:ByteArray) (⟨#[]⟩:ByteArray) (0:Int) (0:Int) (⟨#[]⟩:ByteArray) (⟨#[]⟩:ByteArray)
     else
      bif(x0.kind==12)then
       bT (0:Int) (0:Int) (0:Int) (⟨#[]⟩:ByteArray) (⟨#[]⟩:ByteArray) (0:Int) (0:Int) (⟨#[]⟩:ByteArray) (0:Int) (⟨#[]⟩:ByteArray) (⟨#[]⟩:ByteArray) x0.asked.token x0.asked.request.kind x0.asked.request.cW x0.asked.request.key.dev x0.asked.request.key.bm x0.asked.request.key.attr x0.asked.request.name x0.asked.request.value.kind x0.asked.request.value.n x0.asked.request.value.s x0.asked.request.text
      else
       bif(x0.kind==14)then
        bT (0:Int) (0:Int) (0:Int) (⟨#[]⟩:ByteArray) (⟨#[]⟩:ByteArray) (0:Int) (0:Int) (⟨#[]⟩:ByteArray) (0:Int) (⟨#[]⟩:ByteArray) (⟨#[]⟩:ByteArray) (⟨#[]⟩:ByteArray) (0:Int) (0:Int) (0:Int) (⟨#[]⟩:ByteArray) (⟨#[]⟩:ByteArray) (⟨#[]⟩:ByteArray) (0:Int) (0:Int) (⟨#[]⟩:ByteArray) (⟨#[]⟩:ByteArray)
       else
        bT x0.n (0:Int) (0:Int) (⟨#[]⟩:ByteArray) (⟨#[]⟩:ByteArray) (0:Int) (0:Int) (⟨#[]⟩:ByteArray) (0:Int) (⟨#[]⟩:ByteArray) (⟨#[]⟩:ByteArray) (⟨#[]⟩:ByteArray) (0:Int) (0:Int) (0:Int) (⟨#[]⟩:ByteArray) (⟨#[]⟩:ByteArray) (⟨#[]⟩:ByteArray) (0:Int) (0:Int) (⟨#[]⟩:ByteArray) (⟨#[]⟩:ByteArray)
    let v4:=x0.kind==8
    bif v4 then
     aF v4
    else
     aF (x0.kind==9)
 let v1:=x0.kind==2
 bif v1 then
  aF v1
 else
  aF (x0.kind==13)
noncomputable def ql:(List ByteArray):=
 let v0:List ByteArray:=([⟨#[116,105,99,107]⟩,⟨#[115,101,110,115,101]⟩,⟨#[101,118,101,110,116]⟩,⟨#[110,111,105,115,101]⟩,⟨#[113,117,105,101,116]⟩,⟨#[111,102,102]⟩,⟨#[111,110]⟩,⟨#[99,117,116]⟩,⟨#[106,111,105,110]⟩,⟨#[99,114,97,115,104]⟩,⟨#[99,108,111,99,107]⟩,⟨#[97,115,107]⟩,⟨#[101,110,101,114,103,121]⟩,⟨#[109,111,118,101]⟩,⟨#[108,111,115,101]⟩,⟨#[116,119,105,99,101]⟩]:List ByteArray)
 v0
def kR(n:Int):ByteArray:=fI n
def gU(n:Int):Prop:= -9223372036854775808≤n∧n≤9223372036854775807
noncomputable def tf(x0:ByteArray):Bool:=
 let v3:Int:=(ByteArray.size x0:Int)
 bif((decide ((ByteArray.size x0:Int)<1))||(decide (v3>24)))then
  false
 else
  Sum.elim (fun r=>r) (fun bj=>
   true)
  (bV (fun(i6:Nat) (aA:Unit)=>
   show Step (Bool) (Unit)from
   let bK:Int:=aC x0 (i6:Int)
   bif((!((decide (bK≥97))&&(decide (bK≤122))))&&(((i6:Int)==0)||(((bK != 95)&&(bK != 45))&&((decide (bK<48))||(decide (bK>57))))))then
    .ret false
   else
    .bx ()) 0 (Int.toNat v3) ():Bool⊕(Unit))
def AJ(x0:ByteArray):Prop:=
 let v3:Int:=(ByteArray.size x0:Int)
 (((decide ((ByteArray.size x0:Int)<1))||(decide (v3>24)))=false→(
  0≤v3∧v3<(9223372036854775808:Int)))
noncomputable def jB(x0:Int)(cj:ByteArray)(kr:ByteArray):ByteArray × Int:=
 bif((decide (x0<1))||(decide (x0>250)))then
  (⟨#[]⟩,2)
 else
  let bl:=!(tf cj)
  let aF:Bool→ByteArray × Int:=fun bK=>
   bif(bl||(!bK))then
    (⟨#[]⟩,10)
   else
    ((ByteArray.append (ByteArray.append (ByteArray.append (ByteArray.append (kR x0) (⟨#[46]⟩:ByteArray)) cj) (⟨#[46]⟩:ByteArray)) kr),0)
  bif bl then
   aF false
  else
   aF (tf kr)
def xO(x0:Int)(cj:ByteArray)(kr:ByteArray):Prop:=
 (((decide (x0<1))||(decide (x0>250)))=false→(
  (AJ cj)∧
  let bl:=!(tf cj)
  let aF:Bool→Prop:=fun bK=>
   ((bl||(!bK))=false→(
    let v11:=kR x0
    (gU x0)∧
    let v12:=ByteArray.append v11 (⟨#[46]⟩:ByteArray)
    (ByteArray.size v11+ByteArray.size (⟨#[46]⟩:ByteArray)≤9223372036854775807)∧
    let b2:=ByteArray.append v12 cj
    (ByteArray.size v12+ByteArray.size cj≤9223372036854775807)∧
    let ed:=ByteArray.append b2 (⟨#[46]⟩:ByteArray)
    (ByteArray.size b2+ByteArray.size (⟨#[46]⟩:ByteArray)≤9223372036854775807)∧
    ByteArray.size ed+ByteArray.size kr≤9223372036854775807))
  (bl=true→(
   aF false))∧(bl=false→(
   (AJ kr)∧
   aF (tf kr)))))
noncomputable def ti(x0:Int):Int:=
 (aC (⟨#[48,49,50,51,52,53,54,55,56,57,97,98,99,100,101,102]⟩:ByteArray) (aZ .rem .u8 x0 (16:Int)))
def AP(x0:Int):Prop:=
 let v1:Int:=aZ .rem .u8 x0 (16:Int)
 0≤v1∧v1<(ByteArray.size (⟨#[48,49,50,51,52,53,54,55,56,57,97,98,99,100,101,102]⟩:ByteArray):Int)
noncomputable def vg(x0:ByteArray):ByteArray:=
 let v2:Int:=(ByteArray.size x0:Int)
 Sum.elim (fun r=>r) (fun bj=>
  (bytesOf (List.append bj ([34]:List Int))))
 (bV (fun(i4:Nat) (aA:(List Int))=>
  show Step (ByteArray) ((List Int))from
  let aF:(List Int)→Step (ByteArray) ((List Int)):=fun v12=>
   .bx v12
  let v6:Int:=aC x0 (i4:Int)
  bif((v6==34)||(v6==92))then
   aF (List.append aA ([92,v6]:List Int))
  else
   bif((decide (v6<32))||(decide (v6>126)))then
    aF (List.append aA ([92,120,(ti (aZ .quo .u8 v6 (16:Int))),(ti v6)]:List Int))
   else
    aF (List.append aA ([v6]:List Int))) 0 (Int.toNat v2) ([34]:List Int):ByteArray⊕((List Int)))
def AQ(x0:ByteArray):Prop:=
 let v2:Int:=(ByteArray.size x0:Int)
 (0≤v2∧v2<(9223372036854775808:Int))∧
 let aR:(List Int)→Prop:=fun bj=>
  let v4:List Int:=([34]:List Int)
  List.length bj+List.length v4≤maxLen∧(List.length bj+List.length v4)*1≤140737488355328
 ∃b1:Nat→((List Int))→Prop,b1 0 ([34]:List Int)∧(∀(i4:Nat) (d0:(List Int)),i4<Int.toNat v2→b1 i4 d0→(
  let aF:(List Int)→Prop:=fun v12=>
   b1 (i4+1) v12
  let v6:Int:=aC x0 (i4:Int)
  (((v6==34)||(v6==92))=true→(
   let v10:List Int:=([92,v6]:List Int)
   (List.length d0+List.length v10≤maxLen∧(List.length d0+List.length v10)*1≤140737488355328)∧
   aF (List.append d0 v10)))∧(((v6==34)||(v6==92))=false→(
   (((decide (v6<32))||(decide (v6>126)))=true→(
    let b2:Int:=aZ .quo .u8 v6 (16:Int)
    (AP b2)∧
    (AP v6)∧
    let cR:List Int:=([92,120,(ti b2),(ti v6)]:List Int)
    (List.length d0+List.length cR≤maxLen∧(List.length d0+List.length cR)*1≤140737488355328)∧
    aF (List.append d0 cR)))∧(((decide (v6<32))||(decide (v6>126)))=false→(
    let b2:List Int:=([v6]:List Int)
    (List.length d0+List.length b2≤maxLen∧(List.length d0+List.length b2)*1≤140737488355328)∧
    aF (List.append d0 b2)))))))∧∀bj,b1 (Int.toNat v2) bj→aR bj
noncomputable def pd(x0:bH):ByteArray:=
 bif((lW x0) != 0)then
  ⟨#[]⟩
 else
  bif(x0.kind==0)then
   ⟨#[110,111,110,101]⟩
  else
   bif(x0.kind==1)then
    bif(x0.n==1)then
     ⟨#[116,114,117,101]⟩
    else
     ⟨#[102,97,108,115,101]⟩
   else
    bif(x0.kind==2)then
     (kR x0.n)
    else
     bif(x0.kind==3)then
      (ByteArray.append (⟨#[35]⟩:ByteArray) (kR x0.n))
     else
      (vg x0.s)
def AS(x0:bH):Prop:=
 (((lW x0) != 0)=false→(
  ((x0.kind==0)=false→(
   ((x0.kind==1)=false→(
    ((x0.kind==2)=true→(
     gU x0.n))∧((x0.kind==2)=false→(
     ((x0.kind==3)=true→(
      let bl:=kR x0.n
      (gU x0.n)∧
      ByteArray.size (⟨#[35]⟩:ByteArray)+ByteArray.size bl≤9223372036854775807))∧((x0.kind==3)=false→(
      AQ x0.s))))))))))
noncomputable def vf(x0:ByteArray):Bool:=
 let v3:Int:=(ByteArray.size x0:Int)
 bif((decide ((ByteArray.size x0:Int)<1))||(decide (v3>1000)))then
  false
 else
  Sum.elim (fun r=>r) (fun bj=>
   true)
  (bV (fun(i6:Nat) (aA:Unit)=>
   show Step (Bool) (Unit)from
   bif((decide ((aC x0 (i6:Int))<33))||(decide ((aC x0 (i6:Int))>126)))then
    .ret false
   else
    .bx ()) 0 (Int.toNat v3) ():Bool⊕(Unit))
def Ek(x0:ByteArray):Prop:=
 let v3:Int:=(ByteArray.size x0:Int)
 (((decide ((ByteArray.size x0:Int)<1))||(decide (v3>1000)))=false→(
  0≤v3∧v3<(9223372036854775808:Int)))
noncomputable def rK(x0:ByteArray):ByteArray:=
 let v1:Int:=(ByteArray.size x0:Int)
 Sum.elim (fun r=>r) (fun bj=>
  (bytesOf bj))
 (bV (fun(i3:Nat) (aA:(List Int))=>
  show Step (ByteArray) ((List Int))from
  let v11:List Int:=([(aC (⟨#[48,49,50,51,52,53,54,55,56,57,97,98,99,100,101,102]⟩:ByteArray) (aZ .quo .u8 (aC x0 (i3:Int)) (16:Int))),(aC (⟨#[48,49,50,51,52,53,54,55,56,57,97,98,99,100,101,102]⟩:ByteArray) (aZ .rem .u8 (aC x0 (i3:Int)) (16:Int)))]:List Int)
  .bx (List.append aA v11)) 0 (Int.toNat v1) []:ByteArray⊕((List Int)))
def AU(x0:ByteArray):Prop:=
 let v1:Int:=(ByteArray.size x0:Int)
 (0≤v1∧v1<(9223372036854775808:Int))∧
 ∃b1:Nat→((List Int))→Prop,b1 0 []∧∀(i3:Nat) (d0:(List Int)),i3<Int.toNat v1→b1 i3 d0→(
  let v6:Int:=aZ .quo .u8 (aC x0 (i3:Int)) (16:Int)
  (0≤v6∧v6<(ByteArray.size (⟨#[48,49,50,51,52,53,54,55,56,57,97,98,99,100,101,102]⟩:ByteArray):Int))∧
  let v9:Int:=aZ .rem .u8 (aC x0 (i3:Int)) (16:Int)
  (0≤v9∧v9<(ByteArray.size (⟨#[48,49,50,51,52,53,54,55,56,57,97,98,99,100,101,102]⟩:ByteArray):Int))∧
  let v11:List Int:=([(aC (⟨#[48,49,50,51,52,53,54,55,56,57,97,98,99,100,101,102]⟩:ByteArray) v6),(aC (⟨#[48,49,50,51,52,53,54,55,56,57,97,98,99,100,101,102]⟩:ByteArray) v9)]:List Int)
  (List.length d0+List.length v11≤maxLen∧(List.length d0+List.length v11)*1≤140737488355328)∧
  b1 (i3+1) (List.append d0 v11))
noncomputable def m14(x0:bf):ByteArray × Int:=
 bif((decide (x0.kind<1))||(decide (x0.kind>16)))then
  (⟨#[]⟩,7)
 else
  let v4:=xL x0
  let v5:=!(bif v4.kind==x0.kind then bif v4.n==x0.n then bif v4.m==x0.m then bif v4.key.dev==x0.key.dev then bif bn v4.key.bm x0.key.bm then bif bn v4.key.attr x0.key.attr then bif v4.value.kind==x0.value.kind then bif v4.value.n==x0.value.n then bif bn v4.value.s x0.value.s then bif v4.event.dev==x0.event.dev then bif bn v4.event.bm x0.event.bm then bif bn v4.event.name x0.event.name then bif bn v4.asked.token x0.asked.token then bif v4.asked.request.kind==x0.asked.request.kind then bif v4.asked.request.cW==x0.asked.request.cW then bif v4.asked.request.key.dev==x0.asked.request.key.dev then bif bn v4.asked.request.key.bm x0.asked.request.key.bm then bif bn v4.asked.request.key.attr x0.asked.request.key.attr then bif bn v4.asked.request.name x0.asked.request.name then bif v4.asked.request.value.kind==x0.asked.request.value.kind then bif v4.asked.request.value.n==x0.asked.request.value.n then bif bn v4.asked.request.value.s x0.asked.request.value.s then bn v4.asked.request.text x0.asked.request.text else false else false else false else false else false else false else false else false else false else false else false else false else false else false else false else false else false else false else false else false else false else false)
  bif v5 then
   (⟨#[]⟩,1)
  else
   let bK:ByteArray:=List.getD (ql) (Int.toNat (IntKind.wrap .i64 (x0.kind-(1:Int)))) (fJ .str)
   let aF:Int→ByteArray × Int:=fun v9=>
    bif((((decide (x0.n<v9))||(decide (x0.n>1099511627776)))||(decide (x0.m<0)))||(decide (x0.m>1099511627776)))then
     (⟨#[]⟩,2)
    else
     let aF:Bool→ByteArray × Int:=fun da=>
      bif da then
       let v20:=jB x0.key.dev x0.key.bm x0.key.attr
       bif(v20.2 != 0)then
        (⟨#[]⟩,v20.2)
       else
        let v24:=lW ⟨x0.value.kind,x0.value.n,x0.value.s⟩
        bif(v24 != 0)then
         (⟨#[]⟩,v24)
        else
         bif(x0.value.kind==0)then
          (⟨#[]⟩,4)
         else
          ((ByteArray.append (ByteArray.append (ByteArray.append (ByteArray.append bK (⟨#[32]⟩:ByteArray)) v20.1) (⟨#[32]⟩:ByteArray)) (pd ⟨x0.value.kind,x0.value.n,x0.value.s⟩)),0)
      else
       bif(x0.kind==3)then
        let v21:=jB x0.event.dev x0.event.bm x0.event.name
        bif(v21.2 != 0)then
         (⟨#[]⟩,v21.2)
        else
         ((ByteArray.append (ByteArray.append bK (⟨#[32]⟩:ByteArray)) v21.1),0)
       else
        let aF:Bool→ByteArray × Int:=fun v21=>
         bif v21 then
          ((ByteArray.append (ByteArray.append (ByteArray.append (ByteArray.append bK (⟨#[32]⟩:ByteArray)) (kR x0.n)) (⟨#[32]⟩:ByteArray)) (kR x0.m)),0)
         else
          bif(x0.kind==12)then
           let v24:=lY ⟨x0.asked.request.kind,x0.asked.request.cW,⟨x0.asked.request.key.dev,x0.asked.request.key.bm,x0.asked.request.key.attr⟩,x0.asked.request.name,⟨x0.asked.request.value.kind,x0.asked.request.value.n,x0.asked.request.value.s⟩,x0.asked.request.text⟩
           let c3:=nv v24
           let nw:=!(bif c3.1.kind==x0.asked.request.kind then bif c3.1.cW==x0.asked.request.cW then bif c3.1.key.dev==x0.asked.request.key.dev then bif bn c3.1.key.bm x0.asked.request.key.bm then bif bn c3.1.key.attr x0.asked.request.key.attr then bif bn c3.1.name x0.asked.request.name then bif c3.1.value.kind==x0.asked.request.value.kind then bif c3.1.value.n==x0.asked.request.value.n then bif bn c3.1.value.s x0.asked.request.value.s then bn c3.1.text x0.asked.request.text else false else false else false else false else false else false else false else false else false)
           bif(((!(vf x0.asked.token))||(c3.2 != 0))||nw)then
            (⟨#[]⟩,4)
           else
            ((ByteArray.append (ByteArray.append (ByteArray.append (ByteArray.append bK (⟨#[32]⟩:ByteArray)) x0.asked.token) (⟨#[32]⟩:ByteArray)) (rK v24)),0)
          else
           bif(x0.kind==14)then
            (bK,0)
           else
            ((ByteArray.append (ByteArray.append bK (⟨#[32]⟩:ByteArray)) (kR x0.n)),0)
        let v21:=x0.kind==8
        bif v21 then
         aF v21
        else
         aF (x0.kind==9)
     let da:=x0.kind==2
     bif da then
      aF da
     else
      aF (x0.kind==13)
   bif(x0.kind==11)then
    aF ((-1):Int)
   else
    aF (0:Int)
def ED(x0:bf):Prop:=
 (((decide (x0.kind<1))||(decide (x0.kind>16)))=false→(
  let v4:=xL x0
  let v5:=!(bif v4.kind==x0.kind then bif v4.n==x0.n then bif v4.m==x0.m then bif v4.key.dev==x0.key.dev then bif bn v4.key.bm x0.key.bm then bif bn v4.key.attr x0.key.attr then bif v4.value.kind==x0.value.kind then bif v4.value.n==x0.value.n then bif bn v4.value.s x0.value.s then bif v4.event.dev==x0.event.dev then bif bn v4.event.bm x0.event.bm then bif bn v4.event.name x0.event.name then bif bn v4.asked.token x0.asked.token then bif v4.asked.request.kind==x0.asked.request.kind then bif v4.asked.request.cW==x0.asked.request.cW then bif v4.asked.request.key.dev==x0.asked.request.key.dev then bif bn v4.asked.request.key.bm x0.asked.request.key.bm then bif bn v4.asked.request.key.attr x0.asked.request.key.attr then bif bn v4.asked.request.name x0.asked.request.name then bif v4.asked.request.value.kind==x0.asked.request.value.kind then bif v4.asked.request.value.n==x0.asked.request.value.n then bif bn v4.asked.request.value.s x0.asked.request.value.s then bn v4.asked.request.text x0.asked.request.text else false else false else false else false else false else false else false else false else false else false else false else false else false else false else false else false else false else false else false else false else false else false)
  (v5=false→(
   let v6:Int:=IntKind.wrap .i64 (x0.kind-(1:Int))
   let bl:=ql
   let bK:ByteArray:=List.getD bl (Int.toNat v6) (fJ .str)
   (0≤v6∧v6<(List.length bl:Int))∧
   let aF:Int→Prop:=fun v9=>
    (((((decide (x0.n<v9))||(decide (x0.n>1099511627776)))||(decide (x0.m<0)))||(decide (x0.m>1099511627776)))=false→(
     let aF:Bool→Prop:=fun da=>
      (da=true→(
       let v20:=jB x0.key.dev x0.key.bm x0.key.attr
       (xO x0.key.dev x0.key.bm x0.key.attr)∧
       ((v20.2 != 0)=false→(
        let v24:=lW ⟨x0.value.kind,x0.value.n,x0.value.s⟩
        ((v24 != 0)=false→(
         ((x0.value.kind==0)=false→(
          let gz:=ByteArray.append bK (⟨#[32]⟩:ByteArray)
          (ByteArray.size bK+ByteArray.size (⟨#[32]⟩:ByteArray)≤9223372036854775807)∧
          let v28:=ByteArray.append gz v20.1
          (ByteArray.size gz+ByteArray.size v20.1≤9223372036854775807)∧
          let jk:=ByteArray.append v28 (⟨#[32]⟩:ByteArray)
          (ByteArray.size v28+ByteArray.size (⟨#[32]⟩:ByteArray)≤9223372036854775807)∧
          let v30:=pd ⟨x0.value.kind,x0.value.n,x0.value.s⟩
          (AS ⟨x0.value.kind,x0.value.n,x0.value.s⟩)∧
          ByteArray.size jk+ByteArray.size v30≤9223372036854775807))))))))∧(da=false→(
       ((x0.kind==3)=true→(
        let v21:=jB x0.event.dev x0.event.bm x0.event.name
        (xO x0.event.dev x0.event.bm x0.event.name)∧
        ((v21.2 != 0)=false→(
         let c3:=ByteArray.append bK (⟨#[32]⟩:ByteArray)
         (ByteArray.size bK+ByteArray.size (⟨#[32]⟩:ByteArray)≤9223372036854775807)∧
         ByteArray.size c3+ByteArray.size v21.1≤9223372036854775807))))∧((x0.kind==3)=false→(
        let aF:Bool→Prop:=fun v21=>
         (v21=true→(
          let pq:=ByteArray.append bK (⟨#[32]⟩:ByteArray)
          (ByteArray.size bK+ByteArray.size (⟨#[32]⟩:ByteArray)≤9223372036854775807)∧
          let v24:=kR x0.n
          (gU x0.n)∧
          let c3:=ByteArray.append pq v24
          (ByteArray.size pq+ByteArray.size v24≤9223372036854775807)∧
          let mJ:=ByteArray.append c3 (⟨#[32]⟩:ByteArray)
          (ByteArray.size c3+ByteArray.size (⟨#[32]⟩:ByteArray)≤9223372036854775807)∧
          let gz:=kR x0.m
          (gU x0.m)∧
          ByteArray.size mJ+ByteArray.size gz≤9223372036854775807))∧(v21=false→(
          ((x0.kind==12)=true→(
           let v24:=lY ⟨x0.asked.request.kind,x0.asked.request.cW,⟨x0.asked.request.key.dev,x0.asked.request.key.bm,x0.asked.request.key.attr⟩,x0.asked.request.name,⟨x0.asked.request.value.kind,x0.asked.request.value.n,x0.asked.request.value.s⟩,x0.asked.request.text⟩
           (Eo ⟨x0.asked.request.kind,x0.asked.request.cW,⟨x0.asked.request.key.dev,x0.asked.request.key.bm,x0.asked.request.key.attr⟩,x0.asked.request.name,⟨x0.asked.request.value.kind,x0.asked.request.value.n,x0.asked.request.value.s⟩,x0.asked.request.text⟩)∧
           let c3:=nv v24
           (qg v24)∧
           (Ek x0.asked.token)∧
           let nw:=!(bif c3.1.kind==x0.asked.request.kind then bif c3.1.cW==x0.asked.request.cW then bif c3.1.key.dev==x0.asked.request.key.dev then bif bn c3.1.key.bm x0.asked.request.key.bm then bif bn c3.1.key.attr x0.asked.request.key.attr then bif bn c3.1.name x0.asked.request.name then bif c3.1.value.kind==x0.asked.request.value.kind then bif c3.1.value.n==x0.asked.request.value.n then bif bn c3.1.value.s x0.asked.request.value.s then bn c3.1.text x0.asked.request.text else false else false else false else false else false else false else false else false else false)
           ((((!(vf x0.asked.token))||(c3.2 != 0))||nw)=false→(
            let fr:=ByteArray.append bK (⟨#[32]⟩:ByteArray)
            (ByteArray.size bK+ByteArray.size (⟨#[32]⟩:ByteArray)≤9223372036854775807)∧
            let vv:=ByteArray.append fr x0.asked.token
            (ByteArray.size fr+ByteArray.size x0.asked.token≤9223372036854775807)∧
            let kV:=ByteArray.append vv (⟨#[32]⟩:ByteArray)
            (ByteArray.size vv+ByteArray.size (⟨#[32]⟩:ByteArray)≤9223372036854775807)∧
            let v37:=rK v24
            (AU v24)∧
            ByteArray.size kV+ByteArray.size v37≤9223372036854775807))))∧((x0.kind==12)=false→(
           ((x0.kind==14)=false→(
            let c3:=ByteArray.append bK (⟨#[32]⟩:ByteArray)
            (ByteArray.size bK+ByteArray.size (⟨#[32]⟩:ByteArray)≤9223372036854775807)∧
            let mJ:=kR x0.n
            (gU x0.n)∧
            ByteArray.size c3+ByteArray.size mJ≤9223372036854775807))))))
        let v21:=x0.kind==8
        (v21=true→(
         aF v21))∧(v21=false→(
         aF (x0.kind==9)))))))
     let da:=x0.kind==2
     (da=true→(
      aF da))∧(da=false→(
      aF (x0.kind==13)))))
   ((x0.kind==11)=true→(
    aF ((-1):Int)))∧((x0.kind==11)=false→(
    aF (0:Int)))))))
noncomputable def gW(x0:ByteArray)(cj:Int):Int:=
 (b4.den .tN x0 cj)
noncomputable def hO(x0:Int):Int:=
 (b4.den (.tO .i64) (b4.den (.mx .i64) x0 ((-1099511627776):Int)) (1099511627776:Int))
noncomputable def cI(x0:ByteArray):Int × Bool:=
 let v3:Int:=(ByteArray.size x0:Int)
 bif(((ByteArray.size x0:Int)==0)||(decide (v3>14)))then
  (0,false)
 else
  Sum.elim (fun r=>r) (fun bj=>
   let aF:Int→Int × Bool:=fun bl=>
    let v11:=(hO bl) != bl
    let aF:ByteArray→Int × Bool:=fun v12=>
     bif(v11||(bb .neq v12 x0))then
      (0,false)
     else
      (bl,true)
    bif v11 then
     aF (⟨#[]⟩:ByteArray)
    else
     aF (e6 bl)
   bif((aC x0 (0:Int))==45)then
    aF (IntKind.wrap .i64 (0-bj))
   else
    aF bj)
  (bV (fun(i7:Nat) (aA:Int)=>
   show Step (Int × Bool) (Int)from
   let aF:Int→Step (Int × Bool) (Int):=fun v9=>
    .bx v9
   let v9:Int:=aC x0 (i7:Int)
   bif((decide (v9≥48))&&(decide (v9≤57)))then
    aF (IntKind.wrap .i64 ((IntKind.wrap .i64 ((10:Int)*aA))+(IntKind.wrap .i64 (IntKind.wrap .u8 (v9-(48:Int))))))
   else
    bif((decide ((i7:Int)>0))||(v9 != 45))then
     .ret (0,false)
    else
     aF aA) 0 (Int.toNat v3) 0:(Int × Bool)⊕(Int))
def ko(x0:ByteArray):Prop:=
 let v3:Int:=(ByteArray.size x0:Int)
 ((((ByteArray.size x0:Int)==0)||(decide (v3>14)))=false→(
  (0≤v3∧v3<(9223372036854775808:Int))∧
  let aR:Int→Prop:=fun bj=>
   let aF:Int→Prop:=fun bl=>
    let v11:=(hO bl) != bl
    (v11=false→(
     rU bl))
   (0≤(0:Int)∧(0:Int)<(ByteArray.size x0:Int))∧
   (((aC x0 (0:Int))==45)=true→(
    aF (IntKind.wrap .i64 (0-bj))))∧(((aC x0 (0:Int))==45)=false→(
    aF bj))
  ∃b1:Nat→(Int)→Prop,b1 0 0∧(∀(i7:Nat) (d0:Int),i7<Int.toNat v3→b1 i7 d0→(
   let aF:Int→Prop:=fun v9=>
    b1 (i7+1) v9
   let v9:Int:=aC x0 (i7:Int)
   (((decide (v9≥48))&&(decide (v9≤57)))=true→(
    aF (IntKind.wrap .i64 ((IntKind.wrap .i64 ((10:Int)*d0))+(IntKind.wrap .i64 (IntKind.wrap .u8 (v9-(48:Int))))))))∧(((decide (v9≥48))&&(decide (v9≤57)))=false→(
    (((decide ((i7:Int)>0))||(v9 != 45))=false→(
     aF d0))))))∧∀bj,b1 (Int.toNat v3) bj→aR bj))
noncomputable def kT(x0:ByteArray)(cj:Int):Int:=
 (gW x0 cj)
noncomputable def jj(x0:Int):Int:=
 (kT (⟨#[48,49,50,51,52,53,54,55,56,57,97,98,99,100,101,102]⟩:ByteArray) x0)
noncomputable def fC(x0:ByteArray):Int × Int:=
 bif((bb .eql x0 (⟨#[]⟩:ByteArray))||((aC x0 (0:Int))==34))then
  (0,0)
 else
  bif((aC x0 (0:Int)) != 92)then
   bif(bb .neq (lv (aC x0 (0:Int))) (bw x0 none (some (1:Int))))then
    (0,0)
   else
    ((aC x0 (0:Int)),1)
  else
   let bl:Int:=(ByteArray.size x0:Int)
   bif((decide (bl≥2))&&(((aC x0 (1:Int))==34)||((aC x0 (1:Int))==92)))then
    ((aC x0 (1:Int)),2)
   else
    let da:Bool:=(decide (bl<4))||((aC x0 (1:Int)) != 120)
    let aF:Int→Int × Int:=fun v20=>
     let eS:Bool:=da||(decide (v20<0))
     let aF:Int→Int × Int:=fun v24=>
      bif(eS||(decide (v24<0)))then
       (0,0)
      else
       let rR:Int:=IntKind.wrap .u8 (aZ .or .i64 (aZ .shl .i64 (jj (aC x0 (2:Int))) (4:Int)) (jj (aC x0 (3:Int))))
       bif(bb .neq (lv rR) (bw x0 none (some (4:Int))))then
        (0,0)
       else
        (rR,4)
     bif eS then
      aF (0:Int)
     else
      aF (jj (aC x0 (3:Int)))
    bif da then
     aF (0:Int)
    else
     aF (jj (aC x0 (2:Int)))
def A3(x0:ByteArray):Prop:=
 let v1:=bb .eql x0 (⟨#[]⟩:ByteArray)
 (v1=false→0≤(0:Int)∧(0:Int)<(ByteArray.size x0:Int))∧
 ((v1||((aC x0 (0:Int))==34))=false→(
  (0≤(0:Int)∧(0:Int)<(ByteArray.size x0:Int))∧
  (((aC x0 (0:Int)) != 92)=true→(
   let bl:Int:=aC x0 (0:Int)
   (0≤(0:Int)∧(0:Int)<(ByteArray.size x0:Int))∧
   (eo (ByteArray.size x0) none (some (1:Int)))∧
   (tj bl)∧
   ((bb .neq (lv bl) (bw x0 none (some (1:Int))))=false→(
    0≤(0:Int)∧(0:Int)<(ByteArray.size x0:Int)))))∧(((aC x0 (0:Int)) != 92)=false→(
   let bl:Int:=(ByteArray.size x0:Int)
   let bK:=decide (bl≥2)
   (bK=true→0≤(1:Int)∧(1:Int)<(ByteArray.size x0:Int))∧
   let v10:=(aC x0 (1:Int))==34
   (bK=true→v10=false→0≤(1:Int)∧(1:Int)<(ByteArray.size x0:Int))∧
   ((bK&&(v10||((aC x0 (1:Int))==92)))=true→(
    0≤(1:Int)∧(1:Int)<(ByteArray.size x0:Int)))∧((bK&&(v10||((aC x0 (1:Int))==92)))=false→(
    let e7:=decide (bl<4)
    (e7=false→0≤(1:Int)∧(1:Int)<(ByteArray.size x0:Int))∧
    let da:Bool:=e7||((aC x0 (1:Int)) != 120)
    (da=false→0≤(2:Int)∧(2:Int)<(ByteArray.size x0:Int))∧
    let aF:Int→Prop:=fun v20=>
     let eS:Bool:=da||(decide (v20<0))
     (eS=false→0≤(3:Int)∧(3:Int)<(ByteArray.size x0:Int))∧
     let aF:Int→Prop:=fun v24=>
      ((eS||(decide (v24<0)))=false→(
       (0≤(2:Int)∧(2:Int)<(ByteArray.size x0:Int))∧
       (0≤(3:Int)∧(3:Int)<(ByteArray.size x0:Int))∧
       let rR:Int:=IntKind.wrap .u8 (aZ .or .i64 (aZ .shl .i64 (jj (aC x0 (2:Int))) (4:Int)) (jj (aC x0 (3:Int))))
       (eo (ByteArray.size x0) none (some (4:Int)))∧
       tj rR))
     (eS=true→(
      aF (0:Int)))∧(eS=false→(
      aF (jj (aC x0 (3:Int)))))
    (da=true→(
     aF (0:Int)))∧(da=false→(
     aF (jj (aC x0 (2:Int)))))))))))
noncomputable def xZ(x0:ByteArray):ByteArray × Int:=
 bif((bb .eql x0 (⟨#[]⟩:ByteArray))||((aC x0 (0:Int)) != 34))then
  (⟨#[]⟩,0)
 else
  Sum.elim (fun r=>r) (fun bj=>
   bif(decide (bj.1≥(ByteArray.size x0:Int)))then
    (⟨#[]⟩,0)
   else
    ((bytesOf bj.2.1),(IntKind.wrap .i64 (bj.1+(1:Int)))))
  (b9 (fun(aA:Int × (List Int) × Bool)=>
   show Step (ByteArray × Int) (Int × (List Int) × Bool)from
   bif((decide (aA.1<(ByteArray.size x0:Int)))&&((aC x0 aA.1) != 34))then
    let ed:=fC (bw x0 (some aA.1) none)
    bif(ed.2==0)then
     .ret (⟨#[]⟩,0)
    else
     let aF:Bool→Step (ByteArray × Int) (Int × (List Int) × Bool):=fun da=>
      .bx ((IntKind.wrap .i64 (aA.1+ed.2)),(List.append aA.2.1 ([ed.1]:List Int)),da)
     bif !aA.2.2 then
      aF true
     else
      aF aA.2.2
   else
    .b7 (aA.1,aA.2.1,aA.2.2)) cu (1,[],false):(ByteArray × Int)⊕(Int × (List Int) × Bool))
def A4(x0:ByteArray):Prop:=
 let v1:=bb .eql x0 (⟨#[]⟩:ByteArray)
 (v1=false→0≤(0:Int)∧(0:Int)<(ByteArray.size x0:Int))∧
 ((v1||((aC x0 (0:Int)) != 34))=false→(
  ∃(b1:(Int × (List Int) × Bool)→Prop) (dL:(Int × (List Int) × Bool)→Nat),b1 (1,[],false)∧dL (1,[],false)<cu∧∀(d0:Int × (List Int) × Bool),b1 d0→(
   let v9:=decide (d0.1<(ByteArray.size x0:Int))
   (v9=true→0≤d0.1∧d0.1<(ByteArray.size x0:Int))∧
   ((v9&&((aC x0 d0.1) != 34))=true→(
    let b2:=bw x0 (some d0.1) none
    (eo (ByteArray.size x0) (some d0.1) none)∧
    let ed:=fC b2
    (A3 b2)∧
    ((ed.2==0)=false→(
     let aF:Bool→Prop:=fun da=>
      let c2:List Int:=([ed.1]:List Int)
      (List.length d0.2.1+List.length c2≤maxLen∧(List.length d0.2.1+List.length c2)*1≤140737488355328)∧
      b1 ((IntKind.wrap .i64 (d0.1+ed.2)),(List.append d0.2.1 c2),da)∧dL ((IntKind.wrap .i64 (d0.1+ed.2)),(List.append d0.2.1 c2),da)<dL d0
     ((!d0.2.2)=true→(
      aF true))∧((!d0.2.2)=false→(
      aF d0.2.2)))))))))
noncomputable def qo(x0:ByteArray):ByteArray × Int:=
 let v1:=xZ x0
 bif((v1.2==0)||(v1.2 != (ByteArray.size x0:Int)))then
  (⟨#[]⟩,4)
 else
  bif(decide ((ByteArray.size v1.1:Int)>60))then
   (⟨#[]⟩,3)
  else
   (v1.1,0)
def EH(x0:ByteArray):Prop:=
 let v1:=xZ x0
 A4 x0
noncomputable def e0(x0:ByteArray):bH × Int:=
 let aF:Int→Int→ByteArray→bH × Int:=fun v3 v4 v5=>
  let v6:=bb .eql x0 (⟨#[]⟩:ByteArray)
  let aF:ByteArray→bH × Int:=fun bl=>
   bif(v6||(bb .neq bl x0))then
    (⟨0,0,⟨#[]⟩⟩,4)
   else
    (⟨v3,v4,v5⟩,0)
  bif v6 then
   aF (⟨#[]⟩:ByteArray)
  else
   aF (fO ⟨v3,v4,v5⟩)
 bif(bb .eql x0 (⟨#[110,111,110,101]⟩:ByteArray))then
  aF (0:Int) (0:Int) (⟨#[]⟩:ByteArray)
 else
  bif((bb .eql x0 (⟨#[116,114,117,101]⟩:ByteArray))||(bb .eql x0 (⟨#[102,97,108,115,101]⟩:ByteArray)))then
   bif(bb .eql x0 (⟨#[116,114,117,101]⟩:ByteArray))then
    aF (1:Int) (1:Int) (⟨#[]⟩:ByteArray)
   else
    aF (1:Int) (0:Int) (⟨#[]⟩:ByteArray)
  else
   bif((bb .neq x0 (⟨#[]⟩:ByteArray))&&((aC x0 (0:Int))==35))then
    let v10:=cI (bw x0 (some (1:Int)) none)
    aF (3:Int) v10.1 (⟨#[]⟩:ByteArray)
   else
    bif((bb .neq x0 (⟨#[]⟩:ByteArray))&&((aC x0 (0:Int))==34))then
     let b2:=qo x0
     aF (4:Int) (0:Int) b2.1
    else
     let b2:=cI x0
     aF (2:Int) b2.1 (⟨#[]⟩:ByteArray)
def xQ(x0:ByteArray):Prop:=
 let aF:Int→Int→ByteArray→Prop:=fun v3 v4 v5=>
  let v6:=bb .eql x0 (⟨#[]⟩:ByteArray)
  (v6=false→(
   AR ⟨v3,v4,v5⟩))
 ((bb .eql x0 (⟨#[110,111,110,101]⟩:ByteArray))=true→(
  aF (0:Int) (0:Int) (⟨#[]⟩:ByteArray)))∧((bb .eql x0 (⟨#[110,111,110,101]⟩:ByteArray))=false→(
  (((bb .eql x0 (⟨#[116,114,117,101]⟩:ByteArray))||(bb .eql x0 (⟨#[102,97,108,115,101]⟩:ByteArray)))=true→(
   ((bb .eql x0 (⟨#[116,114,117,101]⟩:ByteArray))=true→(
    aF (1:Int) (1:Int) (⟨#[]⟩:ByteArray)))∧((bb .eql x0 (⟨#[116,114,117,101]⟩:ByteArray))=false→(
    aF (1:Int) (0:Int) (⟨#[]⟩:ByteArray)))))∧(((bb .eql x0 (⟨#[116,114,117,101]⟩:ByteArray))||(bb .eql x0 (⟨#[102,97,108,115,101]⟩:ByteArray)))=false→(
   let v5:=bb .neq x0 (⟨#[]⟩:ByteArray)
   (v5=true→0≤(0:Int)∧(0:Int)<(ByteArray.size x0:Int))∧
   ((v5&&((aC x0 (0:Int))==35))=true→(
    let v9:=bw x0 (some (1:Int)) none
    (eo (ByteArray.size x0) (some (1:Int)) none)∧
    let v10:=cI v9
    (ko v9)∧
    aF (3:Int) v10.1 (⟨#[]⟩:ByteArray)))∧((v5&&((aC x0 (0:Int))==35))=false→(
    let v9:=bb .neq x0 (⟨#[]⟩:ByteArray)
    (v9=true→0≤(0:Int)∧(0:Int)<(ByteArray.size x0:Int))∧
    ((v9&&((aC x0 (0:Int))==34))=true→(
     let b2:=qo x0
     (EH x0)∧
     aF (4:Int) (0:Int) b2.1))∧((v9&&((aC x0 (0:Int))==34))=false→(
     let b2:=cI x0
     (ko x0)∧
     aF (2:Int) b2.1 (⟨#[]⟩:ByteArray)))))))))
noncomputable def h1(x0:ByteArray):Int × ByteArray × ByteArray × Bool:=
 let bT:ByteArray→ByteArray→Bool→Int × ByteArray × ByteArray × Bool:=fun v1 v2 v3=>
  let bT:ByteArray→ByteArray→Bool→Int × ByteArray × ByteArray × Bool:=fun v4 v5 v6=>
   let bl:=cI v1
   (bl.1,v4,v5,((v3&&v6)&&bl.2))
  let aF:Int→Int × ByteArray × ByteArray × Bool:=fun v4=>
   bif(decide (v4≥0))then
    bT (bw v2 none (some v4)) (bw v2 (some (IntKind.wrap .i64 (v4+(1:Int)))) none) true
   else
    bT v2 (⟨#[]⟩:ByteArray) false
  bif(bb .eql (⟨#[46]⟩:ByteArray) v2)then
   aF (0:Int)
  else
   aF (gW v2 (aC (⟨#[46]⟩:ByteArray) (0:Int)))
 let aF:Int→Int × ByteArray × ByteArray × Bool:=fun v1=>
  bif(decide (v1≥0))then
   bT (bw x0 none (some v1)) (bw x0 (some (IntKind.wrap .i64 (v1+(1:Int)))) none) true
  else
   bT x0 (⟨#[]⟩:ByteArray) false
 bif(bb .eql (⟨#[46]⟩:ByteArray) x0)then
  aF (0:Int)
 else
  aF (gW x0 (aC (⟨#[46]⟩:ByteArray) (0:Int)))
def tw(x0:ByteArray):Prop:=
 let bT:ByteArray→ByteArray→Bool→Prop:=fun v1 v2 v3=>
  let bT:ByteArray→ByteArray→Bool→Prop:=fun v4 v5 v6=>
   let bl:=cI v1
   ko v1
  let aF:Int→Prop:=fun v4=>
   ((decide (v4≥0))=true→(
    (eo (ByteArray.size v2) none (some v4))∧
    let bl:Int:=IntKind.wrap .i64 (v4+(1:Int))
    (eo (ByteArray.size v2) (some bl) none)∧
    bT (bw v2 none (some v4)) (bw v2 (some bl) none) true))∧((decide (v4≥0))=false→(
    bT v2 (⟨#[]⟩:ByteArray) false))
  ((bb .eql (⟨#[46]⟩:ByteArray) v2)=true→(
   aF (0:Int)))∧((bb .eql (⟨#[46]⟩:ByteArray) v2)=false→(
   (0≤(0:Int)∧(0:Int)<(ByteArray.size (⟨#[46]⟩:ByteArray):Int))∧
   aF (gW v2 (aC (⟨#[46]⟩:ByteArray) (0:Int)))))
 let aF:Int→Prop:=fun v1=>
  ((decide (v1≥0))=true→(
   (eo (ByteArray.size x0) none (some v1))∧
   let v4:Int:=IntKind.wrap .i64 (v1+(1:Int))
   (eo (ByteArray.size x0) (some v4) none)∧
   bT (bw x0 none (some v1)) (bw x0 (some v4) none) true))∧((decide (v1≥0))=false→(
   bT x0 (⟨#[]⟩:ByteArray) false))
 ((bb .eql (⟨#[46]⟩:ByteArray) x0)=true→(
  aF (0:Int)))∧((bb .eql (⟨#[46]⟩:ByteArray) x0)=false→(
  (0≤(0:Int)∧(0:Int)<(ByteArray.size (⟨#[46]⟩:ByteArray):Int))∧
  aF (gW x0 (aC (⟨#[46]⟩:ByteArray) (0:Int)))))
noncomputable def tE(x0:Int):Int:=
 Sum.elim (fun r=>r) (fun bj=>
  (-1))
 (bV (fun(i17:Nat) (aA:Unit)=>
  show Step (Int) (Unit)from
  let c2:Int:=hD ([(aC (⟨#[48,49,50,51,52,53,54,55,56,57,97,98,99,100,101,102]⟩:ByteArray) (0:Int)),(aC (⟨#[48,49,50,51,52,53,54,55,56,57,97,98,99,100,101,102]⟩:ByteArray) (1:Int)),(aC (⟨#[48,49,50,51,52,53,54,55,56,57,97,98,99,100,101,102]⟩:ByteArray) (2:Int)),(aC (⟨#[48,49,50,51,52,53,54,55,56,57,97,98,99,100,101,102]⟩:ByteArray) (3:Int)),(aC (⟨#[48,49,50,51,52,53,54,55,56,57,97,98,99,100,101,102]⟩:ByteArray) (4:Int)),(aC (⟨#[48,49,50,51,52,53,54,55,56,57,97,98,99,100,101,102]⟩:ByteArray) (5:Int)),(aC (⟨#[48,49,50,51,52,53,54,55,56,57,97,98,99,100,101,102]⟩:ByteArray) (6:Int)),(aC (⟨#[48,49,50,51,52,53,54,55,56,57,97,98,99,100,101,102]⟩:ByteArray) (7:Int)),(aC (⟨#[48,49,50,51,52,53,54,55,56,57,97,98,99,100,101,102]⟩:ByteArray) (8:Int)),(aC (⟨#[48,49,50,51,52,53,54,55,56,57,97,98,99,100,101,102]⟩:ByteArray) (9:Int)),(aC (⟨#[48,49,50,51,52,53,54,55,56,57,97,98,99,100,101,102]⟩:ByteArray) (10:Int)),(aC (⟨#[48,49,50,51,52,53,54,55,56,57,97,98,99,100,101,102]⟩:ByteArray) (11:Int)),(aC (⟨#[48,49,50,51,52,53,54,55,56,57,97,98,99,100,101,102]⟩:ByteArray) (12:Int)),(aC (⟨#[48,49,50,51,52,53,54,55,56,57,97,98,99,100,101,102]⟩:ByteArray) (13:Int)),(aC (⟨#[48,49,50,51,52,53,54,55,56,57,97,98,99,100,101,102]⟩:ByteArray) (14:Int)),(aC (⟨#[48,49,50,51,52,53,54,55,56,57,97,98,99,100,101,102]⟩:ByteArray) (15:Int))]:List Int) (Int.toNat (i17:Int))
  bif(c2==x0)then
   .ret (i17:Int)
  else
   .bx ()) 0 (Int.toNat (16:Int)) ():Int⊕(Unit))
def xR(x0:Int):Prop:=
 (0≤(0:Int)∧(0:Int)<(ByteArray.size (⟨#[48,49,50,51,52,53,54,55,56,57,97,98,99,100,101,102]⟩:ByteArray):Int))∧
 (0≤(1:Int)∧(1:Int)<(ByteArray.size (⟨#[48,49,50,51,52,53,54,55,56,57,97,98,99,100,101,102]⟩:ByteArray):Int))∧
 (0≤(2:Int)∧(2:Int)<(ByteArray.size (⟨#[48,49,50,51,52,53,54,55,56,57,97,98,99,100,101,102]⟩:ByteArray):Int))∧
 (0≤(3:Int)∧(3:Int)<(ByteArray.size (⟨#[48,49,50,51,52,53,54,55,56,57,97,98,99,100,101,102]⟩:ByteArray):Int))∧
 (0≤(4:Int)∧(4:Int)<(ByteArray.size (⟨#[48,49,50,51,52,53,54,55,56,57,97,98,99,100,101,102]⟩:ByteArray):Int))∧
 (0≤(5:Int)∧(5:Int)<(ByteArray.size (⟨#[48,49,50,51,52,53,54,55,56,57,97,98,99,100,101,102]⟩:ByteArray):Int))∧
 (0≤(6:Int)∧(6:Int)<(ByteArray.size (⟨#[48,49,50,51,52,53,54,55,56,57,97,98,99,100,101,102]⟩:ByteArray):Int))∧
 (0≤(7:Int)∧(7:Int)<(ByteArray.size (⟨#[48,49,50,51,52,53,54,55,56,57,97,98,99,100,101,102]⟩:ByteArray):Int))∧
 (0≤(8:Int)∧(8:Int)<(ByteArray.size (⟨#[48,49,50,51,52,53,54,55,56,57,97,98,99,100,101,102]⟩:ByteArray):Int))∧
 (0≤(9:Int)∧(9:Int)<(ByteArray.size (⟨#[48,49,50,51,52,53,54,55,56,57,97,98,99,100,101,102]⟩:ByteArray):Int))∧
 (0≤(10:Int)∧(10:Int)<(ByteArray.size (⟨#[48,49,50,51,52,53,54,55,56,57,97,98,99,100,101,102]⟩:ByteArray):Int))∧
 (0≤(11:Int)∧(11:Int)<(ByteArray.size (⟨#[48,49,50,51,52,53,54,55,56,57,97,98,99,100,101,102]⟩:ByteArray):Int))∧
 (0≤(12:Int)∧(12:Int)<(ByteArray.size (⟨#[48,49,50,51,52,53,54,55,56,57,97,98,99,100,101,102]⟩:ByteArray):Int))∧
 (0≤(13:Int)∧(13:Int)<(ByteArray.size (⟨#[48,49,50,51,52,53,54,55,56,57,97,98,99,100,101,102]⟩:ByteArray):Int))∧
 (0≤(14:Int)∧(14:Int)<(ByteArray.size (⟨#[48,49,50,51,52,53,54,55,56,57,97,98,99,100,101,102]⟩:ByteArray):Int))∧
 0≤(15:Int)∧(15:Int)<(ByteArray.size (⟨#[48,49,50,51,52,53,54,55,56,57,97,98,99,100,101,102]⟩:ByteArray):Int)
noncomputable def gk(x0:ByteArray):ByteArray × Int:=
 let v1:Int:=(ByteArray.size x0:Int)
 bif((aZ .rem .i64 v1 (2:Int)) != 0)then
  (⟨#[]⟩,4)
 else
  Sum.elim (fun r=>r) (fun bj=>
   ((bytesOf bj.2),0))
  (b9 (fun(aA:Int × (List Int))=>
   show Step (ByteArray × Int) (Int × (List Int))from
   bif(decide (aA.1<v1))then
    let v12:=tE (aC x0 aA.1)
    let b2:=tE (aC x0 (IntKind.wrap .i64 (aA.1+(1:Int))))
    bif((decide (v12<0))||(decide (b2<0)))then
     .ret (⟨#[]⟩,4)
    else
     .bx ((IntKind.wrap .i64 (aA.1+(2:Int))),(List.append aA.2 ([(IntKind.wrap .u8 (IntKind.wrap .i64 ((IntKind.wrap .i64 ((16:Int)*v12))+b2)))]:List Int)))
   else
    .b7 (aA.1,aA.2)) cu (0,(List.replicate (Int.toNat (0:Int)) (fJ .u8))):(ByteArray × Int)⊕(Int × (List Int)))
def xS(x0:ByteArray):Prop:=
 let v1:Int:=(ByteArray.size x0:Int)
 (((aZ .rem .i64 v1 (2:Int)) != 0)=false→(
  (0≤(0:Int)∧(0:Int)≤(aZ .quo .i64 v1 (2:Int))∧(aZ .quo .i64 v1 (2:Int))≤(maxLen:Int)∧(1:Int)*(aZ .quo .i64 v1 (2:Int))≤281474976710656)∧
  ∃(b1:(Int × (List Int))→Prop) (dL:(Int × (List Int))→Nat),b1 (0,(List.replicate (Int.toNat (0:Int)) (fJ .u8)))∧dL (0,(List.replicate (Int.toNat (0:Int)) (fJ .u8)))<cu∧∀(d0:Int × (List Int)),b1 d0→(
   ((decide (d0.1<v1))=true→(
    let v9:Int:=aC x0 d0.1
    (0≤d0.1∧d0.1<(ByteArray.size x0:Int))∧
    let v10:Int:=IntKind.wrap .i64 (d0.1+(1:Int))
    let v11:Int:=aC x0 v10
    (0≤v10∧v10<(ByteArray.size x0:Int))∧
    let v12:=tE v9
    (xR v9)∧
    let b2:=tE v11
    (xR v11)∧
    (((decide (v12<0))||(decide (b2<0)))=false→(
     let v20:List Int:=([(IntKind.wrap .u8 (IntKind.wrap .i64 ((IntKind.wrap .i64 ((16:Int)*v12))+b2)))]:List Int)
     (List.length d0.2+List.length v20≤maxLen∧(List.length d0.2+List.length v20)*1≤140737488355328)∧
     b1 ((IntKind.wrap .i64 (d0.1+(2:Int))),(List.append d0.2 v20))∧dL ((IntKind.wrap .i64 (d0.1+(2:Int))),(List.append d0.2 v20))<dL d0)))))))
noncomputable def mH(x0:Int)(cj:ByteArray):bf × Bool:=
 let bT:ByteArray→ByteArray→bf × Bool:=fun v2 v3=>
  let bT:Bool→Int→Int→Int→ByteArray→ByteArray→Int→Int→ByteArray→Int→ByteArray→ByteArray→ByteArray→Int→Int→Int→ByteArray→ByteArray→ByteArray→Int→Int→ByteArray→ByteArray→bf × Bool:=fun v5 bK v9 v10 v11 v12 b2 ed e7 cR dM da c2 v20 v21 eS pq v24 c3 mJ gz v28 jk=>
   (⟨x0,bK,v9,⟨v10,v11,v12⟩,⟨b2,ed,e7⟩,⟨cR,dM,da⟩,⟨c2,⟨v20,v21,⟨eS,pq,v24⟩,c3,⟨mJ,gz,v28⟩,jk⟩⟩⟩,v5)
  let aF:Bool→bf × Bool:=fun v5=>
   bif v5 then
    let bl:=e0 v3
    let v10:=h1 v2
    bT (v10.2.2.2&&(bl.2==0)) (0:Int) (0:Int) v10.1 v10.2.1 v10.2.2.1 bl.1.kind bl.1.n bl.1.s (0:Int) (⟨#[]⟩:ByteArray) (⟨#[]⟩:ByteArray) (⟨#[]⟩:ByteArray) (0:Int) (0:Int) (0:Int) (⟨#[]⟩:ByteArray) (⟨#[]⟩:ByteArray) (⟨#[]⟩:ByteArray) (0:Int) (0:Int) (⟨#[]⟩:ByteArray) (⟨#[]⟩:ByteArray)
   else
    bif(x0==3)then
     let bK:=h1 cj
     bT bK.2.2.2 (0:Int) (0:Int) (0:Int) (⟨#[]⟩:ByteArray) (⟨#[]⟩:ByteArray) (0:Int) (0:Int) (⟨#[]⟩:ByteArray) bK.1 bK.2.1 bK.2.2.1 (⟨#[]⟩:ByteArray) (0:Int) (0:Int) (0:Int) (⟨#[]⟩:ByteArray) (⟨#[]⟩:ByteArray) (⟨#[]⟩:ByteArray) (0:Int) (0:Int) (⟨#[]⟩:ByteArray) (⟨#[]⟩:ByteArray)
    else
     bif(x0==12)then
      let v9:=gk v3
      let v12:=hC v9.1
      bT ((v9.2==0)&&(v12.2==0)) (0:Int) (0:Int) (0:Int) (⟨#[]⟩:ByteArray) (⟨#[]⟩:ByteArray) (0:Int) (0:Int) (⟨#[]⟩:ByteArray) (0:Int) (⟨#[]⟩:ByteArray) (⟨#[]⟩:ByteArray) v2 v12.1.kind v12.1.cW v12.1.key.dev v12.1.key.bm v12.1.key.attr v12.1.name v12.1.value.kind v12.1.value.n v12.1.value.s v12.1.text
     else
      let aF:Bool→bf × Bool:=fun v9=>
       bif v9 then
        let v11:=cI v2
        let ed:=cI v3
        bT (v11.2&&ed.2) v11.1 ed.1 (0:Int) (⟨#[]⟩:ByteArray) (⟨#[]⟩:ByteArray) (0:Int) (0:Int) (⟨#[]⟩:ByteArray) (0:Int) (⟨#[]⟩:ByteArray) (⟨#[]⟩:ByteArray) (⟨#[]⟩:ByteArray) (0:Int) (0:Int) (0:Int) (⟨#[]⟩:ByteArray) (⟨#[]⟩:ByteArray) (⟨#[]⟩:ByteArray) (0:Int) (0:Int) (⟨#[]⟩:ByteArray) (⟨#[]⟩:ByteArray)
       else
        bif(x0==14)then
         bT true (0:Int) (0:Int) (0:Int) (⟨#[]⟩:ByteArray) (⟨#[]⟩:ByteArray) (0:Int) (0:Int) (⟨#[]⟩:ByteArray) (0:Int) (⟨#[]⟩:ByteArray) (⟨#[]⟩:ByteArray) (⟨#[]⟩:ByteArray) (0:Int) (0:Int) (0:Int) (⟨#[]⟩:ByteArray) (⟨#[]⟩:ByteArray) (⟨#[]⟩:ByteArray) (0:Int) (0:Int) (⟨#[]⟩:ByteArray) (⟨#[]⟩:ByteArray)
        else
         let v12:=cI cj
         bT v12.2 v12.1 (0:Int) (0:Int) (⟨#[]⟩:ByteArray) (⟨#[]⟩:ByteArray) (0:Int) (0:Int) (⟨#[]⟩:ByteArray) (0:Int) (⟨#[]⟩:ByteArray) (⟨#[]⟩:ByteArray) (⟨#[]⟩:ByteArray) (0:Int) (0:Int) (0:Int) (⟨#[]⟩:ByteArray) (⟨#[]⟩:ByteArray) (⟨#[]⟩:ByteArray) (0:Int) (0:Int) (⟨#[]⟩:ByteArray) (⟨#[]⟩:ByteArray)
      let v9:=x0==8
      bif v9 then
       aF v9
      else
       aF (x0==9)
  let v5:=x0==2
  bif v5 then
   aF v5
  else
   aF (x0==13)
 let aF:Int→bf × Bool:=fun v2=>
  bif(decide (v2≥0))then
   bT (bw cj none (some v2)) (bw cj (some (IntKind.wrap .i64 (v2+(1:Int)))) none)
  else
   bT cj (⟨#[]⟩:ByteArray)
 bif(bb .eql (⟨#[32]⟩:ByteArray) cj)then
  aF (0:Int)
 else
  aF (gW cj (aC (⟨#[32]⟩:ByteArray) (0:Int)))
def A7(x0:Int)(cj:ByteArray):Prop:=
 let bT:ByteArray→ByteArray→Prop:=fun v2 v3=>
  let aF:Bool→Prop:=fun v5=>
   (v5=true→(
    let bl:=e0 v3
    (xQ v3)∧
    let v10:=h1 v2
    tw v2))∧(v5=false→(
    ((x0==3)=true→(
     let bK:=h1 cj
     tw cj))∧((x0==3)=false→(
     ((x0==12)=true→(
      let v9:=gk v3
      (xS v3)∧
      let v12:=hC v9.1
      vb v9.1))∧((x0==12)=false→(
      let aF:Bool→Prop:=fun v9=>
       (v9=true→(
        let v11:=cI v2
        (ko v2)∧
        let ed:=cI v3
        ko v3))∧(v9=false→(
        ((x0==14)=false→(
         let v12:=cI cj
         ko cj))))
      let v9:=x0==8
      (v9=true→(
       aF v9))∧(v9=false→(
       aF (x0==9)))))))))
  let v5:=x0==2
  (v5=true→(
   aF v5))∧(v5=false→(
   aF (x0==13)))
 let aF:Int→Prop:=fun v2=>
  ((decide (v2≥0))=true→(
   (eo (ByteArray.size cj) none (some v2))∧
   let v5:Int:=IntKind.wrap .i64 (v2+(1:Int))
   (eo (ByteArray.size cj) (some v5) none)∧
   bT (bw cj none (some v2)) (bw cj (some v5) none)))∧((decide (v2≥0))=false→(
   bT cj (⟨#[]⟩:ByteArray)))
 ((bb .eql (⟨#[32]⟩:ByteArray) cj)=true→(
  aF (0:Int)))∧((bb .eql (⟨#[32]⟩:ByteArray) cj)=false→(
  (0≤(0:Int)∧(0:Int)<(ByteArray.size (⟨#[32]⟩:ByteArray):Int))∧
  aF (gW cj (aC (⟨#[32]⟩:ByteArray) (0:Int)))))
noncomputable def m16(x0:ByteArray):bf × Int:=
 let bT:ByteArray→ByteArray→bf × Int:=fun v1 v2=>
  Sum.elim (fun r=>r) (fun bj=>
   (⟨0,0,0,⟨0,⟨#[]⟩,⟨#[]⟩⟩,⟨0,0,⟨#[]⟩⟩,⟨0,⟨#[]⟩,⟨#[]⟩⟩,⟨⟨#[]⟩,⟨0,0,⟨0,⟨#[]⟩,⟨#[]⟩⟩,⟨#[]⟩,⟨0,0,⟨#[]⟩⟩,⟨#[]⟩⟩⟩⟩,4))
  (bV (fun(i4:Nat) (aA:Unit)=>
   show Step (bf × Int) (Unit)from
   let aF:Step (bf × Int) (Unit):=
    .bx ()
   let v6:ByteArray:=hD ([⟨#[116,105,99,107]⟩,⟨#[115,101,110,115,101]⟩,⟨#[101,118,101,110,116]⟩,⟨#[110,111,105,115,101]⟩,⟨#[113,117,105,101,116]⟩,⟨#[111,102,102]⟩,⟨#[111,110]⟩,⟨#[99,117,116]⟩,⟨#[106,111,105,110]⟩,⟨#[99,114,97,115,104]⟩,⟨#[99,108,111,99,107]⟩,⟨#[97,115,107]⟩,⟨#[101,110,101,114,103,121]⟩,⟨#[109,111,118,101]⟩,⟨#[108,111,115,101]⟩,⟨#[116,119,105,99,101]⟩]:List ByteArray) (Int.toNat (i4:Int))
   bif(bb .neq v6 v1)then
    aF
   else
    let v9:=mH (IntKind.wrap .i64 ((i4:Int)+(1:Int))) v2
    let v12:=m13 v9.1
    bif((v9.2&&(v12.2==0))&&(bb .eql v12.1 x0))then
     .ret (v9.1,0)
    else
     aF) 0 (Int.toNat (16:Int)) ():(bf × Int)⊕(Unit))
 let aF:Int→bf × Int:=fun v1=>
  bif(decide (v1≥0))then
   bT (bw x0 none (some v1)) (bw x0 (some (IntKind.wrap .i64 (v1+(1:Int)))) none)
  else
   bT x0 (⟨#[]⟩:ByteArray)
 bif(bb .eql (⟨#[32]⟩:ByteArray) x0)then
  aF (0:Int)
 else
  aF (gW x0 (aC (⟨#[32]⟩:ByteArray) (0:Int)))
def vp(x0:ByteArray):Prop:=
 let bT:ByteArray→ByteArray→Prop:=fun v1 v2=>
  ∃b1:Nat→(Unit)→Prop,b1 0 ()∧∀(i4:Nat) (d0:Unit),i4<Int.toNat (16:Int)→b1 i4 d0→(
   let aF:Prop:=
    b1 (i4+1) ()
   let v6:ByteArray:=hD ([⟨#[116,105,99,107]⟩,⟨#[115,101,110,115,101]⟩,⟨#[101,118,101,110,116]⟩,⟨#[110,111,105,115,101]⟩,⟨#[113,117,105,101,116]⟩,⟨#[111,102,102]⟩,⟨#[111,110]⟩,⟨#[99,117,116]⟩,⟨#[106,111,105,110]⟩,⟨#[99,114,97,115,104]⟩,⟨#[99,108,111,99,107]⟩,⟨#[97,115,107]⟩,⟨#[101,110,101,114,103,121]⟩,⟨#[109,111,118,101]⟩,⟨#[108,111,115,101]⟩,⟨#[116,119,105,99,101]⟩]:List ByteArray) (Int.toNat (i4:Int))
   ((bb .neq v6 v1)=true→(
    aF))∧((bb .neq v6 v1)=false→(
    let bK:Int:=IntKind.wrap .i64 ((i4:Int)+(1:Int))
    let v9:=mH bK v2
    (A7 bK v2)∧
    let v12:=m13 v9.1
    (xP v9.1)∧
    (((v9.2&&(v12.2==0))&&(bb .eql v12.1 x0))=false→(
     aF)))))
 let aF:Int→Prop:=fun v1=>
  ((decide (v1≥0))=true→(
   (eo (ByteArray.size x0) none (some v1))∧
   let v4:Int:=IntKind.wrap .i64 (v1+(1:Int))
   (eo (ByteArray.size x0) (some v4) none)∧
   bT (bw x0 none (some v1)) (bw x0 (some v4) none)))∧((decide (v1≥0))=false→(
   bT x0 (⟨#[]⟩:ByteArray)))
 ((bb .eql (⟨#[32]⟩:ByteArray) x0)=true→(
  aF (0:Int)))∧((bb .eql (⟨#[32]⟩:ByteArray) x0)=false→(
  (0≤(0:Int)∧(0:Int)<(ByteArray.size (⟨#[32]⟩:ByteArray):Int))∧
  aF (gW x0 (aC (⟨#[32]⟩:ByteArray) (0:Int)))))
noncomputable def m20(x0:ByteArray):(List bf) × Int × Int:=
 bif(decide ((ByteArray.size x0:Int)>1048576))then
  ([],0,3)
 else
  let aF:ByteArray→Bool→Int→(List bf) × Int × Int:=fun v3 v4 v5=>
   Sum.elim (fun r=>r) (fun bj=>
    (bj.2.2.2.1,0,0))
   (b9 (fun(aA:Int × ByteArray × Bool × (List bf) × Bool × Int)=>
    show Step ((List bf) × Int × Int) (Int × ByteArray × Bool × (List bf) × Bool × Int)from
    bif aA.2.2.1 then
     let aF:Int→(List bf)→Step ((List bf) × Int × Int) (Int × ByteArray × Bool × (List bf) × Bool × Int):=fun v12 dM=>
      let aF:ByteArray→Bool→Bool→Int→Step ((List bf) × Int × Int) (Int × ByteArray × Bool × (List bf) × Bool × Int):=fun da c2 v20 v21=>
       .bx (v12,da,c2,dM,v20,v21)
      bif aA.2.2.2.2.1 then
       aF (⟨#[]⟩:ByteArray) false aA.2.2.2.2.1 aA.2.2.2.2.2
      else
       let c2:=kT (bw x0 (some aA.2.2.2.2.2) none) (10:Int)
       bif(decide (c2<0))then
        aF (bw x0 (some aA.2.2.2.2.2) none) true true aA.2.2.2.2.2
       else
        aF (bw x0 (some aA.2.2.2.2.2) (some (IntKind.wrap .i64 (aA.2.2.2.2.2+c2)))) true aA.2.2.2.2.1 (IntKind.wrap .i64 (aA.2.2.2.2.2+(IntKind.wrap .i64 (c2+(1:Int)))))
     let v12:Int:=IntKind.wrap .i64 (aA.1+(1:Int))
     bif((bb .eql aA.2.1 (⟨#[]⟩:ByteArray))||((aC aA.2.1 (0:Int))==35))then
      aF v12 aA.2.2.2.1
     else
      let dM:=m16 aA.2.1
      bif(dM.2 != 0)then
       .ret ([],v12,4)
      else
       aF v12 (List.append aA.2.2.2.1 ([dM.1]:List bf))
    else
     .b7 (aA.1,aA.2.1,aA.2.2.1,aA.2.2.2.1,aA.2.2.2.2.1,aA.2.2.2.2.2)) cu (0,v3,true,[],v4,v5):((List bf) × Int × Int)⊕(Int × ByteArray × Bool × (List bf) × Bool × Int))
  let v4:=kT (bw x0 (some (0:Int)) none) (10:Int)
  bif(decide (v4<0))then
   aF (bw x0 (some (0:Int)) none) true (0:Int)
  else
   aF (bw x0 (some (0:Int)) (some (IntKind.wrap .i64 ((0:Int)+v4)))) false (IntKind.wrap .i64 ((0:Int)+(IntKind.wrap .i64 (v4+(1:Int)))))
def Ba(x0:ByteArray):Prop:=
 ((decide ((ByteArray.size x0:Int)>1048576))=false→(
  let aF:ByteArray→Bool→Int→Prop:=fun v3 v4 v5=>
   ∃(b1:(Int × ByteArray × Bool × (List bf) × Bool × Int)→Prop) (dL:(Int × ByteArray × Bool × (List bf) × Bool × Int)→Nat),b1 (0,v3,true,[],v4,v5)∧dL (0,v3,true,[],v4,v5)<cu∧∀(d0:Int × ByteArray × Bool × (List bf) × Bool × Int),b1 d0→(
    (d0.2.2.1=true→(
     let aF:Int→(List bf)→Prop:=fun v12 dM=>
      let aF:ByteArray→Bool→Bool→Int→Prop:=fun da c2 v20 v21=>
       b1 (v12,da,c2,dM,v20,v21)∧dL (v12,da,c2,dM,v20,v21)<dL d0
      (d0.2.2.2.2.1=true→(
       aF (⟨#[]⟩:ByteArray) false d0.2.2.2.2.1 d0.2.2.2.2.2))∧(d0.2.2.2.2.1=false→(
       (eo (ByteArray.size x0) (some d0.2.2.2.2.2) none)∧
       let c2:=kT (bw x0 (some d0.2.2.2.2.2) none) (10:Int)
       ((decide (c2<0))=true→(
        (eo (ByteArray.size x0) (some d0.2.2.2.2.2) none)∧
        aF (bw x0 (some d0.2.2.2.2.2) none) true true d0.2.2.2.2.2))∧((decide (c2<0))=false→(
        let v21:Int:=IntKind.wrap .i64 (d0.2.2.2.2.2+c2)
        (eo (ByteArray.size x0) (some d0.2.2.2.2.2) (some v21))∧
        aF (bw x0 (some d0.2.2.2.2.2) (some v21)) true d0.2.2.2.2.1 (IntKind.wrap .i64 (d0.2.2.2.2.2+(IntKind.wrap .i64 (c2+(1:Int)))))))))
     let v12:Int:=IntKind.wrap .i64 (d0.1+(1:Int))
     let b2:=bb .eql d0.2.1 (⟨#[]⟩:ByteArray)
     (b2=false→0≤(0:Int)∧(0:Int)<(ByteArray.size d0.2.1:Int))∧
     ((b2||((aC d0.2.1 (0:Int))==35))=true→(
      aF v12 d0.2.2.2.1))∧((b2||((aC d0.2.1 (0:Int))==35))=false→(
      let dM:=m16 d0.2.1
      (vp d0.2.1)∧
      ((dM.2 != 0)=false→(
       let v21:List bf:=([dM.1]:List bf)
       (List.length d0.2.2.2.1+List.length v21≤maxLen∧(List.length d0.2.2.2.1+List.length v21)*272≤140737488355328)∧
       aF v12 (List.append d0.2.2.2.1 v21))))))))
  (eo (ByteArray.size x0) (some (0:Int)) none)∧
  let v4:=kT (bw x0 (some (0:Int)) none) (10:Int)
  ((decide (v4<0))=true→(
   (eo (ByteArray.size x0) (some (0:Int)) none)∧
   aF (bw x0 (some (0:Int)) none) true (0:Int)))∧((decide (v4<0))=false→(
   let v6:Int:=IntKind.wrap .i64 ((0:Int)+v4)
   (eo (ByteArray.size x0) (some (0:Int)) (some v6))∧
   aF (bw x0 (some (0:Int)) (some v6)) false (IntKind.wrap .i64 ((0:Int)+(IntKind.wrap .i64 (v4+(1:Int)))))))))
noncomputable def m15:Bool:=
 let v0:=m13 ⟨2,0,0,⟨1,⟨#[118,97,108,118,101]⟩,⟨#[111,112,101,110]⟩⟩,⟨1,1,⟨#[]⟩⟩,⟨0,⟨#[]⟩,⟨#[]⟩⟩,⟨⟨#[]⟩,⟨0,0,⟨0,⟨#[]⟩,⟨#[]⟩⟩,⟨#[]⟩,⟨0,0,⟨#[]⟩⟩,⟨#[]⟩⟩⟩⟩
 bif((v0.2 != 0)||(bb .neq v0.1 (⟨#[115,101,110,115,101,32,49,46,118,97,108,118,101,46,111,112,101,110,32,116,114,117,101]⟩:ByteArray)))then
  false
 else
  let v6:=m13 ⟨11,(-1),0,⟨0,⟨#[]⟩,⟨#[]⟩⟩,⟨0,0,⟨#[]⟩⟩,⟨0,⟨#[]⟩,⟨#[]⟩⟩,⟨⟨#[]⟩,⟨0,0,⟨0,⟨#[]⟩,⟨#[]⟩⟩,⟨#[]⟩,⟨0,0,⟨#[]⟩⟩,⟨#[]⟩⟩⟩⟩
  bif((v6.2 != 0)||(bb .neq v6.1 (⟨#[99,108,111,99,107,32,45,49]⟩:ByteArray)))then
   false
  else
   let v12:List ByteArray:=([⟨#[116,105,99,107,32,48,53]⟩,⟨#[116,105,99,107]⟩,⟨#[84,105,99,107,32,53]⟩,⟨#[115,101,110,115,101,32,49,46,118,97,108,118,101,46,111,112,101,110,32,110,111,110,101]⟩]:List ByteArray)
   let b2:Int:=(List.length v12:Int)
   Sum.elim (fun r=>r) (fun bj=>
    let ed:=m20 (⟨#[35,32,97,32,114,101,109,97,114,107,10,10,110,111,110,115,101,110,115,101,10]⟩:ByteArray)
    ((ed.2.1==3)&&(ed.2.2==4)))
   (bV (fun(i14:Nat) (aA:Unit)=>
    show Step (Bool) (Unit)from
    let dM:=m16 (List.getD v12 (Int.toNat (i14:Int)) (fJ .str))
    bif(dM.2 != 4)then
     .ret false
    else
     .bx ()) 0 (Int.toNat b2) ():Bool⊕(Unit))
def xU:Prop:=
 let v0:=m13 ⟨2,0,0,⟨1,⟨#[118,97,108,118,101]⟩,⟨#[111,112,101,110]⟩⟩,⟨1,1,⟨#[]⟩⟩,⟨0,⟨#[]⟩,⟨#[]⟩⟩,⟨⟨#[]⟩,⟨0,0,⟨0,⟨#[]⟩,⟨#[]⟩⟩,⟨#[]⟩,⟨0,0,⟨#[]⟩⟩,⟨#[]⟩⟩⟩⟩
 (xP ⟨2,0,0,⟨1,⟨#[118,97,108,118,101]⟩,⟨#[111,112,101,110]⟩⟩,⟨1,1,⟨#[]⟩⟩,⟨0,⟨#[]⟩,⟨#[]⟩⟩,⟨⟨#[]⟩,⟨0,0,⟨0,⟨#[]⟩,⟨#[]⟩⟩,⟨#[]⟩,⟨0,0,⟨#[]⟩⟩,⟨#[]⟩⟩⟩⟩)∧
 (((v0.2 != 0)||(bb .neq v0.1 (⟨#[115,101,110,115,101,32,49,46,118,97,108,118,101,46,111,112,101,110,32,116,114,117,101]⟩:ByteArray)))=false→(
  let v6:=m13 ⟨11,(-1),0,⟨0,⟨#[]⟩,⟨#[]⟩⟩,⟨0,0,⟨#[]⟩⟩,⟨0,⟨#[]⟩,⟨#[]⟩⟩,⟨⟨#[]⟩,⟨0,0,⟨0,⟨#[]⟩,⟨#[]⟩⟩,⟨#[]⟩,⟨0,0,⟨#[]⟩⟩,⟨#[]⟩⟩⟩⟩
  (xP ⟨11,(-1),0,⟨0,⟨#[]⟩,⟨#[]⟩⟩,⟨0,0,⟨#[]⟩⟩,⟨0,⟨#[]⟩,⟨#[]⟩⟩,⟨⟨#[]⟩,⟨0,0,⟨0,⟨#[]⟩,⟨#[]⟩⟩,⟨#[]⟩,⟨0,0,⟨#[]⟩⟩,⟨#[]⟩⟩⟩⟩)∧
  (((v6.2 != 0)||(bb .neq v6.1 (⟨#[99,108,111,99,107,32,45,49]⟩:ByteArray)))=false→(
   let v12:List ByteArray:=([⟨#[116,105,99,107,32,48,53]⟩,⟨#[116,105,99,107]⟩,⟨#[84,105,99,107,32,53]⟩,⟨#[115,101,110,115,101,32,49,46,118,97,108,118,101,46,111,112,101,110,32,110,111,110,101]⟩]:List ByteArray)
   let b2:Int:=(List.length v12:Int)
   let aR:Unit→Prop:=fun bj=>
    let ed:=m20 (⟨#[35,32,97,32,114,101,109,97,114,107,10,10,110,111,110,115,101,110,115,101,10]⟩:ByteArray)
    Ba (⟨#[35,32,97,32,114,101,109,97,114,107,10,10,110,111,110,115,101,110,115,101,10]⟩:ByteArray)
   ∃b1:Nat→(Unit)→Prop,b1 0 ()∧(∀(i14:Nat) (d0:Unit),i14<Int.toNat b2→b1 i14 d0→(
    let cR:ByteArray:=List.getD v12 (Int.toNat (i14:Int)) (fJ .str)
    let dM:=m16 cR
    (vp cR)∧
    ((dM.2 != 4)=false→(
     b1 (i14+1) ()))))∧∀bj,b1 (Int.toNat b2) bj→aR bj))))
noncomputable def cY(x0:ByteArray)(cj:Int):ByteArray × ByteArray:=
 let v2:Int:=(ByteArray.size x0:Int)
 Sum.elim (fun r=>r) (fun bj=>
  (x0,⟨#[]⟩))
 (bV (fun(i3:Nat) (aA:Unit)=>
  show Step (ByteArray × ByteArray) (Unit)from
  bif((aC x0 (i3:Int))==cj)then
   .ret ((bw x0 none (some (i3:Int))),(bw x0 (some (IntKind.wrap .i64 ((i3:Int)+(1:Int)))) none))
  else
   .bx ()) 0 (Int.toNat v2) ():(ByteArray × ByteArray)⊕(Unit))
def vw(x0:ByteArray)(cj:Int):Prop:=
 let v2:Int:=(ByteArray.size x0:Int)
 (0≤v2∧v2<(9223372036854775808:Int))∧
 ∃b1:Nat→(Unit)→Prop,b1 0 ()∧∀(i3:Nat) (d0:Unit),i3<Int.toNat v2→b1 i3 d0→(
  (((aC x0 (i3:Int))==cj)=true→(
   (eo (ByteArray.size x0) none (some (i3:Int)))∧
   let bK:Int:=IntKind.wrap .i64 ((i3:Int)+(1:Int))
   eo (ByteArray.size x0) (some bK) none))∧(((aC x0 (i3:Int))==cj)=false→(
   b1 (i3+1) ())))
noncomputable def hP(x0:ByteArray):Int × Bool:=
 let v1:Int:=(ByteArray.size x0:Int)
 bif(decide (v1>14))then
  (0,false)
 else
  let aF:Int→Int × Bool:=fun v3=>
   Sum.elim (fun r=>r) (fun bj=>
    let aF:Int→Int × Bool:=fun v9=>
     let e7:Bool:=((bb .eql x0 (⟨#[]⟩:ByteArray))||(decide (v9>1099511627776)))||(decide (v9<(-1099511627776)))
     let aF:ByteArray→Int × Bool:=fun cR=>
      bif(e7||(bb .neq cR x0))then
       (0,false)
      else
       (v9,true)
     bif e7 then
      aF (⟨#[]⟩:ByteArray)
     else
      aF (kR v9)
    bif(v3==1)then
     aF (IntKind.wrap .i64 (0-bj.1))
    else
     aF bj.1)
   (b9 (fun(aA:Int × Int)=>
    show Step (Int × Bool) (Int × Int)from
    bif(decide (aA.2<v1))then
     bif((decide ((aC x0 aA.2)<48))||(decide ((aC x0 aA.2)>57)))then
      .ret (0,false)
     else
      .bx ((IntKind.wrap .i64 ((IntKind.wrap .i64 ((10:Int)*aA.1))+(IntKind.wrap .i64 (IntKind.wrap .u8 ((aC x0 aA.2)-(48:Int)))))),(IntKind.wrap .i64 (aA.2+(1:Int))))
    else
     .b7 (aA.1,aA.2)) cu (0,v3):(Int × Bool)⊕(Int × Int))
  bif((decide (v1>0))&&((aC x0 (0:Int))==45))then
   aF (1:Int)
  else
   aF (0:Int)
def rS(x0:ByteArray):Prop:=
 let v1:Int:=(ByteArray.size x0:Int)
 ((decide (v1>14))=false→(
  let aF:Int→Prop:=fun v3=>
   let aR:(Int × Int)→Prop:=fun bj=>
    let aF:Int→Prop:=fun v9=>
     let e7:Bool:=((bb .eql x0 (⟨#[]⟩:ByteArray))||(decide (v9>1099511627776)))||(decide (v9<(-1099511627776)))
     (e7=false→(
      gU v9))
    ((v3==1)=true→(
     aF (IntKind.wrap .i64 (0-bj.1))))∧((v3==1)=false→(
     aF bj.1))
   ∃(b1:(Int × Int)→Prop) (dL:(Int × Int)→Nat),b1 (0,v3)∧dL (0,v3)<cu∧∀(d0:Int × Int),b1 d0→(
    ((decide (d0.2<v1))=true→(
     (0≤d0.2∧d0.2<(ByteArray.size x0:Int))∧
     let v11:=decide ((aC x0 d0.2)<48)
     (v11=false→0≤d0.2∧d0.2<(ByteArray.size x0:Int))∧
     ((v11||(decide ((aC x0 d0.2)>57)))=false→(
      (0≤d0.2∧d0.2<(ByteArray.size x0:Int))∧
      b1 ((IntKind.wrap .i64 ((IntKind.wrap .i64 ((10:Int)*d0.1))+(IntKind.wrap .i64 (IntKind.wrap .u8 ((aC x0 d0.2)-(48:Int)))))),(IntKind.wrap .i64 (d0.2+(1:Int))))∧dL ((IntKind.wrap .i64 ((IntKind.wrap .i64 ((10:Int)*d0.1))+(IntKind.wrap .i64 (IntKind.wrap .u8 ((aC x0 d0.2)-(48:Int)))))),(IntKind.wrap .i64 (d0.2+(1:Int))))<dL d0))))∧((decide (d0.2<v1))=false→(
     aR (d0.1,d0.2))))
  let v3:=decide (v1>0)
  (v3=true→0≤(0:Int)∧(0:Int)<(ByteArray.size x0:Int))∧
  ((v3&&((aC x0 (0:Int))==45))=true→(
   aF (1:Int)))∧((v3&&((aC x0 (0:Int))==45))=false→(
   aF (0:Int)))))
noncomputable def hQ(x0:Int):Int:=
 bif((decide (x0≥48))&&(decide (x0≤57)))then
  (IntKind.wrap .i64 (IntKind.wrap .u8 (x0-(48:Int))))
 else
  bif((decide (x0≥97))&&(decide (x0≤102)))then
   (IntKind.wrap .i64 ((IntKind.wrap .i64 (IntKind.wrap .u8 (x0-(97:Int))))+(10:Int)))
  else
   (-1)
noncomputable def x1(x0:ByteArray)(cj:Int):ByteArray × Int:=
 let v2:Int:=(ByteArray.size x0:Int)
 bif((decide (cj≥v2))||((aC x0 cj) != 34))then
  (⟨#[]⟩,(-1))
 else
  Sum.elim (fun r=>r) (fun bj=>
   let v11:=decide (bj.1≥(ByteArray.size x0:Int))
   let aF:ByteArray→ByteArray × Int:=fun e7=>
    bif(v11||(bb .neq e7 (bw x0 (some cj) (some (IntKind.wrap .i64 (bj.1+(1:Int)))))))then
     (⟨#[]⟩,(-1))
    else
     ((bytesOf bj.2),(IntKind.wrap .i64 (bj.1+(1:Int))))
   bif v11 then
    aF (⟨#[]⟩:ByteArray)
   else
    aF (vg (bytesOf bj.2)))
  (b9 (fun(aA:Int × (List Int))=>
   show Step (ByteArray × Int) (Int × (List Int))from
   bif((decide (aA.1<v2))&&((aC x0 aA.1) != 34))then
    bif((aC x0 aA.1) != 92)then
     .bx ((IntKind.wrap .i64 (aA.1+(1:Int))),(List.append aA.2 ([(aC x0 aA.1)]:List Int)))
    else
     bif((decide ((IntKind.wrap .i64 (aA.1+(1:Int)))<v2))&&(((aC x0 (IntKind.wrap .i64 (aA.1+(1:Int))))==34)||((aC x0 (IntKind.wrap .i64 (aA.1+(1:Int))))==92)))then
      .bx ((IntKind.wrap .i64 (aA.1+(2:Int))),(List.append aA.2 ([(aC x0 (IntKind.wrap .i64 (aA.1+(1:Int))))]:List Int)))
     else
      let v31:Bool:=(decide ((IntKind.wrap .i64 (aA.1+(3:Int)))<v2))&&((aC x0 (IntKind.wrap .i64 (aA.1+(1:Int))))==120)
      let aF:Int→Step (ByteArray × Int) (Int × (List Int)):=fun fr=>
       let kV:Bool:=v31&&(decide (fr≥0))
       let aF:Int→Step (ByteArray × Int) (Int × (List Int)):=fun qv=>
        bif(kV&&(decide (qv≥0)))then
         let v51:List Int:=([(IntKind.wrap .u8 (IntKind.wrap .i64 ((IntKind.wrap .i64 ((16:Int)*(hQ (aC x0 (IntKind.wrap .i64 (aA.1+(2:Int)))))))+(hQ (aC x0 (IntKind.wrap .i64 (aA.1+(3:Int))))))))]:List Int)
         .bx ((IntKind.wrap .i64 (aA.1+(4:Int))),(List.append aA.2 v51))
        else
         .ret (⟨#[]⟩,(-1))
       bif kV then
        aF (hQ (aC x0 (IntKind.wrap .i64 (aA.1+(3:Int)))))
       else
        aF (0:Int)
      bif v31 then
       aF (hQ (aC x0 (IntKind.wrap .i64 (aA.1+(2:Int)))))
      else
       aF (0:Int)
   else
    .b7 (aA.1,aA.2)) cu ((IntKind.wrap .i64 (cj+(1:Int))),[]):(ByteArray × Int)⊕(Int × (List Int)))
def Bo(x0:ByteArray)(cj:Int):Prop:=
 let v2:Int:=(ByteArray.size x0:Int)
 let v3:=decide (cj≥v2)
 (v3=false→0≤cj∧cj<(ByteArray.size x0:Int))∧
 ((v3||((aC x0 cj) != 34))=false→(
  let aR:(Int × (List Int))→Prop:=fun bj=>
   let v11:=decide (bj.1≥(ByteArray.size x0:Int))
   let v12:=bytesOf bj.2
   let b2:Int:=IntKind.wrap .i64 (bj.1+(1:Int))
   (v11=false→eo (ByteArray.size x0) (some cj) (some b2))∧
   (v11=false→(
    AQ v12))
  ∃(b1:(Int × (List Int))→Prop) (dL:(Int × (List Int))→Nat),b1 ((IntKind.wrap .i64 (cj+(1:Int))),[])∧dL ((IntKind.wrap .i64 (cj+(1:Int))),[])<cu∧∀(d0:Int × (List Int)),b1 d0→(
   let v10:=decide (d0.1<v2)
   (v10=true→0≤d0.1∧d0.1<(ByteArray.size x0:Int))∧
   ((v10&&((aC x0 d0.1) != 34))=true→(
    (0≤d0.1∧d0.1<(ByteArray.size x0:Int))∧
    (((aC x0 d0.1) != 92)=true→(
     (0≤d0.1∧d0.1<(ByteArray.size x0:Int))∧
     let dM:List Int:=([(aC x0 d0.1)]:List Int)
     (List.length d0.2+List.length dM≤maxLen∧(List.length d0.2+List.length dM)*1≤140737488355328)∧
     b1 ((IntKind.wrap .i64 (d0.1+(1:Int))),(List.append d0.2 dM))∧dL ((IntKind.wrap .i64 (d0.1+(1:Int))),(List.append d0.2 dM))<dL d0))∧(((aC x0 d0.1) != 92)=false→(
     let dM:=decide ((IntKind.wrap .i64 (d0.1+(1:Int)))<v2)
     let da:Int:=IntKind.wrap .i64 (d0.1+(1:Int))
     (dM=true→0≤da∧da<(ByteArray.size x0:Int))∧
     let v20:=(aC x0 da)==34
     let v21:Int:=IntKind.wrap .i64 (d0.1+(1:Int))
     (dM=true→v20=false→0≤v21∧v21<(ByteArray.size x0:Int))∧
     ((dM&&(v20||((aC x0 v21)==92)))=true→(
      let mJ:Int:=IntKind.wrap .i64 (d0.1+(1:Int))
      (0≤mJ∧mJ<(ByteArray.size x0:Int))∧
      let v28:List Int:=([(aC x0 mJ)]:List Int)
      (List.length d0.2+List.length v28≤maxLen∧(List.length d0.2+List.length v28)*1≤140737488355328)∧
      b1 ((IntKind.wrap .i64 (d0.1+(2:Int))),(List.append d0.2 v28))∧dL ((IntKind.wrap .i64 (d0.1+(2:Int))),(List.append d0.2 v28))<dL d0))∧((dM&&(v20||((aC x0 v21)==92)))=false→(
      let gz:=decide ((IntKind.wrap .i64 (d0.1+(3:Int)))<v2)
      let v28:Int:=IntKind.wrap .i64 (d0.1+(1:Int))
      (gz=true→0≤v28∧v28<(ByteArray.size x0:Int))∧
      let v31:Bool:=gz&&((aC x0 v28)==120)
      let nw:Int:=IntKind.wrap .i64 (d0.1+(2:Int))
      (v31=true→0≤nw∧nw<(ByteArray.size x0:Int))∧
      let aF:Int→Prop:=fun fr=>
       let kV:Bool:=v31&&(decide (fr≥0))
       let v37:Int:=IntKind.wrap .i64 (d0.1+(3:Int))
       (kV=true→0≤v37∧v37<(ByteArray.size x0:Int))∧
       let aF:Int→Prop:=fun qv=>
        ((kV&&(decide (qv≥0)))=true→(
         let tH:Int:=IntKind.wrap .i64 (d0.1+(2:Int))
         (0≤tH∧tH<(ByteArray.size x0:Int))∧
         let tI:Int:=IntKind.wrap .i64 (d0.1+(3:Int))
         (0≤tI∧tI<(ByteArray.size x0:Int))∧
         let v51:List Int:=([(IntKind.wrap .u8 (IntKind.wrap .i64 ((IntKind.wrap .i64 ((16:Int)*(hQ (aC x0 tH))))+(hQ (aC x0 tI)))))]:List Int)
         (List.length d0.2+List.length v51≤maxLen∧(List.length d0.2+List.length v51)*1≤140737488355328)∧
         b1 ((IntKind.wrap .i64 (d0.1+(4:Int))),(List.append d0.2 v51))∧dL ((IntKind.wrap .i64 (d0.1+(4:Int))),(List.append d0.2 v51))<dL d0))
       (kV=true→(
        aF (hQ (aC x0 v37))))∧(kV=false→(
        aF (0:Int)))
      (v31=true→(
       aF (hQ (aC x0 nw))))∧(v31=false→(
       aF (0:Int)))))))))∧((v10&&((aC x0 d0.1) != 34))=false→(
    aR (d0.1,d0.2))))))
noncomputable def tF(x0:ByteArray):ByteArray × Int:=
 let v1:=x1 x0 (0:Int)
 bif((decide (v1.2<0))||(v1.2 != (ByteArray.size x0:Int)))then
  (⟨#[]⟩,4)
 else
  bif(decide ((ByteArray.size v1.1:Int)>60))then
   (⟨#[]⟩,3)
  else
   (v1.1,0)
def Nq(x0:ByteArray):Prop:=
 let v1:=x1 x0 (0:Int)
 Bo x0 (0:Int)
noncomputable def qw(x0:ByteArray):bH:=
 bif((bb .eql x0 (⟨#[116,114,117,101]⟩:ByteArray))||(bb .eql x0 (⟨#[102,97,108,115,101]⟩:ByteArray)))then
  let aF:Int→bH:=fun v5=>
   ⟨1,v5,⟨#[]⟩⟩
  bif(bb .eql x0 (⟨#[116,114,117,101]⟩:ByteArray))then
   aF (1:Int)
  else
   aF (0:Int)
 else
  bif((bb .neq x0 (⟨#[]⟩:ByteArray))&&((aC x0 (0:Int))==35))then
   let v9:=hP (bw x0 (some (1:Int)) none)
   ⟨3,v9.1,⟨#[]⟩⟩
  else
   bif((bb .neq x0 (⟨#[]⟩:ByteArray))&&((aC x0 (0:Int))==34))then
    let v12:=tF x0
    ⟨4,0,v12.1⟩
   else
    let v12:=hP x0
    bif v12.2 then
     ⟨2,v12.1,⟨#[]⟩⟩
    else
     ⟨0,0,⟨#[]⟩⟩
def E7(x0:ByteArray):Prop:=
 (((bb .eql x0 (⟨#[116,114,117,101]⟩:ByteArray))||(bb .eql x0 (⟨#[102,97,108,115,101]⟩:ByteArray)))=false→(
  let v4:=bb .neq x0 (⟨#[]⟩:ByteArray)
  (v4=true→0≤(0:Int)∧(0:Int)<(ByteArray.size x0:Int))∧
  ((v4&&((aC x0 (0:Int))==35))=true→(
   let bK:=bw x0 (some (1:Int)) none
   (eo (ByteArray.size x0) (some (1:Int)) none)∧
   let v9:=hP bK
   rS bK))∧((v4&&((aC x0 (0:Int))==35))=false→(
   let bK:=bb .neq x0 (⟨#[]⟩:ByteArray)
   (bK=true→0≤(0:Int)∧(0:Int)<(ByteArray.size x0:Int))∧
   ((bK&&((aC x0 (0:Int))==34))=true→(
    let v12:=tF x0
    Nq x0))∧((bK&&((aC x0 (0:Int))==34))=false→(
    let v12:=hP x0
    rS x0))))))
noncomputable def ob(x0:ByteArray):bH × Int:=
 let v1:=qw x0
 let v2:=bb .eql x0 (⟨#[]⟩:ByteArray)
 let aF:ByteArray→bH × Int:=fun v3=>
  bif(v2||(bb .neq v3 x0))then
   (⟨0,0,⟨#[]⟩⟩,4)
  else
   (v1,0)
 bif v2 then
  aF (⟨#[]⟩:ByteArray)
 else
  aF (pd v1)
def Bp(x0:ByteArray):Prop:=
 let v1:=qw x0
 (E7 x0)∧
 let v2:=bb .eql x0 (⟨#[]⟩:ByteArray)
 (v2=false→(
  AS v1))
noncomputable def tD(x0:Int):Int:=
 bif((decide (x0≥48))&&(decide (x0≤57)))then
  (IntKind.wrap .i64 (IntKind.wrap .u8 (x0-(48:Int))))
 else
  bif((decide (x0≥97))&&(decide (x0≤102)))then
   (IntKind.wrap .i64 ((IntKind.wrap .i64 (IntKind.wrap .u8 (x0-(97:Int))))+(10:Int)))
  else
   (-1)
noncomputable def n9(x0:ByteArray):ByteArray × Int:=
 let v1:Int:=(ByteArray.size x0:Int)
 bif((aZ .rem .i64 v1 (2:Int)) != 0)then
  (⟨#[]⟩,4)
 else
  Sum.elim (fun r=>r) (fun bj=>
   ((bytesOf bj.2),0))
  (b9 (fun(aA:Int × (List Int))=>
   show Step (ByteArray × Int) (Int × (List Int))from
   bif(decide (aA.1<v1))then
    let v10:=tD (aC x0 aA.1)
    let v11:=tD (aC x0 (IntKind.wrap .i64 (aA.1+(1:Int))))
    bif((decide (v10<0))||(decide (v11<0)))then
     .ret (⟨#[]⟩,4)
    else
     .bx ((IntKind.wrap .i64 (aA.1+(2:Int))),(List.append aA.2 ([(IntKind.wrap .u8 (IntKind.wrap .i64 ((IntKind.wrap .i64 ((16:Int)*v10))+v11)))]:List Int)))
   else
    .b7 (aA.1,aA.2)) cu (0,[]):(ByteArray × Int)⊕(Int × (List Int)))
def tK(x0:ByteArray):Prop:=
 let v1:Int:=(ByteArray.size x0:Int)
 (((aZ .rem .i64 v1 (2:Int)) != 0)=false→(
  ∃(b1:(Int × (List Int))→Prop) (dL:(Int × (List Int))→Nat),b1 (0,[])∧dL (0,[])<cu∧∀(d0:Int × (List Int)),b1 d0→(
   ((decide (d0.1<v1))=true→(
    (0≤d0.1∧d0.1<(ByteArray.size x0:Int))∧
    let bK:Int:=IntKind.wrap .i64 (d0.1+(1:Int))
    (0≤bK∧bK<(ByteArray.size x0:Int))∧
    let v10:=tD (aC x0 d0.1)
    let v11:=tD (aC x0 bK)
    (((decide (v10<0))||(decide (v11<0)))=false→(
     let da:List Int:=([(IntKind.wrap .u8 (IntKind.wrap .i64 ((IntKind.wrap .i64 ((16:Int)*v10))+v11)))]:List Int)
     (List.length d0.2+List.length da≤maxLen∧(List.length d0.2+List.length da)*1≤140737488355328)∧
     b1 ((IntKind.wrap .i64 (d0.1+(2:Int))),(List.append d0.2 da))∧dL ((IntKind.wrap .i64 (d0.1+(2:Int))),(List.append d0.2 da))<dL d0)))))))
noncomputable def sU(x0:ByteArray):bf:=
 let v1:=cY x0 (32:Int)
 let v4:=ql
 let v5:Int:=(List.length v4:Int)
 Sum.elim (fun r=>r) (fun bj=>
  let bl:=cY v1.2 (32:Int)
  let v10:=cY bl.1 (46:Int)
  let b2:=cY v10.2 (46:Int)
  let cR:=hP bl.1
  let c2:=hP bl.2
  let eS:=hP v10.1
  let bT:Int→Int→Int→ByteArray→ByteArray→Int→Int→ByteArray→Int→ByteArray→ByteArray→ByteArray→Int→Int→Int→ByteArray→ByteArray→ByteArray→Int→Int→ByteArray→ByteArray→bf:=fun gz v28 jk v30 v31 nw rR fr vv kV v37 EZ qv v40 E0 tH E1 tI E2 v46 E3 E4=>
   ⟨bj,gz,v28,⟨jk,v30,v31⟩,⟨nw,rR,fr⟩,⟨vv,kV,v37⟩,⟨EZ,⟨qv,v40,⟨E0,tH,E1⟩,tI,⟨E2,v46,E3⟩,E4⟩⟩⟩
  let aF:Bool→bf:=fun c3=>
   bif c3 then
    let gz:=ob bl.2
    bT (0:Int) (0:Int) eS.1 b2.1 b2.2 gz.1.kind gz.1.n gz.1.s (0:Int) (⟨#[]⟩:ByteArray) (⟨#[]⟩:ByteArray) (⟨#[]⟩:ByteArray) (0:Int) (0:Int) (0:Int) (⟨#[]⟩:ByteArray) (⟨#[]⟩:ByteArray) (⟨#[]⟩:ByteArray) (0:Int) (0:Int) (⟨#[]⟩:ByteArray) (⟨#[]⟩:ByteArray)
   else
    bif(bj==3)then
     bT (0:Int) (0:Int) (0:Int) (⟨#[]⟩:ByteArray) (⟨#[]⟩:ByteArray) (0:Int) (0:Int) (⟨#[]⟩:ByteArray) eS.1 b2.1 b2.2 (⟨#[]⟩:ByteArray) (0:Int) (0:Int) (0:Int) (⟨#[]⟩:ByteArray) (⟨#[]⟩:ByteArray) (⟨#[]⟩:ByteArray) (0:Int) (0:Int) (⟨#[]⟩:ByteArray) (⟨#[]⟩:ByteArray)
    else
     let aF:Bool→bf:=fun v28=>
      bif v28 then
       bT cR.1 c2.1 (0:Int) (⟨#[]⟩:ByteArray) (⟨#[]⟩:ByteArray) (0:Int) (0:Int) (⟨#[]⟩:ByteArray) (0:Int) (⟨#[]⟩:ByteArray) (⟨#[]⟩:ByteArray) (⟨#[]⟩:ByteArray) (0:Int) (0:Int) (0:Int) (⟨#[]⟩:ByteArray) (⟨#[]⟩:ByteArray) (⟨#[]⟩:ByteArray) (0:Int) (0:Int) (⟨#[]⟩:ByteArray) (⟨#[]⟩:ByteArray)
      else
       bif(bj==12)then
        let v31:=n9 bl.2
        let fr:=nv v31.1
        bT (0:Int) (0:Int) (0:Int) (⟨#[]⟩:ByteArray) (⟨#[]⟩:ByteArray) (0:Int) (0:Int) (⟨#[]⟩:ByteArray) (0:Int) (⟨#[]⟩:ByteArray) (⟨#[]⟩:ByteArray) bl.1 fr.1.kind fr.1.cW fr.1.key.dev fr.1.key.bm fr.1.key.attr fr.1.name fr.1.value.kind fr.1.value.n fr.1.value.s fr.1.text
       else
        bif(bj==14)then
         bT (0:Int) (0:Int) (0:Int) (⟨#[]⟩:ByteArray) (⟨#[]⟩:ByteArray) (0:Int) (0:Int) (⟨#[]⟩:ByteArray) (0:Int) (⟨#[]⟩:ByteArray) (⟨#[]⟩:ByteArray) (⟨#[]⟩:ByteArray) (0:Int) (0:Int) (0:Int) (⟨#[]⟩:ByteArray) (⟨#[]⟩:ByteArray) (⟨#[]⟩:ByteArray) (0:Int) (0:Int) (⟨#[]⟩:ByteArray) (⟨#[]⟩:ByteArray)
        else
         bT cR.1 (0:Int) (0:Int) (⟨#[]⟩:ByteArray) (⟨#[]⟩:ByteArray) (0:Int) (0:Int) (⟨#[]⟩:ByteArray) (0:Int) (⟨#[]⟩:ByteArray) (⟨#[]⟩:ByteArray) (⟨#[]⟩:ByteArray) (0:Int) (0:Int) (0:Int) (⟨#[]⟩:ByteArray) (⟨#[]⟩:ByteArray) (⟨#[]⟩:ByteArray) (0:Int) (0:Int) (⟨#[]⟩:ByteArray) (⟨#[]⟩:ByteArray)
     let v28:=bj==8
     bif v28 then
      aF v28
     else
      aF (bj==9)
  let c3:=bj==2
  bif c3 then
   aF c3
  else
   aF (bj==13))
 (bV (fun(i7:Nat) (aA:Int)=>
  show Step (bf) (Int)from
  let aF:Int→Step (bf) (Int):=fun v11=>
   .bx v11
  bif(bb .eql (List.getD v4 (Int.toNat (i7:Int)) (fJ .str)) v1.1)then
   aF (IntKind.wrap .i64 ((i7:Int)+(1:Int)))
  else
   aF aA) 0 (Int.toNat v5) 0:bf⊕(Int))
def E9(x0:ByteArray):Prop:=
 let v1:=cY x0 (32:Int)
 (vw x0 (32:Int))∧
 let v4:=ql
 let v5:Int:=(List.length v4:Int)
 let aR:Int→Prop:=fun bj=>
  let bl:=cY v1.2 (32:Int)
  (vw v1.2 (32:Int))∧
  let v10:=cY bl.1 (46:Int)
  (vw bl.1 (46:Int))∧
  let b2:=cY v10.2 (46:Int)
  (vw v10.2 (46:Int))∧
  let cR:=hP bl.1
  (rS bl.1)∧
  let c2:=hP bl.2
  (rS bl.2)∧
  let eS:=hP v10.1
  (rS v10.1)∧
  let aF:Bool→Prop:=fun c3=>
   (c3=true→(
    let gz:=ob bl.2
    Bp bl.2))∧(c3=false→(
    ((bj==3)=false→(
     let aF:Bool→Prop:=fun v28=>
      (v28=false→(
       ((bj==12)=true→(
        let v31:=n9 bl.2
        (tK bl.2)∧
        let fr:=nv v31.1
        qg v31.1))))
     let v28:=bj==8
     (v28=true→(
      aF v28))∧(v28=false→(
      aF (bj==9)))))))
  let c3:=bj==2
  (c3=true→(
   aF c3))∧(c3=false→(
   aF (bj==13)))
 ∃b1:Nat→(Int)→Prop,b1 0 0∧(∀(i7:Nat) (d0:Int),i7<Int.toNat v5→b1 i7 d0→(
  let aF:Int→Prop:=fun v11=>
   b1 (i7+1) v11
  ((bb .eql (List.getD v4 (Int.toNat (i7:Int)) (fJ .str)) v1.1)=true→(
   aF (IntKind.wrap .i64 ((i7:Int)+(1:Int)))))∧((bb .eql (List.getD v4 (Int.toNat (i7:Int)) (fJ .str)) v1.1)=false→(
   aF d0))))∧∀bj,b1 (Int.toNat v5) bj→aR bj
noncomputable def m17(x0:ByteArray):bf × Int:=
 let v1:=sU x0
 let v2:=m14 v1
 bif((v2.2 != 0)||(bb .neq v2.1 x0))then
  (⟨0,0,0,⟨0,⟨#[]⟩,⟨#[]⟩⟩,⟨0,0,⟨#[]⟩⟩,⟨0,⟨#[]⟩,⟨#[]⟩⟩,⟨⟨#[]⟩,⟨0,0,⟨0,⟨#[]⟩,⟨#[]⟩⟩,⟨#[]⟩,⟨0,0,⟨#[]⟩⟩,⟨#[]⟩⟩⟩⟩,4)
 else
  (v1,0)
def DT(x0:ByteArray):Prop:=
 let v1:=sU x0
 (E9 x0)∧
 let v2:=m14 v1
 ED v1
noncomputable def m4(x0:ByteArray):Bool:=
 bif(decide ((ByteArray.size x0:Int)>3000))then
  (m15)
 else
  let v3:=m16 x0
  let v6:=m17 x0
  let v9:=bif v3.1.kind==v6.1.kind then bif v3.1.n==v6.1.n then bif v3.1.m==v6.1.m then bif v3.1.key.dev==v6.1.key.dev then bif bn v3.1.key.bm v6.1.key.bm then bif bn v3.1.key.attr v6.1.key.attr then bif v3.1.value.kind==v6.1.value.kind then bif v3.1.value.n==v6.1.value.n then bif bn v3.1.value.s v6.1.value.s then bif v3.1.event.dev==v6.1.event.dev then bif bn v3.1.event.bm v6.1.event.bm then bif bn v3.1.event.name v6.1.event.name then bif bn v3.1.asked.token v6.1.asked.token then bif v3.1.asked.request.kind==v6.1.asked.request.kind then bif v3.1.asked.request.cW==v6.1.asked.request.cW then bif v3.1.asked.request.key.dev==v6.1.asked.request.key.dev then bif bn v3.1.asked.request.key.bm v6.1.asked.request.key.bm then bif bn v3.1.asked.request.key.attr v6.1.asked.request.key.attr then bif bn v3.1.asked.request.name v6.1.asked.request.name then bif v3.1.asked.request.value.kind==v6.1.asked.request.value.kind then bif v3.1.asked.request.value.n==v6.1.asked.request.value.n then bif bn v3.1.asked.request.value.s v6.1.asked.request.value.s then bn v3.1.asked.request.text v6.1.asked.request.text else false else false else false else false else false else false else false else false else false else false else false else false else false else false else false else false else false else false else false else false else false else false
  let v11:Bool:=v9&&(v3.2==v6.2)
  let aF:Bool→Bool:=fun v12=>
   (v11&&v12)
  bif v11 then
   aF (m15)
  else
   aF false
def u0(x0:ByteArray):Prop:=
 ((decide ((ByteArray.size x0:Int)>3000))=true→(
  xU))∧((decide ((ByteArray.size x0:Int)>3000))=false→(
  let v3:=m16 x0
  (vp x0)∧
  let v6:=m17 x0
  (DT x0)∧
  let v9:=bif v3.1.kind==v6.1.kind then bif v3.1.n==v6.1.n then bif v3.1.m==v6.1.m then bif v3.1.key.dev==v6.1.key.dev then bif bn v3.1.key.bm v6.1.key.bm then bif bn v3.1.key.attr v6.1.key.attr then bif v3.1.value.kind==v6.1.value.kind then bif v3.1.value.n==v6.1.value.n then bif bn v3.1.value.s v6.1.value.s then bif v3.1.event.dev==v6.1.event.dev then bif bn v3.1.event.bm v6.1.event.bm then bif bn v3.1.event.name v6.1.event.name then bif bn v3.1.asked.token v6.1.asked.token then bif v3.1.asked.request.kind==v6.1.asked.request.kind then bif v3.1.asked.request.cW==v6.1.asked.request.cW then bif v3.1.asked.request.key.dev==v6.1.asked.request.key.dev then bif bn v3.1.asked.request.key.bm v6.1.asked.request.key.bm then bif bn v3.1.asked.request.key.attr v6.1.asked.request.key.attr then bif bn v3.1.asked.request.name v6.1.asked.request.name then bif v3.1.asked.request.value.kind==v6.1.asked.request.value.kind then bif v3.1.asked.request.value.n==v6.1.asked.request.value.n then bif bn v3.1.asked.request.value.s v6.1.asked.request.value.s then bn v3.1.asked.request.text v6.1.asked.request.text else false else false else false else false else false else false else false else false else false else false else false else false else false else false else false else false else false else false else false else false else false else false
  let v11:Bool:=v9&&(v3.2==v6.2)
  (v11=true→(
   xU))))
end Go.aL
