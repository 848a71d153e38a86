/- Models, printed. Conditions: none. -/
import Derived.Test.YtmkpmgfieagphaaGreatDoorYTEk
open Go Go.aO Go.eK
namespace Go.aO
def Hy{α:Type}[Inhabited α]:List α→Nat→α
 |[],_=>default
 |[x],_=>x
 |x::l,n=>bif Nat.beq n 0 then x else Hy l (n-1)
noncomputable def gf(x0:Int):ByteArray:=
 Sum.elim (fun r=>r) (fun bl=>
  (bytesOf (List.append bl.2 ([(IntKind.wrap .u8 bl.1)]:List Int))))
 (c7 (fun(aY:Int × (List Int))=>
  show Step (ByteArray) (Int × (List Int))from
  bif(decide (aY.1≥128))then
   .bn ((bL .shr .u64 aY.1 (7:Int)),(List.append aY.2 ([(bL .or .u8 (IntKind.wrap .u8 aY.1) (128:Int))]:List Int)))
  else
   .cN (aY.1,aY.2)) dG ((bL .xor .u64 (bL .shl .u64 (IntKind.wrap .u64 x0) (1:Int)) (IntKind.wrap .u64 (bL .shr .i64 x0 (63:Int)))),[]):ByteArray⊕(Int × (List Int)))
def ob(x0:Int):Prop:=
 let a1:(Int × (List Int))→Prop:=fun bl=>
  let v9:List Int:=([(IntKind.wrap .u8 bl.1)]:List Int)
  List.length bl.2+List.length v9≤maxLen∧(List.length bl.2+List.length v9)*1≤140737488355328
 ∃(bA:(Int × (List Int))→Prop) (gU:(Int × (List Int))→Nat),bA ((bL .xor .u64 (bL .shl .u64 (IntKind.wrap .u64 x0) (1:Int)) (IntKind.wrap .u64 (bL .shr .i64 x0 (63:Int)))),[])∧gU ((bL .xor .u64 (bL .shl .u64 (IntKind.wrap .u64 x0) (1:Int)) (IntKind.wrap .u64 (bL .shr .i64 x0 (63:Int)))),[])<dG∧∀(d0:Int × (List Int)),bA d0→(
  ((decide (d0.1≥128))=true→(
   let v11:List Int:=([(bL .or .u8 (IntKind.wrap .u8 d0.1) (128:Int))]:List Int)
   (List.length d0.2+List.length v11≤maxLen∧(List.length d0.2+List.length v11)*1≤140737488355328)∧
   bA ((bL .shr .u64 d0.1 (7:Int)),(List.append d0.2 v11))∧gU ((bL .shr .u64 d0.1 (7:Int)),(List.append d0.2 v11))<gU d0))∧((decide (d0.1≥128))=false→(
   a1 (d0.1,d0.2))))
noncomputable def im(x0:ByteArray):ByteArray:=
 (ByteArray.append (gf (ByteArray.size x0:Int)) x0)
def rT(x0:ByteArray):Prop:=
 let v1:Int:=(ByteArray.size x0:Int)
 let v2:=gf v1
 (ob v1)∧
 ByteArray.size v2+ByteArray.size x0≤9223372036854775807
noncomputable def px(x0:Int):Bool:=
 ((decide (x0≥(-1099511627776)))&&(decide (x0≤1099511627776)))
noncomputable def lb(x0:az):Int:=
 let bP:Bool→Int:=fun v1=>
  bif !v1 then
   2
  else
   bif(decide ((ByteArray.size x0.s:Int)>60))then
    3
   else
    bif((cO .neq x0.s (⟨#[]⟩:ByteArray))&&(x0.kind != 4))then
     4
    else
     0
 let aL:Bool→Int:=fun v1=>
  bif v1 then
   bP (x0.n==0)
  else
   bif(x0.kind==1)then
    bP ((x0.n==0)||(x0.n==1))
   else
    bif(x0.kind==2)then
     bP (px x0.n)
    else
     bif(x0.kind==3)then
      bP ((decide (x0.n≥0))&&(decide (x0.n≤63)))
     else
      7
 let v1:=x0.kind==0
 bif v1 then
  aL v1
 else
  aL (x0.kind==4)
noncomputable def pC(x0:az):ByteArray:=
 let aL:Int→Int→ByteArray→ByteArray:=fun v3 v4 v5=>
  let v6:=gf v3
  let bP:ByteArray→ByteArray:=fun bD=>
   bD
  let aL:Bool→ByteArray:=fun bD=>
   bif bD then
    bP (ByteArray.append v6 (gf v4))
   else
    bif(v3==4)then
     bP (ByteArray.append v6 (im v5))
    else
     bP v6
  let bD:=v3==1
  bif bD then
   aL bD
  else
   let br:=v3==2
   bif br then
    aL br
   else
    aL (v3==3)
 bif((lb x0) != 0)then
  aL (0:Int) (0:Int) (⟨#[]⟩:ByteArray)
 else
  aL x0.kind x0.n x0.s
def Gl(x0:az):Prop:=
 let aL:Int→Int→ByteArray→Prop:=fun v3 v4 v5=>
  let v6:=gf v3
  (ob v3)∧
  let aL:Bool→Prop:=fun bD=>
   (bD=true→(
    let v9:=gf v4
    (ob v4)∧
    ByteArray.size v6+ByteArray.size v9≤9223372036854775807))∧(bD=false→(
    ((v3==4)=true→(
     let v10:=im v5
     (rT v5)∧
     ByteArray.size v6+ByteArray.size v10≤9223372036854775807))))
  let bD:=v3==1
  (bD=true→(
   aL bD))∧(bD=false→(
   let br:=v3==2
   (br=true→(
    aL br))∧(br=false→(
    aL (v3==3)))))
 (((lb x0) != 0)=true→(
  aL (0:Int) (0:Int) (⟨#[]⟩:ByteArray)))∧(((lb x0) != 0)=false→(
  aL x0.kind x0.n x0.s))
noncomputable def yq(x0:aT):ByteArray:=
 let bS:=ByteArray.append (ByteArray.append (ByteArray.append (ByteArray.append (ByteArray.append (ByteArray.append (gf x0.kind) (gf x0.e5)) (gf x0.key.dev)) (im x0.key.cG)) (im x0.key.attr)) (im x0.name)) (pC ⟨x0.value.kind,x0.value.n,x0.value.s⟩)
 (ByteArray.append bS (im x0.text))
def Gm(x0:aT):Prop:=
 let v1:=gf x0.kind
 (ob x0.kind)∧
 let v2:=gf x0.e5
 (ob x0.e5)∧
 let v3:=ByteArray.append v1 v2
 (ByteArray.size v1+ByteArray.size v2≤9223372036854775807)∧
 let v4:=gf x0.key.dev
 (ob x0.key.dev)∧
 let v5:=ByteArray.append v3 v4
 (ByteArray.size v3+ByteArray.size v4≤9223372036854775807)∧
 let v6:=im x0.key.cG
 (rT x0.key.cG)∧
 let bD:=ByteArray.append v5 v6
 (ByteArray.size v5+ByteArray.size v6≤9223372036854775807)∧
 let br:=im x0.key.attr
 (rT x0.key.attr)∧
 let v9:=ByteArray.append bD br
 (ByteArray.size bD+ByteArray.size br≤9223372036854775807)∧
 let v10:=im x0.name
 (rT x0.name)∧
 let v11:=ByteArray.append v9 v10
 (ByteArray.size v9+ByteArray.size v10≤9223372036854775807)∧
 let v12:=pC ⟨x0.value.kind,x0.value.n,x0.value.s⟩
 (Gl ⟨x0.value.kind,x0.value.n,x0.value.s⟩)∧
 let bS:=ByteArray.append v11 v12
 (ByteArray.size v11+ByteArray.size v12≤9223372036854775807)∧
 let eY:=im x0.text
 (rT x0.text)∧
 ByteArray.size bS+ByteArray.size eY≤9223372036854775807
noncomputable def nh(x0:Rd):Rd × Int:=
 bif !x0.made then
  (x0,15)
 else
  (x0,x0.err)
noncomputable def ym(x0:ByteArray):Int × Int × Int:=
 let v1:Int:=(ByteArray.size x0:Int)
 Sum.elim (fun r=>r) (fun _=>
  (0,0,5))
 (bq (fun(i3:Nat) (aY:Int)=>
  show Step (Int × Int × Int) (Int)from
  let v5:Int:=ez x0 (i3:Int)
  bif(((decide ((i3:Int)>0))&&(v5==0))||(((i3:Int)==9)&&(decide (v5>1))))then
   .ret (0,0,4)
  else
   let cP:Int:=bL .or .u64 aY (bL .shl .u64 (IntKind.wrap .u64 (bL .and .u8 v5 (127:Int))) (IntKind.wrap .i64 ((7:Int)*(i3:Int))))
   bif(decide (v5<128))then
    .ret (cP,(IntKind.wrap .i64 ((i3:Int)+(1:Int))),0)
   else
    .bn cP) 0 (Int.toNat v1) 0:(Int × Int × Int)⊕(Int))
def Gh(x0:ByteArray):Prop:=
 let v1:Int:=(ByteArray.size x0:Int)
 (0≤v1∧v1<(9223372036854775808:Int))∧
 ∃bA:Nat→(Int)→Prop,bA 0 0∧∀(i3:Nat) (d0:Int),i3<Int.toNat v1→bA i3 d0→(
  let v5:Int:=ez x0 (i3:Int)
  ((((decide ((i3:Int)>0))&&(v5==0))||(((i3:Int)==9)&&(decide (v5>1))))=false→(
   let eY:Int:=IntKind.wrap .u64 (bL .and .u8 v5 (127:Int))
   let dQ:Int:=IntKind.wrap .i64 ((7:Int)*(i3:Int))
   (0≤dQ)∧
   let cP:Int:=bL .or .u64 d0 (bL .shl .u64 eY dQ)
   ((decide (v5<128))=false→(
    bA (i3+1) cP)))))
noncomputable def gV(x0:Rd):Rd × Int:=
 let v1:=nh x0
 bif(v1.2 != 0)then
  (v1.1,0)
 else
  let v5:=ym v1.1.rest
  bif(v5.2.2 != 0)then
   (⟨v1.1.rest,v5.2.2,v1.1.made⟩,0)
  else
   (⟨(np v1.1.rest (some v5.2.1) none),v1.1.err,v1.1.made⟩,(bL .xor .i64 (IntKind.wrap .i64 (bL .shr .u64 v5.1 (1:Int))) (IntKind.wrap .i64 (0-(IntKind.wrap .i64 (bL .and .u64 v5.1 (1:Int)))))))
def ni(x0:Rd):Prop:=
 let v1:=nh x0
 ((v1.2 != 0)=false→(
  let v5:=ym v1.1.rest
  (Gh v1.1.rest)∧
  ((v5.2.2 != 0)=false→(
   jD (ByteArray.size v1.1.rest) (some v5.2.1) none))))
noncomputable def yo(x0:Rd)(an:Int):Rd × Int:=
 let v2:=gV x0
 let v5:=nh v2.1
 bif(v5.2 != 0)then
  (v5.1,0)
 else
  bif(decide (v2.2<0))then
   (⟨v5.1.rest,4,v5.1.made⟩,0)
  else
   bif(decide (v2.2>(cD.den (.mx .i64) an (0:Int))))then
    (⟨v5.1.rest,3,v5.1.made⟩,0)
   else
    (v5.1,v2.2)
def Gi(x0:Rd)(_:Int):Prop:=
 let _:=gV x0
 ni x0
noncomputable def iJ(x0:Rd)(an:Int):Rd × ByteArray:=
 let v2:=yo x0 an
 let v5:=nh v2.1
 bif(v5.2 != 0)then
  (v5.1,⟨#[]⟩)
 else
  bif(decide (v2.2>(ByteArray.size v5.1.rest:Int)))then
   (⟨v5.1.rest,5,v5.1.made⟩,⟨#[]⟩)
  else
   (⟨(np v5.1.rest (some v2.2) none),v5.1.err,v5.1.made⟩,(np v5.1.rest none (some v2.2)))
def rV(x0:Rd)(an:Int):Prop:=
 let v2:=yo x0 an
 (Gi x0 an)∧
 let v5:=nh v2.1
 ((v5.2 != 0)=false→(
  ((decide (v2.2>(ByteArray.size v5.1.rest:Int)))=false→(
   (jD (ByteArray.size v5.1.rest) none (some v2.2))∧
   jD (ByteArray.size v5.1.rest) (some v2.2) none))))
noncomputable def BF(x0:Rd)(an:Int):Rd:=
 let v2:=nh x0
 bif(v2.2==0)then
  ⟨v2.1.rest,an,v2.1.made⟩
 else
  v2.1
noncomputable def vt(x0:Rd):Rd × az:=
 let v1:=gV x0
 let bP:Int→ByteArray→ByteArray→Int→Bool→Rd × az:=fun v6 bD br v9 v10=>
  let aL:ByteArray→Int→Bool→Rd × az:=fun bS eY dQ=>
   let cJ:=nh ⟨bS,eY,dQ⟩
   bif(cJ.2 != 0)then
    (cJ.1,⟨0,0,⟨#[]⟩⟩)
   else
    (cJ.1,⟨v1.2,v6,bD⟩)
  bif((lb ⟨v1.2,v6,bD⟩) != 0)then
   let bS:=BF ⟨br,v9,v10⟩ (4:Int)
   aL bS.rest bS.err bS.made
  else
   aL br v9 v10
 let aL:Bool→Rd × az:=fun v4=>
  bif v4 then
   let v6:=gV v1.1
   bP v6.2 (⟨#[]⟩:ByteArray) v6.1.rest v6.1.err v6.1.made
  else
   bif(v1.2==4)then
    let bD:=iJ v1.1 (60:Int)
    bP (0:Int) bD.2 bD.1.rest bD.1.err bD.1.made
   else
    bP (0:Int) (⟨#[]⟩:ByteArray) v1.1.rest v1.1.err v1.1.made
 let v4:=v1.2==1
 bif v4 then
  aL v4
 else
  let v5:=v1.2==2
  bif v5 then
   aL v5
  else
   aL (v1.2==3)
def BG(x0:Rd):Prop:=
 let v1:=gV x0
 (ni x0)∧
 let aL:Bool→Prop:=fun v4=>
  (v4=true→(
   let _:=gV v1.1
   ni v1.1))∧(v4=false→(
   ((v1.2==4)=true→(
    let _:=iJ v1.1 (60:Int)
    rV v1.1 (60:Int)))))
 let v4:=v1.2==1
 (v4=true→(
  aL v4))∧(v4=false→(
  let v5:=v1.2==2
  (v5=true→(
   aL v5))∧(v5=false→(
   aL (v1.2==3)))))
noncomputable def Qt(x0:Rd):Rd × Int:=
 let v1:=nh x0
 bif(v1.2 != 0)then
  (v1.1,0)
 else
  (v1.1,(ByteArray.size v1.1.rest:Int))
noncomputable def CM(x0:Rd):Rd × Int:=
 let v1:=Qt x0
 bif(decide (v1.2>0))then
  (v1.1,23)
 else
  let v5:=nh v1.1
  (v5.1,v5.2)
noncomputable def yI(x0:aT):Int:=
 bif((decide (x0.kind<1))||(decide (x0.kind>7)))then
  7
 else
  0
noncomputable def yJ(x0:aT):Int:=
 bif((decide (x0.e5<0))||(decide (x0.e5>1099511627776)))then
  2
 else
  0
noncomputable def Hz(x0:ByteArray):aT × Int:=
 let v1:=gV ⟨x0,0,true⟩
 let v4:=gV v1.1
 let bD:=gV v4.1
 let v10:=iJ bD.1 (24:Int)
 let bS:=iJ v10.1 (24:Int)
 let cJ:=iJ bS.1 (24:Int)
 let cw:=vt cJ.1
 let v22:=iJ cw.1 (20000:Int)
 let aL:Int→aT × Int:=fun v25=>
  bif(v25 != 0)then
   (⟨0,0,⟨0,⟨#[]⟩,⟨#[]⟩⟩,⟨#[]⟩,⟨0,0,⟨#[]⟩⟩,⟨#[]⟩⟩,v25)
  else
   (⟨v1.2,v4.2,⟨bD.2,v10.2,bS.2⟩,cJ.2,⟨cw.2.kind,cw.2.n,cw.2.s⟩,v22.2⟩,0)
 let v25:=CM v22.1
 bif(v25.2 != 0)then
  aL v25.2
 else
  let hs:=yI ⟨v1.2,v4.2,⟨bD.2,v10.2,bS.2⟩,cJ.2,⟨cw.2.kind,cw.2.n,cw.2.s⟩,v22.2⟩
  bif(hs != 0)then
   aL hs
  else
   let v31:=yJ ⟨v1.2,v4.2,⟨bD.2,v10.2,bS.2⟩,cJ.2,⟨cw.2.kind,cw.2.n,cw.2.s⟩,v22.2⟩
   bif(v31 != 0)then
    aL v31
   else
    aL (0:Int)
def BH(x0:ByteArray):Prop:=
 let v1:=gV ⟨x0,0,true⟩
 (ni ⟨x0,0,true⟩)∧
 let v4:=gV v1.1
 (ni v1.1)∧
 let bD:=gV v4.1
 (ni v4.1)∧
 let v10:=iJ bD.1 (24:Int)
 (rV bD.1 (24:Int))∧
 let bS:=iJ v10.1 (24:Int)
 (rV v10.1 (24:Int))∧
 let cJ:=iJ bS.1 (24:Int)
 (rV bS.1 (24:Int))∧
 let cw:=vt cJ.1
 (BG cJ.1)∧
 let _:=iJ cw.1 (20000:Int)
 rV cw.1 (20000:Int)
noncomputable def HA(x0:Int):Bool:=
 ((decide (x0≥97))&&(decide (x0≤122)))
noncomputable def iq(x0:ByteArray):Bool:=
 bif((decide ((ByteArray.size x0:Int)<1))||(decide ((ByteArray.size x0:Int)>24)))then
  false
 else
  Sum.elim (fun r=>r) (fun _=>
   true)
  (c7 (fun(aY:Int)=>
   show Step (Bool) (Int)from
   let v9:Int:=cD.den .lT x0 aY
   bif(cD.den .lS x0 aY)then
    bif((!(HA v9))&&(((cD.den .lU x0 aY)==0)||(((v9 != 95)&&(v9 != 45))&&((decide (v9<48))||(decide (v9>57))))))then
     .ret false
    else
     .bn (cD.den .kF x0 aY)
   else
    .cN aY) dG 0:Bool⊕(Int))
def nj(x0:ByteArray):Prop:=
 (((decide ((ByteArray.size x0:Int)<1))||(decide ((ByteArray.size x0:Int)>24)))=false→(
  ∃(bA:(Int)→Prop) (gU:(Int)→Nat),bA 0∧gU 0<dG∧∀(d0:Int),bA d0→(
   let v9:Int:=cD.den .lT x0 d0
   ((cD.den .lS x0 d0)=true→(
    (((!(HA v9))&&(((cD.den .lU x0 d0)==0)||(((v9 != 95)&&(v9 != 45))&&((decide (v9<48))||(decide (v9>57))))))=false→(
     bA (cD.den .kF x0 d0)∧gU (cD.den .kF x0 d0)<gU d0)))))))
noncomputable def vr(x0:az):Int:=
 let bP:Int→Int→Int:=fun v1 v2=>
  bif((decide (x0.n<v1))||(decide (x0.n>v2)))then
   2
  else
   bif(decide ((ByteArray.size x0.s:Int)>60))then
    3
   else
    bif((cO .neq x0.s (⟨#[]⟩:ByteArray))&&(x0.kind != 4))then
     4
    else
     0
 let aL:Bool→Int:=fun v1=>
  bif v1 then
   bP (0:Int) (0:Int)
  else
   bif(x0.kind==1)then
    bP (0:Int) (1:Int)
   else
    bif(x0.kind==2)then
     bP ((-1099511627776):Int) (1099511627776:Int)
    else
     bif(x0.kind==3)then
      bP (0:Int) (63:Int)
     else
      7
 let v1:=x0.kind==0
 bif v1 then
  aL v1
 else
  aL (x0.kind==4)
noncomputable def jT(x0:Int):ByteArray:=
 let v2:Int:=bL .shl .u64 (IntKind.wrap .u64 x0) (1:Int)
 let aL:Int→ByteArray:=fun v3=>
  Sum.elim (fun r=>r) (fun bl=>
   (bytesOf (List.append bl.2 ([(IntKind.wrap .u8 bl.1)]:List Int))))
  (c7 (fun(aY:Int × (List Int))=>
   show Step (ByteArray) (Int × (List Int))from
   bif(decide (aY.1≥128))then
    .bn ((bL .quo .u64 aY.1 (128:Int)),(List.append aY.2 ([(IntKind.wrap .u8 ((IntKind.wrap .u8 (bL .rem .u64 aY.1 (128:Int)))+(128:Int)))]:List Int)))
   else
    .cN (aY.1,aY.2)) dG (v3,[]):ByteArray⊕(Int × (List Int)))
 bif(decide (x0<0))then
  aL (gI.den (.tY .u64) v2)
 else
  aL v2
def pw(x0:Int):Prop:=
 let v2:Int:=bL .shl .u64 (IntKind.wrap .u64 x0) (1:Int)
 let aL:Int→Prop:=fun v3=>
  let a1:(Int × (List Int))→Prop:=fun bl=>
   let br:List Int:=([(IntKind.wrap .u8 bl.1)]:List Int)
   List.length bl.2+List.length br≤maxLen∧(List.length bl.2+List.length br)*1≤140737488355328
  ∃(bA:(Int × (List Int))→Prop) (gU:(Int × (List Int))→Nat),bA (v3,[])∧gU (v3,[])<dG∧∀(d0:Int × (List Int)),bA d0→(
   ((decide (d0.1≥128))=true→(
    let v11:List Int:=([(IntKind.wrap .u8 ((IntKind.wrap .u8 (bL .rem .u64 d0.1 (128:Int)))+(128:Int)))]:List Int)
    (List.length d0.2+List.length v11≤maxLen∧(List.length d0.2+List.length v11)*1≤140737488355328)∧
    bA ((bL .quo .u64 d0.1 (128:Int)),(List.append d0.2 v11))∧gU ((bL .quo .u64 d0.1 (128:Int)),(List.append d0.2 v11))<gU d0))∧((decide (d0.1≥128))=false→(
    a1 (d0.1,d0.2))))
 ((decide (x0<0))=true→(
  aL (gI.den (.tY .u64) v2)))∧((decide (x0<0))=false→(
  aL v2))
noncomputable def qx(x0:ByteArray):ByteArray:=
 (ByteArray.append (jT (ByteArray.size x0:Int)) x0)
def BD(x0:ByteArray):Prop:=
 let v1:Int:=(ByteArray.size x0:Int)
 let v2:=jT v1
 (pw v1)∧
 ByteArray.size v2+ByteArray.size x0≤9223372036854775807
noncomputable def jU(x0:ByteArray):Bool:=
 let v3:Int:=(ByteArray.size x0:Int)
 bif((decide ((ByteArray.size x0:Int)<1))||(decide (v3>24)))then
  false
 else
  Sum.elim (fun r=>r) (fun _=>
   true)
  (bq (fun(i6:Nat) (_:Unit)=>
   show Step (Bool) (Unit)from
   let br:Int:=ez x0 (i6:Int)
   bif((!((decide (br≥97))&&(decide (br≤122))))&&(((i6:Int)==0)||(((br != 95)&&(br != 45))&&((decide (br<48))||(decide (br>57))))))then
    .ret false
   else
    .bn ()) 0 (Int.toNat v3) ():Bool⊕(Unit))
def pB(x0:ByteArray):Prop:=
 let v3:Int:=(ByteArray.size x0:Int)
 (((decide ((ByteArray.size x0:Int)<1))||(decide (v3>24)))=false→(
  0≤v3∧v3<(9223372036854775808:Int)))
noncomputable def Qu(x0:ByteArray):ByteArray:=
 let v1:Int:=(ByteArray.size x0:Int)
 Sum.elim (fun r=>r) (fun bl=>
  (bytesOf bl))
 (bq (fun(i3:Nat) (aY:(List Int))=>
  show Step (ByteArray) ((List Int))from
  let v11:List Int:=([(ez (⟨#[48,49,50,51,52,53,54,55,56,57,97,98,99,100,101,102]⟩:ByteArray) (bL .quo .u8 (ez x0 (i3:Int)) (16:Int))),(ez (⟨#[48,49,50,51,52,53,54,55,56,57,97,98,99,100,101,102]⟩:ByteArray) (bL .rem .u8 (ez x0 (i3:Int)) (16:Int)))]:List Int)
  .bn (List.append aY v11)) 0 (Int.toNat v1) []:ByteArray⊕((List Int)))
def GX(x0:ByteArray):Prop:=
 let v1:Int:=(ByteArray.size x0:Int)
 (0≤v1∧v1<(9223372036854775808:Int))∧
 ∃bA:Nat→((List Int))→Prop,bA 0 []∧∀(i3:Nat) (d0:(List Int)),i3<Int.toNat v1→bA i3 d0→(
  let v6:Int:=bL .quo .u8 (ez x0 (i3:Int)) (16:Int)
  (0≤v6∧v6<(ByteArray.size (⟨#[48,49,50,51,52,53,54,55,56,57,97,98,99,100,101,102]⟩:ByteArray):Int))∧
  let v9:Int:=bL .rem .u8 (ez x0 (i3:Int)) (16:Int)
  (0≤v9∧v9<(ByteArray.size (⟨#[48,49,50,51,52,53,54,55,56,57,97,98,99,100,101,102]⟩:ByteArray):Int))∧
  let v11:List Int:=([(ez (⟨#[48,49,50,51,52,53,54,55,56,57,97,98,99,100,101,102]⟩:ByteArray) v6),(ez (⟨#[48,49,50,51,52,53,54,55,56,57,97,98,99,100,101,102]⟩:ByteArray) v9)]:List Int)
  (List.length d0+List.length v11≤maxLen∧(List.length d0+List.length v11)*1≤140737488355328)∧
  bA (i3+1) (List.append d0 v11))
noncomputable def ld(x0:Int):Int:=
 (cD.den (.tZ .i64) (cD.den (.mx .i64) x0 ((-1099511627776):Int)) (1099511627776:Int))
noncomputable def y9(x0:Int):Int:=
 Sum.elim (fun r=>r) (fun _=>
  (-1))
 (bq (fun(i17:Nat) (_:Unit)=>
  show Step (Int) (Unit)from
  let cw:Int:=Hy ([(ez (⟨#[48,49,50,51,52,53,54,55,56,57,97,98,99,100,101,102]⟩:ByteArray) (0:Int)),(ez (⟨#[48,49,50,51,52,53,54,55,56,57,97,98,99,100,101,102]⟩:ByteArray) (1:Int)),(ez (⟨#[48,49,50,51,52,53,54,55,56,57,97,98,99,100,101,102]⟩:ByteArray) (2:Int)),(ez (⟨#[48,49,50,51,52,53,54,55,56,57,97,98,99,100,101,102]⟩:ByteArray) (3:Int)),(ez (⟨#[48,49,50,51,52,53,54,55,56,57,97,98,99,100,101,102]⟩:ByteArray) (4:Int)),(ez (⟨#[48,49,50,51,52,53,54,55,56,57,97,98,99,100,101,102]⟩:ByteArray) (5:Int)),(ez (⟨#[48,49,50,51,52,53,54,55,56,57,97,98,99,100,101,102]⟩:ByteArray) (6:Int)),(ez (⟨#[48,49,50,51,52,53,54,55,56,57,97,98,99,100,101,102]⟩:ByteArray) (7:Int)),(ez (⟨#[48,49,50,51,52,53,54,55,56,57,97,98,99,100,101,102]⟩:ByteArray) (8:Int)),(ez (⟨#[48,49,50,51,52,53,54,55,56,57,97,98,99,100,101,102]⟩:ByteArray) (9:Int)),(ez (⟨#[48,49,50,51,52,53,54,55,56,57,97,98,99,100,101,102]⟩:ByteArray) (10:Int)),(ez (⟨#[48,49,50,51,52,53,54,55,56,57,97,98,99,100,101,102]⟩:ByteArray) (11:Int)),(ez (⟨#[48,49,50,51,52,53,54,55,56,57,97,98,99,100,101,102]⟩:ByteArray) (12:Int)),(ez (⟨#[48,49,50,51,52,53,54,55,56,57,97,98,99,100,101,102]⟩:ByteArray) (13:Int)),(ez (⟨#[48,49,50,51,52,53,54,55,56,57,97,98,99,100,101,102]⟩:ByteArray) (14:Int)),(ez (⟨#[48,49,50,51,52,53,54,55,56,57,97,98,99,100,101,102]⟩:ByteArray) (15:Int))]:List Int) (Int.toNat (i17:Int))
  bif(cw==x0)then
   .ret (i17:Int)
  else
   .bn ()) 0 (Int.toNat (16:Int)) ():Int⊕(Unit))
def yL(_:Int):Prop:=
 (0≤(0:Int)∧(0:Int)<(ByteArray.size (⟨#[48,49,50,51,52,53,54,55,56,57,97,98,99,100,101,102]⟩:ByteArray):Int))∧
 (0≤(1:Int)∧(1:Int)<(ByteArray.size (⟨#[48,49,50,51,52,53,54,55,56,57,97,98,99,100,101,102]⟩:ByteArray):Int))∧
 (0≤(2:Int)∧(2:Int)<(ByteArray.size (⟨#[48,49,50,51,52,53,54,55,56,57,97,98,99,100,101,102]⟩:ByteArray):Int))∧
 (0≤(3:Int)∧(3:Int)<(ByteArray.size (⟨#[48,49,50,51,52,53,54,55,56,57,97,98,99,100,101,102]⟩:ByteArray):Int))∧
 (0≤(4:Int)∧(4:Int)<(ByteArray.size (⟨#[48,49,50,51,52,53,54,55,56,57,97,98,99,100,101,102]⟩:ByteArray):Int))∧
 (0≤(5:Int)∧(5:Int)<(ByteArray.size (⟨#[48,49,50,51,52,53,54,55,56,57,97,98,99,100,101,102]⟩:ByteArray):Int))∧
 (0≤(6:Int)∧(6:Int)<(ByteArray.size (⟨#[48,49,50,51,52,53,54,55,56,57,97,98,99,100,101,102]⟩:ByteArray):Int))∧
 (0≤(7:Int)∧(7:Int)<(ByteArray.size (⟨#[48,49,50,51,52,53,54,55,56,57,97,98,99,100,101,102]⟩:ByteArray):Int))∧
 (0≤(8:Int)∧(8:Int)<(ByteArray.size (⟨#[48,49,50,51,52,53,54,55,56,57,97,98,99,100,101,102]⟩:ByteArray):Int))∧
 (0≤(9:Int)∧(9:Int)<(ByteArray.size (⟨#[48,49,50,51,52,53,54,55,56,57,97,98,99,100,101,102]⟩:ByteArray):Int))∧
 (0≤(10:Int)∧(10:Int)<(ByteArray.size (⟨#[48,49,50,51,52,53,54,55,56,57,97,98,99,100,101,102]⟩:ByteArray):Int))∧
 (0≤(11:Int)∧(11:Int)<(ByteArray.size (⟨#[48,49,50,51,52,53,54,55,56,57,97,98,99,100,101,102]⟩:ByteArray):Int))∧
 (0≤(12:Int)∧(12:Int)<(ByteArray.size (⟨#[48,49,50,51,52,53,54,55,56,57,97,98,99,100,101,102]⟩:ByteArray):Int))∧
 (0≤(13:Int)∧(13:Int)<(ByteArray.size (⟨#[48,49,50,51,52,53,54,55,56,57,97,98,99,100,101,102]⟩:ByteArray):Int))∧
 (0≤(14:Int)∧(14:Int)<(ByteArray.size (⟨#[48,49,50,51,52,53,54,55,56,57,97,98,99,100,101,102]⟩:ByteArray):Int))∧
 0≤(15:Int)∧(15:Int)<(ByteArray.size (⟨#[48,49,50,51,52,53,54,55,56,57,97,98,99,100,101,102]⟩:ByteArray):Int)
noncomputable def om(x0:ByteArray):ByteArray × Int:=
 let v1:Int:=(ByteArray.size x0:Int)
 bif((bL .rem .i64 v1 (2:Int)) != 0)then
  (⟨#[]⟩,4)
 else
  Sum.elim (fun r=>r) (fun bl=>
   ((bytesOf bl.2),0))
  (c7 (fun(aY:Int × (List Int))=>
   show Step (ByteArray × Int) (Int × (List Int))from
   bif(decide (aY.1<v1))then
    let v12:=y9 (ez x0 aY.1)
    let bS:=y9 (ez x0 (IntKind.wrap .i64 (aY.1+(1:Int))))
    bif((decide (v12<0))||(decide (bS<0)))then
     .ret (⟨#[]⟩,4)
    else
     .bn ((IntKind.wrap .i64 (aY.1+(2:Int))),(List.append aY.2 ([(IntKind.wrap .u8 (IntKind.wrap .i64 ((IntKind.wrap .i64 ((16:Int)*v12))+bS)))]:List Int)))
   else
    .cN (aY.1,aY.2)) dG (0,(List.replicate (Int.toNat (0:Int)) (av .u8))):(ByteArray × Int)⊕(Int × (List Int)))
def Ci(x0:ByteArray):Prop:=
 let v1:Int:=(ByteArray.size x0:Int)
 (((bL .rem .i64 v1 (2:Int)) != 0)=false→(
  (0≤(0:Int)∧(0:Int)≤(bL .quo .i64 v1 (2:Int))∧(bL .quo .i64 v1 (2:Int))≤(maxLen:Int)∧(1:Int)*(bL .quo .i64 v1 (2:Int))≤281474976710656)∧
  ∃(bA:(Int × (List Int))→Prop) (gU:(Int × (List Int))→Nat),bA (0,(List.replicate (Int.toNat (0:Int)) (av .u8)))∧gU (0,(List.replicate (Int.toNat (0:Int)) (av .u8)))<dG∧∀(d0:Int × (List Int)),bA d0→(
   ((decide (d0.1<v1))=true→(
    let v9:Int:=ez x0 d0.1
    (0≤d0.1∧d0.1<(ByteArray.size x0:Int))∧
    let v10:Int:=IntKind.wrap .i64 (d0.1+(1:Int))
    let v11:Int:=ez x0 v10
    (0≤v10∧v10<(ByteArray.size x0:Int))∧
    let v12:=y9 v9
    (yL v9)∧
    let bS:=y9 v11
    (yL v11)∧
    (((decide (v12<0))||(decide (bS<0)))=false→(
     let v20:List Int:=([(IntKind.wrap .u8 (IntKind.wrap .i64 ((IntKind.wrap .i64 ((16:Int)*v12))+bS)))]:List Int)
     (List.length d0.2+List.length v20≤maxLen∧(List.length d0.2+List.length v20)*1≤140737488355328)∧
     bA ((IntKind.wrap .i64 (d0.1+(2:Int))),(List.append d0.2 v20))∧gU ((IntKind.wrap .i64 (d0.1+(2:Int))),(List.append d0.2 v20))<gU d0)))))))
noncomputable def lV(x0:List ByteArray)(an:ByteArray):Int:=
 let v2:Int:=(List.length x0:Int)
 Sum.elim (fun r=>r) (fun _=>
  (-1))
 (bq (fun(i3:Nat) (_:Unit)=>
  show Step (Int) (Unit)from
  bif(cO .eql an (List.getD x0 (Int.toNat (i3:Int)) (av .str)))then
   .ret (i3:Int)
  else
   .bn ()) 0 (Int.toNat v2) ():Int⊕(Unit))
noncomputable def iK(x0:List ByteArray)(an:ByteArray):Bool:=
 (decide ((lV x0 an)≥0))
noncomputable def pE(x0:List ByteArray)(an:ByteArray):Int:=
 (lV x0 an)
noncomputable def vG(x0:List ByteArray):Int:=
 let v3:Int:=(List.length x0:Int)
 bif((decide ((List.length x0:Int)<1))||(decide (v3>64)))then
  3
 else
  Sum.elim (fun r=>r) (fun _=>
   0)
  (bq (fun(i6:Nat) (_:Unit)=>
   show Step (Int) (Unit)from
   let br:ByteArray:=List.getD x0 (Int.toNat (i6:Int)) (av .str)
   bif(!(iq br))then
    .ret 10
   else
    bif(decide ((pE x0 br)<(i6:Int)))then
     .ret 9
    else
     .bn ()) 0 (Int.toNat v3) ():Int⊕(Unit))
def BM(x0:List ByteArray):Prop:=
 let v3:Int:=(List.length x0:Int)
 (((decide ((List.length x0:Int)<1))||(decide (v3>64)))=false→(
  ∃bA:Nat→(Unit)→Prop,bA 0 ()∧∀(i6:Nat) (d0:Unit),i6<Int.toNat v3→bA i6 d0→(
   let br:ByteArray:=List.getD x0 (Int.toNat (i6:Int)) (av .str)
   (nj br)∧
   ((!(iq br))=false→(
    ((decide ((pE x0 br)<(i6:Int)))=false→(
     bA (i6+1) ())))))))
noncomputable def gH(x0:Attr):Int:=
 bif(!(iq x0.name))then
  10
 else
  bif((decide (x0.kind<1))||(decide (x0.kind>4)))then
   7
  else
   let bP:Int:=
    bif(x0.kind==3)then
     (vG x0.enum)
    else
     bif(decide ((List.length x0.enum:Int)>0))then
      4
     else
      0
   bif(x0.kind==2)then
    let br:=!(px x0.min)
    let aL:Bool→Int:=fun v9=>
     bif((br||(!v9))||(decide (x0.min>x0.max)))then
      2
     else
      bP
    bif br then
     aL false
    else
     aL (px x0.max)
   else
    bif((x0.min != 0)||(x0.max != 0))then
     2
    else
     bP
def rX(x0:Attr):Prop:=
 (nj x0.name)∧
 ((!(iq x0.name))=false→(
  (((decide (x0.kind<1))||(decide (x0.kind>4)))=false→(
   let bP:Prop:=
    ((x0.kind==3)=true→(
     BM x0.enum))
   ((x0.kind==2)=true→(
    let br:=!(px x0.min)
    let aL:Bool→Prop:=fun v9=>
     (((br||(!v9))||(decide (x0.min>x0.max)))=false→(
      bP))
    (br=true→(
     aL false))∧(br=false→(
     aL (px x0.max)))))∧((x0.kind==2)=false→(
    (((x0.min != 0)||(x0.max != 0))=false→(
     bP))))))))
noncomputable def oe(x0:aA):Bool:=
 let v1:Int:=(List.length x0.commands:Int)
 Sum.elim (fun r=>r) (fun _=>
  (((decide ((List.length x0.attrs:Int)>12))||(decide ((List.length x0.commands:Int)>12)))||(decide ((List.length x0.events:Int)>12))))
 (bq (fun(i2:Nat) (_:Unit)=>
  show Step (Bool) (Unit)from
  bif(decide ((List.length ((List.getD x0.commands (Int.toNat (i2:Int)) (av .Command)).c4):Int)>12))then
   .ret true
  else
   .bn ()) 0 (Int.toNat v1) ():Bool⊕(Unit))
noncomputable def tE(x0:Attr):Bool:=
 (((((((cO .eql x0.name (⟨#[]⟩:ByteArray))&&(x0.kind==0))&&(x0.min==0))&&(x0.max==0))&&((List.length x0.enum:Int)==0))&&(!x0.e6))&&(!x0.safety))
def CN(x:List ByteArray):List ByteArray:=x
def vF(x:List ByteArray):Prop:=x.length≤maxLen∧x.length*16≤140737488355328
noncomputable def rZ(x0:aA)(an:ByteArray):Attr × Bool:=
 let v2:Int:=(List.length x0.attrs:Int)
 Sum.elim (fun r=>r) (fun _=>
  (⟨⟨#[]⟩,0,0,0,[],false,false⟩,false))
 (bq (fun(i3:Nat) (_:Unit)=>
  show Step (Attr × Bool) (Unit)from
  let v5:Attr:=List.getD x0.attrs (Int.toNat (i3:Int)) (av .Attr)
  bif(cO .eql v5.name an)then
   .ret (⟨v5.name,v5.kind,v5.min,v5.max,(CN v5.enum),v5.e6,v5.safety⟩,true)
  else
   .bn ()) 0 (Int.toNat v2) ():(Attr × Bool)⊕(Unit))
def yr(x0:aA)(an:ByteArray):Prop:=
 let v2:Int:=(List.length x0.attrs:Int)
 ∃bA:Nat→(Unit)→Prop,bA 0 ()∧∀(i3:Nat) (d0:Unit),i3<Int.toNat v2→bA i3 d0→(
  let v5:Attr:=List.getD x0.attrs (Int.toNat (i3:Int)) (av .Attr)
  ((cO .eql v5.name an)=true→(
   vF v5.enum))∧((cO .eql v5.name an)=false→(
   bA (i3+1) ())))
noncomputable def hD(x0:Attr)(an:az):Int:=
 let v2:=gH x0
 bif(v2 != 0)then
  v2
 else
  let v4:=lb an
  bif(v4 != 0)then
   v4
  else
   bif(an.kind != x0.kind)then
    11
   else
    let aL:Bool→Int:=fun bD=>
     bif bD then
      2
     else
      0
    let v11:Bool:=(an.kind==2)&&((decide (an.n<x0.min))||(decide (an.n>x0.max)))
    bif v11 then
     aL v11
    else
     aL ((an.kind==3)&&(decide (an.n≥(List.length x0.enum:Int))))
def tA(x0:Attr)(_:az):Prop:=
 let _:=gH x0
 rX x0
noncomputable def tD(x0:List ByteArray)(an:List ByteArray):Bool:=
 let v2:Int:=(List.length x0:Int)
 bif(v2 != (List.length an:Int))then
  false
 else
  Sum.elim (fun r=>r) (fun _=>
   true)
  (bq (fun(i5:Nat) (_:Unit)=>
   show Step (Bool) (Unit)from
   bif(cO .neq (List.getD x0 (Int.toNat (i5:Int)) (av .str)) (List.getD an (Int.toNat (i5:Int)) (av .str)))then
    .ret false
   else
    .bn ()) 0 (Int.toNat v2) ():Bool⊕(Unit))
def Gp(x0:List ByteArray)(an:List ByteArray):Prop:=
 let v2:Int:=(List.length x0:Int)
 ((v2 != (List.length an:Int))=false→(
  ∃bA:Nat→(Unit)→Prop,bA 0 ()∧∀(i5:Nat) (d0:Unit),i5<Int.toNat v2→bA i5 d0→(
   (0≤(i5:Int)∧(i5:Int)<(List.length an:Int))∧
   ((cO .neq (List.getD x0 (Int.toNat (i5:Int)) (av .str)) (List.getD an (Int.toNat (i5:Int)) (av .str)))=false→(
    bA (i5+1) ())))))
noncomputable def vH(x0:Attr)(an:Attr):Bool:=
 let v2:=x0.kind==an.kind
 let aL:Bool→Bool:=fun v3=>
  (v2&&v3)
 bif v2 then
  aL (tD x0.enum an.enum)
 else
  aL false
def Gq(x0:Attr)(an:Attr):Prop:=
 let v2:=x0.kind==an.kind
 (v2=true→(
  Gp x0.enum an.enum))
noncomputable def vI(x0:bV)(an:Attr)(aH:Attr):Bool:=
 bif(x0.kind==1)then
  let v4:=an.kind != 4
  let aL:Int→Bool:=fun v5=>
   (v4&&(v5==0))
  bif v4 then
   aL (hD an ⟨an.kind,x0.n,⟨#[]⟩⟩)
  else
   aL (0:Int)
 else
  bif(x0.kind==2)then
   (vH an aH)
  else
   bif(x0.kind==3)then
    (an.kind==2)
   else
    (an.kind==1)
def BO(x0:bV)(an:Attr)(aH:Attr):Prop:=
 ((x0.kind==1)=true→(
  let v4:=an.kind != 4
  (v4=true→(
   tA an ⟨an.kind,x0.n,⟨#[]⟩⟩))))∧((x0.kind==1)=false→(
  ((x0.kind==2)=true→(
   Gq an aH))))
noncomputable def kD(x0:aA)(an:Attr)(aH:bV):Int:=
 bif((decide (aH.kind<1))||(decide (aH.kind>4)))then
  7
 else
  let v6:=rZ x0 aH.attr
  bif !v6.2 then
   8
  else
   bif !v6.1.e6 then
    24
   else
    bif(!(vI aH v6.1 an))then
     11
    else
     let bS:=aH.kind==3
     let aL:Int→Int:=fun eY=>
      bif(bS&&(eY != aH.n))then
       2
      else
       bif(((aH.kind==2)||(aH.kind==4))&&(aH.n != 0))then
        4
       else
        0
     bif bS then
      aL (ld aH.n)
     else
      aL (0:Int)
def BP(x0:aA)(an:Attr)(aH:bV):Prop:=
 (((decide (aH.kind<1))||(decide (aH.kind>4)))=false→(
  let v6:=rZ x0 aH.attr
  (yr x0 aH.attr)∧
  ((!v6.2)=false→(
   ((!v6.1.e6)=false→(
    BO aH v6.1 an))))))
noncomputable def qD(x0:aA)(an:Int):Int:=
 let v2:Command:=List.getD x0.commands (Int.toNat an) (av .Command)
 bif(!(iq v2.name))then
  10
 else
  let v5:=iL x0.commands none (some an)
  let v6:Int:=(List.length v5:Int)
  Sum.elim (fun r=>r) (fun _=>
   let aL:Int:=
    let br:Int:=(List.length v2.c4:Int)
    Sum.elim (fun r=>r) (fun _=>
     0)
    (bq (fun(i9:Nat) (_:Unit)=>
     show Step (Int) (Unit)from
     let v11:bV:=List.getD v2.c4 (Int.toNat (i9:Int)) (av .bV)
     let v12:=kD x0 ⟨v2.param.name,v2.param.kind,v2.param.min,v2.param.max,v2.param.enum,v2.param.e6,v2.param.safety⟩ v11
     bif(v12 != 0)then
      .ret v12
     else
      .bn ()) 0 (Int.toNat br) ():Int⊕(Unit))
   bif(v2.param.kind==0)then
    bif(!(tE ⟨v2.param.name,v2.param.kind,v2.param.min,v2.param.max,v2.param.enum,v2.param.e6,v2.param.safety⟩))then
     4
    else
     aL
   else
    let br:=gH ⟨v2.param.name,v2.param.kind,v2.param.min,v2.param.max,v2.param.enum,v2.param.e6,v2.param.safety⟩
    bif(br != 0)then
     br
    else
     aL)
  (bq (fun(i7:Nat) (_:Unit)=>
   show Step (Int) (Unit)from
   bif(cO .eql ((List.getD v5 (Int.toNat (i7:Int)) (av .Command)).name) v2.name)then
    .ret 9
   else
    .bn ()) 0 (Int.toNat v6) ():Int⊕(Unit))
def BQ(x0:aA)(an:Int):Prop:=
 let v2:Command:=List.getD x0.commands (Int.toNat an) (av .Command)
 (0≤an∧an<(List.length x0.commands:Int))∧
 (nj v2.name)∧
 ((!(iq v2.name))=false→(
  let v5:=iL x0.commands none (some an)
  (jD (List.length x0.commands) none (some an))∧
  let v6:Int:=(List.length v5:Int)
  let a1:Unit→Prop:=fun _=>
   let aL:Prop:=
    let br:Int:=(List.length v2.c4:Int)
    ∃dw:Nat→(Unit)→Prop,dw 0 ()∧∀(i9:Nat) (d1:Unit),i9<Int.toNat br→dw i9 d1→(
     let v11:bV:=List.getD v2.c4 (Int.toNat (i9:Int)) (av .bV)
     let v12:=kD x0 ⟨v2.param.name,v2.param.kind,v2.param.min,v2.param.max,v2.param.enum,v2.param.e6,v2.param.safety⟩ v11
     (BP x0 ⟨v2.param.name,v2.param.kind,v2.param.min,v2.param.max,v2.param.enum,v2.param.e6,v2.param.safety⟩ v11)∧
     ((v12 != 0)=false→(
      dw (i9+1) ())))
   ((v2.param.kind==0)=true→(
    ((!(tE ⟨v2.param.name,v2.param.kind,v2.param.min,v2.param.max,v2.param.enum,v2.param.e6,v2.param.safety⟩))=false→(
     aL))))∧((v2.param.kind==0)=false→(
    let br:=gH ⟨v2.param.name,v2.param.kind,v2.param.min,v2.param.max,v2.param.enum,v2.param.e6,v2.param.safety⟩
    (rX ⟨v2.param.name,v2.param.kind,v2.param.min,v2.param.max,v2.param.enum,v2.param.e6,v2.param.safety⟩)∧
    ((br != 0)=false→(
     aL))))
  ∃bA:Nat→(Unit)→Prop,bA 0 ()∧(∀(i7:Nat) (d0:Unit),i7<Int.toNat v6→bA i7 d0→(
   ((cO .eql ((List.getD v5 (Int.toNat (i7:Int)) (av .Command)).name) v2.name)=false→(
    bA (i7+1) ()))))∧∀bl,bA (Int.toNat v6) bl→a1 bl))
noncomputable def jc(x0:aA):Int:=
 bif(!(iq x0.name))then
  10
 else
  bif(oe x0)then
   3
  else
   let v4:Int:=(List.length x0.attrs:Int)
   Sum.elim (fun r=>r) (fun _=>
    let v5:Int:=(List.length x0.commands:Int)
    Sum.elim (fun r=>r) (fun _=>
     let v6:Int:=(List.length x0.events:Int)
     Sum.elim (fun r=>r) (fun _=>
      0)
     (bq (fun(i7:Nat) (_:Unit)=>
      show Step (Int) (Unit)from
      let v9:ByteArray:=List.getD x0.events (Int.toNat (i7:Int)) (av .str)
      bif(!(iq v9))then
       .ret 10
      else
       bif(iK (iL x0.events none (some (i7:Int))) v9)then
        .ret 9
       else
        .bn ()) 0 (Int.toNat v6) ():Int⊕(Unit)))
    (bq (fun(i6:Nat) (_:Unit)=>
     show Step (Int) (Unit)from
     let br:=qD x0 (i6:Int)
     bif(br != 0)then
      .ret br
     else
      .bn ()) 0 (Int.toNat v5) ():Int⊕(Unit)))
   (bq (fun(i5:Nat) (_:Unit)=>
    show Step (Int) (Unit)from
    let bD:Attr:=List.getD x0.attrs (Int.toNat (i5:Int)) (av .Attr)
    let br:=gH bD
    bif(br != 0)then
     .ret br
    else
     let v10:=iL x0.attrs none (some (i5:Int))
     let v11:Int:=(List.length v10:Int)
     Sum.elim (fun r=>r) (fun _=>
      .bn ())
     (bq (fun(i12:Nat) (_:Unit)=>
      show Step (Step (Int) (Unit)) (Unit)from
      bif(cO .eql ((List.getD v10 (Int.toNat (i12:Int)) (av .Attr)).name) bD.name)then
       .ret (.ret 9)
      else
       .bn ()) 0 (Int.toNat v11) ():(Step (Int) (Unit))⊕(Unit))) 0 (Int.toNat v4) ():Int⊕(Unit))
def BR(x0:aA):Prop:=
 (nj x0.name)∧
 ((!(iq x0.name))=false→(
  ((oe x0)=false→(
   let v4:Int:=(List.length x0.attrs:Int)
   let a1:Unit→Prop:=fun _=>
    let v5:Int:=(List.length x0.commands:Int)
    let eP:Unit→Prop:=fun _=>
     let v6:Int:=(List.length x0.events:Int)
     ∃ix:Nat→(Unit)→Prop,ix 0 ()∧∀(i7:Nat) (d2:Unit),i7<Int.toNat v6→ix i7 d2→(
      let v9:ByteArray:=List.getD x0.events (Int.toNat (i7:Int)) (av .str)
      (nj v9)∧
      ((!(iq v9))=false→(
       (jD (List.length x0.events) none (some (i7:Int)))∧
       ((iK (iL x0.events none (some (i7:Int))) v9)=false→(
        ix (i7+1) ())))))
    ∃dw:Nat→(Unit)→Prop,dw 0 ()∧(∀(i6:Nat) (d1:Unit),i6<Int.toNat v5→dw i6 d1→(
     let br:=qD x0 (i6:Int)
     (BQ x0 (i6:Int))∧
     ((br != 0)=false→(
      dw (i6+1) ()))))∧∀aY,dw (Int.toNat v5) aY→eP aY
   ∃bA:Nat→(Unit)→Prop,bA 0 ()∧(∀(i5:Nat) (d0:Unit),i5<Int.toNat v4→bA i5 d0→(
    let bD:Attr:=List.getD x0.attrs (Int.toNat (i5:Int)) (av .Attr)
    let br:=gH bD
    (rX bD)∧
    ((br != 0)=false→(
     let v10:=iL x0.attrs none (some (i5:Int))
     (jD (List.length x0.attrs) none (some (i5:Int)))∧
     let v11:Int:=(List.length v10:Int)
     let iv:Unit→Prop:=fun _=>
      bA (i5+1) ()
     ∃l0:Nat→(Unit)→Prop,l0 0 ()∧(∀(i12:Nat) (d3:Unit),i12<Int.toNat v11→l0 i12 d3→(
      ((cO .eql ((List.getD v10 (Int.toNat (i12:Int)) (av .Attr)).name) bD.name)=false→(
       l0 (i12+1) ()))))∧∀cK,l0 (Int.toNat v11) cK→iv cK))))∧∀bl,bA (Int.toNat v4) bl→a1 bl))))
noncomputable def nn(x0:List aA):Int:=
 let v1:Int:=(List.length x0:Int)
 bif(decide (v1>256))then
  3
 else
  Sum.elim (fun r=>r) (fun _=>
   0)
  (bq (fun(i3:Nat) (_:Unit)=>
   show Step (Int) (Unit)from
   let v5:aA:=List.getD x0 (Int.toNat (i3:Int)) (av .aA)
   let v6:=jc v5
   bif(v6 != 0)then
    .ret v6
   else
    let br:=iL x0 none (some (i3:Int))
    let v9:Int:=(List.length br:Int)
    Sum.elim (fun r=>r) (fun _=>
     .bn ())
    (bq (fun(i10:Nat) (_:Unit)=>
     show Step (Step (Int) (Unit)) (Unit)from
     bif(cO .eql ((List.getD br (Int.toNat (i10:Int)) (av .aA)).name) v5.name)then
      .ret (.ret 9)
     else
      .bn ()) 0 (Int.toNat v9) ():(Step (Int) (Unit))⊕(Unit))) 0 (Int.toNat v1) ():Int⊕(Unit))
def Gs(x0:List aA):Prop:=
 let v1:Int:=(List.length x0:Int)
 ((decide (v1>256))=false→(
  ∃bA:Nat→(Unit)→Prop,bA 0 ()∧∀(i3:Nat) (d0:Unit),i3<Int.toNat v1→bA i3 d0→(
   let v5:aA:=List.getD x0 (Int.toNat (i3:Int)) (av .aA)
   let v6:=jc v5
   (BR v5)∧
   ((v6 != 0)=false→(
    let br:=iL x0 none (some (i3:Int))
    (jD (List.length x0) none (some (i3:Int)))∧
    let v9:Int:=(List.length br:Int)
    let eP:Unit→Prop:=fun _=>
     bA (i3+1) ()
    ∃dw:Nat→(Unit)→Prop,dw 0 ()∧(∀(i10:Nat) (d1:Unit),i10<Int.toNat v9→dw i10 d1→(
     ((cO .eql ((List.getD br (Int.toNat (i10:Int)) (av .aA)).name) v5.name)=false→(
      dw (i10+1) ()))))∧∀aY,dw (Int.toNat v9) aY→eP aY)))))
noncomputable def kn(x0:Home):(List (ByteArray × aA)):=
 let v2:Int:=(List.length x0.bB:Int)
 Sum.elim (fun r=>r) (fun bl=>
  bl)
 (bq (fun(i4:Nat) (aY:(List (ByteArray × aA)))=>
  show Step ((List (ByteArray × aA))) ((List (ByteArray × aA)))from
  let v6:aA:=List.getD x0.bB (Int.toNat (i4:Int)) (av .aA)
  .bn (r1 (.str) aY v6.name v6)) 0 (Int.toNat v2) ([]:List (ByteArray × aA)):(List (ByteArray × aA))⊕((List (ByteArray × aA))))
noncomputable def vK(x0:bx):Bool:=
 bif((((decide (x0.id<1))||(decide (x0.id>250)))||(decide (x0.og<0)))||(decide (x0.og>255)))then
  false
 else
  bif x0.oh then
   ((decide (x0.kG≥4))&&(decide (x0.kG≤3600)))
  else
   (x0.kG==0)
noncomputable def r0(x0:bx)(an:List (ByteArray × aA)):Int:=
 let v4:Int:=(List.length x0.bB:Int)
 bif((decide ((List.length x0.bB:Int)<1))||(decide (v4>4)))then
  3
 else
  Sum.elim (fun r=>r) (fun bl=>
   bif(decide (bl>24))then
    3
   else
    0)
  (bq (fun(i8:Nat) (aY:Int)=>
   show Step (Int) (Int)from
   let v10:ByteArray:=List.getD x0.bB (Int.toNat (i8:Int)) (av .str)
   bif(!((jE (.str) an v10).isSome))then
    .ret 8
   else
    bif(decide ((pE x0.bB v10)<(i8:Int)))then
     .ret 9
    else
     .bn (IntKind.wrap .i64 (aY+(List.length (((jE (.str) an v10).getD (av .aA)).attrs):Int)))) 0 (Int.toNat v4) 0:Int⊕(Int))
noncomputable def fj(x0:Home):Int:=
 let v1:=nn x0.bB
 bif(v1 != 0)then
  v1
 else
  let v3:Int:=(List.length x0.bs:Int)
  bif(decide (v3>20))then
   3
  else
   Sum.elim (fun r=>r) (fun _=>
    0)
   (bq (fun(i8:Nat) (aY:(List (Int × Bool)))=>
    show Step (Int) ((List (Int × Bool)))from
    let v10:bx:=List.getD x0.bs (Int.toNat (i8:Int)) (av .bx)
    bif(!(vK v10))then
     .ret 2
    else
     bif((decide ((i8:Int)>0))&&(decide (v10.id≤((List.getD x0.bs (Int.toNat (IntKind.wrap .i64 ((i8:Int)-(1:Int)))) (av .bx)).id))))then
      .ret 14
     else
      bif((jE (.int .u64) aY v10.gW).getD false)then
       .ret 9
      else
       bif(!(iq v10.room))then
        .ret 10
       else
        let v21:=r0 v10 (kn x0)
        bif(v21 != 0)then
         .ret v21
        else
         .bn (r1 (.int .u64) aY v10.gW true)) 0 (Int.toNat v3) ([]:List (Int × Bool)):Int⊕((List (Int × Bool))))
def yt(x0:Home):Prop:=
 let v1:=nn x0.bB
 (Gs x0.bB)∧
 ((v1 != 0)=false→(
  let v3:Int:=(List.length x0.bs:Int)
  ((decide (v3>20))=false→(
   ∃bA:Nat→((List (Int × Bool)))→Prop,bA 0 ([]:List (Int × Bool))∧∀(i8:Nat) (d0:(List (Int × Bool))),i8<Int.toNat v3→bA i8 d0→(
    let v10:bx:=List.getD x0.bs (Int.toNat (i8:Int)) (av .bx)
    ((!(vK v10))=false→(
     let bS:=decide ((i8:Int)>0)
     let eY:Int:=IntKind.wrap .i64 ((i8:Int)-(1:Int))
     (bS=true→0≤eY∧eY<(List.length x0.bs:Int))∧
     ((bS&&(decide (v10.id≤((List.getD x0.bs (Int.toNat eY) (av .bx)).id))))=false→(
      (((jE (.int .u64) d0 v10.gW).getD false)=false→(
       (nj v10.room)∧
       ((!(iq v10.room))=false→(
        let v21:=r0 v10 (kn x0)
        ((v21 != 0)=false→(
         bA (i8+1) (r1 (.int .u64) d0 v10.gW true))))))))))))))))
noncomputable def lX(x0:aT):aT:=
 let bP:Int→ByteArray→ByteArray→ByteArray→Int→Int→ByteArray→ByteArray→aT:=fun v3 v4 v5 v6 bD br v9 v10=>
  ⟨x0.kind,x0.e5,⟨v3,v4,v5⟩,v6,⟨bD,br,v9⟩,v10⟩
 bif(x0.kind==1)then
  bP x0.key.dev x0.key.cG x0.key.attr (⟨#[]⟩:ByteArray) (0:Int) (0:Int) (⟨#[]⟩:ByteArray) (⟨#[]⟩:ByteArray)
 else
  bif(x0.kind==2)then
   bP x0.key.dev x0.key.cG x0.key.attr (⟨#[]⟩:ByteArray) x0.value.kind x0.value.n x0.value.s (⟨#[]⟩:ByteArray)
  else
   bif(x0.kind==3)then
    bP x0.key.dev x0.key.cG (⟨#[]⟩:ByteArray) x0.name x0.value.kind x0.value.n x0.value.s (⟨#[]⟩:ByteArray)
   else
    let aL:Bool→aT:=fun v4=>
     bif v4 then
      bP (0:Int) (⟨#[]⟩:ByteArray) (⟨#[]⟩:ByteArray) x0.name (0:Int) (0:Int) (⟨#[]⟩:ByteArray) (⟨#[]⟩:ByteArray)
     else
      bif(x0.kind==7)then
       bP (0:Int) (⟨#[]⟩:ByteArray) (⟨#[]⟩:ByteArray) (⟨#[]⟩:ByteArray) (0:Int) (0:Int) (⟨#[]⟩:ByteArray) x0.text
      else
       bP (0:Int) (⟨#[]⟩:ByteArray) (⟨#[]⟩:ByteArray) (⟨#[]⟩:ByteArray) (0:Int) (0:Int) (⟨#[]⟩:ByteArray) (⟨#[]⟩:ByteArray)
    let v4:=x0.kind==4
    bif v4 then
     aL v4
    else
     let v5:=x0.kind==5
     bif v5 then
      aL v5
     else
      aL (x0.kind==6)
noncomputable def lW(x0:Home)(an:Int):bx × Bool:=
 bif((fj x0) != 0)then
  (⟨0,0,0,false,0,⟨#[]⟩,[]⟩,false)
 else
  let v4:Int:=(List.length x0.bs:Int)
  Sum.elim (fun r=>r) (fun _=>
   (⟨0,0,0,false,0,⟨#[]⟩,[]⟩,false))
  (bq (fun(i5:Nat) (_:Unit)=>
   show Step (bx × Bool) (Unit)from
   let bD:bx:=List.getD x0.bs (Int.toNat (i5:Int)) (av .bx)
   bif(bD.id==an)then
    .ret (bD,true)
   else
    .bn ()) 0 (Int.toNat v4) ():(bx × Bool)⊕(Unit))
def yu(x0:Home)(_:Int):Prop:=
 yt x0
noncomputable def tJ(x0:Home)(an:cB):Attr × Bool:=
 let v2:=lW x0 an.dev
 let aL:Int→Attr × Bool:=fun v6=>
  bif((!v2.2)||(decide (v6<0)))then
   (⟨⟨#[]⟩,0,0,0,[],false,false⟩,false)
  else
   let v10:aA:=(jE (.str) (kn x0) an.cG).getD (av .aA)
   let v11:=rZ v10 an.attr
   bif !v11.2 then
    (⟨⟨#[]⟩,0,0,0,[],false,false⟩,false)
   else
    (v11.1,true)
 bif !v2.2 then
  aL (0:Int)
 else
  aL (pE v2.1.bB an.cG)
def B0(x0:Home)(an:cB):Prop:=
 let v2:=lW x0 an.dev
 (yu x0 an.dev)∧
 let aL:Int→Prop:=fun v6=>
  (((!v2.2)||(decide (v6<0)))=false→(
   let v10:aA:=(jE (.str) (kn x0) an.cG).getD (av .aA)
   let _:=rZ v10 an.attr
   yr v10 an.attr))
 ((!v2.2)=true→(
  aL (0:Int)))∧((!v2.2)=false→(
  aL (pE v2.1.bB an.cG)))
noncomputable def Cf(x0:Home)(an:aT):Int:=
 let v2:=tJ x0 ⟨an.key.dev,an.key.cG,an.key.attr⟩
 bif !v2.2 then
  8
 else
  bif(an.kind==1)then
   0
  else
   bif !v2.1.e6 then
    24
   else
    (hD v2.1 ⟨an.value.kind,an.value.n,an.value.s⟩)
def B1(x0:Home)(an:aT):Prop:=
 let v2:=tJ x0 ⟨an.key.dev,an.key.cG,an.key.attr⟩
 (B0 x0 ⟨an.key.dev,an.key.cG,an.key.attr⟩)∧
 ((!v2.2)=false→(
  ((an.kind==1)=false→(
   ((!v2.1.e6)=false→(
    tA v2.1 ⟨an.value.kind,an.value.n,an.value.s⟩))))))
noncomputable def lP(x0:Home)(an:Int)(aH:ByteArray):aA × Bool:=
 let eE:Int→aA × Bool:=fun v3=>
  bif(!(decide (v3≥0)))then
   (⟨⟨#[]⟩,[],[],[]⟩,false)
  else
   let bP:Int→aA × Bool:=fun v6=>
    bif(decide (v6<0))then
     (⟨⟨#[]⟩,[],[],[]⟩,false)
    else
     let br:aA:=List.getD x0.bB (Int.toNat v6) (av .aA)
     (br,true)
   let v6:Int:=(List.length x0.bB:Int)
   Sum.elim (fun r=>r) (fun _=>
    bP ((-1):Int))
   (bq (fun(i7:Nat) (_:Unit)=>
    show Step (aA × Bool) (Unit)from
    bif(cO .eql ((List.getD x0.bB (Int.toNat (i7:Int)) (av .aA)).name) aH)then
     .ret (bP (i7:Int))
    else
     .bn ()) 0 (Int.toNat v6) ():(aA × Bool)⊕(Unit))
 let v3:Int:=(List.length x0.bs:Int)
 Sum.elim (fun r=>r) (fun _=>
  eE ((-1):Int))
 (bq (fun(i4:Nat) (_:Unit)=>
  show Step (aA × Bool) (Unit)from
  let v6:bx:=List.getD x0.bs (Int.toNat (i4:Int)) (av .bx)
  let bD:=v6.id==an
  let aL:Bool→Step (aA × Bool) (Unit):=fun br=>
   bif(bD&&br)then
    .ret (eE (i4:Int))
   else
    .bn ()
  bif bD then
   aL (iK v6.bB aH)
  else
   aL false) 0 (Int.toNat v3) ():(aA × Bool)⊕(Unit))
def B2(x0:Home)(an:Int)(aH:ByteArray):Prop:=
 let eE:Int→Prop:=fun v3=>
  ((!(decide (v3≥0)))=false→(
   let bP:Int→Prop:=fun v6=>
    ((decide (v6<0))=false→(
     let _:aA:=List.getD x0.bB (Int.toNat v6) (av .aA)
     0≤v6∧v6<(List.length x0.bB:Int)))
   let v6:Int:=(List.length x0.bB:Int)
   let a1:Unit→Prop:=fun _=>
    bP ((-1):Int)
   ∃bA:Nat→(Unit)→Prop,bA 0 ()∧(∀(i7:Nat) (d0:Unit),i7<Int.toNat v6→bA i7 d0→(
    ((cO .eql ((List.getD x0.bB (Int.toNat (i7:Int)) (av .aA)).name) aH)=true→(
     bP (i7:Int)))∧((cO .eql ((List.getD x0.bB (Int.toNat (i7:Int)) (av .aA)).name) aH)=false→(
     bA (i7+1) ()))))∧∀bl,bA (Int.toNat v6) bl→a1 bl))
 let v3:Int:=(List.length x0.bs:Int)
 let eP:Unit→Prop:=fun _=>
  eE ((-1):Int)
 ∃dw:Nat→(Unit)→Prop,dw 0 ()∧(∀(i4:Nat) (d1:Unit),i4<Int.toNat v3→dw i4 d1→(
  let v6:bx:=List.getD x0.bs (Int.toNat (i4:Int)) (av .bx)
  let bD:=v6.id==an
  let aL:Bool→Prop:=fun br=>
   ((bD&&br)=true→(
    eE (i4:Int)))∧((bD&&br)=false→(
    dw (i4+1) ()))
  (bD=true→(
   aL (iK v6.bB aH)))∧(bD=false→(
   aL false))))∧∀aY,dw (Int.toNat v3) aY→eP aY
def Qv(x:List bV):List bV:=x
def BL(x:List bV):Prop:=x.length≤maxLen∧x.length*32≤140737488355328
noncomputable def ko(x0:aA)(an:ByteArray):Command × Bool:=
 let v2:Int:=(List.length x0.commands:Int)
 Sum.elim (fun r=>r) (fun _=>
  (⟨⟨#[]⟩,⟨⟨#[]⟩,0,0,0,[],false,false⟩,[]⟩,false))
 (bq (fun(i3:Nat) (_:Unit)=>
  show Step (Command × Bool) (Unit)from
  let v5:Command:=List.getD x0.commands (Int.toNat (i3:Int)) (av .Command)
  bif(cO .eql v5.name an)then
   .ret (⟨v5.name,⟨v5.param.name,v5.param.kind,v5.param.min,v5.param.max,(CN v5.param.enum),v5.param.e6,v5.param.safety⟩,(Qv v5.c4)⟩,true)
  else
   .bn ()) 0 (Int.toNat v2) ():(Command × Bool)⊕(Unit))
def B3(x0:aA)(an:ByteArray):Prop:=
 let v2:Int:=(List.length x0.commands:Int)
 ∃bA:Nat→(Unit)→Prop,bA 0 ()∧∀(i3:Nat) (d0:Unit),i3<Int.toNat v2→bA i3 d0→(
  let v5:Command:=List.getD x0.commands (Int.toNat (i3:Int)) (av .Command)
  ((cO .eql v5.name an)=true→(
   (vF v5.param.enum)∧
   BL v5.c4))∧((cO .eql v5.name an)=false→(
   bA (i3+1) ())))
noncomputable def Ch(x0:Home)(an:aT):Int:=
 let v2:=lP x0 an.key.dev an.key.cG
 bif !v2.2 then
  8
 else
  let v6:=ko v2.1 an.name
  bif !v6.2 then
   8
  else
   bif(v6.1.param.kind != 0)then
    (hD ⟨v6.1.param.name,v6.1.param.kind,v6.1.param.min,v6.1.param.max,v6.1.param.enum,v6.1.param.e6,v6.1.param.safety⟩ ⟨an.value.kind,an.value.n,an.value.s⟩)
   else
    bif(!(bif an.value.kind==0 then bif an.value.n==0 then cW an.value.s (⟨#[]⟩:ByteArray)else false else false))then
     11
    else
     0
def GB(x0:Home)(an:aT):Prop:=
 let v2:=lP x0 an.key.dev an.key.cG
 (B2 x0 an.key.dev an.key.cG)∧
 ((!v2.2)=false→(
  let v6:=ko v2.1 an.name
  (B3 v2.1 an.name)∧
  ((!v6.2)=false→(
   ((v6.1.param.kind != 0)=true→(
    tA ⟨v6.1.param.name,v6.1.param.kind,v6.1.param.min,v6.1.param.max,v6.1.param.enum,v6.1.param.e6,v6.1.param.safety⟩ ⟨an.value.kind,an.value.n,an.value.s⟩))))))
noncomputable def yK(x0:Home)(an:aT):Int:=
 let aL:Bool→Int:=fun v2=>
  bif v2 then
   (Cf x0 an)
  else
   bif(an.kind==3)then
    (Ch x0 an)
   else
    bif(an.kind==7)then
     bif(decide ((ByteArray.size an.text:Int)>20000))then
      3
     else
      0
    else
     bif(!(iq an.name))then
      10
     else
      0
 let v2:=an.kind==1
 bif v2 then
  aL v2
 else
  aL (an.kind==2)
def B4(x0:Home)(an:aT):Prop:=
 let aL:Bool→Prop:=fun v2=>
  (v2=true→(
   B1 x0 an))∧(v2=false→(
   ((an.kind==3)=true→(
    GB x0 an))∧((an.kind==3)=false→(
    ((an.kind==7)=false→(
     nj an.name))))))
 let v2:=an.kind==1
 (v2=true→(
  aL v2))∧(v2=false→(
  aL (an.kind==2)))
noncomputable def lg(x0:Home)(an:aT):Int:=
 let bP:Int→Int:=fun v2=>
  v2
 let v2:=fj x0
 bif(v2 != 0)then
  bP v2
 else
  let v4:=yI an
  bif(v4 != 0)then
   bP v4
  else
   let v6:=yJ an
   bif(v6 != 0)then
    bP v6
   else
    let aL:Int→Int:=fun br=>
     bif(br != 0)then
      bP br
     else
      let v10:=yK x0 an
      bif(v10 != 0)then
       bP v10
      else
       bP (0:Int)
    let br:=lX an
    let v9:=!(bif an.kind==br.kind then bif an.e5==br.e5 then bif an.key.dev==br.key.dev then bif cW an.key.cG br.key.cG then bif cW an.key.attr br.key.attr then bif cW an.name br.name then bif an.value.kind==br.value.kind then bif an.value.n==br.value.n then bif cW an.value.s br.value.s then cW an.text br.text else false else false else false else false else false else false else false else false else false)
    bif v9 then
     aL (1:Int)
    else
     aL (0:Int)
def B5(x0:Home)(an:aT):Prop:=
 let v2:=fj x0
 (yt x0)∧
 ((v2 != 0)=false→(
  let v4:=yI an
  ((v4 != 0)=false→(
   let v6:=yJ an
   ((v6 != 0)=false→(
    let aL:Int→Prop:=fun br=>
     ((br != 0)=false→(
      let _:=yK x0 an
      B4 x0 an))
    let br:=lX an
    let v9:=!(bif an.kind==br.kind then bif an.e5==br.e5 then bif an.key.dev==br.key.dev then bif cW an.key.cG br.key.cG then bif cW an.key.attr br.key.attr then bif cW an.name br.name then bif an.value.kind==br.value.kind then bif an.value.n==br.value.n then bif cW an.value.s br.value.s then cW an.text br.text else false else false else false else false else false else false else false else false else false)
    (v9=true→(
     aL (1:Int)))∧(v9=false→(
     aL (0:Int)))))))))
noncomputable def tC(x0:List ByteArray)(an:ByteArray):Bool:=
 let v2:Int:=(List.length x0:Int)
 Sum.elim (fun r=>r) (fun _=>
  false)
 (bq (fun(i3:Nat) (_:Unit)=>
  show Step (Bool) (Unit)from
  bif(cO .eql (List.getD x0 (Int.toNat (i3:Int)) (av .str)) an)then
   .ret true
  else
   .bn ()) 0 (Int.toNat v2) ():Bool⊕(Unit))
noncomputable def mz(x0:Attr):Int:=
 bif(!(jU x0.name))then
  10
 else
  bif((decide (x0.kind<1))||(decide (x0.kind>4)))then
   7
  else
   let aL:Int:=
    bif(x0.kind != 3)then
     bif(decide ((List.length x0.enum:Int)>0))then
      4
     else
      0
    else
     let v10:Int:=(List.length x0.enum:Int)
     bif((decide ((List.length x0.enum:Int)<1))||(decide (v10>64)))then
      3
     else
      Sum.elim (fun r=>r) (fun _=>
       0)
      (bq (fun(i13:Nat) (_:Unit)=>
       show Step (Int) (Unit)from
       bif(!(jU (List.getD x0.enum (Int.toNat (i13:Int)) (av .str))))then
        .ret 10
       else
        bif(tC (iL x0.enum none (some (i13:Int))) (List.getD x0.enum (Int.toNat (i13:Int)) (av .str)))then
         .ret 9
        else
         .bn ()) 0 (Int.toNat v10) ():Int⊕(Unit))
   bif(x0.kind==2)then
    bif(((decide (x0.min<(-1099511627776)))||(decide (x0.max>1099511627776)))||(decide (x0.min>x0.max)))then
     2
    else
     aL
   else
    bif((x0.min != 0)||(x0.max != 0))then
     2
    else
     aL
def qH(x0:Attr):Prop:=
 (pB x0.name)∧
 ((!(jU x0.name))=false→(
  (((decide (x0.kind<1))||(decide (x0.kind>4)))=false→(
   let aL:Prop:=
    ((x0.kind != 3)=false→(
     let v10:Int:=(List.length x0.enum:Int)
     (((decide ((List.length x0.enum:Int)<1))||(decide (v10>64)))=false→(
      ∃bA:Nat→(Unit)→Prop,bA 0 ()∧∀(i13:Nat) (d0:Unit),i13<Int.toNat v10→bA i13 d0→(
       let dQ:ByteArray:=List.getD x0.enum (Int.toNat (i13:Int)) (av .str)
       (pB dQ)∧
       ((!(jU dQ))=false→(
        (jD (List.length x0.enum) none (some (i13:Int)))∧
        ((tC (iL x0.enum none (some (i13:Int))) (List.getD x0.enum (Int.toNat (i13:Int)) (av .str)))=false→(
         bA (i13+1) ())))))))))
   ((x0.kind==2)=true→(
    ((((decide (x0.min<(-1099511627776)))||(decide (x0.max>1099511627776)))||(decide (x0.min>x0.max)))=false→(
     aL))))∧((x0.kind==2)=false→(
    (((x0.min != 0)||(x0.max != 0))=false→(
     aL))))))))
noncomputable def jb(x0:aA)(an:ByteArray):Int:=
 let v2:Int:=(List.length x0.attrs:Int)
 Sum.elim (fun r=>r) (fun _=>
  (-1))
 (bq (fun(i3:Nat) (_:Unit)=>
  show Step (Int) (Unit)from
  bif(cO .eql ((List.getD x0.attrs (Int.toNat (i3:Int)) (av .Attr)).name) an)then
   .ret (i3:Int)
  else
   .bn ()) 0 (Int.toNat v2) ():Int⊕(Unit))
noncomputable def yC(x0:aA):Bool:=
 let v3:Int:=(List.length x0.commands:Int)
 bif(((decide ((List.length x0.attrs:Int)>12))||(decide (v3>12)))||(decide ((List.length x0.events:Int)>12)))then
  true
 else
  Sum.elim (fun r=>r) (fun _=>
   false)
  (bq (fun(i9:Nat) (_:Unit)=>
   show Step (Bool) (Unit)from
   bif(decide ((List.length ((List.getD x0.commands (Int.toNat (i9:Int)) (av .Command)).c4):Int)>12))then
    .ret true
   else
    .bn ()) 0 (Int.toNat v3) ():Bool⊕(Unit))
noncomputable def yy(x0:List ByteArray)(an:List ByteArray):Bool:=
 let v2:Int:=(List.length x0:Int)
 bif(v2 != (List.length an:Int))then
  false
 else
  Sum.elim (fun r=>r) (fun _=>
   true)
  (bq (fun(i5:Nat) (_:Unit)=>
   show Step (Bool) (Unit)from
   bif(cO .neq (List.getD x0 (Int.toNat (i5:Int)) (av .str)) (List.getD an (Int.toNat (i5:Int)) (av .str)))then
    .ret false
   else
    .bn ()) 0 (Int.toNat v2) ():Bool⊕(Unit))
def B6(x0:List ByteArray)(an:List ByteArray):Prop:=
 let v2:Int:=(List.length x0:Int)
 ((v2 != (List.length an:Int))=false→(
  ∃bA:Nat→(Unit)→Prop,bA 0 ()∧∀(i5:Nat) (d0:Unit),i5<Int.toNat v2→bA i5 d0→(
   (0≤(i5:Int)∧(i5:Int)<(List.length an:Int))∧
   ((cO .neq (List.getD x0 (Int.toNat (i5:Int)) (av .str)) (List.getD an (Int.toNat (i5:Int)) (av .str)))=false→(
    bA (i5+1) ())))))
noncomputable def yz(x0:Attr)(an:Attr):Bool:=
 let br:Bool:=(((cO .eql x0.name an.name)&&(x0.kind==an.kind))&&(x0.min==an.min))&&(x0.max==an.max)
 let aL:Bool→Bool:=fun v9=>
  (((br&&v9)&&(cD.den (.kI false) x0.e6 an.e6))&&(cD.den (.kI false) x0.safety an.safety))
 bif br then
  aL (yy x0.enum an.enum)
 else
  aL false
def GC(x0:Attr)(an:Attr):Prop:=
 let br:Bool:=(((cO .eql x0.name an.name)&&(x0.kind==an.kind))&&(x0.min==an.min))&&(x0.max==an.max)
 (br=true→(
  B6 x0.enum an.enum))
noncomputable def tF(x0:aA)(an:ByteArray):Attr × Bool:=
 let v2:=jb x0 an
 bif(decide (v2<0))then
  (⟨⟨#[]⟩,0,0,0,[],false,false⟩,false)
 else
  let v4:Attr:=List.getD x0.attrs (Int.toNat v2) (av .Attr)
  (v4,true)
def B7(x0:aA)(an:ByteArray):Prop:=
 let v2:=jb x0 an
 ((decide (v2<0))=false→(
  let _:Attr:=List.getD x0.attrs (Int.toNat v2) (av .Attr)
  0≤v2∧v2<(List.length x0.attrs:Int)))
noncomputable def mA(x0:Attr)(an:az):Int:=
 bif((mz x0) != 0)then
  (mz x0)
 else
  bif((vr an) != 0)then
   (vr an)
  else
   bif(an.kind != x0.kind)then
    11
   else
    bif(((an.kind==2)&&((decide (an.n<x0.min))||(decide (an.n>x0.max))))||((an.kind==3)&&(decide (an.n≥(List.length x0.enum:Int)))))then
     2
    else
     0
def tI(x0:Attr)(_:az):Prop:=
 (qH x0)∧
 (((mz x0) != 0)=true→(
  qH x0))
noncomputable def BU(x0:bV)(an:Attr)(aH:Attr):Bool:=
 bif(x0.kind==1)then
  let v4:=an.kind != 4
  let aL:Int→Bool:=fun v5=>
   (v4&&(v5==0))
  bif v4 then
   aL (mA an ⟨an.kind,x0.n,⟨#[]⟩⟩)
  else
   aL (0:Int)
 else
  bif(x0.kind==2)then
   let v5:=aH.kind==an.kind
   let aL:Bool→Bool:=fun v6=>
    (v5&&v6)
   bif v5 then
    aL (yy aH.enum an.enum)
   else
    aL false
  else
   bif(x0.kind==3)then
    (an.kind==2)
   else
    (an.kind==1)
def B8(x0:bV)(an:Attr)(aH:Attr):Prop:=
 ((x0.kind==1)=true→(
  let v4:=an.kind != 4
  (v4=true→(
   tI an ⟨an.kind,x0.n,⟨#[]⟩⟩))))∧((x0.kind==1)=false→(
  ((x0.kind==2)=true→(
   let v5:=aH.kind==an.kind
   (v5=true→(
    B6 aH.enum an.enum))))))
noncomputable def yA(x0:aA)(an:Attr)(aH:bV):Int:=
 bif((decide (aH.kind<1))||(decide (aH.kind>4)))then
  7
 else
  let v6:=tF x0 aH.attr
  bif !v6.2 then
   8
  else
   bif !v6.1.e6 then
    24
   else
    bif(!(BU aH v6.1 an))then
     11
    else
     bif((aH.kind==3)&&((decide (aH.n<(-1099511627776)))||(decide (aH.n>1099511627776))))then
      2
     else
      bif(((aH.kind==2)||(aH.kind==4))&&(aH.n != 0))then
       4
      else
       0
def B9(x0:aA)(an:Attr)(aH:bV):Prop:=
 (((decide (aH.kind<1))||(decide (aH.kind>4)))=false→(
  let v6:=tF x0 aH.attr
  (B7 x0 aH.attr)∧
  ((!v6.2)=false→(
   ((!v6.1.e6)=false→(
    B8 aH v6.1 an))))))
noncomputable def yB(x0:aA)(an:Int):Int:=
 let v2:Command:=List.getD x0.commands (Int.toNat an) (av .Command)
 bif(!(jU v2.name))then
  10
 else
  Sum.elim (fun r=>r) (fun _=>
   let aL:Int:=
    let v6:Int:=(List.length v2.c4:Int)
    Sum.elim (fun r=>r) (fun _=>
     0)
    (bq (fun(i7:Nat) (_:Unit)=>
     show Step (Int) (Unit)from
     let v9:bV:=List.getD v2.c4 (Int.toNat (i7:Int)) (av .bV)
     let v10:=yA x0 ⟨v2.param.name,v2.param.kind,v2.param.min,v2.param.max,v2.param.enum,v2.param.e6,v2.param.safety⟩ v9
     bif(v10 != 0)then
      .ret v10
     else
      .bn ()) 0 (Int.toNat v6) ():Int⊕(Unit))
   bif(v2.param.kind==0)then
    bif(!(yz ⟨v2.param.name,v2.param.kind,v2.param.min,v2.param.max,v2.param.enum,v2.param.e6,v2.param.safety⟩ ⟨⟨#[]⟩,0,0,0,[],false,false⟩))then
     4
    else
     aL
   else
    let v6:=mz ⟨v2.param.name,v2.param.kind,v2.param.min,v2.param.max,v2.param.enum,v2.param.e6,v2.param.safety⟩
    bif(v6 != 0)then
     v6
    else
     aL)
  (bq (fun(i5:Nat) (_:Unit)=>
   show Step (Int) (Unit)from
   bif(cO .eql ((List.getD x0.commands (Int.toNat (i5:Int)) (av .Command)).name) v2.name)then
    .ret 9
   else
    .bn ()) 0 (Int.toNat an) ():Int⊕(Unit))
def GD(x0:aA)(an:Int):Prop:=
 let v2:Command:=List.getD x0.commands (Int.toNat an) (av .Command)
 (0≤an∧an<(List.length x0.commands:Int))∧
 (pB v2.name)∧
 ((!(jU v2.name))=false→(
  (0≤an∧an<(9223372036854775808:Int))∧
  let a1:Unit→Prop:=fun _=>
   let aL:Prop:=
    let v6:Int:=(List.length v2.c4:Int)
    ∃dw:Nat→(Unit)→Prop,dw 0 ()∧∀(i7:Nat) (d1:Unit),i7<Int.toNat v6→dw i7 d1→(
     let v9:bV:=List.getD v2.c4 (Int.toNat (i7:Int)) (av .bV)
     let v10:=yA x0 ⟨v2.param.name,v2.param.kind,v2.param.min,v2.param.max,v2.param.enum,v2.param.e6,v2.param.safety⟩ v9
     (B9 x0 ⟨v2.param.name,v2.param.kind,v2.param.min,v2.param.max,v2.param.enum,v2.param.e6,v2.param.safety⟩ v9)∧
     ((v10 != 0)=false→(
      dw (i7+1) ())))
   ((v2.param.kind==0)=true→(
    (GC ⟨v2.param.name,v2.param.kind,v2.param.min,v2.param.max,v2.param.enum,v2.param.e6,v2.param.safety⟩ ⟨⟨#[]⟩,0,0,0,[],false,false⟩)∧
    ((!(yz ⟨v2.param.name,v2.param.kind,v2.param.min,v2.param.max,v2.param.enum,v2.param.e6,v2.param.safety⟩ ⟨⟨#[]⟩,0,0,0,[],false,false⟩))=false→(
     aL))))∧((v2.param.kind==0)=false→(
    let v6:=mz ⟨v2.param.name,v2.param.kind,v2.param.min,v2.param.max,v2.param.enum,v2.param.e6,v2.param.safety⟩
    (qH ⟨v2.param.name,v2.param.kind,v2.param.min,v2.param.max,v2.param.enum,v2.param.e6,v2.param.safety⟩)∧
    ((v6 != 0)=false→(
     aL))))
  ∃bA:Nat→(Unit)→Prop,bA 0 ()∧(∀(i5:Nat) (d0:Unit),i5<Int.toNat an→bA i5 d0→(
   (0≤(i5:Int)∧(i5:Int)<(List.length x0.commands:Int))∧
   ((cO .eql ((List.getD x0.commands (Int.toNat (i5:Int)) (av .Command)).name) v2.name)=false→(
    bA (i5+1) ()))))∧∀bl,bA (Int.toNat an) bl→a1 bl))
noncomputable def qE(x0:aA):Int:=
 bif(!(jU x0.name))then
  10
 else
  bif(yC x0)then
   3
  else
   let v4:Int:=(List.length x0.attrs:Int)
   Sum.elim (fun r=>r) (fun _=>
    let v5:Int:=(List.length x0.commands:Int)
    Sum.elim (fun r=>r) (fun _=>
     let v6:Int:=(List.length x0.events:Int)
     Sum.elim (fun r=>r) (fun _=>
      0)
     (bq (fun(i7:Nat) (_:Unit)=>
      show Step (Int) (Unit)from
      bif(!(jU (List.getD x0.events (Int.toNat (i7:Int)) (av .str))))then
       .ret 10
      else
       Sum.elim (fun r=>r) (fun _=>
        .bn ())
       (bq (fun(i12:Nat) (_:Unit)=>
        show Step (Step (Int) (Unit)) (Unit)from
        bif(cO .eql (List.getD x0.events (Int.toNat (i12:Int)) (av .str)) (List.getD x0.events (Int.toNat (i7:Int)) (av .str)))then
         .ret (.ret 9)
        else
         .bn ()) 0 (Int.toNat (i7:Int)) ():(Step (Int) (Unit))⊕(Unit))) 0 (Int.toNat v6) ():Int⊕(Unit)))
    (bq (fun(i6:Nat) (_:Unit)=>
     show Step (Int) (Unit)from
     let br:=yB x0 (i6:Int)
     bif(br != 0)then
      .ret br
     else
      .bn ()) 0 (Int.toNat v5) ():Int⊕(Unit)))
   (bq (fun(i5:Nat) (_:Unit)=>
    show Step (Int) (Unit)from
    let bD:Attr:=List.getD x0.attrs (Int.toNat (i5:Int)) (av .Attr)
    let br:=mz bD
    bif(br != 0)then
     .ret br
    else
     bif(decide ((jb x0 ((List.getD x0.attrs (Int.toNat (i5:Int)) (av .Attr)).name))<(i5:Int)))then
      .ret 9
     else
      .bn ()) 0 (Int.toNat v4) ():Int⊕(Unit))
def Ca(x0:aA):Prop:=
 (pB x0.name)∧
 ((!(jU x0.name))=false→(
  ((yC x0)=false→(
   let v4:Int:=(List.length x0.attrs:Int)
   let a1:Unit→Prop:=fun _=>
    let v5:Int:=(List.length x0.commands:Int)
    let eP:Unit→Prop:=fun _=>
     let v6:Int:=(List.length x0.events:Int)
     ∃ix:Nat→(Unit)→Prop,ix 0 ()∧∀(i7:Nat) (d2:Unit),i7<Int.toNat v6→ix i7 d2→(
      let v9:ByteArray:=List.getD x0.events (Int.toNat (i7:Int)) (av .str)
      (pB v9)∧
      ((!(jU v9))=false→(
       (0≤(i7:Int)∧(i7:Int)<(9223372036854775808:Int))∧
       let iv:Unit→Prop:=fun _=>
        ix (i7+1) ()
       ∃l0:Nat→(Unit)→Prop,l0 0 ()∧(∀(i12:Nat) (d3:Unit),i12<Int.toNat (i7:Int)→l0 i12 d3→(
        (0≤(i12:Int)∧(i12:Int)<(List.length x0.events:Int))∧
        ((cO .eql (List.getD x0.events (Int.toNat (i12:Int)) (av .str)) (List.getD x0.events (Int.toNat (i7:Int)) (av .str)))=false→(
         l0 (i12+1) ()))))∧∀cK,l0 (Int.toNat (i7:Int)) cK→iv cK)))
    ∃dw:Nat→(Unit)→Prop,dw 0 ()∧(∀(i6:Nat) (d1:Unit),i6<Int.toNat v5→dw i6 d1→(
     let br:=yB x0 (i6:Int)
     (GD x0 (i6:Int))∧
     ((br != 0)=false→(
      dw (i6+1) ()))))∧∀aY,dw (Int.toNat v5) aY→eP aY
   ∃bA:Nat→(Unit)→Prop,bA 0 ()∧(∀(i5:Nat) (d0:Unit),i5<Int.toNat v4→bA i5 d0→(
    let bD:Attr:=List.getD x0.attrs (Int.toNat (i5:Int)) (av .Attr)
    let br:=mz bD
    (qH bD)∧
    ((br != 0)=false→(
     ((decide ((jb x0 ((List.getD x0.attrs (Int.toNat (i5:Int)) (av .Attr)).name))<(i5:Int)))=false→(
      bA (i5+1) ()))))))∧∀bl,bA (Int.toNat v4) bl→a1 bl))))
noncomputable def yD(x0:List aA):Int:=
 let v1:Int:=(List.length x0:Int)
 bif(decide (v1>256))then
  3
 else
  Sum.elim (fun r=>r) (fun _=>
   0)
  (bq (fun(i3:Nat) (_:Unit)=>
   show Step (Int) (Unit)from
   let v5:aA:=List.getD x0 (Int.toNat (i3:Int)) (av .aA)
   let v6:=qE v5
   bif(v6 != 0)then
    .ret v6
   else
    Sum.elim (fun r=>r) (fun _=>
     .bn ())
    (bq (fun(i8:Nat) (_:Unit)=>
     show Step (Step (Int) (Unit)) (Unit)from
     bif(cO .eql ((List.getD x0 (Int.toNat (i8:Int)) (av .aA)).name) ((List.getD x0 (Int.toNat (i3:Int)) (av .aA)).name))then
      .ret (.ret 9)
     else
      .bn ()) 0 (Int.toNat (i3:Int)) ():(Step (Int) (Unit))⊕(Unit))) 0 (Int.toNat v1) ():Int⊕(Unit))
def GF(x0:List aA):Prop:=
 let v1:Int:=(List.length x0:Int)
 ((decide (v1>256))=false→(
  ∃bA:Nat→(Unit)→Prop,bA 0 ()∧∀(i3:Nat) (d0:Unit),i3<Int.toNat v1→bA i3 d0→(
   let v5:aA:=List.getD x0 (Int.toNat (i3:Int)) (av .aA)
   let v6:=qE v5
   (Ca v5)∧
   ((v6 != 0)=false→(
    (0≤(i3:Int)∧(i3:Int)<(9223372036854775808:Int))∧
    let eP:Unit→Prop:=fun _=>
     bA (i3+1) ()
    ∃dw:Nat→(Unit)→Prop,dw 0 ()∧(∀(i8:Nat) (d1:Unit),i8<Int.toNat (i3:Int)→dw i8 d1→(
     (0≤(i8:Int)∧(i8:Int)<(List.length x0:Int))∧
     ((cO .eql ((List.getD x0 (Int.toNat (i8:Int)) (av .aA)).name) ((List.getD x0 (Int.toNat (i3:Int)) (av .aA)).name))=false→(
      dw (i8+1) ()))))∧∀aY,dw (Int.toNat (i3:Int)) aY→eP aY)))))
noncomputable def qC(x0:List ByteArray)(an:ByteArray):Int:=
 let v2:Int:=(List.length x0:Int)
 Sum.elim (fun r=>r) (fun _=>
  (-1))
 (bq (fun(i3:Nat) (_:Unit)=>
  show Step (Int) (Unit)from
  bif(cO .eql (List.getD x0 (Int.toNat (i3:Int)) (av .str)) an)then
   .ret (i3:Int)
  else
   .bn ()) 0 (Int.toNat v2) ():Int⊕(Unit))
noncomputable def lf(x0:Home)(an:ByteArray):Int:=
 let v2:Int:=(List.length x0.bB:Int)
 Sum.elim (fun r=>r) (fun _=>
  (-1))
 (bq (fun(i3:Nat) (_:Unit)=>
  show Step (Int) (Unit)from
  bif(cO .eql ((List.getD x0.bB (Int.toNat (i3:Int)) (av .aA)).name) an)then
   .ret (i3:Int)
  else
   .bn ()) 0 (Int.toNat v2) ():Int⊕(Unit))
def Cb(x0:Home)(_:ByteArray):Prop:=
 let v2:Int:=(List.length x0.bB:Int)
 0≤v2∧v2<(9223372036854775808:Int)
noncomputable def qG(x0:Home)(an:bx):Int:=
 let v4:Int:=(List.length an.bB:Int)
 bif((decide ((List.length an.bB:Int)<1))||(decide (v4>4)))then
  3
 else
  Sum.elim (fun r=>r) (fun bl=>
   bif(decide (bl>24))then
    3
   else
    0)
  (bq (fun(i8:Nat) (aY:Int)=>
   show Step (Int) (Int)from
   let v11:=lf x0 (List.getD an.bB (Int.toNat (i8:Int)) (av .str))
   bif(decide (v11<0))then
    .ret 8
   else
    bif(decide ((qC an.bB (List.getD an.bB (Int.toNat (i8:Int)) (av .str)))<(i8:Int)))then
     .ret 9
    else
     .bn (IntKind.wrap .i64 (aY+(List.length ((List.getD x0.bB (Int.toNat v11) (av .aA)).attrs):Int)))) 0 (Int.toNat v4) 0:Int⊕(Int))
def GG(x0:Home)(an:bx):Prop:=
 let v4:Int:=(List.length an.bB:Int)
 (((decide ((List.length an.bB:Int)<1))||(decide (v4>4)))=false→(
  ∃bA:Nat→(Int)→Prop,bA 0 0∧∀(i8:Nat) (d0:Int),i8<Int.toNat v4→bA i8 d0→(
   let v10:ByteArray:=List.getD an.bB (Int.toNat (i8:Int)) (av .str)
   let v11:=lf x0 v10
   (Cb x0 v10)∧
   ((decide (v11<0))=false→(
    ((decide ((qC an.bB (List.getD an.bB (Int.toNat (i8:Int)) (av .str)))<(i8:Int)))=false→(
     (0≤v11∧v11<(List.length x0.bB:Int))∧
     bA (i8+1) (IntKind.wrap .i64 (d0+(List.length ((List.getD x0.bB (Int.toNat v11) (av .aA)).attrs):Int))))))))))
noncomputable def pG(x0:Home)(an:Int):Int:=
 let v2:bx:=List.getD x0.bs (Int.toNat an) (av .bx)
 let dv:Bool:=(((((decide (v2.id<1))||(decide (v2.id>250)))||(decide (v2.og<0)))||(decide (v2.og>255)))||((!v2.oh)&&(v2.kG != 0)))||(v2.oh&&((decide (v2.kG<4))||(decide (v2.kG>3600))))
 bif dv then
  2
 else
  bif((decide (an>0))&&(decide (((List.getD x0.bs (Int.toNat (IntKind.wrap .i64 (an-(1:Int)))) (av .bx)).id)≥v2.id)))then
   14
  else
   Sum.elim (fun r=>r) (fun _=>
    bif(!(jU v2.room))then
     10
    else
     (qG x0 v2))
   (bq (fun(i24:Nat) (_:Unit)=>
    show Step (Int) (Unit)from
    bif(((List.getD x0.bs (Int.toNat (i24:Int)) (av .bx)).gW)==v2.gW)then
     .ret 9
    else
     .bn ()) 0 (Int.toNat an) ():Int⊕(Unit))
def GH(x0:Home)(an:Int):Prop:=
 let v2:bx:=List.getD x0.bs (Int.toNat an) (av .bx)
 (0≤an∧an<(List.length x0.bs:Int))∧
 let dv:Bool:=(((((decide (v2.id<1))||(decide (v2.id>250)))||(decide (v2.og<0)))||(decide (v2.og>255)))||((!v2.oh)&&(v2.kG != 0)))||(v2.oh&&((decide (v2.kG<4))||(decide (v2.kG>3600))))
 (dv=false→(
  let cw:=decide (an>0)
  let v20:Int:=IntKind.wrap .i64 (an-(1:Int))
  (cw=true→0≤v20∧v20<(List.length x0.bs:Int))∧
  ((cw&&(decide (((List.getD x0.bs (Int.toNat v20) (av .bx)).id)≥v2.id)))=false→(
   (0≤an∧an<(9223372036854775808:Int))∧
   let a1:Unit→Prop:=fun _=>
    (pB v2.room)∧
    ((!(jU v2.room))=false→(
     GG x0 v2))
   ∃bA:Nat→(Unit)→Prop,bA 0 ()∧(∀(i24:Nat) (d0:Unit),i24<Int.toNat an→bA i24 d0→(
    (0≤(i24:Int)∧(i24:Int)<(List.length x0.bs:Int))∧
    ((((List.getD x0.bs (Int.toNat (i24:Int)) (av .bx)).gW)==v2.gW)=false→(
     bA (i24+1) ()))))∧∀bl,bA (Int.toNat an) bl→a1 bl))))
noncomputable def pF(x0:Home):Int:=
 let v1:=yD x0.bB
 bif(v1 != 0)then
  v1
 else
  let v3:Int:=(List.length x0.bs:Int)
  bif(decide (v3>20))then
   3
  else
   Sum.elim (fun r=>r) (fun _=>
    0)
   (bq (fun(i5:Nat) (_:Unit)=>
    show Step (Int) (Unit)from
    let bD:=pG x0 (i5:Int)
    bif(bD != 0)then
     .ret bD
    else
     .bn ()) 0 (Int.toNat v3) ():Int⊕(Unit))
def Cc(x0:Home):Prop:=
 let v1:=yD x0.bB
 (GF x0.bB)∧
 ((v1 != 0)=false→(
  let v3:Int:=(List.length x0.bs:Int)
  ((decide (v3>20))=false→(
   ∃bA:Nat→(Unit)→Prop,bA 0 ()∧∀(i5:Nat) (d0:Unit),i5<Int.toNat v3→bA i5 d0→(
    let bD:=pG x0 (i5:Int)
    (GH x0 (i5:Int))∧
    ((bD != 0)=false→(
     bA (i5+1) ())))))))
noncomputable def vL(x0:aT):Bool:=
 let v3:Bool:=(x0.kind==1)||(x0.kind==2)
 let v12:Bool:=((!v3)&&(cO .neq x0.key.attr (⟨#[]⟩:ByteArray)))||(((!v3)&&(x0.kind != 3))&&(!(bif x0.key.dev==0 then bif cW x0.key.cG (⟨#[]⟩:ByteArray)then cW x0.key.attr (⟨#[]⟩:ByteArray)else false else false)))
 bif v12 then
  false
 else
  let qM:Bool:=(((((x0.kind==3)||(x0.kind==4))||(x0.kind==5))||(x0.kind==6))||(cO .eql x0.name (⟨#[]⟩:ByteArray)))&&(((x0.kind==2)||(x0.kind==3))||(bif x0.value.kind==0 then bif x0.value.n==0 then cW x0.value.s (⟨#[]⟩:ByteArray)else false else false))
  (qM&&((x0.kind==7)||(cO .eql x0.text (⟨#[]⟩:ByteArray))))
noncomputable def pH(x0:Home)(an:Int):Int:=
 let v2:Int:=(List.length x0.bs:Int)
 Sum.elim (fun r=>r) (fun _=>
  (-1))
 (bq (fun(i3:Nat) (_:Unit)=>
  show Step (Int) (Unit)from
  bif(((List.getD x0.bs (Int.toNat (i3:Int)) (av .bx)).id)==an)then
   .ret (i3:Int)
  else
   .bn ()) 0 (Int.toNat v2) ():Int⊕(Unit))
def Qw(x0:Home)(_:Int):Prop:=
 let v2:Int:=(List.length x0.bs:Int)
 0≤v2∧v2<(9223372036854775808:Int)
noncomputable def mw(x0:Home)(an:Int)(aH:ByteArray):aA × Bool:=
 let v3:=pH x0 an
 let v4:=decide (v3<0)
 let aL:Int→aA × Bool:=fun v5=>
  let bD:Bool:=v4||(v5 != 0)
  let aL:Int→aA × Bool:=fun v9=>
   bif(bD||(decide (v9<0)))then
    (⟨⟨#[]⟩,[],[],[]⟩,false)
   else
    let bS:aA:=List.getD x0.bB (Int.toNat (lf x0 aH)) (av .aA)
    (bS,true)
  bif bD then
   aL (0:Int)
  else
   aL (qC ((List.getD x0.bs (Int.toNat v3) (av .bx)).bB) aH)
 bif v4 then
  aL (0:Int)
 else
  aL (pF x0)
def yG(x0:Home)(an:Int)(aH:ByteArray):Prop:=
 let v3:=pH x0 an
 (Qw x0 an)∧
 let v4:=decide (v3<0)
 let aL:Int→Prop:=fun v5=>
  let bD:Bool:=v4||(v5 != 0)
  (bD=false→0≤v3∧v3<(List.length x0.bs:Int))∧
  let aL:Int→Prop:=fun v9=>
   ((bD||(decide (v9<0)))=false→(
    let v12:=lf x0 aH
    (Cb x0 aH)∧
    let _:aA:=List.getD x0.bB (Int.toNat v12) (av .aA)
    0≤v12∧v12<(List.length x0.bB:Int)))
  (bD=true→(
   aL (0:Int)))∧(bD=false→(
   aL (qC ((List.getD x0.bs (Int.toNat v3) (av .bx)).bB) aH)))
 (v4=true→(
  aL (0:Int)))∧(v4=false→(
  (Cc x0)∧
  aL (pF x0)))
noncomputable def yH(x0:Home)(an:cB):Attr × Bool:=
 let v2:=mw x0 an.dev an.cG
 bif !v2.2 then
  (⟨⟨#[]⟩,0,0,0,[],false,false⟩,false)
 else
  let v6:=tF v2.1 an.attr
  (v6.1,v6.2)
def GN(x0:Home)(an:cB):Prop:=
 let v2:=mw x0 an.dev an.cG
 (yG x0 an.dev an.cG)∧
 ((!v2.2)=false→(
  let _:=tF v2.1 an.attr
  B7 v2.1 an.attr))
noncomputable def Ce(x0:Home)(an:aT):Int:=
 let v2:=yH x0 ⟨an.key.dev,an.key.cG,an.key.attr⟩
 bif !v2.2 then
  8
 else
  bif(an.kind==1)then
   0
  else
   bif !v2.1.e6 then
    24
   else
    (mA v2.1 ⟨an.value.kind,an.value.n,an.value.s⟩)
def GO(x0:Home)(an:aT):Prop:=
 let v2:=yH x0 ⟨an.key.dev,an.key.cG,an.key.attr⟩
 (GN x0 ⟨an.key.dev,an.key.cG,an.key.attr⟩)∧
 ((!v2.2)=false→(
  ((an.kind==1)=false→(
   ((!v2.1.e6)=false→(
    tI v2.1 ⟨an.value.kind,an.value.n,an.value.s⟩))))))
noncomputable def km(x0:aA)(an:ByteArray):Command × Bool:=
 let v2:Int:=(List.length x0.commands:Int)
 Sum.elim (fun r=>r) (fun _=>
  (⟨⟨#[]⟩,⟨⟨#[]⟩,0,0,0,[],false,false⟩,[]⟩,false))
 (bq (fun(i3:Nat) (_:Unit)=>
  show Step (Command × Bool) (Unit)from
  bif(cO .eql ((List.getD x0.commands (Int.toNat (i3:Int)) (av .Command)).name) an)then
   let bD:Command:=List.getD x0.commands (Int.toNat (i3:Int)) (av .Command)
   .ret (bD,true)
  else
   .bn ()) 0 (Int.toNat v2) ():(Command × Bool)⊕(Unit))
noncomputable def Cg(x0:Home)(an:aT):Int:=
 let v2:=mw x0 an.key.dev an.key.cG
 bif !v2.2 then
  8
 else
  let v6:=km v2.1 an.name
  bif !v6.2 then
   8
  else
   bif(v6.1.param.kind != 0)then
    (mA ⟨v6.1.param.name,v6.1.param.kind,v6.1.param.min,v6.1.param.max,v6.1.param.enum,v6.1.param.e6,v6.1.param.safety⟩ ⟨an.value.kind,an.value.n,an.value.s⟩)
   else
    bif(!(bif an.value.kind==0 then bif an.value.n==0 then cW an.value.s (⟨#[]⟩:ByteArray)else false else false))then
     11
    else
     0
def GQ(x0:Home)(an:aT):Prop:=
 let v2:=mw x0 an.key.dev an.key.cG
 (yG x0 an.key.dev an.key.cG)∧
 ((!v2.2)=false→(
  let v6:=km v2.1 an.name
  ((!v6.2)=false→(
   ((v6.1.param.kind != 0)=true→(
    tI ⟨v6.1.param.name,v6.1.param.kind,v6.1.param.min,v6.1.param.max,v6.1.param.enum,v6.1.param.e6,v6.1.param.safety⟩ ⟨an.value.kind,an.value.n,an.value.s⟩))))))
noncomputable def vM(x0:Home)(an:aT):Int:=
 let v2:=pF x0
 bif(v2 != 0)then
  v2
 else
  bif((decide (an.kind<1))||(decide (an.kind>7)))then
   7
  else
   bif((decide (an.e5<0))||(decide (an.e5>1099511627776)))then
    2
   else
    bif(!(vL an))then
     1
    else
     let aL:Bool→Int:=fun v12=>
      bif v12 then
       (Ce x0 an)
      else
       bif(an.kind==3)then
        (Cg x0 an)
       else
        bif(an.kind==7)then
         bif(decide ((ByteArray.size an.text:Int)>20000))then
          3
         else
          0
        else
         bif(!(jU an.name))then
          10
         else
          0
     let v12:=an.kind==1
     bif v12 then
      aL v12
     else
      aL (an.kind==2)
def Cd(x0:Home)(an:aT):Prop:=
 let v2:=pF x0
 (Cc x0)∧
 ((v2 != 0)=false→(
  (((decide (an.kind<1))||(decide (an.kind>7)))=false→(
   (((decide (an.e5<0))||(decide (an.e5>1099511627776)))=false→(
    ((!(vL an))=false→(
     let aL:Bool→Prop:=fun v12=>
      (v12=true→(
       GO x0 an))∧(v12=false→(
       ((an.kind==3)=true→(
        GQ x0 an))∧((an.kind==3)=false→(
        ((an.kind==7)=false→(
         pB an.name))))))
     let v12:=an.kind==1
     (v12=true→(
      aL v12))∧(v12=false→(
      aL (an.kind==2)))))))))))
noncomputable def Qx(x0:ByteArray):Int:=
 let v1:Int:=(ByteArray.size x0:Int)
 Sum.elim (fun r=>r) (fun bl=>
  bl)
 (bq (fun(i3:Nat) (aY:Int)=>
  show Step (Int) (Int)from
  .bn (IntKind.wrap .u64 ((bL .xor .u64 aY (IntKind.wrap .u64 (ez x0 (i3:Int))))*(1099511628211:Int)))) 0 (Int.toNat v1) 14695981039346656037:Int⊕(Int))
def GY(x0:ByteArray):Prop:=
 let v1:Int:=(ByteArray.size x0:Int)
 0≤v1∧v1<(9223372036854775808:Int)
noncomputable def HB(x0:Int)(an:ByteArray):Int:=
 let dv:List Int:=([(IntKind.wrap .u8 (bL .shr .u64 x0 (56:Int))),(IntKind.wrap .u8 (bL .shr .u64 x0 (48:Int))),(IntKind.wrap .u8 (bL .shr .u64 x0 (40:Int))),(IntKind.wrap .u8 (bL .shr .u64 x0 (32:Int))),(IntKind.wrap .u8 (bL .shr .u64 x0 (24:Int))),(IntKind.wrap .u8 (bL .shr .u64 x0 (16:Int))),(IntKind.wrap .u8 (bL .shr .u64 x0 (8:Int))),(IntKind.wrap .u8 (bL .shr .u64 x0 (0:Int)))]:List Int)
 let cw:=bytesOf dv
 (IntKind.wrap .i64 (bL .shr .u64 (Qx (ByteArray.append (ByteArray.append cw an) cw)) (32:Int)))
def Cj(x0:Int)(an:ByteArray):Prop:=
 let dv:List Int:=([(IntKind.wrap .u8 (bL .shr .u64 x0 (56:Int))),(IntKind.wrap .u8 (bL .shr .u64 x0 (48:Int))),(IntKind.wrap .u8 (bL .shr .u64 x0 (40:Int))),(IntKind.wrap .u8 (bL .shr .u64 x0 (32:Int))),(IntKind.wrap .u8 (bL .shr .u64 x0 (24:Int))),(IntKind.wrap .u8 (bL .shr .u64 x0 (16:Int))),(IntKind.wrap .u8 (bL .shr .u64 x0 (8:Int))),(IntKind.wrap .u8 (bL .shr .u64 x0 (0:Int)))]:List Int)
 let cw:=bytesOf dv
 let v20:=ByteArray.append cw an
 (ByteArray.size cw+ByteArray.size an≤9223372036854775807)∧
 let v21:=ByteArray.append v20 cw
 (ByteArray.size v20+ByteArray.size cw≤9223372036854775807)∧
 GY v21
noncomputable def pI(x0:Int)(an:ByteArray):ByteArray × Int:=
 let v2:Int:=(ByteArray.size an:Int)
 bif(decide (v2<4))then
  (⟨#[]⟩,5)
 else
  let v5:=np an none (some (IntKind.wrap .i64 (v2-(4:Int))))
  let v6:=HB x0 v5
  let cP:List Int:=([(IntKind.wrap .u8 (bL .shr .i64 v6 (24:Int))),(IntKind.wrap .u8 (bL .shr .i64 v6 (16:Int))),(IntKind.wrap .u8 (bL .shr .i64 v6 (8:Int))),(IntKind.wrap .u8 (bL .shr .i64 v6 (0:Int)))]:List Int)
  bif(cO .neq (np an (some (ByteArray.size v5:Int)) none) (bytesOf cP))then
   (⟨#[]⟩,6)
  else
   (v5,0)
def GZ(x0:Int)(an:ByteArray):Prop:=
 let v2:Int:=(ByteArray.size an:Int)
 ((decide (v2<4))=false→(
  let v4:Int:=IntKind.wrap .i64 (v2-(4:Int))
  let v5:=np an none (some v4)
  (jD (ByteArray.size an) none (some v4))∧
  let _:=HB x0 v5
  (Cj x0 v5)∧
  let dQ:Int:=(ByteArray.size v5:Int)
  jD (ByteArray.size an) (some dQ) none))
noncomputable def Qy(x0:eO):Int:=
 bif(!(iq x0.fc))then
  10
 else
  bif(((((decide (x0.id<1))||(decide (x0.id>1099511627776)))||(decide (x0.ow<0)))||(decide (x0.ow>x0.ox)))||(decide (x0.ox>1099511627776)))then
   2
  else
   bif(decide ((IntKind.wrap .i64 (x0.ox-x0.ow))>43200))then
    3
   else
    0
def Qz(x0:eO):Prop:=
 nj x0.fc
noncomputable def HC(x0:Int)(an:ByteArray):eO × Int:=
 let v2:=om an
 bif(v2.2 != 0)then
  (⟨⟨#[]⟩,0,0,0⟩,v2.2)
 else
  let v6:=pI x0 v2.1
  bif(v6.2 != 0)then
   (⟨⟨#[]⟩,0,0,0⟩,v6.2)
  else
   let v10:=iJ ⟨v6.1,0,true⟩ (24:Int)
   let bS:=gV v10.1
   let cJ:=gV bS.1
   let cw:=gV cJ.1
   let v22:=CM cw.1
   let aL:Int→eO × Int:=fun v25=>
    bif(v25 != 0)then
     (⟨⟨#[]⟩,0,0,0⟩,v25)
    else
     (⟨v10.2,bS.2,cJ.2,cw.2⟩,0)
   bif(v22.2==0)then
    aL (Qy ⟨v10.2,bS.2,cJ.2,cw.2⟩)
   else
    aL v22.2
def G0(x0:Int)(an:ByteArray):Prop:=
 let v2:=om an
 (Ci an)∧
 ((v2.2 != 0)=false→(
  let v6:=pI x0 v2.1
  (GZ x0 v2.1)∧
  ((v6.2 != 0)=false→(
   let v10:=iJ ⟨v6.1,0,true⟩ (24:Int)
   (rV ⟨v6.1,0,true⟩ (24:Int))∧
   let bS:=gV v10.1
   (ni v10.1)∧
   let cJ:=gV bS.1
   (ni bS.1)∧
   let cw:=gV cJ.1
   (ni cJ.1)∧
   let v22:=CM cw.1
   ((v22.2==0)=true→(
    Qz ⟨v10.2,bS.2,cJ.2,cw.2⟩))))))
noncomputable def QA(x0:List Int)(an:Int):Int:=
 let v2:Int:=(List.length x0:Int)
 Sum.elim (fun r=>r) (fun _=>
  (-1))
 (bq (fun(i3:Nat) (_:Unit)=>
  show Step (Int) (Unit)from
  bif(an==(List.getD x0 (Int.toNat (i3:Int)) (av .i64)))then
   .ret (i3:Int)
  else
   .bn ()) 0 (Int.toNat v2) ():Int⊕(Unit))
noncomputable def QB(x0:List Int)(an:Int):Bool:=
 (decide ((QA x0 an)≥0))
noncomputable def lh(x0:Int)(an:ByteArray)(aH:Int)(aX:List Int):eO × Int:=
 let v4:=HC x0 an
 let aL:Int→eO × Int:=fun bD=>
  (⟨⟨#[]⟩,0,0,0⟩,bD)
 bif(v4.2 != 0)then
  aL v4.2
 else
  bif((decide (aH<v4.1.ow))||(decide (aH≥v4.1.ox)))then
   aL (17:Int)
  else
   bif(QB aX v4.1.id)then
    aL (16:Int)
   else
    (v4.1,0)
def G1(x0:Int)(an:ByteArray)(_:Int)(_:List Int):Prop:=
 let _:=HC x0 an
 G0 x0 an
noncomputable def za(x0:eZ):Bool:=
 (((decide (0≤x0.from_))&&(decide (x0.from_<x0.v7)))&&(decide (x0.v7≤10080)))
noncomputable def HD(x0:List eZ):Int:=
 let v1:Int:=(List.length x0:Int)
 bif(decide (v1>256))then
  3
 else
  Sum.elim (fun r=>r) (fun _=>
   0)
  (bq (fun(i3:Nat) (_:Unit)=>
   show Step (Int) (Unit)from
   let v5:eZ:=List.getD x0 (Int.toNat (i3:Int)) (av .eZ)
   bif(!(za v5))then
    .ret 2
   else
    .bn ()) 0 (Int.toNat v1) ():Int⊕(Unit))
noncomputable def HE(x0:Home)(an:List cC)(aH:Int):Int:=
 let v3:cC:=List.getD an (Int.toNat aH) (av .cC)
 bif(!(iq v3.name))then
  10
 else
  let v6:=iL an none (some aH)
  let bP:Int→Int:=fun bD=>
   bif(decide (bD≥0))then
    9
   else
    bif((decide (v3.role<1))||(decide (v3.role>4)))then
     2
    else
     let v12:=HD v3.mD
     bif(v12 != 0)then
      v12
     else
      let cw:Int:=(List.length v3.fZ:Int)
      bif((cD.den (.kI true) (v3.role==1) (decide ((List.length v3.mD:Int)>0)))||((decide (v3.role≥3))&&(decide (cw>0))))then
       4
      else
       bif(decide (cw>256))then
        3
       else
        Sum.elim (fun r=>r) (fun _=>
         0)
        (bq (fun(i24:Nat) (_:Unit)=>
         show Step (Int) (Unit)from
         let v26:ByteArray:=List.getD v3.fZ (Int.toNat (i24:Int)) (av .str)
         bif(!(iq v26))then
          .ret 10
         else
          let bP:Int→Step (Int) (Unit):=fun hs=>
           bif(!(decide (hs≥0)))then
            .ret 8
           else
            .bn ()
          let hs:Int:=(List.length x0.bs:Int)
          Sum.elim (fun r=>r) (fun _=>
           bP ((-1):Int))
          (bq (fun(i30:Nat) (_:Unit)=>
           show Step (Step (Int) (Unit)) (Unit)from
           bif(cO .eql ((List.getD x0.bs (Int.toNat (i30:Int)) (av .bx)).room) v26)then
            .ret (bP (i30:Int))
           else
            .bn ()) 0 (Int.toNat hs) ():(Step (Int) (Unit))⊕(Unit))) 0 (Int.toNat cw) ():Int⊕(Unit))
  let bD:Int:=(List.length v6:Int)
  Sum.elim (fun r=>r) (fun _=>
   bP ((-1):Int))
  (bq (fun(i8:Nat) (_:Unit)=>
   show Step (Int) (Unit)from
   bif(cO .eql ((List.getD v6 (Int.toNat (i8:Int)) (av .cC)).name) v3.name)then
    .ret (bP (i8:Int))
   else
    .bn ()) 0 (Int.toNat bD) ():Int⊕(Unit))
def Co(x0:Home)(an:List cC)(aH:Int):Prop:=
 let v3:cC:=List.getD an (Int.toNat aH) (av .cC)
 (0≤aH∧aH<(List.length an:Int))∧
 (nj v3.name)∧
 ((!(iq v3.name))=false→(
  let v6:=iL an none (some aH)
  (jD (List.length an) none (some aH))∧
  let bP:Int→Prop:=fun bD=>
   ((decide (bD≥0))=false→(
    (((decide (v3.role<1))||(decide (v3.role>4)))=false→(
     let v12:=HD v3.mD
     ((v12 != 0)=false→(
      let cw:Int:=(List.length v3.fZ:Int)
      (((cD.den (.kI true) (v3.role==1) (decide ((List.length v3.mD:Int)>0)))||((decide (v3.role≥3))&&(decide (cw>0))))=false→(
       ((decide (cw>256))=false→(
        ∃bA:Nat→(Unit)→Prop,bA 0 ()∧∀(i24:Nat) (d0:Unit),i24<Int.toNat cw→bA i24 d0→(
         let v26:ByteArray:=List.getD v3.fZ (Int.toNat (i24:Int)) (av .str)
         (nj v26)∧
         ((!(iq v26))=false→(
          let bP:Int→Prop:=fun hs=>
           ((!(decide (hs≥0)))=false→(
            bA (i24+1) ()))
          let hs:Int:=(List.length x0.bs:Int)
          let eP:Unit→Prop:=fun _=>
           bP ((-1):Int)
          ∃dw:Nat→(Unit)→Prop,dw 0 ()∧(∀(i30:Nat) (d1:Unit),i30<Int.toNat hs→dw i30 d1→(
           ((cO .eql ((List.getD x0.bs (Int.toNat (i30:Int)) (av .bx)).room) v26)=true→(
            bP (i30:Int)))∧((cO .eql ((List.getD x0.bs (Int.toNat (i30:Int)) (av .bx)).room) v26)=false→(
            dw (i30+1) ()))))∧∀aY,dw (Int.toNat hs) aY→eP aY)))))))))))))
  let bD:Int:=(List.length v6:Int)
  let fx:Unit→Prop:=fun _=>
   bP ((-1):Int)
  ∃ix:Nat→(Unit)→Prop,ix 0 ()∧(∀(i8:Nat) (d2:Unit),i8<Int.toNat bD→ix i8 d2→(
   ((cO .eql ((List.getD v6 (Int.toNat (i8:Int)) (av .cC)).name) v3.name)=true→(
    bP (i8:Int)))∧((cO .eql ((List.getD v6 (Int.toNat (i8:Int)) (av .cC)).name) v3.name)=false→(
    ix (i8+1) ()))))∧∀bW,ix (Int.toNat bD) bW→fx bW))
noncomputable def QC(x0:cC):Bool:=
 (x0.role==4)
noncomputable def HF(x0:Home)(an:List cC):Int:=
 let v2:=fj x0
 bif(v2 != 0)then
  v2
 else
  let v6:Int:=(List.length an:Int)
  bif((decide ((List.length an:Int)<1))||(decide (v6>16)))then
   3
  else
   Sum.elim (fun r=>r) (fun _=>
    let bP:Int→Int:=fun v9=>
     bif(!(decide (v9≥0)))then
      8
     else
      0
    Sum.elim (fun r=>r) (fun _=>
     bP ((-1):Int))
    (bq (fun(i9:Nat) (_:Unit)=>
     show Step (Int) (Unit)from
     let v11:cC:=List.getD an (Int.toNat (i9:Int)) (av .cC)
     bif(QC v11)then
      .ret (bP (i9:Int))
     else
      .bn ()) 0 (Int.toNat v6) ():Int⊕(Unit)))
   (bq (fun(i9:Nat) (_:Unit)=>
    show Step (Int) (Unit)from
    let v11:=HE x0 an (i9:Int)
    bif(v11 != 0)then
     .ret v11
    else
     .bn ()) 0 (Int.toNat v6) ():Int⊕(Unit))
def G4(x0:Home)(an:List cC):Prop:=
 let v2:=fj x0
 (yt x0)∧
 ((v2 != 0)=false→(
  let v6:Int:=(List.length an:Int)
  (((decide ((List.length an:Int)<1))||(decide (v6>16)))=false→(
   ∃bA:Nat→(Unit)→Prop,bA 0 ()∧∀(i9:Nat) (d0:Unit),i9<Int.toNat v6→bA i9 d0→(
    let v11:=HE x0 an (i9:Int)
    (Co x0 an (i9:Int))∧
    ((v11 != 0)=false→(
     bA (i9+1) ())))))))
def QD(x:List eZ):List eZ:=x
def G6(x:List eZ):Prop:=x.length≤maxLen∧x.length*16≤140737488355328
noncomputable def HG(x0:List cC)(an:ByteArray):cC × Bool:=
 let v2:Int:=(List.length x0:Int)
 Sum.elim (fun r=>r) (fun _=>
  (⟨⟨#[]⟩,0,[],[],false⟩,false))
 (bq (fun(i3:Nat) (_:Unit)=>
  show Step (cC × Bool) (Unit)from
  let v5:cC:=List.getD x0 (Int.toNat (i3:Int)) (av .cC)
  bif(cO .eql v5.name an)then
   .ret (⟨v5.name,v5.role,(QD v5.mD),(CN v5.fZ),v5.home⟩,true)
  else
   .bn ()) 0 (Int.toNat v2) ():(cC × Bool)⊕(Unit))
def G5(x0:List cC)(an:ByteArray):Prop:=
 let v2:Int:=(List.length x0:Int)
 ∃bA:Nat→(Unit)→Prop,bA 0 ()∧∀(i3:Nat) (d0:Unit),i3<Int.toNat v2→bA i3 d0→(
  let v5:cC:=List.getD x0 (Int.toNat (i3:Int)) (av .cC)
  ((cO .eql v5.name an)=true→(
   (G6 v5.mD)∧
   vF v5.fZ))∧((cO .eql v5.name an)=false→(
   bA (i3+1) ())))
noncomputable def oy(x0:Home)(an:Int):ByteArray:=
 let v2:=lW x0 an
 v2.1.room
def qK(x0:Home)(an:Int):Prop:=
 let _:=lW x0 an
 yu x0 an
noncomputable def CO(x0:Home)(an:cB):Bool:=
 let v2:=tJ x0 an
 (v2.2&&v2.1.safety)
def Cq(x0:Home)(an:cB):Prop:=
 let _:=tJ x0 an
 B0 x0 an
noncomputable def HH(x0:Home)(an:Int):(List cB):=
 let v2:=lW x0 an
 let v6:Int:=(List.length v2.1.bB:Int)
 Sum.elim (fun r=>r) (fun bl=>
  bl)
 (bq (fun(i8:Nat) (aY:(List cB))=>
  show Step ((List cB)) ((List cB))from
  let v10:ByteArray:=List.getD v2.1.bB (Int.toNat (i8:Int)) (av .str)
  let v11:aA:=(jE (.str) (kn x0) v10).getD (av .aA)
  let v12:Int:=(List.length v11.attrs:Int)
  Sum.elim (fun r=>r) (fun bW=>
   .bn bW)
  (bq (fun(i14:Nat) (cK:(List cB))=>
   show Step (Step ((List cB)) ((List cB))) ((List cB))from
   .bn (List.append cK ([⟨an,v10,(List.getD v11.attrs (Int.toNat (i14:Int)) (av .Attr)).name⟩]:List cB))) 0 (Int.toNat v12) aY:(Step ((List cB)) ((List cB)))⊕((List cB)))) 0 (Int.toNat v6) []:(List cB)⊕((List cB)))
def G7(x0:Home)(an:Int):Prop:=
 let v2:=lW x0 an
 (yu x0 an)∧
 let v6:Int:=(List.length v2.1.bB:Int)
 ∃bA:Nat→((List cB))→Prop,bA 0 []∧∀(i8:Nat) (d0:(List cB)),i8<Int.toNat v6→bA i8 d0→(
  let v10:ByteArray:=List.getD v2.1.bB (Int.toNat (i8:Int)) (av .str)
  let v11:aA:=(jE (.str) (kn x0) v10).getD (av .aA)
  let v12:Int:=(List.length v11.attrs:Int)
  let eP:(List cB)→Prop:=fun aY=>
   bA (i8+1) aY
  ∃dw:Nat→((List cB))→Prop,dw 0 d0∧(∀(i14:Nat) (d1:(List cB)),i14<Int.toNat v12→dw i14 d1→(
   let cP:List cB:=([⟨an,v10,(List.getD v11.attrs (Int.toNat (i14:Int)) (av .Attr)).name⟩]:List cB)
   (List.length d1+List.length cP≤maxLen∧(List.length d1+List.length cP)*40≤140737488355328)∧
   dw (i14+1) (List.append d1 cP)))∧∀aY,dw (Int.toNat v12) aY→eP aY)
noncomputable def CP(x0:Home)(an:aT):Bool:=
 bif(an.kind==2)then
  (CO x0 ⟨an.key.dev,an.key.cG,an.key.attr⟩)
 else
  let v3:=HH x0 an.key.dev
  let eE:Int→Bool:=fun v4=>
   (decide (v4≥0))
  let v4:Int:=(List.length v3:Int)
  Sum.elim (fun r=>r) (fun _=>
   eE ((-1):Int))
  (bq (fun(i5:Nat) (_:Unit)=>
   show Step (Bool) (Unit)from
   let bD:cB:=List.getD v3 (Int.toNat (i5:Int)) (av .cB)
   let br:=cO .eql bD.cG an.key.cG
   let aL:Bool→Step (Bool) (Unit):=fun v9=>
    bif(br&&v9)then
     .ret (eE (i5:Int))
    else
     .bn ()
   bif br then
    aL (CO x0 bD)
   else
    aL false) 0 (Int.toNat v4) ():Bool⊕(Unit))
def vQ(x0:Home)(an:aT):Prop:=
 ((an.kind==2)=true→(
  Cq x0 ⟨an.key.dev,an.key.cG,an.key.attr⟩))∧((an.kind==2)=false→(
  let v3:=HH x0 an.key.dev
  (G7 x0 an.key.dev)∧
  let v4:Int:=(List.length v3:Int)
  ∃bA:Nat→(Unit)→Prop,bA 0 ()∧∀(i5:Nat) (d0:Unit),i5<Int.toNat v4→bA i5 d0→(
   let bD:cB:=List.getD v3 (Int.toNat (i5:Int)) (av .cB)
   let br:=cO .eql bD.cG an.key.cG
   let aL:Bool→Prop:=fun v9=>
    ((br&&v9)=false→(
     bA (i5+1) ()))
   (br=true→(
    (Cq x0 bD)∧
    aL (CO x0 bD)))∧(br=false→(
    aL false)))))
noncomputable def QE(x0:Home)(an:cC)(aH:Int)(aX:aT):Int:=
 bif((decide (aX.kind<1))||(decide (aX.kind>7)))then
  7
 else
  bif(an.role==1)then
   let br:=decide (aH≥0)
   let eE:Bool→Int:=fun v9=>
    bif(!(br&&v9))then
     17
    else
     let jG:Int→Int:=fun v12=>
      bif(decide (0<v12))then
       16
      else
       0
     let aL:Bool→Int:=fun v12=>
      bif v12 then
       let eE:Int→Int:=fun eY=>
        eY
       let bP:Int→Int:=fun eY=>
        bif(!(decide (eY≥0)))then
         eE (8:Int)
        else
         let dv:=decide ((List.length an.fZ:Int)>0)
         let aL:ByteArray→Int:=fun cw=>
          let aL:Bool→Int:=fun v20=>
           bif(dv&&(!v20))then
            eE (16:Int)
           else
            bif(CP x0 aX)then
             eE (16:Int)
            else
             eE (0:Int)
          bif dv then
           aL (iK an.fZ cw)
          else
           aL false
         bif dv then
          aL (oy x0 aX.key.dev)
         else
          aL (⟨#[]⟩:ByteArray)
       let eY:Int:=(List.length x0.bs:Int)
       Sum.elim (fun r=>r) (fun _=>
        bP ((-1):Int))
       (bq (fun(i15:Nat) (_:Unit)=>
        show Step (Int) (Unit)from
        bif(((List.getD x0.bs (Int.toNat (i15:Int)) (av .bx)).id)==aX.key.dev)then
         .ret (bP (i15:Int))
        else
         .bn ()) 0 (Int.toNat eY) ():Int⊕(Unit))
      else
       bif(aX.kind==4)then
        jG (1:Int)
       else
        bif(aX.kind==5)then
         jG (2:Int)
        else
         let aL:Bool→Int:=fun cJ=>
          bif cJ then
           jG (3:Int)
          else
           jG (0:Int)
         let cJ:=aX.kind==6
         bif cJ then
          aL cJ
         else
          aL (aX.kind==7)
     let v12:=aX.kind==2
     bif v12 then
      aL v12
     else
      aL (aX.kind==3)
   bif br then
    let bP:Bool→Int:=fun v9=>
     eE v9
    let v9:Int:=bL .rem .i64 aH (10080:Int)
    let aL:Int→Int:=fun v10=>
     let v12:Int:=(List.length an.mD:Int)
     Sum.elim (fun r=>r) (fun _=>
      bP false)
     (bq (fun(i13:Nat) (_:Unit)=>
      show Step (Int) (Unit)from
      let dQ:eZ:=List.getD an.mD (Int.toNat (i13:Int)) (av .eZ)
      bif(((za dQ)&&(decide (dQ.from_≤v10)))&&(decide (v10<dQ.v7)))then
       .ret (bP true)
      else
       .bn ()) 0 (Int.toNat v12) ():Int⊕(Unit))
    bif(decide (v9<0))then
     aL (IntKind.wrap .i64 (v9+(10080:Int)))
    else
     aL v9
   else
    eE false
  else
   bif(an.role==2)then
    bif !true then
     17
    else
     let jG:Int→Int:=fun v10=>
      bif(decide (1<v10))then
       16
      else
       0
     bif(aX.kind==2)then
      let eE:Int→Int:=fun v11=>
       v11
      let bP:Int→Int:=fun v11=>
       bif(!(decide (v11≥0)))then
        eE (8:Int)
       else
        let dQ:=decide ((List.length an.fZ:Int)>0)
        let aL:ByteArray→Int:=fun cJ=>
         let aL:Bool→Int:=fun cP=>
          bif(dQ&&(!cP))then
           eE (16:Int)
          else
           bif(CP x0 aX)then
            eE (16:Int)
           else
            eE (0:Int)
         bif dQ then
          aL (iK an.fZ cJ)
         else
          aL false
        bif dQ then
         aL (oy x0 aX.key.dev)
        else
         aL (⟨#[]⟩:ByteArray)
      let v11:Int:=(List.length x0.bs:Int)
      Sum.elim (fun r=>r) (fun _=>
       bP ((-1):Int))
      (bq (fun(i12:Nat) (_:Unit)=>
       show Step (Int) (Unit)from
       bif(((List.getD x0.bs (Int.toNat (i12:Int)) (av .bx)).id)==aX.key.dev)then
        .ret (bP (i12:Int))
       else
        .bn ()) 0 (Int.toNat v11) ():Int⊕(Unit))
     else
      bif(aX.kind==3)then
       let eE:Int→Int:=fun v12=>
        v12
       let bP:Int→Int:=fun v12=>
        bif(!(decide (v12≥0)))then
         eE (8:Int)
        else
         let cJ:=decide ((List.length an.fZ:Int)>0)
         let aL:ByteArray→Int:=fun cP=>
          let aL:Bool→Int:=fun dv=>
           bif(cJ&&(!dv))then
            eE (16:Int)
           else
            bif(CP x0 aX)then
             eE (16:Int)
            else
             eE (0:Int)
          bif cJ then
           aL (iK an.fZ cP)
          else
           aL false
         bif cJ then
          aL (oy x0 aX.key.dev)
         else
          aL (⟨#[]⟩:ByteArray)
       let v12:Int:=(List.length x0.bs:Int)
       Sum.elim (fun r=>r) (fun _=>
        bP ((-1):Int))
       (bq (fun(i13:Nat) (_:Unit)=>
        show Step (Int) (Unit)from
        bif(((List.getD x0.bs (Int.toNat (i13:Int)) (av .bx)).id)==aX.key.dev)then
         .ret (bP (i13:Int))
        else
         .bn ()) 0 (Int.toNat v12) ():Int⊕(Unit))
      else
       bif(aX.kind==4)then
        jG (1:Int)
       else
        bif(aX.kind==5)then
         jG (2:Int)
        else
         let aL:Bool→Int:=fun eY=>
          bif eY then
           jG (3:Int)
          else
           jG (0:Int)
         let eY:=aX.kind==6
         bif eY then
          aL eY
         else
          aL (aX.kind==7)
   else
    bif(an.role==3)then
     bif !true then
      17
     else
      let jG:Int→Int:=fun v11=>
       bif(decide (2<v11))then
        16
       else
        0
      bif(aX.kind==2)then
       let eE:Int→Int:=fun v12=>
        v12
       let bP:Int→Int:=fun v12=>
        bif(!(decide (v12≥0)))then
         eE (8:Int)
        else
         let cJ:=decide ((List.length an.fZ:Int)>0)
         let aL:ByteArray→Int:=fun cP=>
          let aL:Bool→Int:=fun dv=>
           bif(cJ&&(!dv))then
            eE (16:Int)
           else
            eE (0:Int)
          bif cJ then
           aL (iK an.fZ cP)
          else
           aL false
         bif cJ then
          aL (oy x0 aX.key.dev)
         else
          aL (⟨#[]⟩:ByteArray)
       let v12:Int:=(List.length x0.bs:Int)
       Sum.elim (fun r=>r) (fun _=>
        bP ((-1):Int))
       (bq (fun(i13:Nat) (_:Unit)=>
        show Step (Int) (Unit)from
        bif(((List.getD x0.bs (Int.toNat (i13:Int)) (av .bx)).id)==aX.key.dev)then
         .ret (bP (i13:Int))
        else
         .bn ()) 0 (Int.toNat v12) ():Int⊕(Unit))
      else
       bif(aX.kind==3)then
        let eE:Int→Int:=fun bS=>
         bS
        let bP:Int→Int:=fun bS=>
         bif(!(decide (bS≥0)))then
          eE (8:Int)
         else
          let cP:=decide ((List.length an.fZ:Int)>0)
          let aL:ByteArray→Int:=fun dv=>
           let aL:Bool→Int:=fun cw=>
            bif(cP&&(!cw))then
             eE (16:Int)
            else
             eE (0:Int)
           bif cP then
            aL (iK an.fZ dv)
           else
            aL false
          bif cP then
           aL (oy x0 aX.key.dev)
          else
           aL (⟨#[]⟩:ByteArray)
        let bS:Int:=(List.length x0.bs:Int)
        Sum.elim (fun r=>r) (fun _=>
         bP ((-1):Int))
        (bq (fun(i14:Nat) (_:Unit)=>
         show Step (Int) (Unit)from
         bif(((List.getD x0.bs (Int.toNat (i14:Int)) (av .bx)).id)==aX.key.dev)then
          .ret (bP (i14:Int))
         else
          .bn ()) 0 (Int.toNat bS) ():Int⊕(Unit))
       else
        bif(aX.kind==4)then
         jG (1:Int)
        else
         bif(aX.kind==5)then
          jG (2:Int)
         else
          let aL:Bool→Int:=fun dQ=>
           bif dQ then
            jG (3:Int)
           else
            jG (0:Int)
          let dQ:=aX.kind==6
          bif dQ then
           aL dQ
          else
           aL (aX.kind==7)
    else
     bif !true then
      17
     else
      let jG:Int→Int:=fun v11=>
       bif(decide (3<v11))then
        16
       else
        0
      bif(aX.kind==2)then
       let eE:Int→Int:=fun v12=>
        v12
       let bP:Int→Int:=fun v12=>
        bif(!(decide (v12≥0)))then
         eE (8:Int)
        else
         let cJ:=decide ((List.length an.fZ:Int)>0)
         let aL:ByteArray→Int:=fun cP=>
          let aL:Bool→Int:=fun dv=>
           bif(cJ&&(!dv))then
            eE (16:Int)
           else
            eE (0:Int)
          bif cJ then
           aL (iK an.fZ cP)
          else
           aL false
         bif cJ then
          aL (oy x0 aX.key.dev)
         else
          aL (⟨#[]⟩:ByteArray)
       let v12:Int:=(List.length x0.bs:Int)
       Sum.elim (fun r=>r) (fun _=>
        bP ((-1):Int))
       (bq (fun(i13:Nat) (_:Unit)=>
        show Step (Int) (Unit)from
        bif(((List.getD x0.bs (Int.toNat (i13:Int)) (av .bx)).id)==aX.key.dev)then
         .ret (bP (i13:Int))
        else
         .bn ()) 0 (Int.toNat v12) ():Int⊕(Unit))
      else
       bif(aX.kind==3)then
        let eE:Int→Int:=fun bS=>
         bS
        let bP:Int→Int:=fun bS=>
         bif(!(decide (bS≥0)))then
          eE (8:Int)
         else
          let cP:=decide ((List.length an.fZ:Int)>0)
          let aL:ByteArray→Int:=fun dv=>
           let aL:Bool→Int:=fun cw=>
            bif(cP&&(!cw))then
             eE (16:Int)
            else
             eE (0:Int)
           bif cP then
            aL (iK an.fZ dv)
           else
            aL false
          bif cP then
           aL (oy x0 aX.key.dev)
          else
           aL (⟨#[]⟩:ByteArray)
        let bS:Int:=(List.length x0.bs:Int)
        Sum.elim (fun r=>r) (fun _=>
         bP ((-1):Int))
        (bq (fun(i14:Nat) (_:Unit)=>
         show Step (Int) (Unit)from
         bif(((List.getD x0.bs (Int.toNat (i14:Int)) (av .bx)).id)==aX.key.dev)then
          .ret (bP (i14:Int))
         else
          .bn ()) 0 (Int.toNat bS) ():Int⊕(Unit))
       else
        bif(aX.kind==4)then
         jG (1:Int)
        else
         bif(aX.kind==5)then
          jG (2:Int)
         else
          let aL:Bool→Int:=fun dQ=>
           bif dQ then
            jG (3:Int)
           else
            jG (0:Int)
          let dQ:=aX.kind==6
          bif dQ then
           aL dQ
          else
           aL (aX.kind==7)
def Cr(x0:Home)(an:cC)(aH:Int)(aX:aT):Prop:=
 (((decide (aX.kind<1))||(decide (aX.kind>7)))=false→(
  ((an.role==1)=true→(
   let br:=decide (aH≥0)
   let eE:Bool→Prop:=fun v9=>
    ((!(br&&v9))=false→(
     let aL:Bool→Prop:=fun v12=>
      (v12=true→(
       let bP:Int→Prop:=fun eY=>
        ((!(decide (eY≥0)))=false→(
         let dv:=decide ((List.length an.fZ:Int)>0)
         let aL:ByteArray→Prop:=fun cw=>
          let aL:Bool→Prop:=fun v20=>
           ((dv&&(!v20))=false→(
            vQ x0 aX))
          (dv=true→(
           aL (iK an.fZ cw)))∧(dv=false→(
           aL false))
         (dv=true→(
          (qK x0 aX.key.dev)∧
          aL (oy x0 aX.key.dev)))∧(dv=false→(
          aL (⟨#[]⟩:ByteArray)))))
       let eY:Int:=(List.length x0.bs:Int)
       let a1:Unit→Prop:=fun _=>
        bP ((-1):Int)
       ∃bA:Nat→(Unit)→Prop,bA 0 ()∧(∀(i15:Nat) (d0:Unit),i15<Int.toNat eY→bA i15 d0→(
        ((((List.getD x0.bs (Int.toNat (i15:Int)) (av .bx)).id)==aX.key.dev)=true→(
         bP (i15:Int)))∧((((List.getD x0.bs (Int.toNat (i15:Int)) (av .bx)).id)==aX.key.dev)=false→(
         bA (i15+1) ()))))∧∀bl,bA (Int.toNat eY) bl→a1 bl))
     let v12:=aX.kind==2
     (v12=true→(
      aL v12))∧(v12=false→(
      aL (aX.kind==3)))))
   (br=true→(
    let bP:Bool→Prop:=fun v9=>
     eE v9
    let v9:Int:=bL .rem .i64 aH (10080:Int)
    let aL:Int→Prop:=fun v10=>
     let v12:Int:=(List.length an.mD:Int)
     let eP:Unit→Prop:=fun _=>
      bP false
     ∃dw:Nat→(Unit)→Prop,dw 0 ()∧(∀(i13:Nat) (d1:Unit),i13<Int.toNat v12→dw i13 d1→(
      let dQ:eZ:=List.getD an.mD (Int.toNat (i13:Int)) (av .eZ)
      ((((za dQ)&&(decide (dQ.from_≤v10)))&&(decide (v10<dQ.v7)))=true→(
       bP true))∧((((za dQ)&&(decide (dQ.from_≤v10)))&&(decide (v10<dQ.v7)))=false→(
       dw (i13+1) ()))))∧∀aY,dw (Int.toNat v12) aY→eP aY
    ((decide (v9<0))=true→(
     aL (IntKind.wrap .i64 (v9+(10080:Int)))))∧((decide (v9<0))=false→(
     aL v9))))∧(br=false→(
    eE false))))∧((an.role==1)=false→(
   ((an.role==2)=true→(
    ((!true)=false→(
     ((aX.kind==2)=true→(
      let bP:Int→Prop:=fun v11=>
       ((!(decide (v11≥0)))=false→(
        let dQ:=decide ((List.length an.fZ:Int)>0)
        let aL:ByteArray→Prop:=fun cJ=>
         let aL:Bool→Prop:=fun cP=>
          ((dQ&&(!cP))=false→(
           vQ x0 aX))
         (dQ=true→(
          aL (iK an.fZ cJ)))∧(dQ=false→(
          aL false))
        (dQ=true→(
         (qK x0 aX.key.dev)∧
         aL (oy x0 aX.key.dev)))∧(dQ=false→(
         aL (⟨#[]⟩:ByteArray)))))
      let v11:Int:=(List.length x0.bs:Int)
      let fx:Unit→Prop:=fun _=>
       bP ((-1):Int)
      ∃ix:Nat→(Unit)→Prop,ix 0 ()∧(∀(i12:Nat) (d2:Unit),i12<Int.toNat v11→ix i12 d2→(
       ((((List.getD x0.bs (Int.toNat (i12:Int)) (av .bx)).id)==aX.key.dev)=true→(
        bP (i12:Int)))∧((((List.getD x0.bs (Int.toNat (i12:Int)) (av .bx)).id)==aX.key.dev)=false→(
        ix (i12+1) ()))))∧∀bW,ix (Int.toNat v11) bW→fx bW))∧((aX.kind==2)=false→(
      ((aX.kind==3)=true→(
       let bP:Int→Prop:=fun v12=>
        ((!(decide (v12≥0)))=false→(
         let cJ:=decide ((List.length an.fZ:Int)>0)
         let aL:ByteArray→Prop:=fun cP=>
          let aL:Bool→Prop:=fun dv=>
           ((cJ&&(!dv))=false→(
            vQ x0 aX))
          (cJ=true→(
           aL (iK an.fZ cP)))∧(cJ=false→(
           aL false))
         (cJ=true→(
          (qK x0 aX.key.dev)∧
          aL (oy x0 aX.key.dev)))∧(cJ=false→(
          aL (⟨#[]⟩:ByteArray)))))
       let v12:Int:=(List.length x0.bs:Int)
       let iv:Unit→Prop:=fun _=>
        bP ((-1):Int)
       ∃l0:Nat→(Unit)→Prop,l0 0 ()∧(∀(i13:Nat) (d3:Unit),i13<Int.toNat v12→l0 i13 d3→(
        ((((List.getD x0.bs (Int.toNat (i13:Int)) (av .bx)).id)==aX.key.dev)=true→(
         bP (i13:Int)))∧((((List.getD x0.bs (Int.toNat (i13:Int)) (av .bx)).id)==aX.key.dev)=false→(
         l0 (i13+1) ()))))∧∀cK,l0 (Int.toNat v12) cK→iv cK))))))))∧((an.role==2)=false→(
    ((an.role==3)=true→(
     ((!true)=false→(
      ((aX.kind==2)=true→(
       let bP:Int→Prop:=fun v12=>
        ((!(decide (v12≥0)))=false→(
         let cJ:=decide ((List.length an.fZ:Int)>0)
         (cJ=true→(
          qK x0 aX.key.dev))))
       let v12:Int:=(List.length x0.bs:Int)
       let lY:Unit→Prop:=fun _=>
        bP ((-1):Int)
       ∃CS:Nat→(Unit)→Prop,CS 0 ()∧(∀(i13:Nat) (d4:Unit),i13<Int.toNat v12→CS i13 d4→(
        ((((List.getD x0.bs (Int.toNat (i13:Int)) (av .bx)).id)==aX.key.dev)=true→(
         bP (i13:Int)))∧((((List.getD x0.bs (Int.toNat (i13:Int)) (av .bx)).id)==aX.key.dev)=false→(
         CS (i13+1) ()))))∧∀eo,CS (Int.toNat v12) eo→lY eo))∧((aX.kind==2)=false→(
       ((aX.kind==3)=true→(
        let bP:Int→Prop:=fun bS=>
         ((!(decide (bS≥0)))=false→(
          let cP:=decide ((List.length an.fZ:Int)>0)
          (cP=true→(
           qK x0 aX.key.dev))))
        let bS:Int:=(List.length x0.bs:Int)
        let zc:Unit→Prop:=fun _=>
         bP ((-1):Int)
        ∃CT:Nat→(Unit)→Prop,CT 0 ()∧(∀(i14:Nat) (d5:Unit),i14<Int.toNat bS→CT i14 d5→(
         ((((List.getD x0.bs (Int.toNat (i14:Int)) (av .bx)).id)==aX.key.dev)=true→(
          bP (i14:Int)))∧((((List.getD x0.bs (Int.toNat (i14:Int)) (av .bx)).id)==aX.key.dev)=false→(
          CT (i14+1) ()))))∧∀iw,CT (Int.toNat bS) iw→zc iw))))))))∧((an.role==3)=false→(
     ((!true)=false→(
      ((aX.kind==2)=true→(
       let bP:Int→Prop:=fun v12=>
        ((!(decide (v12≥0)))=false→(
         let cJ:=decide ((List.length an.fZ:Int)>0)
         (cJ=true→(
          qK x0 aX.key.dev))))
       let v12:Int:=(List.length x0.bs:Int)
       let ua:Unit→Prop:=fun _=>
        bP ((-1):Int)
       ∃CU:Nat→(Unit)→Prop,CU 0 ()∧(∀(i13:Nat) (d6:Unit),i13<Int.toNat v12→CU i13 d6→(
        ((((List.getD x0.bs (Int.toNat (i13:Int)) (av .bx)).id)==aX.key.dev)=true→(
         bP (i13:Int)))∧((((List.getD x0.bs (Int.toNat (i13:Int)) (av .bx)).id)==aX.key.dev)=false→(
         CU (i13+1) ()))))∧∀kp,CU (Int.toNat v12) kp→ua kp))∧((aX.kind==2)=false→(
       ((aX.kind==3)=true→(
        let bP:Int→Prop:=fun bS=>
         ((!(decide (bS≥0)))=false→(
          let cP:=decide ((List.length an.fZ:Int)>0)
          (cP=true→(
           qK x0 aX.key.dev))))
        let bS:Int:=(List.length x0.bs:Int)
        let wc:Unit→Prop:=fun _=>
         bP ((-1):Int)
        ∃CV:Nat→(Unit)→Prop,CV 0 ()∧(∀(i14:Nat) (d7:Unit),i14<Int.toNat bS→CV i14 d7→(
         ((((List.getD x0.bs (Int.toNat (i14:Int)) (av .bx)).id)==aX.key.dev)=true→(
          bP (i14:Int)))∧((((List.getD x0.bs (Int.toNat (i14:Int)) (av .bx)).id)==aX.key.dev)=false→(
          CV (i14+1) ()))))∧∀jF,CV (Int.toNat bS) jF→wc jF))))))))))))))
noncomputable def tN(x0:Home)(an:List cC)(aH:ByteArray)(aX:Int)(de:aT):Int:=
 let v5:=HF x0 an
 bif(v5 != 0)then
  v5
 else
  let bD:=HG an aH
  bif !bD.2 then
   8
  else
   (QE x0 bD.1 aX de)
def G8(x0:Home)(an:List cC)(aH:ByteArray)(aX:Int)(de:aT):Prop:=
 let v5:=HF x0 an
 (G4 x0 an)∧
 ((v5 != 0)=false→(
  let bD:=HG an aH
  (G5 an aH)∧
  ((!bD.2)=false→(
   Cr x0 bD.1 aX de))))
noncomputable def jV(x0:List cS)(an:ByteArray):Int × Bool:=
 let bP:Int→Int × Bool:=fun v2=>
  bif(decide (v2≥0))then
   (v2,true)
  else
   let bP:Int→Int × Bool:=fun v4=>
    let aL:Int→Int × Bool:=fun v5=>
     (v5,false)
    bif(decide (v4<0))then
     aL (List.length x0:Int)
    else
     aL v4
   let v4:Int:=(List.length x0:Int)
   Sum.elim (fun r=>r) (fun _=>
    bP ((-1):Int))
   (bq (fun(i5:Nat) (_:Unit)=>
    show Step (Int × Bool) (Unit)from
    bif(cO .gtr ((List.getD x0 (Int.toNat (i5:Int)) (av .cS)).fc) an)then
     .ret (bP (i5:Int))
    else
     .bn ()) 0 (Int.toNat v4) ():(Int × Bool)⊕(Unit))
 let v2:Int:=(List.length x0:Int)
 Sum.elim (fun r=>r) (fun _=>
  bP ((-1):Int))
 (bq (fun(i3:Nat) (_:Unit)=>
  show Step (Int × Bool) (Unit)from
  bif(cO .eql ((List.getD x0 (Int.toNat (i3:Int)) (av .cS)).fc) an)then
   .ret (bP (i3:Int))
  else
   .bn ()) 0 (Int.toNat v2) ():(Int × Bool)⊕(Unit))
noncomputable def HI:fp:=
 ⟨(-1),0⟩
noncomputable def yN(x0:fp):Int:=
 bif((x0.top==(-1))&&(x0.bits==0))then
  0
 else
  bif(((decide (x0.top<0))||(decide (x0.top>1099511627776)))||((bL .and .u64 x0.bits (1:Int))==0))then
   2
  else
   bif((decide (x0.top<63))&&((bL .shr .u64 x0.bits (IntKind.wrap .i64 (x0.top+(1:Int)))) != 0))then
    2
   else
    0
def G9(x0:fp):Prop:=
 (((x0.top==(-1))&&(x0.bits==0))=false→(
  ((((decide (x0.top<0))||(decide (x0.top>1099511627776)))||((bL .and .u64 x0.bits (1:Int))==0))=false→(
   let v10:=decide (x0.top<63)
   let v11:Int:=IntKind.wrap .i64 (x0.top+(1:Int))
   v10=true→0≤v11))))
noncomputable def tM(x0:fp)(an:Int):fp × Bool:=
 bif(((((yN x0) != 0)||(decide (an<0)))||(decide (an>1099511627776)))||(decide (an≤(IntKind.wrap .i64 (x0.top-(64:Int))))))then
  (x0,false)
 else
  bif(decide (an>x0.top))then
   let aL:Int→fp × Bool:=fun v12=>
    (⟨an,(bL .or .u64 v12 (1:Int))⟩,true)
   bif(decide ((IntKind.wrap .i64 (an-x0.top))<64))then
    aL (bL .shl .u64 x0.bits (IntKind.wrap .i64 (an-x0.top)))
   else
    aL (0:Int)
  else
   let bS:Int:=bL .shl .u64 (1:Int) (IntKind.wrap .i64 (x0.top-an))
   bif((bL .and .u64 x0.bits bS) != 0)then
    (x0,false)
   else
    (⟨x0.top,(bL .or .u64 x0.bits bS)⟩,true)
def Ha(x0:fp)(an:Int):Prop:=
 (G9 x0)∧
 ((((((yN x0) != 0)||(decide (an<0)))||(decide (an>1099511627776)))||(decide (an≤(IntKind.wrap .i64 (x0.top-(64:Int))))))=false→(
  ((decide (an>x0.top))=true→(
   ((decide ((IntKind.wrap .i64 (an-x0.top))<64))=true→(
    let eY:Int:=IntKind.wrap .i64 (an-x0.top)
    0≤eY))))∧((decide (an>x0.top))=false→(
   let v12:Int:=IntKind.wrap .i64 (x0.top-an)
   let _:Int:=bL .shl .u64 (1:Int) v12
   0≤v12))))
noncomputable def pJ(x0:Config)(an:List cC)(aH:List cS)(aX:List Int)(de:iu)(CW:Int)(CX:Int):ByteArray × (List cS) × Int:=
 let bD:=lh x0.key de.token CW aX
 let bP:Int→ByteArray × (List cS) × Int:=fun v10=>
  bif(v10 != 0)then
   (⟨#[]⟩,aH,v10)
  else
   let bS:=jV aH bD.1.fc
   let cJ:=HI
   let aL:Int→Int→ByteArray × (List cS) × Int:=fun cP dv=>
    let cw:=tM ⟨cP,dv⟩ de.request.e5
    let aL:(List cS)→ByteArray × (List cS) × Int:=fun v24=>
     (bD.1.fc,v24,0)
    bif !cw.2 then
     (⟨#[]⟩,aH,18)
    else
     bif bS.2 then
      aL (List.set aH (Int.toNat bS.1) ⟨(List.getD aH (Int.toNat bS.1) (av .cS)).fc,⟨cw.1.top,cw.1.bits⟩⟩)
     else
      aL (List.append (List.append (iL aH none (some bS.1)) ([⟨bD.1.fc,⟨cw.1.top,cw.1.bits⟩⟩]:List cS)) (iL aH (some bS.1) none))
   bif bS.2 then
    let cP:cS:=List.getD aH (Int.toNat bS.1) (av .cS)
    aL cP.tL.top cP.tL.bits
   else
    aL cJ.top cJ.bits
 bif(bD.2==0)then
  let aL:Int→ByteArray × (List cS) × Int:=fun v11=>
   bP v11
  let v11:=lg ⟨x0.home.bB,x0.home.bs⟩ ⟨de.request.kind,de.request.e5,⟨de.request.key.dev,de.request.key.cG,de.request.key.attr⟩,de.request.name,⟨de.request.value.kind,de.request.value.n,de.request.value.s⟩,de.request.text⟩
  bif(v11 != 0)then
   aL v11
  else
   let bS:=tN ⟨x0.home.bB,x0.home.bs⟩ an bD.1.fc CX ⟨de.request.kind,de.request.e5,⟨de.request.key.dev,de.request.key.cG,de.request.key.attr⟩,de.request.name,⟨de.request.value.kind,de.request.value.n,de.request.value.s⟩,de.request.text⟩
   bif(bS != 0)then
    aL bS
   else
    aL (0:Int)
 else
  bP bD.2
def vR(x0:Config)(an:List cC)(aH:List cS)(aX:List Int)(de:iu)(CW:Int)(CX:Int):Prop:=
 (List.length ([]:List cS)+List.length aH≤maxLen∧(List.length ([]:List cS)+List.length aH)*32≤140737488355328)∧
 let bD:=lh x0.key de.token CW aX
 (G1 x0.key de.token CW aX)∧
 let bP:Int→Prop:=fun v10=>
  ((v10 != 0)=false→(
   let bS:=jV aH bD.1.fc
   let cJ:=HI
   let aL:Int→Int→Prop:=fun cP dv=>
    let cw:=tM ⟨cP,dv⟩ de.request.e5
    (Ha ⟨cP,dv⟩ de.request.e5)∧
    ((!cw.2)=false→(
     (bS.2=true→(
      (0≤bS.1∧bS.1<(List.length aH:Int))∧
      0≤bS.1∧bS.1<(List.length aH:Int)))∧(bS.2=false→(
      let v23:List cS:=([⟨bD.1.fc,⟨cw.1.top,cw.1.bits⟩⟩]:List cS)
      (jD (List.length aH) none (some bS.1))∧
      (0≤(0:Int)∧(0:Int)<(List.length v23:Int))∧
      List.length aH+List.length v23≤maxLen∧(List.length aH+List.length v23)*32≤140737488355328))))
   (bS.2=true→(
    (0≤bS.1∧bS.1<(List.length aH:Int))∧
    let cP:cS:=List.getD aH (Int.toNat bS.1) (av .cS)
    (0≤bS.1∧bS.1<(List.length aH:Int))∧
    aL cP.tL.top cP.tL.bits))∧(bS.2=false→(
    aL cJ.top cJ.bits))))
 ((bD.2==0)=true→(
  let aL:Int→Prop:=fun v11=>
   bP v11
  let v11:=lg ⟨x0.home.bB,x0.home.bs⟩ ⟨de.request.kind,de.request.e5,⟨de.request.key.dev,de.request.key.cG,de.request.key.attr⟩,de.request.name,⟨de.request.value.kind,de.request.value.n,de.request.value.s⟩,de.request.text⟩
  (B5 ⟨x0.home.bB,x0.home.bs⟩ ⟨de.request.kind,de.request.e5,⟨de.request.key.dev,de.request.key.cG,de.request.key.attr⟩,de.request.name,⟨de.request.value.kind,de.request.value.n,de.request.value.s⟩,de.request.text⟩)∧
  ((v11 != 0)=true→(
   aL v11))∧((v11 != 0)=false→(
   let bS:=tN ⟨x0.home.bB,x0.home.bs⟩ an bD.1.fc CX ⟨de.request.kind,de.request.e5,⟨de.request.key.dev,de.request.key.cG,de.request.key.attr⟩,de.request.name,⟨de.request.value.kind,de.request.value.n,de.request.value.s⟩,de.request.text⟩
   (G8 ⟨x0.home.bB,x0.home.bs⟩ an bD.1.fc CX ⟨de.request.kind,de.request.e5,⟨de.request.key.dev,de.request.key.cG,de.request.key.attr⟩,de.request.name,⟨de.request.value.kind,de.request.value.n,de.request.value.s⟩,de.request.text⟩)∧
   ((bS != 0)=true→(
    aL bS))∧((bS != 0)=false→(
    aL (0:Int)))))))∧((bD.2==0)=false→(
  bP bD.2))
def QF:List aA:=[⟨⟨#[111,110,111,102,102]⟩,[⟨⟨#[111,110]⟩,1,0,0,[],true,false⟩],[⟨⟨#[111,110]⟩,⟨⟨#[]⟩,0,0,0,[],false,false⟩,[⟨1,⟨#[111,110]⟩,1⟩]⟩,⟨⟨#[111,102,102]⟩,⟨⟨#[]⟩,0,0,0,[],false,false⟩,[⟨1,⟨#[111,110]⟩,0⟩]⟩,⟨⟨#[116,111,103,103,108,101]⟩,⟨⟨#[]⟩,0,0,0,[],false,false⟩,[⟨4,⟨#[111,110]⟩,0⟩]⟩],[]⟩,
 ⟨⟨#[108,101,118,101,108]⟩,[⟨⟨#[108,101,118,101,108]⟩,2,0,100,[],true,false⟩],[⟨⟨#[109,111,118,101]⟩,⟨⟨#[116,111]⟩,2,0,100,[],false,false⟩,[⟨2,⟨#[108,101,118,101,108]⟩,0⟩]⟩,⟨⟨#[115,116,101,112]⟩,⟨⟨#[]⟩,0,0,0,[],false,false⟩,[⟨3,⟨#[108,101,118,101,108]⟩,10⟩]⟩],[]⟩,
 ⟨⟨#[108,111,99,107]⟩,[⟨⟨#[108,111,99,107,101,100]⟩,1,0,0,[],true,true⟩],[⟨⟨#[108,111,99,107]⟩,⟨⟨#[]⟩,0,0,0,[],false,false⟩,[⟨1,⟨#[108,111,99,107,101,100]⟩,1⟩]⟩,⟨⟨#[117,110,108,111,99,107]⟩,⟨⟨#[]⟩,0,0,0,[],false,false⟩,[⟨1,⟨#[108,111,99,107,101,100]⟩,0⟩]⟩],[⟨#[106,97,109]⟩]⟩,
 ⟨⟨#[116,104,101,114,109,111,115,116,97,116]⟩,[⟨⟨#[116,97,114,103,101,116]⟩,2,50,300,[],true,false⟩,⟨⟨#[116,101,109,112]⟩,2,(-500),1000,[],false,false⟩],[],[]⟩,
 ⟨⟨#[115,109,111,107,101]⟩,[⟨⟨#[97,108,97,114,109]⟩,1,0,0,[],false,true⟩],[],[⟨#[116,101,115,116]⟩]⟩,
 ⟨⟨#[108,101,97,107]⟩,[⟨⟨#[119,101,116]⟩,1,0,0,[],false,true⟩],[],[]⟩,
 ⟨⟨#[118,97,108,118,101]⟩,[⟨⟨#[111,112,101,110]⟩,1,0,0,[],true,true⟩],[⟨⟨#[111,112,101,110]⟩,⟨⟨#[]⟩,0,0,0,[],false,false⟩,[⟨1,⟨#[111,112,101,110]⟩,1⟩]⟩,⟨⟨#[99,108,111,115,101]⟩,⟨⟨#[]⟩,0,0,0,[],false,false⟩,[⟨1,⟨#[111,112,101,110]⟩,0⟩]⟩],[]⟩,
 ⟨⟨#[109,101,116,101,114]⟩,[⟨⟨#[112,111,119,101,114]⟩,2,0,100000,[],false,false⟩],[],[]⟩]
def QG:Prop:=True
noncomputable def Cw:Config × (List cC):=
 (⟨⟨(QF),([⟨1,0,0,false,0,⟨#[104,97,108,108]⟩,([⟨#[111,110,111,102,102]⟩]:List ByteArray)⟩]:List bx)⟩,[],[],⟨0,[]⟩,7⟩,([⟨⟨#[97,110,110]⟩,4,[],[],false⟩]:List cC))
def QH:Prop:=
 QG
noncomputable def HJ(x0:eO):Int:=
 bif(!(jU x0.fc))then
  10
 else
  bif(((((decide (x0.id<1))||(decide (x0.id>1099511627776)))||(decide (x0.ow<0)))||(decide (x0.ow>x0.ox)))||(decide (x0.ox>1099511627776)))then
   2
  else
   bif(decide ((IntKind.wrap .i64 (x0.ox-x0.ow))>43200))then
    3
   else
    0
def QI(x0:eO):Prop:=
 pB x0.fc
noncomputable def yM(x0:Int):ByteArray:=
 (bytesOf ([(IntKind.wrap .u8 (bL .shr .i64 x0 (24:Int))),(IntKind.wrap .u8 (bL .shr .i64 x0 (16:Int))),(IntKind.wrap .u8 (bL .shr .i64 x0 (8:Int))),(IntKind.wrap .u8 x0)]:List Int))
noncomputable def QJ(x0:ByteArray):Int:=
 let v1:Int:=(ByteArray.size x0:Int)
 Sum.elim (fun r=>r) (fun bl=>
  bl)
 (bq (fun(i3:Nat) (aY:Int)=>
  show Step (Int) (Int)from
  .bn (IntKind.wrap .u64 ((bL .xor .u64 aY (IntKind.wrap .u64 (ez x0 (i3:Int))))*(1099511628211:Int)))) 0 (Int.toNat v1) 14695981039346656037:Int⊕(Int))
def QK(x0:ByteArray):Prop:=
 let v1:Int:=(ByteArray.size x0:Int)
 0≤v1∧v1<(9223372036854775808:Int)
noncomputable def vP(x0:Int):ByteArray:=
 Sum.elim (fun r=>r) (fun bl=>
  bl.1)
 (c7 (fun(aY:ByteArray × Int)=>
  show Step (ByteArray) (ByteArray × Int)from
  bif(decide (aY.2≥0))then
   .bn ((ByteArray.append aY.1 (bytesOf ([(IntKind.wrap .u8 (bL .shr .u64 x0 (IntKind.wrap .u64 ((8:Int)*(IntKind.wrap .u64 aY.2)))))]:List Int))),(IntKind.wrap .i64 (aY.2-(1:Int))))
  else
   .cN (aY.1,aY.2)) dG (⟨#[]⟩,7):ByteArray⊕(ByteArray × Int))
def Cl(x0:Int):Prop:=
 ∃(bA:(ByteArray × Int)→Prop) (gU:(ByteArray × Int)→Nat),bA (⟨#[]⟩,7)∧gU (⟨#[]⟩,7)<dG∧∀(d0:ByteArray × Int),bA d0→(
  ((decide (d0.2≥0))=true→(
   let v5:Int:=IntKind.wrap .u64 ((8:Int)*(IntKind.wrap .u64 d0.2))
   (0≤v5)∧
   let v9:=bytesOf ([(IntKind.wrap .u8 (bL .shr .u64 x0 v5))]:List Int)
   (ByteArray.size d0.1+ByteArray.size v9≤9223372036854775807)∧
   bA ((ByteArray.append d0.1 v9),(IntKind.wrap .i64 (d0.2-(1:Int))))∧gU ((ByteArray.append d0.1 v9),(IntKind.wrap .i64 (d0.2-(1:Int))))<gU d0)))
noncomputable def Cn(x0:Int)(an:ByteArray):Int:=
 (IntKind.wrap .i64 (bL .shr .u64 (QJ (ByteArray.append (ByteArray.append (vP x0) an) (vP x0))) (32:Int)))
def Cm(x0:Int)(an:ByteArray):Prop:=
 let v2:=vP x0
 (Cl x0)∧
 let v3:=ByteArray.append v2 an
 (ByteArray.size v2+ByteArray.size an≤9223372036854775807)∧
 let v4:=vP x0
 (Cl x0)∧
 let v5:=ByteArray.append v3 v4
 (ByteArray.size v3+ByteArray.size v4≤9223372036854775807)∧
 QK v5
noncomputable def Ct(x0:Int)(an:ByteArray):ByteArray:=
 (ByteArray.append an (yM (Cn x0 an)))
def G3(x0:Int)(an:ByteArray):Prop:=
 (Cm x0 an)∧
 let v3:=yM (Cn x0 an)
 ByteArray.size an+ByteArray.size v3≤9223372036854775807
noncomputable def yQ(x0:eO):ByteArray:=
 (ByteArray.append (ByteArray.append (ByteArray.append (qx x0.fc) (jT x0.id)) (jT x0.ow)) (jT x0.ox))
def Cu(x0:eO):Prop:=
 let v1:=qx x0.fc
 (BD x0.fc)∧
 let v2:=jT x0.id
 (pw x0.id)∧
 let v3:=ByteArray.append v1 v2
 (ByteArray.size v1+ByteArray.size v2≤9223372036854775807)∧
 let v4:=jT x0.ow
 (pw x0.ow)∧
 let v5:=ByteArray.append v3 v4
 (ByteArray.size v3+ByteArray.size v4≤9223372036854775807)∧
 let v6:=jT x0.ox
 (pw x0.ox)∧
 ByteArray.size v5+ByteArray.size v6≤9223372036854775807
noncomputable def yP(x0:Int)(an:eO):ByteArray × Int:=
 let v2:=HJ an
 bif(v2 != 0)then
  (⟨#[]⟩,v2)
 else
  ((Qu (Ct x0 (yQ an))),0)
def Hd(x0:Int)(an:eO):Prop:=
 let v2:=HJ an
 (QI an)∧
 ((v2 != 0)=false→(
  let v4:=yQ an
  (Cu an)∧
  let v5:=Ct x0 v4
  (G3 x0 v4)∧
  GX v5))
noncomputable def Cv:Bool:=
 let v0:=Cw
 let v3:=yP (7:Int) ⟨⟨#[97,110,110]⟩,1,0,100⟩
 let v6:=pJ v0.1 v0.2 ([]:List cS) ([]:List Int) ⟨v3.1,⟨1,5,⟨1,⟨#[111,110,111,102,102]⟩,⟨#[111,110]⟩⟩,⟨#[]⟩,⟨0,0,⟨#[]⟩⟩,⟨#[]⟩⟩⟩ (5:Int) (5:Int)
 let v10:=pJ v0.1 v0.2 v6.2.1 ([]:List Int) ⟨v3.1,⟨1,5,⟨1,⟨#[111,110,111,102,102]⟩,⟨#[111,110]⟩⟩,⟨#[]⟩,⟨0,0,⟨#[]⟩⟩,⟨#[]⟩⟩⟩ (5:Int) (5:Int)
 let eY:=pJ v0.1 v0.2 v6.2.1 ([]:List Int) ⟨v3.1,⟨1,4,⟨1,⟨#[111,110,111,102,102]⟩,⟨#[111,110]⟩⟩,⟨#[]⟩,⟨0,0,⟨#[]⟩⟩,⟨#[]⟩⟩⟩ (5:Int) (5:Int)
 let cw:=Hz (yq ⟨1,4,⟨1,⟨#[111,110,111,102,102]⟩,⟨#[111,110]⟩⟩,⟨#[]⟩,⟨0,0,⟨#[]⟩⟩,⟨#[]⟩⟩)
 let y6:Bool:=(((((v3.2==0)&&(cO .eql v6.1 (⟨#[97,110,110]⟩:ByteArray)))&&(v6.2.2==0))&&((List.length v6.2.1:Int)==1))&&(((List.getD v6.2.1 (Int.toNat (0:Int)) (av .cS)).tL.top)==5))&&(v10.2.2==18)
 let v37:=bif cw.1.kind==1 then bif cw.1.e5==4 then bif cw.1.key.dev==1 then bif cW cw.1.key.cG (⟨#[111,110,111,102,102]⟩:ByteArray)then bif cW cw.1.key.attr (⟨#[111,110]⟩:ByteArray)then bif cW cw.1.name (⟨#[]⟩:ByteArray)then bif cw.1.value.kind==0 then bif cw.1.value.n==0 then bif cW cw.1.value.s (⟨#[]⟩:ByteArray)then cW cw.1.text (⟨#[]⟩:ByteArray)else false else false else false else false else false else false else false else false else false
 (((y6&&(eY.2.2==0))&&v37)&&(cw.2==0))
def yS:Prop:=
 let v0:=Cw
 (QH)∧
 let v3:=yP (7:Int) ⟨⟨#[97,110,110]⟩,1,0,100⟩
 (Hd (7:Int) ⟨⟨#[97,110,110]⟩,1,0,100⟩)∧
 let v6:=pJ v0.1 v0.2 ([]:List cS) ([]:List Int) ⟨v3.1,⟨1,5,⟨1,⟨#[111,110,111,102,102]⟩,⟨#[111,110]⟩⟩,⟨#[]⟩,⟨0,0,⟨#[]⟩⟩,⟨#[]⟩⟩⟩ (5:Int) (5:Int)
 (vR v0.1 v0.2 ([]:List cS) ([]:List Int) ⟨v3.1,⟨1,5,⟨1,⟨#[111,110,111,102,102]⟩,⟨#[111,110]⟩⟩,⟨#[]⟩,⟨0,0,⟨#[]⟩⟩,⟨#[]⟩⟩⟩ (5:Int) (5:Int))∧
 let _:=pJ v0.1 v0.2 v6.2.1 ([]:List Int) ⟨v3.1,⟨1,5,⟨1,⟨#[111,110,111,102,102]⟩,⟨#[111,110]⟩⟩,⟨#[]⟩,⟨0,0,⟨#[]⟩⟩,⟨#[]⟩⟩⟩ (5:Int) (5:Int)
 (vR v0.1 v0.2 v6.2.1 ([]:List Int) ⟨v3.1,⟨1,5,⟨1,⟨#[111,110,111,102,102]⟩,⟨#[111,110]⟩⟩,⟨#[]⟩,⟨0,0,⟨#[]⟩⟩,⟨#[]⟩⟩⟩ (5:Int) (5:Int))∧
 let _:=pJ v0.1 v0.2 v6.2.1 ([]:List Int) ⟨v3.1,⟨1,4,⟨1,⟨#[111,110,111,102,102]⟩,⟨#[111,110]⟩⟩,⟨#[]⟩,⟨0,0,⟨#[]⟩⟩,⟨#[]⟩⟩⟩ (5:Int) (5:Int)
 (vR v0.1 v0.2 v6.2.1 ([]:List Int) ⟨v3.1,⟨1,4,⟨1,⟨#[111,110,111,102,102]⟩,⟨#[111,110]⟩⟩,⟨#[]⟩,⟨0,0,⟨#[]⟩⟩,⟨#[]⟩⟩⟩ (5:Int) (5:Int))∧
 let dv:=yq ⟨1,4,⟨1,⟨#[111,110,111,102,102]⟩,⟨#[111,110]⟩⟩,⟨#[]⟩,⟨0,0,⟨#[]⟩⟩,⟨#[]⟩⟩
 (Gm ⟨1,4,⟨1,⟨#[111,110,111,102,102]⟩,⟨#[111,110]⟩⟩,⟨#[]⟩,⟨0,0,⟨#[]⟩⟩,⟨#[]⟩⟩)∧
 let _:=Hz dv
 (BH dv)∧
 let hs:Bool:=(((v3.2==0)&&(cO .eql v6.1 (⟨#[97,110,110]⟩:ByteArray)))&&(v6.2.2==0))&&((List.length v6.2.1:Int)==1)
 hs=true→0≤(0:Int)∧(0:Int)<(List.length v6.2.1:Int)
noncomputable def Bw(x0:Case):Bool:=
 let v6:Int:=(List.length x0.members:Int)
 let eY:Bool:=((((decide ((List.length x0.c.home.bB:Int)>100))||(decide ((List.length x0.c.home.bs:Int)>30)))||(decide (v6>30)))||(decide ((List.length x0.HK:Int)>60)))||(decide ((List.length x0.HL:Int)>100))
 bif((eY||(decide ((ByteArray.size x0.a.token:Int)>1000)))||(decide ((ByteArray.size x0.a.request.text:Int)>25000)))then
  true
 else
  Sum.elim (fun r=>r) (fun _=>
   false)
  (bq (fun(i21:Nat) (_:Unit)=>
   show Step (Bool) (Unit)from
   let hs:Bool:=(decide ((List.length ((List.getD x0.members (Int.toNat (i21:Int)) (av .cC)).mD):Int)>300))||(decide ((List.length ((List.getD x0.members (Int.toNat (i21:Int)) (av .cC)).fZ):Int)>300))
   bif hs then
    .ret true
   else
    .bn ()) 0 (Int.toNat v6) ():Bool⊕(Unit))
def Hg(x0:Case):Prop:=
 let v6:Int:=(List.length x0.members:Int)
 let eY:Bool:=((((decide ((List.length x0.c.home.bB:Int)>100))||(decide ((List.length x0.c.home.bs:Int)>30)))||(decide (v6>30)))||(decide ((List.length x0.HK:Int)>60)))||(decide ((List.length x0.HL:Int)>100))
 (((eY||(decide ((ByteArray.size x0.a.token:Int)>1000)))||(decide ((ByteArray.size x0.a.request.text:Int)>25000)))=false→(
  0≤v6∧v6<(9223372036854775808:Int)))
noncomputable def x7(x0:List cm)(an:List cm):Bool:=
 let v2:Int:=(List.length x0:Int)
 bif(v2 != (List.length an:Int))then
  false
 else
  Sum.elim (fun r=>r) (fun _=>
   true)
  (bq (fun(i5:Nat) (_:Unit)=>
   show Step (Bool) (Unit)from
   let bD:cm:=List.getD x0 (Int.toNat (i5:Int)) (av .cm)
   let br:cm:=List.getD an (Int.toNat (i5:Int)) (av .cm)
   let v9:=!(bif bD.key.dev==br.key.dev then bif cW bD.key.cG br.key.cG then bif cW bD.key.attr br.key.attr then bif bD.value.kind==br.value.kind then bif bD.value.n==br.value.n then bif cW bD.value.s br.value.s then bif bD.mG.kind==br.mG.kind then bif cW bD.mG.name br.mG.name then bif bD.mG.priority==br.mG.priority then bD.order==br.order else false else false else false else false else false else false else false else false else false)
   bif v9 then
    .ret false
   else
    .bn ()) 0 (Int.toNat v2) ():Bool⊕(Unit))
def FO(x0:List cm)(an:List cm):Prop:=
 let v2:Int:=(List.length x0:Int)
 ((v2 != (List.length an:Int))=false→(
  ∃bA:Nat→(Unit)→Prop,bA 0 ()∧∀(i5:Nat) (d0:Unit),i5<Int.toNat v2→bA i5 d0→(
   let bD:cm:=List.getD x0 (Int.toNat (i5:Int)) (av .cm)
   let br:cm:=List.getD an (Int.toNat (i5:Int)) (av .cm)
   (0≤(i5:Int)∧(i5:Int)<(List.length an:Int))∧
   let v9:=!(bif bD.key.dev==br.key.dev then bif cW bD.key.cG br.key.cG then bif cW bD.key.attr br.key.attr then bif bD.value.kind==br.value.kind then bif bD.value.n==br.value.n then bif cW bD.value.s br.value.s then bif bD.mG.kind==br.mG.kind then bif cW bD.mG.name br.mG.name then bif bD.mG.priority==br.mG.priority then bD.order==br.order else false else false else false else false else false else false else false else false else false)
   (v9=false→(
    bA (i5+1) ())))))
noncomputable def sc(x0:List ck)(an:cB):Int:=
 let bP:Int→Int:=fun v2=>
  v2
 let v2:Int:=(List.length x0:Int)
 Sum.elim (fun r=>r) (fun _=>
  bP ((-1):Int))
 (bq (fun(i3:Nat) (_:Unit)=>
  show Step (Int) (Unit)from
  let v5:ck:=List.getD x0 (Int.toNat (i3:Int)) (av .ck)
  bif(bif v5.key.dev==an.dev then bif cW v5.key.cG an.cG then cW v5.key.attr an.attr else false else false)then
   .ret (bP (i3:Int))
  else
   .bn ()) 0 (Int.toNat v2) ():Int⊕(Unit))
noncomputable def yV(x0:List ck)(an:cB):ck × Bool:=
 let v2:=sc x0 an
 bif(decide (v2≥0))then
  let v4:ck:=List.getD x0 (Int.toNat v2) (av .ck)
  (v4,true)
 else
  (⟨⟨0,⟨#[]⟩,⟨#[]⟩⟩,⟨0,0,⟨#[]⟩⟩,0⟩,false)
def Hn(x0:List ck)(an:cB):Prop:=
 let v2:=sc x0 an
 ((decide (v2≥0))=true→(
  let _:ck:=List.getD x0 (Int.toNat v2) (av .ck)
  0≤v2∧v2<(List.length x0:Int)))
noncomputable def yT(x0:Int)(an:Int)(aH:Int):Int:=
 bif((decide (aH<an))||(decide (x0>aH)))then
  aH
 else
  bif(decide (x0<an))then
   an
  else
   x0
noncomputable def yX(x0:Attr):az:=
 bif((gH x0) != 0)then
  ⟨0,0,⟨#[]⟩⟩
 else
  let aL:Int→az:=fun v4=>
   ⟨x0.kind,v4,⟨#[]⟩⟩
  bif(x0.kind==2)then
   aL (yT (0:Int) x0.min x0.max)
  else
   aL (0:Int)
def QL(x0:Attr):Prop:=
 rX x0
noncomputable def sa(x0:Command)(an:az):Int:=
 bif(x0.param.kind != 0)then
  (hD ⟨x0.param.name,x0.param.kind,x0.param.min,x0.param.max,x0.param.enum,x0.param.e6,x0.param.safety⟩ an)
 else
  bif(!(bif an.kind==0 then bif an.n==0 then cW an.s (⟨#[]⟩:ByteArray)else false else false))then
   11
  else
   0
def QM(x0:Command)(an:az):Prop:=
 ((x0.param.kind != 0)=true→(
  tA ⟨x0.param.name,x0.param.kind,x0.param.min,x0.param.max,x0.param.enum,x0.param.e6,x0.param.safety⟩ an))
noncomputable def QN(x0:Bool):Int:=
 bif x0 then
  (-1099511627776)
 else
  1099511627776
noncomputable def r4(x0:Int)(an:Int):Int:=
 let v2:Int:=IntKind.wrap .i64 (x0+an)
 bif((cD.den (.kI false) (decide (x0<0)) (decide (an<0)))&&(cD.den (.kI true) (decide (v2<0)) (decide (x0<0))))then
  (QN (decide (x0<0)))
 else
  (ld v2)
noncomputable def gX(x0:Attr)(an:az):az:=
 let aL:Int→az:=fun br=>
  ⟨an.kind,br,an.s⟩
 bif((((gH x0)==0)&&(x0.kind==2))&&(an.kind==2))then
  aL (yT an.n x0.min x0.max)
 else
  aL an.n
def FP(x0:Attr)(_:az):Prop:=
 rX x0
noncomputable def nq(x0:bV)(an:Attr)(aH:az)(aX:az):az:=
 let aL:Int→Int→ByteArray→az:=fun v6 bD br=>
  let v9:=gX an ⟨v6,bD,br⟩
  v9
 bif(x0.kind==1)then
  aL an.kind x0.n (⟨#[]⟩:ByteArray)
 else
  bif(x0.kind==2)then
   aL aH.kind aH.n aH.s
  else
   bif(x0.kind==3)then
    aL aX.kind (r4 aX.n x0.n) aX.s
   else
    bif(x0.kind==4)then
     aL aX.kind (IntKind.wrap .i64 ((1:Int)-aX.n)) aX.s
    else
     aL aX.kind aX.n aX.s
def Bq(x0:bV)(an:Attr)(aH:az)(aX:az):Prop:=
 let aL:Int→Int→ByteArray→Prop:=fun v6 bD br=>
  let _:=gX an ⟨v6,bD,br⟩
  FP an ⟨v6,bD,br⟩
 ((x0.kind==1)=true→(
  aL an.kind x0.n (⟨#[]⟩:ByteArray)))∧((x0.kind==1)=false→(
  ((x0.kind==2)=true→(
   aL aH.kind aH.n aH.s))∧((x0.kind==2)=false→(
   ((x0.kind==3)=true→(
    aL aX.kind (r4 aX.n x0.n) aX.s))∧((x0.kind==3)=false→(
    ((x0.kind==4)=true→(
     aL aX.kind (IntKind.wrap .i64 ((1:Int)-aX.n)) aX.s))∧((x0.kind==4)=false→(
     aL aX.kind aX.n aX.s))))))))
noncomputable def nf(x0:aA)(an:ByteArray)(aH:az)(aX:List az):(List az) × Int:=
 let v4:=jc x0
 bif(v4 != 0)then
  ([],v4)
 else
  let v6:=ko x0 an
  bif !v6.2 then
   ([],8)
  else
   let v10:=sa v6.1 aH
   bif(v10 != 0)then
    ([],v10)
   else
    let v12:Int:=(List.length aX:Int)
    let bS:Int:=(List.length x0.attrs:Int)
    bif(v12 != bS)then
     ([],1)
    else
     Sum.elim (fun r=>r) (fun _=>
      let dQ:Int:=(List.length v6.1.c4:Int)
      Sum.elim (fun r=>r) (fun aY=>
       (aY,0))
      (bq (fun(i17:Nat) (bW:(List az))=>
       show Step ((List az) × Int) ((List az))from
       let cw:bV:=List.getD v6.1.c4 (Int.toNat (i17:Int)) (av .bV)
       Sum.elim (fun r=>r) (fun cK=>
        .bn cK)
       (bq (fun(i21:Nat) (eo:(List az))=>
        show Step (Step ((List az) × Int) ((List az))) ((List az))from
        let aL:(List az)→Step (Step ((List az) × Int) ((List az))) ((List az)):=fun HM=>
         .bn HM
        let v23:Attr:=List.getD x0.attrs (Int.toNat (i21:Int)) (av .Attr)
        bif(cO .eql v23.name cw.attr)then
         let v25:az:=List.getD eo (Int.toNat (i21:Int)) (av .az)
         let v26:=nq cw v23 aH v25
         aL (List.set eo (Int.toNat (i21:Int)) v26)
        else
         aL eo) 0 (Int.toNat bS) bW:(Step ((List az) × Int) ((List az)))⊕((List az)))) 0 (Int.toNat dQ) aX:((List az) × Int)⊕((List az))))
     (bq (fun(i15:Nat) (_:Unit)=>
      show Step ((List az) × Int) (Unit)from
      let cP:az:=List.getD aX (Int.toNat (i15:Int)) (av .az)
      let dv:Attr:=List.getD x0.attrs (Int.toNat (i15:Int)) (av .Attr)
      bif((hD dv cP) != 0)then
       .ret ([],1)
      else
       .bn ()) 0 (Int.toNat v12) ():((List az) × Int)⊕(Unit))
def FQ(x0:aA)(an:ByteArray)(aH:az)(aX:List az):Prop:=
 let v4:=jc x0
 (BR x0)∧
 ((v4 != 0)=false→(
  let v6:=ko x0 an
  (B3 x0 an)∧
  ((!v6.2)=false→(
   let v10:=sa v6.1 aH
   (QM v6.1 aH)∧
   ((v10 != 0)=false→(
    let v12:Int:=(List.length aX:Int)
    let bS:Int:=(List.length x0.attrs:Int)
    ((v12 != bS)=false→(
     let a1:Unit→Prop:=fun _=>
      (List.length ([]:List az)+List.length aX≤maxLen∧(List.length ([]:List az)+List.length aX)*32≤140737488355328)∧
      let dQ:Int:=(List.length v6.1.c4:Int)
      ∃dw:Nat→((List az))→Prop,dw 0 aX∧∀(i17:Nat) (d1:(List az)),i17<Int.toNat dQ→dw i17 d1→(
       let cw:bV:=List.getD v6.1.c4 (Int.toNat (i17:Int)) (av .bV)
       let fx:(List az)→Prop:=fun bW=>
        dw (i17+1) bW
       ∃ix:Nat→((List az))→Prop,ix 0 d1∧(∀(i21:Nat) (d2:(List az)),i21<Int.toNat bS→ix i21 d2→(
        let aL:(List az)→Prop:=fun HM=>
         ix (i21+1) HM
        let v23:Attr:=List.getD x0.attrs (Int.toNat (i21:Int)) (av .Attr)
        ((cO .eql v23.name cw.attr)=true→(
         (0≤(i21:Int)∧(i21:Int)<(List.length d2:Int))∧
         let v25:az:=List.getD d2 (Int.toNat (i21:Int)) (av .az)
         (0≤(i21:Int)∧(i21:Int)<(List.length d2:Int))∧
         let v26:=nq cw v23 aH v25
         (Bq cw v23 aH v25)∧
         (0≤(i21:Int)∧(i21:Int)<(List.length d2:Int))∧
         (0≤(i21:Int)∧(i21:Int)<(List.length d2:Int))∧
         aL (List.set d2 (Int.toNat (i21:Int)) v26)))∧((cO .eql v23.name cw.attr)=false→(
         aL d2))))∧∀bW,ix (Int.toNat bS) bW→fx bW)
     ∃bA:Nat→(Unit)→Prop,bA 0 ()∧(∀(i15:Nat) (d0:Unit),i15<Int.toNat v12→bA i15 d0→(
      let cP:az:=List.getD aX (Int.toNat (i15:Int)) (av .az)
      let dv:Attr:=List.getD x0.attrs (Int.toNat (i15:Int)) (av .Attr)
      (0≤(i15:Int)∧(i15:Int)<(List.length x0.attrs:Int))∧
      (tA dv cP)∧
      (((hD dv cP) != 0)=false→(
       bA (i15+1) ()))))∧∀bl,bA (Int.toNat v12) bl→a1 bl))))))))
noncomputable def yZ(x0:Home)(an:List ck)(aH:aT)(aX:dF):(List cm):=
 let v4:=lP x0 aH.key.dev aH.key.cG
 let bD:Int:=(List.length v4.1.attrs:Int)
 Sum.elim (fun r=>r) (fun bl=>
  let v9:=nf v4.1 aH.name ⟨aH.value.kind,aH.value.n,aH.value.s⟩ bl
  bif(v9.2 != 0)then
   []
  else
   let bS:Int:=(List.length v9.1:Int)
   Sum.elim (fun r=>r) (fun aY=>
    aY)
   (bq (fun(i15:Nat) (bW:(List cm))=>
    show Step ((List cm)) ((List cm))from
    let aL:(List cm)→Step ((List cm)) ((List cm)):=fun qM=>
     .bn qM
    let cP:az:=List.getD v9.1 (Int.toNat (i15:Int)) (av .az)
    let dv:az:=List.getD bl (Int.toNat (i15:Int)) (av .az)
    bif(!(bif cP.kind==dv.kind then bif cP.n==dv.n then cW cP.s dv.s else false else false))then
     aL (List.append bW ([⟨⟨aH.key.dev,v4.1.name,(List.getD v4.1.attrs (Int.toNat (i15:Int)) (av .Attr)).name⟩,⟨cP.kind,cP.n,cP.s⟩,⟨aX.kind,aX.name,aX.priority⟩,0⟩]:List cm))
    else
     aL bW) 0 (Int.toNat bS) []:(List cm)⊕((List cm))))
 (bq (fun(i9:Nat) (cK:(List az))=>
  show Step ((List cm)) ((List az))from
  let v11:Attr:=List.getD v4.1.attrs (Int.toNat (i9:Int)) (av .Attr)
  let v12:=yV an ⟨aH.key.dev,v4.1.name,v11.name⟩
  let aL:Int→Int→ByteArray→Step ((List cm)) ((List az)):=fun cJ cP dv=>
   .bn (List.append cK ([⟨cJ,cP,dv⟩]:List az))
  bif !v12.2 then
   let cJ:=yX v11
   aL cJ.kind cJ.n cJ.s
  else
   aL v12.1.value.kind v12.1.value.n v12.1.value.s) 0 (Int.toNat bD) []:(List cm)⊕((List az)))
def FY(x0:Home)(an:List ck)(aH:aT)(aX:dF):Prop:=
 let v4:=lP x0 aH.key.dev aH.key.cG
 (B2 x0 aH.key.dev aH.key.cG)∧
 let bD:Int:=(List.length v4.1.attrs:Int)
 let a1:(List az)→Prop:=fun bl=>
  let v9:=nf v4.1 aH.name ⟨aH.value.kind,aH.value.n,aH.value.s⟩ bl
  (FQ v4.1 aH.name ⟨aH.value.kind,aH.value.n,aH.value.s⟩ bl)∧
  ((v9.2 != 0)=false→(
   let bS:Int:=(List.length v9.1:Int)
   ∃dw:Nat→((List cm))→Prop,dw 0 []∧∀(i15:Nat) (d1:(List cm)),i15<Int.toNat bS→dw i15 d1→(
    let aL:(List cm)→Prop:=fun qM=>
     dw (i15+1) qM
    let cP:az:=List.getD v9.1 (Int.toNat (i15:Int)) (av .az)
    let dv:az:=List.getD bl (Int.toNat (i15:Int)) (av .az)
    (0≤(i15:Int)∧(i15:Int)<(List.length bl:Int))∧
    ((!(bif cP.kind==dv.kind then bif cP.n==dv.n then cW cP.s dv.s else false else false))=true→(
     (0≤(i15:Int)∧(i15:Int)<(List.length v4.1.attrs:Int))∧
     let v21:List cm:=([⟨⟨aH.key.dev,v4.1.name,(List.getD v4.1.attrs (Int.toNat (i15:Int)) (av .Attr)).name⟩,⟨cP.kind,cP.n,cP.s⟩,⟨aX.kind,aX.name,aX.priority⟩,0⟩]:List cm)
     (List.length d1+List.length v21≤maxLen∧(List.length d1+List.length v21)*112≤140737488355328)∧
     aL (List.append d1 v21)))∧((!(bif cP.kind==dv.kind then bif cP.n==dv.n then cW cP.s dv.s else false else false))=false→(
     aL d1)))))
 ∃bA:Nat→((List az))→Prop,bA 0 []∧(∀(i9:Nat) (d0:(List az)),i9<Int.toNat bD→bA i9 d0→(
  let v11:Attr:=List.getD v4.1.attrs (Int.toNat (i9:Int)) (av .Attr)
  let v12:=yV an ⟨aH.key.dev,v4.1.name,v11.name⟩
  (Hn an ⟨aH.key.dev,v4.1.name,v11.name⟩)∧
  let aL:Int→Int→ByteArray→Prop:=fun cJ cP dv=>
   let cw:List az:=([⟨cJ,cP,dv⟩]:List az)
   (List.length d0+List.length cw≤maxLen∧(List.length d0+List.length cw)*32≤140737488355328)∧
   bA (i9+1) (List.append d0 cw)
  ((!v12.2)=true→(
   let cJ:=yX v11
   (QL v11)∧
   aL cJ.kind cJ.n cJ.s))∧((!v12.2)=false→(
   aL v12.1.value.kind v12.1.value.n v12.1.value.s))))∧∀bl,bA (Int.toNat bD) bl→a1 bl
noncomputable def y0(x0:Home)(an:List ck)(aH:aT)(aX:dF):(List cm):=
 bif((lg x0 aH) != 0)then
  []
 else
  bif(aH.kind==2)then
   ([⟨⟨aH.key.dev,aH.key.cG,aH.key.attr⟩,⟨aH.value.kind,aH.value.n,aH.value.s⟩,⟨aX.kind,aX.name,aX.priority⟩,0⟩]:List cm)
  else
   bif(aH.kind==3)then
    (yZ x0 an aH aX)
   else
    []
def F1(x0:Home)(an:List ck)(aH:aT)(aX:dF):Prop:=
 (B5 x0 aH)∧
 (((lg x0 aH) != 0)=false→(
  ((aH.kind==2)=false→(
   ((aH.kind==3)=true→(
    FY x0 an aH aX))))))
noncomputable def sb(x0:List ck)(an:cB):Int:=
 let v2:Int:=(List.length x0:Int)
 Sum.elim (fun r=>r) (fun _=>
  (-1))
 (bq (fun(i3:Nat) (_:Unit)=>
  show Step (Int) (Unit)from
  let v5:ck:=List.getD x0 (Int.toNat (i3:Int)) (av .ck)
  bif(bif v5.key.dev==an.dev then bif cW v5.key.cG an.cG then cW v5.key.attr an.attr else false else false)then
   .ret (i3:Int)
  else
   .bn ()) 0 (Int.toNat v2) ():Int⊕(Unit))
noncomputable def yW(x0:List ck)(an:cB):ck × Bool:=
 let v2:=sb x0 an
 bif(decide (v2<0))then
  (⟨⟨0,⟨#[]⟩,⟨#[]⟩⟩,⟨0,0,⟨#[]⟩⟩,0⟩,false)
 else
  let v4:ck:=List.getD x0 (Int.toNat v2) (av .ck)
  (v4,true)
def Ho(x0:List ck)(an:cB):Prop:=
 let v2:=sb x0 an
 ((decide (v2<0))=false→(
  let _:ck:=List.getD x0 (Int.toNat v2) (av .ck)
  0≤v2∧v2<(List.length x0:Int)))
noncomputable def tO(x0:Attr)(an:az):az:=
 bif((((mz x0) != 0)||(x0.kind != 2))||(an.kind != 2))then
  an
 else
  let aL:Int→az:=fun v9=>
   let aL:Int→az:=fun v11=>
    ⟨an.kind,v11,an.s⟩
   bif(decide (v9>x0.max))then
    aL x0.max
   else
    aL v9
  bif(decide (an.n<x0.min))then
   aL x0.min
  else
   aL an.n
def Bs(x0:Attr)(_:az):Prop:=
 qH x0
noncomputable def yY(x0:Attr):az:=
 bif((mz x0) != 0)then
  ⟨0,0,⟨#[]⟩⟩
 else
  let v3:=tO x0 ⟨x0.kind,0,⟨#[]⟩⟩
  v3
def QO(x0:Attr):Prop:=
 (qH x0)∧
 (((mz x0) != 0)=false→(
  let _:=tO x0 ⟨x0.kind,0,⟨#[]⟩⟩
  Bs x0 ⟨x0.kind,0,⟨#[]⟩⟩))
noncomputable def r5(x0:bV)(an:Attr)(aH:az)(aX:az):az:=
 let aL:Int→Int→ByteArray→az:=fun v6 bD br=>
  let v9:=tO an ⟨v6,bD,br⟩
  v9
 bif(x0.kind==1)then
  aL aX.kind x0.n aX.s
 else
  bif(x0.kind==2)then
   aL aH.kind aH.n aH.s
  else
   bif(x0.kind==3)then
    aL aX.kind (IntKind.wrap .i64 (aX.n+x0.n)) aX.s
   else
    bif(x0.kind==4)then
     aL aX.kind (IntKind.wrap .i64 ((1:Int)-aX.n)) aX.s
    else
     aL aX.kind aX.n aX.s
def Br(x0:bV)(an:Attr)(aH:az)(aX:az):Prop:=
 let aL:Int→Int→ByteArray→Prop:=fun v6 bD br=>
  let _:=tO an ⟨v6,bD,br⟩
  Bs an ⟨v6,bD,br⟩
 ((x0.kind==1)=true→(
  aL aX.kind x0.n aX.s))∧((x0.kind==1)=false→(
  ((x0.kind==2)=true→(
   aL aH.kind aH.n aH.s))∧((x0.kind==2)=false→(
   ((x0.kind==3)=true→(
    aL aX.kind (IntKind.wrap .i64 (aX.n+x0.n)) aX.s))∧((x0.kind==3)=false→(
    ((x0.kind==4)=true→(
     aL aX.kind (IntKind.wrap .i64 ((1:Int)-aX.n)) aX.s))∧((x0.kind==4)=false→(
     aL aX.kind aX.n aX.s))))))))
noncomputable def vl(x0:aA)(an:ByteArray)(aH:az)(aX:List az):(List az) × Int:=
 let v4:=qE x0
 bif(v4 != 0)then
  ([],v4)
 else
  let v6:=km x0 an
  bif !v6.2 then
   ([],8)
  else
   let aL:(List az) × Int:=
    let v12:Int:=(List.length aX:Int)
    bif(v12 != (List.length x0.attrs:Int))then
     ([],1)
    else
     Sum.elim (fun r=>r) (fun bl=>
      let cP:Int:=(List.length v6.1.c4:Int)
      Sum.elim (fun r=>r) (fun aY=>
       (aY,0))
      (bq (fun(i19:Nat) (bW:(List az))=>
       show Step ((List az) × Int) ((List az))from
       let v22:=jb x0 ((List.getD v6.1.c4 (Int.toNat (i19:Int)) (av .bV)).attr)
       let v23:bV:=List.getD v6.1.c4 (Int.toNat (i19:Int)) (av .bV)
       let v24:Attr:=List.getD x0.attrs (Int.toNat v22) (av .Attr)
       let v25:az:=List.getD bW (Int.toNat v22) (av .az)
       let v26:=r5 v23 v24 aH v25
       .bn (List.set bW (Int.toNat v22) v26)) 0 (Int.toNat cP) bl:((List az) × Int)⊕((List az))))
     (bq (fun(i17:Nat) (cK:(List az))=>
      show Step ((List az) × Int) ((List az))from
      let cw:Attr:=List.getD x0.attrs (Int.toNat (i17:Int)) (av .Attr)
      let v20:az:=List.getD aX (Int.toNat (i17:Int)) (av .az)
      bif((mA cw v20) != 0)then
       .ret ([],1)
      else
       let v23:az:=List.getD aX (Int.toNat (i17:Int)) (av .az)
       .bn (List.append cK ([v23]:List az))) 0 (Int.toNat v12) (List.replicate (Int.toNat (0:Int)) (av .az)):((List az) × Int)⊕((List az)))
   bif(v6.1.param.kind==0)then
    bif(!(bif aH.kind==0 then bif aH.n==0 then cW aH.s (⟨#[]⟩:ByteArray)else false else false))then
     ([],11)
    else
     aL
   else
    let v11:=mA ⟨v6.1.param.name,v6.1.param.kind,v6.1.param.min,v6.1.param.max,v6.1.param.enum,v6.1.param.e6,v6.1.param.safety⟩ aH
    bif(v11 != 0)then
     ([],v11)
    else
     aL
def FR(x0:aA)(an:ByteArray)(aH:az)(aX:List az):Prop:=
 let v4:=qE x0
 (Ca x0)∧
 ((v4 != 0)=false→(
  let v6:=km x0 an
  ((!v6.2)=false→(
   let aL:Prop:=
    let v12:Int:=(List.length aX:Int)
    ((v12 != (List.length x0.attrs:Int))=false→(
     (0≤(0:Int)∧(0:Int)≤v12∧v12≤(maxLen:Int)∧(32:Int)*v12≤281474976710656)∧
     let a1:(List az)→Prop:=fun bl=>
      let cP:Int:=(List.length v6.1.c4:Int)
      ∃dw:Nat→((List az))→Prop,dw 0 bl∧∀(i19:Nat) (d1:(List az)),i19<Int.toNat cP→dw i19 d1→(
       let v22:=jb x0 ((List.getD v6.1.c4 (Int.toNat (i19:Int)) (av .bV)).attr)
       let v23:bV:=List.getD v6.1.c4 (Int.toNat (i19:Int)) (av .bV)
       let v24:Attr:=List.getD x0.attrs (Int.toNat v22) (av .Attr)
       (0≤v22∧v22<(List.length x0.attrs:Int))∧
       (0≤v22∧v22<(List.length d1:Int))∧
       let v25:az:=List.getD d1 (Int.toNat v22) (av .az)
       (0≤v22∧v22<(List.length d1:Int))∧
       let v26:=r5 v23 v24 aH v25
       (Br v23 v24 aH v25)∧
       (0≤v22∧v22<(List.length d1:Int))∧
       (0≤v22∧v22<(List.length d1:Int))∧
       dw (i19+1) (List.set d1 (Int.toNat v22) v26))
     ∃bA:Nat→((List az))→Prop,bA 0 (List.replicate (Int.toNat (0:Int)) (av .az))∧(∀(i17:Nat) (d0:(List az)),i17<Int.toNat v12→bA i17 d0→(
      let cw:Attr:=List.getD x0.attrs (Int.toNat (i17:Int)) (av .Attr)
      (0≤(i17:Int)∧(i17:Int)<(List.length x0.attrs:Int))∧
      let v20:az:=List.getD aX (Int.toNat (i17:Int)) (av .az)
      (tI cw v20)∧
      (((mA cw v20) != 0)=false→(
       let v23:az:=List.getD aX (Int.toNat (i17:Int)) (av .az)
       let v24:List az:=([v23]:List az)
       (List.length d0+List.length v24≤maxLen∧(List.length d0+List.length v24)*32≤140737488355328)∧
       bA (i17+1) (List.append d0 v24)))))∧∀bl,bA (Int.toNat v12) bl→a1 bl))
   ((v6.1.param.kind==0)=true→(
    ((!(bif aH.kind==0 then bif aH.n==0 then cW aH.s (⟨#[]⟩:ByteArray)else false else false))=false→(
     aL))))∧((v6.1.param.kind==0)=false→(
    let v11:=mA ⟨v6.1.param.name,v6.1.param.kind,v6.1.param.min,v6.1.param.max,v6.1.param.enum,v6.1.param.e6,v6.1.param.safety⟩ aH
    (tI ⟨v6.1.param.name,v6.1.param.kind,v6.1.param.min,v6.1.param.max,v6.1.param.enum,v6.1.param.e6,v6.1.param.safety⟩ aH)∧
    ((v11 != 0)=false→(
     aL))))))))
noncomputable def sd(x0:Home)(an:List ck)(aH:aT)(aX:dF):(List cm):=
 bif((vM x0 aH) != 0)then
  []
 else
  bif(aH.kind==2)then
   ([⟨⟨aH.key.dev,aH.key.cG,aH.key.attr⟩,⟨aH.value.kind,aH.value.n,aH.value.s⟩,⟨aX.kind,aX.name,aX.priority⟩,0⟩]:List cm)
  else
   bif(aH.kind != 3)then
    []
   else
    let br:=mw x0 aH.key.dev aH.key.cG
    let v11:Int:=(List.length br.1.attrs:Int)
    Sum.elim (fun r=>r) (fun bl=>
     let bS:=vl br.1 aH.name ⟨aH.value.kind,aH.value.n,aH.value.s⟩ bl
     Sum.elim (fun r=>r) (fun aY=>
      aY.2)
     (c7 (fun(bW:Int × (List cm))=>
      show Step ((List cm)) (Int × (List cm))from
      bif((decide (bW.1<(List.length bS.1:Int)))&&(bS.2==0))then
       let aL:(List cm)→Step ((List cm)) (Int × (List cm)):=fun hs=>
        .bn ((IntKind.wrap .i64 (bW.1+(1:Int))),hs)
       let v22:az:=List.getD bS.1 (Int.toNat bW.1) (av .az)
       let v23:az:=List.getD bl (Int.toNat bW.1) (av .az)
       bif(!(bif v22.kind==v23.kind then bif v22.n==v23.n then cW v22.s v23.s else false else false))then
        let v26:az:=List.getD bS.1 (Int.toNat bW.1) (av .az)
        aL (List.append bW.2 ([⟨⟨aH.key.dev,br.1.name,(List.getD br.1.attrs (Int.toNat bW.1) (av .Attr)).name⟩,⟨v26.kind,v26.n,v26.s⟩,⟨aX.kind,aX.name,aX.priority⟩,0⟩]:List cm))
       else
        aL bW.2
      else
       .cN (bW.1,bW.2)) dG (0,[]):(List cm)⊕(Int × (List cm))))
    (bq (fun(i13:Nat) (cK:(List az))=>
     show Step ((List cm)) ((List az))from
     let cJ:=yW an ⟨aH.key.dev,br.1.name,(List.getD br.1.attrs (Int.toNat (i13:Int)) (av .Attr)).name⟩
     let aL:Int→Int→ByteArray→Step ((List cm)) ((List az)):=fun v20 v21 v22=>
      .bn (List.append cK ([⟨v20,v21,v22⟩]:List az))
     bif !cJ.2 then
      let v20:Attr:=List.getD br.1.attrs (Int.toNat (i13:Int)) (av .Attr)
      let v21:=yY v20
      aL v21.kind v21.n v21.s
     else
      aL cJ.1.value.kind cJ.1.value.n cJ.1.value.s) 0 (Int.toNat v11) []:(List cm)⊕((List az)))
def F2(x0:Home)(an:List ck)(aH:aT)(aX:dF):Prop:=
 (Cd x0 aH)∧
 (((vM x0 aH) != 0)=false→(
  ((aH.kind==2)=false→(
   ((aH.kind != 3)=false→(
    let br:=mw x0 aH.key.dev aH.key.cG
    (yG x0 aH.key.dev aH.key.cG)∧
    let v11:Int:=(List.length br.1.attrs:Int)
    (0≤v11∧v11<(9223372036854775808:Int))∧
    let a1:(List az)→Prop:=fun bl=>
     let bS:=vl br.1 aH.name ⟨aH.value.kind,aH.value.n,aH.value.s⟩ bl
     (FR br.1 aH.name ⟨aH.value.kind,aH.value.n,aH.value.s⟩ bl)∧
     ∃(dw:(Int × (List cm))→Prop) (HN:(Int × (List cm))→Nat),dw (0,[])∧HN (0,[])<dG∧∀(d1:Int × (List cm)),dw d1→(
      (((decide (d1.1<(List.length bS.1:Int)))&&(bS.2==0))=true→(
       let aL:(List cm)→Prop:=fun hs=>
        dw ((IntKind.wrap .i64 (d1.1+(1:Int))),hs)∧HN ((IntKind.wrap .i64 (d1.1+(1:Int))),hs)<HN d1
       let v22:az:=List.getD bS.1 (Int.toNat d1.1) (av .az)
       (0≤d1.1∧d1.1<(List.length bS.1:Int))∧
       let v23:az:=List.getD bl (Int.toNat d1.1) (av .az)
       (0≤d1.1∧d1.1<(List.length bl:Int))∧
       ((!(bif v22.kind==v23.kind then bif v22.n==v23.n then cW v22.s v23.s else false else false))=true→(
        (0≤d1.1∧d1.1<(List.length br.1.attrs:Int))∧
        let v26:az:=List.getD bS.1 (Int.toNat d1.1) (av .az)
        (0≤d1.1∧d1.1<(List.length bS.1:Int))∧
        let qM:List cm:=([⟨⟨aH.key.dev,br.1.name,(List.getD br.1.attrs (Int.toNat d1.1) (av .Attr)).name⟩,⟨v26.kind,v26.n,v26.s⟩,⟨aX.kind,aX.name,aX.priority⟩,0⟩]:List cm)
        (List.length d1.2+List.length qM≤maxLen∧(List.length d1.2+List.length qM)*112≤140737488355328)∧
        aL (List.append d1.2 qM)))∧((!(bif v22.kind==v23.kind then bif v22.n==v23.n then cW v22.s v23.s else false else false))=false→(
        aL d1.2)))))
    ∃bA:Nat→((List az))→Prop,bA 0 []∧(∀(i13:Nat) (d0:(List az)),i13<Int.toNat v11→bA i13 d0→(
     let dQ:Attr:=List.getD br.1.attrs (Int.toNat (i13:Int)) (av .Attr)
     let cJ:=yW an ⟨aH.key.dev,br.1.name,dQ.name⟩
     (Ho an ⟨aH.key.dev,br.1.name,dQ.name⟩)∧
     let aL:Int→Int→ByteArray→Prop:=fun v20 v21 v22=>
      let v23:List az:=([⟨v20,v21,v22⟩]:List az)
      (List.length d0+List.length v23≤maxLen∧(List.length d0+List.length v23)*32≤140737488355328)∧
      bA (i13+1) (List.append d0 v23)
     ((!cJ.2)=true→(
      let v20:Attr:=List.getD br.1.attrs (Int.toNat (i13:Int)) (av .Attr)
      let v21:=yY v20
      (QO v20)∧
      aL v21.kind v21.n v21.s))∧((!cJ.2)=false→(
      aL cJ.1.value.kind cJ.1.value.n cJ.1.value.s))))∧∀bl,bA (Int.toNat v11) bl→a1 bl))))))
noncomputable def Bv(x0:Home)(an:List ck)(aH:Case):Bool:=
 let v10:Bool:=((decide ((List.length x0.bB:Int)>100))||(decide ((List.length x0.bs:Int)>30)))||(decide ((List.length an:Int)>100))
 let aL:Bool→Bool:=fun v11=>
  bif(v10||v11)then
   (Cv)
  else
   let bS:=y0 x0 an ⟨aH.a.request.kind,aH.a.request.e5,⟨aH.a.request.key.dev,aH.a.request.key.cG,aH.a.request.key.attr⟩,aH.a.request.name,⟨aH.a.request.value.kind,aH.a.request.value.n,aH.a.request.value.s⟩,aH.a.request.text⟩ ⟨3,⟨#[97,110,110]⟩,50⟩
   let eY:=sd x0 an ⟨aH.a.request.kind,aH.a.request.e5,⟨aH.a.request.key.dev,aH.a.request.key.cG,aH.a.request.key.attr⟩,aH.a.request.name,⟨aH.a.request.value.kind,aH.a.request.value.n,aH.a.request.value.s⟩,aH.a.request.text⟩ ⟨3,⟨#[97,110,110]⟩,50⟩
   let dQ:=x7 bS eY
   let aL:Bool→Bool:=fun cJ=>
    (dQ&&cJ)
   bif dQ then
    aL (Cv)
   else
    aL false
 bif v10 then
  aL false
 else
  aL (Bw aH)
def O6(x0:Home)(an:List ck)(aH:Case):Prop:=
 let v10:Bool:=((decide ((List.length x0.bB:Int)>100))||(decide ((List.length x0.bs:Int)>30)))||(decide ((List.length an:Int)>100))
 let aL:Bool→Prop:=fun v11=>
  ((v10||v11)=true→(
   yS))∧((v10||v11)=false→(
   let bS:=y0 x0 an ⟨aH.a.request.kind,aH.a.request.e5,⟨aH.a.request.key.dev,aH.a.request.key.cG,aH.a.request.key.attr⟩,aH.a.request.name,⟨aH.a.request.value.kind,aH.a.request.value.n,aH.a.request.value.s⟩,aH.a.request.text⟩ ⟨3,⟨#[97,110,110]⟩,50⟩
   (F1 x0 an ⟨aH.a.request.kind,aH.a.request.e5,⟨aH.a.request.key.dev,aH.a.request.key.cG,aH.a.request.key.attr⟩,aH.a.request.name,⟨aH.a.request.value.kind,aH.a.request.value.n,aH.a.request.value.s⟩,aH.a.request.text⟩ ⟨3,⟨#[97,110,110]⟩,50⟩)∧
   let eY:=sd x0 an ⟨aH.a.request.kind,aH.a.request.e5,⟨aH.a.request.key.dev,aH.a.request.key.cG,aH.a.request.key.attr⟩,aH.a.request.name,⟨aH.a.request.value.kind,aH.a.request.value.n,aH.a.request.value.s⟩,aH.a.request.text⟩ ⟨3,⟨#[97,110,110]⟩,50⟩
   (F2 x0 an ⟨aH.a.request.kind,aH.a.request.e5,⟨aH.a.request.key.dev,aH.a.request.key.cG,aH.a.request.key.attr⟩,aH.a.request.name,⟨aH.a.request.value.kind,aH.a.request.value.n,aH.a.request.value.s⟩,aH.a.request.text⟩ ⟨3,⟨#[97,110,110]⟩,50⟩)∧
   let dQ:=x7 bS eY
   (FO bS eY)∧
   (dQ=true→(
    yS))))
 (v10=true→(
  aL false))∧(v10=false→(
  (Hg aH)∧
  aL (Bw aH)))
end Go.aO
