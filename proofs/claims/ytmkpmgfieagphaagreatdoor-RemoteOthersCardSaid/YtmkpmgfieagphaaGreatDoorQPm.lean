/- Models, printed. Conditions: none. -/
import Derived.Test.YtmkpmgfieagphaaGreatDoorQTEk
open Go Go.aK Go.eO
namespace Go.aK
def FY{α:Type}[Inhabited α]:List α→Nat→α
 |[],_=>default
 |[x],_=>x
 |x::l,n=>bif Nat.beq n 0 then x else FY l (n-1)
noncomputable def fY(x0:Int):ByteArray:=
 Sum.elim (fun r=>r) (fun bP=>
  (bytesOf (List.append bP.2 ([(IntKind.wrap .u8 bP.1)]:List Int))))
 (c5 (fun(aW:Int × (List Int))=>
  show Step (ByteArray) (Int × (List Int))from
  bif(decide (aW.1≥128))then
   .bq ((bu .shr .u64 aW.1 (7:Int)),(List.append aW.2 ([(bu .or .u8 (IntKind.wrap .u8 aW.1) (128:Int))]:List Int)))
  else
   .cK (aW.1,aW.2)) dT ((bu .xor .u64 (bu .shl .u64 (IntKind.wrap .u64 x0) (1:Int)) (IntKind.wrap .u64 (bu .shr .i64 x0 (63:Int)))),[]):ByteArray⊕(Int × (List Int)))
def n4(x0:Int):Prop:=
 let aX:(Int × (List Int))→Prop:=fun bP=>
  let v9:List Int:=([(IntKind.wrap .u8 bP.1)]:List Int)
  List.length bP.2+List.length v9≤maxLen∧(List.length bP.2+List.length v9)*1≤140737488355328
 ∃(bx:(Int × (List Int))→Prop) (gU:(Int × (List Int))→Nat),bx ((bu .xor .u64 (bu .shl .u64 (IntKind.wrap .u64 x0) (1:Int)) (IntKind.wrap .u64 (bu .shr .i64 x0 (63:Int)))),[])∧gU ((bu .xor .u64 (bu .shl .u64 (IntKind.wrap .u64 x0) (1:Int)) (IntKind.wrap .u64 (bu .shr .i64 x0 (63:Int)))),[])<dT∧∀(d0:Int × (List Int)),bx d0→(
  ((decide (d0.1≥128))=true→(
   let v11:List Int:=([(bu .or .u8 (IntKind.wrap .u8 d0.1) (128:Int))]:List Int)
   (List.length d0.2+List.length v11≤maxLen∧(List.length d0.2+List.length v11)*1≤140737488355328)∧
   bx ((bu .shr .u64 d0.1 (7:Int)),(List.append d0.2 v11))∧gU ((bu .shr .u64 d0.1 (7:Int)),(List.append d0.2 v11))<gU d0))∧((decide (d0.1≥128))=false→(
   aX (d0.1,d0.2))))
noncomputable def ig(x0:ByteArray):ByteArray:=
 (ByteArray.append (fY (ByteArray.size x0:Int)) x0)
def rO(x0:ByteArray):Prop:=
 let v1:Int:=(ByteArray.size x0:Int)
 let v2:=fY v1
 (n4 v1)∧
 ByteArray.size v2+ByteArray.size x0≤9223372036854775807
noncomputable def rP(x0:Int):Bool:=
 ((decide (x0≥(-1099511627776)))&&(decide (x0≤1099511627776)))
noncomputable def mm(x0:cY):Int:=
 let bN:Bool→Int:=fun v1=>
  bif !v1 then
   2
  else
   bif(decide ((ByteArray.size x0.s:Int)>60))then
    3
   else
    bif((cC .neq x0.s (⟨#[]⟩:ByteArray))&&(x0.kind != 4))then
     4
    else
     0
 let aL:Bool→Int:=fun v1=>
  bif v1 then
   bN (x0.n==0)
  else
   bif(x0.kind==1)then
    bN ((x0.n==0)||(x0.n==1))
   else
    bif(x0.kind==2)then
     bN (rP x0.n)
    else
     bif(x0.kind==3)then
      bN ((decide (x0.n≥0))&&(decide (x0.n≤63)))
     else
      7
 let v1:=x0.kind==0
 bif v1 then
  aL v1
 else
  aL (x0.kind==4)
noncomputable def pt(x0:cY):ByteArray:=
 let aL:Int→Int→ByteArray→ByteArray:=fun v3 v4 v5=>
  let v6:=fY v3
  let bN:ByteArray→ByteArray:=fun bD=>
   bD
  let aL:Bool→ByteArray:=fun bD=>
   bif bD then
    bN (ByteArray.append v6 (fY v4))
   else
    bif(v3==4)then
     bN (ByteArray.append v6 (ig v5))
    else
     bN v6
  let bD:=v3==1
  bif bD then
   aL bD
  else
   let bs:=v3==2
   bif bs then
    aL bs
   else
    aL (v3==3)
 bif((mm x0) != 0)then
  aL (0:Int) (0:Int) (⟨#[]⟩:ByteArray)
 else
  aL x0.kind x0.n x0.s
def E6(x0:cY):Prop:=
 let aL:Int→Int→ByteArray→Prop:=fun v3 v4 v5=>
  let v6:=fY v3
  (n4 v3)∧
  let aL:Bool→Prop:=fun bD=>
   (bD=true→(
    let v9:=fY v4
    (n4 v4)∧
    ByteArray.size v6+ByteArray.size v9≤9223372036854775807))∧(bD=false→(
    ((v3==4)=true→(
     let v10:=ig v5
     (rO v5)∧
     ByteArray.size v6+ByteArray.size v10≤9223372036854775807))))
  let bD:=v3==1
  (bD=true→(
   aL bD))∧(bD=false→(
   let bs:=v3==2
   (bs=true→(
    aL bs))∧(bs=false→(
    aL (v3==3)))))
 (((mm x0) != 0)=true→(
  aL (0:Int) (0:Int) (⟨#[]⟩:ByteArray)))∧(((mm x0) != 0)=false→(
  aL x0.kind x0.n x0.s))
noncomputable def qx(x0:b3):ByteArray:=
 let b4:=ByteArray.append (ByteArray.append (ByteArray.append (ByteArray.append (ByteArray.append (ByteArray.append (fY x0.kind) (fY x0.dS)) (fY x0.key.dev)) (ig x0.key.dc)) (ig x0.key.attr)) (ig x0.name)) (pt ⟨x0.value.kind,x0.value.n,x0.value.s⟩)
 (ByteArray.append b4 (ig x0.text))
def xX(x0:b3):Prop:=
 let v1:=fY x0.kind
 (n4 x0.kind)∧
 let v2:=fY x0.dS
 (n4 x0.dS)∧
 let v3:=ByteArray.append v1 v2
 (ByteArray.size v1+ByteArray.size v2≤9223372036854775807)∧
 let v4:=fY x0.key.dev
 (n4 x0.key.dev)∧
 let v5:=ByteArray.append v3 v4
 (ByteArray.size v3+ByteArray.size v4≤9223372036854775807)∧
 let v6:=ig x0.key.dc
 (rO x0.key.dc)∧
 let bD:=ByteArray.append v5 v6
 (ByteArray.size v5+ByteArray.size v6≤9223372036854775807)∧
 let bs:=ig x0.key.attr
 (rO x0.key.attr)∧
 let v9:=ByteArray.append bD bs
 (ByteArray.size bD+ByteArray.size bs≤9223372036854775807)∧
 let v10:=ig x0.name
 (rO x0.name)∧
 let v11:=ByteArray.append v9 v10
 (ByteArray.size v9+ByteArray.size v10≤9223372036854775807)∧
 let v12:=pt ⟨x0.value.kind,x0.value.n,x0.value.s⟩
 (E6 ⟨x0.value.kind,x0.value.n,x0.value.s⟩)∧
 let b4:=ByteArray.append v11 v12
 (ByteArray.size v11+ByteArray.size v12≤9223372036854775807)∧
 let cU:=ig x0.text
 (rO x0.text)∧
 ByteArray.size b4+ByteArray.size cU≤9223372036854775807
noncomputable def m6(x0:Rd):Rd × Int:=
 bif !x0.made then
  (x0,15)
 else
  (x0,x0.err)
noncomputable def xR(x0:ByteArray):Int × Int × Int:=
 let v1:Int:=(ByteArray.size x0:Int)
 Sum.elim (fun r=>r) (fun _=>
  (0,0,5))
 (bo (fun(i3:Nat) (aW:Int)=>
  show Step (Int × Int × Int) (Int)from
  let v5:Int:=ew x0 (i3:Int)
  bif(((decide ((i3:Int)>0))&&(v5==0))||(((i3:Int)==9)&&(decide (v5>1))))then
   .ret (0,0,4)
  else
   let dG:Int:=bu .or .u64 aW (bu .shl .u64 (IntKind.wrap .u64 (bu .and .u8 v5 (127:Int))) (IntKind.wrap .i64 ((7:Int)*(i3:Int))))
   bif(decide (v5<128))then
    .ret (dG,(IntKind.wrap .i64 ((i3:Int)+(1:Int))),0)
   else
    .bq dG) 0 (Int.toNat v1) 0:(Int × Int × Int)⊕(Int))
def E2(x0:ByteArray):Prop:=
 let v1:Int:=(ByteArray.size x0:Int)
 (0≤v1∧v1<(9223372036854775808:Int))∧
 ∃bx:Nat→(Int)→Prop,bx 0 0∧∀(i3:Nat) (d0:Int),i3<Int.toNat v1→bx i3 d0→(
  let v5:Int:=ew x0 (i3:Int)
  ((((decide ((i3:Int)>0))&&(v5==0))||(((i3:Int)==9)&&(decide (v5>1))))=false→(
   let cU:Int:=IntKind.wrap .u64 (bu .and .u8 v5 (127:Int))
   let eS:Int:=IntKind.wrap .i64 ((7:Int)*(i3:Int))
   (0≤eS)∧
   let dG:Int:=bu .or .u64 d0 (bu .shl .u64 cU eS)
   ((decide (v5<128))=false→(
    bx (i3+1) dG)))))
noncomputable def gV(x0:Rd):Rd × Int:=
 let v1:=m6 x0
 bif(v1.2 != 0)then
  (v1.1,0)
 else
  let v5:=xR v1.1.rest
  bif(v5.2.2 != 0)then
   (⟨v1.1.rest,v5.2.2,v1.1.made⟩,0)
  else
   (⟨(m9 v1.1.rest (some v5.2.1) none),v1.1.err,v1.1.made⟩,(bu .xor .i64 (IntKind.wrap .i64 (bu .shr .u64 v5.1 (1:Int))) (IntKind.wrap .i64 (0-(IntKind.wrap .i64 (bu .and .u64 v5.1 (1:Int)))))))
def m7(x0:Rd):Prop:=
 let v1:=m6 x0
 ((v1.2 != 0)=false→(
  let v5:=xR v1.1.rest
  (E2 v1.1.rest)∧
  ((v5.2.2 != 0)=false→(
   ju (ByteArray.size v1.1.rest) (some v5.2.1) none))))
noncomputable def xT(x0:Rd)(ao:Int):Rd × Int:=
 let v2:=gV x0
 let v5:=m6 v2.1
 bif(v5.2 != 0)then
  (v5.1,0)
 else
  bif(decide (v2.2<0))then
   (⟨v5.1.rest,4,v5.1.made⟩,0)
  else
   bif(decide (v2.2>(cA.den (.mx .i64) ao (0:Int))))then
    (⟨v5.1.rest,3,v5.1.made⟩,0)
   else
    (v5.1,v2.2)
def E3(x0:Rd)(_:Int):Prop:=
 let _:=gV x0
 m7 x0
noncomputable def ix(x0:Rd)(ao:Int):Rd × ByteArray:=
 let v2:=xT x0 ao
 let v5:=m6 v2.1
 bif(v5.2 != 0)then
  (v5.1,⟨#[]⟩)
 else
  bif(decide (v2.2>(ByteArray.size v5.1.rest:Int)))then
   (⟨v5.1.rest,5,v5.1.made⟩,⟨#[]⟩)
  else
   (⟨(m9 v5.1.rest (some v2.2) none),v5.1.err,v5.1.made⟩,(m9 v5.1.rest none (some v2.2)))
def rR(x0:Rd)(ao:Int):Prop:=
 let v2:=xT x0 ao
 (E3 x0 ao)∧
 let v5:=m6 v2.1
 ((v5.2 != 0)=false→(
  ((decide (v2.2>(ByteArray.size v5.1.rest:Int)))=false→(
   (ju (ByteArray.size v5.1.rest) none (some v2.2))∧
   ju (ByteArray.size v5.1.rest) (some v2.2) none))))
noncomputable def AZ(x0:Rd)(ao:Int):Rd:=
 let v2:=m6 x0
 bif(v2.2==0)then
  ⟨v2.1.rest,ao,v2.1.made⟩
 else
  v2.1
noncomputable def u9(x0:Rd):Rd × cY:=
 let v1:=gV x0
 let bN:Int→ByteArray→ByteArray→Int→Bool→Rd × cY:=fun v6 bD bs v9 v10=>
  let aL:ByteArray→Int→Bool→Rd × cY:=fun b4 cU eS=>
   let de:=m6 ⟨b4,cU,eS⟩
   bif(de.2 != 0)then
    (de.1,⟨0,0,⟨#[]⟩⟩)
   else
    (de.1,⟨v1.2,v6,bD⟩)
  bif((mm ⟨v1.2,v6,bD⟩) != 0)then
   let b4:=AZ ⟨bs,v9,v10⟩ (4:Int)
   aL b4.rest b4.err b4.made
  else
   aL bs v9 v10
 let aL:Bool→Rd × cY:=fun v4=>
  bif v4 then
   let v6:=gV v1.1
   bN v6.2 (⟨#[]⟩:ByteArray) v6.1.rest v6.1.err v6.1.made
  else
   bif(v1.2==4)then
    let bD:=ix v1.1 (60:Int)
    bN (0:Int) bD.2 bD.1.rest bD.1.err bD.1.made
   else
    bN (0:Int) (⟨#[]⟩:ByteArray) v1.1.rest v1.1.err v1.1.made
 let v4:=v1.2==1
 bif v4 then
  aL v4
 else
  let v5:=v1.2==2
  bif v5 then
   aL v5
  else
   aL (v1.2==3)
def A0(x0:Rd):Prop:=
 let v1:=gV x0
 (m7 x0)∧
 let aL:Bool→Prop:=fun v4=>
  (v4=true→(
   let _:=gV v1.1
   m7 v1.1))∧(v4=false→(
   ((v1.2==4)=true→(
    let _:=ix v1.1 (60:Int)
    rR v1.1 (60:Int)))))
 let v4:=v1.2==1
 (v4=true→(
  aL v4))∧(v4=false→(
  let v5:=v1.2==2
  (v5=true→(
   aL v5))∧(v5=false→(
   aL (v1.2==3)))))
noncomputable def OO(x0:Rd):Rd × Int:=
 let v1:=m6 x0
 bif(v1.2 != 0)then
  (v1.1,0)
 else
  (v1.1,(ByteArray.size v1.1.rest:Int))
noncomputable def BN(x0:Rd):Rd × Int:=
 let v1:=OO x0
 bif(decide (v1.2>0))then
  (v1.1,23)
 else
  let v5:=m6 v1.1
  (v5.1,v5.2)
noncomputable def BO(x0:b3):Int:=
 bif((decide (x0.kind<1))||(decide (x0.kind>7)))then
  7
 else
  0
noncomputable def BP(x0:b3):Int:=
 bif((decide (x0.dS<0))||(decide (x0.dS>1099511627776)))then
  2
 else
  0
noncomputable def tA(x0:ByteArray):b3 × Int:=
 let v1:=gV ⟨x0,0,true⟩
 let v4:=gV v1.1
 let bD:=gV v4.1
 let v10:=ix bD.1 (24:Int)
 let b4:=ix v10.1 (24:Int)
 let de:=ix b4.1 (24:Int)
 let cF:=u9 de.1
 let v22:=ix cF.1 (20000:Int)
 let aL:Int→b3 × Int:=fun v25=>
  bif(v25 != 0)then
   (⟨0,0,⟨0,⟨#[]⟩,⟨#[]⟩⟩,⟨#[]⟩,⟨0,0,⟨#[]⟩⟩,⟨#[]⟩⟩,v25)
  else
   (⟨v1.2,v4.2,⟨bD.2,v10.2,b4.2⟩,de.2,⟨cF.2.kind,cF.2.n,cF.2.s⟩,v22.2⟩,0)
 let v25:=BN v22.1
 bif(v25.2 != 0)then
  aL v25.2
 else
  let iz:=BO ⟨v1.2,v4.2,⟨bD.2,v10.2,b4.2⟩,de.2,⟨cF.2.kind,cF.2.n,cF.2.s⟩,v22.2⟩
  bif(iz != 0)then
   aL iz
  else
   let v31:=BP ⟨v1.2,v4.2,⟨bD.2,v10.2,b4.2⟩,de.2,⟨cF.2.kind,cF.2.n,cF.2.s⟩,v22.2⟩
   bif(v31 != 0)then
    aL v31
   else
    aL (0:Int)
def vg(x0:ByteArray):Prop:=
 let v1:=gV ⟨x0,0,true⟩
 (m7 ⟨x0,0,true⟩)∧
 let v4:=gV v1.1
 (m7 v1.1)∧
 let bD:=gV v4.1
 (m7 v4.1)∧
 let v10:=ix bD.1 (24:Int)
 (rR bD.1 (24:Int))∧
 let b4:=ix v10.1 (24:Int)
 (rR v10.1 (24:Int))∧
 let de:=ix b4.1 (24:Int)
 (rR b4.1 (24:Int))∧
 let cF:=u9 de.1
 (A0 de.1)∧
 let _:=ix cF.1 (20000:Int)
 rR cF.1 (20000:Int)
noncomputable def F0(x0:Int):Bool:=
 ((decide (x0≥97))&&(decide (x0≤122)))
noncomputable def ih(x0:ByteArray):Bool:=
 bif((decide ((ByteArray.size x0:Int)<1))||(decide ((ByteArray.size x0:Int)>24)))then
  false
 else
  Sum.elim (fun r=>r) (fun _=>
   true)
  (c5 (fun(aW:Int)=>
   show Step (Bool) (Int)from
   let v9:Int:=cA.den .lM x0 aW
   bif(cA.den .lL x0 aW)then
    bif((!(F0 v9))&&(((cA.den .lN x0 aW)==0)||(((v9 != 95)&&(v9 != 45))&&((decide (v9<48))||(decide (v9>57))))))then
     .ret false
    else
     .bq (cA.den .kD x0 aW)
   else
    .cK aW) dT 0:Bool⊕(Int))
def m8(x0:ByteArray):Prop:=
 (((decide ((ByteArray.size x0:Int)<1))||(decide ((ByteArray.size x0:Int)>24)))=false→(
  ∃(bx:(Int)→Prop) (gU:(Int)→Nat),bx 0∧gU 0<dT∧∀(d0:Int),bx d0→(
   let v9:Int:=cA.den .lM x0 d0
   ((cA.den .lL x0 d0)=true→(
    (((!(F0 v9))&&(((cA.den .lN x0 d0)==0)||(((v9 != 95)&&(v9 != 45))&&((decide (v9<48))||(decide (v9>57))))))=false→(
     bx (cA.den .kD x0 d0)∧gU (cA.den .kD x0 d0)<gU d0)))))))
noncomputable def u7(x0:cY):Int:=
 let bN:Int→Int→Int:=fun v1 v2=>
  bif((decide (x0.n<v1))||(decide (x0.n>v2)))then
   2
  else
   bif(decide ((ByteArray.size x0.s:Int)>60))then
    3
   else
    bif((cC .neq x0.s (⟨#[]⟩:ByteArray))&&(x0.kind != 4))then
     4
    else
     0
 let aL:Bool→Int:=fun v1=>
  bif v1 then
   bN (0:Int) (0:Int)
  else
   bif(x0.kind==1)then
    bN (0:Int) (1:Int)
   else
    bif(x0.kind==2)then
     bN ((-1099511627776):Int) (1099511627776:Int)
    else
     bif(x0.kind==3)then
      bN (0:Int) (63:Int)
     else
      7
 let v1:=x0.kind==0
 bif v1 then
  aL v1
 else
  aL (x0.kind==4)
noncomputable def jN(x0:Int):ByteArray:=
 let v2:Int:=bu .shl .u64 (IntKind.wrap .u64 x0) (1:Int)
 let aL:Int→ByteArray:=fun v3=>
  Sum.elim (fun r=>r) (fun bP=>
   (bytesOf (List.append bP.2 ([(IntKind.wrap .u8 bP.1)]:List Int))))
  (c5 (fun(aW:Int × (List Int))=>
   show Step (ByteArray) (Int × (List Int))from
   bif(decide (aW.1≥128))then
    .bq ((bu .quo .u64 aW.1 (128:Int)),(List.append aW.2 ([(IntKind.wrap .u8 ((IntKind.wrap .u8 (bu .rem .u64 aW.1 (128:Int)))+(128:Int)))]:List Int)))
   else
    .cK (aW.1,aW.2)) dT (v3,[]):ByteArray⊕(Int × (List Int)))
 bif(decide (x0<0))then
  aL (gD.den (.tB .u64) v2)
 else
  aL v2
def pn(x0:Int):Prop:=
 let v2:Int:=bu .shl .u64 (IntKind.wrap .u64 x0) (1:Int)
 let aL:Int→Prop:=fun v3=>
  let aX:(Int × (List Int))→Prop:=fun bP=>
   let bs:List Int:=([(IntKind.wrap .u8 bP.1)]:List Int)
   List.length bP.2+List.length bs≤maxLen∧(List.length bP.2+List.length bs)*1≤140737488355328
  ∃(bx:(Int × (List Int))→Prop) (gU:(Int × (List Int))→Nat),bx (v3,[])∧gU (v3,[])<dT∧∀(d0:Int × (List Int)),bx d0→(
   ((decide (d0.1≥128))=true→(
    let v11:List Int:=([(IntKind.wrap .u8 ((IntKind.wrap .u8 (bu .rem .u64 d0.1 (128:Int)))+(128:Int)))]:List Int)
    (List.length d0.2+List.length v11≤maxLen∧(List.length d0.2+List.length v11)*1≤140737488355328)∧
    bx ((bu .quo .u64 d0.1 (128:Int)),(List.append d0.2 v11))∧gU ((bu .quo .u64 d0.1 (128:Int)),(List.append d0.2 v11))<gU d0))∧((decide (d0.1≥128))=false→(
    aX (d0.1,d0.2))))
 ((decide (x0<0))=true→(
  aL (gD.den (.tB .u64) v2)))∧((decide (x0<0))=false→(
  aL v2))
noncomputable def qt(x0:ByteArray):ByteArray:=
 (ByteArray.append (jN (ByteArray.size x0:Int)) x0)
def AX(x0:ByteArray):Prop:=
 let v1:Int:=(ByteArray.size x0:Int)
 let v2:=jN v1
 (pn v1)∧
 ByteArray.size v2+ByteArray.size x0≤9223372036854775807
noncomputable def jO(x0:ByteArray):Bool:=
 let v3:Int:=(ByteArray.size x0:Int)
 bif((decide ((ByteArray.size x0:Int)<1))||(decide (v3>24)))then
  false
 else
  Sum.elim (fun r=>r) (fun _=>
   true)
  (bo (fun(i6:Nat) (_:Unit)=>
   show Step (Bool) (Unit)from
   let bs:Int:=ew x0 (i6:Int)
   bif((!((decide (bs≥97))&&(decide (bs≤122))))&&(((i6:Int)==0)||(((bs != 95)&&(bs != 45))&&((decide (bs<48))||(decide (bs>57))))))then
    .ret false
   else
    .bq ()) 0 (Int.toNat v3) ():Bool⊕(Unit))
def pr(x0:ByteArray):Prop:=
 let v3:Int:=(ByteArray.size x0:Int)
 (((decide ((ByteArray.size x0:Int)<1))||(decide (v3>24)))=false→(
  0≤v3∧v3<(9223372036854775808:Int)))
noncomputable def OP(x0:ByteArray):ByteArray:=
 let v1:Int:=(ByteArray.size x0:Int)
 Sum.elim (fun r=>r) (fun bP=>
  (bytesOf bP))
 (bo (fun(i3:Nat) (aW:(List Int))=>
  show Step (ByteArray) ((List Int))from
  let v11:List Int:=([(ew (⟨#[48,49,50,51,52,53,54,55,56,57,97,98,99,100,101,102]⟩:ByteArray) (bu .quo .u8 (ew x0 (i3:Int)) (16:Int))),(ew (⟨#[48,49,50,51,52,53,54,55,56,57,97,98,99,100,101,102]⟩:ByteArray) (bu .rem .u8 (ew x0 (i3:Int)) (16:Int)))]:List Int)
  .bq (List.append aW v11)) 0 (Int.toNat v1) []:ByteArray⊕((List Int)))
def Fv(x0:ByteArray):Prop:=
 let v1:Int:=(ByteArray.size x0:Int)
 (0≤v1∧v1<(9223372036854775808:Int))∧
 ∃bx:Nat→((List Int))→Prop,bx 0 []∧∀(i3:Nat) (d0:(List Int)),i3<Int.toNat v1→bx i3 d0→(
  let v6:Int:=bu .quo .u8 (ew x0 (i3:Int)) (16:Int)
  (0≤v6∧v6<(ByteArray.size (⟨#[48,49,50,51,52,53,54,55,56,57,97,98,99,100,101,102]⟩:ByteArray):Int))∧
  let v9:Int:=bu .rem .u8 (ew x0 (i3:Int)) (16:Int)
  (0≤v9∧v9<(ByteArray.size (⟨#[48,49,50,51,52,53,54,55,56,57,97,98,99,100,101,102]⟩:ByteArray):Int))∧
  let v11:List Int:=([(ew (⟨#[48,49,50,51,52,53,54,55,56,57,97,98,99,100,101,102]⟩:ByteArray) v6),(ew (⟨#[48,49,50,51,52,53,54,55,56,57,97,98,99,100,101,102]⟩:ByteArray) v9)]:List Int)
  (List.length d0+List.length v11≤maxLen∧(List.length d0+List.length v11)*1≤140737488355328)∧
  bx (i3+1) (List.append d0 v11))
noncomputable def Bb(x0:Int):Int:=
 (cA.den (.tC .i64) (cA.den (.mx .i64) x0 ((-1099511627776):Int)) (1099511627776:Int))
noncomputable def yq(x0:Int):Int:=
 Sum.elim (fun r=>r) (fun _=>
  (-1))
 (bo (fun(i17:Nat) (_:Unit)=>
  show Step (Int) (Unit)from
  let cF:Int:=FY ([(ew (⟨#[48,49,50,51,52,53,54,55,56,57,97,98,99,100,101,102]⟩:ByteArray) (0:Int)),(ew (⟨#[48,49,50,51,52,53,54,55,56,57,97,98,99,100,101,102]⟩:ByteArray) (1:Int)),(ew (⟨#[48,49,50,51,52,53,54,55,56,57,97,98,99,100,101,102]⟩:ByteArray) (2:Int)),(ew (⟨#[48,49,50,51,52,53,54,55,56,57,97,98,99,100,101,102]⟩:ByteArray) (3:Int)),(ew (⟨#[48,49,50,51,52,53,54,55,56,57,97,98,99,100,101,102]⟩:ByteArray) (4:Int)),(ew (⟨#[48,49,50,51,52,53,54,55,56,57,97,98,99,100,101,102]⟩:ByteArray) (5:Int)),(ew (⟨#[48,49,50,51,52,53,54,55,56,57,97,98,99,100,101,102]⟩:ByteArray) (6:Int)),(ew (⟨#[48,49,50,51,52,53,54,55,56,57,97,98,99,100,101,102]⟩:ByteArray) (7:Int)),(ew (⟨#[48,49,50,51,52,53,54,55,56,57,97,98,99,100,101,102]⟩:ByteArray) (8:Int)),(ew (⟨#[48,49,50,51,52,53,54,55,56,57,97,98,99,100,101,102]⟩:ByteArray) (9:Int)),(ew (⟨#[48,49,50,51,52,53,54,55,56,57,97,98,99,100,101,102]⟩:ByteArray) (10:Int)),(ew (⟨#[48,49,50,51,52,53,54,55,56,57,97,98,99,100,101,102]⟩:ByteArray) (11:Int)),(ew (⟨#[48,49,50,51,52,53,54,55,56,57,97,98,99,100,101,102]⟩:ByteArray) (12:Int)),(ew (⟨#[48,49,50,51,52,53,54,55,56,57,97,98,99,100,101,102]⟩:ByteArray) (13:Int)),(ew (⟨#[48,49,50,51,52,53,54,55,56,57,97,98,99,100,101,102]⟩:ByteArray) (14:Int)),(ew (⟨#[48,49,50,51,52,53,54,55,56,57,97,98,99,100,101,102]⟩:ByteArray) (15:Int))]:List Int) (Int.toNat (i17:Int))
  bif(cF==x0)then
   .ret (i17:Int)
  else
   .bq ()) 0 (Int.toNat (16:Int)) ():Int⊕(Unit))
def yd(_:Int):Prop:=
 (0≤(0:Int)∧(0:Int)<(ByteArray.size (⟨#[48,49,50,51,52,53,54,55,56,57,97,98,99,100,101,102]⟩:ByteArray):Int))∧
 (0≤(1:Int)∧(1:Int)<(ByteArray.size (⟨#[48,49,50,51,52,53,54,55,56,57,97,98,99,100,101,102]⟩:ByteArray):Int))∧
 (0≤(2:Int)∧(2:Int)<(ByteArray.size (⟨#[48,49,50,51,52,53,54,55,56,57,97,98,99,100,101,102]⟩:ByteArray):Int))∧
 (0≤(3:Int)∧(3:Int)<(ByteArray.size (⟨#[48,49,50,51,52,53,54,55,56,57,97,98,99,100,101,102]⟩:ByteArray):Int))∧
 (0≤(4:Int)∧(4:Int)<(ByteArray.size (⟨#[48,49,50,51,52,53,54,55,56,57,97,98,99,100,101,102]⟩:ByteArray):Int))∧
 (0≤(5:Int)∧(5:Int)<(ByteArray.size (⟨#[48,49,50,51,52,53,54,55,56,57,97,98,99,100,101,102]⟩:ByteArray):Int))∧
 (0≤(6:Int)∧(6:Int)<(ByteArray.size (⟨#[48,49,50,51,52,53,54,55,56,57,97,98,99,100,101,102]⟩:ByteArray):Int))∧
 (0≤(7:Int)∧(7:Int)<(ByteArray.size (⟨#[48,49,50,51,52,53,54,55,56,57,97,98,99,100,101,102]⟩:ByteArray):Int))∧
 (0≤(8:Int)∧(8:Int)<(ByteArray.size (⟨#[48,49,50,51,52,53,54,55,56,57,97,98,99,100,101,102]⟩:ByteArray):Int))∧
 (0≤(9:Int)∧(9:Int)<(ByteArray.size (⟨#[48,49,50,51,52,53,54,55,56,57,97,98,99,100,101,102]⟩:ByteArray):Int))∧
 (0≤(10:Int)∧(10:Int)<(ByteArray.size (⟨#[48,49,50,51,52,53,54,55,56,57,97,98,99,100,101,102]⟩:ByteArray):Int))∧
 (0≤(11:Int)∧(11:Int)<(ByteArray.size (⟨#[48,49,50,51,52,53,54,55,56,57,97,98,99,100,101,102]⟩:ByteArray):Int))∧
 (0≤(12:Int)∧(12:Int)<(ByteArray.size (⟨#[48,49,50,51,52,53,54,55,56,57,97,98,99,100,101,102]⟩:ByteArray):Int))∧
 (0≤(13:Int)∧(13:Int)<(ByteArray.size (⟨#[48,49,50,51,52,53,54,55,56,57,97,98,99,100,101,102]⟩:ByteArray):Int))∧
 (0≤(14:Int)∧(14:Int)<(ByteArray.size (⟨#[48,49,50,51,52,53,54,55,56,57,97,98,99,100,101,102]⟩:ByteArray):Int))∧
 0≤(15:Int)∧(15:Int)<(ByteArray.size (⟨#[48,49,50,51,52,53,54,55,56,57,97,98,99,100,101,102]⟩:ByteArray):Int)
noncomputable def n9(x0:ByteArray):ByteArray × Int:=
 let v1:Int:=(ByteArray.size x0:Int)
 bif((bu .rem .i64 v1 (2:Int)) != 0)then
  (⟨#[]⟩,4)
 else
  Sum.elim (fun r=>r) (fun bP=>
   ((bytesOf bP.2),0))
  (c5 (fun(aW:Int × (List Int))=>
   show Step (ByteArray × Int) (Int × (List Int))from
   bif(decide (aW.1<v1))then
    let v12:=yq (ew x0 aW.1)
    let b4:=yq (ew x0 (IntKind.wrap .i64 (aW.1+(1:Int))))
    bif((decide (v12<0))||(decide (b4<0)))then
     .ret (⟨#[]⟩,4)
    else
     .bq ((IntKind.wrap .i64 (aW.1+(2:Int))),(List.append aW.2 ([(IntKind.wrap .u8 (IntKind.wrap .i64 ((IntKind.wrap .i64 ((16:Int)*v12))+b4)))]:List Int)))
   else
    .cK (aW.1,aW.2)) dT (0,(List.replicate (Int.toNat (0:Int)) (aE .u8))):(ByteArray × Int)⊕(Int × (List Int)))
def Bl(x0:ByteArray):Prop:=
 let v1:Int:=(ByteArray.size x0:Int)
 (((bu .rem .i64 v1 (2:Int)) != 0)=false→(
  (0≤(0:Int)∧(0:Int)≤(bu .quo .i64 v1 (2:Int))∧(bu .quo .i64 v1 (2:Int))≤(maxLen:Int)∧(1:Int)*(bu .quo .i64 v1 (2:Int))≤281474976710656)∧
  ∃(bx:(Int × (List Int))→Prop) (gU:(Int × (List Int))→Nat),bx (0,(List.replicate (Int.toNat (0:Int)) (aE .u8)))∧gU (0,(List.replicate (Int.toNat (0:Int)) (aE .u8)))<dT∧∀(d0:Int × (List Int)),bx d0→(
   ((decide (d0.1<v1))=true→(
    let v9:Int:=ew x0 d0.1
    (0≤d0.1∧d0.1<(ByteArray.size x0:Int))∧
    let v10:Int:=IntKind.wrap .i64 (d0.1+(1:Int))
    let v11:Int:=ew x0 v10
    (0≤v10∧v10<(ByteArray.size x0:Int))∧
    let v12:=yq v9
    (yd v9)∧
    let b4:=yq v11
    (yd v11)∧
    (((decide (v12<0))||(decide (b4<0)))=false→(
     let v20:List Int:=([(IntKind.wrap .u8 (IntKind.wrap .i64 ((IntKind.wrap .i64 ((16:Int)*v12))+b4)))]:List Int)
     (List.length d0.2+List.length v20≤maxLen∧(List.length d0.2+List.length v20)*1≤140737488355328)∧
     bx ((IntKind.wrap .i64 (d0.1+(2:Int))),(List.append d0.2 v20))∧gU ((IntKind.wrap .i64 (d0.1+(2:Int))),(List.append d0.2 v20))<gU d0)))))))
noncomputable def vo(x0:List ByteArray)(ao:ByteArray):Int:=
 let v2:Int:=(List.length x0:Int)
 Sum.elim (fun r=>r) (fun _=>
  (-1))
 (bo (fun(i3:Nat) (_:Unit)=>
  show Step (Int) (Unit)from
  bif(cC .eql ao (List.getD x0 (Int.toNat (i3:Int)) (aE .str)))then
   .ret (i3:Int)
  else
   .bq ()) 0 (Int.toNat v2) ():Int⊕(Unit))
noncomputable def jv(x0:List ByteArray)(ao:ByteArray):Bool:=
 (decide ((vo x0 ao)≥0))
noncomputable def qy(x0:List ByteArray)(ao:ByteArray):Int:=
 (vo x0 ao)
noncomputable def vn(x0:List ByteArray):Int:=
 let v3:Int:=(List.length x0:Int)
 bif((decide ((List.length x0:Int)<1))||(decide (v3>64)))then
  3
 else
  Sum.elim (fun r=>r) (fun _=>
   0)
  (bo (fun(i6:Nat) (_:Unit)=>
   show Step (Int) (Unit)from
   let bs:ByteArray:=List.getD x0 (Int.toNat (i6:Int)) (aE .str)
   bif(!(ih bs))then
    .ret 10
   else
    bif(decide ((qy x0 bs)<(i6:Int)))then
     .ret 9
    else
     .bq ()) 0 (Int.toNat v3) ():Int⊕(Unit))
def A5(x0:List ByteArray):Prop:=
 let v3:Int:=(List.length x0:Int)
 (((decide ((List.length x0:Int)<1))||(decide (v3>64)))=false→(
  ∃bx:Nat→(Unit)→Prop,bx 0 ()∧∀(i6:Nat) (d0:Unit),i6<Int.toNat v3→bx i6 d0→(
   let bs:ByteArray:=List.getD x0 (Int.toNat (i6:Int)) (aE .str)
   (m8 bs)∧
   ((!(ih bs))=false→(
    ((decide ((qy x0 bs)<(i6:Int)))=false→(
     bx (i6+1) ())))))))
noncomputable def kE(x0:Attr):Int:=
 bif(!(ih x0.name))then
  10
 else
  bif((decide (x0.kind<1))||(decide (x0.kind>4)))then
   7
  else
   let bN:Int:=
    bif(x0.kind==3)then
     (vn x0.enum)
    else
     bif(decide ((List.length x0.enum:Int)>0))then
      4
     else
      0
   bif(x0.kind==2)then
    let bs:=!(rP x0.min)
    let aL:Bool→Int:=fun v9=>
     bif((bs||(!v9))||(decide (x0.min>x0.max)))then
      2
     else
      bN
    bif bs then
     aL false
    else
     aL (rP x0.max)
   else
    bif((x0.min != 0)||(x0.max != 0))then
     2
    else
     bN
def vl(x0:Attr):Prop:=
 (m8 x0.name)∧
 ((!(ih x0.name))=false→(
  (((decide (x0.kind<1))||(decide (x0.kind>4)))=false→(
   let bN:Prop:=
    ((x0.kind==3)=true→(
     A5 x0.enum))
   ((x0.kind==2)=true→(
    let bs:=!(rP x0.min)
    let aL:Bool→Prop:=fun v9=>
     (((bs||(!v9))||(decide (x0.min>x0.max)))=false→(
      bN))
    (bs=true→(
     aL false))∧(bs=false→(
     aL (rP x0.max)))))∧((x0.kind==2)=false→(
    (((x0.min != 0)||(x0.max != 0))=false→(
     bN))))))))
noncomputable def qA(x0:aN):Bool:=
 let v1:Int:=(List.length x0.commands:Int)
 Sum.elim (fun r=>r) (fun _=>
  (((decide ((List.length x0.attrs:Int)>12))||(decide ((List.length x0.commands:Int)>12)))||(decide ((List.length x0.events:Int)>12))))
 (bo (fun(i2:Nat) (_:Unit)=>
  show Step (Bool) (Unit)from
  bif(decide ((List.length ((List.getD x0.commands (Int.toNat (i2:Int)) (aE .Command)).gC):Int)>12))then
   .ret true
  else
   .bq ()) 0 (Int.toNat v1) ():Bool⊕(Unit))
noncomputable def tf(x0:Attr):Bool:=
 (((((((cC .eql x0.name (⟨#[]⟩:ByteArray))&&(x0.kind==0))&&(x0.min==0))&&(x0.max==0))&&((List.length x0.enum:Int)==0))&&(!x0.fA))&&(!x0.safety))
def BQ(x:List ByteArray):List ByteArray:=x
def vk(x:List ByteArray):Prop:=x.length≤maxLen∧x.length*16≤140737488355328
noncomputable def rU(x0:aN)(ao:ByteArray):Attr × Bool:=
 let v2:Int:=(List.length x0.attrs:Int)
 Sum.elim (fun r=>r) (fun _=>
  (⟨⟨#[]⟩,0,0,0,[],false,false⟩,false))
 (bo (fun(i3:Nat) (_:Unit)=>
  show Step (Attr × Bool) (Unit)from
  let v5:Attr:=List.getD x0.attrs (Int.toNat (i3:Int)) (aE .Attr)
  bif(cC .eql v5.name ao)then
   .ret (⟨v5.name,v5.kind,v5.min,v5.max,(BQ v5.enum),v5.fA,v5.safety⟩,true)
  else
   .bq ()) 0 (Int.toNat v2) ():(Attr × Bool)⊕(Unit))
def xZ(x0:aN)(ao:ByteArray):Prop:=
 let v2:Int:=(List.length x0.attrs:Int)
 ∃bx:Nat→(Unit)→Prop,bx 0 ()∧∀(i3:Nat) (d0:Unit),i3<Int.toNat v2→bx i3 d0→(
  let v5:Attr:=List.getD x0.attrs (Int.toNat (i3:Int)) (aE .Attr)
  ((cC .eql v5.name ao)=true→(
   vk v5.enum))∧((cC .eql v5.name ao)=false→(
   bx (i3+1) ())))
noncomputable def vq(x0:Attr)(ao:cY):Int:=
 let v2:=kE x0
 bif(v2 != 0)then
  v2
 else
  let v4:=mm ao
  bif(v4 != 0)then
   v4
  else
   bif(ao.kind != x0.kind)then
    11
   else
    let aL:Bool→Int:=fun bD=>
     bif bD then
      2
     else
      0
    let v11:Bool:=(ao.kind==2)&&((decide (ao.n<x0.min))||(decide (ao.n>x0.max)))
    bif v11 then
     aL v11
    else
     aL ((ao.kind==3)&&(decide (ao.n≥(List.length x0.enum:Int))))
def xY(x0:Attr)(_:cY):Prop:=
 let _:=kE x0
 vl x0
noncomputable def x4(x0:List ByteArray)(ao:List ByteArray):Bool:=
 let v2:Int:=(List.length x0:Int)
 bif(v2 != (List.length ao:Int))then
  false
 else
  Sum.elim (fun r=>r) (fun _=>
   true)
  (bo (fun(i5:Nat) (_:Unit)=>
   show Step (Bool) (Unit)from
   bif(cC .neq (List.getD x0 (Int.toNat (i5:Int)) (aE .str)) (List.getD ao (Int.toNat (i5:Int)) (aE .str)))then
    .ret false
   else
    .bq ()) 0 (Int.toNat v2) ():Bool⊕(Unit))
def Fa(x0:List ByteArray)(ao:List ByteArray):Prop:=
 let v2:Int:=(List.length x0:Int)
 ((v2 != (List.length ao:Int))=false→(
  ∃bx:Nat→(Unit)→Prop,bx 0 ()∧∀(i5:Nat) (d0:Unit),i5<Int.toNat v2→bx i5 d0→(
   (0≤(i5:Int)∧(i5:Int)<(List.length ao:Int))∧
   ((cC .neq (List.getD x0 (Int.toNat (i5:Int)) (aE .str)) (List.getD ao (Int.toNat (i5:Int)) (aE .str)))=false→(
    bx (i5+1) ())))))
noncomputable def Bc(x0:Attr)(ao:Attr):Bool:=
 let v2:=x0.kind==ao.kind
 let aL:Bool→Bool:=fun v3=>
  (v2&&v3)
 bif v2 then
  aL (x4 x0.enum ao.enum)
 else
  aL false
def Fb(x0:Attr)(ao:Attr):Prop:=
 let v2:=x0.kind==ao.kind
 (v2=true→(
  Fa x0.enum ao.enum))
noncomputable def Be(x0:cS)(ao:Attr)(bV:Attr):Bool:=
 bif(x0.kind==1)then
  let v4:=ao.kind != 4
  let aL:Int→Bool:=fun v5=>
   (v4&&(v5==0))
  bif v4 then
   aL (vq ao ⟨ao.kind,x0.n,⟨#[]⟩⟩)
  else
   aL (0:Int)
 else
  bif(x0.kind==2)then
   (Bc ao bV)
  else
   bif(x0.kind==3)then
    (ao.kind==2)
   else
    (ao.kind==1)
def A7(x0:cS)(ao:Attr)(bV:Attr):Prop:=
 ((x0.kind==1)=true→(
  let v4:=ao.kind != 4
  (v4=true→(
   xY ao ⟨ao.kind,x0.n,⟨#[]⟩⟩))))∧((x0.kind==1)=false→(
  ((x0.kind==2)=true→(
   Fb ao bV))))
noncomputable def px(x0:aN)(ao:Attr)(bV:cS):Int:=
 bif((decide (bV.kind<1))||(decide (bV.kind>4)))then
  7
 else
  let v6:=rU x0 bV.attr
  bif !v6.2 then
   8
  else
   bif !v6.1.fA then
    24
   else
    bif(!(Be bV v6.1 ao))then
     11
    else
     let b4:=bV.kind==3
     let aL:Int→Int:=fun cU=>
      bif(b4&&(cU != bV.n))then
       2
      else
       bif(((bV.kind==2)||(bV.kind==4))&&(bV.n != 0))then
        4
       else
        0
     bif b4 then
      aL (Bb bV.n)
     else
      aL (0:Int)
def A8(x0:aN)(ao:Attr)(bV:cS):Prop:=
 (((decide (bV.kind<1))||(decide (bV.kind>4)))=false→(
  let v6:=rU x0 bV.attr
  (xZ x0 bV.attr)∧
  ((!v6.2)=false→(
   ((!v6.1.fA)=false→(
    A7 bV v6.1 ao))))))
noncomputable def qz(x0:aN)(ao:Int):Int:=
 let v2:Command:=List.getD x0.commands (Int.toNat ao) (aE .Command)
 bif(!(ih v2.name))then
  10
 else
  let v5:=iy x0.commands none (some ao)
  let v6:Int:=(List.length v5:Int)
  Sum.elim (fun r=>r) (fun _=>
   let aL:Int:=
    let bs:Int:=(List.length v2.gC:Int)
    Sum.elim (fun r=>r) (fun _=>
     0)
    (bo (fun(i9:Nat) (_:Unit)=>
     show Step (Int) (Unit)from
     let v11:cS:=List.getD v2.gC (Int.toNat (i9:Int)) (aE .cS)
     let v12:=px x0 ⟨v2.param.name,v2.param.kind,v2.param.min,v2.param.max,v2.param.enum,v2.param.fA,v2.param.safety⟩ v11
     bif(v12 != 0)then
      .ret v12
     else
      .bq ()) 0 (Int.toNat bs) ():Int⊕(Unit))
   bif(v2.param.kind==0)then
    bif(!(tf ⟨v2.param.name,v2.param.kind,v2.param.min,v2.param.max,v2.param.enum,v2.param.fA,v2.param.safety⟩))then
     4
    else
     aL
   else
    let bs:=kE ⟨v2.param.name,v2.param.kind,v2.param.min,v2.param.max,v2.param.enum,v2.param.fA,v2.param.safety⟩
    bif(bs != 0)then
     bs
    else
     aL)
  (bo (fun(i7:Nat) (_:Unit)=>
   show Step (Int) (Unit)from
   bif(cC .eql ((List.getD v5 (Int.toNat (i7:Int)) (aE .Command)).name) v2.name)then
    .ret 9
   else
    .bq ()) 0 (Int.toNat v6) ():Int⊕(Unit))
def A9(x0:aN)(ao:Int):Prop:=
 let v2:Command:=List.getD x0.commands (Int.toNat ao) (aE .Command)
 (0≤ao∧ao<(List.length x0.commands:Int))∧
 (m8 v2.name)∧
 ((!(ih v2.name))=false→(
  let v5:=iy x0.commands none (some ao)
  (ju (List.length x0.commands) none (some ao))∧
  let v6:Int:=(List.length v5:Int)
  let aX:Unit→Prop:=fun _=>
   let aL:Prop:=
    let bs:Int:=(List.length v2.gC:Int)
    ∃ej:Nat→(Unit)→Prop,ej 0 ()∧∀(i9:Nat) (d1:Unit),i9<Int.toNat bs→ej i9 d1→(
     let v11:cS:=List.getD v2.gC (Int.toNat (i9:Int)) (aE .cS)
     let v12:=px x0 ⟨v2.param.name,v2.param.kind,v2.param.min,v2.param.max,v2.param.enum,v2.param.fA,v2.param.safety⟩ v11
     (A8 x0 ⟨v2.param.name,v2.param.kind,v2.param.min,v2.param.max,v2.param.enum,v2.param.fA,v2.param.safety⟩ v11)∧
     ((v12 != 0)=false→(
      ej (i9+1) ())))
   ((v2.param.kind==0)=true→(
    ((!(tf ⟨v2.param.name,v2.param.kind,v2.param.min,v2.param.max,v2.param.enum,v2.param.fA,v2.param.safety⟩))=false→(
     aL))))∧((v2.param.kind==0)=false→(
    let bs:=kE ⟨v2.param.name,v2.param.kind,v2.param.min,v2.param.max,v2.param.enum,v2.param.fA,v2.param.safety⟩
    (vl ⟨v2.param.name,v2.param.kind,v2.param.min,v2.param.max,v2.param.enum,v2.param.fA,v2.param.safety⟩)∧
    ((bs != 0)=false→(
     aL))))
  ∃bx:Nat→(Unit)→Prop,bx 0 ()∧(∀(i7:Nat) (d0:Unit),i7<Int.toNat v6→bx i7 d0→(
   ((cC .eql ((List.getD v5 (Int.toNat (i7:Int)) (aE .Command)).name) v2.name)=false→(
    bx (i7+1) ()))))∧∀bP,bx (Int.toNat v6) bP→aX bP))
noncomputable def py(x0:aN):Int:=
 bif(!(ih x0.name))then
  10
 else
  bif(qA x0)then
   3
  else
   let v4:Int:=(List.length x0.attrs:Int)
   Sum.elim (fun r=>r) (fun _=>
    let v5:Int:=(List.length x0.commands:Int)
    Sum.elim (fun r=>r) (fun _=>
     let v6:Int:=(List.length x0.events:Int)
     Sum.elim (fun r=>r) (fun _=>
      0)
     (bo (fun(i7:Nat) (_:Unit)=>
      show Step (Int) (Unit)from
      let v9:ByteArray:=List.getD x0.events (Int.toNat (i7:Int)) (aE .str)
      bif(!(ih v9))then
       .ret 10
      else
       bif(jv (iy x0.events none (some (i7:Int))) v9)then
        .ret 9
       else
        .bq ()) 0 (Int.toNat v6) ():Int⊕(Unit)))
    (bo (fun(i6:Nat) (_:Unit)=>
     show Step (Int) (Unit)from
     let bs:=qz x0 (i6:Int)
     bif(bs != 0)then
      .ret bs
     else
      .bq ()) 0 (Int.toNat v5) ():Int⊕(Unit)))
   (bo (fun(i5:Nat) (_:Unit)=>
    show Step (Int) (Unit)from
    let bD:Attr:=List.getD x0.attrs (Int.toNat (i5:Int)) (aE .Attr)
    let bs:=kE bD
    bif(bs != 0)then
     .ret bs
    else
     let v10:=iy x0.attrs none (some (i5:Int))
     let v11:Int:=(List.length v10:Int)
     Sum.elim (fun r=>r) (fun _=>
      .bq ())
     (bo (fun(i12:Nat) (_:Unit)=>
      show Step (Step (Int) (Unit)) (Unit)from
      bif(cC .eql ((List.getD v10 (Int.toNat (i12:Int)) (aE .Attr)).name) bD.name)then
       .ret (.ret 9)
      else
       .bq ()) 0 (Int.toNat v11) ():(Step (Int) (Unit))⊕(Unit))) 0 (Int.toNat v4) ():Int⊕(Unit))
def Fe(x0:aN):Prop:=
 (m8 x0.name)∧
 ((!(ih x0.name))=false→(
  ((qA x0)=false→(
   let v4:Int:=(List.length x0.attrs:Int)
   let aX:Unit→Prop:=fun _=>
    let v5:Int:=(List.length x0.commands:Int)
    let fu:Unit→Prop:=fun _=>
     let v6:Int:=(List.length x0.events:Int)
     ∃kj:Nat→(Unit)→Prop,kj 0 ()∧∀(i7:Nat) (d2:Unit),i7<Int.toNat v6→kj i7 d2→(
      let v9:ByteArray:=List.getD x0.events (Int.toNat (i7:Int)) (aE .str)
      (m8 v9)∧
      ((!(ih v9))=false→(
       (ju (List.length x0.events) none (some (i7:Int)))∧
       ((jv (iy x0.events none (some (i7:Int))) v9)=false→(
        kj (i7+1) ())))))
    ∃ej:Nat→(Unit)→Prop,ej 0 ()∧(∀(i6:Nat) (d1:Unit),i6<Int.toNat v5→ej i6 d1→(
     let bs:=qz x0 (i6:Int)
     (A9 x0 (i6:Int))∧
     ((bs != 0)=false→(
      ej (i6+1) ()))))∧∀aW,ej (Int.toNat v5) aW→fu aW
   ∃bx:Nat→(Unit)→Prop,bx 0 ()∧(∀(i5:Nat) (d0:Unit),i5<Int.toNat v4→bx i5 d0→(
    let bD:Attr:=List.getD x0.attrs (Int.toNat (i5:Int)) (aE .Attr)
    let bs:=kE bD
    (vl bD)∧
    ((bs != 0)=false→(
     let v10:=iy x0.attrs none (some (i5:Int))
     (ju (List.length x0.attrs) none (some (i5:Int)))∧
     let v11:Int:=(List.length v10:Int)
     let kM:Unit→Prop:=fun _=>
      bx (i5+1) ()
     ∃lS:Nat→(Unit)→Prop,lS 0 ()∧(∀(i12:Nat) (d3:Unit),i12<Int.toNat v11→lS i12 d3→(
      ((cC .eql ((List.getD v10 (Int.toNat (i12:Int)) (aE .Attr)).name) bD.name)=false→(
       lS (i12+1) ()))))∧∀c9,lS (Int.toNat v11) c9→kM c9))))∧∀bP,bx (Int.toNat v4) bP→aX bP))))
noncomputable def pz(x0:List aN):Int:=
 let v1:Int:=(List.length x0:Int)
 bif(decide (v1>256))then
  3
 else
  Sum.elim (fun r=>r) (fun _=>
   0)
  (bo (fun(i3:Nat) (_:Unit)=>
   show Step (Int) (Unit)from
   let v5:aN:=List.getD x0 (Int.toNat (i3:Int)) (aE .aN)
   let v6:=py v5
   bif(v6 != 0)then
    .ret v6
   else
    let bs:=iy x0 none (some (i3:Int))
    let v9:Int:=(List.length bs:Int)
    Sum.elim (fun r=>r) (fun _=>
     .bq ())
    (bo (fun(i10:Nat) (_:Unit)=>
     show Step (Step (Int) (Unit)) (Unit)from
     bif(cC .eql ((List.getD bs (Int.toNat (i10:Int)) (aE .aN)).name) v5.name)then
      .ret (.ret 9)
     else
      .bq ()) 0 (Int.toNat v9) ():(Step (Int) (Unit))⊕(Unit))) 0 (Int.toNat v1) ():Int⊕(Unit))
def Ff(x0:List aN):Prop:=
 let v1:Int:=(List.length x0:Int)
 ((decide (v1>256))=false→(
  ∃bx:Nat→(Unit)→Prop,bx 0 ()∧∀(i3:Nat) (d0:Unit),i3<Int.toNat v1→bx i3 d0→(
   let v5:aN:=List.getD x0 (Int.toNat (i3:Int)) (aE .aN)
   let v6:=py v5
   (Fe v5)∧
   ((v6 != 0)=false→(
    let bs:=iy x0 none (some (i3:Int))
    (ju (List.length x0) none (some (i3:Int)))∧
    let v9:Int:=(List.length bs:Int)
    let fu:Unit→Prop:=fun _=>
     bx (i3+1) ()
    ∃ej:Nat→(Unit)→Prop,ej 0 ()∧(∀(i10:Nat) (d1:Unit),i10<Int.toNat v9→ej i10 d1→(
     ((cC .eql ((List.getD bs (Int.toNat (i10:Int)) (aE .aN)).name) v5.name)=false→(
      ej (i10+1) ()))))∧∀aW,ej (Int.toNat v9) aW→fu aW)))))
noncomputable def kh(x0:Home):(List (ByteArray × aN)):=
 let v2:Int:=(List.length x0.bH:Int)
 Sum.elim (fun r=>r) (fun bP=>
  bP)
 (bo (fun(i4:Nat) (aW:(List (ByteArray × aN)))=>
  show Step ((List (ByteArray × aN))) ((List (ByteArray × aN)))from
  let v6:aN:=List.getD x0.bH (Int.toNat (i4:Int)) (aE .aN)
  .bq (rX (.str) aW v6.name v6)) 0 (Int.toNat v2) ([]:List (ByteArray × aN)):(List (ByteArray × aN))⊕((List (ByteArray × aN))))
noncomputable def vt(x0:bR):Bool:=
 bif((((decide (x0.id<1))||(decide (x0.id>250)))||(decide (x0.n7<0)))||(decide (x0.n7>255)))then
  false
 else
  bif x0.n8 then
   ((decide (x0.kF≥4))&&(decide (x0.kF≤3600)))
  else
   (x0.kF==0)
noncomputable def rV(x0:bR)(ao:List (ByteArray × aN)):Int:=
 let v4:Int:=(List.length x0.bH:Int)
 bif((decide ((List.length x0.bH:Int)<1))||(decide (v4>4)))then
  3
 else
  Sum.elim (fun r=>r) (fun bP=>
   bif(decide (bP>24))then
    3
   else
    0)
  (bo (fun(i8:Nat) (aW:Int)=>
   show Step (Int) (Int)from
   let v10:ByteArray:=List.getD x0.bH (Int.toNat (i8:Int)) (aE .str)
   bif(!((jw (.str) ao v10).isSome))then
    .ret 8
   else
    bif(decide ((qy x0.bH v10)<(i8:Int)))then
     .ret 9
    else
     .bq (IntKind.wrap .i64 (aW+(List.length (((jw (.str) ao v10).getD (aE .aN)).attrs):Int)))) 0 (Int.toNat v4) 0:Int⊕(Int))
noncomputable def hP(x0:Home):Int:=
 let v1:=pz x0.bH
 bif(v1 != 0)then
  v1
 else
  let v3:Int:=(List.length x0.bw:Int)
  bif(decide (v3>20))then
   3
  else
   Sum.elim (fun r=>r) (fun _=>
    0)
   (bo (fun(i8:Nat) (aW:(List (Int × Bool)))=>
    show Step (Int) ((List (Int × Bool)))from
    let v10:bR:=List.getD x0.bw (Int.toNat (i8:Int)) (aE .bR)
    bif(!(vt v10))then
     .ret 2
    else
     bif((decide ((i8:Int)>0))&&(decide (v10.id≤((List.getD x0.bw (Int.toNat (IntKind.wrap .i64 ((i8:Int)-(1:Int)))) (aE .bR)).id))))then
      .ret 14
     else
      bif((jw (.int .u64) aW v10.gW).getD false)then
       .ret 9
      else
       bif(!(ih v10.room))then
        .ret 10
       else
        let v21:=rV v10 (kh x0)
        bif(v21 != 0)then
         .ret v21
        else
         .bq (rX (.int .u64) aW v10.gW true)) 0 (Int.toNat v3) ([]:List (Int × Bool)):Int⊕((List (Int × Bool))))
def x1(x0:Home):Prop:=
 let v1:=pz x0.bH
 (Ff x0.bH)∧
 ((v1 != 0)=false→(
  let v3:Int:=(List.length x0.bw:Int)
  ((decide (v3>20))=false→(
   ∃bx:Nat→((List (Int × Bool)))→Prop,bx 0 ([]:List (Int × Bool))∧∀(i8:Nat) (d0:(List (Int × Bool))),i8<Int.toNat v3→bx i8 d0→(
    let v10:bR:=List.getD x0.bw (Int.toNat (i8:Int)) (aE .bR)
    ((!(vt v10))=false→(
     let b4:=decide ((i8:Int)>0)
     let cU:Int:=IntKind.wrap .i64 ((i8:Int)-(1:Int))
     (b4=true→0≤cU∧cU<(List.length x0.bw:Int))∧
     ((b4&&(decide (v10.id≤((List.getD x0.bw (Int.toNat cU) (aE .bR)).id))))=false→(
      (((jw (.int .u64) d0 v10.gW).getD false)=false→(
       (m8 v10.room)∧
       ((!(ih v10.room))=false→(
        let v21:=rV v10 (kh x0)
        ((v21 != 0)=false→(
         bx (i8+1) (rX (.int .u64) d0 v10.gW true))))))))))))))))
noncomputable def F1(x0:b3):b3:=
 let bN:Int→ByteArray→ByteArray→ByteArray→Int→Int→ByteArray→ByteArray→b3:=fun v3 v4 v5 v6 bD bs v9 v10=>
  ⟨x0.kind,x0.dS,⟨v3,v4,v5⟩,v6,⟨bD,bs,v9⟩,v10⟩
 bif(x0.kind==1)then
  bN x0.key.dev x0.key.dc x0.key.attr (⟨#[]⟩:ByteArray) (0:Int) (0:Int) (⟨#[]⟩:ByteArray) (⟨#[]⟩:ByteArray)
 else
  bif(x0.kind==2)then
   bN x0.key.dev x0.key.dc x0.key.attr (⟨#[]⟩:ByteArray) x0.value.kind x0.value.n x0.value.s (⟨#[]⟩:ByteArray)
  else
   bif(x0.kind==3)then
    bN x0.key.dev x0.key.dc (⟨#[]⟩:ByteArray) x0.name x0.value.kind x0.value.n x0.value.s (⟨#[]⟩:ByteArray)
   else
    let aL:Bool→b3:=fun v4=>
     bif v4 then
      bN (0:Int) (⟨#[]⟩:ByteArray) (⟨#[]⟩:ByteArray) x0.name (0:Int) (0:Int) (⟨#[]⟩:ByteArray) (⟨#[]⟩:ByteArray)
     else
      bif(x0.kind==7)then
       bN (0:Int) (⟨#[]⟩:ByteArray) (⟨#[]⟩:ByteArray) (⟨#[]⟩:ByteArray) (0:Int) (0:Int) (⟨#[]⟩:ByteArray) x0.text
      else
       bN (0:Int) (⟨#[]⟩:ByteArray) (⟨#[]⟩:ByteArray) (⟨#[]⟩:ByteArray) (0:Int) (0:Int) (⟨#[]⟩:ByteArray) (⟨#[]⟩:ByteArray)
    let v4:=x0.kind==4
    bif v4 then
     aL v4
    else
     let v5:=x0.kind==5
     bif v5 then
      aL v5
     else
      aL (x0.kind==6)
noncomputable def lP(x0:Home)(ao:Int):bR × Bool:=
 bif((hP x0) != 0)then
  (⟨0,0,0,false,0,⟨#[]⟩,[]⟩,false)
 else
  let v4:Int:=(List.length x0.bw:Int)
  Sum.elim (fun r=>r) (fun _=>
   (⟨0,0,0,false,0,⟨#[]⟩,[]⟩,false))
  (bo (fun(i5:Nat) (_:Unit)=>
   show Step (bR × Bool) (Unit)from
   let bD:bR:=List.getD x0.bw (Int.toNat (i5:Int)) (aE .bR)
   bif(bD.id==ao)then
    .ret (bD,true)
   else
    .bq ()) 0 (Int.toNat v4) ():(bR × Bool)⊕(Unit))
def x2(x0:Home)(_:Int):Prop:=
 x1 x0
noncomputable def yr(x0:Home)(ao:dr):Attr × Bool:=
 let v2:=lP x0 ao.dev
 let aL:Int→Attr × Bool:=fun v6=>
  bif((!v2.2)||(decide (v6<0)))then
   (⟨⟨#[]⟩,0,0,0,[],false,false⟩,false)
  else
   let v10:aN:=(jw (.str) (kh x0) ao.dc).getD (aE .aN)
   let v11:=rU v10 ao.attr
   bif !v11.2 then
    (⟨⟨#[]⟩,0,0,0,[],false,false⟩,false)
   else
    (v11.1,true)
 bif !v2.2 then
  aL (0:Int)
 else
  aL (qy v2.1.bH ao.dc)
def Bi(x0:Home)(ao:dr):Prop:=
 let v2:=lP x0 ao.dev
 (x2 x0 ao.dev)∧
 let aL:Int→Prop:=fun v6=>
  (((!v2.2)||(decide (v6<0)))=false→(
   let v10:aN:=(jw (.str) (kh x0) ao.dc).getD (aE .aN)
   let _:=rU v10 ao.attr
   xZ v10 ao.attr))
 ((!v2.2)=true→(
  aL (0:Int)))∧((!v2.2)=false→(
  aL (qy v2.1.bH ao.dc)))
noncomputable def OQ(x0:Home)(ao:b3):Int:=
 let v2:=yr x0 ⟨ao.key.dev,ao.key.dc,ao.key.attr⟩
 bif !v2.2 then
  8
 else
  bif(ao.kind==1)then
   0
  else
   bif !v2.1.fA then
    24
   else
    (vq v2.1 ⟨ao.value.kind,ao.value.n,ao.value.s⟩)
def Bj(x0:Home)(ao:b3):Prop:=
 let v2:=yr x0 ⟨ao.key.dev,ao.key.dc,ao.key.attr⟩
 (Bi x0 ⟨ao.key.dev,ao.key.dc,ao.key.attr⟩)∧
 ((!v2.2)=false→(
  ((ao.kind==1)=false→(
   ((!v2.1.fA)=false→(
    xY v2.1 ⟨ao.value.kind,ao.value.n,ao.value.s⟩))))))
noncomputable def rY(x0:Home)(ao:Int)(bV:ByteArray):aN × Bool:=
 let eA:Int→aN × Bool:=fun v3=>
  bif(!(decide (v3≥0)))then
   (⟨⟨#[]⟩,[],[],[]⟩,false)
  else
   let bN:Int→aN × Bool:=fun v6=>
    bif(decide (v6<0))then
     (⟨⟨#[]⟩,[],[],[]⟩,false)
    else
     let bs:aN:=List.getD x0.bH (Int.toNat v6) (aE .aN)
     (bs,true)
   let v6:Int:=(List.length x0.bH:Int)
   Sum.elim (fun r=>r) (fun _=>
    bN ((-1):Int))
   (bo (fun(i7:Nat) (_:Unit)=>
    show Step (aN × Bool) (Unit)from
    bif(cC .eql ((List.getD x0.bH (Int.toNat (i7:Int)) (aE .aN)).name) bV)then
     .ret (bN (i7:Int))
    else
     .bq ()) 0 (Int.toNat v6) ():(aN × Bool)⊕(Unit))
 let v3:Int:=(List.length x0.bw:Int)
 Sum.elim (fun r=>r) (fun _=>
  eA ((-1):Int))
 (bo (fun(i4:Nat) (_:Unit)=>
  show Step (aN × Bool) (Unit)from
  let v6:bR:=List.getD x0.bw (Int.toNat (i4:Int)) (aE .bR)
  let bD:=v6.id==ao
  let aL:Bool→Step (aN × Bool) (Unit):=fun bs=>
   bif(bD&&bs)then
    .ret (eA (i4:Int))
   else
    .bq ()
  bif bD then
   aL (jv v6.bH bV)
  else
   aL false) 0 (Int.toNat v3) ():(aN × Bool)⊕(Unit))
def Fp(x0:Home)(ao:Int)(bV:ByteArray):Prop:=
 let eA:Int→Prop:=fun v3=>
  ((!(decide (v3≥0)))=false→(
   let bN:Int→Prop:=fun v6=>
    ((decide (v6<0))=false→(
     let _:aN:=List.getD x0.bH (Int.toNat v6) (aE .aN)
     0≤v6∧v6<(List.length x0.bH:Int)))
   let v6:Int:=(List.length x0.bH:Int)
   let aX:Unit→Prop:=fun _=>
    bN ((-1):Int)
   ∃bx:Nat→(Unit)→Prop,bx 0 ()∧(∀(i7:Nat) (d0:Unit),i7<Int.toNat v6→bx i7 d0→(
    ((cC .eql ((List.getD x0.bH (Int.toNat (i7:Int)) (aE .aN)).name) bV)=true→(
     bN (i7:Int)))∧((cC .eql ((List.getD x0.bH (Int.toNat (i7:Int)) (aE .aN)).name) bV)=false→(
     bx (i7+1) ()))))∧∀bP,bx (Int.toNat v6) bP→aX bP))
 let v3:Int:=(List.length x0.bw:Int)
 let fu:Unit→Prop:=fun _=>
  eA ((-1):Int)
 ∃ej:Nat→(Unit)→Prop,ej 0 ()∧(∀(i4:Nat) (d1:Unit),i4<Int.toNat v3→ej i4 d1→(
  let v6:bR:=List.getD x0.bw (Int.toNat (i4:Int)) (aE .bR)
  let bD:=v6.id==ao
  let aL:Bool→Prop:=fun bs=>
   ((bD&&bs)=true→(
    eA (i4:Int)))∧((bD&&bs)=false→(
    ej (i4+1) ()))
  (bD=true→(
   aL (jv v6.bH bV)))∧(bD=false→(
   aL false))))∧∀aW,ej (Int.toNat v3) aW→fu aW
def OR(x:List cS):List cS:=x
def A4(x:List cS):Prop:=x.length≤maxLen∧x.length*32≤140737488355328
noncomputable def F2(x0:aN)(ao:ByteArray):Command × Bool:=
 let v2:Int:=(List.length x0.commands:Int)
 Sum.elim (fun r=>r) (fun _=>
  (⟨⟨#[]⟩,⟨⟨#[]⟩,0,0,0,[],false,false⟩,[]⟩,false))
 (bo (fun(i3:Nat) (_:Unit)=>
  show Step (Command × Bool) (Unit)from
  let v5:Command:=List.getD x0.commands (Int.toNat (i3:Int)) (aE .Command)
  bif(cC .eql v5.name ao)then
   .ret (⟨v5.name,⟨v5.param.name,v5.param.kind,v5.param.min,v5.param.max,(BQ v5.param.enum),v5.param.fA,v5.param.safety⟩,(OR v5.gC)⟩,true)
  else
   .bq ()) 0 (Int.toNat v2) ():(Command × Bool)⊕(Unit))
def Fq(x0:aN)(ao:ByteArray):Prop:=
 let v2:Int:=(List.length x0.commands:Int)
 ∃bx:Nat→(Unit)→Prop,bx 0 ()∧∀(i3:Nat) (d0:Unit),i3<Int.toNat v2→bx i3 d0→(
  let v5:Command:=List.getD x0.commands (Int.toNat (i3:Int)) (aE .Command)
  ((cC .eql v5.name ao)=true→(
   (vk v5.param.enum)∧
   A4 v5.gC))∧((cC .eql v5.name ao)=false→(
   bx (i3+1) ())))
noncomputable def OS(x0:Home)(ao:b3):Int:=
 let v2:=rY x0 ao.key.dev ao.key.dc
 bif !v2.2 then
  8
 else
  let v6:=F2 v2.1 ao.name
  bif !v6.2 then
   8
  else
   bif(v6.1.param.kind != 0)then
    (vq ⟨v6.1.param.name,v6.1.param.kind,v6.1.param.min,v6.1.param.max,v6.1.param.enum,v6.1.param.fA,v6.1.param.safety⟩ ⟨ao.value.kind,ao.value.n,ao.value.s⟩)
   else
    bif(!(bif ao.value.kind==0 then bif ao.value.n==0 then dI ao.value.s (⟨#[]⟩:ByteArray)else false else false))then
     11
    else
     0
def Fs(x0:Home)(ao:b3):Prop:=
 let v2:=rY x0 ao.key.dev ao.key.dc
 (Fp x0 ao.key.dev ao.key.dc)∧
 ((!v2.2)=false→(
  let v6:=F2 v2.1 ao.name
  (Fq v2.1 ao.name)∧
  ((!v6.2)=false→(
   ((v6.1.param.kind != 0)=true→(
    xY ⟨v6.1.param.name,v6.1.param.kind,v6.1.param.min,v6.1.param.max,v6.1.param.enum,v6.1.param.fA,v6.1.param.safety⟩ ⟨ao.value.kind,ao.value.n,ao.value.s⟩))))))
noncomputable def F3(x0:Home)(ao:b3):Int:=
 let aL:Bool→Int:=fun v2=>
  bif v2 then
   (OQ x0 ao)
  else
   bif(ao.kind==3)then
    (OS x0 ao)
   else
    bif(ao.kind==7)then
     bif(decide ((ByteArray.size ao.text:Int)>20000))then
      3
     else
      0
    else
     bif(!(ih ao.name))then
      10
     else
      0
 let v2:=ao.kind==1
 bif v2 then
  aL v2
 else
  aL (ao.kind==2)
def Bk(x0:Home)(ao:b3):Prop:=
 let aL:Bool→Prop:=fun v2=>
  (v2=true→(
   Bj x0 ao))∧(v2=false→(
   ((ao.kind==3)=true→(
    Fs x0 ao))∧((ao.kind==3)=false→(
    ((ao.kind==7)=false→(
     m8 ao.name))))))
 let v2:=ao.kind==1
 (v2=true→(
  aL v2))∧(v2=false→(
  aL (ao.kind==2)))
noncomputable def pd(x0:Home)(ao:b3):Int:=
 let bN:Int→Int:=fun v2=>
  v2
 let v2:=hP x0
 bif(v2 != 0)then
  bN v2
 else
  let v4:=BO ao
  bif(v4 != 0)then
   bN v4
  else
   let v6:=BP ao
   bif(v6 != 0)then
    bN v6
   else
    let aL:Int→Int:=fun bs=>
     bif(bs != 0)then
      bN bs
     else
      let v10:=F3 x0 ao
      bif(v10 != 0)then
       bN v10
      else
       bN (0:Int)
    let bs:=F1 ao
    let v9:=!(bif ao.kind==bs.kind then bif ao.dS==bs.dS then bif ao.key.dev==bs.key.dev then bif dI ao.key.dc bs.key.dc then bif dI ao.key.attr bs.key.attr then bif dI ao.name bs.name then bif ao.value.kind==bs.value.kind then bif ao.value.n==bs.value.n then bif dI ao.value.s bs.value.s then dI ao.text bs.text else false else false else false else false else false else false else false else false else false)
    bif v9 then
     aL (1:Int)
    else
     aL (0:Int)
def Ft(x0:Home)(ao:b3):Prop:=
 let v2:=hP x0
 (x1 x0)∧
 ((v2 != 0)=false→(
  let v4:=BO ao
  ((v4 != 0)=false→(
   let v6:=BP ao
   ((v6 != 0)=false→(
    let aL:Int→Prop:=fun bs=>
     ((bs != 0)=false→(
      let _:=F3 x0 ao
      Bk x0 ao))
    let bs:=F1 ao
    let v9:=!(bif ao.kind==bs.kind then bif ao.dS==bs.dS then bif ao.key.dev==bs.key.dev then bif dI ao.key.dc bs.key.dc then bif dI ao.key.attr bs.key.attr then bif dI ao.name bs.name then bif ao.value.kind==bs.value.kind then bif ao.value.n==bs.value.n then bif dI ao.value.s bs.value.s then dI ao.text bs.text else false else false else false else false else false else false else false else false else false)
    (v9=true→(
     aL (1:Int)))∧(v9=false→(
     aL (0:Int)))))))))
noncomputable def te(x0:List ByteArray)(ao:ByteArray):Bool:=
 let v2:Int:=(List.length x0:Int)
 Sum.elim (fun r=>r) (fun _=>
  false)
 (bo (fun(i3:Nat) (_:Unit)=>
  show Step (Bool) (Unit)from
  bif(cC .eql (List.getD x0 (Int.toNat (i3:Int)) (aE .str)) ao)then
   .ret true
  else
   .bq ()) 0 (Int.toNat v2) ():Bool⊕(Unit))
noncomputable def pw(x0:Attr):Int:=
 bif(!(jO x0.name))then
  10
 else
  bif((decide (x0.kind<1))||(decide (x0.kind>4)))then
   7
  else
   let aL:Int:=
    bif(x0.kind != 3)then
     bif(decide ((List.length x0.enum:Int)>0))then
      4
     else
      0
    else
     let v10:Int:=(List.length x0.enum:Int)
     bif((decide ((List.length x0.enum:Int)<1))||(decide (v10>64)))then
      3
     else
      Sum.elim (fun r=>r) (fun _=>
       0)
      (bo (fun(i13:Nat) (_:Unit)=>
       show Step (Int) (Unit)from
       bif(!(jO (List.getD x0.enum (Int.toNat (i13:Int)) (aE .str))))then
        .ret 10
       else
        bif(te (iy x0.enum none (some (i13:Int))) (List.getD x0.enum (Int.toNat (i13:Int)) (aE .str)))then
         .ret 9
        else
         .bq ()) 0 (Int.toNat v10) ():Int⊕(Unit))
   bif(x0.kind==2)then
    bif(((decide (x0.min<(-1099511627776)))||(decide (x0.max>1099511627776)))||(decide (x0.min>x0.max)))then
     2
    else
     aL
   else
    bif((x0.min != 0)||(x0.max != 0))then
     2
    else
     aL
def yt(x0:Attr):Prop:=
 (pr x0.name)∧
 ((!(jO x0.name))=false→(
  (((decide (x0.kind<1))||(decide (x0.kind>4)))=false→(
   let aL:Prop:=
    ((x0.kind != 3)=false→(
     let v10:Int:=(List.length x0.enum:Int)
     (((decide ((List.length x0.enum:Int)<1))||(decide (v10>64)))=false→(
      ∃bx:Nat→(Unit)→Prop,bx 0 ()∧∀(i13:Nat) (d0:Unit),i13<Int.toNat v10→bx i13 d0→(
       let eS:ByteArray:=List.getD x0.enum (Int.toNat (i13:Int)) (aE .str)
       (pr eS)∧
       ((!(jO eS))=false→(
        (ju (List.length x0.enum) none (some (i13:Int)))∧
        ((te (iy x0.enum none (some (i13:Int))) (List.getD x0.enum (Int.toNat (i13:Int)) (aE .str)))=false→(
         bx (i13+1) ())))))))))
   ((x0.kind==2)=true→(
    ((((decide (x0.min<(-1099511627776)))||(decide (x0.max>1099511627776)))||(decide (x0.min>x0.max)))=false→(
     aL))))∧((x0.kind==2)=false→(
    (((x0.min != 0)||(x0.max != 0))=false→(
     aL))))))))
noncomputable def rT(x0:aN)(ao:ByteArray):Int:=
 let v2:Int:=(List.length x0.attrs:Int)
 Sum.elim (fun r=>r) (fun _=>
  (-1))
 (bo (fun(i3:Nat) (_:Unit)=>
  show Step (Int) (Unit)from
  bif(cC .eql ((List.getD x0.attrs (Int.toNat (i3:Int)) (aE .Attr)).name) ao)then
   .ret (i3:Int)
  else
   .bq ()) 0 (Int.toNat v2) ():Int⊕(Unit))
noncomputable def x8(x0:aN):Bool:=
 let v3:Int:=(List.length x0.commands:Int)
 bif(((decide ((List.length x0.attrs:Int)>12))||(decide (v3>12)))||(decide ((List.length x0.events:Int)>12)))then
  true
 else
  Sum.elim (fun r=>r) (fun _=>
   false)
  (bo (fun(i9:Nat) (_:Unit)=>
   show Step (Bool) (Unit)from
   bif(decide ((List.length ((List.getD x0.commands (Int.toNat (i9:Int)) (aE .Command)).gC):Int)>12))then
    .ret true
   else
    .bq ()) 0 (Int.toNat v3) ():Bool⊕(Unit))
noncomputable def x3(x0:List ByteArray)(ao:List ByteArray):Bool:=
 let v2:Int:=(List.length x0:Int)
 bif(v2 != (List.length ao:Int))then
  false
 else
  Sum.elim (fun r=>r) (fun _=>
   true)
  (bo (fun(i5:Nat) (_:Unit)=>
   show Step (Bool) (Unit)from
   bif(cC .neq (List.getD x0 (Int.toNat (i5:Int)) (aE .str)) (List.getD ao (Int.toNat (i5:Int)) (aE .str)))then
    .ret false
   else
    .bq ()) 0 (Int.toNat v2) ():Bool⊕(Unit))
def F4(x0:List ByteArray)(ao:List ByteArray):Prop:=
 let v2:Int:=(List.length x0:Int)
 ((v2 != (List.length ao:Int))=false→(
  ∃bx:Nat→(Unit)→Prop,bx 0 ()∧∀(i5:Nat) (d0:Unit),i5<Int.toNat v2→bx i5 d0→(
   (0≤(i5:Int)∧(i5:Int)<(List.length ao:Int))∧
   ((cC .neq (List.getD x0 (Int.toNat (i5:Int)) (aE .str)) (List.getD ao (Int.toNat (i5:Int)) (aE .str)))=false→(
    bx (i5+1) ())))))
noncomputable def x5(x0:Attr)(ao:Attr):Bool:=
 let bs:Bool:=(((cC .eql x0.name ao.name)&&(x0.kind==ao.kind))&&(x0.min==ao.min))&&(x0.max==ao.max)
 let aL:Bool→Bool:=fun v9=>
  (((bs&&v9)&&(cA.den (.nb false) x0.fA ao.fA))&&(cA.den (.nb false) x0.safety ao.safety))
 bif bs then
  aL (x3 x0.enum ao.enum)
 else
  aL false
def OT(x0:Attr)(ao:Attr):Prop:=
 let bs:Bool:=(((cC .eql x0.name ao.name)&&(x0.kind==ao.kind))&&(x0.min==ao.min))&&(x0.max==ao.max)
 (bs=true→(
  F4 x0.enum ao.enum))
noncomputable def th(x0:aN)(ao:ByteArray):Attr × Bool:=
 let v2:=rT x0 ao
 bif(decide (v2<0))then
  (⟨⟨#[]⟩,0,0,0,[],false,false⟩,false)
 else
  let v4:Attr:=List.getD x0.attrs (Int.toNat v2) (aE .Attr)
  (v4,true)
def F5(x0:aN)(ao:ByteArray):Prop:=
 let v2:=rT x0 ao
 ((decide (v2<0))=false→(
  let _:Attr:=List.getD x0.attrs (Int.toNat v2) (aE .Attr)
  0≤v2∧v2<(List.length x0.attrs:Int)))
noncomputable def vp(x0:Attr)(ao:cY):Int:=
 bif((pw x0) != 0)then
  (pw x0)
 else
  bif((u7 ao) != 0)then
   (u7 ao)
  else
   bif(ao.kind != x0.kind)then
    11
   else
    bif(((ao.kind==2)&&((decide (ao.n<x0.min))||(decide (ao.n>x0.max))))||((ao.kind==3)&&(decide (ao.n≥(List.length x0.enum:Int)))))then
     2
    else
     0
def BR(x0:Attr)(_:cY):Prop:=
 (yt x0)∧
 (((pw x0) != 0)=true→(
  yt x0))
noncomputable def Bd(x0:cS)(ao:Attr)(bV:Attr):Bool:=
 bif(x0.kind==1)then
  let v4:=ao.kind != 4
  let aL:Int→Bool:=fun v5=>
   (v4&&(v5==0))
  bif v4 then
   aL (vp ao ⟨ao.kind,x0.n,⟨#[]⟩⟩)
  else
   aL (0:Int)
 else
  bif(x0.kind==2)then
   let v5:=bV.kind==ao.kind
   let aL:Bool→Bool:=fun v6=>
    (v5&&v6)
   bif v5 then
    aL (x3 bV.enum ao.enum)
   else
    aL false
  else
   bif(x0.kind==3)then
    (ao.kind==2)
   else
    (ao.kind==1)
def OU(x0:cS)(ao:Attr)(bV:Attr):Prop:=
 ((x0.kind==1)=true→(
  let v4:=ao.kind != 4
  (v4=true→(
   BR ao ⟨ao.kind,x0.n,⟨#[]⟩⟩))))∧((x0.kind==1)=false→(
  ((x0.kind==2)=true→(
   let v5:=bV.kind==ao.kind
   (v5=true→(
    F4 bV.enum ao.enum))))))
noncomputable def x6(x0:aN)(ao:Attr)(bV:cS):Int:=
 bif((decide (bV.kind<1))||(decide (bV.kind>4)))then
  7
 else
  let v6:=th x0 bV.attr
  bif !v6.2 then
   8
  else
   bif !v6.1.fA then
    24
   else
    bif(!(Bd bV v6.1 ao))then
     11
    else
     bif((bV.kind==3)&&((decide (bV.n<(-1099511627776)))||(decide (bV.n>1099511627776))))then
      2
     else
      bif(((bV.kind==2)||(bV.kind==4))&&(bV.n != 0))then
       4
      else
       0
def OV(x0:aN)(ao:Attr)(bV:cS):Prop:=
 (((decide (bV.kind<1))||(decide (bV.kind>4)))=false→(
  let v6:=th x0 bV.attr
  (F5 x0 bV.attr)∧
  ((!v6.2)=false→(
   ((!v6.1.fA)=false→(
    OU bV v6.1 ao))))))
noncomputable def x7(x0:aN)(ao:Int):Int:=
 let v2:Command:=List.getD x0.commands (Int.toNat ao) (aE .Command)
 bif(!(jO v2.name))then
  10
 else
  Sum.elim (fun r=>r) (fun _=>
   let aL:Int:=
    let v6:Int:=(List.length v2.gC:Int)
    Sum.elim (fun r=>r) (fun _=>
     0)
    (bo (fun(i7:Nat) (_:Unit)=>
     show Step (Int) (Unit)from
     let v9:cS:=List.getD v2.gC (Int.toNat (i7:Int)) (aE .cS)
     let v10:=x6 x0 ⟨v2.param.name,v2.param.kind,v2.param.min,v2.param.max,v2.param.enum,v2.param.fA,v2.param.safety⟩ v9
     bif(v10 != 0)then
      .ret v10
     else
      .bq ()) 0 (Int.toNat v6) ():Int⊕(Unit))
   bif(v2.param.kind==0)then
    bif(!(x5 ⟨v2.param.name,v2.param.kind,v2.param.min,v2.param.max,v2.param.enum,v2.param.fA,v2.param.safety⟩ ⟨⟨#[]⟩,0,0,0,[],false,false⟩))then
     4
    else
     aL
   else
    let v6:=pw ⟨v2.param.name,v2.param.kind,v2.param.min,v2.param.max,v2.param.enum,v2.param.fA,v2.param.safety⟩
    bif(v6 != 0)then
     v6
    else
     aL)
  (bo (fun(i5:Nat) (_:Unit)=>
   show Step (Int) (Unit)from
   bif(cC .eql ((List.getD x0.commands (Int.toNat (i5:Int)) (aE .Command)).name) v2.name)then
    .ret 9
   else
    .bq ()) 0 (Int.toNat ao) ():Int⊕(Unit))
def OW(x0:aN)(ao:Int):Prop:=
 let v2:Command:=List.getD x0.commands (Int.toNat ao) (aE .Command)
 (0≤ao∧ao<(List.length x0.commands:Int))∧
 (pr v2.name)∧
 ((!(jO v2.name))=false→(
  (0≤ao∧ao<(9223372036854775808:Int))∧
  let aX:Unit→Prop:=fun _=>
   let aL:Prop:=
    let v6:Int:=(List.length v2.gC:Int)
    ∃ej:Nat→(Unit)→Prop,ej 0 ()∧∀(i7:Nat) (d1:Unit),i7<Int.toNat v6→ej i7 d1→(
     let v9:cS:=List.getD v2.gC (Int.toNat (i7:Int)) (aE .cS)
     let v10:=x6 x0 ⟨v2.param.name,v2.param.kind,v2.param.min,v2.param.max,v2.param.enum,v2.param.fA,v2.param.safety⟩ v9
     (OV x0 ⟨v2.param.name,v2.param.kind,v2.param.min,v2.param.max,v2.param.enum,v2.param.fA,v2.param.safety⟩ v9)∧
     ((v10 != 0)=false→(
      ej (i7+1) ())))
   ((v2.param.kind==0)=true→(
    (OT ⟨v2.param.name,v2.param.kind,v2.param.min,v2.param.max,v2.param.enum,v2.param.fA,v2.param.safety⟩ ⟨⟨#[]⟩,0,0,0,[],false,false⟩)∧
    ((!(x5 ⟨v2.param.name,v2.param.kind,v2.param.min,v2.param.max,v2.param.enum,v2.param.fA,v2.param.safety⟩ ⟨⟨#[]⟩,0,0,0,[],false,false⟩))=false→(
     aL))))∧((v2.param.kind==0)=false→(
    let v6:=pw ⟨v2.param.name,v2.param.kind,v2.param.min,v2.param.max,v2.param.enum,v2.param.fA,v2.param.safety⟩
    (yt ⟨v2.param.name,v2.param.kind,v2.param.min,v2.param.max,v2.param.enum,v2.param.fA,v2.param.safety⟩)∧
    ((v6 != 0)=false→(
     aL))))
  ∃bx:Nat→(Unit)→Prop,bx 0 ()∧(∀(i5:Nat) (d0:Unit),i5<Int.toNat ao→bx i5 d0→(
   (0≤(i5:Int)∧(i5:Int)<(List.length x0.commands:Int))∧
   ((cC .eql ((List.getD x0.commands (Int.toNat (i5:Int)) (aE .Command)).name) v2.name)=false→(
    bx (i5+1) ()))))∧∀bP,bx (Int.toNat ao) bP→aX bP))
noncomputable def x9(x0:aN):Int:=
 bif(!(jO x0.name))then
  10
 else
  bif(x8 x0)then
   3
  else
   let v4:Int:=(List.length x0.attrs:Int)
   Sum.elim (fun r=>r) (fun _=>
    let v5:Int:=(List.length x0.commands:Int)
    Sum.elim (fun r=>r) (fun _=>
     let v6:Int:=(List.length x0.events:Int)
     Sum.elim (fun r=>r) (fun _=>
      0)
     (bo (fun(i7:Nat) (_:Unit)=>
      show Step (Int) (Unit)from
      bif(!(jO (List.getD x0.events (Int.toNat (i7:Int)) (aE .str))))then
       .ret 10
      else
       Sum.elim (fun r=>r) (fun _=>
        .bq ())
       (bo (fun(i12:Nat) (_:Unit)=>
        show Step (Step (Int) (Unit)) (Unit)from
        bif(cC .eql (List.getD x0.events (Int.toNat (i12:Int)) (aE .str)) (List.getD x0.events (Int.toNat (i7:Int)) (aE .str)))then
         .ret (.ret 9)
        else
         .bq ()) 0 (Int.toNat (i7:Int)) ():(Step (Int) (Unit))⊕(Unit))) 0 (Int.toNat v6) ():Int⊕(Unit)))
    (bo (fun(i6:Nat) (_:Unit)=>
     show Step (Int) (Unit)from
     let bs:=x7 x0 (i6:Int)
     bif(bs != 0)then
      .ret bs
     else
      .bq ()) 0 (Int.toNat v5) ():Int⊕(Unit)))
   (bo (fun(i5:Nat) (_:Unit)=>
    show Step (Int) (Unit)from
    let bD:Attr:=List.getD x0.attrs (Int.toNat (i5:Int)) (aE .Attr)
    let bs:=pw bD
    bif(bs != 0)then
     .ret bs
    else
     bif(decide ((rT x0 ((List.getD x0.attrs (Int.toNat (i5:Int)) (aE .Attr)).name))<(i5:Int)))then
      .ret 9
     else
      .bq ()) 0 (Int.toNat v4) ():Int⊕(Unit))
def OX(x0:aN):Prop:=
 (pr x0.name)∧
 ((!(jO x0.name))=false→(
  ((x8 x0)=false→(
   let v4:Int:=(List.length x0.attrs:Int)
   let aX:Unit→Prop:=fun _=>
    let v5:Int:=(List.length x0.commands:Int)
    let fu:Unit→Prop:=fun _=>
     let v6:Int:=(List.length x0.events:Int)
     ∃kj:Nat→(Unit)→Prop,kj 0 ()∧∀(i7:Nat) (d2:Unit),i7<Int.toNat v6→kj i7 d2→(
      let v9:ByteArray:=List.getD x0.events (Int.toNat (i7:Int)) (aE .str)
      (pr v9)∧
      ((!(jO v9))=false→(
       (0≤(i7:Int)∧(i7:Int)<(9223372036854775808:Int))∧
       let kM:Unit→Prop:=fun _=>
        kj (i7+1) ()
       ∃lS:Nat→(Unit)→Prop,lS 0 ()∧(∀(i12:Nat) (d3:Unit),i12<Int.toNat (i7:Int)→lS i12 d3→(
        (0≤(i12:Int)∧(i12:Int)<(List.length x0.events:Int))∧
        ((cC .eql (List.getD x0.events (Int.toNat (i12:Int)) (aE .str)) (List.getD x0.events (Int.toNat (i7:Int)) (aE .str)))=false→(
         lS (i12+1) ()))))∧∀c9,lS (Int.toNat (i7:Int)) c9→kM c9)))
    ∃ej:Nat→(Unit)→Prop,ej 0 ()∧(∀(i6:Nat) (d1:Unit),i6<Int.toNat v5→ej i6 d1→(
     let bs:=x7 x0 (i6:Int)
     (OW x0 (i6:Int))∧
     ((bs != 0)=false→(
      ej (i6+1) ()))))∧∀aW,ej (Int.toNat v5) aW→fu aW
   ∃bx:Nat→(Unit)→Prop,bx 0 ()∧(∀(i5:Nat) (d0:Unit),i5<Int.toNat v4→bx i5 d0→(
    let bD:Attr:=List.getD x0.attrs (Int.toNat (i5:Int)) (aE .Attr)
    let bs:=pw bD
    (yt bD)∧
    ((bs != 0)=false→(
     ((decide ((rT x0 ((List.getD x0.attrs (Int.toNat (i5:Int)) (aE .Attr)).name))<(i5:Int)))=false→(
      bx (i5+1) ()))))))∧∀bP,bx (Int.toNat v4) bP→aX bP))))
noncomputable def ya(x0:List aN):Int:=
 let v1:Int:=(List.length x0:Int)
 bif(decide (v1>256))then
  3
 else
  Sum.elim (fun r=>r) (fun _=>
   0)
  (bo (fun(i3:Nat) (_:Unit)=>
   show Step (Int) (Unit)from
   let v5:aN:=List.getD x0 (Int.toNat (i3:Int)) (aE .aN)
   let v6:=x9 v5
   bif(v6 != 0)then
    .ret v6
   else
    Sum.elim (fun r=>r) (fun _=>
     .bq ())
    (bo (fun(i8:Nat) (_:Unit)=>
     show Step (Step (Int) (Unit)) (Unit)from
     bif(cC .eql ((List.getD x0 (Int.toNat (i8:Int)) (aE .aN)).name) ((List.getD x0 (Int.toNat (i3:Int)) (aE .aN)).name))then
      .ret (.ret 9)
     else
      .bq ()) 0 (Int.toNat (i3:Int)) ():(Step (Int) (Unit))⊕(Unit))) 0 (Int.toNat v1) ():Int⊕(Unit))
def OY(x0:List aN):Prop:=
 let v1:Int:=(List.length x0:Int)
 ((decide (v1>256))=false→(
  ∃bx:Nat→(Unit)→Prop,bx 0 ()∧∀(i3:Nat) (d0:Unit),i3<Int.toNat v1→bx i3 d0→(
   let v5:aN:=List.getD x0 (Int.toNat (i3:Int)) (aE .aN)
   let v6:=x9 v5
   (OX v5)∧
   ((v6 != 0)=false→(
    (0≤(i3:Int)∧(i3:Int)<(9223372036854775808:Int))∧
    let fu:Unit→Prop:=fun _=>
     bx (i3+1) ()
    ∃ej:Nat→(Unit)→Prop,ej 0 ()∧(∀(i8:Nat) (d1:Unit),i8<Int.toNat (i3:Int)→ej i8 d1→(
     (0≤(i8:Int)∧(i8:Int)<(List.length x0:Int))∧
     ((cC .eql ((List.getD x0 (Int.toNat (i8:Int)) (aE .aN)).name) ((List.getD x0 (Int.toNat (i3:Int)) (aE .aN)).name))=false→(
      ej (i8+1) ()))))∧∀aW,ej (Int.toNat (i3:Int)) aW→fu aW)))))
noncomputable def td(x0:List ByteArray)(ao:ByteArray):Int:=
 let v2:Int:=(List.length x0:Int)
 Sum.elim (fun r=>r) (fun _=>
  (-1))
 (bo (fun(i3:Nat) (_:Unit)=>
  show Step (Int) (Unit)from
  bif(cC .eql (List.getD x0 (Int.toNat (i3:Int)) (aE .str)) ao)then
   .ret (i3:Int)
  else
   .bq ()) 0 (Int.toNat v2) ():Int⊕(Unit))
noncomputable def tj(x0:Home)(ao:ByteArray):Int:=
 let v2:Int:=(List.length x0.bH:Int)
 Sum.elim (fun r=>r) (fun _=>
  (-1))
 (bo (fun(i3:Nat) (_:Unit)=>
  show Step (Int) (Unit)from
  bif(cC .eql ((List.getD x0.bH (Int.toNat (i3:Int)) (aE .aN)).name) ao)then
   .ret (i3:Int)
  else
   .bq ()) 0 (Int.toNat v2) ():Int⊕(Unit))
def F6(x0:Home)(_:ByteArray):Prop:=
 let v2:Int:=(List.length x0.bH:Int)
 0≤v2∧v2<(9223372036854775808:Int)
noncomputable def tk(x0:Home)(ao:bR):Int:=
 let v4:Int:=(List.length ao.bH:Int)
 bif((decide ((List.length ao.bH:Int)<1))||(decide (v4>4)))then
  3
 else
  Sum.elim (fun r=>r) (fun bP=>
   bif(decide (bP>24))then
    3
   else
    0)
  (bo (fun(i8:Nat) (aW:Int)=>
   show Step (Int) (Int)from
   let v11:=tj x0 (List.getD ao.bH (Int.toNat (i8:Int)) (aE .str))
   bif(decide (v11<0))then
    .ret 8
   else
    bif(decide ((td ao.bH (List.getD ao.bH (Int.toNat (i8:Int)) (aE .str)))<(i8:Int)))then
     .ret 9
    else
     .bq (IntKind.wrap .i64 (aW+(List.length ((List.getD x0.bH (Int.toNat v11) (aE .aN)).attrs):Int)))) 0 (Int.toNat v4) 0:Int⊕(Int))
def OZ(x0:Home)(ao:bR):Prop:=
 let v4:Int:=(List.length ao.bH:Int)
 (((decide ((List.length ao.bH:Int)<1))||(decide (v4>4)))=false→(
  ∃bx:Nat→(Int)→Prop,bx 0 0∧∀(i8:Nat) (d0:Int),i8<Int.toNat v4→bx i8 d0→(
   let v10:ByteArray:=List.getD ao.bH (Int.toNat (i8:Int)) (aE .str)
   let v11:=tj x0 v10
   (F6 x0 v10)∧
   ((decide (v11<0))=false→(
    ((decide ((td ao.bH (List.getD ao.bH (Int.toNat (i8:Int)) (aE .str)))<(i8:Int)))=false→(
     (0≤v11∧v11<(List.length x0.bH:Int))∧
     bx (i8+1) (IntKind.wrap .i64 (d0+(List.length ((List.getD x0.bH (Int.toNat v11) (aE .aN)).attrs):Int))))))))))
noncomputable def pB(x0:Home)(ao:Int):Int:=
 let v2:bR:=List.getD x0.bw (Int.toNat ao) (aE .bR)
 let dw:Bool:=(((((decide (v2.id<1))||(decide (v2.id>250)))||(decide (v2.n7<0)))||(decide (v2.n7>255)))||((!v2.n8)&&(v2.kF != 0)))||(v2.n8&&((decide (v2.kF<4))||(decide (v2.kF>3600))))
 bif dw then
  2
 else
  bif((decide (ao>0))&&(decide (((List.getD x0.bw (Int.toNat (IntKind.wrap .i64 (ao-(1:Int)))) (aE .bR)).id)≥v2.id)))then
   14
  else
   Sum.elim (fun r=>r) (fun _=>
    bif(!(jO v2.room))then
     10
    else
     (tk x0 v2))
   (bo (fun(i24:Nat) (_:Unit)=>
    show Step (Int) (Unit)from
    bif(((List.getD x0.bw (Int.toNat (i24:Int)) (aE .bR)).gW)==v2.gW)then
     .ret 9
    else
     .bq ()) 0 (Int.toNat ao) ():Int⊕(Unit))
def O0(x0:Home)(ao:Int):Prop:=
 let v2:bR:=List.getD x0.bw (Int.toNat ao) (aE .bR)
 (0≤ao∧ao<(List.length x0.bw:Int))∧
 let dw:Bool:=(((((decide (v2.id<1))||(decide (v2.id>250)))||(decide (v2.n7<0)))||(decide (v2.n7>255)))||((!v2.n8)&&(v2.kF != 0)))||(v2.n8&&((decide (v2.kF<4))||(decide (v2.kF>3600))))
 (dw=false→(
  let cF:=decide (ao>0)
  let v20:Int:=IntKind.wrap .i64 (ao-(1:Int))
  (cF=true→0≤v20∧v20<(List.length x0.bw:Int))∧
  ((cF&&(decide (((List.getD x0.bw (Int.toNat v20) (aE .bR)).id)≥v2.id)))=false→(
   (0≤ao∧ao<(9223372036854775808:Int))∧
   let aX:Unit→Prop:=fun _=>
    (pr v2.room)∧
    ((!(jO v2.room))=false→(
     OZ x0 v2))
   ∃bx:Nat→(Unit)→Prop,bx 0 ()∧(∀(i24:Nat) (d0:Unit),i24<Int.toNat ao→bx i24 d0→(
    (0≤(i24:Int)∧(i24:Int)<(List.length x0.bw:Int))∧
    ((((List.getD x0.bw (Int.toNat (i24:Int)) (aE .bR)).gW)==v2.gW)=false→(
     bx (i24+1) ()))))∧∀bP,bx (Int.toNat ao) bP→aX bP))))
noncomputable def rW(x0:Home):Int:=
 let v1:=ya x0.bH
 bif(v1 != 0)then
  v1
 else
  let v3:Int:=(List.length x0.bw:Int)
  bif(decide (v3>20))then
   3
  else
   Sum.elim (fun r=>r) (fun _=>
    0)
   (bo (fun(i5:Nat) (_:Unit)=>
    show Step (Int) (Unit)from
    let bD:=pB x0 (i5:Int)
    bif(bD != 0)then
     .ret bD
    else
     .bq ()) 0 (Int.toNat v3) ():Int⊕(Unit))
def F7(x0:Home):Prop:=
 let v1:=ya x0.bH
 (OY x0.bH)∧
 ((v1 != 0)=false→(
  let v3:Int:=(List.length x0.bw:Int)
  ((decide (v3>20))=false→(
   ∃bx:Nat→(Unit)→Prop,bx 0 ()∧∀(i5:Nat) (d0:Unit),i5<Int.toNat v3→bx i5 d0→(
    let bD:=pB x0 (i5:Int)
    (O0 x0 (i5:Int))∧
    ((bD != 0)=false→(
     bx (i5+1) ())))))))
noncomputable def F8(x0:b3):Bool:=
 let v3:Bool:=(x0.kind==1)||(x0.kind==2)
 let v12:Bool:=((!v3)&&(cC .neq x0.key.attr (⟨#[]⟩:ByteArray)))||(((!v3)&&(x0.kind != 3))&&(!(bif x0.key.dev==0 then bif dI x0.key.dc (⟨#[]⟩:ByteArray)then dI x0.key.attr (⟨#[]⟩:ByteArray)else false else false)))
 bif v12 then
  false
 else
  let Zt:Bool:=(((((x0.kind==3)||(x0.kind==4))||(x0.kind==5))||(x0.kind==6))||(cC .eql x0.name (⟨#[]⟩:ByteArray)))&&(((x0.kind==2)||(x0.kind==3))||(bif x0.value.kind==0 then bif x0.value.n==0 then dI x0.value.s (⟨#[]⟩:ByteArray)else false else false))
  (Zt&&((x0.kind==7)||(cC .eql x0.text (⟨#[]⟩:ByteArray))))
noncomputable def F9(x0:Home)(ao:Int):Int:=
 let v2:Int:=(List.length x0.bw:Int)
 Sum.elim (fun r=>r) (fun _=>
  (-1))
 (bo (fun(i3:Nat) (_:Unit)=>
  show Step (Int) (Unit)from
  bif(((List.getD x0.bw (Int.toNat (i3:Int)) (aE .bR)).id)==ao)then
   .ret (i3:Int)
  else
   .bq ()) 0 (Int.toNat v2) ():Int⊕(Unit))
def O1(x0:Home)(_:Int):Prop:=
 let v2:Int:=(List.length x0.bw:Int)
 0≤v2∧v2<(9223372036854775808:Int)
noncomputable def yu(x0:Home)(ao:Int)(bV:ByteArray):aN × Bool:=
 let v3:=F9 x0 ao
 let v4:=decide (v3<0)
 let aL:Int→aN × Bool:=fun v5=>
  let bD:Bool:=v4||(v5 != 0)
  let aL:Int→aN × Bool:=fun v9=>
   bif(bD||(decide (v9<0)))then
    (⟨⟨#[]⟩,[],[],[]⟩,false)
   else
    let b4:aN:=List.getD x0.bH (Int.toNat (tj x0 bV)) (aE .aN)
    (b4,true)
  bif bD then
   aL (0:Int)
  else
   aL (td ((List.getD x0.bw (Int.toNat v3) (aE .bR)).bH) bV)
 bif v4 then
  aL (0:Int)
 else
  aL (rW x0)
def Ga(x0:Home)(ao:Int)(bV:ByteArray):Prop:=
 let v3:=F9 x0 ao
 (O1 x0 ao)∧
 let v4:=decide (v3<0)
 let aL:Int→Prop:=fun v5=>
  let bD:Bool:=v4||(v5 != 0)
  (bD=false→0≤v3∧v3<(List.length x0.bw:Int))∧
  let aL:Int→Prop:=fun v9=>
   ((bD||(decide (v9<0)))=false→(
    let v12:=tj x0 bV
    (F6 x0 bV)∧
    let _:aN:=List.getD x0.bH (Int.toNat v12) (aE .aN)
    0≤v12∧v12<(List.length x0.bH:Int)))
  (bD=true→(
   aL (0:Int)))∧(bD=false→(
   aL (td ((List.getD x0.bw (Int.toNat v3) (aE .bR)).bH) bV)))
 (v4=true→(
  aL (0:Int)))∧(v4=false→(
  (F7 x0)∧
  aL (rW x0)))
noncomputable def Gb(x0:Home)(ao:dr):Attr × Bool:=
 let v2:=yu x0 ao.dev ao.dc
 bif !v2.2 then
  (⟨⟨#[]⟩,0,0,0,[],false,false⟩,false)
 else
  let v6:=th v2.1 ao.attr
  (v6.1,v6.2)
def O2(x0:Home)(ao:dr):Prop:=
 let v2:=yu x0 ao.dev ao.dc
 (Ga x0 ao.dev ao.dc)∧
 ((!v2.2)=false→(
  let _:=th v2.1 ao.attr
  F5 v2.1 ao.attr))
noncomputable def O3(x0:Home)(ao:b3):Int:=
 let v2:=Gb x0 ⟨ao.key.dev,ao.key.dc,ao.key.attr⟩
 bif !v2.2 then
  8
 else
  bif(ao.kind==1)then
   0
  else
   bif !v2.1.fA then
    24
   else
    (vp v2.1 ⟨ao.value.kind,ao.value.n,ao.value.s⟩)
def O4(x0:Home)(ao:b3):Prop:=
 let v2:=Gb x0 ⟨ao.key.dev,ao.key.dc,ao.key.attr⟩
 (O2 x0 ⟨ao.key.dev,ao.key.dc,ao.key.attr⟩)∧
 ((!v2.2)=false→(
  ((ao.kind==1)=false→(
   ((!v2.1.fA)=false→(
    BR v2.1 ⟨ao.value.kind,ao.value.n,ao.value.s⟩))))))
noncomputable def Gc(x0:aN)(ao:ByteArray):Command × Bool:=
 let v2:Int:=(List.length x0.commands:Int)
 Sum.elim (fun r=>r) (fun _=>
  (⟨⟨#[]⟩,⟨⟨#[]⟩,0,0,0,[],false,false⟩,[]⟩,false))
 (bo (fun(i3:Nat) (_:Unit)=>
  show Step (Command × Bool) (Unit)from
  bif(cC .eql ((List.getD x0.commands (Int.toNat (i3:Int)) (aE .Command)).name) ao)then
   let bD:Command:=List.getD x0.commands (Int.toNat (i3:Int)) (aE .Command)
   .ret (bD,true)
  else
   .bq ()) 0 (Int.toNat v2) ():(Command × Bool)⊕(Unit))
noncomputable def O5(x0:Home)(ao:b3):Int:=
 let v2:=yu x0 ao.key.dev ao.key.dc
 bif !v2.2 then
  8
 else
  let v6:=Gc v2.1 ao.name
  bif !v6.2 then
   8
  else
   bif(v6.1.param.kind != 0)then
    (vp ⟨v6.1.param.name,v6.1.param.kind,v6.1.param.min,v6.1.param.max,v6.1.param.enum,v6.1.param.fA,v6.1.param.safety⟩ ⟨ao.value.kind,ao.value.n,ao.value.s⟩)
   else
    bif(!(bif ao.value.kind==0 then bif ao.value.n==0 then dI ao.value.s (⟨#[]⟩:ByteArray)else false else false))then
     11
    else
     0
def O6(x0:Home)(ao:b3):Prop:=
 let v2:=yu x0 ao.key.dev ao.key.dc
 (Ga x0 ao.key.dev ao.key.dc)∧
 ((!v2.2)=false→(
  let v6:=Gc v2.1 ao.name
  ((!v6.2)=false→(
   ((v6.1.param.kind != 0)=true→(
    BR ⟨v6.1.param.name,v6.1.param.kind,v6.1.param.min,v6.1.param.max,v6.1.param.enum,v6.1.param.fA,v6.1.param.safety⟩ ⟨ao.value.kind,ao.value.n,ao.value.s⟩))))))
noncomputable def BS(x0:Home)(ao:b3):Int:=
 let v2:=rW x0
 bif(v2 != 0)then
  v2
 else
  bif((decide (ao.kind<1))||(decide (ao.kind>7)))then
   7
  else
   bif((decide (ao.dS<0))||(decide (ao.dS>1099511627776)))then
    2
   else
    bif(!(F8 ao))then
     1
    else
     let aL:Bool→Int:=fun v12=>
      bif v12 then
       (O3 x0 ao)
      else
       bif(ao.kind==3)then
        (O5 x0 ao)
       else
        bif(ao.kind==7)then
         bif(decide ((ByteArray.size ao.text:Int)>20000))then
          3
         else
          0
        else
         bif(!(jO ao.name))then
          10
         else
          0
     let v12:=ao.kind==1
     bif v12 then
      aL v12
     else
      aL (ao.kind==2)
def O7(x0:Home)(ao:b3):Prop:=
 let v2:=rW x0
 (F7 x0)∧
 ((v2 != 0)=false→(
  (((decide (ao.kind<1))||(decide (ao.kind>7)))=false→(
   (((decide (ao.dS<0))||(decide (ao.dS>1099511627776)))=false→(
    ((!(F8 ao))=false→(
     let aL:Bool→Prop:=fun v12=>
      (v12=true→(
       O4 x0 ao))∧(v12=false→(
       ((ao.kind==3)=true→(
        O6 x0 ao))∧((ao.kind==3)=false→(
        ((ao.kind==7)=false→(
         pr ao.name))))))
     let v12:=ao.kind==1
     (v12=true→(
      aL v12))∧(v12=false→(
      aL (ao.kind==2)))))))))))
noncomputable def O8(x0:ByteArray):Int:=
 let v1:Int:=(ByteArray.size x0:Int)
 Sum.elim (fun r=>r) (fun bP=>
  bP)
 (bo (fun(i3:Nat) (aW:Int)=>
  show Step (Int) (Int)from
  .bq (IntKind.wrap .u64 ((bu .xor .u64 aW (IntKind.wrap .u64 (ew x0 (i3:Int))))*(1099511628211:Int)))) 0 (Int.toNat v1) 14695981039346656037:Int⊕(Int))
def Fw(x0:ByteArray):Prop:=
 let v1:Int:=(ByteArray.size x0:Int)
 0≤v1∧v1<(9223372036854775808:Int)
noncomputable def Gd(x0:Int)(ao:ByteArray):Int:=
 let dw:List Int:=([(IntKind.wrap .u8 (bu .shr .u64 x0 (56:Int))),(IntKind.wrap .u8 (bu .shr .u64 x0 (48:Int))),(IntKind.wrap .u8 (bu .shr .u64 x0 (40:Int))),(IntKind.wrap .u8 (bu .shr .u64 x0 (32:Int))),(IntKind.wrap .u8 (bu .shr .u64 x0 (24:Int))),(IntKind.wrap .u8 (bu .shr .u64 x0 (16:Int))),(IntKind.wrap .u8 (bu .shr .u64 x0 (8:Int))),(IntKind.wrap .u8 (bu .shr .u64 x0 (0:Int)))]:List Int)
 let cF:=bytesOf dw
 (IntKind.wrap .i64 (bu .shr .u64 (O8 (ByteArray.append (ByteArray.append cF ao) cF)) (32:Int)))
def Bm(x0:Int)(ao:ByteArray):Prop:=
 let dw:List Int:=([(IntKind.wrap .u8 (bu .shr .u64 x0 (56:Int))),(IntKind.wrap .u8 (bu .shr .u64 x0 (48:Int))),(IntKind.wrap .u8 (bu .shr .u64 x0 (40:Int))),(IntKind.wrap .u8 (bu .shr .u64 x0 (32:Int))),(IntKind.wrap .u8 (bu .shr .u64 x0 (24:Int))),(IntKind.wrap .u8 (bu .shr .u64 x0 (16:Int))),(IntKind.wrap .u8 (bu .shr .u64 x0 (8:Int))),(IntKind.wrap .u8 (bu .shr .u64 x0 (0:Int)))]:List Int)
 let cF:=bytesOf dw
 let v20:=ByteArray.append cF ao
 (ByteArray.size cF+ByteArray.size ao≤9223372036854775807)∧
 let v21:=ByteArray.append v20 cF
 (ByteArray.size v20+ByteArray.size cF≤9223372036854775807)∧
 Fw v21
noncomputable def pC(x0:Int)(ao:ByteArray):ByteArray × Int:=
 let v2:Int:=(ByteArray.size ao:Int)
 bif(decide (v2<4))then
  (⟨#[]⟩,5)
 else
  let v5:=m9 ao none (some (IntKind.wrap .i64 (v2-(4:Int))))
  let v6:=Gd x0 v5
  let dG:List Int:=([(IntKind.wrap .u8 (bu .shr .i64 v6 (24:Int))),(IntKind.wrap .u8 (bu .shr .i64 v6 (16:Int))),(IntKind.wrap .u8 (bu .shr .i64 v6 (8:Int))),(IntKind.wrap .u8 (bu .shr .i64 v6 (0:Int)))]:List Int)
  bif(cC .neq (m9 ao (some (ByteArray.size v5:Int)) none) (bytesOf dG))then
   (⟨#[]⟩,6)
  else
   (v5,0)
def Fx(x0:Int)(ao:ByteArray):Prop:=
 let v2:Int:=(ByteArray.size ao:Int)
 ((decide (v2<4))=false→(
  let v4:Int:=IntKind.wrap .i64 (v2-(4:Int))
  let v5:=m9 ao none (some v4)
  (ju (ByteArray.size ao) none (some v4))∧
  let _:=Gd x0 v5
  (Bm x0 v5)∧
  let eS:Int:=(ByteArray.size v5:Int)
  ju (ByteArray.size ao) (some eS) none))
noncomputable def O9(x0:eK):Int:=
 bif(!(ih x0.cr))then
  10
 else
  bif(((((decide (x0.id<1))||(decide (x0.id>1099511627776)))||(decide (x0.od<0)))||(decide (x0.od>x0.oe)))||(decide (x0.oe>1099511627776)))then
   2
  else
   bif(decide ((IntKind.wrap .i64 (x0.oe-x0.od))>43200))then
    3
   else
    0
def Pb(x0:eK):Prop:=
 m8 x0.cr
noncomputable def Ge(x0:Int)(ao:ByteArray):eK × Int:=
 let v2:=n9 ao
 bif(v2.2 != 0)then
  (⟨⟨#[]⟩,0,0,0⟩,v2.2)
 else
  let v6:=pC x0 v2.1
  bif(v6.2 != 0)then
   (⟨⟨#[]⟩,0,0,0⟩,v6.2)
  else
   let v10:=ix ⟨v6.1,0,true⟩ (24:Int)
   let b4:=gV v10.1
   let de:=gV b4.1
   let cF:=gV de.1
   let v22:=BN cF.1
   let aL:Int→eK × Int:=fun v25=>
    bif(v25 != 0)then
     (⟨⟨#[]⟩,0,0,0⟩,v25)
    else
     (⟨v10.2,b4.2,de.2,cF.2⟩,0)
   bif(v22.2==0)then
    aL (O9 ⟨v10.2,b4.2,de.2,cF.2⟩)
   else
    aL v22.2
def Fy(x0:Int)(ao:ByteArray):Prop:=
 let v2:=n9 ao
 (Bl ao)∧
 ((v2.2 != 0)=false→(
  let v6:=pC x0 v2.1
  (Fx x0 v2.1)∧
  ((v6.2 != 0)=false→(
   let v10:=ix ⟨v6.1,0,true⟩ (24:Int)
   (rR ⟨v6.1,0,true⟩ (24:Int))∧
   let b4:=gV v10.1
   (m7 v10.1)∧
   let de:=gV b4.1
   (m7 b4.1)∧
   let cF:=gV de.1
   (m7 de.1)∧
   let v22:=BN cF.1
   ((v22.2==0)=true→(
    Pb ⟨v10.2,b4.2,de.2,cF.2⟩))))))
noncomputable def Pc(x0:List Int)(ao:Int):Int:=
 let v2:Int:=(List.length x0:Int)
 Sum.elim (fun r=>r) (fun _=>
  (-1))
 (bo (fun(i3:Nat) (_:Unit)=>
  show Step (Int) (Unit)from
  bif(ao==(List.getD x0 (Int.toNat (i3:Int)) (aE .i64)))then
   .ret (i3:Int)
  else
   .bq ()) 0 (Int.toNat v2) ():Int⊕(Unit))
noncomputable def Pd(x0:List Int)(ao:Int):Bool:=
 (decide ((Pc x0 ao)≥0))
noncomputable def eI(x0:Int)(ao:ByteArray)(bV:Int)(cd:List Int):eK × Int:=
 let v4:=Ge x0 ao
 let aL:Int→eK × Int:=fun bD=>
  (⟨⟨#[]⟩,0,0,0⟩,bD)
 bif(v4.2 != 0)then
  aL v4.2
 else
  bif((decide (bV<v4.1.od))||(decide (bV≥v4.1.oe)))then
   aL (17:Int)
  else
   bif(Pd cd v4.1.id)then
    aL (16:Int)
   else
    (v4.1,0)
def Fz(x0:Int)(ao:ByteArray)(_:Int)(_:List Int):Prop:=
 let _:=Ge x0 ao
 Fy x0 ao
noncomputable def yv(x0:eR):Bool:=
 (((decide (0≤x0.from_))&&(decide (x0.from_<x0.vF)))&&(decide (x0.vF≤10080)))
noncomputable def Gf(x0:List eR):Int:=
 let v1:Int:=(List.length x0:Int)
 bif(decide (v1>256))then
  3
 else
  Sum.elim (fun r=>r) (fun _=>
   0)
  (bo (fun(i3:Nat) (_:Unit)=>
   show Step (Int) (Unit)from
   let v5:eR:=List.getD x0 (Int.toNat (i3:Int)) (aE .eR)
   bif(!(yv v5))then
    .ret 2
   else
    .bq ()) 0 (Int.toNat v1) ():Int⊕(Unit))
noncomputable def Gg(x0:Home)(ao:List cg)(bV:Int):Int:=
 let v3:cg:=List.getD ao (Int.toNat bV) (aE .cg)
 bif(!(ih v3.name))then
  10
 else
  let v6:=iy ao none (some bV)
  let bN:Int→Int:=fun bD=>
   bif(decide (bD≥0))then
    9
   else
    bif((decide (v3.role<1))||(decide (v3.role>4)))then
     2
    else
     let v12:=Gf v3.k9
     bif(v12 != 0)then
      v12
     else
      let cF:Int:=(List.length v3.fN:Int)
      bif((cA.den (.nb true) (v3.role==1) (decide ((List.length v3.k9:Int)>0)))||((decide (v3.role≥3))&&(decide (cF>0))))then
       4
      else
       bif(decide (cF>256))then
        3
       else
        Sum.elim (fun r=>r) (fun _=>
         0)
        (bo (fun(i24:Nat) (_:Unit)=>
         show Step (Int) (Unit)from
         let v26:ByteArray:=List.getD v3.fN (Int.toNat (i24:Int)) (aE .str)
         bif(!(ih v26))then
          .ret 10
         else
          let bN:Int→Step (Int) (Unit):=fun iz=>
           bif(!(decide (iz≥0)))then
            .ret 8
           else
            .bq ()
          let iz:Int:=(List.length x0.bw:Int)
          Sum.elim (fun r=>r) (fun _=>
           bN ((-1):Int))
          (bo (fun(i30:Nat) (_:Unit)=>
           show Step (Step (Int) (Unit)) (Unit)from
           bif(cC .eql ((List.getD x0.bw (Int.toNat (i30:Int)) (aE .bR)).room) v26)then
            .ret (bN (i30:Int))
           else
            .bq ()) 0 (Int.toNat iz) ():(Step (Int) (Unit))⊕(Unit))) 0 (Int.toNat cF) ():Int⊕(Unit))
  let bD:Int:=(List.length v6:Int)
  Sum.elim (fun r=>r) (fun _=>
   bN ((-1):Int))
  (bo (fun(i8:Nat) (_:Unit)=>
   show Step (Int) (Unit)from
   bif(cC .eql ((List.getD v6 (Int.toNat (i8:Int)) (aE .cg)).name) v3.name)then
    .ret (bN (i8:Int))
   else
    .bq ()) 0 (Int.toNat bD) ():Int⊕(Unit))
def Bq(x0:Home)(ao:List cg)(bV:Int):Prop:=
 let v3:cg:=List.getD ao (Int.toNat bV) (aE .cg)
 (0≤bV∧bV<(List.length ao:Int))∧
 (m8 v3.name)∧
 ((!(ih v3.name))=false→(
  let v6:=iy ao none (some bV)
  (ju (List.length ao) none (some bV))∧
  let bN:Int→Prop:=fun bD=>
   ((decide (bD≥0))=false→(
    (((decide (v3.role<1))||(decide (v3.role>4)))=false→(
     let v12:=Gf v3.k9
     ((v12 != 0)=false→(
      let cF:Int:=(List.length v3.fN:Int)
      (((cA.den (.nb true) (v3.role==1) (decide ((List.length v3.k9:Int)>0)))||((decide (v3.role≥3))&&(decide (cF>0))))=false→(
       ((decide (cF>256))=false→(
        ∃bx:Nat→(Unit)→Prop,bx 0 ()∧∀(i24:Nat) (d0:Unit),i24<Int.toNat cF→bx i24 d0→(
         let v26:ByteArray:=List.getD v3.fN (Int.toNat (i24:Int)) (aE .str)
         (m8 v26)∧
         ((!(ih v26))=false→(
          let bN:Int→Prop:=fun iz=>
           ((!(decide (iz≥0)))=false→(
            bx (i24+1) ()))
          let iz:Int:=(List.length x0.bw:Int)
          let fu:Unit→Prop:=fun _=>
           bN ((-1):Int)
          ∃ej:Nat→(Unit)→Prop,ej 0 ()∧(∀(i30:Nat) (d1:Unit),i30<Int.toNat iz→ej i30 d1→(
           ((cC .eql ((List.getD x0.bw (Int.toNat (i30:Int)) (aE .bR)).room) v26)=true→(
            bN (i30:Int)))∧((cC .eql ((List.getD x0.bw (Int.toNat (i30:Int)) (aE .bR)).room) v26)=false→(
            ej (i30+1) ()))))∧∀aW,ej (Int.toNat iz) aW→fu aW)))))))))))))
  let bD:Int:=(List.length v6:Int)
  let gE:Unit→Prop:=fun _=>
   bN ((-1):Int)
  ∃kj:Nat→(Unit)→Prop,kj 0 ()∧(∀(i8:Nat) (d2:Unit),i8<Int.toNat bD→kj i8 d2→(
   ((cC .eql ((List.getD v6 (Int.toNat (i8:Int)) (aE .cg)).name) v3.name)=true→(
    bN (i8:Int)))∧((cC .eql ((List.getD v6 (Int.toNat (i8:Int)) (aE .cg)).name) v3.name)=false→(
    kj (i8+1) ()))))∧∀dp,kj (Int.toNat bD) dp→gE dp))
noncomputable def Pe(x0:cg):Bool:=
 (x0.role==4)
noncomputable def Gh(x0:Home)(ao:List cg):Int:=
 let v2:=hP x0
 bif(v2 != 0)then
  v2
 else
  let v6:Int:=(List.length ao:Int)
  bif((decide ((List.length ao:Int)<1))||(decide (v6>16)))then
   3
  else
   Sum.elim (fun r=>r) (fun _=>
    let bN:Int→Int:=fun v9=>
     bif(!(decide (v9≥0)))then
      8
     else
      0
    Sum.elim (fun r=>r) (fun _=>
     bN ((-1):Int))
    (bo (fun(i9:Nat) (_:Unit)=>
     show Step (Int) (Unit)from
     let v11:cg:=List.getD ao (Int.toNat (i9:Int)) (aE .cg)
     bif(Pe v11)then
      .ret (bN (i9:Int))
     else
      .bq ()) 0 (Int.toNat v6) ():Int⊕(Unit)))
   (bo (fun(i9:Nat) (_:Unit)=>
    show Step (Int) (Unit)from
    let v11:=Gg x0 ao (i9:Int)
    bif(v11 != 0)then
     .ret v11
    else
     .bq ()) 0 (Int.toNat v6) ():Int⊕(Unit))
def FC(x0:Home)(ao:List cg):Prop:=
 let v2:=hP x0
 (x1 x0)∧
 ((v2 != 0)=false→(
  let v6:Int:=(List.length ao:Int)
  (((decide ((List.length ao:Int)<1))||(decide (v6>16)))=false→(
   ∃bx:Nat→(Unit)→Prop,bx 0 ()∧∀(i9:Nat) (d0:Unit),i9<Int.toNat v6→bx i9 d0→(
    let v11:=Gg x0 ao (i9:Int)
    (Bq x0 ao (i9:Int))∧
    ((v11 != 0)=false→(
     bx (i9+1) ())))))))
def Pf(x:List eR):List eR:=x
def FE(x:List eR):Prop:=x.length≤maxLen∧x.length*16≤140737488355328
noncomputable def Gi(x0:List cg)(ao:ByteArray):cg × Bool:=
 let v2:Int:=(List.length x0:Int)
 Sum.elim (fun r=>r) (fun _=>
  (⟨⟨#[]⟩,0,[],[],false⟩,false))
 (bo (fun(i3:Nat) (_:Unit)=>
  show Step (cg × Bool) (Unit)from
  let v5:cg:=List.getD x0 (Int.toNat (i3:Int)) (aE .cg)
  bif(cC .eql v5.name ao)then
   .ret (⟨v5.name,v5.role,(Pf v5.k9),(BQ v5.fN),v5.home⟩,true)
  else
   .bq ()) 0 (Int.toNat v2) ():(cg × Bool)⊕(Unit))
def FD(x0:List cg)(ao:ByteArray):Prop:=
 let v2:Int:=(List.length x0:Int)
 ∃bx:Nat→(Unit)→Prop,bx 0 ()∧∀(i3:Nat) (d0:Unit),i3<Int.toNat v2→bx i3 d0→(
  let v5:cg:=List.getD x0 (Int.toNat (i3:Int)) (aE .cg)
  ((cC .eql v5.name ao)=true→(
   (FE v5.k9)∧
   vk v5.fN))∧((cC .eql v5.name ao)=false→(
   bx (i3+1) ())))
noncomputable def og(x0:Home)(ao:Int):ByteArray:=
 let v2:=lP x0 ao
 v2.1.room
def qB(x0:Home)(ao:Int):Prop:=
 let _:=lP x0 ao
 x2 x0 ao
noncomputable def BT(x0:Home)(ao:dr):Bool:=
 let v2:=yr x0 ao
 (v2.2&&v2.1.safety)
def Br(x0:Home)(ao:dr):Prop:=
 let _:=yr x0 ao
 Bi x0 ao
noncomputable def Gj(x0:Home)(ao:Int):(List dr):=
 let v2:=lP x0 ao
 let v6:Int:=(List.length v2.1.bH:Int)
 Sum.elim (fun r=>r) (fun bP=>
  bP)
 (bo (fun(i8:Nat) (aW:(List dr))=>
  show Step ((List dr)) ((List dr))from
  let v10:ByteArray:=List.getD v2.1.bH (Int.toNat (i8:Int)) (aE .str)
  let v11:aN:=(jw (.str) (kh x0) v10).getD (aE .aN)
  let v12:Int:=(List.length v11.attrs:Int)
  Sum.elim (fun r=>r) (fun dp=>
   .bq dp)
  (bo (fun(i14:Nat) (c9:(List dr))=>
   show Step (Step ((List dr)) ((List dr))) ((List dr))from
   .bq (List.append c9 ([⟨ao,v10,(List.getD v11.attrs (Int.toNat (i14:Int)) (aE .Attr)).name⟩]:List dr))) 0 (Int.toNat v12) aW:(Step ((List dr)) ((List dr)))⊕((List dr)))) 0 (Int.toNat v6) []:(List dr)⊕((List dr)))
def FF(x0:Home)(ao:Int):Prop:=
 let v2:=lP x0 ao
 (x2 x0 ao)∧
 let v6:Int:=(List.length v2.1.bH:Int)
 ∃bx:Nat→((List dr))→Prop,bx 0 []∧∀(i8:Nat) (d0:(List dr)),i8<Int.toNat v6→bx i8 d0→(
  let v10:ByteArray:=List.getD v2.1.bH (Int.toNat (i8:Int)) (aE .str)
  let v11:aN:=(jw (.str) (kh x0) v10).getD (aE .aN)
  let v12:Int:=(List.length v11.attrs:Int)
  let fu:(List dr)→Prop:=fun aW=>
   bx (i8+1) aW
  ∃ej:Nat→((List dr))→Prop,ej 0 d0∧(∀(i14:Nat) (d1:(List dr)),i14<Int.toNat v12→ej i14 d1→(
   let dG:List dr:=([⟨ao,v10,(List.getD v11.attrs (Int.toNat (i14:Int)) (aE .Attr)).name⟩]:List dr)
   (List.length d1+List.length dG≤maxLen∧(List.length d1+List.length dG)*40≤140737488355328)∧
   ej (i14+1) (List.append d1 dG)))∧∀aW,ej (Int.toNat v12) aW→fu aW)
noncomputable def BU(x0:Home)(ao:b3):Bool:=
 bif(ao.kind==2)then
  (BT x0 ⟨ao.key.dev,ao.key.dc,ao.key.attr⟩)
 else
  let v3:=Gj x0 ao.key.dev
  let eA:Int→Bool:=fun v4=>
   (decide (v4≥0))
  let v4:Int:=(List.length v3:Int)
  Sum.elim (fun r=>r) (fun _=>
   eA ((-1):Int))
  (bo (fun(i5:Nat) (_:Unit)=>
   show Step (Bool) (Unit)from
   let bD:dr:=List.getD v3 (Int.toNat (i5:Int)) (aE .dr)
   let bs:=cC .eql bD.dc ao.key.dc
   let aL:Bool→Step (Bool) (Unit):=fun v9=>
    bif(bs&&v9)then
     .ret (eA (i5:Int))
    else
     .bq ()
   bif bs then
    aL (BT x0 bD)
   else
    aL false) 0 (Int.toNat v4) ():Bool⊕(Unit))
def vx(x0:Home)(ao:b3):Prop:=
 ((ao.kind==2)=true→(
  Br x0 ⟨ao.key.dev,ao.key.dc,ao.key.attr⟩))∧((ao.kind==2)=false→(
  let v3:=Gj x0 ao.key.dev
  (FF x0 ao.key.dev)∧
  let v4:Int:=(List.length v3:Int)
  ∃bx:Nat→(Unit)→Prop,bx 0 ()∧∀(i5:Nat) (d0:Unit),i5<Int.toNat v4→bx i5 d0→(
   let bD:dr:=List.getD v3 (Int.toNat (i5:Int)) (aE .dr)
   let bs:=cC .eql bD.dc ao.key.dc
   let aL:Bool→Prop:=fun v9=>
    ((bs&&v9)=false→(
     bx (i5+1) ()))
   (bs=true→(
    (Br x0 bD)∧
    aL (BT x0 bD)))∧(bs=false→(
    aL false)))))
noncomputable def Pg(x0:Home)(ao:cg)(bV:Int)(cd:b3):Int:=
 bif((decide (cd.kind<1))||(decide (cd.kind>7)))then
  7
 else
  bif(ao.role==1)then
   let bs:=decide (bV≥0)
   let eA:Bool→Int:=fun v9=>
    bif(!(bs&&v9))then
     17
    else
     let jz:Int→Int:=fun v12=>
      bif(decide (0<v12))then
       16
      else
       0
     let aL:Bool→Int:=fun v12=>
      bif v12 then
       let eA:Int→Int:=fun cU=>
        cU
       let bN:Int→Int:=fun cU=>
        bif(!(decide (cU≥0)))then
         eA (8:Int)
        else
         let dw:=decide ((List.length ao.fN:Int)>0)
         let aL:ByteArray→Int:=fun cF=>
          let aL:Bool→Int:=fun v20=>
           bif(dw&&(!v20))then
            eA (16:Int)
           else
            bif(BU x0 cd)then
             eA (16:Int)
            else
             eA (0:Int)
          bif dw then
           aL (jv ao.fN cF)
          else
           aL false
         bif dw then
          aL (og x0 cd.key.dev)
         else
          aL (⟨#[]⟩:ByteArray)
       let cU:Int:=(List.length x0.bw:Int)
       Sum.elim (fun r=>r) (fun _=>
        bN ((-1):Int))
       (bo (fun(i15:Nat) (_:Unit)=>
        show Step (Int) (Unit)from
        bif(((List.getD x0.bw (Int.toNat (i15:Int)) (aE .bR)).id)==cd.key.dev)then
         .ret (bN (i15:Int))
        else
         .bq ()) 0 (Int.toNat cU) ():Int⊕(Unit))
      else
       bif(cd.kind==4)then
        jz (1:Int)
       else
        bif(cd.kind==5)then
         jz (2:Int)
        else
         let aL:Bool→Int:=fun de=>
          bif de then
           jz (3:Int)
          else
           jz (0:Int)
         let de:=cd.kind==6
         bif de then
          aL de
         else
          aL (cd.kind==7)
     let v12:=cd.kind==2
     bif v12 then
      aL v12
     else
      aL (cd.kind==3)
   bif bs then
    let bN:Bool→Int:=fun v9=>
     eA v9
    let v9:Int:=bu .rem .i64 bV (10080:Int)
    let aL:Int→Int:=fun v10=>
     let v12:Int:=(List.length ao.k9:Int)
     Sum.elim (fun r=>r) (fun _=>
      bN false)
     (bo (fun(i13:Nat) (_:Unit)=>
      show Step (Int) (Unit)from
      let eS:eR:=List.getD ao.k9 (Int.toNat (i13:Int)) (aE .eR)
      bif(((yv eS)&&(decide (eS.from_≤v10)))&&(decide (v10<eS.vF)))then
       .ret (bN true)
      else
       .bq ()) 0 (Int.toNat v12) ():Int⊕(Unit))
    bif(decide (v9<0))then
     aL (IntKind.wrap .i64 (v9+(10080:Int)))
    else
     aL v9
   else
    eA false
  else
   bif(ao.role==2)then
    bif !true then
     17
    else
     let jz:Int→Int:=fun v10=>
      bif(decide (1<v10))then
       16
      else
       0
     bif(cd.kind==2)then
      let eA:Int→Int:=fun v11=>
       v11
      let bN:Int→Int:=fun v11=>
       bif(!(decide (v11≥0)))then
        eA (8:Int)
       else
        let eS:=decide ((List.length ao.fN:Int)>0)
        let aL:ByteArray→Int:=fun de=>
         let aL:Bool→Int:=fun dG=>
          bif(eS&&(!dG))then
           eA (16:Int)
          else
           bif(BU x0 cd)then
            eA (16:Int)
           else
            eA (0:Int)
         bif eS then
          aL (jv ao.fN de)
         else
          aL false
        bif eS then
         aL (og x0 cd.key.dev)
        else
         aL (⟨#[]⟩:ByteArray)
      let v11:Int:=(List.length x0.bw:Int)
      Sum.elim (fun r=>r) (fun _=>
       bN ((-1):Int))
      (bo (fun(i12:Nat) (_:Unit)=>
       show Step (Int) (Unit)from
       bif(((List.getD x0.bw (Int.toNat (i12:Int)) (aE .bR)).id)==cd.key.dev)then
        .ret (bN (i12:Int))
       else
        .bq ()) 0 (Int.toNat v11) ():Int⊕(Unit))
     else
      bif(cd.kind==3)then
       let eA:Int→Int:=fun v12=>
        v12
       let bN:Int→Int:=fun v12=>
        bif(!(decide (v12≥0)))then
         eA (8:Int)
        else
         let de:=decide ((List.length ao.fN:Int)>0)
         let aL:ByteArray→Int:=fun dG=>
          let aL:Bool→Int:=fun dw=>
           bif(de&&(!dw))then
            eA (16:Int)
           else
            bif(BU x0 cd)then
             eA (16:Int)
            else
             eA (0:Int)
          bif de then
           aL (jv ao.fN dG)
          else
           aL false
         bif de then
          aL (og x0 cd.key.dev)
         else
          aL (⟨#[]⟩:ByteArray)
       let v12:Int:=(List.length x0.bw:Int)
       Sum.elim (fun r=>r) (fun _=>
        bN ((-1):Int))
       (bo (fun(i13:Nat) (_:Unit)=>
        show Step (Int) (Unit)from
        bif(((List.getD x0.bw (Int.toNat (i13:Int)) (aE .bR)).id)==cd.key.dev)then
         .ret (bN (i13:Int))
        else
         .bq ()) 0 (Int.toNat v12) ():Int⊕(Unit))
      else
       bif(cd.kind==4)then
        jz (1:Int)
       else
        bif(cd.kind==5)then
         jz (2:Int)
        else
         let aL:Bool→Int:=fun cU=>
          bif cU then
           jz (3:Int)
          else
           jz (0:Int)
         let cU:=cd.kind==6
         bif cU then
          aL cU
         else
          aL (cd.kind==7)
   else
    bif(ao.role==3)then
     bif !true then
      17
     else
      let jz:Int→Int:=fun v11=>
       bif(decide (2<v11))then
        16
       else
        0
      bif(cd.kind==2)then
       let eA:Int→Int:=fun v12=>
        v12
       let bN:Int→Int:=fun v12=>
        bif(!(decide (v12≥0)))then
         eA (8:Int)
        else
         let de:=decide ((List.length ao.fN:Int)>0)
         let aL:ByteArray→Int:=fun dG=>
          let aL:Bool→Int:=fun dw=>
           bif(de&&(!dw))then
            eA (16:Int)
           else
            eA (0:Int)
          bif de then
           aL (jv ao.fN dG)
          else
           aL false
         bif de then
          aL (og x0 cd.key.dev)
         else
          aL (⟨#[]⟩:ByteArray)
       let v12:Int:=(List.length x0.bw:Int)
       Sum.elim (fun r=>r) (fun _=>
        bN ((-1):Int))
       (bo (fun(i13:Nat) (_:Unit)=>
        show Step (Int) (Unit)from
        bif(((List.getD x0.bw (Int.toNat (i13:Int)) (aE .bR)).id)==cd.key.dev)then
         .ret (bN (i13:Int))
        else
         .bq ()) 0 (Int.toNat v12) ():Int⊕(Unit))
      else
       bif(cd.kind==3)then
        let eA:Int→Int:=fun b4=>
         b4
        let bN:Int→Int:=fun b4=>
         bif(!(decide (b4≥0)))then
          eA (8:Int)
         else
          let dG:=decide ((List.length ao.fN:Int)>0)
          let aL:ByteArray→Int:=fun dw=>
           let aL:Bool→Int:=fun cF=>
            bif(dG&&(!cF))then
             eA (16:Int)
            else
             eA (0:Int)
           bif dG then
            aL (jv ao.fN dw)
           else
            aL false
          bif dG then
           aL (og x0 cd.key.dev)
          else
           aL (⟨#[]⟩:ByteArray)
        let b4:Int:=(List.length x0.bw:Int)
        Sum.elim (fun r=>r) (fun _=>
         bN ((-1):Int))
        (bo (fun(i14:Nat) (_:Unit)=>
         show Step (Int) (Unit)from
         bif(((List.getD x0.bw (Int.toNat (i14:Int)) (aE .bR)).id)==cd.key.dev)then
          .ret (bN (i14:Int))
         else
          .bq ()) 0 (Int.toNat b4) ():Int⊕(Unit))
       else
        bif(cd.kind==4)then
         jz (1:Int)
        else
         bif(cd.kind==5)then
          jz (2:Int)
         else
          let aL:Bool→Int:=fun eS=>
           bif eS then
            jz (3:Int)
           else
            jz (0:Int)
          let eS:=cd.kind==6
          bif eS then
           aL eS
          else
           aL (cd.kind==7)
    else
     bif !true then
      17
     else
      let jz:Int→Int:=fun v11=>
       bif(decide (3<v11))then
        16
       else
        0
      bif(cd.kind==2)then
       let eA:Int→Int:=fun v12=>
        v12
       let bN:Int→Int:=fun v12=>
        bif(!(decide (v12≥0)))then
         eA (8:Int)
        else
         let de:=decide ((List.length ao.fN:Int)>0)
         let aL:ByteArray→Int:=fun dG=>
          let aL:Bool→Int:=fun dw=>
           bif(de&&(!dw))then
            eA (16:Int)
           else
            eA (0:Int)
          bif de then
           aL (jv ao.fN dG)
          else
           aL false
         bif de then
          aL (og x0 cd.key.dev)
         else
          aL (⟨#[]⟩:ByteArray)
       let v12:Int:=(List.length x0.bw:Int)
       Sum.elim (fun r=>r) (fun _=>
        bN ((-1):Int))
       (bo (fun(i13:Nat) (_:Unit)=>
        show Step (Int) (Unit)from
        bif(((List.getD x0.bw (Int.toNat (i13:Int)) (aE .bR)).id)==cd.key.dev)then
         .ret (bN (i13:Int))
        else
         .bq ()) 0 (Int.toNat v12) ():Int⊕(Unit))
      else
       bif(cd.kind==3)then
        let eA:Int→Int:=fun b4=>
         b4
        let bN:Int→Int:=fun b4=>
         bif(!(decide (b4≥0)))then
          eA (8:Int)
         else
          let dG:=decide ((List.length ao.fN:Int)>0)
          let aL:ByteArray→Int:=fun dw=>
           let aL:Bool→Int:=fun cF=>
            bif(dG&&(!cF))then
             eA (16:Int)
            else
             eA (0:Int)
           bif dG then
            aL (jv ao.fN dw)
           else
            aL false
          bif dG then
           aL (og x0 cd.key.dev)
          else
           aL (⟨#[]⟩:ByteArray)
        let b4:Int:=(List.length x0.bw:Int)
        Sum.elim (fun r=>r) (fun _=>
         bN ((-1):Int))
        (bo (fun(i14:Nat) (_:Unit)=>
         show Step (Int) (Unit)from
         bif(((List.getD x0.bw (Int.toNat (i14:Int)) (aE .bR)).id)==cd.key.dev)then
          .ret (bN (i14:Int))
         else
          .bq ()) 0 (Int.toNat b4) ():Int⊕(Unit))
       else
        bif(cd.kind==4)then
         jz (1:Int)
        else
         bif(cd.kind==5)then
          jz (2:Int)
         else
          let aL:Bool→Int:=fun eS=>
           bif eS then
            jz (3:Int)
           else
            jz (0:Int)
          let eS:=cd.kind==6
          bif eS then
           aL eS
          else
           aL (cd.kind==7)
def Bs(x0:Home)(ao:cg)(bV:Int)(cd:b3):Prop:=
 (((decide (cd.kind<1))||(decide (cd.kind>7)))=false→(
  ((ao.role==1)=true→(
   let bs:=decide (bV≥0)
   let eA:Bool→Prop:=fun v9=>
    ((!(bs&&v9))=false→(
     let aL:Bool→Prop:=fun v12=>
      (v12=true→(
       let bN:Int→Prop:=fun cU=>
        ((!(decide (cU≥0)))=false→(
         let dw:=decide ((List.length ao.fN:Int)>0)
         let aL:ByteArray→Prop:=fun cF=>
          let aL:Bool→Prop:=fun v20=>
           ((dw&&(!v20))=false→(
            vx x0 cd))
          (dw=true→(
           aL (jv ao.fN cF)))∧(dw=false→(
           aL false))
         (dw=true→(
          (qB x0 cd.key.dev)∧
          aL (og x0 cd.key.dev)))∧(dw=false→(
          aL (⟨#[]⟩:ByteArray)))))
       let cU:Int:=(List.length x0.bw:Int)
       let aX:Unit→Prop:=fun _=>
        bN ((-1):Int)
       ∃bx:Nat→(Unit)→Prop,bx 0 ()∧(∀(i15:Nat) (d0:Unit),i15<Int.toNat cU→bx i15 d0→(
        ((((List.getD x0.bw (Int.toNat (i15:Int)) (aE .bR)).id)==cd.key.dev)=true→(
         bN (i15:Int)))∧((((List.getD x0.bw (Int.toNat (i15:Int)) (aE .bR)).id)==cd.key.dev)=false→(
         bx (i15+1) ()))))∧∀bP,bx (Int.toNat cU) bP→aX bP))
     let v12:=cd.kind==2
     (v12=true→(
      aL v12))∧(v12=false→(
      aL (cd.kind==3)))))
   (bs=true→(
    let bN:Bool→Prop:=fun v9=>
     eA v9
    let v9:Int:=bu .rem .i64 bV (10080:Int)
    let aL:Int→Prop:=fun v10=>
     let v12:Int:=(List.length ao.k9:Int)
     let fu:Unit→Prop:=fun _=>
      bN false
     ∃ej:Nat→(Unit)→Prop,ej 0 ()∧(∀(i13:Nat) (d1:Unit),i13<Int.toNat v12→ej i13 d1→(
      let eS:eR:=List.getD ao.k9 (Int.toNat (i13:Int)) (aE .eR)
      ((((yv eS)&&(decide (eS.from_≤v10)))&&(decide (v10<eS.vF)))=true→(
       bN true))∧((((yv eS)&&(decide (eS.from_≤v10)))&&(decide (v10<eS.vF)))=false→(
       ej (i13+1) ()))))∧∀aW,ej (Int.toNat v12) aW→fu aW
    ((decide (v9<0))=true→(
     aL (IntKind.wrap .i64 (v9+(10080:Int)))))∧((decide (v9<0))=false→(
     aL v9))))∧(bs=false→(
    eA false))))∧((ao.role==1)=false→(
   ((ao.role==2)=true→(
    ((!true)=false→(
     ((cd.kind==2)=true→(
      let bN:Int→Prop:=fun v11=>
       ((!(decide (v11≥0)))=false→(
        let eS:=decide ((List.length ao.fN:Int)>0)
        let aL:ByteArray→Prop:=fun de=>
         let aL:Bool→Prop:=fun dG=>
          ((eS&&(!dG))=false→(
           vx x0 cd))
         (eS=true→(
          aL (jv ao.fN de)))∧(eS=false→(
          aL false))
        (eS=true→(
         (qB x0 cd.key.dev)∧
         aL (og x0 cd.key.dev)))∧(eS=false→(
         aL (⟨#[]⟩:ByteArray)))))
      let v11:Int:=(List.length x0.bw:Int)
      let gE:Unit→Prop:=fun _=>
       bN ((-1):Int)
      ∃kj:Nat→(Unit)→Prop,kj 0 ()∧(∀(i12:Nat) (d2:Unit),i12<Int.toNat v11→kj i12 d2→(
       ((((List.getD x0.bw (Int.toNat (i12:Int)) (aE .bR)).id)==cd.key.dev)=true→(
        bN (i12:Int)))∧((((List.getD x0.bw (Int.toNat (i12:Int)) (aE .bR)).id)==cd.key.dev)=false→(
        kj (i12+1) ()))))∧∀dp,kj (Int.toNat v11) dp→gE dp))∧((cd.kind==2)=false→(
      ((cd.kind==3)=true→(
       let bN:Int→Prop:=fun v12=>
        ((!(decide (v12≥0)))=false→(
         let de:=decide ((List.length ao.fN:Int)>0)
         let aL:ByteArray→Prop:=fun dG=>
          let aL:Bool→Prop:=fun dw=>
           ((de&&(!dw))=false→(
            vx x0 cd))
          (de=true→(
           aL (jv ao.fN dG)))∧(de=false→(
           aL false))
         (de=true→(
          (qB x0 cd.key.dev)∧
          aL (og x0 cd.key.dev)))∧(de=false→(
          aL (⟨#[]⟩:ByteArray)))))
       let v12:Int:=(List.length x0.bw:Int)
       let kM:Unit→Prop:=fun _=>
        bN ((-1):Int)
       ∃lS:Nat→(Unit)→Prop,lS 0 ()∧(∀(i13:Nat) (d3:Unit),i13<Int.toNat v12→lS i13 d3→(
        ((((List.getD x0.bw (Int.toNat (i13:Int)) (aE .bR)).id)==cd.key.dev)=true→(
         bN (i13:Int)))∧((((List.getD x0.bw (Int.toNat (i13:Int)) (aE .bR)).id)==cd.key.dev)=false→(
         lS (i13+1) ()))))∧∀c9,lS (Int.toNat v12) c9→kM c9))))))))∧((ao.role==2)=false→(
    ((ao.role==3)=true→(
     ((!true)=false→(
      ((cd.kind==2)=true→(
       let bN:Int→Prop:=fun v12=>
        ((!(decide (v12≥0)))=false→(
         let de:=decide ((List.length ao.fN:Int)>0)
         (de=true→(
          qB x0 cd.key.dev))))
       let v12:Int:=(List.length x0.bw:Int)
       let r2:Unit→Prop:=fun _=>
        bN ((-1):Int)
       ∃BX:Nat→(Unit)→Prop,BX 0 ()∧(∀(i13:Nat) (d4:Unit),i13<Int.toNat v12→BX i13 d4→(
        ((((List.getD x0.bw (Int.toNat (i13:Int)) (aE .bR)).id)==cd.key.dev)=true→(
         bN (i13:Int)))∧((((List.getD x0.bw (Int.toNat (i13:Int)) (aE .bR)).id)==cd.key.dev)=false→(
         BX (i13+1) ()))))∧∀gl,BX (Int.toNat v12) gl→r2 gl))∧((cd.kind==2)=false→(
       ((cd.kind==3)=true→(
        let bN:Int→Prop:=fun b4=>
         ((!(decide (b4≥0)))=false→(
          let dG:=decide ((List.length ao.fN:Int)>0)
          (dG=true→(
           qB x0 cd.key.dev))))
        let b4:Int:=(List.length x0.bw:Int)
        let yx:Unit→Prop:=fun _=>
         bN ((-1):Int)
        ∃BY:Nat→(Unit)→Prop,BY 0 ()∧(∀(i14:Nat) (d5:Unit),i14<Int.toNat b4→BY i14 d5→(
         ((((List.getD x0.bw (Int.toNat (i14:Int)) (aE .bR)).id)==cd.key.dev)=true→(
          bN (i14:Int)))∧((((List.getD x0.bw (Int.toNat (i14:Int)) (aE .bR)).id)==cd.key.dev)=false→(
          BY (i14+1) ()))))∧∀iC,BY (Int.toNat b4) iC→yx iC))))))))∧((ao.role==3)=false→(
     ((!true)=false→(
      ((cd.kind==2)=true→(
       let bN:Int→Prop:=fun v12=>
        ((!(decide (v12≥0)))=false→(
         let de:=decide ((List.length ao.fN:Int)>0)
         (de=true→(
          qB x0 cd.key.dev))))
       let v12:Int:=(List.length x0.bw:Int)
       let tD:Unit→Prop:=fun _=>
        bN ((-1):Int)
       ∃BZ:Nat→(Unit)→Prop,BZ 0 ()∧(∀(i13:Nat) (d6:Unit),i13<Int.toNat v12→BZ i13 d6→(
        ((((List.getD x0.bw (Int.toNat (i13:Int)) (aE .bR)).id)==cd.key.dev)=true→(
         bN (i13:Int)))∧((((List.getD x0.bw (Int.toNat (i13:Int)) (aE .bR)).id)==cd.key.dev)=false→(
         BZ (i13+1) ()))))∧∀ki,BZ (Int.toNat v12) ki→tD ki))∧((cd.kind==2)=false→(
       ((cd.kind==3)=true→(
        let bN:Int→Prop:=fun b4=>
         ((!(decide (b4≥0)))=false→(
          let dG:=decide ((List.length ao.fN:Int)>0)
          (dG=true→(
           qB x0 cd.key.dev))))
        let b4:Int:=(List.length x0.bw:Int)
        let vJ:Unit→Prop:=fun _=>
         bN ((-1):Int)
        ∃B0:Nat→(Unit)→Prop,B0 0 ()∧(∀(i14:Nat) (d7:Unit),i14<Int.toNat b4→B0 i14 d7→(
         ((((List.getD x0.bw (Int.toNat (i14:Int)) (aE .bR)).id)==cd.key.dev)=true→(
          bN (i14:Int)))∧((((List.getD x0.bw (Int.toNat (i14:Int)) (aE .bR)).id)==cd.key.dev)=false→(
          B0 (i14+1) ()))))∧∀jy,B0 (Int.toNat b4) jy→vJ jy))))))))))))))
noncomputable def pe(x0:Home)(ao:List cg)(bV:ByteArray)(cd:Int)(c2:b3):Int:=
 let v5:=Gh x0 ao
 bif(v5 != 0)then
  v5
 else
  let bD:=Gi ao bV
  bif !bD.2 then
   8
  else
   (Pg x0 bD.1 cd c2)
def FG(x0:Home)(ao:List cg)(bV:ByteArray)(cd:Int)(c2:b3):Prop:=
 let v5:=Gh x0 ao
 (FC x0 ao)∧
 ((v5 != 0)=false→(
  let bD:=Gi ao bV
  (FD ao bV)∧
  ((!bD.2)=false→(
   Bs x0 bD.1 cd c2))))
noncomputable def hq(x0:List bA)(ao:ByteArray):Int × Bool:=
 let bN:Int→Int × Bool:=fun v2=>
  bif(decide (v2≥0))then
   (v2,true)
  else
   let bN:Int→Int × Bool:=fun v4=>
    let aL:Int→Int × Bool:=fun v5=>
     (v5,false)
    bif(decide (v4<0))then
     aL (List.length x0:Int)
    else
     aL v4
   let v4:Int:=(List.length x0:Int)
   Sum.elim (fun r=>r) (fun _=>
    bN ((-1):Int))
   (bo (fun(i5:Nat) (_:Unit)=>
    show Step (Int × Bool) (Unit)from
    bif(cC .gtr ((List.getD x0 (Int.toNat (i5:Int)) (aE .bA)).cr) ao)then
     .ret (bN (i5:Int))
    else
     .bq ()) 0 (Int.toNat v4) ():(Int × Bool)⊕(Unit))
 let v2:Int:=(List.length x0:Int)
 Sum.elim (fun r=>r) (fun _=>
  bN ((-1):Int))
 (bo (fun(i3:Nat) (_:Unit)=>
  show Step (Int × Bool) (Unit)from
  bif(cC .eql ((List.getD x0 (Int.toNat (i3:Int)) (aE .bA)).cr) ao)then
   .ret (bN (i3:Int))
  else
   .bq ()) 0 (Int.toNat v2) ():(Int × Bool)⊕(Unit))
noncomputable def Gk:dA:=
 ⟨(-1),0⟩
noncomputable def tl(x0:dA):Int:=
 bif((x0.top==(-1))&&(x0.bits==0))then
  0
 else
  bif(((decide (x0.top<0))||(decide (x0.top>1099511627776)))||((bu .and .u64 x0.bits (1:Int))==0))then
   2
  else
   bif((decide (x0.top<63))&&((bu .shr .u64 x0.bits (IntKind.wrap .i64 (x0.top+(1:Int)))) != 0))then
    2
   else
    0
def FJ(x0:dA):Prop:=
 (((x0.top==(-1))&&(x0.bits==0))=false→(
  ((((decide (x0.top<0))||(decide (x0.top>1099511627776)))||((bu .and .u64 x0.bits (1:Int))==0))=false→(
   let v10:=decide (x0.top<63)
   let v11:Int:=IntKind.wrap .i64 (x0.top+(1:Int))
   v10=true→0≤v11))))
noncomputable def k6(x0:dA)(ao:Int):dA × Bool:=
 bif(((((tl x0) != 0)||(decide (ao<0)))||(decide (ao>1099511627776)))||(decide (ao≤(IntKind.wrap .i64 (x0.top-(64:Int))))))then
  (x0,false)
 else
  bif(decide (ao>x0.top))then
   let aL:Int→dA × Bool:=fun v12=>
    (⟨ao,(bu .or .u64 v12 (1:Int))⟩,true)
   bif(decide ((IntKind.wrap .i64 (ao-x0.top))<64))then
    aL (bu .shl .u64 x0.bits (IntKind.wrap .i64 (ao-x0.top)))
   else
    aL (0:Int)
  else
   let b4:Int:=bu .shl .u64 (1:Int) (IntKind.wrap .i64 (x0.top-ao))
   bif((bu .and .u64 x0.bits b4) != 0)then
    (x0,false)
   else
    (⟨x0.top,(bu .or .u64 x0.bits b4)⟩,true)
def FK(x0:dA)(ao:Int):Prop:=
 (FJ x0)∧
 ((((((tl x0) != 0)||(decide (ao<0)))||(decide (ao>1099511627776)))||(decide (ao≤(IntKind.wrap .i64 (x0.top-(64:Int))))))=false→(
  ((decide (ao>x0.top))=true→(
   ((decide ((IntKind.wrap .i64 (ao-x0.top))<64))=true→(
    let cU:Int:=IntKind.wrap .i64 (ao-x0.top)
    0≤cU))))∧((decide (ao>x0.top))=false→(
   let v12:Int:=IntKind.wrap .i64 (x0.top-ao)
   let _:Int:=bu .shl .u64 (1:Int) v12
   0≤v12))))
noncomputable def fj(x0:Config)(ao:List cg)(bV:List bA)(cd:List Int)(c2:fx)(B1:Int)(B2:Int):ByteArray × (List bA) × Int:=
 let bD:=eI x0.key c2.token B1 cd
 let bN:Int→ByteArray × (List bA) × Int:=fun v10=>
  bif(v10 != 0)then
   (⟨#[]⟩,bV,v10)
  else
   let b4:=hq bV bD.1.cr
   let de:=Gk
   let aL:Int→Int→ByteArray × (List bA) × Int:=fun dG dw=>
    let cF:=k6 ⟨dG,dw⟩ c2.request.dS
    let aL:(List bA)→ByteArray × (List bA) × Int:=fun v24=>
     (bD.1.cr,v24,0)
    bif !cF.2 then
     (⟨#[]⟩,bV,18)
    else
     bif b4.2 then
      aL (List.set bV (Int.toNat b4.1) ⟨(List.getD bV (Int.toNat b4.1) (aE .bA)).cr,⟨cF.1.top,cF.1.bits⟩⟩)
     else
      aL (List.append (List.append (iy bV none (some b4.1)) ([⟨bD.1.cr,⟨cF.1.top,cF.1.bits⟩⟩]:List bA)) (iy bV (some b4.1) none))
   bif b4.2 then
    let dG:bA:=List.getD bV (Int.toNat b4.1) (aE .bA)
    aL dG.hN.top dG.hN.bits
   else
    aL de.top de.bits
 bif(bD.2==0)then
  let aL:Int→ByteArray × (List bA) × Int:=fun v11=>
   bN v11
  let v11:=pd ⟨x0.home.bH,x0.home.bw⟩ ⟨c2.request.kind,c2.request.dS,⟨c2.request.key.dev,c2.request.key.dc,c2.request.key.attr⟩,c2.request.name,⟨c2.request.value.kind,c2.request.value.n,c2.request.value.s⟩,c2.request.text⟩
  bif(v11 != 0)then
   aL v11
  else
   let b4:=pe ⟨x0.home.bH,x0.home.bw⟩ ao bD.1.cr B2 ⟨c2.request.kind,c2.request.dS,⟨c2.request.key.dev,c2.request.key.dc,c2.request.key.attr⟩,c2.request.name,⟨c2.request.value.kind,c2.request.value.n,c2.request.value.s⟩,c2.request.text⟩
   bif(b4 != 0)then
    aL b4
   else
    aL (0:Int)
 else
  bN bD.2
def pD(x0:Config)(ao:List cg)(bV:List bA)(cd:List Int)(c2:fx)(B1:Int)(B2:Int):Prop:=
 (List.length ([]:List bA)+List.length bV≤maxLen∧(List.length ([]:List bA)+List.length bV)*32≤140737488355328)∧
 let bD:=eI x0.key c2.token B1 cd
 (Fz x0.key c2.token B1 cd)∧
 let bN:Int→Prop:=fun v10=>
  ((v10 != 0)=false→(
   let b4:=hq bV bD.1.cr
   let de:=Gk
   let aL:Int→Int→Prop:=fun dG dw=>
    let cF:=k6 ⟨dG,dw⟩ c2.request.dS
    (FK ⟨dG,dw⟩ c2.request.dS)∧
    ((!cF.2)=false→(
     (b4.2=true→(
      (0≤b4.1∧b4.1<(List.length bV:Int))∧
      0≤b4.1∧b4.1<(List.length bV:Int)))∧(b4.2=false→(
      let v23:List bA:=([⟨bD.1.cr,⟨cF.1.top,cF.1.bits⟩⟩]:List bA)
      (ju (List.length bV) none (some b4.1))∧
      (0≤(0:Int)∧(0:Int)<(List.length v23:Int))∧
      List.length bV+List.length v23≤maxLen∧(List.length bV+List.length v23)*32≤140737488355328))))
   (b4.2=true→(
    (0≤b4.1∧b4.1<(List.length bV:Int))∧
    let dG:bA:=List.getD bV (Int.toNat b4.1) (aE .bA)
    (0≤b4.1∧b4.1<(List.length bV:Int))∧
    aL dG.hN.top dG.hN.bits))∧(b4.2=false→(
    aL de.top de.bits))))
 ((bD.2==0)=true→(
  let aL:Int→Prop:=fun v11=>
   bN v11
  let v11:=pd ⟨x0.home.bH,x0.home.bw⟩ ⟨c2.request.kind,c2.request.dS,⟨c2.request.key.dev,c2.request.key.dc,c2.request.key.attr⟩,c2.request.name,⟨c2.request.value.kind,c2.request.value.n,c2.request.value.s⟩,c2.request.text⟩
  (Ft ⟨x0.home.bH,x0.home.bw⟩ ⟨c2.request.kind,c2.request.dS,⟨c2.request.key.dev,c2.request.key.dc,c2.request.key.attr⟩,c2.request.name,⟨c2.request.value.kind,c2.request.value.n,c2.request.value.s⟩,c2.request.text⟩)∧
  ((v11 != 0)=true→(
   aL v11))∧((v11 != 0)=false→(
   let b4:=pe ⟨x0.home.bH,x0.home.bw⟩ ao bD.1.cr B2 ⟨c2.request.kind,c2.request.dS,⟨c2.request.key.dev,c2.request.key.dc,c2.request.key.attr⟩,c2.request.name,⟨c2.request.value.kind,c2.request.value.n,c2.request.value.s⟩,c2.request.text⟩
   (FG ⟨x0.home.bH,x0.home.bw⟩ ao bD.1.cr B2 ⟨c2.request.kind,c2.request.dS,⟨c2.request.key.dev,c2.request.key.dc,c2.request.key.attr⟩,c2.request.name,⟨c2.request.value.kind,c2.request.value.n,c2.request.value.s⟩,c2.request.text⟩)∧
   ((b4 != 0)=true→(
    aL b4))∧((b4 != 0)=false→(
    aL (0:Int)))))))∧((bD.2==0)=false→(
  bN bD.2))
def Ph:List aN:=[⟨⟨#[111,110,111,102,102]⟩,[⟨⟨#[111,110]⟩,1,0,0,[],true,false⟩],[⟨⟨#[111,110]⟩,⟨⟨#[]⟩,0,0,0,[],false,false⟩,[⟨1,⟨#[111,110]⟩,1⟩]⟩,⟨⟨#[111,102,102]⟩,⟨⟨#[]⟩,0,0,0,[],false,false⟩,[⟨1,⟨#[111,110]⟩,0⟩]⟩,⟨⟨#[116,111,103,103,108,101]⟩,⟨⟨#[]⟩,0,0,0,[],false,false⟩,[⟨4,⟨#[111,110]⟩,0⟩]⟩],[]⟩,
 ⟨⟨#[108,101,118,101,108]⟩,[⟨⟨#[108,101,118,101,108]⟩,2,0,100,[],true,false⟩],[⟨⟨#[109,111,118,101]⟩,⟨⟨#[116,111]⟩,2,0,100,[],false,false⟩,[⟨2,⟨#[108,101,118,101,108]⟩,0⟩]⟩,⟨⟨#[115,116,101,112]⟩,⟨⟨#[]⟩,0,0,0,[],false,false⟩,[⟨3,⟨#[108,101,118,101,108]⟩,10⟩]⟩],[]⟩,
 ⟨⟨#[108,111,99,107]⟩,[⟨⟨#[108,111,99,107,101,100]⟩,1,0,0,[],true,true⟩],[⟨⟨#[108,111,99,107]⟩,⟨⟨#[]⟩,0,0,0,[],false,false⟩,[⟨1,⟨#[108,111,99,107,101,100]⟩,1⟩]⟩,⟨⟨#[117,110,108,111,99,107]⟩,⟨⟨#[]⟩,0,0,0,[],false,false⟩,[⟨1,⟨#[108,111,99,107,101,100]⟩,0⟩]⟩],[⟨#[106,97,109]⟩]⟩,
 ⟨⟨#[116,104,101,114,109,111,115,116,97,116]⟩,[⟨⟨#[116,97,114,103,101,116]⟩,2,50,300,[],true,false⟩,⟨⟨#[116,101,109,112]⟩,2,(-500),1000,[],false,false⟩],[],[]⟩,
 ⟨⟨#[115,109,111,107,101]⟩,[⟨⟨#[97,108,97,114,109]⟩,1,0,0,[],false,true⟩],[],[⟨#[116,101,115,116]⟩]⟩,
 ⟨⟨#[108,101,97,107]⟩,[⟨⟨#[119,101,116]⟩,1,0,0,[],false,true⟩],[],[]⟩,
 ⟨⟨#[118,97,108,118,101]⟩,[⟨⟨#[111,112,101,110]⟩,1,0,0,[],true,true⟩],[⟨⟨#[111,112,101,110]⟩,⟨⟨#[]⟩,0,0,0,[],false,false⟩,[⟨1,⟨#[111,112,101,110]⟩,1⟩]⟩,⟨⟨#[99,108,111,115,101]⟩,⟨⟨#[]⟩,0,0,0,[],false,false⟩,[⟨1,⟨#[111,112,101,110]⟩,0⟩]⟩],[]⟩,
 ⟨⟨#[109,101,116,101,114]⟩,[⟨⟨#[112,111,119,101,114]⟩,2,0,100000,[],false,false⟩],[],[]⟩]
def Pj:Prop:=True
noncomputable def Bv:Config × (List cg):=
 (⟨⟨(Ph),([⟨1,0,0,false,0,⟨#[104,97,108,108]⟩,([⟨#[111,110,111,102,102]⟩]:List ByteArray)⟩]:List bR)⟩,[],[],⟨0,[]⟩,7⟩,([⟨⟨#[97,110,110]⟩,4,[],[],false⟩]:List cg))
def Pk:Prop:=
 Pj
noncomputable def Gl(x0:eK):Int:=
 bif(!(jO x0.cr))then
  10
 else
  bif(((((decide (x0.id<1))||(decide (x0.id>1099511627776)))||(decide (x0.od<0)))||(decide (x0.od>x0.oe)))||(decide (x0.oe>1099511627776)))then
   2
  else
   bif(decide ((IntKind.wrap .i64 (x0.oe-x0.od))>43200))then
    3
   else
    0
def Pl(x0:eK):Prop:=
 pr x0.cr
noncomputable def ye(x0:Int):ByteArray:=
 (bytesOf ([(IntKind.wrap .u8 (bu .shr .i64 x0 (24:Int))),(IntKind.wrap .u8 (bu .shr .i64 x0 (16:Int))),(IntKind.wrap .u8 (bu .shr .i64 x0 (8:Int))),(IntKind.wrap .u8 x0)]:List Int))
noncomputable def Pm(x0:ByteArray):Int:=
 let v1:Int:=(ByteArray.size x0:Int)
 Sum.elim (fun r=>r) (fun bP=>
  bP)
 (bo (fun(i3:Nat) (aW:Int)=>
  show Step (Int) (Int)from
  .bq (IntKind.wrap .u64 ((bu .xor .u64 aW (IntKind.wrap .u64 (ew x0 (i3:Int))))*(1099511628211:Int)))) 0 (Int.toNat v1) 14695981039346656037:Int⊕(Int))
def Pn(x0:ByteArray):Prop:=
 let v1:Int:=(ByteArray.size x0:Int)
 0≤v1∧v1<(9223372036854775808:Int)
noncomputable def vw(x0:Int):ByteArray:=
 Sum.elim (fun r=>r) (fun bP=>
  bP.1)
 (c5 (fun(aW:ByteArray × Int)=>
  show Step (ByteArray) (ByteArray × Int)from
  bif(decide (aW.2≥0))then
   .bq ((ByteArray.append aW.1 (bytesOf ([(IntKind.wrap .u8 (bu .shr .u64 x0 (IntKind.wrap .u64 ((8:Int)*(IntKind.wrap .u64 aW.2)))))]:List Int))),(IntKind.wrap .i64 (aW.2-(1:Int))))
  else
   .cK (aW.1,aW.2)) dT (⟨#[]⟩,7):ByteArray⊕(ByteArray × Int))
def Bn(x0:Int):Prop:=
 ∃(bx:(ByteArray × Int)→Prop) (gU:(ByteArray × Int)→Nat),bx (⟨#[]⟩,7)∧gU (⟨#[]⟩,7)<dT∧∀(d0:ByteArray × Int),bx d0→(
  ((decide (d0.2≥0))=true→(
   let v5:Int:=IntKind.wrap .u64 ((8:Int)*(IntKind.wrap .u64 d0.2))
   (0≤v5)∧
   let v9:=bytesOf ([(IntKind.wrap .u8 (bu .shr .u64 x0 v5))]:List Int)
   (ByteArray.size d0.1+ByteArray.size v9≤9223372036854775807)∧
   bx ((ByteArray.append d0.1 v9),(IntKind.wrap .i64 (d0.2-(1:Int))))∧gU ((ByteArray.append d0.1 v9),(IntKind.wrap .i64 (d0.2-(1:Int))))<gU d0)))
noncomputable def Bp(x0:Int)(ao:ByteArray):Int:=
 (IntKind.wrap .i64 (bu .shr .u64 (Pm (ByteArray.append (ByteArray.append (vw x0) ao) (vw x0))) (32:Int)))
def Bo(x0:Int)(ao:ByteArray):Prop:=
 let v2:=vw x0
 (Bn x0)∧
 let v3:=ByteArray.append v2 ao
 (ByteArray.size v2+ByteArray.size ao≤9223372036854775807)∧
 let v4:=vw x0
 (Bn x0)∧
 let v5:=ByteArray.append v3 v4
 (ByteArray.size v3+ByteArray.size v4≤9223372036854775807)∧
 Pn v5
noncomputable def Bt(x0:Int)(ao:ByteArray):ByteArray:=
 (ByteArray.append ao (ye (Bp x0 ao)))
def FB(x0:Int)(ao:ByteArray):Prop:=
 (Bo x0 ao)∧
 let v3:=ye (Bp x0 ao)
 ByteArray.size ao+ByteArray.size v3≤9223372036854775807
noncomputable def yh(x0:eK):ByteArray:=
 (ByteArray.append (ByteArray.append (ByteArray.append (qt x0.cr) (jN x0.id)) (jN x0.od)) (jN x0.oe))
def Bu(x0:eK):Prop:=
 let v1:=qt x0.cr
 (AX x0.cr)∧
 let v2:=jN x0.id
 (pn x0.id)∧
 let v3:=ByteArray.append v1 v2
 (ByteArray.size v1+ByteArray.size v2≤9223372036854775807)∧
 let v4:=jN x0.od
 (pn x0.od)∧
 let v5:=ByteArray.append v3 v4
 (ByteArray.size v3+ByteArray.size v4≤9223372036854775807)∧
 let v6:=jN x0.oe
 (pn x0.oe)∧
 ByteArray.size v5+ByteArray.size v6≤9223372036854775807
noncomputable def yg(x0:Int)(ao:eK):ByteArray × Int:=
 let v2:=Gl ao
 bif(v2 != 0)then
  (⟨#[]⟩,v2)
 else
  ((OP (Bt x0 (yh ao))),0)
def FL(x0:Int)(ao:eK):Prop:=
 let v2:=Gl ao
 (Pl ao)∧
 ((v2 != 0)=false→(
  let v4:=yh ao
  (Bu ao)∧
  let v5:=Bt x0 v4
  (FB x0 v4)∧
  Fv v5))
noncomputable def qC:Bool:=
 let v0:=Bv
 let v3:=yg (7:Int) ⟨⟨#[97,110,110]⟩,1,0,100⟩
 let v6:=fj v0.1 v0.2 ([]:List bA) ([]:List Int) ⟨v3.1,⟨1,5,⟨1,⟨#[111,110,111,102,102]⟩,⟨#[111,110]⟩⟩,⟨#[]⟩,⟨0,0,⟨#[]⟩⟩,⟨#[]⟩⟩⟩ (5:Int) (5:Int)
 let v10:=fj v0.1 v0.2 v6.2.1 ([]:List Int) ⟨v3.1,⟨1,5,⟨1,⟨#[111,110,111,102,102]⟩,⟨#[111,110]⟩⟩,⟨#[]⟩,⟨0,0,⟨#[]⟩⟩,⟨#[]⟩⟩⟩ (5:Int) (5:Int)
 let cU:=fj v0.1 v0.2 v6.2.1 ([]:List Int) ⟨v3.1,⟨1,4,⟨1,⟨#[111,110,111,102,102]⟩,⟨#[111,110]⟩⟩,⟨#[]⟩,⟨0,0,⟨#[]⟩⟩,⟨#[]⟩⟩⟩ (5:Int) (5:Int)
 let cF:=tA (qx ⟨1,4,⟨1,⟨#[111,110,111,102,102]⟩,⟨#[111,110]⟩⟩,⟨#[]⟩,⟨0,0,⟨#[]⟩⟩,⟨#[]⟩⟩)
 let yo:Bool:=(((((v3.2==0)&&(cC .eql v6.1 (⟨#[97,110,110]⟩:ByteArray)))&&(v6.2.2==0))&&((List.length v6.2.1:Int)==1))&&(((List.getD v6.2.1 (Int.toNat (0:Int)) (aE .bA)).hN.top)==5))&&(v10.2.2==18)
 let v37:=bif cF.1.kind==1 then bif cF.1.dS==4 then bif cF.1.key.dev==1 then bif dI cF.1.key.dc (⟨#[111,110,111,102,102]⟩:ByteArray)then bif dI cF.1.key.attr (⟨#[111,110]⟩:ByteArray)then bif dI cF.1.name (⟨#[]⟩:ByteArray)then bif cF.1.value.kind==0 then bif cF.1.value.n==0 then bif dI cF.1.value.s (⟨#[]⟩:ByteArray)then dI cF.1.text (⟨#[]⟩:ByteArray)else false else false else false else false else false else false else false else false else false
 (((yo&&(cU.2.2==0))&&v37)&&(cF.2==0))
def pE:Prop:=
 let v0:=Bv
 (Pk)∧
 let v3:=yg (7:Int) ⟨⟨#[97,110,110]⟩,1,0,100⟩
 (FL (7:Int) ⟨⟨#[97,110,110]⟩,1,0,100⟩)∧
 let v6:=fj v0.1 v0.2 ([]:List bA) ([]:List Int) ⟨v3.1,⟨1,5,⟨1,⟨#[111,110,111,102,102]⟩,⟨#[111,110]⟩⟩,⟨#[]⟩,⟨0,0,⟨#[]⟩⟩,⟨#[]⟩⟩⟩ (5:Int) (5:Int)
 (pD v0.1 v0.2 ([]:List bA) ([]:List Int) ⟨v3.1,⟨1,5,⟨1,⟨#[111,110,111,102,102]⟩,⟨#[111,110]⟩⟩,⟨#[]⟩,⟨0,0,⟨#[]⟩⟩,⟨#[]⟩⟩⟩ (5:Int) (5:Int))∧
 let _:=fj v0.1 v0.2 v6.2.1 ([]:List Int) ⟨v3.1,⟨1,5,⟨1,⟨#[111,110,111,102,102]⟩,⟨#[111,110]⟩⟩,⟨#[]⟩,⟨0,0,⟨#[]⟩⟩,⟨#[]⟩⟩⟩ (5:Int) (5:Int)
 (pD v0.1 v0.2 v6.2.1 ([]:List Int) ⟨v3.1,⟨1,5,⟨1,⟨#[111,110,111,102,102]⟩,⟨#[111,110]⟩⟩,⟨#[]⟩,⟨0,0,⟨#[]⟩⟩,⟨#[]⟩⟩⟩ (5:Int) (5:Int))∧
 let _:=fj v0.1 v0.2 v6.2.1 ([]:List Int) ⟨v3.1,⟨1,4,⟨1,⟨#[111,110,111,102,102]⟩,⟨#[111,110]⟩⟩,⟨#[]⟩,⟨0,0,⟨#[]⟩⟩,⟨#[]⟩⟩⟩ (5:Int) (5:Int)
 (pD v0.1 v0.2 v6.2.1 ([]:List Int) ⟨v3.1,⟨1,4,⟨1,⟨#[111,110,111,102,102]⟩,⟨#[111,110]⟩⟩,⟨#[]⟩,⟨0,0,⟨#[]⟩⟩,⟨#[]⟩⟩⟩ (5:Int) (5:Int))∧
 let dw:=qx ⟨1,4,⟨1,⟨#[111,110,111,102,102]⟩,⟨#[111,110]⟩⟩,⟨#[]⟩,⟨0,0,⟨#[]⟩⟩,⟨#[]⟩⟩
 (xX ⟨1,4,⟨1,⟨#[111,110,111,102,102]⟩,⟨#[111,110]⟩⟩,⟨#[]⟩,⟨0,0,⟨#[]⟩⟩,⟨#[]⟩⟩)∧
 let _:=tA dw
 (vg dw)∧
 let iz:Bool:=(((v3.2==0)&&(cC .eql v6.1 (⟨#[97,110,110]⟩:ByteArray)))&&(v6.2.2==0))&&((List.length v6.2.1:Int)==1)
 iz=true→0≤(0:Int)∧(0:Int)<(List.length v6.2.1:Int)
noncomputable def nV(x0:Case):Bool:=
 let v6:Int:=(List.length x0.members:Int)
 let cU:Bool:=((((decide ((List.length x0.c.home.bH:Int)>100))||(decide ((List.length x0.c.home.bw:Int)>30)))||(decide (v6>30)))||(decide ((List.length x0.gk:Int)>60)))||(decide ((List.length x0.gS:Int)>100))
 bif((cU||(decide ((ByteArray.size x0.a.token:Int)>1000)))||(decide ((ByteArray.size x0.a.request.text:Int)>25000)))then
  true
 else
  Sum.elim (fun r=>r) (fun _=>
   false)
  (bo (fun(i21:Nat) (_:Unit)=>
   show Step (Bool) (Unit)from
   let iz:Bool:=(decide ((List.length ((List.getD x0.members (Int.toNat (i21:Int)) (aE .cg)).k9):Int)>300))||(decide ((List.length ((List.getD x0.members (Int.toNat (i21:Int)) (aE .cg)).fN):Int)>300))
   bif iz then
    .ret true
   else
    .bq ()) 0 (Int.toNat v6) ():Bool⊕(Unit))
def Bw(x0:Case):Prop:=
 let v6:Int:=(List.length x0.members:Int)
 let cU:Bool:=((((decide ((List.length x0.c.home.bH:Int)>100))||(decide ((List.length x0.c.home.bw:Int)>30)))||(decide (v6>30)))||(decide ((List.length x0.gk:Int)>60)))||(decide ((List.length x0.gS:Int)>100))
 (((cU||(decide ((ByteArray.size x0.a.token:Int)>1000)))||(decide ((ByteArray.size x0.a.request.text:Int)>25000)))=false→(
  0≤v6∧v6<(9223372036854775808:Int)))
noncomputable def Po:dA:=
 ⟨(-1),0⟩
noncomputable def tm(x0:List bA)(ao:ByteArray):dA:=
 let v2:Int:=(List.length x0:Int)
 Sum.elim (fun r=>r) (fun _=>
  let v3:=Po
  v3)
 (bo (fun(i3:Nat) (_:Unit)=>
  show Step (dA) (Unit)from
  bif(cC .eql ((List.getD x0 (Int.toNat (i3:Int)) (aE .bA)).cr) ao)then
   let bD:bA:=List.getD x0 (Int.toNat (i3:Int)) (aE .bA)
   .ret ⟨bD.hN.top,bD.hN.bits⟩
  else
   .bq ()) 0 (Int.toNat v2) ():dA⊕(Unit))
noncomputable def s0(x0:List bA)(ao:List bA):Bool:=
 let v2:Int:=(List.length x0:Int)
 bif(v2 != (List.length ao:Int))then
  false
 else
  Sum.elim (fun r=>r) (fun _=>
   true)
  (bo (fun(i5:Nat) (_:Unit)=>
   show Step (Bool) (Unit)from
   let bD:bA:=List.getD x0 (Int.toNat (i5:Int)) (aE .bA)
   let bs:bA:=List.getD ao (Int.toNat (i5:Int)) (aE .bA)
   bif(!(bif dI bD.cr bs.cr then bif bD.hN.top==bs.hN.top then bD.hN.bits==bs.hN.bits else false else false))then
    .ret false
   else
    .bq ()) 0 (Int.toNat v2) ():Bool⊕(Unit))
def AK(x0:List bA)(ao:List bA):Prop:=
 let v2:Int:=(List.length x0:Int)
 ((v2 != (List.length ao:Int))=false→(
  ∃bx:Nat→(Unit)→Prop,bx 0 ()∧∀(i5:Nat) (d0:Unit),i5<Int.toNat v2→bx i5 d0→(
   let bD:bA:=List.getD x0 (Int.toNat (i5:Int)) (aE .bA)
   let bs:bA:=List.getD ao (Int.toNat (i5:Int)) (aE .bA)
   (0≤(i5:Int)∧(i5:Int)<(List.length ao:Int))∧
   ((!(bif dI bD.cr bs.cr then bif bD.hN.top==bs.hN.top then bD.hN.bits==bs.hN.bits else false else false))=false→(
    bx (i5+1) ())))))
noncomputable def Zu(x0:Home)(ao:b3)(bV:ByteArray):Bool:=
 bif(((decide ((List.length x0.bH:Int)>300))||(decide ((List.length x0.bw:Int)>60)))||(decide ((ByteArray.size bV:Int)>25000)))then
  (qC)
 else
  let aL:Bool:=
   let b4:=tA bV
   let de:=b4.2 != 0
   let aL:ByteArray→Bool:=fun dG=>
    let cF:Bool:=de||(cC .eql dG bV)
    let aL:Bool→Bool:=fun v20=>
     (cF&&v20)
    bif cF then
     aL (qC)
    else
     aL false
   bif de then
    aL (⟨#[]⟩:ByteArray)
   else
    aL (qx b4.1)
  bif((BS x0 ao)==0)then
   let cU:=tA (qx ao)
   let dw:=!(bif cU.1.kind==ao.kind then bif cU.1.dS==ao.dS then bif cU.1.key.dev==ao.key.dev then bif dI cU.1.key.dc ao.key.dc then bif dI cU.1.key.attr ao.key.attr then bif dI cU.1.name ao.name then bif cU.1.value.kind==ao.value.kind then bif cU.1.value.n==ao.value.n then bif dI cU.1.value.s ao.value.s then dI cU.1.text ao.text else false else false else false else false else false else false else false else false else false)
   bif((cU.2 != 0)||dw)then
    false
   else
    aL
  else
   aL
def Zv(x0:Home)(ao:b3)(bV:ByteArray):Prop:=
 ((((decide ((List.length x0.bH:Int)>300))||(decide ((List.length x0.bw:Int)>60)))||(decide ((ByteArray.size bV:Int)>25000)))=true→(
  pE))∧((((decide ((List.length x0.bH:Int)>300))||(decide ((List.length x0.bw:Int)>60)))||(decide ((ByteArray.size bV:Int)>25000)))=false→(
  let aL:Prop:=
   let b4:=tA bV
   (vg bV)∧
   let de:=b4.2 != 0
   let aL:ByteArray→Prop:=fun dG=>
    let cF:Bool:=de||(cC .eql dG bV)
    (cF=true→(
     pE))
   (de=true→(
    aL (⟨#[]⟩:ByteArray)))∧(de=false→(
    (xX b4.1)∧
    aL (qx b4.1)))
  (O7 x0 ao)∧
  (((BS x0 ao)==0)=true→(
   let b4:=qx ao
   (xX ao)∧
   let cU:=tA b4
   (vg b4)∧
   let dw:=!(bif cU.1.kind==ao.kind then bif cU.1.dS==ao.dS then bif cU.1.key.dev==ao.key.dev then bif dI cU.1.key.dc ao.key.dc then bif dI cU.1.key.attr ao.key.attr then bif dI cU.1.name ao.name then bif cU.1.value.kind==ao.value.kind then bif cU.1.value.n==ao.value.n then bif dI cU.1.value.s ao.value.s then dI cU.1.text ao.text else false else false else false else false else false else false else false else false else false)
   (((cU.2 != 0)||dw)=false→(
    aL))))∧(((BS x0 ao)==0)=false→(
   aL))))
noncomputable def AQ(x0:Case)(ao:fx):Bool:=
 bif(((nV x0)||(decide ((ByteArray.size ao.token:Int)>1000)))||(decide ((ByteArray.size ao.request.text:Int)>25000)))then
  (qC)
 else
  let v9:=fj ⟨⟨x0.c.home.bH,x0.c.home.bw⟩,x0.c.kv,x0.c.ky,⟨x0.c.gj.offset,x0.c.gj.changes⟩,x0.c.key⟩ x0.members x0.gk x0.gS ⟨x0.a.token,⟨x0.a.request.kind,x0.a.request.dS,⟨x0.a.request.key.dev,x0.a.request.key.dc,x0.a.request.key.attr⟩,x0.a.request.name,⟨x0.a.request.value.kind,x0.a.request.value.n,x0.a.request.value.s⟩,x0.a.request.text⟩⟩ x0.now x0.dD
  bif(v9.2.2 != 0)then
   let cU:=s0 v9.2.1 x0.gk
   let aL:Bool→Bool:=fun eS=>
    (cU&&eS)
   bif cU then
    aL (qC)
   else
    aL false
  else
   let cU:=fj ⟨⟨x0.c.home.bH,x0.c.home.bw⟩,x0.c.kv,x0.c.ky,⟨x0.c.gj.offset,x0.c.gj.changes⟩,x0.c.key⟩ x0.members v9.2.1 x0.gS ao x0.now x0.dD
   let dw:=fj ⟨⟨x0.c.home.bH,x0.c.home.bw⟩,x0.c.kv,x0.c.ky,⟨x0.c.gj.offset,x0.c.gj.changes⟩,x0.c.key⟩ x0.members cU.2.1 x0.gS ⟨x0.a.token,⟨x0.a.request.kind,x0.a.request.dS,⟨x0.a.request.key.dev,x0.a.request.key.dc,x0.a.request.key.attr⟩,x0.a.request.name,⟨x0.a.request.value.kind,x0.a.request.value.n,x0.a.request.value.s⟩,x0.a.request.text⟩⟩ x0.now x0.dD
   let v22:=dw.2.2==18
   let aL:Bool→Bool:=fun v23=>
    let v24:Bool:=v22&&v23
    let aL:Bool→Bool:=fun v25=>
     (v24&&v25)
    bif v24 then
     aL (qC)
    else
     aL false
   bif v22 then
    aL (s0 dw.2.1 cU.2.1)
   else
    aL false
def Nx(x0:Case)(ao:fx):Prop:=
 (Bw x0)∧
 ((((nV x0)||(decide ((ByteArray.size ao.token:Int)>1000)))||(decide ((ByteArray.size ao.request.text:Int)>25000)))=true→(
  pE))∧((((nV x0)||(decide ((ByteArray.size ao.token:Int)>1000)))||(decide ((ByteArray.size ao.request.text:Int)>25000)))=false→(
  let v9:=fj ⟨⟨x0.c.home.bH,x0.c.home.bw⟩,x0.c.kv,x0.c.ky,⟨x0.c.gj.offset,x0.c.gj.changes⟩,x0.c.key⟩ x0.members x0.gk x0.gS ⟨x0.a.token,⟨x0.a.request.kind,x0.a.request.dS,⟨x0.a.request.key.dev,x0.a.request.key.dc,x0.a.request.key.attr⟩,x0.a.request.name,⟨x0.a.request.value.kind,x0.a.request.value.n,x0.a.request.value.s⟩,x0.a.request.text⟩⟩ x0.now x0.dD
  (pD ⟨⟨x0.c.home.bH,x0.c.home.bw⟩,x0.c.kv,x0.c.ky,⟨x0.c.gj.offset,x0.c.gj.changes⟩,x0.c.key⟩ x0.members x0.gk x0.gS ⟨x0.a.token,⟨x0.a.request.kind,x0.a.request.dS,⟨x0.a.request.key.dev,x0.a.request.key.dc,x0.a.request.key.attr⟩,x0.a.request.name,⟨x0.a.request.value.kind,x0.a.request.value.n,x0.a.request.value.s⟩,x0.a.request.text⟩⟩ x0.now x0.dD)∧
  ((v9.2.2 != 0)=true→(
   let cU:=s0 v9.2.1 x0.gk
   (AK v9.2.1 x0.gk)∧
   (cU=true→(
    pE))))∧((v9.2.2 != 0)=false→(
   let cU:=fj ⟨⟨x0.c.home.bH,x0.c.home.bw⟩,x0.c.kv,x0.c.ky,⟨x0.c.gj.offset,x0.c.gj.changes⟩,x0.c.key⟩ x0.members v9.2.1 x0.gS ao x0.now x0.dD
   (pD ⟨⟨x0.c.home.bH,x0.c.home.bw⟩,x0.c.kv,x0.c.ky,⟨x0.c.gj.offset,x0.c.gj.changes⟩,x0.c.key⟩ x0.members v9.2.1 x0.gS ao x0.now x0.dD)∧
   let dw:=fj ⟨⟨x0.c.home.bH,x0.c.home.bw⟩,x0.c.kv,x0.c.ky,⟨x0.c.gj.offset,x0.c.gj.changes⟩,x0.c.key⟩ x0.members cU.2.1 x0.gS ⟨x0.a.token,⟨x0.a.request.kind,x0.a.request.dS,⟨x0.a.request.key.dev,x0.a.request.key.dc,x0.a.request.key.attr⟩,x0.a.request.name,⟨x0.a.request.value.kind,x0.a.request.value.n,x0.a.request.value.s⟩,x0.a.request.text⟩⟩ x0.now x0.dD
   (pD ⟨⟨x0.c.home.bH,x0.c.home.bw⟩,x0.c.kv,x0.c.ky,⟨x0.c.gj.offset,x0.c.gj.changes⟩,x0.c.key⟩ x0.members cU.2.1 x0.gS ⟨x0.a.token,⟨x0.a.request.kind,x0.a.request.dS,⟨x0.a.request.key.dev,x0.a.request.key.dc,x0.a.request.key.attr⟩,x0.a.request.name,⟨x0.a.request.value.kind,x0.a.request.value.n,x0.a.request.value.s⟩,x0.a.request.text⟩⟩ x0.now x0.dD)∧
   let v22:=dw.2.2==18
   let aL:Bool→Prop:=fun v23=>
    let v24:Bool:=v22&&v23
    (v24=true→(
     pE))
   (v22=true→(
    (AK dw.2.1 cU.2.1)∧
    aL (s0 dw.2.1 cU.2.1)))∧(v22=false→(
    aL false))))))
noncomputable def AR(x0:Case)(ao:ByteArray):Bool:=
 bif(nV x0)then
  (qC)
 else
  let v3:=fj ⟨⟨x0.c.home.bH,x0.c.home.bw⟩,x0.c.kv,x0.c.ky,⟨x0.c.gj.offset,x0.c.gj.changes⟩,x0.c.key⟩ x0.members x0.gk x0.gS ⟨x0.a.token,⟨x0.a.request.kind,x0.a.request.dS,⟨x0.a.request.key.dev,x0.a.request.key.dc,x0.a.request.key.attr⟩,x0.a.request.name,⟨x0.a.request.value.kind,x0.a.request.value.n,x0.a.request.value.s⟩,x0.a.request.text⟩⟩ x0.now x0.dD
  let bD:=cC .eql ao v3.1
  let aL:Int→Int→Bool:=fun bs v9=>
   let aL:Int→Int→Bool:=fun v10 v11=>
    let dw:Bool:=(bD||(bif bs==v10 then v9==v11 else false))&&(decide ((List.length v3.2.1:Int)≤(IntKind.wrap .i64 ((List.length x0.gk:Int)+(1:Int)))))
    let aL:Bool→Bool:=fun cF=>
     (dw&&cF)
    bif dw then
     aL (qC)
    else
     aL false
   bif bD then
    aL (0:Int) (0:Int)
   else
    let v10:=tm x0.gk ao
    aL v10.top v10.bits
  bif bD then
   aL (0:Int) (0:Int)
  else
   let bs:=tm v3.2.1 ao
   aL bs.top bs.bits
def NC(x0:Case)(ao:ByteArray):Prop:=
 (Bw x0)∧
 ((nV x0)=true→(
  pE))∧((nV x0)=false→(
  let v3:=fj ⟨⟨x0.c.home.bH,x0.c.home.bw⟩,x0.c.kv,x0.c.ky,⟨x0.c.gj.offset,x0.c.gj.changes⟩,x0.c.key⟩ x0.members x0.gk x0.gS ⟨x0.a.token,⟨x0.a.request.kind,x0.a.request.dS,⟨x0.a.request.key.dev,x0.a.request.key.dc,x0.a.request.key.attr⟩,x0.a.request.name,⟨x0.a.request.value.kind,x0.a.request.value.n,x0.a.request.value.s⟩,x0.a.request.text⟩⟩ x0.now x0.dD
  (pD ⟨⟨x0.c.home.bH,x0.c.home.bw⟩,x0.c.kv,x0.c.ky,⟨x0.c.gj.offset,x0.c.gj.changes⟩,x0.c.key⟩ x0.members x0.gk x0.gS ⟨x0.a.token,⟨x0.a.request.kind,x0.a.request.dS,⟨x0.a.request.key.dev,x0.a.request.key.dc,x0.a.request.key.attr⟩,x0.a.request.name,⟨x0.a.request.value.kind,x0.a.request.value.n,x0.a.request.value.s⟩,x0.a.request.text⟩⟩ x0.now x0.dD)∧
  let bD:=cC .eql ao v3.1
  let aL:Int→Int→Prop:=fun bs v9=>
   let aL:Int→Int→Prop:=fun v10 v11=>
    let dw:Bool:=(bD||(bif bs==v10 then v9==v11 else false))&&(decide ((List.length v3.2.1:Int)≤(IntKind.wrap .i64 ((List.length x0.gk:Int)+(1:Int)))))
    (dw=true→(
     pE))
   (bD=true→(
    aL (0:Int) (0:Int)))∧(bD=false→(
    let v10:=tm x0.gk ao
    aL v10.top v10.bits))
  (bD=true→(
   aL (0:Int) (0:Int)))∧(bD=false→(
   let bs:=tm v3.2.1 ao
   aL bs.top bs.bits))))
end Go.aK
