/- Models, printed. Conditions: none. -/
import Derived.Test.YtmkpmgfieagphaaGreatDoorKTEk
open Go Go.aL Go.eL
namespace Go.aL
def HB{α:Type}[Inhabited α]:List α→Nat→α
 |[],_=>default
 |[x],_=>x
 |x::l,n=>bif Nat.beq n 0 then x else HB l (n-1)
noncomputable def fW(x0:Int):ByteArray:=
 Sum.elim (fun r=>r) (fun bS=>
  (bytesOf (List.append bS.2 ([(IntKind.wrap .u8 bS.1)]:List Int))))
 (c5 (fun(aW:Int × (List Int))=>
  show Step (ByteArray) (Int × (List Int))from
  bif(decide (aW.1≥128))then
   .br ((bA .shr .u64 aW.1 (7:Int)),(List.append aW.2 ([(bA .or .u8 (IntKind.wrap .u8 aW.1) (128:Int))]:List Int)))
  else
   .cO (aW.1,aW.2)) dV ((bA .xor .u64 (bA .shl .u64 (IntKind.wrap .u64 x0) (1:Int)) (IntKind.wrap .u64 (bA .shr .i64 x0 (63:Int)))),[]):ByteArray⊕(Int × (List Int)))
def oz(x0:Int):Prop:=
 let aX:(Int × (List Int))→Prop:=fun bS=>
  let v9:List Int:=([(IntKind.wrap .u8 bS.1)]:List Int)
  List.length bS.2+List.length v9≤maxLen∧(List.length bS.2+List.length v9)*1≤140737488355328
 ∃(bC:(Int × (List Int))→Prop) (hg:(Int × (List Int))→Nat),bC ((bA .xor .u64 (bA .shl .u64 (IntKind.wrap .u64 x0) (1:Int)) (IntKind.wrap .u64 (bA .shr .i64 x0 (63:Int)))),[])∧hg ((bA .xor .u64 (bA .shl .u64 (IntKind.wrap .u64 x0) (1:Int)) (IntKind.wrap .u64 (bA .shr .i64 x0 (63:Int)))),[])<dV∧∀(d0:Int × (List Int)),bC d0→(
  ((decide (d0.1≥128))=true→(
   let v11:List Int:=([(bA .or .u8 (IntKind.wrap .u8 d0.1) (128:Int))]:List Int)
   (List.length d0.2+List.length v11≤maxLen∧(List.length d0.2+List.length v11)*1≤140737488355328)∧
   bC ((bA .shr .u64 d0.1 (7:Int)),(List.append d0.2 v11))∧hg ((bA .shr .u64 d0.1 (7:Int)),(List.append d0.2 v11))<hg d0))∧((decide (d0.1≥128))=false→(
   aX (d0.1,d0.2))))
noncomputable def h8(x0:ByteArray):ByteArray:=
 (ByteArray.append (fW (ByteArray.size x0:Int)) x0)
def sz(x0:ByteArray):Prop:=
 let v1:Int:=(ByteArray.size x0:Int)
 let v2:=fW v1
 (oz v1)∧
 ByteArray.size v2+ByteArray.size x0≤9223372036854775807
noncomputable def sA(x0:Int):Bool:=
 ((decide (x0≥(-1099511627776)))&&(decide (x0≤1099511627776)))
noncomputable def kv(x0:cf):Int:=
 let bO:Bool→Int:=fun v1=>
  bif !v1 then
   2
  else
   bif(decide ((ByteArray.size x0.s:Int)>60))then
    3
   else
    bif((cN .neq x0.s (⟨#[]⟩:ByteArray))&&(x0.kind != 4))then
     4
    else
     0
 let aN:Bool→Int:=fun v1=>
  bif v1 then
   bO (x0.n==0)
  else
   bif(x0.kind==1)then
    bO ((x0.n==0)||(x0.n==1))
   else
    bif(x0.kind==2)then
     bO (sA x0.n)
    else
     bif(x0.kind==3)then
      bO ((decide (x0.n≥0))&&(decide (x0.n≤63)))
     else
      7
 let v1:=x0.kind==0
 bif v1 then
  aN v1
 else
  aN (x0.kind==4)
noncomputable def mS(x0:cf):ByteArray:=
 let aN:Int→Int→ByteArray→ByteArray:=fun v3 v4 v5=>
  let v6:=fW v3
  let bO:ByteArray→ByteArray:=fun bB=>
   bB
  let aN:Bool→ByteArray:=fun bB=>
   bif bB then
    bO (ByteArray.append v6 (fW v4))
   else
    bif(v3==4)then
     bO (ByteArray.append v6 (h8 v5))
    else
     bO v6
  let bB:=v3==1
  bif bB then
   aN bB
  else
   let bz:=v3==2
   bif bz then
    aN bz
   else
    aN (v3==3)
 bif((kv x0) != 0)then
  aN (0:Int) (0:Int) (⟨#[]⟩:ByteArray)
 else
  aN x0.kind x0.n x0.s
def Gr(x0:cf):Prop:=
 let aN:Int→Int→ByteArray→Prop:=fun v3 v4 v5=>
  let v6:=fW v3
  (oz v3)∧
  let aN:Bool→Prop:=fun bB=>
   (bB=true→(
    let v9:=fW v4
    (oz v4)∧
    ByteArray.size v6+ByteArray.size v9≤9223372036854775807))∧(bB=false→(
    ((v3==4)=true→(
     let v10:=h8 v5
     (sz v5)∧
     ByteArray.size v6+ByteArray.size v10≤9223372036854775807))))
  let bB:=v3==1
  (bB=true→(
   aN bB))∧(bB=false→(
   let bz:=v3==2
   (bz=true→(
    aN bz))∧(bz=false→(
    aN (v3==3)))))
 (((kv x0) != 0)=true→(
  aN (0:Int) (0:Int) (⟨#[]⟩:ByteArray)))∧(((kv x0) != 0)=false→(
  aN x0.kind x0.n x0.s))
noncomputable def oy(x0:bu):ByteArray:=
 let bU:=ByteArray.append (ByteArray.append (ByteArray.append (ByteArray.append (ByteArray.append (ByteArray.append (fW x0.kind) (fW x0.dz)) (fW x0.key.dev)) (h8 x0.key.dm)) (h8 x0.key.attr)) (h8 x0.name)) (mS ⟨x0.value.kind,x0.value.n,x0.value.s⟩)
 (ByteArray.append bU (h8 x0.text))
def B5(x0:bu):Prop:=
 let v1:=fW x0.kind
 (oz x0.kind)∧
 let v2:=fW x0.dz
 (oz x0.dz)∧
 let v3:=ByteArray.append v1 v2
 (ByteArray.size v1+ByteArray.size v2≤9223372036854775807)∧
 let v4:=fW x0.key.dev
 (oz x0.key.dev)∧
 let v5:=ByteArray.append v3 v4
 (ByteArray.size v3+ByteArray.size v4≤9223372036854775807)∧
 let v6:=h8 x0.key.dm
 (sz x0.key.dm)∧
 let bB:=ByteArray.append v5 v6
 (ByteArray.size v5+ByteArray.size v6≤9223372036854775807)∧
 let bz:=h8 x0.key.attr
 (sz x0.key.attr)∧
 let v9:=ByteArray.append bB bz
 (ByteArray.size bB+ByteArray.size bz≤9223372036854775807)∧
 let v10:=h8 x0.name
 (sz x0.name)∧
 let v11:=ByteArray.append v9 v10
 (ByteArray.size v9+ByteArray.size v10≤9223372036854775807)∧
 let v12:=mS ⟨x0.value.kind,x0.value.n,x0.value.s⟩
 (Gr ⟨x0.value.kind,x0.value.n,x0.value.s⟩)∧
 let bU:=ByteArray.append v11 v12
 (ByteArray.size v11+ByteArray.size v12≤9223372036854775807)∧
 let fw:=h8 x0.text
 (sz x0.text)∧
 ByteArray.size bU+ByteArray.size fw≤9223372036854775807
noncomputable def nB(x0:Rd):Rd × Int:=
 bif !x0.made then
  (x0,15)
 else
  (x0,x0.err)
noncomputable def yN(x0:ByteArray):Int × Int × Int:=
 let v1:Int:=(ByteArray.size x0:Int)
 Sum.elim (fun r=>r) (fun _=>
  (0,0,5))
 (bo (fun(i3:Nat) (aW:Int)=>
  show Step (Int × Int × Int) (Int)from
  let v5:Int:=ej x0 (i3:Int)
  bif(((decide ((i3:Int)>0))&&(v5==0))||(((i3:Int)==9)&&(decide (v5>1))))then
   .ret (0,0,4)
  else
   let dN:Int:=bA .or .u64 aW (bA .shl .u64 (IntKind.wrap .u64 (bA .and .u8 v5 (127:Int))) (IntKind.wrap .i64 ((7:Int)*(i3:Int))))
   bif(decide (v5<128))then
    .ret (dN,(IntKind.wrap .i64 ((i3:Int)+(1:Int))),0)
   else
    .br dN) 0 (Int.toNat v1) 0:(Int × Int × Int)⊕(Int))
def Gk(x0:ByteArray):Prop:=
 let v1:Int:=(ByteArray.size x0:Int)
 (0≤v1∧v1<(9223372036854775808:Int))∧
 ∃bC:Nat→(Int)→Prop,bC 0 0∧∀(i3:Nat) (d0:Int),i3<Int.toNat v1→bC i3 d0→(
  let v5:Int:=ej x0 (i3:Int)
  ((((decide ((i3:Int)>0))&&(v5==0))||(((i3:Int)==9)&&(decide (v5>1))))=false→(
   let fw:Int:=IntKind.wrap .u64 (bA .and .u8 v5 (127:Int))
   let eT:Int:=IntKind.wrap .i64 ((7:Int)*(i3:Int))
   (0≤eT)∧
   let dN:Int:=bA .or .u64 d0 (bA .shl .u64 fw eT)
   ((decide (v5<128))=false→(
    bC (i3+1) dN)))))
noncomputable def gr(x0:Rd):Rd × Int:=
 let v1:=nB x0
 bif(v1.2 != 0)then
  (v1.1,0)
 else
  let v5:=yN v1.1.rest
  bif(v5.2.2 != 0)then
   (⟨v1.1.rest,v5.2.2,v1.1.made⟩,0)
  else
   (⟨(mV v1.1.rest (some v5.2.1) none),v1.1.err,v1.1.made⟩,(bA .xor .i64 (IntKind.wrap .i64 (bA .shr .u64 v5.1 (1:Int))) (IntKind.wrap .i64 (0-(IntKind.wrap .i64 (bA .and .u64 v5.1 (1:Int)))))))
def nD(x0:Rd):Prop:=
 let v1:=nB x0
 ((v1.2 != 0)=false→(
  let v5:=yN v1.1.rest
  (Gk v1.1.rest)∧
  ((v5.2.2 != 0)=false→(
   ja (ByteArray.size v1.1.rest) (some v5.2.1) none))))
noncomputable def yQ(x0:Rd)(ar:Int):Rd × Int:=
 let v2:=gr x0
 let v5:=nB v2.1
 bif(v5.2 != 0)then
  (v5.1,0)
 else
  bif(decide (v2.2<0))then
   (⟨v5.1.rest,4,v5.1.made⟩,0)
  else
   bif(decide (v2.2>(cD.den (.mx .i64) ar (0:Int))))then
    (⟨v5.1.rest,3,v5.1.made⟩,0)
   else
    (v5.1,v2.2)
def Gl(x0:Rd)(_:Int):Prop:=
 let _:=gr x0
 nD x0
noncomputable def hI(x0:Rd)(ar:Int):Rd × ByteArray:=
 let v2:=yQ x0 ar
 let v5:=nB v2.1
 bif(v5.2 != 0)then
  (v5.1,⟨#[]⟩)
 else
  bif(decide (v2.2>(ByteArray.size v5.1.rest:Int)))then
   (⟨v5.1.rest,5,v5.1.made⟩,⟨#[]⟩)
  else
   (⟨(mV v5.1.rest (some v2.2) none),v5.1.err,v5.1.made⟩,(mV v5.1.rest none (some v2.2)))
def sC(x0:Rd)(ar:Int):Prop:=
 let v2:=yQ x0 ar
 (Gl x0 ar)∧
 let v5:=nB v2.1
 ((v5.2 != 0)=false→(
  ((decide (v2.2>(ByteArray.size v5.1.rest:Int)))=false→(
   (ja (ByteArray.size v5.1.rest) none (some v2.2))∧
   ja (ByteArray.size v5.1.rest) (some v2.2) none))))
noncomputable def BW(x0:Rd)(ar:Int):Rd:=
 let v2:=nB x0
 bif(v2.2==0)then
  ⟨v2.1.rest,ar,v2.1.made⟩
 else
  v2.1
noncomputable def ug(x0:Rd):Rd × cf:=
 let v1:=gr x0
 let bO:Int→ByteArray→ByteArray→Int→Bool→Rd × cf:=fun v6 bB bz v9 v10=>
  let aN:ByteArray→Int→Bool→Rd × cf:=fun bU fw eT=>
   let c9:=nB ⟨bU,fw,eT⟩
   bif(c9.2 != 0)then
    (c9.1,⟨0,0,⟨#[]⟩⟩)
   else
    (c9.1,⟨v1.2,v6,bB⟩)
  bif((kv ⟨v1.2,v6,bB⟩) != 0)then
   let bU:=BW ⟨bz,v9,v10⟩ (4:Int)
   aN bU.rest bU.err bU.made
  else
   aN bz v9 v10
 let aN:Bool→Rd × cf:=fun v4=>
  bif v4 then
   let v6:=gr v1.1
   bO v6.2 (⟨#[]⟩:ByteArray) v6.1.rest v6.1.err v6.1.made
  else
   bif(v1.2==4)then
    let bB:=hI v1.1 (60:Int)
    bO (0:Int) bB.2 bB.1.rest bB.1.err bB.1.made
   else
    bO (0:Int) (⟨#[]⟩:ByteArray) v1.1.rest v1.1.err v1.1.made
 let v4:=v1.2==1
 bif v4 then
  aN v4
 else
  let v5:=v1.2==2
  bif v5 then
   aN v5
  else
   aN (v1.2==3)
def BZ(x0:Rd):Prop:=
 let v1:=gr x0
 (nD x0)∧
 let aN:Bool→Prop:=fun v4=>
  (v4=true→(
   let _:=gr v1.1
   nD v1.1))∧(v4=false→(
   ((v1.2==4)=true→(
    let _:=hI v1.1 (60:Int)
    sC v1.1 (60:Int)))))
 let v4:=v1.2==1
 (v4=true→(
  aN v4))∧(v4=false→(
  let v5:=v1.2==2
  (v5=true→(
   aN v5))∧(v5=false→(
   aN (v1.2==3)))))
noncomputable def Gj(x0:Rd):Rd × Int:=
 let v1:=nB x0
 bif(v1.2 != 0)then
  (v1.1,0)
 else
  (v1.1,(ByteArray.size v1.1.rest:Int))
noncomputable def v8(x0:Rd):Rd × Int:=
 let v1:=Gj x0
 bif(decide (v1.2>0))then
  (v1.1,23)
 else
  let v5:=nB v1.1
  (v5.1,v5.2)
noncomputable def wa(x0:bu):Int:=
 bif((decide (x0.kind<1))||(decide (x0.kind>7)))then
  7
 else
  0
noncomputable def wb(x0:bu):Int:=
 bif((decide (x0.dz<0))||(decide (x0.dz>1099511627776)))then
  2
 else
  0
noncomputable def uj(x0:ByteArray):bu × Int:=
 let v1:=gr ⟨x0,0,true⟩
 let v4:=gr v1.1
 let bB:=gr v4.1
 let v10:=hI bB.1 (24:Int)
 let bU:=hI v10.1 (24:Int)
 let c9:=hI bU.1 (24:Int)
 let b8:=ug c9.1
 let v22:=hI b8.1 (20000:Int)
 let aN:Int→bu × Int:=fun v25=>
  bif(v25 != 0)then
   (⟨0,0,⟨0,⟨#[]⟩,⟨#[]⟩⟩,⟨#[]⟩,⟨0,0,⟨#[]⟩⟩,⟨#[]⟩⟩,v25)
  else
   (⟨v1.2,v4.2,⟨bB.2,v10.2,bU.2⟩,c9.2,⟨b8.2.kind,b8.2.n,b8.2.s⟩,v22.2⟩,0)
 let v25:=v8 v22.1
 bif(v25.2 != 0)then
  aN v25.2
 else
  let iv:=wa ⟨v1.2,v4.2,⟨bB.2,v10.2,bU.2⟩,c9.2,⟨b8.2.kind,b8.2.n,b8.2.s⟩,v22.2⟩
  bif(iv != 0)then
   aN iv
  else
   let v31:=wb ⟨v1.2,v4.2,⟨bB.2,v10.2,bU.2⟩,c9.2,⟨b8.2.kind,b8.2.n,b8.2.s⟩,v22.2⟩
   bif(v31 != 0)then
    aN v31
   else
    aN (0:Int)
def yS(x0:ByteArray):Prop:=
 let v1:=gr ⟨x0,0,true⟩
 (nD ⟨x0,0,true⟩)∧
 let v4:=gr v1.1
 (nD v1.1)∧
 let bB:=gr v4.1
 (nD v4.1)∧
 let v10:=hI bB.1 (24:Int)
 (sC bB.1 (24:Int))∧
 let bU:=hI v10.1 (24:Int)
 (sC v10.1 (24:Int))∧
 let c9:=hI bU.1 (24:Int)
 (sC bU.1 (24:Int))∧
 let b8:=ug c9.1
 (BZ c9.1)∧
 let _:=hI b8.1 (20000:Int)
 sC b8.1 (20000:Int)
noncomputable def HD(x0:Int):Bool:=
 ((decide (x0≥97))&&(decide (x0≤122)))
noncomputable def ir(x0:ByteArray):Bool:=
 bif((decide ((ByteArray.size x0:Int)<1))||(decide ((ByteArray.size x0:Int)>24)))then
  false
 else
  Sum.elim (fun r=>r) (fun _=>
   true)
  (c5 (fun(aW:Int)=>
   show Step (Bool) (Int)from
   let v9:Int:=cD.den .l8 x0 aW
   bif(cD.den .l7 x0 aW)then
    bif((!(HD v9))&&(((cD.den .l9 x0 aW)==0)||(((v9 != 95)&&(v9 != 45))&&((decide (v9<48))||(decide (v9>57))))))then
     .ret false
    else
     .br (cD.den .kY x0 aW)
   else
    .cO aW) dV 0:Bool⊕(Int))
def nI(x0:ByteArray):Prop:=
 (((decide ((ByteArray.size x0:Int)<1))||(decide ((ByteArray.size x0:Int)>24)))=false→(
  ∃(bC:(Int)→Prop) (hg:(Int)→Nat),bC 0∧hg 0<dV∧∀(d0:Int),bC d0→(
   let v9:Int:=cD.den .l8 x0 d0
   ((cD.den .l7 x0 d0)=true→(
    (((!(HD v9))&&(((cD.den .l9 x0 d0)==0)||(((v9 != 95)&&(v9 != 45))&&((decide (v9<48))||(decide (v9>57))))))=false→(
     bC (cD.den .kY x0 d0)∧hg (cD.den .kY x0 d0)<hg d0)))))))
noncomputable def mQ(x0:cp):cp × Int:=
 bif !x0.made then
  (x0,15)
 else
  (x0,x0.bad)
noncomputable def iI(x0:cp):cp × Int:=
 let v1:=mQ x0
 bif(v1.2 != 0)then
  (v1.1,0)
 else
  Sum.elim (fun r=>r) (fun _=>
   (v1.1,0))
  (bo (fun(i6:Nat) (aW:Int)=>
   show Step (cp × Int) (Int)from
   bif(decide ((IntKind.wrap .i64 (v1.1.at_+(i6:Int)))≥(ByteArray.size v1.1.s:Int)))then
    .ret (⟨v1.1.s,v1.1.at_,5,v1.1.made⟩,0)
   else
    let v12:Int:=ej v1.1.s (IntKind.wrap .i64 (v1.1.at_+(i6:Int)))
    bif(((decide ((i6:Int)>0))&&(v12==0))||(((i6:Int)==9)&&(decide (v12>1))))then
     .ret (⟨v1.1.s,v1.1.at_,4,v1.1.made⟩,0)
    else
     let v24:Int:=bA .or .u64 aW (bA .shl .u64 (IntKind.wrap .u64 (bA .rem .u8 v12 (128:Int))) (IntKind.wrap .i64 ((7:Int)*(i6:Int))))
     bif(decide (v12<128))then
      let iv:Int:=IntKind.wrap .i64 (bA .shr .u64 v24 (1:Int))
      let aN:Int→Step (cp × Int) (Int):=fun v30=>
       .ret (⟨v1.1.s,(IntKind.wrap .i64 ((IntKind.wrap .i64 (v1.1.at_+(i6:Int)))+(1:Int))),v1.1.bad,v1.1.made⟩,v30)
      bif((bA .rem .u64 v24 (2:Int))==1)then
       aN (IntKind.wrap .i64 (((-1):Int)-iv))
      else
       aN iv
     else
      .br v24) 0 (Int.toNat (10:Int)) 0:(cp × Int)⊕(Int))
def q8(x0:cp):Prop:=
 let v1:=mQ x0
 ((v1.2 != 0)=false→(
  ∃bC:Nat→(Int)→Prop,bC 0 0∧∀(i6:Nat) (d0:Int),i6<Int.toNat (10:Int)→bC i6 d0→(
   ((decide ((IntKind.wrap .i64 (v1.1.at_+(i6:Int)))≥(ByteArray.size v1.1.s:Int)))=false→(
    let v11:Int:=IntKind.wrap .i64 (v1.1.at_+(i6:Int))
    let v12:Int:=ej v1.1.s v11
    (0≤v11∧v11<(ByteArray.size v1.1.s:Int))∧
    ((((decide ((i6:Int)>0))&&(v12==0))||(((i6:Int)==9)&&(decide (v12>1))))=false→(
     let v21:Int:=IntKind.wrap .u64 (bA .rem .u8 v12 (128:Int))
     let v22:Int:=IntKind.wrap .i64 ((7:Int)*(i6:Int))
     (0≤v22)∧
     let v24:Int:=bA .or .u64 d0 (bA .shl .u64 v21 v22)
     ((decide (v12<128))=false→(
      bC (i6+1) v24)))))))))
noncomputable def yR(x0:cp)(ar:Int):cp × Int:=
 let v2:=iI x0
 let aN:Int→cp × Int:=fun v5=>
  let bB:=mQ v2.1
  bif(bB.2 != 0)then
   (bB.1,0)
  else
   bif(decide (v2.2<0))then
    (⟨bB.1.s,bB.1.at_,4,bB.1.made⟩,0)
   else
    bif(decide (v2.2>v5))then
     (⟨bB.1.s,bB.1.at_,3,bB.1.made⟩,0)
    else
     (bB.1,v2.2)
 bif(decide (ar<0))then
  aN (0:Int)
 else
  aN ar
def Gp(x0:cp)(_:Int):Prop:=
 let _:=iI x0
 q8 x0
noncomputable def iZ(x0:cp)(ar:Int):cp × ByteArray:=
 let v2:=yR x0 ar
 let v5:=mQ v2.1
 bif(v5.2 != 0)then
  (v5.1,⟨#[]⟩)
 else
  bif(decide (v2.2>(IntKind.wrap .i64 ((ByteArray.size v5.1.s:Int)-v5.1.at_))))then
   (⟨v5.1.s,v5.1.at_,5,v5.1.made⟩,⟨#[]⟩)
  else
   (⟨v5.1.s,(IntKind.wrap .i64 (v5.1.at_+v2.2)),v5.1.bad,v5.1.made⟩,(mV v5.1.s (some v5.1.at_) (some (IntKind.wrap .i64 (v5.1.at_+v2.2)))))
def um(x0:cp)(ar:Int):Prop:=
 let v2:=yR x0 ar
 (Gp x0 ar)∧
 let v5:=mQ v2.1
 ((v5.2 != 0)=false→(
  ((decide (v2.2>(IntKind.wrap .i64 ((ByteArray.size v5.1.s:Int)-v5.1.at_))))=false→(
   let v12:Int:=IntKind.wrap .i64 (v5.1.at_+v2.2)
   ja (ByteArray.size v5.1.s) (some v5.1.at_) (some v12)))))
noncomputable def pS(x0:cf):Int:=
 let bO:Int→Int→Int:=fun v1 v2=>
  bif((decide (x0.n<v1))||(decide (x0.n>v2)))then
   2
  else
   bif(decide ((ByteArray.size x0.s:Int)>60))then
    3
   else
    bif((cN .neq x0.s (⟨#[]⟩:ByteArray))&&(x0.kind != 4))then
     4
    else
     0
 let aN:Bool→Int:=fun v1=>
  bif v1 then
   bO (0:Int) (0:Int)
  else
   bif(x0.kind==1)then
    bO (0:Int) (1:Int)
   else
    bif(x0.kind==2)then
     bO ((-1099511627776):Int) (1099511627776:Int)
    else
     bif(x0.kind==3)then
      bO (0:Int) (63:Int)
     else
      7
 let v1:=x0.kind==0
 bif v1 then
  aN v1
 else
  aN (x0.kind==4)
noncomputable def BX(x0:cp)(ar:Int):cp:=
 let v2:=mQ x0
 bif(v2.2==0)then
  ⟨v2.1.s,v2.1.at_,ar,v2.1.made⟩
 else
  v2.1
noncomputable def ui(x0:cp):cp × cf:=
 let v1:=iI x0
 let aN:ByteArray→ByteArray→Int→Int→Bool→cp × cf:=fun v5 v6 bB bz v9=>
  let aN:Int→ByteArray→Int→Int→Bool→cp × cf:=fun bU fw eT c9 dN=>
   let bO:ByteArray→Int→Int→Bool→cp × cf:=fun v22 v23 v24 v25=>
    let v26:=mQ ⟨v22,v23,v24,v25⟩
    bif(v26.2 != 0)then
     (v26.1,⟨0,0,⟨#[]⟩⟩)
    else
     (v26.1,⟨v1.2,bU,v5⟩)
   let eb:=mQ ⟨fw,eT,c9,dN⟩
   let v21:=eb.2==0
   let aN:Int→cp × cf:=fun v22=>
    bif(v21&&(v22 != 0))then
     let v25:=BX eb.1 (4:Int)
     bO v25.s v25.at_ v25.bad v25.made
    else
     bO eb.1.s eb.1.at_ eb.1.bad eb.1.made
   bif v21 then
    aN (pS ⟨v1.2,bU,v5⟩)
   else
    aN (0:Int)
  bif((decide (v1.2≥1))&&(decide (v1.2≤3)))then
   let bU:=iI ⟨v6,bB,bz,v9⟩
   aN bU.2 bU.1.s bU.1.at_ bU.1.bad bU.1.made
  else
   aN (0:Int) v6 bB bz v9
 bif(v1.2==4)then
  let v5:=iZ v1.1 (60:Int)
  aN v5.2 v5.1.s v5.1.at_ v5.1.bad v5.1.made
 else
  aN (⟨#[]⟩:ByteArray) v1.1.s v1.1.at_ v1.1.bad v1.1.made
def B2(x0:cp):Prop:=
 let v1:=iI x0
 (q8 x0)∧
 let aN:ByteArray→ByteArray→Int→Int→Bool→Prop:=fun _ v6 bB bz v9=>
  (((decide (v1.2≥1))&&(decide (v1.2≤3)))=true→(
   let _:=iI ⟨v6,bB,bz,v9⟩
   q8 ⟨v6,bB,bz,v9⟩))
 ((v1.2==4)=true→(
  let v5:=iZ v1.1 (60:Int)
  (um v1.1 (60:Int))∧
  aN v5.2 v5.1.s v5.1.at_ v5.1.bad v5.1.made))∧((v1.2==4)=false→(
  aN (⟨#[]⟩:ByteArray) v1.1.s v1.1.at_ v1.1.bad v1.1.made))
noncomputable def BY(x0:cp):cp × Int:=
 let v1:=mQ x0
 bif(v1.2 != 0)then
  let v5:=mQ v1.1
  (v5.1,v5.2)
 else
  bif(decide (v1.1.at_<(ByteArray.size v1.1.s:Int)))then
   (v1.1,23)
  else
   (v1.1,0)
noncomputable def yU(x0:ByteArray):bu × Int:=
 let v1:=iI ⟨x0,0,0,true⟩
 let v4:=iI v1.1
 let bB:=iI v4.1
 let v10:=iZ bB.1 (24:Int)
 let bU:=iZ v10.1 (24:Int)
 let c9:=iZ bU.1 (24:Int)
 let b8:=ui c9.1
 let v22:=iZ b8.1 (20000:Int)
 let v25:=BY v22.1
 bif(v25.2 != 0)then
  (⟨0,0,⟨0,⟨#[]⟩,⟨#[]⟩⟩,⟨#[]⟩,⟨0,0,⟨#[]⟩⟩,⟨#[]⟩⟩,v25.2)
 else
  bif((decide (v1.2<1))||(decide (v1.2>7)))then
   (⟨0,0,⟨0,⟨#[]⟩,⟨#[]⟩⟩,⟨#[]⟩,⟨0,0,⟨#[]⟩⟩,⟨#[]⟩⟩,7)
  else
   bif((decide (v4.2<0))||(decide (v4.2>1099511627776)))then
    (⟨0,0,⟨0,⟨#[]⟩,⟨#[]⟩⟩,⟨#[]⟩,⟨0,0,⟨#[]⟩⟩,⟨#[]⟩⟩,2)
   else
    (⟨v1.2,v4.2,⟨bB.2,v10.2,bU.2⟩,c9.2,⟨b8.2.kind,b8.2.n,b8.2.s⟩,v22.2⟩,0)
def B3(x0:ByteArray):Prop:=
 let v1:=iI ⟨x0,0,0,true⟩
 (q8 ⟨x0,0,0,true⟩)∧
 let v4:=iI v1.1
 (q8 v1.1)∧
 let bB:=iI v4.1
 (q8 v4.1)∧
 let v10:=iZ bB.1 (24:Int)
 (um bB.1 (24:Int))∧
 let bU:=iZ v10.1 (24:Int)
 (um v10.1 (24:Int))∧
 let c9:=iZ bU.1 (24:Int)
 (um bU.1 (24:Int))∧
 let b8:=ui c9.1
 (B2 c9.1)∧
 let _:=iZ b8.1 (20000:Int)
 um b8.1 (20000:Int)
noncomputable def fB(x0:Int):ByteArray:=
 let v2:Int:=bA .shl .u64 (IntKind.wrap .u64 x0) (1:Int)
 let aN:Int→ByteArray:=fun v3=>
  Sum.elim (fun r=>r) (fun bS=>
   (bytesOf (List.append bS.2 ([(IntKind.wrap .u8 bS.1)]:List Int))))
  (c5 (fun(aW:Int × (List Int))=>
   show Step (ByteArray) (Int × (List Int))from
   bif(decide (aW.1≥128))then
    .br ((bA .quo .u64 aW.1 (128:Int)),(List.append aW.2 ([(IntKind.wrap .u8 ((IntKind.wrap .u8 (bA .rem .u64 aW.1 (128:Int)))+(128:Int)))]:List Int)))
   else
    .cO (aW.1,aW.2)) dV (v3,[]):ByteArray⊕(Int × (List Int)))
 bif(decide (x0<0))then
  aN (gG.den (.uM .u64) v2)
 else
  aN v2
def iG(x0:Int):Prop:=
 let v2:Int:=bA .shl .u64 (IntKind.wrap .u64 x0) (1:Int)
 let aN:Int→Prop:=fun v3=>
  let aX:(Int × (List Int))→Prop:=fun bS=>
   let bz:List Int:=([(IntKind.wrap .u8 bS.1)]:List Int)
   List.length bS.2+List.length bz≤maxLen∧(List.length bS.2+List.length bz)*1≤140737488355328
  ∃(bC:(Int × (List Int))→Prop) (hg:(Int × (List Int))→Nat),bC (v3,[])∧hg (v3,[])<dV∧∀(d0:Int × (List Int)),bC d0→(
   ((decide (d0.1≥128))=true→(
    let v11:List Int:=([(IntKind.wrap .u8 ((IntKind.wrap .u8 (bA .rem .u64 d0.1 (128:Int)))+(128:Int)))]:List Int)
    (List.length d0.2+List.length v11≤maxLen∧(List.length d0.2+List.length v11)*1≤140737488355328)∧
    bC ((bA .quo .u64 d0.1 (128:Int)),(List.append d0.2 v11))∧hg ((bA .quo .u64 d0.1 (128:Int)),(List.append d0.2 v11))<hg d0))∧((decide (d0.1≥128))=false→(
    aX (d0.1,d0.2))))
 ((decide (x0<0))=true→(
  aN (gG.den (.uM .u64) v2)))∧((decide (x0<0))=false→(
  aN v2))
noncomputable def iH(x0:ByteArray):ByteArray:=
 (ByteArray.append (fB (ByteArray.size x0:Int)) x0)
def pR(x0:ByteArray):Prop:=
 let v1:Int:=(ByteArray.size x0:Int)
 let v2:=fB v1
 (iG v1)∧
 ByteArray.size v2+ByteArray.size x0≤9223372036854775807
noncomputable def uq(x0:cf):ByteArray:=
 let aN:Int→Int→ByteArray→ByteArray:=fun v3 v4 v5=>
  bif(v3==0)then
   (fB (0:Int))
  else
   bif(v3==4)then
    (ByteArray.append (fB v3) (iH v5))
   else
    (ByteArray.append (fB v3) (fB v4))
 bif((pS x0) != 0)then
  aN (0:Int) (0:Int) (⟨#[]⟩:ByteArray)
 else
  aN x0.kind x0.n x0.s
def Gs(x0:cf):Prop:=
 let aN:Int→Int→ByteArray→Prop:=fun v3 v4 v5=>
  ((v3==0)=true→(
   iG (0:Int)))∧((v3==0)=false→(
   ((v3==4)=true→(
    let bz:=fB v3
    (iG v3)∧
    let v9:=iH v5
    (pR v5)∧
    ByteArray.size bz+ByteArray.size v9≤9223372036854775807))∧((v3==4)=false→(
    let bz:=fB v3
    (iG v3)∧
    let v9:=fB v4
    (iG v4)∧
    ByteArray.size bz+ByteArray.size v9≤9223372036854775807))))
 (((pS x0) != 0)=true→(
  aN (0:Int) (0:Int) (⟨#[]⟩:ByteArray)))∧(((pS x0) != 0)=false→(
  aN x0.kind x0.n x0.s))
noncomputable def yW(x0:bu):ByteArray:=
 let bU:=ByteArray.append (ByteArray.append (ByteArray.append (ByteArray.append (ByteArray.append (ByteArray.append (fB x0.kind) (fB x0.dz)) (fB x0.key.dev)) (iH x0.key.dm)) (iH x0.key.attr)) (iH x0.name)) (uq ⟨x0.value.kind,x0.value.n,x0.value.s⟩)
 (ByteArray.append bU (iH x0.text))
def Gu(x0:bu):Prop:=
 let v1:=fB x0.kind
 (iG x0.kind)∧
 let v2:=fB x0.dz
 (iG x0.dz)∧
 let v3:=ByteArray.append v1 v2
 (ByteArray.size v1+ByteArray.size v2≤9223372036854775807)∧
 let v4:=fB x0.key.dev
 (iG x0.key.dev)∧
 let v5:=ByteArray.append v3 v4
 (ByteArray.size v3+ByteArray.size v4≤9223372036854775807)∧
 let v6:=iH x0.key.dm
 (pR x0.key.dm)∧
 let bB:=ByteArray.append v5 v6
 (ByteArray.size v5+ByteArray.size v6≤9223372036854775807)∧
 let bz:=iH x0.key.attr
 (pR x0.key.attr)∧
 let v9:=ByteArray.append bB bz
 (ByteArray.size bB+ByteArray.size bz≤9223372036854775807)∧
 let v10:=iH x0.name
 (pR x0.name)∧
 let v11:=ByteArray.append v9 v10
 (ByteArray.size v9+ByteArray.size v10≤9223372036854775807)∧
 let v12:=uq ⟨x0.value.kind,x0.value.n,x0.value.s⟩
 (Gs ⟨x0.value.kind,x0.value.n,x0.value.s⟩)∧
 let bU:=ByteArray.append v11 v12
 (ByteArray.size v11+ByteArray.size v12≤9223372036854775807)∧
 let fw:=iH x0.text
 (pR x0.text)∧
 ByteArray.size bU+ByteArray.size fw≤9223372036854775807
noncomputable def jX(x0:ByteArray):Bool:=
 let v3:Int:=(ByteArray.size x0:Int)
 bif((decide ((ByteArray.size x0:Int)<1))||(decide (v3>24)))then
  false
 else
  Sum.elim (fun r=>r) (fun _=>
   true)
  (bo (fun(i6:Nat) (_:Unit)=>
   show Step (Bool) (Unit)from
   let bz:Int:=ej x0 (i6:Int)
   bif((!((decide (bz≥97))&&(decide (bz≤122))))&&(((i6:Int)==0)||(((bz != 95)&&(bz != 45))&&((decide (bz<48))||(decide (bz>57))))))then
    .ret false
   else
    .br ()) 0 (Int.toNat v3) ():Bool⊕(Unit))
def p1(x0:ByteArray):Prop:=
 let v3:Int:=(ByteArray.size x0:Int)
 (((decide ((ByteArray.size x0:Int)<1))||(decide (v3>24)))=false→(
  0≤v3∧v3<(9223372036854775808:Int)))
noncomputable def Qx(x0:ByteArray):ByteArray:=
 let v1:Int:=(ByteArray.size x0:Int)
 Sum.elim (fun r=>r) (fun bS=>
  (bytesOf bS))
 (bo (fun(i3:Nat) (aW:(List Int))=>
  show Step (ByteArray) ((List Int))from
  let v11:List Int:=([(ej (⟨#[48,49,50,51,52,53,54,55,56,57,97,98,99,100,101,102]⟩:ByteArray) (bA .quo .u8 (ej x0 (i3:Int)) (16:Int))),(ej (⟨#[48,49,50,51,52,53,54,55,56,57,97,98,99,100,101,102]⟩:ByteArray) (bA .rem .u8 (ej x0 (i3:Int)) (16:Int)))]:List Int)
  .br (List.append aW v11)) 0 (Int.toNat v1) []:ByteArray⊕((List Int)))
def G9(x0:ByteArray):Prop:=
 let v1:Int:=(ByteArray.size x0:Int)
 (0≤v1∧v1<(9223372036854775808:Int))∧
 ∃bC:Nat→((List Int))→Prop,bC 0 []∧∀(i3:Nat) (d0:(List Int)),i3<Int.toNat v1→bC i3 d0→(
  let v6:Int:=bA .quo .u8 (ej x0 (i3:Int)) (16:Int)
  (0≤v6∧v6<(ByteArray.size (⟨#[48,49,50,51,52,53,54,55,56,57,97,98,99,100,101,102]⟩:ByteArray):Int))∧
  let v9:Int:=bA .rem .u8 (ej x0 (i3:Int)) (16:Int)
  (0≤v9∧v9<(ByteArray.size (⟨#[48,49,50,51,52,53,54,55,56,57,97,98,99,100,101,102]⟩:ByteArray):Int))∧
  let v11:List Int:=([(ej (⟨#[48,49,50,51,52,53,54,55,56,57,97,98,99,100,101,102]⟩:ByteArray) v6),(ej (⟨#[48,49,50,51,52,53,54,55,56,57,97,98,99,100,101,102]⟩:ByteArray) v9)]:List Int)
  (List.length d0+List.length v11≤maxLen∧(List.length d0+List.length v11)*1≤140737488355328)∧
  bC (i3+1) (List.append d0 v11))
noncomputable def Ce(x0:Int):Int:=
 (cD.den (.uN .i64) (cD.den (.mx .i64) x0 ((-1099511627776):Int)) (1099511627776:Int))
noncomputable def zy(x0:Int):Int:=
 Sum.elim (fun r=>r) (fun _=>
  (-1))
 (bo (fun(i17:Nat) (_:Unit)=>
  show Step (Int) (Unit)from
  let b8:Int:=HB ([(ej (⟨#[48,49,50,51,52,53,54,55,56,57,97,98,99,100,101,102]⟩:ByteArray) (0:Int)),(ej (⟨#[48,49,50,51,52,53,54,55,56,57,97,98,99,100,101,102]⟩:ByteArray) (1:Int)),(ej (⟨#[48,49,50,51,52,53,54,55,56,57,97,98,99,100,101,102]⟩:ByteArray) (2:Int)),(ej (⟨#[48,49,50,51,52,53,54,55,56,57,97,98,99,100,101,102]⟩:ByteArray) (3:Int)),(ej (⟨#[48,49,50,51,52,53,54,55,56,57,97,98,99,100,101,102]⟩:ByteArray) (4:Int)),(ej (⟨#[48,49,50,51,52,53,54,55,56,57,97,98,99,100,101,102]⟩:ByteArray) (5:Int)),(ej (⟨#[48,49,50,51,52,53,54,55,56,57,97,98,99,100,101,102]⟩:ByteArray) (6:Int)),(ej (⟨#[48,49,50,51,52,53,54,55,56,57,97,98,99,100,101,102]⟩:ByteArray) (7:Int)),(ej (⟨#[48,49,50,51,52,53,54,55,56,57,97,98,99,100,101,102]⟩:ByteArray) (8:Int)),(ej (⟨#[48,49,50,51,52,53,54,55,56,57,97,98,99,100,101,102]⟩:ByteArray) (9:Int)),(ej (⟨#[48,49,50,51,52,53,54,55,56,57,97,98,99,100,101,102]⟩:ByteArray) (10:Int)),(ej (⟨#[48,49,50,51,52,53,54,55,56,57,97,98,99,100,101,102]⟩:ByteArray) (11:Int)),(ej (⟨#[48,49,50,51,52,53,54,55,56,57,97,98,99,100,101,102]⟩:ByteArray) (12:Int)),(ej (⟨#[48,49,50,51,52,53,54,55,56,57,97,98,99,100,101,102]⟩:ByteArray) (13:Int)),(ej (⟨#[48,49,50,51,52,53,54,55,56,57,97,98,99,100,101,102]⟩:ByteArray) (14:Int)),(ej (⟨#[48,49,50,51,52,53,54,55,56,57,97,98,99,100,101,102]⟩:ByteArray) (15:Int))]:List Int) (Int.toNat (i17:Int))
  bif(b8==x0)then
   .ret (i17:Int)
  else
   .br ()) 0 (Int.toNat (16:Int)) ():Int⊕(Unit))
def zi(_:Int):Prop:=
 (0≤(0:Int)∧(0:Int)<(ByteArray.size (⟨#[48,49,50,51,52,53,54,55,56,57,97,98,99,100,101,102]⟩:ByteArray):Int))∧
 (0≤(1:Int)∧(1:Int)<(ByteArray.size (⟨#[48,49,50,51,52,53,54,55,56,57,97,98,99,100,101,102]⟩:ByteArray):Int))∧
 (0≤(2:Int)∧(2:Int)<(ByteArray.size (⟨#[48,49,50,51,52,53,54,55,56,57,97,98,99,100,101,102]⟩:ByteArray):Int))∧
 (0≤(3:Int)∧(3:Int)<(ByteArray.size (⟨#[48,49,50,51,52,53,54,55,56,57,97,98,99,100,101,102]⟩:ByteArray):Int))∧
 (0≤(4:Int)∧(4:Int)<(ByteArray.size (⟨#[48,49,50,51,52,53,54,55,56,57,97,98,99,100,101,102]⟩:ByteArray):Int))∧
 (0≤(5:Int)∧(5:Int)<(ByteArray.size (⟨#[48,49,50,51,52,53,54,55,56,57,97,98,99,100,101,102]⟩:ByteArray):Int))∧
 (0≤(6:Int)∧(6:Int)<(ByteArray.size (⟨#[48,49,50,51,52,53,54,55,56,57,97,98,99,100,101,102]⟩:ByteArray):Int))∧
 (0≤(7:Int)∧(7:Int)<(ByteArray.size (⟨#[48,49,50,51,52,53,54,55,56,57,97,98,99,100,101,102]⟩:ByteArray):Int))∧
 (0≤(8:Int)∧(8:Int)<(ByteArray.size (⟨#[48,49,50,51,52,53,54,55,56,57,97,98,99,100,101,102]⟩:ByteArray):Int))∧
 (0≤(9:Int)∧(9:Int)<(ByteArray.size (⟨#[48,49,50,51,52,53,54,55,56,57,97,98,99,100,101,102]⟩:ByteArray):Int))∧
 (0≤(10:Int)∧(10:Int)<(ByteArray.size (⟨#[48,49,50,51,52,53,54,55,56,57,97,98,99,100,101,102]⟩:ByteArray):Int))∧
 (0≤(11:Int)∧(11:Int)<(ByteArray.size (⟨#[48,49,50,51,52,53,54,55,56,57,97,98,99,100,101,102]⟩:ByteArray):Int))∧
 (0≤(12:Int)∧(12:Int)<(ByteArray.size (⟨#[48,49,50,51,52,53,54,55,56,57,97,98,99,100,101,102]⟩:ByteArray):Int))∧
 (0≤(13:Int)∧(13:Int)<(ByteArray.size (⟨#[48,49,50,51,52,53,54,55,56,57,97,98,99,100,101,102]⟩:ByteArray):Int))∧
 (0≤(14:Int)∧(14:Int)<(ByteArray.size (⟨#[48,49,50,51,52,53,54,55,56,57,97,98,99,100,101,102]⟩:ByteArray):Int))∧
 0≤(15:Int)∧(15:Int)<(ByteArray.size (⟨#[48,49,50,51,52,53,54,55,56,57,97,98,99,100,101,102]⟩:ByteArray):Int)
noncomputable def oP(x0:ByteArray):ByteArray × Int:=
 let v1:Int:=(ByteArray.size x0:Int)
 bif((bA .rem .i64 v1 (2:Int)) != 0)then
  (⟨#[]⟩,4)
 else
  Sum.elim (fun r=>r) (fun bS=>
   ((bytesOf bS.2),0))
  (c5 (fun(aW:Int × (List Int))=>
   show Step (ByteArray × Int) (Int × (List Int))from
   bif(decide (aW.1<v1))then
    let v12:=zy (ej x0 aW.1)
    let bU:=zy (ej x0 (IntKind.wrap .i64 (aW.1+(1:Int))))
    bif((decide (v12<0))||(decide (bU<0)))then
     .ret (⟨#[]⟩,4)
    else
     .br ((IntKind.wrap .i64 (aW.1+(2:Int))),(List.append aW.2 ([(IntKind.wrap .u8 (IntKind.wrap .i64 ((IntKind.wrap .i64 ((16:Int)*v12))+bU)))]:List Int)))
   else
    .cO (aW.1,aW.2)) dV (0,(List.replicate (Int.toNat (0:Int)) (aA .u8))):(ByteArray × Int)⊕(Int × (List Int)))
def CF(x0:ByteArray):Prop:=
 let v1:Int:=(ByteArray.size x0:Int)
 (((bA .rem .i64 v1 (2:Int)) != 0)=false→(
  (0≤(0:Int)∧(0:Int)≤(bA .quo .i64 v1 (2:Int))∧(bA .quo .i64 v1 (2:Int))≤(maxLen:Int)∧(1:Int)*(bA .quo .i64 v1 (2:Int))≤281474976710656)∧
  ∃(bC:(Int × (List Int))→Prop) (hg:(Int × (List Int))→Nat),bC (0,(List.replicate (Int.toNat (0:Int)) (aA .u8)))∧hg (0,(List.replicate (Int.toNat (0:Int)) (aA .u8)))<dV∧∀(d0:Int × (List Int)),bC d0→(
   ((decide (d0.1<v1))=true→(
    let v9:Int:=ej x0 d0.1
    (0≤d0.1∧d0.1<(ByteArray.size x0:Int))∧
    let v10:Int:=IntKind.wrap .i64 (d0.1+(1:Int))
    let v11:Int:=ej x0 v10
    (0≤v10∧v10<(ByteArray.size x0:Int))∧
    let v12:=zy v9
    (zi v9)∧
    let bU:=zy v11
    (zi v11)∧
    (((decide (v12<0))||(decide (bU<0)))=false→(
     let v20:List Int:=([(IntKind.wrap .u8 (IntKind.wrap .i64 ((IntKind.wrap .i64 ((16:Int)*v12))+bU)))]:List Int)
     (List.length d0.2+List.length v20≤maxLen∧(List.length d0.2+List.length v20)*1≤140737488355328)∧
     bC ((IntKind.wrap .i64 (d0.1+(2:Int))),(List.append d0.2 v20))∧hg ((IntKind.wrap .i64 (d0.1+(2:Int))),(List.append d0.2 v20))<hg d0)))))))
noncomputable def mT(x0:List ByteArray)(ar:ByteArray):Int:=
 let v2:Int:=(List.length x0:Int)
 Sum.elim (fun r=>r) (fun _=>
  (-1))
 (bo (fun(i3:Nat) (_:Unit)=>
  show Step (Int) (Unit)from
  bif(cN .eql ar (List.getD x0 (Int.toNat (i3:Int)) (aA .str)))then
   .ret (i3:Int)
  else
   .br ()) 0 (Int.toNat v2) ():Int⊕(Unit))
noncomputable def iK(x0:List ByteArray)(ar:ByteArray):Bool:=
 (decide ((mT x0 ar)≥0))
noncomputable def p3(x0:List ByteArray)(ar:ByteArray):Int:=
 (mT x0 ar)
noncomputable def wk(x0:List ByteArray):Int:=
 let v3:Int:=(List.length x0:Int)
 bif((decide ((List.length x0:Int)<1))||(decide (v3>64)))then
  3
 else
  Sum.elim (fun r=>r) (fun _=>
   0)
  (bo (fun(i6:Nat) (_:Unit)=>
   show Step (Int) (Unit)from
   let bz:ByteArray:=List.getD x0 (Int.toNat (i6:Int)) (aA .str)
   bif(!(ir bz))then
    .ret 10
   else
    bif(decide ((p3 x0 bz)<(i6:Int)))then
     .ret 9
    else
     .br ()) 0 (Int.toNat v3) ():Int⊕(Unit))
def B7(x0:List ByteArray):Prop:=
 let v3:Int:=(List.length x0:Int)
 (((decide ((List.length x0:Int)<1))||(decide (v3>64)))=false→(
  ∃bC:Nat→(Unit)→Prop,bC 0 ()∧∀(i6:Nat) (d0:Unit),i6<Int.toNat v3→bC i6 d0→(
   let bz:ByteArray:=List.getD x0 (Int.toNat (i6:Int)) (aA .str)
   (nI bz)∧
   ((!(ir bz))=false→(
    ((decide ((p3 x0 bz)<(i6:Int)))=false→(
     bC (i6+1) ())))))))
noncomputable def kZ(x0:Attr):Int:=
 bif(!(ir x0.name))then
  10
 else
  bif((decide (x0.kind<1))||(decide (x0.kind>4)))then
   7
  else
   let bO:Int:=
    bif(x0.kind==3)then
     (wk x0.enum)
    else
     bif(decide ((List.length x0.enum:Int)>0))then
      4
     else
      0
   bif(x0.kind==2)then
    let bz:=!(sA x0.min)
    let aN:Bool→Int:=fun v9=>
     bif((bz||(!v9))||(decide (x0.min>x0.max)))then
      2
     else
      bO
    bif bz then
     aN false
    else
     aN (sA x0.max)
   else
    bif((x0.min != 0)||(x0.max != 0))then
     2
    else
     bO
def wj(x0:Attr):Prop:=
 (nI x0.name)∧
 ((!(ir x0.name))=false→(
  (((decide (x0.kind<1))||(decide (x0.kind>4)))=false→(
   let bO:Prop:=
    ((x0.kind==3)=true→(
     B7 x0.enum))
   ((x0.kind==2)=true→(
    let bz:=!(sA x0.min)
    let aN:Bool→Prop:=fun v9=>
     (((bz||(!v9))||(decide (x0.min>x0.max)))=false→(
      bO))
    (bz=true→(
     aN false))∧(bz=false→(
     aN (sA x0.max)))))∧((x0.kind==2)=false→(
    (((x0.min != 0)||(x0.max != 0))=false→(
     bO))))))))
noncomputable def oL(x0:aK):Bool:=
 let v1:Int:=(List.length x0.commands:Int)
 Sum.elim (fun r=>r) (fun _=>
  (((decide ((List.length x0.attrs:Int)>12))||(decide ((List.length x0.commands:Int)>12)))||(decide ((List.length x0.events:Int)>12))))
 (bo (fun(i2:Nat) (_:Unit)=>
  show Step (Bool) (Unit)from
  bif(decide ((List.length ((List.getD x0.commands (Int.toNat (i2:Int)) (aA .Command)).gi):Int)>12))then
   .ret true
  else
   .br ()) 0 (Int.toNat v1) ():Bool⊕(Unit))
noncomputable def uv(x0:Attr):Bool:=
 (((((((cN .eql x0.name (⟨#[]⟩:ByteArray))&&(x0.kind==0))&&(x0.min==0))&&(x0.max==0))&&((List.length x0.enum:Int)==0))&&(!x0.fC))&&(!x0.safety))
def C7(x:List ByteArray):List ByteArray:=x
def wi(x:List ByteArray):Prop:=x.length≤maxLen∧x.length*16≤140737488355328
noncomputable def sG(x0:aK)(ar:ByteArray):Attr × Bool:=
 let v2:Int:=(List.length x0.attrs:Int)
 Sum.elim (fun r=>r) (fun _=>
  (⟨⟨#[]⟩,0,0,0,[],false,false⟩,false))
 (bo (fun(i3:Nat) (_:Unit)=>
  show Step (Attr × Bool) (Unit)from
  let v5:Attr:=List.getD x0.attrs (Int.toNat (i3:Int)) (aA .Attr)
  bif(cN .eql v5.name ar)then
   .ret (⟨v5.name,v5.kind,v5.min,v5.max,(C7 v5.enum),v5.fC,v5.safety⟩,true)
  else
   .br ()) 0 (Int.toNat v2) ():(Attr × Bool)⊕(Unit))
def yY(x0:aK)(ar:ByteArray):Prop:=
 let v2:Int:=(List.length x0.attrs:Int)
 ∃bC:Nat→(Unit)→Prop,bC 0 ()∧∀(i3:Nat) (d0:Unit),i3<Int.toNat v2→bC i3 d0→(
  let v5:Attr:=List.getD x0.attrs (Int.toNat (i3:Int)) (aA .Attr)
  ((cN .eql v5.name ar)=true→(
   wi v5.enum))∧((cN .eql v5.name ar)=false→(
   bC (i3+1) ())))
noncomputable def wq(x0:Attr)(ar:cf):Int:=
 let v2:=kZ x0
 bif(v2 != 0)then
  v2
 else
  let v4:=kv ar
  bif(v4 != 0)then
   v4
  else
   bif(ar.kind != x0.kind)then
    11
   else
    let aN:Bool→Int:=fun bB=>
     bif bB then
      2
     else
      0
    let v11:Bool:=(ar.kind==2)&&((decide (ar.n<x0.min))||(decide (ar.n>x0.max)))
    bif v11 then
     aN v11
    else
     aN ((ar.kind==3)&&(decide (ar.n≥(List.length x0.enum:Int))))
def yX(x0:Attr)(_:cf):Prop:=
 let _:=kZ x0
 wj x0
noncomputable def y4(x0:List ByteArray)(ar:List ByteArray):Bool:=
 let v2:Int:=(List.length x0:Int)
 bif(v2 != (List.length ar:Int))then
  false
 else
  Sum.elim (fun r=>r) (fun _=>
   true)
  (bo (fun(i5:Nat) (_:Unit)=>
   show Step (Bool) (Unit)from
   bif(cN .neq (List.getD x0 (Int.toNat (i5:Int)) (aA .str)) (List.getD ar (Int.toNat (i5:Int)) (aA .str)))then
    .ret false
   else
    .br ()) 0 (Int.toNat v2) ():Bool⊕(Unit))
def Gy(x0:List ByteArray)(ar:List ByteArray):Prop:=
 let v2:Int:=(List.length x0:Int)
 ((v2 != (List.length ar:Int))=false→(
  ∃bC:Nat→(Unit)→Prop,bC 0 ()∧∀(i5:Nat) (d0:Unit),i5<Int.toNat v2→bC i5 d0→(
   (0≤(i5:Int)∧(i5:Int)<(List.length ar:Int))∧
   ((cN .neq (List.getD x0 (Int.toNat (i5:Int)) (aA .str)) (List.getD ar (Int.toNat (i5:Int)) (aA .str)))=false→(
    bC (i5+1) ())))))
noncomputable def Cf(x0:Attr)(ar:Attr):Bool:=
 let v2:=x0.kind==ar.kind
 let aN:Bool→Bool:=fun v3=>
  (v2&&v3)
 bif v2 then
  aN (y4 x0.enum ar.enum)
 else
  aN false
def Gz(x0:Attr)(ar:Attr):Prop:=
 let v2:=x0.kind==ar.kind
 (v2=true→(
  Gy x0.enum ar.enum))
noncomputable def Ch(x0:cP)(ar:Attr)(b7:Attr):Bool:=
 bif(x0.kind==1)then
  let v4:=ar.kind != 4
  let aN:Int→Bool:=fun v5=>
   (v4&&(v5==0))
  bif v4 then
   aN (wq ar ⟨ar.kind,x0.n,⟨#[]⟩⟩)
  else
   aN (0:Int)
 else
  bif(x0.kind==2)then
   (Cf ar b7)
  else
   bif(x0.kind==3)then
    (ar.kind==2)
   else
    (ar.kind==1)
def B9(x0:cP)(ar:Attr)(b7:Attr):Prop:=
 ((x0.kind==1)=true→(
  let v4:=ar.kind != 4
  (v4=true→(
   yX ar ⟨ar.kind,x0.n,⟨#[]⟩⟩))))∧((x0.kind==1)=false→(
  ((x0.kind==2)=true→(
   Gz ar b7))))
noncomputable def p5(x0:aK)(ar:Attr)(b7:cP):Int:=
 bif((decide (b7.kind<1))||(decide (b7.kind>4)))then
  7
 else
  let v6:=sG x0 b7.attr
  bif !v6.2 then
   8
  else
   bif !v6.1.fC then
    24
   else
    bif(!(Ch b7 v6.1 ar))then
     11
    else
     let bU:=b7.kind==3
     let aN:Int→Int:=fun fw=>
      bif(bU&&(fw != b7.n))then
       2
      else
       bif(((b7.kind==2)||(b7.kind==4))&&(b7.n != 0))then
        4
       else
        0
     bif bU then
      aN (Ce b7.n)
     else
      aN (0:Int)
def Ca(x0:aK)(ar:Attr)(b7:cP):Prop:=
 (((decide (b7.kind<1))||(decide (b7.kind>4)))=false→(
  let v6:=sG x0 b7.attr
  (yY x0 b7.attr)∧
  ((!v6.2)=false→(
   ((!v6.1.fC)=false→(
    B9 b7 v6.1 ar))))))
noncomputable def rh(x0:aK)(ar:Int):Int:=
 let v2:Command:=List.getD x0.commands (Int.toNat ar) (aA .Command)
 bif(!(ir v2.name))then
  10
 else
  let v5:=iL x0.commands none (some ar)
  let v6:Int:=(List.length v5:Int)
  Sum.elim (fun r=>r) (fun _=>
   let aN:Int:=
    let bz:Int:=(List.length v2.gi:Int)
    Sum.elim (fun r=>r) (fun _=>
     0)
    (bo (fun(i9:Nat) (_:Unit)=>
     show Step (Int) (Unit)from
     let v11:cP:=List.getD v2.gi (Int.toNat (i9:Int)) (aA .cP)
     let v12:=p5 x0 ⟨v2.param.name,v2.param.kind,v2.param.min,v2.param.max,v2.param.enum,v2.param.fC,v2.param.safety⟩ v11
     bif(v12 != 0)then
      .ret v12
     else
      .br ()) 0 (Int.toNat bz) ():Int⊕(Unit))
   bif(v2.param.kind==0)then
    bif(!(uv ⟨v2.param.name,v2.param.kind,v2.param.min,v2.param.max,v2.param.enum,v2.param.fC,v2.param.safety⟩))then
     4
    else
     aN
   else
    let bz:=kZ ⟨v2.param.name,v2.param.kind,v2.param.min,v2.param.max,v2.param.enum,v2.param.fC,v2.param.safety⟩
    bif(bz != 0)then
     bz
    else
     aN)
  (bo (fun(i7:Nat) (_:Unit)=>
   show Step (Int) (Unit)from
   bif(cN .eql ((List.getD v5 (Int.toNat (i7:Int)) (aA .Command)).name) v2.name)then
    .ret 9
   else
    .br ()) 0 (Int.toNat v6) ():Int⊕(Unit))
def Cb(x0:aK)(ar:Int):Prop:=
 let v2:Command:=List.getD x0.commands (Int.toNat ar) (aA .Command)
 (0≤ar∧ar<(List.length x0.commands:Int))∧
 (nI v2.name)∧
 ((!(ir v2.name))=false→(
  let v5:=iL x0.commands none (some ar)
  (ja (List.length x0.commands) none (some ar))∧
  let v6:Int:=(List.length v5:Int)
  let aX:Unit→Prop:=fun _=>
   let aN:Prop:=
    let bz:Int:=(List.length v2.gi:Int)
    ∃er:Nat→(Unit)→Prop,er 0 ()∧∀(i9:Nat) (d1:Unit),i9<Int.toNat bz→er i9 d1→(
     let v11:cP:=List.getD v2.gi (Int.toNat (i9:Int)) (aA .cP)
     let v12:=p5 x0 ⟨v2.param.name,v2.param.kind,v2.param.min,v2.param.max,v2.param.enum,v2.param.fC,v2.param.safety⟩ v11
     (Ca x0 ⟨v2.param.name,v2.param.kind,v2.param.min,v2.param.max,v2.param.enum,v2.param.fC,v2.param.safety⟩ v11)∧
     ((v12 != 0)=false→(
      er (i9+1) ())))
   ((v2.param.kind==0)=true→(
    ((!(uv ⟨v2.param.name,v2.param.kind,v2.param.min,v2.param.max,v2.param.enum,v2.param.fC,v2.param.safety⟩))=false→(
     aN))))∧((v2.param.kind==0)=false→(
    let bz:=kZ ⟨v2.param.name,v2.param.kind,v2.param.min,v2.param.max,v2.param.enum,v2.param.fC,v2.param.safety⟩
    (wj ⟨v2.param.name,v2.param.kind,v2.param.min,v2.param.max,v2.param.enum,v2.param.fC,v2.param.safety⟩)∧
    ((bz != 0)=false→(
     aN))))
  ∃bC:Nat→(Unit)→Prop,bC 0 ()∧(∀(i7:Nat) (d0:Unit),i7<Int.toNat v6→bC i7 d0→(
   ((cN .eql ((List.getD v5 (Int.toNat (i7:Int)) (aA .Command)).name) v2.name)=false→(
    bC (i7+1) ()))))∧∀bS,bC (Int.toNat v6) bS→aX bS))
noncomputable def p6(x0:aK):Int:=
 bif(!(ir x0.name))then
  10
 else
  bif(oL x0)then
   3
  else
   let v4:Int:=(List.length x0.attrs:Int)
   Sum.elim (fun r=>r) (fun _=>
    let v5:Int:=(List.length x0.commands:Int)
    Sum.elim (fun r=>r) (fun _=>
     let v6:Int:=(List.length x0.events:Int)
     Sum.elim (fun r=>r) (fun _=>
      0)
     (bo (fun(i7:Nat) (_:Unit)=>
      show Step (Int) (Unit)from
      let v9:ByteArray:=List.getD x0.events (Int.toNat (i7:Int)) (aA .str)
      bif(!(ir v9))then
       .ret 10
      else
       bif(iK (iL x0.events none (some (i7:Int))) v9)then
        .ret 9
       else
        .br ()) 0 (Int.toNat v6) ():Int⊕(Unit)))
    (bo (fun(i6:Nat) (_:Unit)=>
     show Step (Int) (Unit)from
     let bz:=rh x0 (i6:Int)
     bif(bz != 0)then
      .ret bz
     else
      .br ()) 0 (Int.toNat v5) ():Int⊕(Unit)))
   (bo (fun(i5:Nat) (_:Unit)=>
    show Step (Int) (Unit)from
    let bB:Attr:=List.getD x0.attrs (Int.toNat (i5:Int)) (aA .Attr)
    let bz:=kZ bB
    bif(bz != 0)then
     .ret bz
    else
     let v10:=iL x0.attrs none (some (i5:Int))
     let v11:Int:=(List.length v10:Int)
     Sum.elim (fun r=>r) (fun _=>
      .br ())
     (bo (fun(i12:Nat) (_:Unit)=>
      show Step (Step (Int) (Unit)) (Unit)from
      bif(cN .eql ((List.getD v10 (Int.toNat (i12:Int)) (aA .Attr)).name) bB.name)then
       .ret (.ret 9)
      else
       .br ()) 0 (Int.toNat v11) ():(Step (Int) (Unit))⊕(Unit))) 0 (Int.toNat v4) ():Int⊕(Unit))
def GB(x0:aK):Prop:=
 (nI x0.name)∧
 ((!(ir x0.name))=false→(
  ((oL x0)=false→(
   let v4:Int:=(List.length x0.attrs:Int)
   let aX:Unit→Prop:=fun _=>
    let v5:Int:=(List.length x0.commands:Int)
    let fy:Unit→Prop:=fun _=>
     let v6:Int:=(List.length x0.events:Int)
     ∃kE:Nat→(Unit)→Prop,kE 0 ()∧∀(i7:Nat) (d2:Unit),i7<Int.toNat v6→kE i7 d2→(
      let v9:ByteArray:=List.getD x0.events (Int.toNat (i7:Int)) (aA .str)
      (nI v9)∧
      ((!(ir v9))=false→(
       (ja (List.length x0.events) none (some (i7:Int)))∧
       ((iK (iL x0.events none (some (i7:Int))) v9)=false→(
        kE (i7+1) ())))))
    ∃er:Nat→(Unit)→Prop,er 0 ()∧(∀(i6:Nat) (d1:Unit),i6<Int.toNat v5→er i6 d1→(
     let bz:=rh x0 (i6:Int)
     (Cb x0 (i6:Int))∧
     ((bz != 0)=false→(
      er (i6+1) ()))))∧∀aW,er (Int.toNat v5) aW→fy aW
   ∃bC:Nat→(Unit)→Prop,bC 0 ()∧(∀(i5:Nat) (d0:Unit),i5<Int.toNat v4→bC i5 d0→(
    let bB:Attr:=List.getD x0.attrs (Int.toNat (i5:Int)) (aA .Attr)
    let bz:=kZ bB
    (wj bB)∧
    ((bz != 0)=false→(
     let v10:=iL x0.attrs none (some (i5:Int))
     (ja (List.length x0.attrs) none (some (i5:Int)))∧
     let v11:Int:=(List.length v10:Int)
     let k8:Unit→Prop:=fun _=>
      bC (i5+1) ()
     ∃mf:Nat→(Unit)→Prop,mf 0 ()∧(∀(i12:Nat) (d3:Unit),i12<Int.toNat v11→mf i12 d3→(
      ((cN .eql ((List.getD v10 (Int.toNat (i12:Int)) (aA .Attr)).name) bB.name)=false→(
       mf (i12+1) ()))))∧∀c8,mf (Int.toNat v11) c8→k8 c8))))∧∀bS,bC (Int.toNat v4) bS→aX bS))))
noncomputable def nK(x0:List aK):Int:=
 let v1:Int:=(List.length x0:Int)
 bif(decide (v1>256))then
  3
 else
  Sum.elim (fun r=>r) (fun _=>
   0)
  (bo (fun(i3:Nat) (_:Unit)=>
   show Step (Int) (Unit)from
   let v5:aK:=List.getD x0 (Int.toNat (i3:Int)) (aA .aK)
   let v6:=p6 v5
   bif(v6 != 0)then
    .ret v6
   else
    let bz:=iL x0 none (some (i3:Int))
    let v9:Int:=(List.length bz:Int)
    Sum.elim (fun r=>r) (fun _=>
     .br ())
    (bo (fun(i10:Nat) (_:Unit)=>
     show Step (Step (Int) (Unit)) (Unit)from
     bif(cN .eql ((List.getD bz (Int.toNat (i10:Int)) (aA .aK)).name) v5.name)then
      .ret (.ret 9)
     else
      .br ()) 0 (Int.toNat v9) ():(Step (Int) (Unit))⊕(Unit))) 0 (Int.toNat v1) ():Int⊕(Unit))
def GC(x0:List aK):Prop:=
 let v1:Int:=(List.length x0:Int)
 ((decide (v1>256))=false→(
  ∃bC:Nat→(Unit)→Prop,bC 0 ()∧∀(i3:Nat) (d0:Unit),i3<Int.toNat v1→bC i3 d0→(
   let v5:aK:=List.getD x0 (Int.toNat (i3:Int)) (aA .aK)
   let v6:=p6 v5
   (GB v5)∧
   ((v6 != 0)=false→(
    let bz:=iL x0 none (some (i3:Int))
    (ja (List.length x0) none (some (i3:Int)))∧
    let v9:Int:=(List.length bz:Int)
    let fy:Unit→Prop:=fun _=>
     bC (i3+1) ()
    ∃er:Nat→(Unit)→Prop,er 0 ()∧(∀(i10:Nat) (d1:Unit),i10<Int.toNat v9→er i10 d1→(
     ((cN .eql ((List.getD bz (Int.toNat (i10:Int)) (aA .aK)).name) v5.name)=false→(
      er (i10+1) ()))))∧∀aW,er (Int.toNat v9) aW→fy aW)))))
noncomputable def kC(x0:Home):(List (ByteArray × aK)):=
 let v2:Int:=(List.length x0.bq:Int)
 Sum.elim (fun r=>r) (fun bS=>
  bS)
 (bo (fun(i4:Nat) (aW:(List (ByteArray × aK)))=>
  show Step ((List (ByteArray × aK))) ((List (ByteArray × aK)))from
  let v6:aK:=List.getD x0.bq (Int.toNat (i4:Int)) (aA .aK)
  .br (sI (.str) aW v6.name v6)) 0 (Int.toNat v2) ([]:List (ByteArray × aK)):(List (ByteArray × aK))⊕((List (ByteArray × aK))))
noncomputable def wx(x0:bw):Bool:=
 bif((((decide (x0.id<1))||(decide (x0.id>250)))||(decide (x0.oM<0)))||(decide (x0.oM>255)))then
  false
 else
  bif x0.oN then
   ((decide (x0.k0≥4))&&(decide (x0.k0≤3600)))
  else
   (x0.k0==0)
noncomputable def sH(x0:bw)(ar:List (ByteArray × aK)):Int:=
 let v4:Int:=(List.length x0.bq:Int)
 bif((decide ((List.length x0.bq:Int)<1))||(decide (v4>4)))then
  3
 else
  Sum.elim (fun r=>r) (fun bS=>
   bif(decide (bS>24))then
    3
   else
    0)
  (bo (fun(i8:Nat) (aW:Int)=>
   show Step (Int) (Int)from
   let v10:ByteArray:=List.getD x0.bq (Int.toNat (i8:Int)) (aA .str)
   bif(!((jG (.str) ar v10).isSome))then
    .ret 8
   else
    bif(decide ((p3 x0.bq v10)<(i8:Int)))then
     .ret 9
    else
     .br (IntKind.wrap .i64 (aW+(List.length (((jG (.str) ar v10).getD (aA .aK)).attrs):Int)))) 0 (Int.toNat v4) 0:Int⊕(Int))
noncomputable def fT(x0:Home):Int:=
 let v1:=nK x0.bq
 bif(v1 != 0)then
  v1
 else
  let v3:Int:=(List.length x0.bm:Int)
  bif(decide (v3>20))then
   3
  else
   Sum.elim (fun r=>r) (fun _=>
    0)
   (bo (fun(i8:Nat) (aW:(List (Int × Bool)))=>
    show Step (Int) ((List (Int × Bool)))from
    let v10:bw:=List.getD x0.bm (Int.toNat (i8:Int)) (aA .bw)
    bif(!(wx v10))then
     .ret 2
    else
     bif((decide ((i8:Int)>0))&&(decide (v10.id≤((List.getD x0.bm (Int.toNat (IntKind.wrap .i64 ((i8:Int)-(1:Int)))) (aA .bw)).id))))then
      .ret 14
     else
      bif((jG (.int .u64) aW v10.hh).getD false)then
       .ret 9
      else
       bif(!(ir v10.room))then
        .ret 10
       else
        let v21:=sH v10 (kC x0)
        bif(v21 != 0)then
         .ret v21
        else
         .br (sI (.int .u64) aW v10.hh true)) 0 (Int.toNat v3) ([]:List (Int × Bool)):Int⊕((List (Int × Bool))))
def yZ(x0:Home):Prop:=
 let v1:=nK x0.bq
 (GC x0.bq)∧
 ((v1 != 0)=false→(
  let v3:Int:=(List.length x0.bm:Int)
  ((decide (v3>20))=false→(
   ∃bC:Nat→((List (Int × Bool)))→Prop,bC 0 ([]:List (Int × Bool))∧∀(i8:Nat) (d0:(List (Int × Bool))),i8<Int.toNat v3→bC i8 d0→(
    let v10:bw:=List.getD x0.bm (Int.toNat (i8:Int)) (aA .bw)
    ((!(wx v10))=false→(
     let bU:=decide ((i8:Int)>0)
     let fw:Int:=IntKind.wrap .i64 ((i8:Int)-(1:Int))
     (bU=true→0≤fw∧fw<(List.length x0.bm:Int))∧
     ((bU&&(decide (v10.id≤((List.getD x0.bm (Int.toNat fw) (aA .bw)).id))))=false→(
      (((jG (.int .u64) d0 v10.hh).getD false)=false→(
       (nI v10.room)∧
       ((!(ir v10.room))=false→(
        let v21:=sH v10 (kC x0)
        ((v21 != 0)=false→(
         bC (i8+1) (sI (.int .u64) d0 v10.hh true))))))))))))))))
noncomputable def mb(x0:bu):bu:=
 let bO:Int→ByteArray→ByteArray→ByteArray→Int→Int→ByteArray→ByteArray→bu:=fun v3 v4 v5 v6 bB bz v9 v10=>
  ⟨x0.kind,x0.dz,⟨v3,v4,v5⟩,v6,⟨bB,bz,v9⟩,v10⟩
 bif(x0.kind==1)then
  bO x0.key.dev x0.key.dm x0.key.attr (⟨#[]⟩:ByteArray) (0:Int) (0:Int) (⟨#[]⟩:ByteArray) (⟨#[]⟩:ByteArray)
 else
  bif(x0.kind==2)then
   bO x0.key.dev x0.key.dm x0.key.attr (⟨#[]⟩:ByteArray) x0.value.kind x0.value.n x0.value.s (⟨#[]⟩:ByteArray)
  else
   bif(x0.kind==3)then
    bO x0.key.dev x0.key.dm (⟨#[]⟩:ByteArray) x0.name x0.value.kind x0.value.n x0.value.s (⟨#[]⟩:ByteArray)
   else
    let aN:Bool→bu:=fun v4=>
     bif v4 then
      bO (0:Int) (⟨#[]⟩:ByteArray) (⟨#[]⟩:ByteArray) x0.name (0:Int) (0:Int) (⟨#[]⟩:ByteArray) (⟨#[]⟩:ByteArray)
     else
      bif(x0.kind==7)then
       bO (0:Int) (⟨#[]⟩:ByteArray) (⟨#[]⟩:ByteArray) (⟨#[]⟩:ByteArray) (0:Int) (0:Int) (⟨#[]⟩:ByteArray) x0.text
      else
       bO (0:Int) (⟨#[]⟩:ByteArray) (⟨#[]⟩:ByteArray) (⟨#[]⟩:ByteArray) (0:Int) (0:Int) (⟨#[]⟩:ByteArray) (⟨#[]⟩:ByteArray)
    let v4:=x0.kind==4
    bif v4 then
     aN v4
    else
     let v5:=x0.kind==5
     bif v5 then
      aN v5
     else
      aN (x0.kind==6)
noncomputable def ma(x0:Home)(ar:Int):bw × Bool:=
 bif((fT x0) != 0)then
  (⟨0,0,0,false,0,⟨#[]⟩,[]⟩,false)
 else
  let v4:Int:=(List.length x0.bm:Int)
  Sum.elim (fun r=>r) (fun _=>
   (⟨0,0,0,false,0,⟨#[]⟩,[]⟩,false))
  (bo (fun(i5:Nat) (_:Unit)=>
   show Step (bw × Bool) (Unit)from
   let bB:bw:=List.getD x0.bm (Int.toNat (i5:Int)) (aA .bw)
   bif(bB.id==ar)then
    .ret (bB,true)
   else
    .br ()) 0 (Int.toNat v4) ():(bw × Bool)⊕(Unit))
def y0(x0:Home)(_:Int):Prop:=
 yZ x0
noncomputable def uz(x0:Home)(ar:di):Attr × Bool:=
 let v2:=ma x0 ar.dev
 let aN:Int→Attr × Bool:=fun v6=>
  bif((!v2.2)||(decide (v6<0)))then
   (⟨⟨#[]⟩,0,0,0,[],false,false⟩,false)
  else
   let v10:aK:=(jG (.str) (kC x0) ar.dm).getD (aA .aK)
   let v11:=sG v10 ar.attr
   bif !v11.2 then
    (⟨⟨#[]⟩,0,0,0,[],false,false⟩,false)
   else
    (v11.1,true)
 bif !v2.2 then
  aN (0:Int)
 else
  aN (p3 v2.1.bq ar.dm)
def Co(x0:Home)(ar:di):Prop:=
 let v2:=ma x0 ar.dev
 (y0 x0 ar.dev)∧
 let aN:Int→Prop:=fun v6=>
  (((!v2.2)||(decide (v6<0)))=false→(
   let v10:aK:=(jG (.str) (kC x0) ar.dm).getD (aA .aK)
   let _:=sG v10 ar.attr
   yY v10 ar.attr))
 ((!v2.2)=true→(
  aN (0:Int)))∧((!v2.2)=false→(
  aN (p3 v2.1.bq ar.dm)))
noncomputable def CC(x0:Home)(ar:bu):Int:=
 let v2:=uz x0 ⟨ar.key.dev,ar.key.dm,ar.key.attr⟩
 bif !v2.2 then
  8
 else
  bif(ar.kind==1)then
   0
  else
   bif !v2.1.fC then
    24
   else
    (wq v2.1 ⟨ar.value.kind,ar.value.n,ar.value.s⟩)
def Cp(x0:Home)(ar:bu):Prop:=
 let v2:=uz x0 ⟨ar.key.dev,ar.key.dm,ar.key.attr⟩
 (Co x0 ⟨ar.key.dev,ar.key.dm,ar.key.attr⟩)∧
 ((!v2.2)=false→(
  ((ar.kind==1)=false→(
   ((!v2.1.fC)=false→(
    yX v2.1 ⟨ar.value.kind,ar.value.n,ar.value.s⟩))))))
noncomputable def rj(x0:Home)(ar:Int)(b7:ByteArray):aK × Bool:=
 let eD:Int→aK × Bool:=fun v3=>
  bif(!(decide (v3≥0)))then
   (⟨⟨#[]⟩,[],[],[]⟩,false)
  else
   let bO:Int→aK × Bool:=fun v6=>
    bif(decide (v6<0))then
     (⟨⟨#[]⟩,[],[],[]⟩,false)
    else
     let bz:aK:=List.getD x0.bq (Int.toNat v6) (aA .aK)
     (bz,true)
   let v6:Int:=(List.length x0.bq:Int)
   Sum.elim (fun r=>r) (fun _=>
    bO ((-1):Int))
   (bo (fun(i7:Nat) (_:Unit)=>
    show Step (aK × Bool) (Unit)from
    bif(cN .eql ((List.getD x0.bq (Int.toNat (i7:Int)) (aA .aK)).name) b7)then
     .ret (bO (i7:Int))
    else
     .br ()) 0 (Int.toNat v6) ():(aK × Bool)⊕(Unit))
 let v3:Int:=(List.length x0.bm:Int)
 Sum.elim (fun r=>r) (fun _=>
  eD ((-1):Int))
 (bo (fun(i4:Nat) (_:Unit)=>
  show Step (aK × Bool) (Unit)from
  let v6:bw:=List.getD x0.bm (Int.toNat (i4:Int)) (aA .bw)
  let bB:=v6.id==ar
  let aN:Bool→Step (aK × Bool) (Unit):=fun bz=>
   bif(bB&&bz)then
    .ret (eD (i4:Int))
   else
    .br ()
  bif bB then
   aN (iK v6.bq b7)
  else
   aN false) 0 (Int.toNat v3) ():(aK × Bool)⊕(Unit))
def GM(x0:Home)(ar:Int)(b7:ByteArray):Prop:=
 let eD:Int→Prop:=fun v3=>
  ((!(decide (v3≥0)))=false→(
   let bO:Int→Prop:=fun v6=>
    ((decide (v6<0))=false→(
     let _:aK:=List.getD x0.bq (Int.toNat v6) (aA .aK)
     0≤v6∧v6<(List.length x0.bq:Int)))
   let v6:Int:=(List.length x0.bq:Int)
   let aX:Unit→Prop:=fun _=>
    bO ((-1):Int)
   ∃bC:Nat→(Unit)→Prop,bC 0 ()∧(∀(i7:Nat) (d0:Unit),i7<Int.toNat v6→bC i7 d0→(
    ((cN .eql ((List.getD x0.bq (Int.toNat (i7:Int)) (aA .aK)).name) b7)=true→(
     bO (i7:Int)))∧((cN .eql ((List.getD x0.bq (Int.toNat (i7:Int)) (aA .aK)).name) b7)=false→(
     bC (i7+1) ()))))∧∀bS,bC (Int.toNat v6) bS→aX bS))
 let v3:Int:=(List.length x0.bm:Int)
 let fy:Unit→Prop:=fun _=>
  eD ((-1):Int)
 ∃er:Nat→(Unit)→Prop,er 0 ()∧(∀(i4:Nat) (d1:Unit),i4<Int.toNat v3→er i4 d1→(
  let v6:bw:=List.getD x0.bm (Int.toNat (i4:Int)) (aA .bw)
  let bB:=v6.id==ar
  let aN:Bool→Prop:=fun bz=>
   ((bB&&bz)=true→(
    eD (i4:Int)))∧((bB&&bz)=false→(
    er (i4+1) ()))
  (bB=true→(
   aN (iK v6.bq b7)))∧(bB=false→(
   aN false))))∧∀aW,er (Int.toNat v3) aW→fy aW
def Qy(x:List cP):List cP:=x
def B6(x:List cP):Prop:=x.length≤maxLen∧x.length*32≤140737488355328
noncomputable def zf(x0:aK)(ar:ByteArray):Command × Bool:=
 let v2:Int:=(List.length x0.commands:Int)
 Sum.elim (fun r=>r) (fun _=>
  (⟨⟨#[]⟩,⟨⟨#[]⟩,0,0,0,[],false,false⟩,[]⟩,false))
 (bo (fun(i3:Nat) (_:Unit)=>
  show Step (Command × Bool) (Unit)from
  let v5:Command:=List.getD x0.commands (Int.toNat (i3:Int)) (aA .Command)
  bif(cN .eql v5.name ar)then
   .ret (⟨v5.name,⟨v5.param.name,v5.param.kind,v5.param.min,v5.param.max,(C7 v5.param.enum),v5.param.fC,v5.param.safety⟩,(Qy v5.gi)⟩,true)
  else
   .br ()) 0 (Int.toNat v2) ():(Command × Bool)⊕(Unit))
def GN(x0:aK)(ar:ByteArray):Prop:=
 let v2:Int:=(List.length x0.commands:Int)
 ∃bC:Nat→(Unit)→Prop,bC 0 ()∧∀(i3:Nat) (d0:Unit),i3<Int.toNat v2→bC i3 d0→(
  let v5:Command:=List.getD x0.commands (Int.toNat (i3:Int)) (aA .Command)
  ((cN .eql v5.name ar)=true→(
   (wi v5.param.enum)∧
   B6 v5.gi))∧((cN .eql v5.name ar)=false→(
   bC (i3+1) ())))
noncomputable def CE(x0:Home)(ar:bu):Int:=
 let v2:=rj x0 ar.key.dev ar.key.dm
 bif !v2.2 then
  8
 else
  let v6:=zf v2.1 ar.name
  bif !v6.2 then
   8
  else
   bif(v6.1.param.kind != 0)then
    (wq ⟨v6.1.param.name,v6.1.param.kind,v6.1.param.min,v6.1.param.max,v6.1.param.enum,v6.1.param.fC,v6.1.param.safety⟩ ⟨ar.value.kind,ar.value.n,ar.value.s⟩)
   else
    bif(!(bif ar.value.kind==0 then bif ar.value.n==0 then dF ar.value.s (⟨#[]⟩:ByteArray)else false else false))then
     11
    else
     0
def GO(x0:Home)(ar:bu):Prop:=
 let v2:=rj x0 ar.key.dev ar.key.dm
 (GM x0 ar.key.dev ar.key.dm)∧
 ((!v2.2)=false→(
  let v6:=zf v2.1 ar.name
  (GN v2.1 ar.name)∧
  ((!v6.2)=false→(
   ((v6.1.param.kind != 0)=true→(
    yX ⟨v6.1.param.name,v6.1.param.kind,v6.1.param.min,v6.1.param.max,v6.1.param.enum,v6.1.param.fC,v6.1.param.safety⟩ ⟨ar.value.kind,ar.value.n,ar.value.s⟩))))))
noncomputable def zh(x0:Home)(ar:bu):Int:=
 let aN:Bool→Int:=fun v2=>
  bif v2 then
   (CC x0 ar)
  else
   bif(ar.kind==3)then
    (CE x0 ar)
   else
    bif(ar.kind==7)then
     bif(decide ((ByteArray.size ar.text:Int)>20000))then
      3
     else
      0
    else
     bif(!(ir ar.name))then
      10
     else
      0
 let v2:=ar.kind==1
 bif v2 then
  aN v2
 else
  aN (ar.kind==2)
def Cq(x0:Home)(ar:bu):Prop:=
 let aN:Bool→Prop:=fun v2=>
  (v2=true→(
   Cp x0 ar))∧(v2=false→(
   ((ar.kind==3)=true→(
    GO x0 ar))∧((ar.kind==3)=false→(
    ((ar.kind==7)=false→(
     nI ar.name))))))
 let v2:=ar.kind==1
 (v2=true→(
  aN v2))∧(v2=false→(
  aN (ar.kind==2)))
noncomputable def mM(x0:Home)(ar:bu):Int:=
 let bO:Int→Int:=fun v2=>
  v2
 let v2:=fT x0
 bif(v2 != 0)then
  bO v2
 else
  let v4:=wa ar
  bif(v4 != 0)then
   bO v4
  else
   let v6:=wb ar
   bif(v6 != 0)then
    bO v6
   else
    let aN:Int→Int:=fun bz=>
     bif(bz != 0)then
      bO bz
     else
      let v10:=zh x0 ar
      bif(v10 != 0)then
       bO v10
      else
       bO (0:Int)
    let bz:=mb ar
    let v9:=!(bif ar.kind==bz.kind then bif ar.dz==bz.dz then bif ar.key.dev==bz.key.dev then bif dF ar.key.dm bz.key.dm then bif dF ar.key.attr bz.key.attr then bif dF ar.name bz.name then bif ar.value.kind==bz.value.kind then bif ar.value.n==bz.value.n then bif dF ar.value.s bz.value.s then dF ar.text bz.text else false else false else false else false else false else false else false else false else false)
    bif v9 then
     aN (1:Int)
    else
     aN (0:Int)
def Cr(x0:Home)(ar:bu):Prop:=
 let v2:=fT x0
 (yZ x0)∧
 ((v2 != 0)=false→(
  let v4:=wa ar
  ((v4 != 0)=false→(
   let v6:=wb ar
   ((v6 != 0)=false→(
    let aN:Int→Prop:=fun bz=>
     ((bz != 0)=false→(
      let _:=zh x0 ar
      Cq x0 ar))
    let bz:=mb ar
    let v9:=!(bif ar.kind==bz.kind then bif ar.dz==bz.dz then bif ar.key.dev==bz.key.dev then bif dF ar.key.dm bz.key.dm then bif dF ar.key.attr bz.key.attr then bif dF ar.name bz.name then bif ar.value.kind==bz.value.kind then bif ar.value.n==bz.value.n then bif dF ar.value.s bz.value.s then dF ar.text bz.text else false else false else false else false else false else false else false else false else false)
    (v9=true→(
     aN (1:Int)))∧(v9=false→(
     aN (0:Int)))))))))
noncomputable def uu(x0:List ByteArray)(ar:ByteArray):Bool:=
 let v2:Int:=(List.length x0:Int)
 Sum.elim (fun r=>r) (fun _=>
  false)
 (bo (fun(i3:Nat) (_:Unit)=>
  show Step (Bool) (Unit)from
  bif(cN .eql (List.getD x0 (Int.toNat (i3:Int)) (aA .str)) ar)then
   .ret true
  else
   .br ()) 0 (Int.toNat v2) ():Bool⊕(Unit))
noncomputable def p4(x0:Attr):Int:=
 bif(!(jX x0.name))then
  10
 else
  bif((decide (x0.kind<1))||(decide (x0.kind>4)))then
   7
  else
   let aN:Int:=
    bif(x0.kind != 3)then
     bif(decide ((List.length x0.enum:Int)>0))then
      4
     else
      0
    else
     let v10:Int:=(List.length x0.enum:Int)
     bif((decide ((List.length x0.enum:Int)<1))||(decide (v10>64)))then
      3
     else
      Sum.elim (fun r=>r) (fun _=>
       0)
      (bo (fun(i13:Nat) (_:Unit)=>
       show Step (Int) (Unit)from
       bif(!(jX (List.getD x0.enum (Int.toNat (i13:Int)) (aA .str))))then
        .ret 10
       else
        bif(uu (iL x0.enum none (some (i13:Int))) (List.getD x0.enum (Int.toNat (i13:Int)) (aA .str)))then
         .ret 9
        else
         .br ()) 0 (Int.toNat v10) ():Int⊕(Unit))
   bif(x0.kind==2)then
    bif(((decide (x0.min<(-1099511627776)))||(decide (x0.max>1099511627776)))||(decide (x0.min>x0.max)))then
     2
    else
     aN
   else
    bif((x0.min != 0)||(x0.max != 0))then
     2
    else
     aN
def uy(x0:Attr):Prop:=
 (p1 x0.name)∧
 ((!(jX x0.name))=false→(
  (((decide (x0.kind<1))||(decide (x0.kind>4)))=false→(
   let aN:Prop:=
    ((x0.kind != 3)=false→(
     let v10:Int:=(List.length x0.enum:Int)
     (((decide ((List.length x0.enum:Int)<1))||(decide (v10>64)))=false→(
      ∃bC:Nat→(Unit)→Prop,bC 0 ()∧∀(i13:Nat) (d0:Unit),i13<Int.toNat v10→bC i13 d0→(
       let eT:ByteArray:=List.getD x0.enum (Int.toNat (i13:Int)) (aA .str)
       (p1 eT)∧
       ((!(jX eT))=false→(
        (ja (List.length x0.enum) none (some (i13:Int)))∧
        ((uu (iL x0.enum none (some (i13:Int))) (List.getD x0.enum (Int.toNat (i13:Int)) (aA .str)))=false→(
         bC (i13+1) ())))))))))
   ((x0.kind==2)=true→(
    ((((decide (x0.min<(-1099511627776)))||(decide (x0.max>1099511627776)))||(decide (x0.min>x0.max)))=false→(
     aN))))∧((x0.kind==2)=false→(
    (((x0.min != 0)||(x0.max != 0))=false→(
     aN))))))))
noncomputable def oK(x0:aK)(ar:ByteArray):Int:=
 let v2:Int:=(List.length x0.attrs:Int)
 Sum.elim (fun r=>r) (fun _=>
  (-1))
 (bo (fun(i3:Nat) (_:Unit)=>
  show Step (Int) (Unit)from
  bif(cN .eql ((List.getD x0.attrs (Int.toNat (i3:Int)) (aA .Attr)).name) ar)then
   .ret (i3:Int)
  else
   .br ()) 0 (Int.toNat v2) ():Int⊕(Unit))
noncomputable def y8(x0:aK):Bool:=
 let v3:Int:=(List.length x0.commands:Int)
 bif(((decide ((List.length x0.attrs:Int)>12))||(decide (v3>12)))||(decide ((List.length x0.events:Int)>12)))then
  true
 else
  Sum.elim (fun r=>r) (fun _=>
   false)
  (bo (fun(i9:Nat) (_:Unit)=>
   show Step (Bool) (Unit)from
   bif(decide ((List.length ((List.getD x0.commands (Int.toNat (i9:Int)) (aA .Command)).gi):Int)>12))then
    .ret true
   else
    .br ()) 0 (Int.toNat v3) ():Bool⊕(Unit))
noncomputable def y3(x0:List ByteArray)(ar:List ByteArray):Bool:=
 let v2:Int:=(List.length x0:Int)
 bif(v2 != (List.length ar:Int))then
  false
 else
  Sum.elim (fun r=>r) (fun _=>
   true)
  (bo (fun(i5:Nat) (_:Unit)=>
   show Step (Bool) (Unit)from
   bif(cN .neq (List.getD x0 (Int.toNat (i5:Int)) (aA .str)) (List.getD ar (Int.toNat (i5:Int)) (aA .str)))then
    .ret false
   else
    .br ()) 0 (Int.toNat v2) ():Bool⊕(Unit))
def Ct(x0:List ByteArray)(ar:List ByteArray):Prop:=
 let v2:Int:=(List.length x0:Int)
 ((v2 != (List.length ar:Int))=false→(
  ∃bC:Nat→(Unit)→Prop,bC 0 ()∧∀(i5:Nat) (d0:Unit),i5<Int.toNat v2→bC i5 d0→(
   (0≤(i5:Int)∧(i5:Int)<(List.length ar:Int))∧
   ((cN .neq (List.getD x0 (Int.toNat (i5:Int)) (aA .str)) (List.getD ar (Int.toNat (i5:Int)) (aA .str)))=false→(
    bC (i5+1) ())))))
noncomputable def y5(x0:Attr)(ar:Attr):Bool:=
 let bz:Bool:=(((cN .eql x0.name ar.name)&&(x0.kind==ar.kind))&&(x0.min==ar.min))&&(x0.max==ar.max)
 let aN:Bool→Bool:=fun v9=>
  (((bz&&v9)&&(cD.den (.nN false) x0.fC ar.fC))&&(cD.den (.nN false) x0.safety ar.safety))
 bif bz then
  aN (y3 x0.enum ar.enum)
 else
  aN false
def GQ(x0:Attr)(ar:Attr):Prop:=
 let bz:Bool:=(((cN .eql x0.name ar.name)&&(x0.kind==ar.kind))&&(x0.min==ar.min))&&(x0.max==ar.max)
 (bz=true→(
  Ct x0.enum ar.enum))
noncomputable def uw(x0:aK)(ar:ByteArray):Attr × Bool:=
 let v2:=oK x0 ar
 bif(decide (v2<0))then
  (⟨⟨#[]⟩,0,0,0,[],false,false⟩,false)
 else
  let v4:Attr:=List.getD x0.attrs (Int.toNat v2) (aA .Attr)
  (v4,true)
def Cu(x0:aK)(ar:ByteArray):Prop:=
 let v2:=oK x0 ar
 ((decide (v2<0))=false→(
  let _:Attr:=List.getD x0.attrs (Int.toNat v2) (aA .Attr)
  0≤v2∧v2<(List.length x0.attrs:Int)))
noncomputable def wo(x0:Attr)(ar:cf):Int:=
 bif((p4 x0) != 0)then
  (p4 x0)
 else
  bif((pS ar) != 0)then
   (pS ar)
  else
   bif(ar.kind != x0.kind)then
    11
   else
    bif(((ar.kind==2)&&((decide (ar.n<x0.min))||(decide (ar.n>x0.max))))||((ar.kind==3)&&(decide (ar.n≥(List.length x0.enum:Int)))))then
     2
    else
     0
def zc(x0:Attr)(_:cf):Prop:=
 (uy x0)∧
 (((p4 x0) != 0)=true→(
  uy x0))
noncomputable def Cg(x0:cP)(ar:Attr)(b7:Attr):Bool:=
 bif(x0.kind==1)then
  let v4:=ar.kind != 4
  let aN:Int→Bool:=fun v5=>
   (v4&&(v5==0))
  bif v4 then
   aN (wo ar ⟨ar.kind,x0.n,⟨#[]⟩⟩)
  else
   aN (0:Int)
 else
  bif(x0.kind==2)then
   let v5:=b7.kind==ar.kind
   let aN:Bool→Bool:=fun v6=>
    (v5&&v6)
   bif v5 then
    aN (y3 b7.enum ar.enum)
   else
    aN false
  else
   bif(x0.kind==3)then
    (ar.kind==2)
   else
    (ar.kind==1)
def Cv(x0:cP)(ar:Attr)(b7:Attr):Prop:=
 ((x0.kind==1)=true→(
  let v4:=ar.kind != 4
  (v4=true→(
   zc ar ⟨ar.kind,x0.n,⟨#[]⟩⟩))))∧((x0.kind==1)=false→(
  ((x0.kind==2)=true→(
   let v5:=b7.kind==ar.kind
   (v5=true→(
    Ct b7.enum ar.enum))))))
noncomputable def y6(x0:aK)(ar:Attr)(b7:cP):Int:=
 bif((decide (b7.kind<1))||(decide (b7.kind>4)))then
  7
 else
  let v6:=uw x0 b7.attr
  bif !v6.2 then
   8
  else
   bif !v6.1.fC then
    24
   else
    bif(!(Cg b7 v6.1 ar))then
     11
    else
     bif((b7.kind==3)&&((decide (b7.n<(-1099511627776)))||(decide (b7.n>1099511627776))))then
      2
     else
      bif(((b7.kind==2)||(b7.kind==4))&&(b7.n != 0))then
       4
      else
       0
def Cw(x0:aK)(ar:Attr)(b7:cP):Prop:=
 (((decide (b7.kind<1))||(decide (b7.kind>4)))=false→(
  let v6:=uw x0 b7.attr
  (Cu x0 b7.attr)∧
  ((!v6.2)=false→(
   ((!v6.1.fC)=false→(
    Cv b7 v6.1 ar))))))
noncomputable def y7(x0:aK)(ar:Int):Int:=
 let v2:Command:=List.getD x0.commands (Int.toNat ar) (aA .Command)
 bif(!(jX v2.name))then
  10
 else
  Sum.elim (fun r=>r) (fun _=>
   let aN:Int:=
    let v6:Int:=(List.length v2.gi:Int)
    Sum.elim (fun r=>r) (fun _=>
     0)
    (bo (fun(i7:Nat) (_:Unit)=>
     show Step (Int) (Unit)from
     let v9:cP:=List.getD v2.gi (Int.toNat (i7:Int)) (aA .cP)
     let v10:=y6 x0 ⟨v2.param.name,v2.param.kind,v2.param.min,v2.param.max,v2.param.enum,v2.param.fC,v2.param.safety⟩ v9
     bif(v10 != 0)then
      .ret v10
     else
      .br ()) 0 (Int.toNat v6) ():Int⊕(Unit))
   bif(v2.param.kind==0)then
    bif(!(y5 ⟨v2.param.name,v2.param.kind,v2.param.min,v2.param.max,v2.param.enum,v2.param.fC,v2.param.safety⟩ ⟨⟨#[]⟩,0,0,0,[],false,false⟩))then
     4
    else
     aN
   else
    let v6:=p4 ⟨v2.param.name,v2.param.kind,v2.param.min,v2.param.max,v2.param.enum,v2.param.fC,v2.param.safety⟩
    bif(v6 != 0)then
     v6
    else
     aN)
  (bo (fun(i5:Nat) (_:Unit)=>
   show Step (Int) (Unit)from
   bif(cN .eql ((List.getD x0.commands (Int.toNat (i5:Int)) (aA .Command)).name) v2.name)then
    .ret 9
   else
    .br ()) 0 (Int.toNat ar) ():Int⊕(Unit))
def GU(x0:aK)(ar:Int):Prop:=
 let v2:Command:=List.getD x0.commands (Int.toNat ar) (aA .Command)
 (0≤ar∧ar<(List.length x0.commands:Int))∧
 (p1 v2.name)∧
 ((!(jX v2.name))=false→(
  (0≤ar∧ar<(9223372036854775808:Int))∧
  let aX:Unit→Prop:=fun _=>
   let aN:Prop:=
    let v6:Int:=(List.length v2.gi:Int)
    ∃er:Nat→(Unit)→Prop,er 0 ()∧∀(i7:Nat) (d1:Unit),i7<Int.toNat v6→er i7 d1→(
     let v9:cP:=List.getD v2.gi (Int.toNat (i7:Int)) (aA .cP)
     let v10:=y6 x0 ⟨v2.param.name,v2.param.kind,v2.param.min,v2.param.max,v2.param.enum,v2.param.fC,v2.param.safety⟩ v9
     (Cw x0 ⟨v2.param.name,v2.param.kind,v2.param.min,v2.param.max,v2.param.enum,v2.param.fC,v2.param.safety⟩ v9)∧
     ((v10 != 0)=false→(
      er (i7+1) ())))
   ((v2.param.kind==0)=true→(
    (GQ ⟨v2.param.name,v2.param.kind,v2.param.min,v2.param.max,v2.param.enum,v2.param.fC,v2.param.safety⟩ ⟨⟨#[]⟩,0,0,0,[],false,false⟩)∧
    ((!(y5 ⟨v2.param.name,v2.param.kind,v2.param.min,v2.param.max,v2.param.enum,v2.param.fC,v2.param.safety⟩ ⟨⟨#[]⟩,0,0,0,[],false,false⟩))=false→(
     aN))))∧((v2.param.kind==0)=false→(
    let v6:=p4 ⟨v2.param.name,v2.param.kind,v2.param.min,v2.param.max,v2.param.enum,v2.param.fC,v2.param.safety⟩
    (uy ⟨v2.param.name,v2.param.kind,v2.param.min,v2.param.max,v2.param.enum,v2.param.fC,v2.param.safety⟩)∧
    ((v6 != 0)=false→(
     aN))))
  ∃bC:Nat→(Unit)→Prop,bC 0 ()∧(∀(i5:Nat) (d0:Unit),i5<Int.toNat ar→bC i5 d0→(
   (0≤(i5:Int)∧(i5:Int)<(List.length x0.commands:Int))∧
   ((cN .eql ((List.getD x0.commands (Int.toNat (i5:Int)) (aA .Command)).name) v2.name)=false→(
    bC (i5+1) ()))))∧∀bS,bC (Int.toNat ar) bS→aX bS))
noncomputable def y9(x0:aK):Int:=
 bif(!(jX x0.name))then
  10
 else
  bif(y8 x0)then
   3
  else
   let v4:Int:=(List.length x0.attrs:Int)
   Sum.elim (fun r=>r) (fun _=>
    let v5:Int:=(List.length x0.commands:Int)
    Sum.elim (fun r=>r) (fun _=>
     let v6:Int:=(List.length x0.events:Int)
     Sum.elim (fun r=>r) (fun _=>
      0)
     (bo (fun(i7:Nat) (_:Unit)=>
      show Step (Int) (Unit)from
      bif(!(jX (List.getD x0.events (Int.toNat (i7:Int)) (aA .str))))then
       .ret 10
      else
       Sum.elim (fun r=>r) (fun _=>
        .br ())
       (bo (fun(i12:Nat) (_:Unit)=>
        show Step (Step (Int) (Unit)) (Unit)from
        bif(cN .eql (List.getD x0.events (Int.toNat (i12:Int)) (aA .str)) (List.getD x0.events (Int.toNat (i7:Int)) (aA .str)))then
         .ret (.ret 9)
        else
         .br ()) 0 (Int.toNat (i7:Int)) ():(Step (Int) (Unit))⊕(Unit))) 0 (Int.toNat v6) ():Int⊕(Unit)))
    (bo (fun(i6:Nat) (_:Unit)=>
     show Step (Int) (Unit)from
     let bz:=y7 x0 (i6:Int)
     bif(bz != 0)then
      .ret bz
     else
      .br ()) 0 (Int.toNat v5) ():Int⊕(Unit)))
   (bo (fun(i5:Nat) (_:Unit)=>
    show Step (Int) (Unit)from
    let bB:Attr:=List.getD x0.attrs (Int.toNat (i5:Int)) (aA .Attr)
    let bz:=p4 bB
    bif(bz != 0)then
     .ret bz
    else
     bif(decide ((oK x0 ((List.getD x0.attrs (Int.toNat (i5:Int)) (aA .Attr)).name))<(i5:Int)))then
      .ret 9
     else
      .br ()) 0 (Int.toNat v4) ():Int⊕(Unit))
def GV(x0:aK):Prop:=
 (p1 x0.name)∧
 ((!(jX x0.name))=false→(
  ((y8 x0)=false→(
   let v4:Int:=(List.length x0.attrs:Int)
   let aX:Unit→Prop:=fun _=>
    let v5:Int:=(List.length x0.commands:Int)
    let fy:Unit→Prop:=fun _=>
     let v6:Int:=(List.length x0.events:Int)
     ∃kE:Nat→(Unit)→Prop,kE 0 ()∧∀(i7:Nat) (d2:Unit),i7<Int.toNat v6→kE i7 d2→(
      let v9:ByteArray:=List.getD x0.events (Int.toNat (i7:Int)) (aA .str)
      (p1 v9)∧
      ((!(jX v9))=false→(
       (0≤(i7:Int)∧(i7:Int)<(9223372036854775808:Int))∧
       let k8:Unit→Prop:=fun _=>
        kE (i7+1) ()
       ∃mf:Nat→(Unit)→Prop,mf 0 ()∧(∀(i12:Nat) (d3:Unit),i12<Int.toNat (i7:Int)→mf i12 d3→(
        (0≤(i12:Int)∧(i12:Int)<(List.length x0.events:Int))∧
        ((cN .eql (List.getD x0.events (Int.toNat (i12:Int)) (aA .str)) (List.getD x0.events (Int.toNat (i7:Int)) (aA .str)))=false→(
         mf (i12+1) ()))))∧∀c8,mf (Int.toNat (i7:Int)) c8→k8 c8)))
    ∃er:Nat→(Unit)→Prop,er 0 ()∧(∀(i6:Nat) (d1:Unit),i6<Int.toNat v5→er i6 d1→(
     let bz:=y7 x0 (i6:Int)
     (GU x0 (i6:Int))∧
     ((bz != 0)=false→(
      er (i6+1) ()))))∧∀aW,er (Int.toNat v5) aW→fy aW
   ∃bC:Nat→(Unit)→Prop,bC 0 ()∧(∀(i5:Nat) (d0:Unit),i5<Int.toNat v4→bC i5 d0→(
    let bB:Attr:=List.getD x0.attrs (Int.toNat (i5:Int)) (aA .Attr)
    let bz:=p4 bB
    (uy bB)∧
    ((bz != 0)=false→(
     ((decide ((oK x0 ((List.getD x0.attrs (Int.toNat (i5:Int)) (aA .Attr)).name))<(i5:Int)))=false→(
      bC (i5+1) ()))))))∧∀bS,bC (Int.toNat v4) bS→aX bS))))
noncomputable def za(x0:List aK):Int:=
 let v1:Int:=(List.length x0:Int)
 bif(decide (v1>256))then
  3
 else
  Sum.elim (fun r=>r) (fun _=>
   0)
  (bo (fun(i3:Nat) (_:Unit)=>
   show Step (Int) (Unit)from
   let v5:aK:=List.getD x0 (Int.toNat (i3:Int)) (aA .aK)
   let v6:=y9 v5
   bif(v6 != 0)then
    .ret v6
   else
    Sum.elim (fun r=>r) (fun _=>
     .br ())
    (bo (fun(i8:Nat) (_:Unit)=>
     show Step (Step (Int) (Unit)) (Unit)from
     bif(cN .eql ((List.getD x0 (Int.toNat (i8:Int)) (aA .aK)).name) ((List.getD x0 (Int.toNat (i3:Int)) (aA .aK)).name))then
      .ret (.ret 9)
     else
      .br ()) 0 (Int.toNat (i3:Int)) ():(Step (Int) (Unit))⊕(Unit))) 0 (Int.toNat v1) ():Int⊕(Unit))
def GX(x0:List aK):Prop:=
 let v1:Int:=(List.length x0:Int)
 ((decide (v1>256))=false→(
  ∃bC:Nat→(Unit)→Prop,bC 0 ()∧∀(i3:Nat) (d0:Unit),i3<Int.toNat v1→bC i3 d0→(
   let v5:aK:=List.getD x0 (Int.toNat (i3:Int)) (aA .aK)
   let v6:=y9 v5
   (GV v5)∧
   ((v6 != 0)=false→(
    (0≤(i3:Int)∧(i3:Int)<(9223372036854775808:Int))∧
    let fy:Unit→Prop:=fun _=>
     bC (i3+1) ()
    ∃er:Nat→(Unit)→Prop,er 0 ()∧(∀(i8:Nat) (d1:Unit),i8<Int.toNat (i3:Int)→er i8 d1→(
     (0≤(i8:Int)∧(i8:Int)<(List.length x0:Int))∧
     ((cN .eql ((List.getD x0 (Int.toNat (i8:Int)) (aA .aK)).name) ((List.getD x0 (Int.toNat (i3:Int)) (aA .aK)).name))=false→(
      er (i8+1) ()))))∧∀aW,er (Int.toNat (i3:Int)) aW→fy aW)))))
noncomputable def rf(x0:List ByteArray)(ar:ByteArray):Int:=
 let v2:Int:=(List.length x0:Int)
 Sum.elim (fun r=>r) (fun _=>
  (-1))
 (bo (fun(i3:Nat) (_:Unit)=>
  show Step (Int) (Unit)from
  bif(cN .eql (List.getD x0 (Int.toNat (i3:Int)) (aA .str)) ar)then
   .ret (i3:Int)
  else
   .br ()) 0 (Int.toNat v2) ():Int⊕(Unit))
noncomputable def lE(x0:Home)(ar:ByteArray):Int:=
 let v2:Int:=(List.length x0.bq:Int)
 Sum.elim (fun r=>r) (fun _=>
  (-1))
 (bo (fun(i3:Nat) (_:Unit)=>
  show Step (Int) (Unit)from
  bif(cN .eql ((List.getD x0.bq (Int.toNat (i3:Int)) (aA .aK)).name) ar)then
   .ret (i3:Int)
  else
   .br ()) 0 (Int.toNat v2) ():Int⊕(Unit))
def Cx(x0:Home)(_:ByteArray):Prop:=
 let v2:Int:=(List.length x0.bq:Int)
 0≤v2∧v2<(9223372036854775808:Int)
noncomputable def ri(x0:Home)(ar:bw):Int:=
 let v4:Int:=(List.length ar.bq:Int)
 bif((decide ((List.length ar.bq:Int)<1))||(decide (v4>4)))then
  3
 else
  Sum.elim (fun r=>r) (fun bS=>
   bif(decide (bS>24))then
    3
   else
    0)
  (bo (fun(i8:Nat) (aW:Int)=>
   show Step (Int) (Int)from
   let v11:=lE x0 (List.getD ar.bq (Int.toNat (i8:Int)) (aA .str))
   bif(decide (v11<0))then
    .ret 8
   else
    bif(decide ((rf ar.bq (List.getD ar.bq (Int.toNat (i8:Int)) (aA .str)))<(i8:Int)))then
     .ret 9
    else
     .br (IntKind.wrap .i64 (aW+(List.length ((List.getD x0.bq (Int.toNat v11) (aA .aK)).attrs):Int)))) 0 (Int.toNat v4) 0:Int⊕(Int))
def GY(x0:Home)(ar:bw):Prop:=
 let v4:Int:=(List.length ar.bq:Int)
 (((decide ((List.length ar.bq:Int)<1))||(decide (v4>4)))=false→(
  ∃bC:Nat→(Int)→Prop,bC 0 0∧∀(i8:Nat) (d0:Int),i8<Int.toNat v4→bC i8 d0→(
   let v10:ByteArray:=List.getD ar.bq (Int.toNat (i8:Int)) (aA .str)
   let v11:=lE x0 v10
   (Cx x0 v10)∧
   ((decide (v11<0))=false→(
    ((decide ((rf ar.bq (List.getD ar.bq (Int.toNat (i8:Int)) (aA .str)))<(i8:Int)))=false→(
     (0≤v11∧v11<(List.length x0.bq:Int))∧
     bC (i8+1) (IntKind.wrap .i64 (d0+(List.length ((List.getD x0.bq (Int.toNat v11) (aA .aK)).attrs):Int))))))))))
noncomputable def p9(x0:Home)(ar:Int):Int:=
 let v2:bw:=List.getD x0.bm (Int.toNat ar) (aA .bw)
 let eb:Bool:=(((((decide (v2.id<1))||(decide (v2.id>250)))||(decide (v2.oM<0)))||(decide (v2.oM>255)))||((!v2.oN)&&(v2.k0 != 0)))||(v2.oN&&((decide (v2.k0<4))||(decide (v2.k0>3600))))
 bif eb then
  2
 else
  bif((decide (ar>0))&&(decide (((List.getD x0.bm (Int.toNat (IntKind.wrap .i64 (ar-(1:Int)))) (aA .bw)).id)≥v2.id)))then
   14
  else
   Sum.elim (fun r=>r) (fun _=>
    bif(!(jX v2.room))then
     10
    else
     (ri x0 v2))
   (bo (fun(i24:Nat) (_:Unit)=>
    show Step (Int) (Unit)from
    bif(((List.getD x0.bm (Int.toNat (i24:Int)) (aA .bw)).hh)==v2.hh)then
     .ret 9
    else
     .br ()) 0 (Int.toNat ar) ():Int⊕(Unit))
def GZ(x0:Home)(ar:Int):Prop:=
 let v2:bw:=List.getD x0.bm (Int.toNat ar) (aA .bw)
 (0≤ar∧ar<(List.length x0.bm:Int))∧
 let eb:Bool:=(((((decide (v2.id<1))||(decide (v2.id>250)))||(decide (v2.oM<0)))||(decide (v2.oM>255)))||((!v2.oN)&&(v2.k0 != 0)))||(v2.oN&&((decide (v2.k0<4))||(decide (v2.k0>3600))))
 (eb=false→(
  let b8:=decide (ar>0)
  let v20:Int:=IntKind.wrap .i64 (ar-(1:Int))
  (b8=true→0≤v20∧v20<(List.length x0.bm:Int))∧
  ((b8&&(decide (((List.getD x0.bm (Int.toNat v20) (aA .bw)).id)≥v2.id)))=false→(
   (0≤ar∧ar<(9223372036854775808:Int))∧
   let aX:Unit→Prop:=fun _=>
    (p1 v2.room)∧
    ((!(jX v2.room))=false→(
     GY x0 v2))
   ∃bC:Nat→(Unit)→Prop,bC 0 ()∧(∀(i24:Nat) (d0:Unit),i24<Int.toNat ar→bC i24 d0→(
    (0≤(i24:Int)∧(i24:Int)<(List.length x0.bm:Int))∧
    ((((List.getD x0.bm (Int.toNat (i24:Int)) (aA .bw)).hh)==v2.hh)=false→(
     bC (i24+1) ()))))∧∀bS,bC (Int.toNat ar) bS→aX bS))))
noncomputable def p8(x0:Home):Int:=
 let v1:=za x0.bq
 bif(v1 != 0)then
  v1
 else
  let v3:Int:=(List.length x0.bm:Int)
  bif(decide (v3>20))then
   3
  else
   Sum.elim (fun r=>r) (fun _=>
    0)
   (bo (fun(i5:Nat) (_:Unit)=>
    show Step (Int) (Unit)from
    let bB:=p9 x0 (i5:Int)
    bif(bB != 0)then
     .ret bB
    else
     .br ()) 0 (Int.toNat v3) ():Int⊕(Unit))
def Cy(x0:Home):Prop:=
 let v1:=za x0.bq
 (GX x0.bq)∧
 ((v1 != 0)=false→(
  let v3:Int:=(List.length x0.bm:Int)
  ((decide (v3>20))=false→(
   ∃bC:Nat→(Unit)→Prop,bC 0 ()∧∀(i5:Nat) (d0:Unit),i5<Int.toNat v3→bC i5 d0→(
    let bB:=p9 x0 (i5:Int)
    (GZ x0 (i5:Int))∧
    ((bB != 0)=false→(
     bC (i5+1) ())))))))
noncomputable def wz(x0:bu):Bool:=
 let v3:Bool:=(x0.kind==1)||(x0.kind==2)
 let v12:Bool:=((!v3)&&(cN .neq x0.key.attr (⟨#[]⟩:ByteArray)))||(((!v3)&&(x0.kind != 3))&&(!(bif x0.key.dev==0 then bif dF x0.key.dm (⟨#[]⟩:ByteArray)then dF x0.key.attr (⟨#[]⟩:ByteArray)else false else false)))
 bif v12 then
  false
 else
  let zaV:Bool:=(((((x0.kind==3)||(x0.kind==4))||(x0.kind==5))||(x0.kind==6))||(cN .eql x0.name (⟨#[]⟩:ByteArray)))&&(((x0.kind==2)||(x0.kind==3))||(bif x0.value.kind==0 then bif x0.value.n==0 then dF x0.value.s (⟨#[]⟩:ByteArray)else false else false))
  (zaV&&((x0.kind==7)||(cN .eql x0.text (⟨#[]⟩:ByteArray))))
noncomputable def qa(x0:Home)(ar:Int):Int:=
 let v2:Int:=(List.length x0.bm:Int)
 Sum.elim (fun r=>r) (fun _=>
  (-1))
 (bo (fun(i3:Nat) (_:Unit)=>
  show Step (Int) (Unit)from
  bif(((List.getD x0.bm (Int.toNat (i3:Int)) (aA .bw)).id)==ar)then
   .ret (i3:Int)
  else
   .br ()) 0 (Int.toNat v2) ():Int⊕(Unit))
def Qz(x0:Home)(_:Int):Prop:=
 let v2:Int:=(List.length x0.bm:Int)
 0≤v2∧v2<(9223372036854775808:Int)
noncomputable def sK(x0:Home)(ar:Int)(b7:ByteArray):aK × Bool:=
 let v3:=qa x0 ar
 let v4:=decide (v3<0)
 let aN:Int→aK × Bool:=fun v5=>
  let bB:Bool:=v4||(v5 != 0)
  let aN:Int→aK × Bool:=fun v9=>
   bif(bB||(decide (v9<0)))then
    (⟨⟨#[]⟩,[],[],[]⟩,false)
   else
    let bU:aK:=List.getD x0.bq (Int.toNat (lE x0 b7)) (aA .aK)
    (bU,true)
  bif bB then
   aN (0:Int)
  else
   aN (rf ((List.getD x0.bm (Int.toNat v3) (aA .bw)).bq) b7)
 bif v4 then
  aN (0:Int)
 else
  aN (p8 x0)
def Cz(x0:Home)(ar:Int)(b7:ByteArray):Prop:=
 let v3:=qa x0 ar
 (Qz x0 ar)∧
 let v4:=decide (v3<0)
 let aN:Int→Prop:=fun v5=>
  let bB:Bool:=v4||(v5 != 0)
  (bB=false→0≤v3∧v3<(List.length x0.bm:Int))∧
  let aN:Int→Prop:=fun v9=>
   ((bB||(decide (v9<0)))=false→(
    let v12:=lE x0 b7
    (Cx x0 b7)∧
    let _:aK:=List.getD x0.bq (Int.toNat v12) (aA .aK)
    0≤v12∧v12<(List.length x0.bq:Int)))
  (bB=true→(
   aN (0:Int)))∧(bB=false→(
   aN (rf ((List.getD x0.bm (Int.toNat v3) (aA .bw)).bq) b7)))
 (v4=true→(
  aN (0:Int)))∧(v4=false→(
  (Cy x0)∧
  aN (p8 x0)))
noncomputable def zd(x0:Home)(ar:di):Attr × Bool:=
 let v2:=sK x0 ar.dev ar.dm
 bif !v2.2 then
  (⟨⟨#[]⟩,0,0,0,[],false,false⟩,false)
 else
  let v6:=uw v2.1 ar.attr
  (v6.1,v6.2)
def G5(x0:Home)(ar:di):Prop:=
 let v2:=sK x0 ar.dev ar.dm
 (Cz x0 ar.dev ar.dm)∧
 ((!v2.2)=false→(
  let _:=uw v2.1 ar.attr
  Cu v2.1 ar.attr))
noncomputable def CB(x0:Home)(ar:bu):Int:=
 let v2:=zd x0 ⟨ar.key.dev,ar.key.dm,ar.key.attr⟩
 bif !v2.2 then
  8
 else
  bif(ar.kind==1)then
   0
  else
   bif !v2.1.fC then
    24
   else
    (wo v2.1 ⟨ar.value.kind,ar.value.n,ar.value.s⟩)
def G6(x0:Home)(ar:bu):Prop:=
 let v2:=zd x0 ⟨ar.key.dev,ar.key.dm,ar.key.attr⟩
 (G5 x0 ⟨ar.key.dev,ar.key.dm,ar.key.attr⟩)∧
 ((!v2.2)=false→(
  ((ar.kind==1)=false→(
   ((!v2.1.fC)=false→(
    zc v2.1 ⟨ar.value.kind,ar.value.n,ar.value.s⟩))))))
noncomputable def ze(x0:aK)(ar:ByteArray):Command × Bool:=
 let v2:Int:=(List.length x0.commands:Int)
 Sum.elim (fun r=>r) (fun _=>
  (⟨⟨#[]⟩,⟨⟨#[]⟩,0,0,0,[],false,false⟩,[]⟩,false))
 (bo (fun(i3:Nat) (_:Unit)=>
  show Step (Command × Bool) (Unit)from
  bif(cN .eql ((List.getD x0.commands (Int.toNat (i3:Int)) (aA .Command)).name) ar)then
   let bB:Command:=List.getD x0.commands (Int.toNat (i3:Int)) (aA .Command)
   .ret (bB,true)
  else
   .br ()) 0 (Int.toNat v2) ():(Command × Bool)⊕(Unit))
noncomputable def CD(x0:Home)(ar:bu):Int:=
 let v2:=sK x0 ar.key.dev ar.key.dm
 bif !v2.2 then
  8
 else
  let v6:=ze v2.1 ar.name
  bif !v6.2 then
   8
  else
   bif(v6.1.param.kind != 0)then
    (wo ⟨v6.1.param.name,v6.1.param.kind,v6.1.param.min,v6.1.param.max,v6.1.param.enum,v6.1.param.fC,v6.1.param.safety⟩ ⟨ar.value.kind,ar.value.n,ar.value.s⟩)
   else
    bif(!(bif ar.value.kind==0 then bif ar.value.n==0 then dF ar.value.s (⟨#[]⟩:ByteArray)else false else false))then
     11
    else
     0
def G7(x0:Home)(ar:bu):Prop:=
 let v2:=sK x0 ar.key.dev ar.key.dm
 (Cz x0 ar.key.dev ar.key.dm)∧
 ((!v2.2)=false→(
  let v6:=ze v2.1 ar.name
  ((!v6.2)=false→(
   ((v6.1.param.kind != 0)=true→(
    zc ⟨v6.1.param.name,v6.1.param.kind,v6.1.param.min,v6.1.param.max,v6.1.param.enum,v6.1.param.fC,v6.1.param.safety⟩ ⟨ar.value.kind,ar.value.n,ar.value.s⟩))))))
noncomputable def zg(x0:Home)(ar:bu):Int:=
 let v2:=p8 x0
 bif(v2 != 0)then
  v2
 else
  bif((decide (ar.kind<1))||(decide (ar.kind>7)))then
   7
  else
   bif((decide (ar.dz<0))||(decide (ar.dz>1099511627776)))then
    2
   else
    bif(!(wz ar))then
     1
    else
     let aN:Bool→Int:=fun v12=>
      bif v12 then
       (CB x0 ar)
      else
       bif(ar.kind==3)then
        (CD x0 ar)
       else
        bif(ar.kind==7)then
         bif(decide ((ByteArray.size ar.text:Int)>20000))then
          3
         else
          0
        else
         bif(!(jX ar.name))then
          10
         else
          0
     let v12:=ar.kind==1
     bif v12 then
      aN v12
     else
      aN (ar.kind==2)
def CA(x0:Home)(ar:bu):Prop:=
 let v2:=p8 x0
 (Cy x0)∧
 ((v2 != 0)=false→(
  (((decide (ar.kind<1))||(decide (ar.kind>7)))=false→(
   (((decide (ar.dz<0))||(decide (ar.dz>1099511627776)))=false→(
    ((!(wz ar))=false→(
     let aN:Bool→Prop:=fun v12=>
      (v12=true→(
       G6 x0 ar))∧(v12=false→(
       ((ar.kind==3)=true→(
        G7 x0 ar))∧((ar.kind==3)=false→(
        ((ar.kind==7)=false→(
         p1 ar.name))))))
     let v12:=ar.kind==1
     (v12=true→(
      aN v12))∧(v12=false→(
      aN (ar.kind==2)))))))))))
noncomputable def QA(x0:ByteArray):Int:=
 let v1:Int:=(ByteArray.size x0:Int)
 Sum.elim (fun r=>r) (fun bS=>
  bS)
 (bo (fun(i3:Nat) (aW:Int)=>
  show Step (Int) (Int)from
  .br (IntKind.wrap .u64 ((bA .xor .u64 aW (IntKind.wrap .u64 (ej x0 (i3:Int))))*(1099511628211:Int)))) 0 (Int.toNat v1) 14695981039346656037:Int⊕(Int))
def Ha(x0:ByteArray):Prop:=
 let v1:Int:=(ByteArray.size x0:Int)
 0≤v1∧v1<(9223372036854775808:Int)
noncomputable def HE(x0:Int)(ar:ByteArray):Int:=
 let eb:List Int:=([(IntKind.wrap .u8 (bA .shr .u64 x0 (56:Int))),(IntKind.wrap .u8 (bA .shr .u64 x0 (48:Int))),(IntKind.wrap .u8 (bA .shr .u64 x0 (40:Int))),(IntKind.wrap .u8 (bA .shr .u64 x0 (32:Int))),(IntKind.wrap .u8 (bA .shr .u64 x0 (24:Int))),(IntKind.wrap .u8 (bA .shr .u64 x0 (16:Int))),(IntKind.wrap .u8 (bA .shr .u64 x0 (8:Int))),(IntKind.wrap .u8 (bA .shr .u64 x0 (0:Int)))]:List Int)
 let b8:=bytesOf eb
 (IntKind.wrap .i64 (bA .shr .u64 (QA (ByteArray.append (ByteArray.append b8 ar) b8)) (32:Int)))
def CG(x0:Int)(ar:ByteArray):Prop:=
 let eb:List Int:=([(IntKind.wrap .u8 (bA .shr .u64 x0 (56:Int))),(IntKind.wrap .u8 (bA .shr .u64 x0 (48:Int))),(IntKind.wrap .u8 (bA .shr .u64 x0 (40:Int))),(IntKind.wrap .u8 (bA .shr .u64 x0 (32:Int))),(IntKind.wrap .u8 (bA .shr .u64 x0 (24:Int))),(IntKind.wrap .u8 (bA .shr .u64 x0 (16:Int))),(IntKind.wrap .u8 (bA .shr .u64 x0 (8:Int))),(IntKind.wrap .u8 (bA .shr .u64 x0 (0:Int)))]:List Int)
 let b8:=bytesOf eb
 let v20:=ByteArray.append b8 ar
 (ByteArray.size b8+ByteArray.size ar≤9223372036854775807)∧
 let v21:=ByteArray.append v20 b8
 (ByteArray.size v20+ByteArray.size b8≤9223372036854775807)∧
 Ha v21
noncomputable def qb(x0:Int)(ar:ByteArray):ByteArray × Int:=
 let v2:Int:=(ByteArray.size ar:Int)
 bif(decide (v2<4))then
  (⟨#[]⟩,5)
 else
  let v5:=mV ar none (some (IntKind.wrap .i64 (v2-(4:Int))))
  let v6:=HE x0 v5
  let dN:List Int:=([(IntKind.wrap .u8 (bA .shr .i64 v6 (24:Int))),(IntKind.wrap .u8 (bA .shr .i64 v6 (16:Int))),(IntKind.wrap .u8 (bA .shr .i64 v6 (8:Int))),(IntKind.wrap .u8 (bA .shr .i64 v6 (0:Int)))]:List Int)
  bif(cN .neq (mV ar (some (ByteArray.size v5:Int)) none) (bytesOf dN))then
   (⟨#[]⟩,6)
  else
   (v5,0)
def Hb(x0:Int)(ar:ByteArray):Prop:=
 let v2:Int:=(ByteArray.size ar:Int)
 ((decide (v2<4))=false→(
  let v4:Int:=IntKind.wrap .i64 (v2-(4:Int))
  let v5:=mV ar none (some v4)
  (ja (ByteArray.size ar) none (some v4))∧
  let _:=HE x0 v5
  (CG x0 v5)∧
  let eT:Int:=(ByteArray.size v5:Int)
  ja (ByteArray.size ar) (some eT) none))
noncomputable def QB(x0:eM):Int:=
 bif(!(ir x0.e9))then
  10
 else
  bif(((((decide (x0.id<1))||(decide (x0.id>1099511627776)))||(decide (x0.oT<0)))||(decide (x0.oT>x0.oU)))||(decide (x0.oU>1099511627776)))then
   2
  else
   bif(decide ((IntKind.wrap .i64 (x0.oU-x0.oT))>43200))then
    3
   else
    0
def QC(x0:eM):Prop:=
 nI x0.e9
noncomputable def HF(x0:Int)(ar:ByteArray):eM × Int:=
 let v2:=oP ar
 bif(v2.2 != 0)then
  (⟨⟨#[]⟩,0,0,0⟩,v2.2)
 else
  let v6:=qb x0 v2.1
  bif(v6.2 != 0)then
   (⟨⟨#[]⟩,0,0,0⟩,v6.2)
  else
   let v10:=hI ⟨v6.1,0,true⟩ (24:Int)
   let bU:=gr v10.1
   let c9:=gr bU.1
   let b8:=gr c9.1
   let v22:=v8 b8.1
   let aN:Int→eM × Int:=fun v25=>
    bif(v25 != 0)then
     (⟨⟨#[]⟩,0,0,0⟩,v25)
    else
     (⟨v10.2,bU.2,c9.2,b8.2⟩,0)
   bif(v22.2==0)then
    aN (QB ⟨v10.2,bU.2,c9.2,b8.2⟩)
   else
    aN v22.2
def Hc(x0:Int)(ar:ByteArray):Prop:=
 let v2:=oP ar
 (CF ar)∧
 ((v2.2 != 0)=false→(
  let v6:=qb x0 v2.1
  (Hb x0 v2.1)∧
  ((v6.2 != 0)=false→(
   let v10:=hI ⟨v6.1,0,true⟩ (24:Int)
   (sC ⟨v6.1,0,true⟩ (24:Int))∧
   let bU:=gr v10.1
   (nD v10.1)∧
   let c9:=gr bU.1
   (nD bU.1)∧
   let b8:=gr c9.1
   (nD c9.1)∧
   let v22:=v8 b8.1
   ((v22.2==0)=true→(
    QC ⟨v10.2,bU.2,c9.2,b8.2⟩))))))
noncomputable def QD(x0:List Int)(ar:Int):Int:=
 let v2:Int:=(List.length x0:Int)
 Sum.elim (fun r=>r) (fun _=>
  (-1))
 (bo (fun(i3:Nat) (_:Unit)=>
  show Step (Int) (Unit)from
  bif(ar==(List.getD x0 (Int.toNat (i3:Int)) (aA .i64)))then
   .ret (i3:Int)
  else
   .br ()) 0 (Int.toNat v2) ():Int⊕(Unit))
noncomputable def QE(x0:List Int)(ar:Int):Bool:=
 (decide ((QD x0 ar)≥0))
noncomputable def lF(x0:Int)(ar:ByteArray)(b7:Int)(cd:List Int):eM × Int:=
 let v4:=HF x0 ar
 let aN:Int→eM × Int:=fun bB=>
  (⟨⟨#[]⟩,0,0,0⟩,bB)
 bif(v4.2 != 0)then
  aN v4.2
 else
  bif((decide (b7<v4.1.oT))||(decide (b7≥v4.1.oU)))then
   aN (17:Int)
  else
   bif(QE cd v4.1.id)then
    aN (16:Int)
   else
    (v4.1,0)
def Hd(x0:Int)(ar:ByteArray)(_:Int)(_:List Int):Prop:=
 let _:=HF x0 ar
 Hc x0 ar
noncomputable def zz(x0:eS):Bool:=
 (((decide (0≤x0.from_))&&(decide (x0.from_<x0.wM)))&&(decide (x0.wM≤10080)))
noncomputable def HG(x0:List eS):Int:=
 let v1:Int:=(List.length x0:Int)
 bif(decide (v1>256))then
  3
 else
  Sum.elim (fun r=>r) (fun _=>
   0)
  (bo (fun(i3:Nat) (_:Unit)=>
   show Step (Int) (Unit)from
   let v5:eS:=List.getD x0 (Int.toNat (i3:Int)) (aA .eS)
   bif(!(zz v5))then
    .ret 2
   else
    .br ()) 0 (Int.toNat v1) ():Int⊕(Unit))
noncomputable def HH(x0:Home)(ar:List cx)(b7:Int):Int:=
 let v3:cx:=List.getD ar (Int.toNat b7) (aA .cx)
 bif(!(ir v3.name))then
  10
 else
  let v6:=iL ar none (some b7)
  let bO:Int→Int:=fun bB=>
   bif(decide (bB≥0))then
    9
   else
    bif((decide (v3.role<1))||(decide (v3.role>4)))then
     2
    else
     let v12:=HG v3.nL
     bif(v12 != 0)then
      v12
     else
      let b8:Int:=(List.length v3.fZ:Int)
      bif((cD.den (.nN true) (v3.role==1) (decide ((List.length v3.nL:Int)>0)))||((decide (v3.role≥3))&&(decide (b8>0))))then
       4
      else
       bif(decide (b8>256))then
        3
       else
        Sum.elim (fun r=>r) (fun _=>
         0)
        (bo (fun(i24:Nat) (_:Unit)=>
         show Step (Int) (Unit)from
         let v26:ByteArray:=List.getD v3.fZ (Int.toNat (i24:Int)) (aA .str)
         bif(!(ir v26))then
          .ret 10
         else
          let bO:Int→Step (Int) (Unit):=fun iv=>
           bif(!(decide (iv≥0)))then
            .ret 8
           else
            .br ()
          let iv:Int:=(List.length x0.bm:Int)
          Sum.elim (fun r=>r) (fun _=>
           bO ((-1):Int))
          (bo (fun(i30:Nat) (_:Unit)=>
           show Step (Step (Int) (Unit)) (Unit)from
           bif(cN .eql ((List.getD x0.bm (Int.toNat (i30:Int)) (aA .bw)).room) v26)then
            .ret (bO (i30:Int))
           else
            .br ()) 0 (Int.toNat iv) ():(Step (Int) (Unit))⊕(Unit))) 0 (Int.toNat b8) ():Int⊕(Unit))
  let bB:Int:=(List.length v6:Int)
  Sum.elim (fun r=>r) (fun _=>
   bO ((-1):Int))
  (bo (fun(i8:Nat) (_:Unit)=>
   show Step (Int) (Unit)from
   bif(cN .eql ((List.getD v6 (Int.toNat (i8:Int)) (aA .cx)).name) v3.name)then
    .ret (bO (i8:Int))
   else
    .br ()) 0 (Int.toNat bB) ():Int⊕(Unit))
def CL(x0:Home)(ar:List cx)(b7:Int):Prop:=
 let v3:cx:=List.getD ar (Int.toNat b7) (aA .cx)
 (0≤b7∧b7<(List.length ar:Int))∧
 (nI v3.name)∧
 ((!(ir v3.name))=false→(
  let v6:=iL ar none (some b7)
  (ja (List.length ar) none (some b7))∧
  let bO:Int→Prop:=fun bB=>
   ((decide (bB≥0))=false→(
    (((decide (v3.role<1))||(decide (v3.role>4)))=false→(
     let v12:=HG v3.nL
     ((v12 != 0)=false→(
      let b8:Int:=(List.length v3.fZ:Int)
      (((cD.den (.nN true) (v3.role==1) (decide ((List.length v3.nL:Int)>0)))||((decide (v3.role≥3))&&(decide (b8>0))))=false→(
       ((decide (b8>256))=false→(
        ∃bC:Nat→(Unit)→Prop,bC 0 ()∧∀(i24:Nat) (d0:Unit),i24<Int.toNat b8→bC i24 d0→(
         let v26:ByteArray:=List.getD v3.fZ (Int.toNat (i24:Int)) (aA .str)
         (nI v26)∧
         ((!(ir v26))=false→(
          let bO:Int→Prop:=fun iv=>
           ((!(decide (iv≥0)))=false→(
            bC (i24+1) ()))
          let iv:Int:=(List.length x0.bm:Int)
          let fy:Unit→Prop:=fun _=>
           bO ((-1):Int)
          ∃er:Nat→(Unit)→Prop,er 0 ()∧(∀(i30:Nat) (d1:Unit),i30<Int.toNat iv→er i30 d1→(
           ((cN .eql ((List.getD x0.bm (Int.toNat (i30:Int)) (aA .bw)).room) v26)=true→(
            bO (i30:Int)))∧((cN .eql ((List.getD x0.bm (Int.toNat (i30:Int)) (aA .bw)).room) v26)=false→(
            er (i30+1) ()))))∧∀aW,er (Int.toNat iv) aW→fy aW)))))))))))))
  let bB:Int:=(List.length v6:Int)
  let gH:Unit→Prop:=fun _=>
   bO ((-1):Int)
  ∃kE:Nat→(Unit)→Prop,kE 0 ()∧(∀(i8:Nat) (d2:Unit),i8<Int.toNat bB→kE i8 d2→(
   ((cN .eql ((List.getD v6 (Int.toNat (i8:Int)) (aA .cx)).name) v3.name)=true→(
    bO (i8:Int)))∧((cN .eql ((List.getD v6 (Int.toNat (i8:Int)) (aA .cx)).name) v3.name)=false→(
    kE (i8+1) ()))))∧∀dq,kE (Int.toNat bB) dq→gH dq))
noncomputable def QF(x0:cx):Bool:=
 (x0.role==4)
noncomputable def HI(x0:Home)(ar:List cx):Int:=
 let v2:=fT x0
 bif(v2 != 0)then
  v2
 else
  let v6:Int:=(List.length ar:Int)
  bif((decide ((List.length ar:Int)<1))||(decide (v6>16)))then
   3
  else
   Sum.elim (fun r=>r) (fun _=>
    let bO:Int→Int:=fun v9=>
     bif(!(decide (v9≥0)))then
      8
     else
      0
    Sum.elim (fun r=>r) (fun _=>
     bO ((-1):Int))
    (bo (fun(i9:Nat) (_:Unit)=>
     show Step (Int) (Unit)from
     let v11:cx:=List.getD ar (Int.toNat (i9:Int)) (aA .cx)
     bif(QF v11)then
      .ret (bO (i9:Int))
     else
      .br ()) 0 (Int.toNat v6) ():Int⊕(Unit)))
   (bo (fun(i9:Nat) (_:Unit)=>
    show Step (Int) (Unit)from
    let v11:=HH x0 ar (i9:Int)
    bif(v11 != 0)then
     .ret v11
    else
     .br ()) 0 (Int.toNat v6) ():Int⊕(Unit))
def Hg(x0:Home)(ar:List cx):Prop:=
 let v2:=fT x0
 (yZ x0)∧
 ((v2 != 0)=false→(
  let v6:Int:=(List.length ar:Int)
  (((decide ((List.length ar:Int)<1))||(decide (v6>16)))=false→(
   ∃bC:Nat→(Unit)→Prop,bC 0 ()∧∀(i9:Nat) (d0:Unit),i9<Int.toNat v6→bC i9 d0→(
    let v11:=HH x0 ar (i9:Int)
    (CL x0 ar (i9:Int))∧
    ((v11 != 0)=false→(
     bC (i9+1) ())))))))
def QG(x:List eS):List eS:=x
def Hi(x:List eS):Prop:=x.length≤maxLen∧x.length*16≤140737488355328
noncomputable def HJ(x0:List cx)(ar:ByteArray):cx × Bool:=
 let v2:Int:=(List.length x0:Int)
 Sum.elim (fun r=>r) (fun _=>
  (⟨⟨#[]⟩,0,[],[],false⟩,false))
 (bo (fun(i3:Nat) (_:Unit)=>
  show Step (cx × Bool) (Unit)from
  let v5:cx:=List.getD x0 (Int.toNat (i3:Int)) (aA .cx)
  bif(cN .eql v5.name ar)then
   .ret (⟨v5.name,v5.role,(QG v5.nL),(C7 v5.fZ),v5.home⟩,true)
  else
   .br ()) 0 (Int.toNat v2) ():(cx × Bool)⊕(Unit))
def Hh(x0:List cx)(ar:ByteArray):Prop:=
 let v2:Int:=(List.length x0:Int)
 ∃bC:Nat→(Unit)→Prop,bC 0 ()∧∀(i3:Nat) (d0:Unit),i3<Int.toNat v2→bC i3 d0→(
  let v5:cx:=List.getD x0 (Int.toNat (i3:Int)) (aA .cx)
  ((cN .eql v5.name ar)=true→(
   (Hi v5.nL)∧
   wi v5.fZ))∧((cN .eql v5.name ar)=false→(
   bC (i3+1) ())))
noncomputable def oV(x0:Home)(ar:Int):ByteArray:=
 let v2:=ma x0 ar
 v2.1.room
def rn(x0:Home)(ar:Int):Prop:=
 let _:=ma x0 ar
 y0 x0 ar
noncomputable def C8(x0:Home)(ar:di):Bool:=
 let v2:=uz x0 ar
 (v2.2&&v2.1.safety)
def CN(x0:Home)(ar:di):Prop:=
 let _:=uz x0 ar
 Co x0 ar
noncomputable def HK(x0:Home)(ar:Int):(List di):=
 let v2:=ma x0 ar
 let v6:Int:=(List.length v2.1.bq:Int)
 Sum.elim (fun r=>r) (fun bS=>
  bS)
 (bo (fun(i8:Nat) (aW:(List di))=>
  show Step ((List di)) ((List di))from
  let v10:ByteArray:=List.getD v2.1.bq (Int.toNat (i8:Int)) (aA .str)
  let v11:aK:=(jG (.str) (kC x0) v10).getD (aA .aK)
  let v12:Int:=(List.length v11.attrs:Int)
  Sum.elim (fun r=>r) (fun dq=>
   .br dq)
  (bo (fun(i14:Nat) (c8:(List di))=>
   show Step (Step ((List di)) ((List di))) ((List di))from
   .br (List.append c8 ([⟨ar,v10,(List.getD v11.attrs (Int.toNat (i14:Int)) (aA .Attr)).name⟩]:List di))) 0 (Int.toNat v12) aW:(Step ((List di)) ((List di)))⊕((List di)))) 0 (Int.toNat v6) []:(List di)⊕((List di)))
def Hj(x0:Home)(ar:Int):Prop:=
 let v2:=ma x0 ar
 (y0 x0 ar)∧
 let v6:Int:=(List.length v2.1.bq:Int)
 ∃bC:Nat→((List di))→Prop,bC 0 []∧∀(i8:Nat) (d0:(List di)),i8<Int.toNat v6→bC i8 d0→(
  let v10:ByteArray:=List.getD v2.1.bq (Int.toNat (i8:Int)) (aA .str)
  let v11:aK:=(jG (.str) (kC x0) v10).getD (aA .aK)
  let v12:Int:=(List.length v11.attrs:Int)
  let fy:(List di)→Prop:=fun aW=>
   bC (i8+1) aW
  ∃er:Nat→((List di))→Prop,er 0 d0∧(∀(i14:Nat) (d1:(List di)),i14<Int.toNat v12→er i14 d1→(
   let dN:List di:=([⟨ar,v10,(List.getD v11.attrs (Int.toNat (i14:Int)) (aA .Attr)).name⟩]:List di)
   (List.length d1+List.length dN≤maxLen∧(List.length d1+List.length dN)*40≤140737488355328)∧
   er (i14+1) (List.append d1 dN)))∧∀aW,er (Int.toNat v12) aW→fy aW)
noncomputable def C9(x0:Home)(ar:bu):Bool:=
 bif(ar.kind==2)then
  (C8 x0 ⟨ar.key.dev,ar.key.dm,ar.key.attr⟩)
 else
  let v3:=HK x0 ar.key.dev
  let eD:Int→Bool:=fun v4=>
   (decide (v4≥0))
  let v4:Int:=(List.length v3:Int)
  Sum.elim (fun r=>r) (fun _=>
   eD ((-1):Int))
  (bo (fun(i5:Nat) (_:Unit)=>
   show Step (Bool) (Unit)from
   let bB:di:=List.getD v3 (Int.toNat (i5:Int)) (aA .di)
   let bz:=cN .eql bB.dm ar.key.dm
   let aN:Bool→Step (Bool) (Unit):=fun v9=>
    bif(bz&&v9)then
     .ret (eD (i5:Int))
    else
     .br ()
   bif bz then
    aN (C8 x0 bB)
   else
    aN false) 0 (Int.toNat v4) ():Bool⊕(Unit))
def wD(x0:Home)(ar:bu):Prop:=
 ((ar.kind==2)=true→(
  CN x0 ⟨ar.key.dev,ar.key.dm,ar.key.attr⟩))∧((ar.kind==2)=false→(
  let v3:=HK x0 ar.key.dev
  (Hj x0 ar.key.dev)∧
  let v4:Int:=(List.length v3:Int)
  ∃bC:Nat→(Unit)→Prop,bC 0 ()∧∀(i5:Nat) (d0:Unit),i5<Int.toNat v4→bC i5 d0→(
   let bB:di:=List.getD v3 (Int.toNat (i5:Int)) (aA .di)
   let bz:=cN .eql bB.dm ar.key.dm
   let aN:Bool→Prop:=fun v9=>
    ((bz&&v9)=false→(
     bC (i5+1) ()))
   (bz=true→(
    (CN x0 bB)∧
    aN (C8 x0 bB)))∧(bz=false→(
    aN false)))))
noncomputable def QH(x0:Home)(ar:cx)(b7:Int)(cd:bu):Int:=
 bif((decide (cd.kind<1))||(decide (cd.kind>7)))then
  7
 else
  bif(ar.role==1)then
   let bz:=decide (b7≥0)
   let eD:Bool→Int:=fun v9=>
    bif(!(bz&&v9))then
     17
    else
     let jJ:Int→Int:=fun v12=>
      bif(decide (0<v12))then
       16
      else
       0
     let aN:Bool→Int:=fun v12=>
      bif v12 then
       let eD:Int→Int:=fun fw=>
        fw
       let bO:Int→Int:=fun fw=>
        bif(!(decide (fw≥0)))then
         eD (8:Int)
        else
         let eb:=decide ((List.length ar.fZ:Int)>0)
         let aN:ByteArray→Int:=fun b8=>
          let aN:Bool→Int:=fun v20=>
           bif(eb&&(!v20))then
            eD (16:Int)
           else
            bif(C9 x0 cd)then
             eD (16:Int)
            else
             eD (0:Int)
          bif eb then
           aN (iK ar.fZ b8)
          else
           aN false
         bif eb then
          aN (oV x0 cd.key.dev)
         else
          aN (⟨#[]⟩:ByteArray)
       let fw:Int:=(List.length x0.bm:Int)
       Sum.elim (fun r=>r) (fun _=>
        bO ((-1):Int))
       (bo (fun(i15:Nat) (_:Unit)=>
        show Step (Int) (Unit)from
        bif(((List.getD x0.bm (Int.toNat (i15:Int)) (aA .bw)).id)==cd.key.dev)then
         .ret (bO (i15:Int))
        else
         .br ()) 0 (Int.toNat fw) ():Int⊕(Unit))
      else
       bif(cd.kind==4)then
        jJ (1:Int)
       else
        bif(cd.kind==5)then
         jJ (2:Int)
        else
         let aN:Bool→Int:=fun c9=>
          bif c9 then
           jJ (3:Int)
          else
           jJ (0:Int)
         let c9:=cd.kind==6
         bif c9 then
          aN c9
         else
          aN (cd.kind==7)
     let v12:=cd.kind==2
     bif v12 then
      aN v12
     else
      aN (cd.kind==3)
   bif bz then
    let bO:Bool→Int:=fun v9=>
     eD v9
    let v9:Int:=bA .rem .i64 b7 (10080:Int)
    let aN:Int→Int:=fun v10=>
     let v12:Int:=(List.length ar.nL:Int)
     Sum.elim (fun r=>r) (fun _=>
      bO false)
     (bo (fun(i13:Nat) (_:Unit)=>
      show Step (Int) (Unit)from
      let eT:eS:=List.getD ar.nL (Int.toNat (i13:Int)) (aA .eS)
      bif(((zz eT)&&(decide (eT.from_≤v10)))&&(decide (v10<eT.wM)))then
       .ret (bO true)
      else
       .br ()) 0 (Int.toNat v12) ():Int⊕(Unit))
    bif(decide (v9<0))then
     aN (IntKind.wrap .i64 (v9+(10080:Int)))
    else
     aN v9
   else
    eD false
  else
   bif(ar.role==2)then
    bif !true then
     17
    else
     let jJ:Int→Int:=fun v10=>
      bif(decide (1<v10))then
       16
      else
       0
     bif(cd.kind==2)then
      let eD:Int→Int:=fun v11=>
       v11
      let bO:Int→Int:=fun v11=>
       bif(!(decide (v11≥0)))then
        eD (8:Int)
       else
        let eT:=decide ((List.length ar.fZ:Int)>0)
        let aN:ByteArray→Int:=fun c9=>
         let aN:Bool→Int:=fun dN=>
          bif(eT&&(!dN))then
           eD (16:Int)
          else
           bif(C9 x0 cd)then
            eD (16:Int)
           else
            eD (0:Int)
         bif eT then
          aN (iK ar.fZ c9)
         else
          aN false
        bif eT then
         aN (oV x0 cd.key.dev)
        else
         aN (⟨#[]⟩:ByteArray)
      let v11:Int:=(List.length x0.bm:Int)
      Sum.elim (fun r=>r) (fun _=>
       bO ((-1):Int))
      (bo (fun(i12:Nat) (_:Unit)=>
       show Step (Int) (Unit)from
       bif(((List.getD x0.bm (Int.toNat (i12:Int)) (aA .bw)).id)==cd.key.dev)then
        .ret (bO (i12:Int))
       else
        .br ()) 0 (Int.toNat v11) ():Int⊕(Unit))
     else
      bif(cd.kind==3)then
       let eD:Int→Int:=fun v12=>
        v12
       let bO:Int→Int:=fun v12=>
        bif(!(decide (v12≥0)))then
         eD (8:Int)
        else
         let c9:=decide ((List.length ar.fZ:Int)>0)
         let aN:ByteArray→Int:=fun dN=>
          let aN:Bool→Int:=fun eb=>
           bif(c9&&(!eb))then
            eD (16:Int)
           else
            bif(C9 x0 cd)then
             eD (16:Int)
            else
             eD (0:Int)
          bif c9 then
           aN (iK ar.fZ dN)
          else
           aN false
         bif c9 then
          aN (oV x0 cd.key.dev)
         else
          aN (⟨#[]⟩:ByteArray)
       let v12:Int:=(List.length x0.bm:Int)
       Sum.elim (fun r=>r) (fun _=>
        bO ((-1):Int))
       (bo (fun(i13:Nat) (_:Unit)=>
        show Step (Int) (Unit)from
        bif(((List.getD x0.bm (Int.toNat (i13:Int)) (aA .bw)).id)==cd.key.dev)then
         .ret (bO (i13:Int))
        else
         .br ()) 0 (Int.toNat v12) ():Int⊕(Unit))
      else
       bif(cd.kind==4)then
        jJ (1:Int)
       else
        bif(cd.kind==5)then
         jJ (2:Int)
        else
         let aN:Bool→Int:=fun fw=>
          bif fw then
           jJ (3:Int)
          else
           jJ (0:Int)
         let fw:=cd.kind==6
         bif fw then
          aN fw
         else
          aN (cd.kind==7)
   else
    bif(ar.role==3)then
     bif !true then
      17
     else
      let jJ:Int→Int:=fun v11=>
       bif(decide (2<v11))then
        16
       else
        0
      bif(cd.kind==2)then
       let eD:Int→Int:=fun v12=>
        v12
       let bO:Int→Int:=fun v12=>
        bif(!(decide (v12≥0)))then
         eD (8:Int)
        else
         let c9:=decide ((List.length ar.fZ:Int)>0)
         let aN:ByteArray→Int:=fun dN=>
          let aN:Bool→Int:=fun eb=>
           bif(c9&&(!eb))then
            eD (16:Int)
           else
            eD (0:Int)
          bif c9 then
           aN (iK ar.fZ dN)
          else
           aN false
         bif c9 then
          aN (oV x0 cd.key.dev)
         else
          aN (⟨#[]⟩:ByteArray)
       let v12:Int:=(List.length x0.bm:Int)
       Sum.elim (fun r=>r) (fun _=>
        bO ((-1):Int))
       (bo (fun(i13:Nat) (_:Unit)=>
        show Step (Int) (Unit)from
        bif(((List.getD x0.bm (Int.toNat (i13:Int)) (aA .bw)).id)==cd.key.dev)then
         .ret (bO (i13:Int))
        else
         .br ()) 0 (Int.toNat v12) ():Int⊕(Unit))
      else
       bif(cd.kind==3)then
        let eD:Int→Int:=fun bU=>
         bU
        let bO:Int→Int:=fun bU=>
         bif(!(decide (bU≥0)))then
          eD (8:Int)
         else
          let dN:=decide ((List.length ar.fZ:Int)>0)
          let aN:ByteArray→Int:=fun eb=>
           let aN:Bool→Int:=fun b8=>
            bif(dN&&(!b8))then
             eD (16:Int)
            else
             eD (0:Int)
           bif dN then
            aN (iK ar.fZ eb)
           else
            aN false
          bif dN then
           aN (oV x0 cd.key.dev)
          else
           aN (⟨#[]⟩:ByteArray)
        let bU:Int:=(List.length x0.bm:Int)
        Sum.elim (fun r=>r) (fun _=>
         bO ((-1):Int))
        (bo (fun(i14:Nat) (_:Unit)=>
         show Step (Int) (Unit)from
         bif(((List.getD x0.bm (Int.toNat (i14:Int)) (aA .bw)).id)==cd.key.dev)then
          .ret (bO (i14:Int))
         else
          .br ()) 0 (Int.toNat bU) ():Int⊕(Unit))
       else
        bif(cd.kind==4)then
         jJ (1:Int)
        else
         bif(cd.kind==5)then
          jJ (2:Int)
         else
          let aN:Bool→Int:=fun eT=>
           bif eT then
            jJ (3:Int)
           else
            jJ (0:Int)
          let eT:=cd.kind==6
          bif eT then
           aN eT
          else
           aN (cd.kind==7)
    else
     bif !true then
      17
     else
      let jJ:Int→Int:=fun v11=>
       bif(decide (3<v11))then
        16
       else
        0
      bif(cd.kind==2)then
       let eD:Int→Int:=fun v12=>
        v12
       let bO:Int→Int:=fun v12=>
        bif(!(decide (v12≥0)))then
         eD (8:Int)
        else
         let c9:=decide ((List.length ar.fZ:Int)>0)
         let aN:ByteArray→Int:=fun dN=>
          let aN:Bool→Int:=fun eb=>
           bif(c9&&(!eb))then
            eD (16:Int)
           else
            eD (0:Int)
          bif c9 then
           aN (iK ar.fZ dN)
          else
           aN false
         bif c9 then
          aN (oV x0 cd.key.dev)
         else
          aN (⟨#[]⟩:ByteArray)
       let v12:Int:=(List.length x0.bm:Int)
       Sum.elim (fun r=>r) (fun _=>
        bO ((-1):Int))
       (bo (fun(i13:Nat) (_:Unit)=>
        show Step (Int) (Unit)from
        bif(((List.getD x0.bm (Int.toNat (i13:Int)) (aA .bw)).id)==cd.key.dev)then
         .ret (bO (i13:Int))
        else
         .br ()) 0 (Int.toNat v12) ():Int⊕(Unit))
      else
       bif(cd.kind==3)then
        let eD:Int→Int:=fun bU=>
         bU
        let bO:Int→Int:=fun bU=>
         bif(!(decide (bU≥0)))then
          eD (8:Int)
         else
          let dN:=decide ((List.length ar.fZ:Int)>0)
          let aN:ByteArray→Int:=fun eb=>
           let aN:Bool→Int:=fun b8=>
            bif(dN&&(!b8))then
             eD (16:Int)
            else
             eD (0:Int)
           bif dN then
            aN (iK ar.fZ eb)
           else
            aN false
          bif dN then
           aN (oV x0 cd.key.dev)
          else
           aN (⟨#[]⟩:ByteArray)
        let bU:Int:=(List.length x0.bm:Int)
        Sum.elim (fun r=>r) (fun _=>
         bO ((-1):Int))
        (bo (fun(i14:Nat) (_:Unit)=>
         show Step (Int) (Unit)from
         bif(((List.getD x0.bm (Int.toNat (i14:Int)) (aA .bw)).id)==cd.key.dev)then
          .ret (bO (i14:Int))
         else
          .br ()) 0 (Int.toNat bU) ():Int⊕(Unit))
       else
        bif(cd.kind==4)then
         jJ (1:Int)
        else
         bif(cd.kind==5)then
          jJ (2:Int)
         else
          let aN:Bool→Int:=fun eT=>
           bif eT then
            jJ (3:Int)
           else
            jJ (0:Int)
          let eT:=cd.kind==6
          bif eT then
           aN eT
          else
           aN (cd.kind==7)
def CO(x0:Home)(ar:cx)(b7:Int)(cd:bu):Prop:=
 (((decide (cd.kind<1))||(decide (cd.kind>7)))=false→(
  ((ar.role==1)=true→(
   let bz:=decide (b7≥0)
   let eD:Bool→Prop:=fun v9=>
    ((!(bz&&v9))=false→(
     let aN:Bool→Prop:=fun v12=>
      (v12=true→(
       let bO:Int→Prop:=fun fw=>
        ((!(decide (fw≥0)))=false→(
         let eb:=decide ((List.length ar.fZ:Int)>0)
         let aN:ByteArray→Prop:=fun b8=>
          let aN:Bool→Prop:=fun v20=>
           ((eb&&(!v20))=false→(
            wD x0 cd))
          (eb=true→(
           aN (iK ar.fZ b8)))∧(eb=false→(
           aN false))
         (eb=true→(
          (rn x0 cd.key.dev)∧
          aN (oV x0 cd.key.dev)))∧(eb=false→(
          aN (⟨#[]⟩:ByteArray)))))
       let fw:Int:=(List.length x0.bm:Int)
       let aX:Unit→Prop:=fun _=>
        bO ((-1):Int)
       ∃bC:Nat→(Unit)→Prop,bC 0 ()∧(∀(i15:Nat) (d0:Unit),i15<Int.toNat fw→bC i15 d0→(
        ((((List.getD x0.bm (Int.toNat (i15:Int)) (aA .bw)).id)==cd.key.dev)=true→(
         bO (i15:Int)))∧((((List.getD x0.bm (Int.toNat (i15:Int)) (aA .bw)).id)==cd.key.dev)=false→(
         bC (i15+1) ()))))∧∀bS,bC (Int.toNat fw) bS→aX bS))
     let v12:=cd.kind==2
     (v12=true→(
      aN v12))∧(v12=false→(
      aN (cd.kind==3)))))
   (bz=true→(
    let bO:Bool→Prop:=fun v9=>
     eD v9
    let v9:Int:=bA .rem .i64 b7 (10080:Int)
    let aN:Int→Prop:=fun v10=>
     let v12:Int:=(List.length ar.nL:Int)
     let fy:Unit→Prop:=fun _=>
      bO false
     ∃er:Nat→(Unit)→Prop,er 0 ()∧(∀(i13:Nat) (d1:Unit),i13<Int.toNat v12→er i13 d1→(
      let eT:eS:=List.getD ar.nL (Int.toNat (i13:Int)) (aA .eS)
      ((((zz eT)&&(decide (eT.from_≤v10)))&&(decide (v10<eT.wM)))=true→(
       bO true))∧((((zz eT)&&(decide (eT.from_≤v10)))&&(decide (v10<eT.wM)))=false→(
       er (i13+1) ()))))∧∀aW,er (Int.toNat v12) aW→fy aW
    ((decide (v9<0))=true→(
     aN (IntKind.wrap .i64 (v9+(10080:Int)))))∧((decide (v9<0))=false→(
     aN v9))))∧(bz=false→(
    eD false))))∧((ar.role==1)=false→(
   ((ar.role==2)=true→(
    ((!true)=false→(
     ((cd.kind==2)=true→(
      let bO:Int→Prop:=fun v11=>
       ((!(decide (v11≥0)))=false→(
        let eT:=decide ((List.length ar.fZ:Int)>0)
        let aN:ByteArray→Prop:=fun c9=>
         let aN:Bool→Prop:=fun dN=>
          ((eT&&(!dN))=false→(
           wD x0 cd))
         (eT=true→(
          aN (iK ar.fZ c9)))∧(eT=false→(
          aN false))
        (eT=true→(
         (rn x0 cd.key.dev)∧
         aN (oV x0 cd.key.dev)))∧(eT=false→(
         aN (⟨#[]⟩:ByteArray)))))
      let v11:Int:=(List.length x0.bm:Int)
      let gH:Unit→Prop:=fun _=>
       bO ((-1):Int)
      ∃kE:Nat→(Unit)→Prop,kE 0 ()∧(∀(i12:Nat) (d2:Unit),i12<Int.toNat v11→kE i12 d2→(
       ((((List.getD x0.bm (Int.toNat (i12:Int)) (aA .bw)).id)==cd.key.dev)=true→(
        bO (i12:Int)))∧((((List.getD x0.bm (Int.toNat (i12:Int)) (aA .bw)).id)==cd.key.dev)=false→(
        kE (i12+1) ()))))∧∀dq,kE (Int.toNat v11) dq→gH dq))∧((cd.kind==2)=false→(
      ((cd.kind==3)=true→(
       let bO:Int→Prop:=fun v12=>
        ((!(decide (v12≥0)))=false→(
         let c9:=decide ((List.length ar.fZ:Int)>0)
         let aN:ByteArray→Prop:=fun dN=>
          let aN:Bool→Prop:=fun eb=>
           ((c9&&(!eb))=false→(
            wD x0 cd))
          (c9=true→(
           aN (iK ar.fZ dN)))∧(c9=false→(
           aN false))
         (c9=true→(
          (rn x0 cd.key.dev)∧
          aN (oV x0 cd.key.dev)))∧(c9=false→(
          aN (⟨#[]⟩:ByteArray)))))
       let v12:Int:=(List.length x0.bm:Int)
       let k8:Unit→Prop:=fun _=>
        bO ((-1):Int)
       ∃mf:Nat→(Unit)→Prop,mf 0 ()∧(∀(i13:Nat) (d3:Unit),i13<Int.toNat v12→mf i13 d3→(
        ((((List.getD x0.bm (Int.toNat (i13:Int)) (aA .bw)).id)==cd.key.dev)=true→(
         bO (i13:Int)))∧((((List.getD x0.bm (Int.toNat (i13:Int)) (aA .bw)).id)==cd.key.dev)=false→(
         mf (i13+1) ()))))∧∀c8,mf (Int.toNat v12) c8→k8 c8))))))))∧((ar.role==2)=false→(
    ((ar.role==3)=true→(
     ((!true)=false→(
      ((cd.kind==2)=true→(
       let bO:Int→Prop:=fun v12=>
        ((!(decide (v12≥0)))=false→(
         let c9:=decide ((List.length ar.fZ:Int)>0)
         (c9=true→(
          rn x0 cd.key.dev))))
       let v12:Int:=(List.length x0.bm:Int)
       let sQ:Unit→Prop:=fun _=>
        bO ((-1):Int)
       ∃Dc:Nat→(Unit)→Prop,Dc 0 ()∧(∀(i13:Nat) (d4:Unit),i13<Int.toNat v12→Dc i13 d4→(
        ((((List.getD x0.bm (Int.toNat (i13:Int)) (aA .bw)).id)==cd.key.dev)=true→(
         bO (i13:Int)))∧((((List.getD x0.bm (Int.toNat (i13:Int)) (aA .bw)).id)==cd.key.dev)=false→(
         Dc (i13+1) ()))))∧∀gj,Dc (Int.toNat v12) gj→sQ gj))∧((cd.kind==2)=false→(
       ((cd.kind==3)=true→(
        let bO:Int→Prop:=fun bU=>
         ((!(decide (bU≥0)))=false→(
          let dN:=decide ((List.length ar.fZ:Int)>0)
          (dN=true→(
           rn x0 cd.key.dev))))
        let bU:Int:=(List.length x0.bm:Int)
        let zB:Unit→Prop:=fun _=>
         bO ((-1):Int)
        ∃Dd:Nat→(Unit)→Prop,Dd 0 ()∧(∀(i14:Nat) (d5:Unit),i14<Int.toNat bU→Dd i14 d5→(
         ((((List.getD x0.bm (Int.toNat (i14:Int)) (aA .bw)).id)==cd.key.dev)=true→(
          bO (i14:Int)))∧((((List.getD x0.bm (Int.toNat (i14:Int)) (aA .bw)).id)==cd.key.dev)=false→(
          Dd (i14+1) ()))))∧∀iO,Dd (Int.toNat bU) iO→zB iO))))))))∧((ar.role==3)=false→(
     ((!true)=false→(
      ((cd.kind==2)=true→(
       let bO:Int→Prop:=fun v12=>
        ((!(decide (v12≥0)))=false→(
         let c9:=decide ((List.length ar.fZ:Int)>0)
         (c9=true→(
          rn x0 cd.key.dev))))
       let v12:Int:=(List.length x0.bm:Int)
       let uO:Unit→Prop:=fun _=>
        bO ((-1):Int)
       ∃De:Nat→(Unit)→Prop,De 0 ()∧(∀(i13:Nat) (d6:Unit),i13<Int.toNat v12→De i13 d6→(
        ((((List.getD x0.bm (Int.toNat (i13:Int)) (aA .bw)).id)==cd.key.dev)=true→(
         bO (i13:Int)))∧((((List.getD x0.bm (Int.toNat (i13:Int)) (aA .bw)).id)==cd.key.dev)=false→(
         De (i13+1) ()))))∧∀kD,De (Int.toNat v12) kD→uO kD))∧((cd.kind==2)=false→(
       ((cd.kind==3)=true→(
        let bO:Int→Prop:=fun bU=>
         ((!(decide (bU≥0)))=false→(
          let dN:=decide ((List.length ar.fZ:Int)>0)
          (dN=true→(
           rn x0 cd.key.dev))))
        let bU:Int:=(List.length x0.bm:Int)
        let wQ:Unit→Prop:=fun _=>
         bO ((-1):Int)
        ∃Df:Nat→(Unit)→Prop,Df 0 ()∧(∀(i14:Nat) (d7:Unit),i14<Int.toNat bU→Df i14 d7→(
         ((((List.getD x0.bm (Int.toNat (i14:Int)) (aA .bw)).id)==cd.key.dev)=true→(
          bO (i14:Int)))∧((((List.getD x0.bm (Int.toNat (i14:Int)) (aA .bw)).id)==cd.key.dev)=false→(
          Df (i14+1) ()))))∧∀jI,Df (Int.toNat bU) jI→wQ jI))))))))))))))
noncomputable def uC(x0:Home)(ar:List cx)(b7:ByteArray)(cd:Int)(c2:bu):Int:=
 let v5:=HI x0 ar
 bif(v5 != 0)then
  v5
 else
  let bB:=HJ ar b7
  bif !bB.2 then
   8
  else
   (QH x0 bB.1 cd c2)
def Hk(x0:Home)(ar:List cx)(b7:ByteArray)(cd:Int)(c2:bu):Prop:=
 let v5:=HI x0 ar
 (Hg x0 ar)∧
 ((v5 != 0)=false→(
  let bB:=HJ ar b7
  (Hh ar b7)∧
  ((!bB.2)=false→(
   CO x0 bB.1 cd c2))))
noncomputable def jZ(x0:List cI)(ar:ByteArray):Int × Bool:=
 let bO:Int→Int × Bool:=fun v2=>
  bif(decide (v2≥0))then
   (v2,true)
  else
   let bO:Int→Int × Bool:=fun v4=>
    let aN:Int→Int × Bool:=fun v5=>
     (v5,false)
    bif(decide (v4<0))then
     aN (List.length x0:Int)
    else
     aN v4
   let v4:Int:=(List.length x0:Int)
   Sum.elim (fun r=>r) (fun _=>
    bO ((-1):Int))
   (bo (fun(i5:Nat) (_:Unit)=>
    show Step (Int × Bool) (Unit)from
    bif(cN .gtr ((List.getD x0 (Int.toNat (i5:Int)) (aA .cI)).e9) ar)then
     .ret (bO (i5:Int))
    else
     .br ()) 0 (Int.toNat v4) ():(Int × Bool)⊕(Unit))
 let v2:Int:=(List.length x0:Int)
 Sum.elim (fun r=>r) (fun _=>
  bO ((-1):Int))
 (bo (fun(i3:Nat) (_:Unit)=>
  show Step (Int × Bool) (Unit)from
  bif(cN .eql ((List.getD x0 (Int.toNat (i3:Int)) (aA .cI)).e9) ar)then
   .ret (bO (i3:Int))
  else
   .br ()) 0 (Int.toNat v2) ():(Int × Bool)⊕(Unit))
noncomputable def HL:fm:=
 ⟨(-1),0⟩
noncomputable def zk(x0:fm):Int:=
 bif((x0.top==(-1))&&(x0.bits==0))then
  0
 else
  bif(((decide (x0.top<0))||(decide (x0.top>1099511627776)))||((bA .and .u64 x0.bits (1:Int))==0))then
   2
  else
   bif((decide (x0.top<63))&&((bA .shr .u64 x0.bits (IntKind.wrap .i64 (x0.top+(1:Int)))) != 0))then
    2
   else
    0
def Hl(x0:fm):Prop:=
 (((x0.top==(-1))&&(x0.bits==0))=false→(
  ((((decide (x0.top<0))||(decide (x0.top>1099511627776)))||((bA .and .u64 x0.bits (1:Int))==0))=false→(
   let v10:=decide (x0.top<63)
   let v11:Int:=IntKind.wrap .i64 (x0.top+(1:Int))
   v10=true→0≤v11))))
noncomputable def uB(x0:fm)(ar:Int):fm × Bool:=
 bif(((((zk x0) != 0)||(decide (ar<0)))||(decide (ar>1099511627776)))||(decide (ar≤(IntKind.wrap .i64 (x0.top-(64:Int))))))then
  (x0,false)
 else
  bif(decide (ar>x0.top))then
   let aN:Int→fm × Bool:=fun v12=>
    (⟨ar,(bA .or .u64 v12 (1:Int))⟩,true)
   bif(decide ((IntKind.wrap .i64 (ar-x0.top))<64))then
    aN (bA .shl .u64 x0.bits (IntKind.wrap .i64 (ar-x0.top)))
   else
    aN (0:Int)
  else
   let bU:Int:=bA .shl .u64 (1:Int) (IntKind.wrap .i64 (x0.top-ar))
   bif((bA .and .u64 x0.bits bU) != 0)then
    (x0,false)
   else
    (⟨x0.top,(bA .or .u64 x0.bits bU)⟩,true)
def Hm(x0:fm)(ar:Int):Prop:=
 (Hl x0)∧
 ((((((zk x0) != 0)||(decide (ar<0)))||(decide (ar>1099511627776)))||(decide (ar≤(IntKind.wrap .i64 (x0.top-(64:Int))))))=false→(
  ((decide (ar>x0.top))=true→(
   ((decide ((IntKind.wrap .i64 (ar-x0.top))<64))=true→(
    let fw:Int:=IntKind.wrap .i64 (ar-x0.top)
    0≤fw))))∧((decide (ar>x0.top))=false→(
   let v12:Int:=IntKind.wrap .i64 (x0.top-ar)
   let _:Int:=bA .shl .u64 (1:Int) v12
   0≤v12))))
noncomputable def qc(x0:Config)(ar:List cx)(b7:List cI)(cd:List Int)(c2:iu)(Dg:Int)(Dh:Int):ByteArray × (List cI) × Int:=
 let bB:=lF x0.key c2.token Dg cd
 let bO:Int→ByteArray × (List cI) × Int:=fun v10=>
  bif(v10 != 0)then
   (⟨#[]⟩,b7,v10)
  else
   let bU:=jZ b7 bB.1.e9
   let c9:=HL
   let aN:Int→Int→ByteArray × (List cI) × Int:=fun dN eb=>
    let b8:=uB ⟨dN,eb⟩ c2.request.dz
    let aN:(List cI)→ByteArray × (List cI) × Int:=fun v24=>
     (bB.1.e9,v24,0)
    bif !b8.2 then
     (⟨#[]⟩,b7,18)
    else
     bif bU.2 then
      aN (List.set b7 (Int.toNat bU.1) ⟨(List.getD b7 (Int.toNat bU.1) (aA .cI)).e9,⟨b8.1.top,b8.1.bits⟩⟩)
     else
      aN (List.append (List.append (iL b7 none (some bU.1)) ([⟨bB.1.e9,⟨b8.1.top,b8.1.bits⟩⟩]:List cI)) (iL b7 (some bU.1) none))
   bif bU.2 then
    let dN:cI:=List.getD b7 (Int.toNat bU.1) (aA .cI)
    aN dN.uA.top dN.uA.bits
   else
    aN c9.top c9.bits
 bif(bB.2==0)then
  let aN:Int→ByteArray × (List cI) × Int:=fun v11=>
   bO v11
  let v11:=mM ⟨x0.home.bq,x0.home.bm⟩ ⟨c2.request.kind,c2.request.dz,⟨c2.request.key.dev,c2.request.key.dm,c2.request.key.attr⟩,c2.request.name,⟨c2.request.value.kind,c2.request.value.n,c2.request.value.s⟩,c2.request.text⟩
  bif(v11 != 0)then
   aN v11
  else
   let bU:=uC ⟨x0.home.bq,x0.home.bm⟩ ar bB.1.e9 Dh ⟨c2.request.kind,c2.request.dz,⟨c2.request.key.dev,c2.request.key.dm,c2.request.key.attr⟩,c2.request.name,⟨c2.request.value.kind,c2.request.value.n,c2.request.value.s⟩,c2.request.text⟩
   bif(bU != 0)then
    aN bU
   else
    aN (0:Int)
 else
  bO bB.2
def wE(x0:Config)(ar:List cx)(b7:List cI)(cd:List Int)(c2:iu)(Dg:Int)(Dh:Int):Prop:=
 (List.length ([]:List cI)+List.length b7≤maxLen∧(List.length ([]:List cI)+List.length b7)*32≤140737488355328)∧
 let bB:=lF x0.key c2.token Dg cd
 (Hd x0.key c2.token Dg cd)∧
 let bO:Int→Prop:=fun v10=>
  ((v10 != 0)=false→(
   let bU:=jZ b7 bB.1.e9
   let c9:=HL
   let aN:Int→Int→Prop:=fun dN eb=>
    let b8:=uB ⟨dN,eb⟩ c2.request.dz
    (Hm ⟨dN,eb⟩ c2.request.dz)∧
    ((!b8.2)=false→(
     (bU.2=true→(
      (0≤bU.1∧bU.1<(List.length b7:Int))∧
      0≤bU.1∧bU.1<(List.length b7:Int)))∧(bU.2=false→(
      let v23:List cI:=([⟨bB.1.e9,⟨b8.1.top,b8.1.bits⟩⟩]:List cI)
      (ja (List.length b7) none (some bU.1))∧
      (0≤(0:Int)∧(0:Int)<(List.length v23:Int))∧
      List.length b7+List.length v23≤maxLen∧(List.length b7+List.length v23)*32≤140737488355328))))
   (bU.2=true→(
    (0≤bU.1∧bU.1<(List.length b7:Int))∧
    let dN:cI:=List.getD b7 (Int.toNat bU.1) (aA .cI)
    (0≤bU.1∧bU.1<(List.length b7:Int))∧
    aN dN.uA.top dN.uA.bits))∧(bU.2=false→(
    aN c9.top c9.bits))))
 ((bB.2==0)=true→(
  let aN:Int→Prop:=fun v11=>
   bO v11
  let v11:=mM ⟨x0.home.bq,x0.home.bm⟩ ⟨c2.request.kind,c2.request.dz,⟨c2.request.key.dev,c2.request.key.dm,c2.request.key.attr⟩,c2.request.name,⟨c2.request.value.kind,c2.request.value.n,c2.request.value.s⟩,c2.request.text⟩
  (Cr ⟨x0.home.bq,x0.home.bm⟩ ⟨c2.request.kind,c2.request.dz,⟨c2.request.key.dev,c2.request.key.dm,c2.request.key.attr⟩,c2.request.name,⟨c2.request.value.kind,c2.request.value.n,c2.request.value.s⟩,c2.request.text⟩)∧
  ((v11 != 0)=true→(
   aN v11))∧((v11 != 0)=false→(
   let bU:=uC ⟨x0.home.bq,x0.home.bm⟩ ar bB.1.e9 Dh ⟨c2.request.kind,c2.request.dz,⟨c2.request.key.dev,c2.request.key.dm,c2.request.key.attr⟩,c2.request.name,⟨c2.request.value.kind,c2.request.value.n,c2.request.value.s⟩,c2.request.text⟩
   (Hk ⟨x0.home.bq,x0.home.bm⟩ ar bB.1.e9 Dh ⟨c2.request.kind,c2.request.dz,⟨c2.request.key.dev,c2.request.key.dm,c2.request.key.attr⟩,c2.request.name,⟨c2.request.value.kind,c2.request.value.n,c2.request.value.s⟩,c2.request.text⟩)∧
   ((bU != 0)=true→(
    aN bU))∧((bU != 0)=false→(
    aN (0:Int)))))))∧((bB.2==0)=false→(
  bO bB.2))
def QI:List aK:=[⟨⟨#[111,110,111,102,102]⟩,[⟨⟨#[111,110]⟩,1,0,0,[],true,false⟩],[⟨⟨#[111,110]⟩,⟨⟨#[]⟩,0,0,0,[],false,false⟩,[⟨1,⟨#[111,110]⟩,1⟩]⟩,⟨⟨#[111,102,102]⟩,⟨⟨#[]⟩,0,0,0,[],false,false⟩,[⟨1,⟨#[111,110]⟩,0⟩]⟩,⟨⟨#[116,111,103,103,108,101]⟩,⟨⟨#[]⟩,0,0,0,[],false,false⟩,[⟨4,⟨#[111,110]⟩,0⟩]⟩],[]⟩,
 ⟨⟨#[108,101,118,101,108]⟩,[⟨⟨#[108,101,118,101,108]⟩,2,0,100,[],true,false⟩],[⟨⟨#[109,111,118,101]⟩,⟨⟨#[116,111]⟩,2,0,100,[],false,false⟩,[⟨2,⟨#[108,101,118,101,108]⟩,0⟩]⟩,⟨⟨#[115,116,101,112]⟩,⟨⟨#[]⟩,0,0,0,[],false,false⟩,[⟨3,⟨#[108,101,118,101,108]⟩,10⟩]⟩],[]⟩,
 ⟨⟨#[108,111,99,107]⟩,[⟨⟨#[108,111,99,107,101,100]⟩,1,0,0,[],true,true⟩],[⟨⟨#[108,111,99,107]⟩,⟨⟨#[]⟩,0,0,0,[],false,false⟩,[⟨1,⟨#[108,111,99,107,101,100]⟩,1⟩]⟩,⟨⟨#[117,110,108,111,99,107]⟩,⟨⟨#[]⟩,0,0,0,[],false,false⟩,[⟨1,⟨#[108,111,99,107,101,100]⟩,0⟩]⟩],[⟨#[106,97,109]⟩]⟩,
 ⟨⟨#[116,104,101,114,109,111,115,116,97,116]⟩,[⟨⟨#[116,97,114,103,101,116]⟩,2,50,300,[],true,false⟩,⟨⟨#[116,101,109,112]⟩,2,(-500),1000,[],false,false⟩],[],[]⟩,
 ⟨⟨#[115,109,111,107,101]⟩,[⟨⟨#[97,108,97,114,109]⟩,1,0,0,[],false,true⟩],[],[⟨#[116,101,115,116]⟩]⟩,
 ⟨⟨#[108,101,97,107]⟩,[⟨⟨#[119,101,116]⟩,1,0,0,[],false,true⟩],[],[]⟩,
 ⟨⟨#[118,97,108,118,101]⟩,[⟨⟨#[111,112,101,110]⟩,1,0,0,[],true,true⟩],[⟨⟨#[111,112,101,110]⟩,⟨⟨#[]⟩,0,0,0,[],false,false⟩,[⟨1,⟨#[111,112,101,110]⟩,1⟩]⟩,⟨⟨#[99,108,111,115,101]⟩,⟨⟨#[]⟩,0,0,0,[],false,false⟩,[⟨1,⟨#[111,112,101,110]⟩,0⟩]⟩],[]⟩,
 ⟨⟨#[109,101,116,101,114]⟩,[⟨⟨#[112,111,119,101,114]⟩,2,0,100000,[],false,false⟩],[],[]⟩]
def QJ:Prop:=True
noncomputable def CS:Config × (List cx):=
 (⟨⟨(QI),([⟨1,0,0,false,0,⟨#[104,97,108,108]⟩,([⟨#[111,110,111,102,102]⟩]:List ByteArray)⟩]:List bw)⟩,[],[],⟨0,[]⟩,7⟩,([⟨⟨#[97,110,110]⟩,4,[],[],false⟩]:List cx))
def QK:Prop:=
 QJ
noncomputable def HM(x0:eM):Int:=
 bif(!(jX x0.e9))then
  10
 else
  bif(((((decide (x0.id<1))||(decide (x0.id>1099511627776)))||(decide (x0.oT<0)))||(decide (x0.oT>x0.oU)))||(decide (x0.oU>1099511627776)))then
   2
  else
   bif(decide ((IntKind.wrap .i64 (x0.oU-x0.oT))>43200))then
    3
   else
    0
def QL(x0:eM):Prop:=
 p1 x0.e9
noncomputable def zj(x0:Int):ByteArray:=
 (bytesOf ([(IntKind.wrap .u8 (bA .shr .i64 x0 (24:Int))),(IntKind.wrap .u8 (bA .shr .i64 x0 (16:Int))),(IntKind.wrap .u8 (bA .shr .i64 x0 (8:Int))),(IntKind.wrap .u8 x0)]:List Int))
noncomputable def QM(x0:ByteArray):Int:=
 let v1:Int:=(ByteArray.size x0:Int)
 Sum.elim (fun r=>r) (fun bS=>
  bS)
 (bo (fun(i3:Nat) (aW:Int)=>
  show Step (Int) (Int)from
  .br (IntKind.wrap .u64 ((bA .xor .u64 aW (IntKind.wrap .u64 (ej x0 (i3:Int))))*(1099511628211:Int)))) 0 (Int.toNat v1) 14695981039346656037:Int⊕(Int))
def QN(x0:ByteArray):Prop:=
 let v1:Int:=(ByteArray.size x0:Int)
 0≤v1∧v1<(9223372036854775808:Int)
noncomputable def wC(x0:Int):ByteArray:=
 Sum.elim (fun r=>r) (fun bS=>
  bS.1)
 (c5 (fun(aW:ByteArray × Int)=>
  show Step (ByteArray) (ByteArray × Int)from
  bif(decide (aW.2≥0))then
   .br ((ByteArray.append aW.1 (bytesOf ([(IntKind.wrap .u8 (bA .shr .u64 x0 (IntKind.wrap .u64 ((8:Int)*(IntKind.wrap .u64 aW.2)))))]:List Int))),(IntKind.wrap .i64 (aW.2-(1:Int))))
  else
   .cO (aW.1,aW.2)) dV (⟨#[]⟩,7):ByteArray⊕(ByteArray × Int))
def CI(x0:Int):Prop:=
 ∃(bC:(ByteArray × Int)→Prop) (hg:(ByteArray × Int)→Nat),bC (⟨#[]⟩,7)∧hg (⟨#[]⟩,7)<dV∧∀(d0:ByteArray × Int),bC d0→(
  ((decide (d0.2≥0))=true→(
   let v5:Int:=IntKind.wrap .u64 ((8:Int)*(IntKind.wrap .u64 d0.2))
   (0≤v5)∧
   let v9:=bytesOf ([(IntKind.wrap .u8 (bA .shr .u64 x0 v5))]:List Int)
   (ByteArray.size d0.1+ByteArray.size v9≤9223372036854775807)∧
   bC ((ByteArray.append d0.1 v9),(IntKind.wrap .i64 (d0.2-(1:Int))))∧hg ((ByteArray.append d0.1 v9),(IntKind.wrap .i64 (d0.2-(1:Int))))<hg d0)))
noncomputable def CK(x0:Int)(ar:ByteArray):Int:=
 (IntKind.wrap .i64 (bA .shr .u64 (QM (ByteArray.append (ByteArray.append (wC x0) ar) (wC x0))) (32:Int)))
def CJ(x0:Int)(ar:ByteArray):Prop:=
 let v2:=wC x0
 (CI x0)∧
 let v3:=ByteArray.append v2 ar
 (ByteArray.size v2+ByteArray.size ar≤9223372036854775807)∧
 let v4:=wC x0
 (CI x0)∧
 let v5:=ByteArray.append v3 v4
 (ByteArray.size v3+ByteArray.size v4≤9223372036854775807)∧
 QN v5
noncomputable def CQ(x0:Int)(ar:ByteArray):ByteArray:=
 (ByteArray.append ar (zj (CK x0 ar)))
def Hf(x0:Int)(ar:ByteArray):Prop:=
 (CJ x0 ar)∧
 let v3:=zj (CK x0 ar)
 ByteArray.size ar+ByteArray.size v3≤9223372036854775807
noncomputable def zn(x0:eM):ByteArray:=
 (ByteArray.append (ByteArray.append (ByteArray.append (iH x0.e9) (fB x0.id)) (fB x0.oT)) (fB x0.oU))
def CR(x0:eM):Prop:=
 let v1:=iH x0.e9
 (pR x0.e9)∧
 let v2:=fB x0.id
 (iG x0.id)∧
 let v3:=ByteArray.append v1 v2
 (ByteArray.size v1+ByteArray.size v2≤9223372036854775807)∧
 let v4:=fB x0.oT
 (iG x0.oT)∧
 let v5:=ByteArray.append v3 v4
 (ByteArray.size v3+ByteArray.size v4≤9223372036854775807)∧
 let v6:=fB x0.oU
 (iG x0.oU)∧
 ByteArray.size v5+ByteArray.size v6≤9223372036854775807
noncomputable def zm(x0:Int)(ar:eM):ByteArray × Int:=
 let v2:=HM ar
 bif(v2 != 0)then
  (⟨#[]⟩,v2)
 else
  ((Qx (CQ x0 (zn ar))),0)
def Hp(x0:Int)(ar:eM):Prop:=
 let v2:=HM ar
 (QL ar)∧
 ((v2 != 0)=false→(
  let v4:=zn ar
  (CR ar)∧
  let v5:=CQ x0 v4
  (Hf x0 v4)∧
  G9 v5))
noncomputable def zp:Bool:=
 let v0:=CS
 let v3:=zm (7:Int) ⟨⟨#[97,110,110]⟩,1,0,100⟩
 let v6:=qc v0.1 v0.2 ([]:List cI) ([]:List Int) ⟨v3.1,⟨1,5,⟨1,⟨#[111,110,111,102,102]⟩,⟨#[111,110]⟩⟩,⟨#[]⟩,⟨0,0,⟨#[]⟩⟩,⟨#[]⟩⟩⟩ (5:Int) (5:Int)
 let v10:=qc v0.1 v0.2 v6.2.1 ([]:List Int) ⟨v3.1,⟨1,5,⟨1,⟨#[111,110,111,102,102]⟩,⟨#[111,110]⟩⟩,⟨#[]⟩,⟨0,0,⟨#[]⟩⟩,⟨#[]⟩⟩⟩ (5:Int) (5:Int)
 let fw:=qc v0.1 v0.2 v6.2.1 ([]:List Int) ⟨v3.1,⟨1,4,⟨1,⟨#[111,110,111,102,102]⟩,⟨#[111,110]⟩⟩,⟨#[]⟩,⟨0,0,⟨#[]⟩⟩,⟨#[]⟩⟩⟩ (5:Int) (5:Int)
 let b8:=uj (oy ⟨1,4,⟨1,⟨#[111,110,111,102,102]⟩,⟨#[111,110]⟩⟩,⟨#[]⟩,⟨0,0,⟨#[]⟩⟩,⟨#[]⟩⟩)
 let zw:Bool:=(((((v3.2==0)&&(cN .eql v6.1 (⟨#[97,110,110]⟩:ByteArray)))&&(v6.2.2==0))&&((List.length v6.2.1:Int)==1))&&(((List.getD v6.2.1 (Int.toNat (0:Int)) (aA .cI)).uA.top)==5))&&(v10.2.2==18)
 let v37:=bif b8.1.kind==1 then bif b8.1.dz==4 then bif b8.1.key.dev==1 then bif dF b8.1.key.dm (⟨#[111,110,111,102,102]⟩:ByteArray)then bif dF b8.1.key.attr (⟨#[111,110]⟩:ByteArray)then bif dF b8.1.name (⟨#[]⟩:ByteArray)then bif b8.1.value.kind==0 then bif b8.1.value.n==0 then bif dF b8.1.value.s (⟨#[]⟩:ByteArray)then dF b8.1.text (⟨#[]⟩:ByteArray)else false else false else false else false else false else false else false else false else false
 (((zw&&(fw.2.2==0))&&v37)&&(b8.2==0))
def wG:Prop:=
 let v0:=CS
 (QK)∧
 let v3:=zm (7:Int) ⟨⟨#[97,110,110]⟩,1,0,100⟩
 (Hp (7:Int) ⟨⟨#[97,110,110]⟩,1,0,100⟩)∧
 let v6:=qc v0.1 v0.2 ([]:List cI) ([]:List Int) ⟨v3.1,⟨1,5,⟨1,⟨#[111,110,111,102,102]⟩,⟨#[111,110]⟩⟩,⟨#[]⟩,⟨0,0,⟨#[]⟩⟩,⟨#[]⟩⟩⟩ (5:Int) (5:Int)
 (wE v0.1 v0.2 ([]:List cI) ([]:List Int) ⟨v3.1,⟨1,5,⟨1,⟨#[111,110,111,102,102]⟩,⟨#[111,110]⟩⟩,⟨#[]⟩,⟨0,0,⟨#[]⟩⟩,⟨#[]⟩⟩⟩ (5:Int) (5:Int))∧
 let _:=qc v0.1 v0.2 v6.2.1 ([]:List Int) ⟨v3.1,⟨1,5,⟨1,⟨#[111,110,111,102,102]⟩,⟨#[111,110]⟩⟩,⟨#[]⟩,⟨0,0,⟨#[]⟩⟩,⟨#[]⟩⟩⟩ (5:Int) (5:Int)
 (wE v0.1 v0.2 v6.2.1 ([]:List Int) ⟨v3.1,⟨1,5,⟨1,⟨#[111,110,111,102,102]⟩,⟨#[111,110]⟩⟩,⟨#[]⟩,⟨0,0,⟨#[]⟩⟩,⟨#[]⟩⟩⟩ (5:Int) (5:Int))∧
 let _:=qc v0.1 v0.2 v6.2.1 ([]:List Int) ⟨v3.1,⟨1,4,⟨1,⟨#[111,110,111,102,102]⟩,⟨#[111,110]⟩⟩,⟨#[]⟩,⟨0,0,⟨#[]⟩⟩,⟨#[]⟩⟩⟩ (5:Int) (5:Int)
 (wE v0.1 v0.2 v6.2.1 ([]:List Int) ⟨v3.1,⟨1,4,⟨1,⟨#[111,110,111,102,102]⟩,⟨#[111,110]⟩⟩,⟨#[]⟩,⟨0,0,⟨#[]⟩⟩,⟨#[]⟩⟩⟩ (5:Int) (5:Int))∧
 let eb:=oy ⟨1,4,⟨1,⟨#[111,110,111,102,102]⟩,⟨#[111,110]⟩⟩,⟨#[]⟩,⟨0,0,⟨#[]⟩⟩,⟨#[]⟩⟩
 (B5 ⟨1,4,⟨1,⟨#[111,110,111,102,102]⟩,⟨#[111,110]⟩⟩,⟨#[]⟩,⟨0,0,⟨#[]⟩⟩,⟨#[]⟩⟩)∧
 let _:=uj eb
 (yS eb)∧
 let iv:Bool:=(((v3.2==0)&&(cN .eql v6.1 (⟨#[97,110,110]⟩:ByteArray)))&&(v6.2.2==0))&&((List.length v6.2.1:Int)==1)
 iv=true→0≤(0:Int)∧(0:Int)<(List.length v6.2.1:Int)
noncomputable def BN(x0:Home)(ar:bu):Bool:=
 let v6:Bool:=(decide ((List.length x0.bq:Int)>300))||(decide ((List.length x0.bm:Int)>60))
 let aN:Int→Bool:=fun bB=>
  let aN:Int→Bool:=fun bz=>
   let v9:=bB==bz
   let aN:Bool→Bool:=fun v10=>
    (v6||(v9&&v10))
   bif v6 then
    aN false
   else
    bif v9 then
     aN (zp)
    else
     aN false
  bif v6 then
   aN (0:Int)
  else
   aN (zg x0 ar)
 bif v6 then
  aN (0:Int)
 else
  aN (mM x0 ar)
def OQ(x0:Home)(ar:bu):Prop:=
 let v6:Bool:=(decide ((List.length x0.bq:Int)>300))||(decide ((List.length x0.bm:Int)>60))
 let aN:Int→Prop:=fun bB=>
  let aN:Int→Prop:=fun bz=>
   let v9:=bB==bz
   (v6=false→(
    (v9=true→(
     wG))))
  (v6=true→(
   aN (0:Int)))∧(v6=false→(
   (CA x0 ar)∧
   aN (zg x0 ar)))
 (v6=true→(
  aN (0:Int)))∧(v6=false→(
  (Cr x0 ar)∧
  aN (mM x0 ar)))
noncomputable def BM(x0:bu)(ar:ByteArray):Bool:=
 let v12:Bool:=(((decide ((ByteArray.size ar:Int)>25000))||(decide ((ByteArray.size x0.text:Int)>25000)))||(decide ((ByteArray.size x0.name:Int)>1000)))||(decide ((ByteArray.size x0.key.dm:Int)>1000))
 bif((v12||(decide ((ByteArray.size x0.key.attr:Int)>1000)))||(decide ((ByteArray.size x0.value.s:Int)>1000)))then
  (zp)
 else
  let b8:=uj ar
  let v22:=yU ar
  let v28:=bif b8.1.kind==v22.1.kind then bif b8.1.dz==v22.1.dz then bif b8.1.key.dev==v22.1.key.dev then bif dF b8.1.key.dm v22.1.key.dm then bif dF b8.1.key.attr v22.1.key.attr then bif dF b8.1.name v22.1.name then bif b8.1.value.kind==v22.1.value.kind then bif b8.1.value.n==v22.1.value.n then bif dF b8.1.value.s v22.1.value.s then dF b8.1.text v22.1.text else false else false else false else false else false else false else false else false else false
  let v31:Bool:=((cN .eql (oy x0) (yW x0))&&v28)&&(b8.2==v22.2)
  let aN:Bool→Bool:=fun wJ=>
   (v31&&wJ)
  bif v31 then
   aN (zp)
  else
   aN false
def OL(x0:bu)(ar:ByteArray):Prop:=
 let v12:Bool:=(((decide ((ByteArray.size ar:Int)>25000))||(decide ((ByteArray.size x0.text:Int)>25000)))||(decide ((ByteArray.size x0.name:Int)>1000)))||(decide ((ByteArray.size x0.key.dm:Int)>1000))
 (((v12||(decide ((ByteArray.size x0.key.attr:Int)>1000)))||(decide ((ByteArray.size x0.value.s:Int)>1000)))=true→(
  wG))∧(((v12||(decide ((ByteArray.size x0.key.attr:Int)>1000)))||(decide ((ByteArray.size x0.value.s:Int)>1000)))=false→(
  let b8:=uj ar
  (yS ar)∧
  let v22:=yU ar
  (B3 ar)∧
  (B5 x0)∧
  (Gu x0)∧
  let v28:=bif b8.1.kind==v22.1.kind then bif b8.1.dz==v22.1.dz then bif b8.1.key.dev==v22.1.key.dev then bif dF b8.1.key.dm v22.1.key.dm then bif dF b8.1.key.attr v22.1.key.attr then bif dF b8.1.name v22.1.name then bif b8.1.value.kind==v22.1.value.kind then bif b8.1.value.n==v22.1.value.n then bif dF b8.1.value.s v22.1.value.s then dF b8.1.text v22.1.text else false else false else false else false else false else false else false else false else false
  let v31:Bool:=((cN .eql (oy x0) (yW x0))&&v28)&&(b8.2==v22.2)
  (v31=true→(
   wG))))
end Go.aL
