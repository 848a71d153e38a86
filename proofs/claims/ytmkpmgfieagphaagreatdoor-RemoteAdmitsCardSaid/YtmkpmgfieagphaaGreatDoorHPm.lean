/- Models, printed. Conditions: none. -/
import Derived.Test.YtmkpmgfieagphaaGreatDoorHTEk
open Go Go.aN Go.eg
namespace Go.aN
def IK{α:Type}[Inhabited α]:List α→Nat→α
 |[],_=>default
 |[x],_=>x
 |x::l,n=>bif Nat.beq n 0 then x else IK l (n-1)
noncomputable def gb(x0:Int):ByteArray:=
 Sum.elim (fun r=>r) (fun bD=>
  (bytesOf (List.append bD.2 ([(IntKind.wrap .u8 bD.1)]:List Int))))
 (cJ (fun(aM:Int × (List Int))=>
  show Step (ByteArray) (Int × (List Int))from
  bif(decide (aM.1≥128))then
   .bh ((bn .shr .u64 aM.1 (7:Int)),(List.append aM.2 ([(bn .or .u8 (IntKind.wrap .u8 aM.1) (128:Int))]:List Int)))
  else
   .cz (aM.1,aM.2)) dk ((bn .xor .u64 (bn .shl .u64 (IntKind.wrap .u64 x0) (1:Int)) (IntKind.wrap .u64 (bn .shr .i64 x0 (63:Int)))),[]):ByteArray⊕(Int × (List Int)))
def oJ(x0:Int):Prop:=
 let a1:(Int × (List Int))→Prop:=fun bD=>
  let v9:List Int:=([(IntKind.wrap .u8 bD.1)]:List Int)
  List.length bD.2+List.length v9≤maxLen∧(List.length bD.2+List.length v9)*1≤140737488355328
 ∃(bp:(Int × (List Int))→Prop) (eS:(Int × (List Int))→Nat),bp ((bn .xor .u64 (bn .shl .u64 (IntKind.wrap .u64 x0) (1:Int)) (IntKind.wrap .u64 (bn .shr .i64 x0 (63:Int)))),[])∧eS ((bn .xor .u64 (bn .shl .u64 (IntKind.wrap .u64 x0) (1:Int)) (IntKind.wrap .u64 (bn .shr .i64 x0 (63:Int)))),[])<dk∧∀(d0:Int × (List Int)),bp d0→(
  ((decide (d0.1≥128))=true→(
   let v11:List Int:=([(bn .or .u8 (IntKind.wrap .u8 d0.1) (128:Int))]:List Int)
   (List.length d0.2+List.length v11≤maxLen∧(List.length d0.2+List.length v11)*1≤140737488355328)∧
   bp ((bn .shr .u64 d0.1 (7:Int)),(List.append d0.2 v11))∧eS ((bn .shr .u64 d0.1 (7:Int)),(List.append d0.2 v11))<eS d0))∧((decide (d0.1≥128))=false→(
   a1 (d0.1,d0.2))))
noncomputable def iy(x0:ByteArray):ByteArray:=
 (ByteArray.append (gb (ByteArray.size x0:Int)) x0)
def sv(x0:ByteArray):Prop:=
 let v1:Int:=(ByteArray.size x0:Int)
 let v2:=gb v1
 (oJ v1)∧
 ByteArray.size v2+ByteArray.size x0≤9223372036854775807
noncomputable def sw(x0:Int):Bool:=
 ((decide (x0≥(-1099511627776)))&&(decide (x0≤1099511627776)))
noncomputable def mX(x0:c6):Int:=
 let bK:Bool→Int:=fun v1=>
  bif !v1 then
   2
  else
   bif(decide ((ByteArray.size x0.s:Int)>60))then
    3
   else
    bif((cf .neq x0.s (⟨#[]⟩:ByteArray))&&(x0.kind != 4))then
     4
    else
     0
 let aI:Bool→Int:=fun v1=>
  bif v1 then
   bK (x0.n==0)
  else
   bif(x0.kind==1)then
    bK ((x0.n==0)||(x0.n==1))
   else
    bif(x0.kind==2)then
     bK (sw x0.n)
    else
     bif(x0.kind==3)then
      bK ((decide (x0.n≥0))&&(decide (x0.n≤63)))
     else
      7
 let v1:=x0.kind==0
 bif v1 then
  aI v1
 else
  aI (x0.kind==4)
noncomputable def pY(x0:c6):ByteArray:=
 let aI:Int→Int→ByteArray→ByteArray:=fun v3 v4 v5=>
  let v6:=gb v3
  let bK:ByteArray→ByteArray:=fun bw=>
   bw
  let aI:Bool→ByteArray:=fun bw=>
   bif bw then
    bK (ByteArray.append v6 (gb v4))
   else
    bif(v3==4)then
     bK (ByteArray.append v6 (iy v5))
    else
     bK v6
  let bw:=v3==1
  bif bw then
   aI bw
  else
   let bx:=v3==2
   bif bx then
    aI bx
   else
    aI (v3==3)
 bif((mX x0) != 0)then
  aI (0:Int) (0:Int) (⟨#[]⟩:ByteArray)
 else
  aI x0.kind x0.n x0.s
def Hk(x0:c6):Prop:=
 let aI:Int→Int→ByteArray→Prop:=fun v3 v4 v5=>
  let v6:=gb v3
  (oJ v3)∧
  let aI:Bool→Prop:=fun bw=>
   (bw=true→(
    let v9:=gb v4
    (oJ v4)∧
    ByteArray.size v6+ByteArray.size v9≤9223372036854775807))∧(bw=false→(
    ((v3==4)=true→(
     let v10:=iy v5
     (sv v5)∧
     ByteArray.size v6+ByteArray.size v10≤9223372036854775807))))
  let bw:=v3==1
  (bw=true→(
   aI bw))∧(bw=false→(
   let bx:=v3==2
   (bx=true→(
    aI bx))∧(bx=false→(
    aI (v3==3)))))
 (((mX x0) != 0)=true→(
  aI (0:Int) (0:Int) (⟨#[]⟩:ByteArray)))∧(((mX x0) != 0)=false→(
  aI x0.kind x0.n x0.s))
noncomputable def zo(x0:bQ):ByteArray:=
 let bS:=ByteArray.append (ByteArray.append (ByteArray.append (ByteArray.append (ByteArray.append (ByteArray.append (gb x0.kind) (gb x0.dO)) (gb x0.key.dev)) (iy x0.key.cK)) (iy x0.key.attr)) (iy x0.name)) (pY ⟨x0.value.kind,x0.value.n,x0.value.s⟩)
 (ByteArray.append bS (iy x0.text))
def Hl(x0:bQ):Prop:=
 let v1:=gb x0.kind
 (oJ x0.kind)∧
 let v2:=gb x0.dO
 (oJ x0.dO)∧
 let v3:=ByteArray.append v1 v2
 (ByteArray.size v1+ByteArray.size v2≤9223372036854775807)∧
 let v4:=gb x0.key.dev
 (oJ x0.key.dev)∧
 let v5:=ByteArray.append v3 v4
 (ByteArray.size v3+ByteArray.size v4≤9223372036854775807)∧
 let v6:=iy x0.key.cK
 (sv x0.key.cK)∧
 let bw:=ByteArray.append v5 v6
 (ByteArray.size v5+ByteArray.size v6≤9223372036854775807)∧
 let bx:=iy x0.key.attr
 (sv x0.key.attr)∧
 let v9:=ByteArray.append bw bx
 (ByteArray.size bw+ByteArray.size bx≤9223372036854775807)∧
 let v10:=iy x0.name
 (sv x0.name)∧
 let v11:=ByteArray.append v9 v10
 (ByteArray.size v9+ByteArray.size v10≤9223372036854775807)∧
 let v12:=pY ⟨x0.value.kind,x0.value.n,x0.value.s⟩
 (Hk ⟨x0.value.kind,x0.value.n,x0.value.s⟩)∧
 let bS:=ByteArray.append v11 v12
 (ByteArray.size v11+ByteArray.size v12≤9223372036854775807)∧
 let dp:=iy x0.text
 (sv x0.text)∧
 ByteArray.size bS+ByteArray.size dp≤9223372036854775807
noncomputable def nK(x0:Rd):Rd × Int:=
 bif !x0.made then
  (x0,15)
 else
  (x0,x0.err)
noncomputable def zj(x0:ByteArray):Int × Int × Int:=
 let v1:Int:=(ByteArray.size x0:Int)
 Sum.elim (fun r=>r) (fun _=>
  (0,0,5))
 (bm (fun(i3:Nat) (aM:Int)=>
  show Step (Int × Int × Int) (Int)from
  let v5:Int:=dP x0 (i3:Int)
  bif(((decide ((i3:Int)>0))&&(v5==0))||(((i3:Int)==9)&&(decide (v5>1))))then
   .ret (0,0,4)
  else
   let dD:Int:=bn .or .u64 aM (bn .shl .u64 (IntKind.wrap .u64 (bn .and .u8 v5 (127:Int))) (IntKind.wrap .i64 ((7:Int)*(i3:Int))))
   bif(decide (v5<128))then
    .ret (dD,(IntKind.wrap .i64 ((i3:Int)+(1:Int))),0)
   else
    .bh dD) 0 (Int.toNat v1) 0:(Int × Int × Int)⊕(Int))
def He(x0:ByteArray):Prop:=
 let v1:Int:=(ByteArray.size x0:Int)
 (0≤v1∧v1<(9223372036854775808:Int))∧
 ∃bp:Nat→(Int)→Prop,bp 0 0∧∀(i3:Nat) (d0:Int),i3<Int.toNat v1→bp i3 d0→(
  let v5:Int:=dP x0 (i3:Int)
  ((((decide ((i3:Int)>0))&&(v5==0))||(((i3:Int)==9)&&(decide (v5>1))))=false→(
   let dp:Int:=IntKind.wrap .u64 (bn .and .u8 v5 (127:Int))
   let cU:Int:=IntKind.wrap .i64 ((7:Int)*(i3:Int))
   (0≤cU)∧
   let dD:Int:=bn .or .u64 d0 (bn .shl .u64 dp cU)
   ((decide (v5<128))=false→(
    bp (i3+1) dD)))))
noncomputable def hj(x0:Rd):Rd × Int:=
 let v1:=nK x0
 bif(v1.2 != 0)then
  (v1.1,0)
 else
  let v5:=zj v1.1.rest
  bif(v5.2.2 != 0)then
   (⟨v1.1.rest,v5.2.2,v1.1.made⟩,0)
  else
   (⟨(kF v1.1.rest (some v5.2.1) none),v1.1.err,v1.1.made⟩,(bn .xor .i64 (IntKind.wrap .i64 (bn .shr .u64 v5.1 (1:Int))) (IntKind.wrap .i64 (0-(IntKind.wrap .i64 (bn .and .u64 v5.1 (1:Int)))))))
def nN(x0:Rd):Prop:=
 let v1:=nK x0
 ((v1.2 != 0)=false→(
  let v5:=zj v1.1.rest
  (He v1.1.rest)∧
  ((v5.2.2 != 0)=false→(
   iC (ByteArray.size v1.1.rest) (some v5.2.1) none))))
noncomputable def zl(x0:Rd)(an:Int):Rd × Int:=
 let v2:=hj x0
 let v5:=nK v2.1
 bif(v5.2 != 0)then
  (v5.1,0)
 else
  bif(decide (v2.2<0))then
   (⟨v5.1.rest,4,v5.1.made⟩,0)
  else
   bif(decide (v2.2>(cI.den (.mx .i64) an (0:Int))))then
    (⟨v5.1.rest,3,v5.1.made⟩,0)
   else
    (v5.1,v2.2)
def Hf(x0:Rd)(_:Int):Prop:=
 let _:=hj x0
 nN x0
noncomputable def iz(x0:Rd)(an:Int):Rd × ByteArray:=
 let v2:=zl x0 an
 let v5:=nK v2.1
 bif(v5.2 != 0)then
  (v5.1,⟨#[]⟩)
 else
  bif(decide (v2.2>(ByteArray.size v5.1.rest:Int)))then
   (⟨v5.1.rest,5,v5.1.made⟩,⟨#[]⟩)
  else
   (⟨(kF v5.1.rest (some v2.2) none),v5.1.err,v5.1.made⟩,(kF v5.1.rest none (some v2.2)))
def sy(x0:Rd)(an:Int):Prop:=
 let v2:=zl x0 an
 (Hf x0 an)∧
 let v5:=nK v2.1
 ((v5.2 != 0)=false→(
  ((decide (v2.2>(ByteArray.size v5.1.rest:Int)))=false→(
   (iC (ByteArray.size v5.1.rest) none (some v2.2))∧
   iC (ByteArray.size v5.1.rest) (some v2.2) none))))
noncomputable def CH(x0:Rd)(an:Int):Rd:=
 let v2:=nK x0
 bif(v2.2==0)then
  ⟨v2.1.rest,an,v2.1.made⟩
 else
  v2.1
noncomputable def wu(x0:Rd):Rd × c6:=
 let v1:=hj x0
 let bK:Int→ByteArray→ByteArray→Int→Bool→Rd × c6:=fun v6 bw bx v9 v10=>
  let aI:ByteArray→Int→Bool→Rd × c6:=fun bS dp cU=>
   let cT:=nK ⟨bS,dp,cU⟩
   bif(cT.2 != 0)then
    (cT.1,⟨0,0,⟨#[]⟩⟩)
   else
    (cT.1,⟨v1.2,v6,bw⟩)
  bif((mX ⟨v1.2,v6,bw⟩) != 0)then
   let bS:=CH ⟨bx,v9,v10⟩ (4:Int)
   aI bS.rest bS.err bS.made
  else
   aI bx v9 v10
 let aI:Bool→Rd × c6:=fun v4=>
  bif v4 then
   let v6:=hj v1.1
   bK v6.2 (⟨#[]⟩:ByteArray) v6.1.rest v6.1.err v6.1.made
  else
   bif(v1.2==4)then
    let bw:=iz v1.1 (60:Int)
    bK (0:Int) bw.2 bw.1.rest bw.1.err bw.1.made
   else
    bK (0:Int) (⟨#[]⟩:ByteArray) v1.1.rest v1.1.err v1.1.made
 let v4:=v1.2==1
 bif v4 then
  aI v4
 else
  let v5:=v1.2==2
  bif v5 then
   aI v5
  else
   aI (v1.2==3)
def CI(x0:Rd):Prop:=
 let v1:=hj x0
 (nN x0)∧
 let aI:Bool→Prop:=fun v4=>
  (v4=true→(
   let _:=hj v1.1
   nN v1.1))∧(v4=false→(
   ((v1.2==4)=true→(
    let _:=iz v1.1 (60:Int)
    sy v1.1 (60:Int)))))
 let v4:=v1.2==1
 (v4=true→(
  aI v4))∧(v4=false→(
  let v5:=v1.2==2
  (v5=true→(
   aI v5))∧(v5=false→(
   aI (v1.2==3)))))
noncomputable def Hd(x0:Rd):Rd × Int:=
 let v1:=nK x0
 bif(v1.2 != 0)then
  (v1.1,0)
 else
  (v1.1,(ByteArray.size v1.1.rest:Int))
noncomputable def wv(x0:Rd):Rd × Int:=
 let v1:=Hd x0
 bif(decide (v1.2>0))then
  (v1.1,23)
 else
  let v5:=nK v1.1
  (v5.1,v5.2)
noncomputable def zM(x0:bQ):Int:=
 bif((decide (x0.kind<1))||(decide (x0.kind>7)))then
  7
 else
  0
noncomputable def zN(x0:bQ):Int:=
 bif((decide (x0.dO<0))||(decide (x0.dO>1099511627776)))then
  2
 else
  0
noncomputable def IM(x0:ByteArray):bQ × Int:=
 let v1:=hj ⟨x0,0,true⟩
 let v4:=hj v1.1
 let bw:=hj v4.1
 let v10:=iz bw.1 (24:Int)
 let bS:=iz v10.1 (24:Int)
 let cT:=iz bS.1 (24:Int)
 let cj:=wu cT.1
 let v22:=iz cj.1 (20000:Int)
 let aI:Int→bQ × Int:=fun v25=>
  bif(v25 != 0)then
   (⟨0,0,⟨0,⟨#[]⟩,⟨#[]⟩⟩,⟨#[]⟩,⟨0,0,⟨#[]⟩⟩,⟨#[]⟩⟩,v25)
  else
   (⟨v1.2,v4.2,⟨bw.2,v10.2,bS.2⟩,cT.2,⟨cj.2.kind,cj.2.n,cj.2.s⟩,v22.2⟩,0)
 let v25:=wv v22.1
 bif(v25.2 != 0)then
  aI v25.2
 else
  let h3:=zM ⟨v1.2,v4.2,⟨bw.2,v10.2,bS.2⟩,cT.2,⟨cj.2.kind,cj.2.n,cj.2.s⟩,v22.2⟩
  bif(h3 != 0)then
   aI h3
  else
   let v31:=zN ⟨v1.2,v4.2,⟨bw.2,v10.2,bS.2⟩,cT.2,⟨cj.2.kind,cj.2.n,cj.2.s⟩,v22.2⟩
   bif(v31 != 0)then
    aI v31
   else
    aI (0:Int)
def CJ(x0:ByteArray):Prop:=
 let v1:=hj ⟨x0,0,true⟩
 (nN ⟨x0,0,true⟩)∧
 let v4:=hj v1.1
 (nN v1.1)∧
 let bw:=hj v4.1
 (nN v4.1)∧
 let v10:=iz bw.1 (24:Int)
 (sy bw.1 (24:Int))∧
 let bS:=iz v10.1 (24:Int)
 (sy v10.1 (24:Int))∧
 let cT:=iz bS.1 (24:Int)
 (sy bS.1 (24:Int))∧
 let cj:=wu cT.1
 (CI cT.1)∧
 let _:=iz cj.1 (20000:Int)
 sy cj.1 (20000:Int)
noncomputable def IN(x0:Int):Bool:=
 ((decide (x0≥97))&&(decide (x0≤122)))
noncomputable def iA(x0:ByteArray):Bool:=
 bif((decide ((ByteArray.size x0:Int)<1))||(decide ((ByteArray.size x0:Int)>24)))then
  false
 else
  Sum.elim (fun r=>r) (fun _=>
   true)
  (cJ (fun(aM:Int)=>
   show Step (Bool) (Int)from
   let v9:Int:=cI.den .mb x0 aM
   bif(cI.den .ma x0 aM)then
    bif((!(IN v9))&&(((cI.den .mc x0 aM)==0)||(((v9 != 95)&&(v9 != 45))&&((decide (v9<48))||(decide (v9>57))))))then
     .ret false
    else
     .bh (cI.den .kX x0 aM)
   else
    .cz aM) dk 0:Bool⊕(Int))
def nO(x0:ByteArray):Prop:=
 (((decide ((ByteArray.size x0:Int)<1))||(decide ((ByteArray.size x0:Int)>24)))=false→(
  ∃(bp:(Int)→Prop) (eS:(Int)→Nat),bp 0∧eS 0<dk∧∀(d0:Int),bp d0→(
   let v9:Int:=cI.den .mb x0 d0
   ((cI.den .ma x0 d0)=true→(
    (((!(IN v9))&&(((cI.den .mc x0 d0)==0)||(((v9 != 95)&&(v9 != 45))&&((decide (v9<48))||(decide (v9>57))))))=false→(
     bp (cI.den .kX x0 d0)∧eS (cI.den .kX x0 d0)<eS d0)))))))
noncomputable def pW(x0:dA):dA × Int:=
 bif !x0.made then
  (x0,15)
 else
  (x0,x0.bad)
noncomputable def oK(x0:dA):dA × Int:=
 let v1:=pW x0
 bif(v1.2 != 0)then
  (v1.1,0)
 else
  Sum.elim (fun r=>r) (fun _=>
   (v1.1,0))
  (bm (fun(i6:Nat) (aM:Int)=>
   show Step (dA × Int) (Int)from
   bif(decide ((IntKind.wrap .i64 (v1.1.at_+(i6:Int)))≥(ByteArray.size v1.1.s:Int)))then
    .ret (⟨v1.1.s,v1.1.at_,5,v1.1.made⟩,0)
   else
    let v12:Int:=dP v1.1.s (IntKind.wrap .i64 (v1.1.at_+(i6:Int)))
    bif(((decide ((i6:Int)>0))&&(v12==0))||(((i6:Int)==9)&&(decide (v12>1))))then
     .ret (⟨v1.1.s,v1.1.at_,4,v1.1.made⟩,0)
    else
     let v24:Int:=bn .or .u64 aM (bn .shl .u64 (IntKind.wrap .u64 (bn .rem .u8 v12 (128:Int))) (IntKind.wrap .i64 ((7:Int)*(i6:Int))))
     bif(decide (v12<128))then
      let h3:Int:=IntKind.wrap .i64 (bn .shr .u64 v24 (1:Int))
      let aI:Int→Step (dA × Int) (Int):=fun v30=>
       .ret (⟨v1.1.s,(IntKind.wrap .i64 ((IntKind.wrap .i64 (v1.1.at_+(i6:Int)))+(1:Int))),v1.1.bad,v1.1.made⟩,v30)
      bif((bn .rem .u64 v24 (2:Int))==1)then
       aI (IntKind.wrap .i64 (((-1):Int)-h3))
      else
       aI h3
     else
      .bh v24) 0 (Int.toNat (10:Int)) 0:(dA × Int)⊕(Int))
def uh(x0:dA):Prop:=
 let v1:=pW x0
 ((v1.2 != 0)=false→(
  ∃bp:Nat→(Int)→Prop,bp 0 0∧∀(i6:Nat) (d0:Int),i6<Int.toNat (10:Int)→bp i6 d0→(
   ((decide ((IntKind.wrap .i64 (v1.1.at_+(i6:Int)))≥(ByteArray.size v1.1.s:Int)))=false→(
    let v11:Int:=IntKind.wrap .i64 (v1.1.at_+(i6:Int))
    let v12:Int:=dP v1.1.s v11
    (0≤v11∧v11<(ByteArray.size v1.1.s:Int))∧
    ((((decide ((i6:Int)>0))&&(v12==0))||(((i6:Int)==9)&&(decide (v12>1))))=false→(
     let v21:Int:=IntKind.wrap .u64 (bn .rem .u8 v12 (128:Int))
     let v22:Int:=IntKind.wrap .i64 ((7:Int)*(i6:Int))
     (0≤v22)∧
     let v24:Int:=bn .or .u64 d0 (bn .shl .u64 v21 v22)
     ((decide (v12<128))=false→(
      bp (i6+1) v24)))))))))
noncomputable def zm(x0:dA)(an:Int):dA × Int:=
 let v2:=oK x0
 let aI:Int→dA × Int:=fun v5=>
  let bw:=pW v2.1
  bif(bw.2 != 0)then
   (bw.1,0)
  else
   bif(decide (v2.2<0))then
    (⟨bw.1.s,bw.1.at_,4,bw.1.made⟩,0)
   else
    bif(decide (v2.2>v5))then
     (⟨bw.1.s,bw.1.at_,3,bw.1.made⟩,0)
    else
     (bw.1,v2.2)
 bif(decide (an<0))then
  aI (0:Int)
 else
  aI an
def Hh(x0:dA)(_:Int):Prop:=
 let _:=oK x0
 uh x0
noncomputable def uf(x0:dA)(an:Int):dA × ByteArray:=
 let v2:=zm x0 an
 let v5:=pW v2.1
 bif(v5.2 != 0)then
  (v5.1,⟨#[]⟩)
 else
  bif(decide (v2.2>(IntKind.wrap .i64 ((ByteArray.size v5.1.s:Int)-v5.1.at_))))then
   (⟨v5.1.s,v5.1.at_,5,v5.1.made⟩,⟨#[]⟩)
  else
   (⟨v5.1.s,(IntKind.wrap .i64 (v5.1.at_+v2.2)),v5.1.bad,v5.1.made⟩,(kF v5.1.s (some v5.1.at_) (some (IntKind.wrap .i64 (v5.1.at_+v2.2)))))
def Hi(x0:dA)(an:Int):Prop:=
 let v2:=zm x0 an
 (Hh x0 an)∧
 let v5:=pW v2.1
 ((v5.2 != 0)=false→(
  ((decide (v2.2>(IntKind.wrap .i64 ((ByteArray.size v5.1.s:Int)-v5.1.at_))))=false→(
   let v12:Int:=IntKind.wrap .i64 (v5.1.at_+v2.2)
   iC (ByteArray.size v5.1.s) (some v5.1.at_) (some v12)))))
noncomputable def wm(x0:c6):Int:=
 let bK:Int→Int→Int:=fun v1 v2=>
  bif((decide (x0.n<v1))||(decide (x0.n>v2)))then
   2
  else
   bif(decide ((ByteArray.size x0.s:Int)>60))then
    3
   else
    bif((cf .neq x0.s (⟨#[]⟩:ByteArray))&&(x0.kind != 4))then
     4
    else
     0
 let aI:Bool→Int:=fun v1=>
  bif v1 then
   bK (0:Int) (0:Int)
  else
   bif(x0.kind==1)then
    bK (0:Int) (1:Int)
   else
    bif(x0.kind==2)then
     bK ((-1099511627776):Int) (1099511627776:Int)
    else
     bif(x0.kind==3)then
      bK (0:Int) (63:Int)
     else
      7
 let v1:=x0.kind==0
 bif v1 then
  aI v1
 else
  aI (x0.kind==4)
noncomputable def zn(x0:dA):dA × Int:=
 let v1:=pW x0
 bif(v1.2 != 0)then
  let v5:=pW v1.1
  (v5.1,v5.2)
 else
  bif(decide (v1.1.at_<(ByteArray.size v1.1.s:Int)))then
   (v1.1,23)
  else
   (v1.1,0)
noncomputable def j2(x0:Int):ByteArray:=
 let v2:Int:=bn .shl .u64 (IntKind.wrap .u64 x0) (1:Int)
 let aI:Int→ByteArray:=fun v3=>
  Sum.elim (fun r=>r) (fun bD=>
   (bytesOf (List.append bD.2 ([(IntKind.wrap .u8 bD.1)]:List Int))))
  (cJ (fun(aM:Int × (List Int))=>
   show Step (ByteArray) (Int × (List Int))from
   bif(decide (aM.1≥128))then
    .bh ((bn .quo .u64 aM.1 (128:Int)),(List.append aM.2 ([(IntKind.wrap .u8 ((IntKind.wrap .u8 (bn .rem .u64 aM.1 (128:Int)))+(128:Int)))]:List Int)))
   else
    .cz (aM.1,aM.2)) dk (v3,[]):ByteArray⊕(Int × (List Int)))
 bif(decide (x0<0))then
  aI (gL.den (.uT .u64) v2)
 else
  aI v2
def pV(x0:Int):Prop:=
 let v2:Int:=bn .shl .u64 (IntKind.wrap .u64 x0) (1:Int)
 let aI:Int→Prop:=fun v3=>
  let a1:(Int × (List Int))→Prop:=fun bD=>
   let bx:List Int:=([(IntKind.wrap .u8 bD.1)]:List Int)
   List.length bD.2+List.length bx≤maxLen∧(List.length bD.2+List.length bx)*1≤140737488355328
  ∃(bp:(Int × (List Int))→Prop) (eS:(Int × (List Int))→Nat),bp (v3,[])∧eS (v3,[])<dk∧∀(d0:Int × (List Int)),bp d0→(
   ((decide (d0.1≥128))=true→(
    let v11:List Int:=([(IntKind.wrap .u8 ((IntKind.wrap .u8 (bn .rem .u64 d0.1 (128:Int)))+(128:Int)))]:List Int)
    (List.length d0.2+List.length v11≤maxLen∧(List.length d0.2+List.length v11)*1≤140737488355328)∧
    bp ((bn .quo .u64 d0.1 (128:Int)),(List.append d0.2 v11))∧eS ((bn .quo .u64 d0.1 (128:Int)),(List.append d0.2 v11))<eS d0))∧((decide (d0.1≥128))=false→(
    a1 (d0.1,d0.2))))
 ((decide (x0<0))=true→(
  aI (gL.den (.uT .u64) v2)))∧((decide (x0<0))=false→(
  aI v2))
noncomputable def q1(x0:ByteArray):ByteArray:=
 (ByteArray.append (j2 (ByteArray.size x0:Int)) x0)
def CG(x0:ByteArray):Prop:=
 let v1:Int:=(ByteArray.size x0:Int)
 let v2:=j2 v1
 (pV v1)∧
 ByteArray.size v2+ByteArray.size x0≤9223372036854775807
noncomputable def iB(x0:ByteArray):Bool:=
 let v3:Int:=(ByteArray.size x0:Int)
 bif((decide ((ByteArray.size x0:Int)<1))||(decide (v3>24)))then
  false
 else
  Sum.elim (fun r=>r) (fun _=>
   true)
  (bm (fun(i6:Nat) (_:Unit)=>
   show Step (Bool) (Unit)from
   let bx:Int:=dP x0 (i6:Int)
   bif((!((decide (bx≥97))&&(decide (bx≤122))))&&(((i6:Int)==0)||(((bx != 95)&&(bx != 45))&&((decide (bx<48))||(decide (bx>57))))))then
    .ret false
   else
    .bh ()) 0 (Int.toNat v3) ():Bool⊕(Unit))
def nP(x0:ByteArray):Prop:=
 let v3:Int:=(ByteArray.size x0:Int)
 (((decide ((ByteArray.size x0:Int)<1))||(decide (v3>24)))=false→(
  0≤v3∧v3<(9223372036854775808:Int)))
noncomputable def R3(x0:ByteArray):ByteArray:=
 let v1:Int:=(ByteArray.size x0:Int)
 Sum.elim (fun r=>r) (fun bD=>
  (bytesOf bD))
 (bm (fun(i3:Nat) (aM:(List Int))=>
  show Step (ByteArray) ((List Int))from
  let v11:List Int:=([(dP (⟨#[48,49,50,51,52,53,54,55,56,57,97,98,99,100,101,102]⟩:ByteArray) (bn .quo .u8 (dP x0 (i3:Int)) (16:Int))),(dP (⟨#[48,49,50,51,52,53,54,55,56,57,97,98,99,100,101,102]⟩:ByteArray) (bn .rem .u8 (dP x0 (i3:Int)) (16:Int)))]:List Int)
  .bh (List.append aM v11)) 0 (Int.toNat v1) []:ByteArray⊕((List Int)))
def HX(x0:ByteArray):Prop:=
 let v1:Int:=(ByteArray.size x0:Int)
 (0≤v1∧v1<(9223372036854775808:Int))∧
 ∃bp:Nat→((List Int))→Prop,bp 0 []∧∀(i3:Nat) (d0:(List Int)),i3<Int.toNat v1→bp i3 d0→(
  let v6:Int:=bn .quo .u8 (dP x0 (i3:Int)) (16:Int)
  (0≤v6∧v6<(ByteArray.size (⟨#[48,49,50,51,52,53,54,55,56,57,97,98,99,100,101,102]⟩:ByteArray):Int))∧
  let v9:Int:=bn .rem .u8 (dP x0 (i3:Int)) (16:Int)
  (0≤v9∧v9<(ByteArray.size (⟨#[48,49,50,51,52,53,54,55,56,57,97,98,99,100,101,102]⟩:ByteArray):Int))∧
  let v11:List Int:=([(dP (⟨#[48,49,50,51,52,53,54,55,56,57,97,98,99,100,101,102]⟩:ByteArray) v6),(dP (⟨#[48,49,50,51,52,53,54,55,56,57,97,98,99,100,101,102]⟩:ByteArray) v9)]:List Int)
  (List.length d0+List.length v11≤maxLen∧(List.length d0+List.length v11)*1≤140737488355328)∧
  bp (i3+1) (List.append d0 v11))
noncomputable def CV(x0:Int):Int:=
 (cI.den (.uU .i64) (cI.den (.mx .i64) x0 ((-1099511627776):Int)) (1099511627776:Int))
noncomputable def uC(x0:Int):Int:=
 Sum.elim (fun r=>r) (fun _=>
  (-1))
 (bm (fun(i17:Nat) (_:Unit)=>
  show Step (Int) (Unit)from
  let cj:Int:=IK ([(dP (⟨#[48,49,50,51,52,53,54,55,56,57,97,98,99,100,101,102]⟩:ByteArray) (0:Int)),(dP (⟨#[48,49,50,51,52,53,54,55,56,57,97,98,99,100,101,102]⟩:ByteArray) (1:Int)),(dP (⟨#[48,49,50,51,52,53,54,55,56,57,97,98,99,100,101,102]⟩:ByteArray) (2:Int)),(dP (⟨#[48,49,50,51,52,53,54,55,56,57,97,98,99,100,101,102]⟩:ByteArray) (3:Int)),(dP (⟨#[48,49,50,51,52,53,54,55,56,57,97,98,99,100,101,102]⟩:ByteArray) (4:Int)),(dP (⟨#[48,49,50,51,52,53,54,55,56,57,97,98,99,100,101,102]⟩:ByteArray) (5:Int)),(dP (⟨#[48,49,50,51,52,53,54,55,56,57,97,98,99,100,101,102]⟩:ByteArray) (6:Int)),(dP (⟨#[48,49,50,51,52,53,54,55,56,57,97,98,99,100,101,102]⟩:ByteArray) (7:Int)),(dP (⟨#[48,49,50,51,52,53,54,55,56,57,97,98,99,100,101,102]⟩:ByteArray) (8:Int)),(dP (⟨#[48,49,50,51,52,53,54,55,56,57,97,98,99,100,101,102]⟩:ByteArray) (9:Int)),(dP (⟨#[48,49,50,51,52,53,54,55,56,57,97,98,99,100,101,102]⟩:ByteArray) (10:Int)),(dP (⟨#[48,49,50,51,52,53,54,55,56,57,97,98,99,100,101,102]⟩:ByteArray) (11:Int)),(dP (⟨#[48,49,50,51,52,53,54,55,56,57,97,98,99,100,101,102]⟩:ByteArray) (12:Int)),(dP (⟨#[48,49,50,51,52,53,54,55,56,57,97,98,99,100,101,102]⟩:ByteArray) (13:Int)),(dP (⟨#[48,49,50,51,52,53,54,55,56,57,97,98,99,100,101,102]⟩:ByteArray) (14:Int)),(dP (⟨#[48,49,50,51,52,53,54,55,56,57,97,98,99,100,101,102]⟩:ByteArray) (15:Int))]:List Int) (Int.toNat (i17:Int))
  bif(cj==x0)then
   .ret (i17:Int)
  else
   .bh ()) 0 (Int.toNat (16:Int)) ():Int⊕(Unit))
def zP(_:Int):Prop:=
 (0≤(0:Int)∧(0:Int)<(ByteArray.size (⟨#[48,49,50,51,52,53,54,55,56,57,97,98,99,100,101,102]⟩:ByteArray):Int))∧
 (0≤(1:Int)∧(1:Int)<(ByteArray.size (⟨#[48,49,50,51,52,53,54,55,56,57,97,98,99,100,101,102]⟩:ByteArray):Int))∧
 (0≤(2:Int)∧(2:Int)<(ByteArray.size (⟨#[48,49,50,51,52,53,54,55,56,57,97,98,99,100,101,102]⟩:ByteArray):Int))∧
 (0≤(3:Int)∧(3:Int)<(ByteArray.size (⟨#[48,49,50,51,52,53,54,55,56,57,97,98,99,100,101,102]⟩:ByteArray):Int))∧
 (0≤(4:Int)∧(4:Int)<(ByteArray.size (⟨#[48,49,50,51,52,53,54,55,56,57,97,98,99,100,101,102]⟩:ByteArray):Int))∧
 (0≤(5:Int)∧(5:Int)<(ByteArray.size (⟨#[48,49,50,51,52,53,54,55,56,57,97,98,99,100,101,102]⟩:ByteArray):Int))∧
 (0≤(6:Int)∧(6:Int)<(ByteArray.size (⟨#[48,49,50,51,52,53,54,55,56,57,97,98,99,100,101,102]⟩:ByteArray):Int))∧
 (0≤(7:Int)∧(7:Int)<(ByteArray.size (⟨#[48,49,50,51,52,53,54,55,56,57,97,98,99,100,101,102]⟩:ByteArray):Int))∧
 (0≤(8:Int)∧(8:Int)<(ByteArray.size (⟨#[48,49,50,51,52,53,54,55,56,57,97,98,99,100,101,102]⟩:ByteArray):Int))∧
 (0≤(9:Int)∧(9:Int)<(ByteArray.size (⟨#[48,49,50,51,52,53,54,55,56,57,97,98,99,100,101,102]⟩:ByteArray):Int))∧
 (0≤(10:Int)∧(10:Int)<(ByteArray.size (⟨#[48,49,50,51,52,53,54,55,56,57,97,98,99,100,101,102]⟩:ByteArray):Int))∧
 (0≤(11:Int)∧(11:Int)<(ByteArray.size (⟨#[48,49,50,51,52,53,54,55,56,57,97,98,99,100,101,102]⟩:ByteArray):Int))∧
 (0≤(12:Int)∧(12:Int)<(ByteArray.size (⟨#[48,49,50,51,52,53,54,55,56,57,97,98,99,100,101,102]⟩:ByteArray):Int))∧
 (0≤(13:Int)∧(13:Int)<(ByteArray.size (⟨#[48,49,50,51,52,53,54,55,56,57,97,98,99,100,101,102]⟩:ByteArray):Int))∧
 (0≤(14:Int)∧(14:Int)<(ByteArray.size (⟨#[48,49,50,51,52,53,54,55,56,57,97,98,99,100,101,102]⟩:ByteArray):Int))∧
 0≤(15:Int)∧(15:Int)<(ByteArray.size (⟨#[48,49,50,51,52,53,54,55,56,57,97,98,99,100,101,102]⟩:ByteArray):Int)
noncomputable def jL(x0:ByteArray):ByteArray × Int:=
 let v1:Int:=(ByteArray.size x0:Int)
 bif((bn .rem .i64 v1 (2:Int)) != 0)then
  (⟨#[]⟩,4)
 else
  Sum.elim (fun r=>r) (fun bD=>
   ((bytesOf bD.2),0))
  (cJ (fun(aM:Int × (List Int))=>
   show Step (ByteArray × Int) (Int × (List Int))from
   bif(decide (aM.1<v1))then
    let v12:=uC (dP x0 aM.1)
    let bS:=uC (dP x0 (IntKind.wrap .i64 (aM.1+(1:Int))))
    bif((decide (v12<0))||(decide (bS<0)))then
     .ret (⟨#[]⟩,4)
    else
     .bh ((IntKind.wrap .i64 (aM.1+(2:Int))),(List.append aM.2 ([(IntKind.wrap .u8 (IntKind.wrap .i64 ((IntKind.wrap .i64 ((16:Int)*v12))+bS)))]:List Int)))
   else
    .cz (aM.1,aM.2)) dk (0,(List.replicate (Int.toNat (0:Int)) (aw .u8))):(ByteArray × Int)⊕(Int × (List Int)))
def Dj(x0:ByteArray):Prop:=
 let v1:Int:=(ByteArray.size x0:Int)
 (((bn .rem .i64 v1 (2:Int)) != 0)=false→(
  (0≤(0:Int)∧(0:Int)≤(bn .quo .i64 v1 (2:Int))∧(bn .quo .i64 v1 (2:Int))≤(maxLen:Int)∧(1:Int)*(bn .quo .i64 v1 (2:Int))≤281474976710656)∧
  ∃(bp:(Int × (List Int))→Prop) (eS:(Int × (List Int))→Nat),bp (0,(List.replicate (Int.toNat (0:Int)) (aw .u8)))∧eS (0,(List.replicate (Int.toNat (0:Int)) (aw .u8)))<dk∧∀(d0:Int × (List Int)),bp d0→(
   ((decide (d0.1<v1))=true→(
    let v9:Int:=dP x0 d0.1
    (0≤d0.1∧d0.1<(ByteArray.size x0:Int))∧
    let v10:Int:=IntKind.wrap .i64 (d0.1+(1:Int))
    let v11:Int:=dP x0 v10
    (0≤v10∧v10<(ByteArray.size x0:Int))∧
    let v12:=uC v9
    (zP v9)∧
    let bS:=uC v11
    (zP v11)∧
    (((decide (v12<0))||(decide (bS<0)))=false→(
     let v20:List Int:=([(IntKind.wrap .u8 (IntKind.wrap .i64 ((IntKind.wrap .i64 ((16:Int)*v12))+bS)))]:List Int)
     (List.length d0.2+List.length v20≤maxLen∧(List.length d0.2+List.length v20)*1≤140737488355328)∧
     bp ((IntKind.wrap .i64 (d0.1+(2:Int))),(List.append d0.2 v20))∧eS ((IntKind.wrap .i64 (d0.1+(2:Int))),(List.append d0.2 v20))<eS d0)))))))
noncomputable def uB(x0:Int):Int:=
 bif((decide (x0≥48))&&(decide (x0≤57)))then
  (IntKind.wrap .i64 (IntKind.wrap .u8 (x0-(48:Int))))
 else
  bif((decide (x0≥97))&&(decide (x0≤102)))then
   (IntKind.wrap .i64 ((IntKind.wrap .i64 (IntKind.wrap .u8 (x0-(97:Int))))+(10:Int)))
  else
   (-1)
noncomputable def zX(x0:ByteArray):ByteArray × Int:=
 let v1:Int:=(ByteArray.size x0:Int)
 bif((bn .rem .i64 v1 (2:Int)) != 0)then
  (⟨#[]⟩,4)
 else
  Sum.elim (fun r=>r) (fun bD=>
   ((bytesOf bD.2),0))
  (cJ (fun(aM:Int × (List Int))=>
   show Step (ByteArray × Int) (Int × (List Int))from
   bif(decide (aM.1<v1))then
    let v10:=uB (dP x0 aM.1)
    let v11:=uB (dP x0 (IntKind.wrap .i64 (aM.1+(1:Int))))
    bif((decide (v10<0))||(decide (v11<0)))then
     .ret (⟨#[]⟩,4)
    else
     .bh ((IntKind.wrap .i64 (aM.1+(2:Int))),(List.append aM.2 ([(IntKind.wrap .u8 (IntKind.wrap .i64 ((IntKind.wrap .i64 ((16:Int)*v10))+v11)))]:List Int)))
   else
    .cz (aM.1,aM.2)) dk (0,[]):(ByteArray × Int)⊕(Int × (List Int)))
def Dv(x0:ByteArray):Prop:=
 let v1:Int:=(ByteArray.size x0:Int)
 (((bn .rem .i64 v1 (2:Int)) != 0)=false→(
  ∃(bp:(Int × (List Int))→Prop) (eS:(Int × (List Int))→Nat),bp (0,[])∧eS (0,[])<dk∧∀(d0:Int × (List Int)),bp d0→(
   ((decide (d0.1<v1))=true→(
    (0≤d0.1∧d0.1<(ByteArray.size x0:Int))∧
    let bx:Int:=IntKind.wrap .i64 (d0.1+(1:Int))
    (0≤bx∧bx<(ByteArray.size x0:Int))∧
    let v10:=uB (dP x0 d0.1)
    let v11:=uB (dP x0 bx)
    (((decide (v10<0))||(decide (v11<0)))=false→(
     let dQ:List Int:=([(IntKind.wrap .u8 (IntKind.wrap .i64 ((IntKind.wrap .i64 ((16:Int)*v10))+v11)))]:List Int)
     (List.length d0.2+List.length dQ≤maxLen∧(List.length d0.2+List.length dQ)*1≤140737488355328)∧
     bp ((IntKind.wrap .i64 (d0.1+(2:Int))),(List.append d0.2 dQ))∧eS ((IntKind.wrap .i64 (d0.1+(2:Int))),(List.append d0.2 dQ))<eS d0)))))))
noncomputable def lF(x0:List ByteArray)(an:ByteArray):Int:=
 let v2:Int:=(List.length x0:Int)
 Sum.elim (fun r=>r) (fun _=>
  (-1))
 (bm (fun(i3:Nat) (_:Unit)=>
  show Step (Int) (Unit)from
  bif(cf .eql an (List.getD x0 (Int.toNat (i3:Int)) (aw .str)))then
   .ret (i3:Int)
  else
   .bh ()) 0 (Int.toNat v2) ():Int⊕(Unit))
noncomputable def hM(x0:List ByteArray)(an:ByteArray):Bool:=
 (decide ((lF x0 an)≥0))
noncomputable def p0(x0:List ByteArray)(an:ByteArray):Int:=
 (lF x0 an)
noncomputable def wJ(x0:List ByteArray):Int:=
 let v3:Int:=(List.length x0:Int)
 bif((decide ((List.length x0:Int)<1))||(decide (v3>64)))then
  3
 else
  Sum.elim (fun r=>r) (fun _=>
   0)
  (bm (fun(i6:Nat) (_:Unit)=>
   show Step (Int) (Unit)from
   let bx:ByteArray:=List.getD x0 (Int.toNat (i6:Int)) (aw .str)
   bif(!(iA bx))then
    .ret 10
   else
    bif(decide ((p0 x0 bx)<(i6:Int)))then
     .ret 9
    else
     .bh ()) 0 (Int.toNat v3) ():Int⊕(Unit))
def CP(x0:List ByteArray):Prop:=
 let v3:Int:=(List.length x0:Int)
 (((decide ((List.length x0:Int)<1))||(decide (v3>64)))=false→(
  ∃bp:Nat→(Unit)→Prop,bp 0 ()∧∀(i6:Nat) (d0:Unit),i6<Int.toNat v3→bp i6 d0→(
   let bx:ByteArray:=List.getD x0 (Int.toNat (i6:Int)) (aw .str)
   (nO bx)∧
   ((!(iA bx))=false→(
    ((decide ((p0 x0 bx)<(i6:Int)))=false→(
     bp (i6+1) ())))))))
noncomputable def kY(x0:Attr):Int:=
 bif(!(iA x0.name))then
  10
 else
  bif((decide (x0.kind<1))||(decide (x0.kind>4)))then
   7
  else
   let bK:Int:=
    bif(x0.kind==3)then
     (wJ x0.enum)
    else
     bif(decide ((List.length x0.enum:Int)>0))then
      4
     else
      0
   bif(x0.kind==2)then
    let bx:=!(sw x0.min)
    let aI:Bool→Int:=fun v9=>
     bif((bx||(!v9))||(decide (x0.min>x0.max)))then
      2
     else
      bK
    bif bx then
     aI false
    else
     aI (sw x0.max)
   else
    bif((x0.min != 0)||(x0.max != 0))then
     2
    else
     bK
def wI(x0:Attr):Prop:=
 (nO x0.name)∧
 ((!(iA x0.name))=false→(
  (((decide (x0.kind<1))||(decide (x0.kind>4)))=false→(
   let bK:Prop:=
    ((x0.kind==3)=true→(
     CP x0.enum))
   ((x0.kind==2)=true→(
    let bx:=!(sw x0.min)
    let aI:Bool→Prop:=fun v9=>
     (((bx||(!v9))||(decide (x0.min>x0.max)))=false→(
      bK))
    (bx=true→(
     aI false))∧(bx=false→(
     aI (sw x0.max)))))∧((x0.kind==2)=false→(
    (((x0.min != 0)||(x0.max != 0))=false→(
     bK))))))))
noncomputable def oP(x0:aO):Bool:=
 let v1:Int:=(List.length x0.commands:Int)
 Sum.elim (fun r=>r) (fun _=>
  (((decide ((List.length x0.attrs:Int)>12))||(decide ((List.length x0.commands:Int)>12)))||(decide ((List.length x0.events:Int)>12))))
 (bm (fun(i2:Nat) (_:Unit)=>
  show Step (Bool) (Unit)from
  bif(decide ((List.length ((List.getD x0.commands (Int.toNat (i2:Int)) (aw .Command)).gq):Int)>12))then
   .ret true
  else
   .bh ()) 0 (Int.toNat v1) ():Bool⊕(Unit))
noncomputable def uk(x0:Attr):Bool:=
 (((((((cf .eql x0.name (⟨#[]⟩:ByteArray))&&(x0.kind==0))&&(x0.min==0))&&(x0.max==0))&&((List.length x0.enum:Int)==0))&&(!x0.fG))&&(!x0.safety))
def D0(x:List ByteArray):List ByteArray:=x
def wH(x:List ByteArray):Prop:=x.length≤maxLen∧x.length*16≤140737488355328
noncomputable def sB(x0:aO)(an:ByteArray):Attr × Bool:=
 let v2:Int:=(List.length x0.attrs:Int)
 Sum.elim (fun r=>r) (fun _=>
  (⟨⟨#[]⟩,0,0,0,[],false,false⟩,false))
 (bm (fun(i3:Nat) (_:Unit)=>
  show Step (Attr × Bool) (Unit)from
  let v5:Attr:=List.getD x0.attrs (Int.toNat (i3:Int)) (aw .Attr)
  bif(cf .eql v5.name an)then
   .ret (⟨v5.name,v5.kind,v5.min,v5.max,(D0 v5.enum),v5.fG,v5.safety⟩,true)
  else
   .bh ()) 0 (Int.toNat v2) ():(Attr × Bool)⊕(Unit))
def zr(x0:aO)(an:ByteArray):Prop:=
 let v2:Int:=(List.length x0.attrs:Int)
 ∃bp:Nat→(Unit)→Prop,bp 0 ()∧∀(i3:Nat) (d0:Unit),i3<Int.toNat v2→bp i3 d0→(
  let v5:Attr:=List.getD x0.attrs (Int.toNat (i3:Int)) (aw .Attr)
  ((cf .eql v5.name an)=true→(
   wH v5.enum))∧((cf .eql v5.name an)=false→(
   bp (i3+1) ())))
noncomputable def wL(x0:Attr)(an:c6):Int:=
 let v2:=kY x0
 bif(v2 != 0)then
  v2
 else
  let v4:=mX an
  bif(v4 != 0)then
   v4
  else
   bif(an.kind != x0.kind)then
    11
   else
    let aI:Bool→Int:=fun bw=>
     bif bw then
      2
     else
      0
    let v11:Bool:=(an.kind==2)&&((decide (an.n<x0.min))||(decide (an.n>x0.max)))
    bif v11 then
     aI v11
    else
     aI ((an.kind==3)&&(decide (an.n≥(List.length x0.enum:Int))))
def zp(x0:Attr)(_:c6):Prop:=
 let _:=kY x0
 wI x0
noncomputable def zw(x0:List ByteArray)(an:List ByteArray):Bool:=
 let v2:Int:=(List.length x0:Int)
 bif(v2 != (List.length an:Int))then
  false
 else
  Sum.elim (fun r=>r) (fun _=>
   true)
  (bm (fun(i5:Nat) (_:Unit)=>
   show Step (Bool) (Unit)from
   bif(cf .neq (List.getD x0 (Int.toNat (i5:Int)) (aw .str)) (List.getD an (Int.toNat (i5:Int)) (aw .str)))then
    .ret false
   else
    .bh ()) 0 (Int.toNat v2) ():Bool⊕(Unit))
def Hp(x0:List ByteArray)(an:List ByteArray):Prop:=
 let v2:Int:=(List.length x0:Int)
 ((v2 != (List.length an:Int))=false→(
  ∃bp:Nat→(Unit)→Prop,bp 0 ()∧∀(i5:Nat) (d0:Unit),i5<Int.toNat v2→bp i5 d0→(
   (0≤(i5:Int)∧(i5:Int)<(List.length an:Int))∧
   ((cf .neq (List.getD x0 (Int.toNat (i5:Int)) (aw .str)) (List.getD an (Int.toNat (i5:Int)) (aw .str)))=false→(
    bp (i5+1) ())))))
noncomputable def CW(x0:Attr)(an:Attr):Bool:=
 let v2:=x0.kind==an.kind
 let aI:Bool→Bool:=fun v3=>
  (v2&&v3)
 bif v2 then
  aI (zw x0.enum an.enum)
 else
  aI false
def Hq(x0:Attr)(an:Attr):Prop:=
 let v2:=x0.kind==an.kind
 (v2=true→(
  Hp x0.enum an.enum))
noncomputable def CY(x0:cX)(an:Attr)(bJ:Attr):Bool:=
 bif(x0.kind==1)then
  let v4:=an.kind != 4
  let aI:Int→Bool:=fun v5=>
   (v4&&(v5==0))
  bif v4 then
   aI (wL an ⟨an.kind,x0.n,⟨#[]⟩⟩)
  else
   aI (0:Int)
 else
  bif(x0.kind==2)then
   (CW an bJ)
  else
   bif(x0.kind==3)then
    (an.kind==2)
   else
    (an.kind==1)
def CQ(x0:cX)(an:Attr)(bJ:Attr):Prop:=
 ((x0.kind==1)=true→(
  let v4:=an.kind != 4
  (v4=true→(
   zp an ⟨an.kind,x0.n,⟨#[]⟩⟩))))∧((x0.kind==1)=false→(
  ((x0.kind==2)=true→(
   Hq an bJ))))
noncomputable def p2(x0:aO)(an:Attr)(bJ:cX):Int:=
 bif((decide (bJ.kind<1))||(decide (bJ.kind>4)))then
  7
 else
  let v6:=sB x0 bJ.attr
  bif !v6.2 then
   8
  else
   bif !v6.1.fG then
    24
   else
    bif(!(CY bJ v6.1 an))then
     11
    else
     let bS:=bJ.kind==3
     let aI:Int→Int:=fun dp=>
      bif(bS&&(dp != bJ.n))then
       2
      else
       bif(((bJ.kind==2)||(bJ.kind==4))&&(bJ.n != 0))then
        4
       else
        0
     bif bS then
      aI (CV bJ.n)
     else
      aI (0:Int)
def CR(x0:aO)(an:Attr)(bJ:cX):Prop:=
 (((decide (bJ.kind<1))||(decide (bJ.kind>4)))=false→(
  let v6:=sB x0 bJ.attr
  (zr x0 bJ.attr)∧
  ((!v6.2)=false→(
   ((!v6.1.fG)=false→(
    CQ bJ v6.1 an))))))
noncomputable def q7(x0:aO)(an:Int):Int:=
 let v2:Command:=List.getD x0.commands (Int.toNat an) (aw .Command)
 bif(!(iA v2.name))then
  10
 else
  let v5:=ih x0.commands none (some an)
  let v6:Int:=(List.length v5:Int)
  Sum.elim (fun r=>r) (fun _=>
   let aI:Int:=
    let bx:Int:=(List.length v2.gq:Int)
    Sum.elim (fun r=>r) (fun _=>
     0)
    (bm (fun(i9:Nat) (_:Unit)=>
     show Step (Int) (Unit)from
     let v11:cX:=List.getD v2.gq (Int.toNat (i9:Int)) (aw .cX)
     let v12:=p2 x0 ⟨v2.param.name,v2.param.kind,v2.param.min,v2.param.max,v2.param.enum,v2.param.fG,v2.param.safety⟩ v11
     bif(v12 != 0)then
      .ret v12
     else
      .bh ()) 0 (Int.toNat bx) ():Int⊕(Unit))
   bif(v2.param.kind==0)then
    bif(!(uk ⟨v2.param.name,v2.param.kind,v2.param.min,v2.param.max,v2.param.enum,v2.param.fG,v2.param.safety⟩))then
     4
    else
     aI
   else
    let bx:=kY ⟨v2.param.name,v2.param.kind,v2.param.min,v2.param.max,v2.param.enum,v2.param.fG,v2.param.safety⟩
    bif(bx != 0)then
     bx
    else
     aI)
  (bm (fun(i7:Nat) (_:Unit)=>
   show Step (Int) (Unit)from
   bif(cf .eql ((List.getD v5 (Int.toNat (i7:Int)) (aw .Command)).name) v2.name)then
    .ret 9
   else
    .bh ()) 0 (Int.toNat v6) ():Int⊕(Unit))
def CS(x0:aO)(an:Int):Prop:=
 let v2:Command:=List.getD x0.commands (Int.toNat an) (aw .Command)
 (0≤an∧an<(List.length x0.commands:Int))∧
 (nO v2.name)∧
 ((!(iA v2.name))=false→(
  let v5:=ih x0.commands none (some an)
  (iC (List.length x0.commands) none (some an))∧
  let v6:Int:=(List.length v5:Int)
  let a1:Unit→Prop:=fun _=>
   let aI:Prop:=
    let bx:Int:=(List.length v2.gq:Int)
    ∃dK:Nat→(Unit)→Prop,dK 0 ()∧∀(i9:Nat) (d1:Unit),i9<Int.toNat bx→dK i9 d1→(
     let v11:cX:=List.getD v2.gq (Int.toNat (i9:Int)) (aw .cX)
     let v12:=p2 x0 ⟨v2.param.name,v2.param.kind,v2.param.min,v2.param.max,v2.param.enum,v2.param.fG,v2.param.safety⟩ v11
     (CR x0 ⟨v2.param.name,v2.param.kind,v2.param.min,v2.param.max,v2.param.enum,v2.param.fG,v2.param.safety⟩ v11)∧
     ((v12 != 0)=false→(
      dK (i9+1) ())))
   ((v2.param.kind==0)=true→(
    ((!(uk ⟨v2.param.name,v2.param.kind,v2.param.min,v2.param.max,v2.param.enum,v2.param.fG,v2.param.safety⟩))=false→(
     aI))))∧((v2.param.kind==0)=false→(
    let bx:=kY ⟨v2.param.name,v2.param.kind,v2.param.min,v2.param.max,v2.param.enum,v2.param.fG,v2.param.safety⟩
    (wI ⟨v2.param.name,v2.param.kind,v2.param.min,v2.param.max,v2.param.enum,v2.param.fG,v2.param.safety⟩)∧
    ((bx != 0)=false→(
     aI))))
  ∃bp:Nat→(Unit)→Prop,bp 0 ()∧(∀(i7:Nat) (d0:Unit),i7<Int.toNat v6→bp i7 d0→(
   ((cf .eql ((List.getD v5 (Int.toNat (i7:Int)) (aw .Command)).name) v2.name)=false→(
    bp (i7+1) ()))))∧∀bD,bp (Int.toNat v6) bD→a1 bD))
noncomputable def p3(x0:aO):Int:=
 bif(!(iA x0.name))then
  10
 else
  bif(oP x0)then
   3
  else
   let v4:Int:=(List.length x0.attrs:Int)
   Sum.elim (fun r=>r) (fun _=>
    let v5:Int:=(List.length x0.commands:Int)
    Sum.elim (fun r=>r) (fun _=>
     let v6:Int:=(List.length x0.events:Int)
     Sum.elim (fun r=>r) (fun _=>
      0)
     (bm (fun(i7:Nat) (_:Unit)=>
      show Step (Int) (Unit)from
      let v9:ByteArray:=List.getD x0.events (Int.toNat (i7:Int)) (aw .str)
      bif(!(iA v9))then
       .ret 10
      else
       bif(hM (ih x0.events none (some (i7:Int))) v9)then
        .ret 9
       else
        .bh ()) 0 (Int.toNat v6) ():Int⊕(Unit)))
    (bm (fun(i6:Nat) (_:Unit)=>
     show Step (Int) (Unit)from
     let bx:=q7 x0 (i6:Int)
     bif(bx != 0)then
      .ret bx
     else
      .bh ()) 0 (Int.toNat v5) ():Int⊕(Unit)))
   (bm (fun(i5:Nat) (_:Unit)=>
    show Step (Int) (Unit)from
    let bw:Attr:=List.getD x0.attrs (Int.toNat (i5:Int)) (aw .Attr)
    let bx:=kY bw
    bif(bx != 0)then
     .ret bx
    else
     let v10:=ih x0.attrs none (some (i5:Int))
     let v11:Int:=(List.length v10:Int)
     Sum.elim (fun r=>r) (fun _=>
      .bh ())
     (bm (fun(i12:Nat) (_:Unit)=>
      show Step (Step (Int) (Unit)) (Unit)from
      bif(cf .eql ((List.getD v10 (Int.toNat (i12:Int)) (aw .Attr)).name) bw.name)then
       .ret (.ret 9)
      else
       .bh ()) 0 (Int.toNat v11) ():(Step (Int) (Unit))⊕(Unit))) 0 (Int.toNat v4) ():Int⊕(Unit))
def Hs(x0:aO):Prop:=
 (nO x0.name)∧
 ((!(iA x0.name))=false→(
  ((oP x0)=false→(
   let v4:Int:=(List.length x0.attrs:Int)
   let a1:Unit→Prop:=fun _=>
    let v5:Int:=(List.length x0.commands:Int)
    let eT:Unit→Prop:=fun _=>
     let v6:Int:=(List.length x0.events:Int)
     ∃kH:Nat→(Unit)→Prop,kH 0 ()∧∀(i7:Nat) (d2:Unit),i7<Int.toNat v6→kH i7 d2→(
      let v9:ByteArray:=List.getD x0.events (Int.toNat (i7:Int)) (aw .str)
      (nO v9)∧
      ((!(iA v9))=false→(
       (iC (List.length x0.events) none (some (i7:Int)))∧
       ((hM (ih x0.events none (some (i7:Int))) v9)=false→(
        kH (i7+1) ())))))
    ∃dK:Nat→(Unit)→Prop,dK 0 ()∧(∀(i6:Nat) (d1:Unit),i6<Int.toNat v5→dK i6 d1→(
     let bx:=q7 x0 (i6:Int)
     (CS x0 (i6:Int))∧
     ((bx != 0)=false→(
      dK (i6+1) ()))))∧∀aM,dK (Int.toNat v5) aM→eT aM
   ∃bp:Nat→(Unit)→Prop,bp 0 ()∧(∀(i5:Nat) (d0:Unit),i5<Int.toNat v4→bp i5 d0→(
    let bw:Attr:=List.getD x0.attrs (Int.toNat (i5:Int)) (aw .Attr)
    let bx:=kY bw
    (wI bw)∧
    ((bx != 0)=false→(
     let v10:=ih x0.attrs none (some (i5:Int))
     (iC (List.length x0.attrs) none (some (i5:Int)))∧
     let v11:Int:=(List.length v10:Int)
     let k6:Unit→Prop:=fun _=>
      bp (i5+1) ()
     ∃mm:Nat→(Unit)→Prop,mm 0 ()∧(∀(i12:Nat) (d3:Unit),i12<Int.toNat v11→mm i12 d3→(
      ((cf .eql ((List.getD v10 (Int.toNat (i12:Int)) (aw .Attr)).name) bw.name)=false→(
       mm (i12+1) ()))))∧∀cn,mm (Int.toNat v11) cn→k6 cn))))∧∀bD,bp (Int.toNat v4) bD→a1 bD))))
noncomputable def nQ(x0:List aO):Int:=
 let v1:Int:=(List.length x0:Int)
 bif(decide (v1>256))then
  3
 else
  Sum.elim (fun r=>r) (fun _=>
   0)
  (bm (fun(i3:Nat) (_:Unit)=>
   show Step (Int) (Unit)from
   let v5:aO:=List.getD x0 (Int.toNat (i3:Int)) (aw .aO)
   let v6:=p3 v5
   bif(v6 != 0)then
    .ret v6
   else
    let bx:=ih x0 none (some (i3:Int))
    let v9:Int:=(List.length bx:Int)
    Sum.elim (fun r=>r) (fun _=>
     .bh ())
    (bm (fun(i10:Nat) (_:Unit)=>
     show Step (Step (Int) (Unit)) (Unit)from
     bif(cf .eql ((List.getD bx (Int.toNat (i10:Int)) (aw .aO)).name) v5.name)then
      .ret (.ret 9)
     else
      .bh ()) 0 (Int.toNat v9) ():(Step (Int) (Unit))⊕(Unit))) 0 (Int.toNat v1) ():Int⊕(Unit))
def Ht(x0:List aO):Prop:=
 let v1:Int:=(List.length x0:Int)
 ((decide (v1>256))=false→(
  ∃bp:Nat→(Unit)→Prop,bp 0 ()∧∀(i3:Nat) (d0:Unit),i3<Int.toNat v1→bp i3 d0→(
   let v5:aO:=List.getD x0 (Int.toNat (i3:Int)) (aw .aO)
   let v6:=p3 v5
   (Hs v5)∧
   ((v6 != 0)=false→(
    let bx:=ih x0 none (some (i3:Int))
    (iC (List.length x0) none (some (i3:Int)))∧
    let v9:Int:=(List.length bx:Int)
    let eT:Unit→Prop:=fun _=>
     bp (i3+1) ()
    ∃dK:Nat→(Unit)→Prop,dK 0 ()∧(∀(i10:Nat) (d1:Unit),i10<Int.toNat v9→dK i10 d1→(
     ((cf .eql ((List.getD bx (Int.toNat (i10:Int)) (aw .aO)).name) v5.name)=false→(
      dK (i10+1) ()))))∧∀aM,dK (Int.toNat v9) aM→eT aM)))))
noncomputable def kE(x0:Home):(List (ByteArray × aO)):=
 let v2:Int:=(List.length x0.bq:Int)
 Sum.elim (fun r=>r) (fun bD=>
  bD)
 (bm (fun(i4:Nat) (aM:(List (ByteArray × aO)))=>
  show Step ((List (ByteArray × aO))) ((List (ByteArray × aO)))from
  let v6:aO:=List.getD x0.bq (Int.toNat (i4:Int)) (aw .aO)
  .bh (sF (.str) aM v6.name v6)) 0 (Int.toNat v2) ([]:List (ByteArray × aO)):(List (ByteArray × aO))⊕((List (ByteArray × aO))))
noncomputable def wM(x0:bA):Bool:=
 bif((((decide (x0.id<1))||(decide (x0.id>250)))||(decide (x0.oQ<0)))||(decide (x0.oQ>255)))then
  false
 else
  bif x0.oR then
   ((decide (x0.kZ≥4))&&(decide (x0.kZ≤3600)))
  else
   (x0.kZ==0)
noncomputable def sD(x0:bA)(an:List (ByteArray × aO)):Int:=
 let v4:Int:=(List.length x0.bq:Int)
 bif((decide ((List.length x0.bq:Int)<1))||(decide (v4>4)))then
  3
 else
  Sum.elim (fun r=>r) (fun bD=>
   bif(decide (bD>24))then
    3
   else
    0)
  (bm (fun(i8:Nat) (aM:Int)=>
   show Step (Int) (Int)from
   let v10:ByteArray:=List.getD x0.bq (Int.toNat (i8:Int)) (aw .str)
   bif(!((jK (.str) an v10).isSome))then
    .ret 8
   else
    bif(decide ((p0 x0.bq v10)<(i8:Int)))then
     .ret 9
    else
     .bh (IntKind.wrap .i64 (aM+(List.length (((jK (.str) an v10).getD (aw .aO)).attrs):Int)))) 0 (Int.toNat v4) 0:Int⊕(Int))
noncomputable def fc(x0:Home):Int:=
 let v1:=nQ x0.bq
 bif(v1 != 0)then
  v1
 else
  let v3:Int:=(List.length x0.a8:Int)
  bif(decide (v3>20))then
   3
  else
   Sum.elim (fun r=>r) (fun _=>
    0)
   (bm (fun(i8:Nat) (aM:(List (Int × Bool)))=>
    show Step (Int) ((List (Int × Bool)))from
    let v10:bA:=List.getD x0.a8 (Int.toNat (i8:Int)) (aw .bA)
    bif(!(wM v10))then
     .ret 2
    else
     bif((decide ((i8:Int)>0))&&(decide (v10.id≤((List.getD x0.a8 (Int.toNat (IntKind.wrap .i64 ((i8:Int)-(1:Int)))) (aw .bA)).id))))then
      .ret 14
     else
      bif((jK (.int .u64) aM v10.hk).getD false)then
       .ret 9
      else
       bif(!(iA v10.room))then
        .ret 10
       else
        let v21:=sD v10 (kE x0)
        bif(v21 != 0)then
         .ret v21
        else
         .bh (sF (.int .u64) aM v10.hk true)) 0 (Int.toNat v3) ([]:List (Int × Bool)):Int⊕((List (Int × Bool))))
def zt(x0:Home):Prop:=
 let v1:=nQ x0.bq
 (Ht x0.bq)∧
 ((v1 != 0)=false→(
  let v3:Int:=(List.length x0.a8:Int)
  ((decide (v3>20))=false→(
   ∃bp:Nat→((List (Int × Bool)))→Prop,bp 0 ([]:List (Int × Bool))∧∀(i8:Nat) (d0:(List (Int × Bool))),i8<Int.toNat v3→bp i8 d0→(
    let v10:bA:=List.getD x0.a8 (Int.toNat (i8:Int)) (aw .bA)
    ((!(wM v10))=false→(
     let bS:=decide ((i8:Int)>0)
     let dp:Int:=IntKind.wrap .i64 ((i8:Int)-(1:Int))
     (bS=true→0≤dp∧dp<(List.length x0.a8:Int))∧
     ((bS&&(decide (v10.id≤((List.getD x0.a8 (Int.toNat dp) (aw .bA)).id))))=false→(
      (((jK (.int .u64) d0 v10.hk).getD false)=false→(
       (nO v10.room)∧
       ((!(iA v10.room))=false→(
        let v21:=sD v10 (kE x0)
        ((v21 != 0)=false→(
         bp (i8+1) (sF (.int .u64) d0 v10.hk true))))))))))))))))
noncomputable def mf(x0:bQ):bQ:=
 let bK:Int→ByteArray→ByteArray→ByteArray→Int→Int→ByteArray→ByteArray→bQ:=fun v3 v4 v5 v6 bw bx v9 v10=>
  ⟨x0.kind,x0.dO,⟨v3,v4,v5⟩,v6,⟨bw,bx,v9⟩,v10⟩
 bif(x0.kind==1)then
  bK x0.key.dev x0.key.cK x0.key.attr (⟨#[]⟩:ByteArray) (0:Int) (0:Int) (⟨#[]⟩:ByteArray) (⟨#[]⟩:ByteArray)
 else
  bif(x0.kind==2)then
   bK x0.key.dev x0.key.cK x0.key.attr (⟨#[]⟩:ByteArray) x0.value.kind x0.value.n x0.value.s (⟨#[]⟩:ByteArray)
  else
   bif(x0.kind==3)then
    bK x0.key.dev x0.key.cK (⟨#[]⟩:ByteArray) x0.name x0.value.kind x0.value.n x0.value.s (⟨#[]⟩:ByteArray)
   else
    let aI:Bool→bQ:=fun v4=>
     bif v4 then
      bK (0:Int) (⟨#[]⟩:ByteArray) (⟨#[]⟩:ByteArray) x0.name (0:Int) (0:Int) (⟨#[]⟩:ByteArray) (⟨#[]⟩:ByteArray)
     else
      bif(x0.kind==7)then
       bK (0:Int) (⟨#[]⟩:ByteArray) (⟨#[]⟩:ByteArray) (⟨#[]⟩:ByteArray) (0:Int) (0:Int) (⟨#[]⟩:ByteArray) x0.text
      else
       bK (0:Int) (⟨#[]⟩:ByteArray) (⟨#[]⟩:ByteArray) (⟨#[]⟩:ByteArray) (0:Int) (0:Int) (⟨#[]⟩:ByteArray) (⟨#[]⟩:ByteArray)
    let v4:=x0.kind==4
    bif v4 then
     aI v4
    else
     let v5:=x0.kind==5
     bif v5 then
      aI v5
     else
      aI (x0.kind==6)
noncomputable def lG(x0:Home)(an:Int):bA × Bool:=
 bif((fc x0) != 0)then
  (⟨0,0,0,false,0,⟨#[]⟩,[]⟩,false)
 else
  let v4:Int:=(List.length x0.a8:Int)
  Sum.elim (fun r=>r) (fun _=>
   (⟨0,0,0,false,0,⟨#[]⟩,[]⟩,false))
  (bm (fun(i5:Nat) (_:Unit)=>
   show Step (bA × Bool) (Unit)from
   let bw:bA:=List.getD x0.a8 (Int.toNat (i5:Int)) (aw .bA)
   bif(bw.id==an)then
    .ret (bw,true)
   else
    .bh ()) 0 (Int.toNat v4) ():(bA × Bool)⊕(Unit))
def zu(x0:Home)(_:Int):Prop:=
 zt x0
noncomputable def uv(x0:Home)(an:cd):Attr × Bool:=
 let v2:=lG x0 an.dev
 let aI:Int→Attr × Bool:=fun v6=>
  bif((!v2.2)||(decide (v6<0)))then
   (⟨⟨#[]⟩,0,0,0,[],false,false⟩,false)
  else
   let v10:aO:=(jK (.str) (kE x0) an.cK).getD (aw .aO)
   let v11:=sB v10 an.attr
   bif !v11.2 then
    (⟨⟨#[]⟩,0,0,0,[],false,false⟩,false)
   else
    (v11.1,true)
 bif !v2.2 then
  aI (0:Int)
 else
  aI (p0 v2.1.bq an.cK)
def C1(x0:Home)(an:cd):Prop:=
 let v2:=lG x0 an.dev
 (zu x0 an.dev)∧
 let aI:Int→Prop:=fun v6=>
  (((!v2.2)||(decide (v6<0)))=false→(
   let v10:aO:=(jK (.str) (kE x0) an.cK).getD (aw .aO)
   let _:=sB v10 an.attr
   zr v10 an.attr))
 ((!v2.2)=true→(
  aI (0:Int)))∧((!v2.2)=false→(
  aI (p0 v2.1.bq an.cK)))
noncomputable def Df(x0:Home)(an:bQ):Int:=
 let v2:=uv x0 ⟨an.key.dev,an.key.cK,an.key.attr⟩
 bif !v2.2 then
  8
 else
  bif(an.kind==1)then
   0
  else
   bif !v2.1.fG then
    24
   else
    (wL v2.1 ⟨an.value.kind,an.value.n,an.value.s⟩)
def C2(x0:Home)(an:bQ):Prop:=
 let v2:=uv x0 ⟨an.key.dev,an.key.cK,an.key.attr⟩
 (C1 x0 ⟨an.key.dev,an.key.cK,an.key.attr⟩)∧
 ((!v2.2)=false→(
  ((an.kind==1)=false→(
   ((!v2.1.fG)=false→(
    zp v2.1 ⟨an.value.kind,an.value.n,an.value.s⟩))))))
noncomputable def q9(x0:Home)(an:Int)(bJ:ByteArray):aO × Bool:=
 let eI:Int→aO × Bool:=fun v3=>
  bif(!(decide (v3≥0)))then
   (⟨⟨#[]⟩,[],[],[]⟩,false)
  else
   let bK:Int→aO × Bool:=fun v6=>
    bif(decide (v6<0))then
     (⟨⟨#[]⟩,[],[],[]⟩,false)
    else
     let bx:aO:=List.getD x0.bq (Int.toNat v6) (aw .aO)
     (bx,true)
   let v6:Int:=(List.length x0.bq:Int)
   Sum.elim (fun r=>r) (fun _=>
    bK ((-1):Int))
   (bm (fun(i7:Nat) (_:Unit)=>
    show Step (aO × Bool) (Unit)from
    bif(cf .eql ((List.getD x0.bq (Int.toNat (i7:Int)) (aw .aO)).name) bJ)then
     .ret (bK (i7:Int))
    else
     .bh ()) 0 (Int.toNat v6) ():(aO × Bool)⊕(Unit))
 let v3:Int:=(List.length x0.a8:Int)
 Sum.elim (fun r=>r) (fun _=>
  eI ((-1):Int))
 (bm (fun(i4:Nat) (_:Unit)=>
  show Step (aO × Bool) (Unit)from
  let v6:bA:=List.getD x0.a8 (Int.toNat (i4:Int)) (aw .bA)
  let bw:=v6.id==an
  let aI:Bool→Step (aO × Bool) (Unit):=fun bx=>
   bif(bw&&bx)then
    .ret (eI (i4:Int))
   else
    .bh ()
  bif bw then
   aI (hM v6.bq bJ)
  else
   aI false) 0 (Int.toNat v3) ():(aO × Bool)⊕(Unit))
def HE(x0:Home)(an:Int)(bJ:ByteArray):Prop:=
 let eI:Int→Prop:=fun v3=>
  ((!(decide (v3≥0)))=false→(
   let bK:Int→Prop:=fun v6=>
    ((decide (v6<0))=false→(
     let _:aO:=List.getD x0.bq (Int.toNat v6) (aw .aO)
     0≤v6∧v6<(List.length x0.bq:Int)))
   let v6:Int:=(List.length x0.bq:Int)
   let a1:Unit→Prop:=fun _=>
    bK ((-1):Int)
   ∃bp:Nat→(Unit)→Prop,bp 0 ()∧(∀(i7:Nat) (d0:Unit),i7<Int.toNat v6→bp i7 d0→(
    ((cf .eql ((List.getD x0.bq (Int.toNat (i7:Int)) (aw .aO)).name) bJ)=true→(
     bK (i7:Int)))∧((cf .eql ((List.getD x0.bq (Int.toNat (i7:Int)) (aw .aO)).name) bJ)=false→(
     bp (i7+1) ()))))∧∀bD,bp (Int.toNat v6) bD→a1 bD))
 let v3:Int:=(List.length x0.a8:Int)
 let eT:Unit→Prop:=fun _=>
  eI ((-1):Int)
 ∃dK:Nat→(Unit)→Prop,dK 0 ()∧(∀(i4:Nat) (d1:Unit),i4<Int.toNat v3→dK i4 d1→(
  let v6:bA:=List.getD x0.a8 (Int.toNat (i4:Int)) (aw .bA)
  let bw:=v6.id==an
  let aI:Bool→Prop:=fun bx=>
   ((bw&&bx)=true→(
    eI (i4:Int)))∧((bw&&bx)=false→(
    dK (i4+1) ()))
  (bw=true→(
   aI (hM v6.bq bJ)))∧(bw=false→(
   aI false))))∧∀aM,dK (Int.toNat v3) aM→eT aM
def R4(x:List cX):List cX:=x
def CO(x:List cX):Prop:=x.length≤maxLen∧x.length*32≤140737488355328
noncomputable def zL(x0:aO)(an:ByteArray):Command × Bool:=
 let v2:Int:=(List.length x0.commands:Int)
 Sum.elim (fun r=>r) (fun _=>
  (⟨⟨#[]⟩,⟨⟨#[]⟩,0,0,0,[],false,false⟩,[]⟩,false))
 (bm (fun(i3:Nat) (_:Unit)=>
  show Step (Command × Bool) (Unit)from
  let v5:Command:=List.getD x0.commands (Int.toNat (i3:Int)) (aw .Command)
  bif(cf .eql v5.name an)then
   .ret (⟨v5.name,⟨v5.param.name,v5.param.kind,v5.param.min,v5.param.max,(D0 v5.param.enum),v5.param.fG,v5.param.safety⟩,(R4 v5.gq)⟩,true)
  else
   .bh ()) 0 (Int.toNat v2) ():(Command × Bool)⊕(Unit))
def HF(x0:aO)(an:ByteArray):Prop:=
 let v2:Int:=(List.length x0.commands:Int)
 ∃bp:Nat→(Unit)→Prop,bp 0 ()∧∀(i3:Nat) (d0:Unit),i3<Int.toNat v2→bp i3 d0→(
  let v5:Command:=List.getD x0.commands (Int.toNat (i3:Int)) (aw .Command)
  ((cf .eql v5.name an)=true→(
   (wH v5.param.enum)∧
   CO v5.gq))∧((cf .eql v5.name an)=false→(
   bp (i3+1) ())))
noncomputable def Dh(x0:Home)(an:bQ):Int:=
 let v2:=q9 x0 an.key.dev an.key.cK
 bif !v2.2 then
  8
 else
  let v6:=zL v2.1 an.name
  bif !v6.2 then
   8
  else
   bif(v6.1.param.kind != 0)then
    (wL ⟨v6.1.param.name,v6.1.param.kind,v6.1.param.min,v6.1.param.max,v6.1.param.enum,v6.1.param.fG,v6.1.param.safety⟩ ⟨an.value.kind,an.value.n,an.value.s⟩)
   else
    bif(!(bif an.value.kind==0 then bif an.value.n==0 then et an.value.s (⟨#[]⟩:ByteArray)else false else false))then
     11
    else
     0
def HG(x0:Home)(an:bQ):Prop:=
 let v2:=q9 x0 an.key.dev an.key.cK
 (HE x0 an.key.dev an.key.cK)∧
 ((!v2.2)=false→(
  let v6:=zL v2.1 an.name
  (HF v2.1 an.name)∧
  ((!v6.2)=false→(
   ((v6.1.param.kind != 0)=true→(
    zp ⟨v6.1.param.name,v6.1.param.kind,v6.1.param.min,v6.1.param.max,v6.1.param.enum,v6.1.param.fG,v6.1.param.safety⟩ ⟨an.value.kind,an.value.n,an.value.s⟩))))))
noncomputable def zO(x0:Home)(an:bQ):Int:=
 let aI:Bool→Int:=fun v2=>
  bif v2 then
   (Df x0 an)
  else
   bif(an.kind==3)then
    (Dh x0 an)
   else
    bif(an.kind==7)then
     bif(decide ((ByteArray.size an.text:Int)>20000))then
      3
     else
      0
    else
     bif(!(iA an.name))then
      10
     else
      0
 let v2:=an.kind==1
 bif v2 then
  aI v2
 else
  aI (an.kind==2)
def C3(x0:Home)(an:bQ):Prop:=
 let aI:Bool→Prop:=fun v2=>
  (v2=true→(
   C2 x0 an))∧(v2=false→(
   ((an.kind==3)=true→(
    HG x0 an))∧((an.kind==3)=false→(
    ((an.kind==7)=false→(
     nO an.name))))))
 let v2:=an.kind==1
 (v2=true→(
  aI v2))∧(v2=false→(
  aI (an.kind==2)))
noncomputable def oT(x0:Home)(an:bQ):Int:=
 let bK:Int→Int:=fun v2=>
  v2
 let v2:=fc x0
 bif(v2 != 0)then
  bK v2
 else
  let v4:=zM an
  bif(v4 != 0)then
   bK v4
  else
   let v6:=zN an
   bif(v6 != 0)then
    bK v6
   else
    let aI:Int→Int:=fun bx=>
     bif(bx != 0)then
      bK bx
     else
      let v10:=zO x0 an
      bif(v10 != 0)then
       bK v10
      else
       bK (0:Int)
    let bx:=mf an
    let v9:=!(bif an.kind==bx.kind then bif an.dO==bx.dO then bif an.key.dev==bx.key.dev then bif et an.key.cK bx.key.cK then bif et an.key.attr bx.key.attr then bif et an.name bx.name then bif an.value.kind==bx.value.kind then bif an.value.n==bx.value.n then bif et an.value.s bx.value.s then et an.text bx.text else false else false else false else false else false else false else false else false else false)
    bif v9 then
     aI (1:Int)
    else
     aI (0:Int)
def HH(x0:Home)(an:bQ):Prop:=
 let v2:=fc x0
 (zt x0)∧
 ((v2 != 0)=false→(
  let v4:=zM an
  ((v4 != 0)=false→(
   let v6:=zN an
   ((v6 != 0)=false→(
    let aI:Int→Prop:=fun bx=>
     ((bx != 0)=false→(
      let _:=zO x0 an
      C3 x0 an))
    let bx:=mf an
    let v9:=!(bif an.kind==bx.kind then bif an.dO==bx.dO then bif an.key.dev==bx.key.dev then bif et an.key.cK bx.key.cK then bif et an.key.attr bx.key.attr then bif et an.name bx.name then bif an.value.kind==bx.value.kind then bif an.value.n==bx.value.n then bif et an.value.s bx.value.s then et an.text bx.text else false else false else false else false else false else false else false else false else false)
    (v9=true→(
     aI (1:Int)))∧(v9=false→(
     aI (0:Int)))))))))
noncomputable def uj(x0:List ByteArray)(an:ByteArray):Bool:=
 let v2:Int:=(List.length x0:Int)
 Sum.elim (fun r=>r) (fun _=>
  false)
 (bm (fun(i3:Nat) (_:Unit)=>
  show Step (Bool) (Unit)from
  bif(cf .eql (List.getD x0 (Int.toNat (i3:Int)) (aw .str)) an)then
   .ret true
  else
   .bh ()) 0 (Int.toNat v2) ():Bool⊕(Unit))
noncomputable def p1(x0:Attr):Int:=
 bif(!(iB x0.name))then
  10
 else
  bif((decide (x0.kind<1))||(decide (x0.kind>4)))then
   7
  else
   let aI:Int:=
    bif(x0.kind != 3)then
     bif(decide ((List.length x0.enum:Int)>0))then
      4
     else
      0
    else
     let v10:Int:=(List.length x0.enum:Int)
     bif((decide ((List.length x0.enum:Int)<1))||(decide (v10>64)))then
      3
     else
      Sum.elim (fun r=>r) (fun _=>
       0)
      (bm (fun(i13:Nat) (_:Unit)=>
       show Step (Int) (Unit)from
       bif(!(iB (List.getD x0.enum (Int.toNat (i13:Int)) (aw .str))))then
        .ret 10
       else
        bif(uj (ih x0.enum none (some (i13:Int))) (List.getD x0.enum (Int.toNat (i13:Int)) (aw .str)))then
         .ret 9
        else
         .bh ()) 0 (Int.toNat v10) ():Int⊕(Unit))
   bif(x0.kind==2)then
    bif(((decide (x0.min<(-1099511627776)))||(decide (x0.max>1099511627776)))||(decide (x0.min>x0.max)))then
     2
    else
     aI
   else
    bif((x0.min != 0)||(x0.max != 0))then
     2
    else
     aI
def ur(x0:Attr):Prop:=
 (nP x0.name)∧
 ((!(iB x0.name))=false→(
  (((decide (x0.kind<1))||(decide (x0.kind>4)))=false→(
   let aI:Prop:=
    ((x0.kind != 3)=false→(
     let v10:Int:=(List.length x0.enum:Int)
     (((decide ((List.length x0.enum:Int)<1))||(decide (v10>64)))=false→(
      ∃bp:Nat→(Unit)→Prop,bp 0 ()∧∀(i13:Nat) (d0:Unit),i13<Int.toNat v10→bp i13 d0→(
       let cU:ByteArray:=List.getD x0.enum (Int.toNat (i13:Int)) (aw .str)
       (nP cU)∧
       ((!(iB cU))=false→(
        (iC (List.length x0.enum) none (some (i13:Int)))∧
        ((uj (ih x0.enum none (some (i13:Int))) (List.getD x0.enum (Int.toNat (i13:Int)) (aw .str)))=false→(
         bp (i13+1) ())))))))))
   ((x0.kind==2)=true→(
    ((((decide (x0.min<(-1099511627776)))||(decide (x0.max>1099511627776)))||(decide (x0.min>x0.max)))=false→(
     aI))))∧((x0.kind==2)=false→(
    (((x0.min != 0)||(x0.max != 0))=false→(
     aI))))))))
noncomputable def oO(x0:aO)(an:ByteArray):Int:=
 let v2:Int:=(List.length x0.attrs:Int)
 Sum.elim (fun r=>r) (fun _=>
  (-1))
 (bm (fun(i3:Nat) (_:Unit)=>
  show Step (Int) (Unit)from
  bif(cf .eql ((List.getD x0.attrs (Int.toNat (i3:Int)) (aw .Attr)).name) an)then
   .ret (i3:Int)
  else
   .bh ()) 0 (Int.toNat v2) ():Int⊕(Unit))
noncomputable def zA(x0:aO):Bool:=
 let v3:Int:=(List.length x0.commands:Int)
 bif(((decide ((List.length x0.attrs:Int)>12))||(decide (v3>12)))||(decide ((List.length x0.events:Int)>12)))then
  true
 else
  Sum.elim (fun r=>r) (fun _=>
   false)
  (bm (fun(i9:Nat) (_:Unit)=>
   show Step (Bool) (Unit)from
   bif(decide ((List.length ((List.getD x0.commands (Int.toNat (i9:Int)) (aw .Command)).gq):Int)>12))then
    .ret true
   else
    .bh ()) 0 (Int.toNat v3) ():Bool⊕(Unit))
noncomputable def zv(x0:List ByteArray)(an:List ByteArray):Bool:=
 let v2:Int:=(List.length x0:Int)
 bif(v2 != (List.length an:Int))then
  false
 else
  Sum.elim (fun r=>r) (fun _=>
   true)
  (bm (fun(i5:Nat) (_:Unit)=>
   show Step (Bool) (Unit)from
   bif(cf .neq (List.getD x0 (Int.toNat (i5:Int)) (aw .str)) (List.getD an (Int.toNat (i5:Int)) (aw .str)))then
    .ret false
   else
    .bh ()) 0 (Int.toNat v2) ():Bool⊕(Unit))
def C5(x0:List ByteArray)(an:List ByteArray):Prop:=
 let v2:Int:=(List.length x0:Int)
 ((v2 != (List.length an:Int))=false→(
  ∃bp:Nat→(Unit)→Prop,bp 0 ()∧∀(i5:Nat) (d0:Unit),i5<Int.toNat v2→bp i5 d0→(
   (0≤(i5:Int)∧(i5:Int)<(List.length an:Int))∧
   ((cf .neq (List.getD x0 (Int.toNat (i5:Int)) (aw .str)) (List.getD an (Int.toNat (i5:Int)) (aw .str)))=false→(
    bp (i5+1) ())))))
noncomputable def zx(x0:Attr)(an:Attr):Bool:=
 let bx:Bool:=(((cf .eql x0.name an.name)&&(x0.kind==an.kind))&&(x0.min==an.min))&&(x0.max==an.max)
 let aI:Bool→Bool:=fun v9=>
  (((bx&&v9)&&(cI.den (.mn false) x0.fG an.fG))&&(cI.den (.mn false) x0.safety an.safety))
 bif bx then
  aI (zv x0.enum an.enum)
 else
  aI false
def HI(x0:Attr)(an:Attr):Prop:=
 let bx:Bool:=(((cf .eql x0.name an.name)&&(x0.kind==an.kind))&&(x0.min==an.min))&&(x0.max==an.max)
 (bx=true→(
  C5 x0.enum an.enum))
noncomputable def um(x0:aO)(an:ByteArray):Attr × Bool:=
 let v2:=oO x0 an
 bif(decide (v2<0))then
  (⟨⟨#[]⟩,0,0,0,[],false,false⟩,false)
 else
  let v4:Attr:=List.getD x0.attrs (Int.toNat v2) (aw .Attr)
  (v4,true)
def C6(x0:aO)(an:ByteArray):Prop:=
 let v2:=oO x0 an
 ((decide (v2<0))=false→(
  let _:Attr:=List.getD x0.attrs (Int.toNat v2) (aw .Attr)
  0≤v2∧v2<(List.length x0.attrs:Int)))
noncomputable def wK(x0:Attr)(an:c6):Int:=
 bif((p1 x0) != 0)then
  (p1 x0)
 else
  bif((wm an) != 0)then
   (wm an)
  else
   bif(an.kind != x0.kind)then
    11
   else
    bif(((an.kind==2)&&((decide (an.n<x0.min))||(decide (an.n>x0.max))))||((an.kind==3)&&(decide (an.n≥(List.length x0.enum:Int)))))then
     2
    else
     0
def zG(x0:Attr)(_:c6):Prop:=
 (ur x0)∧
 (((p1 x0) != 0)=true→(
  ur x0))
noncomputable def CX(x0:cX)(an:Attr)(bJ:Attr):Bool:=
 bif(x0.kind==1)then
  let v4:=an.kind != 4
  let aI:Int→Bool:=fun v5=>
   (v4&&(v5==0))
  bif v4 then
   aI (wK an ⟨an.kind,x0.n,⟨#[]⟩⟩)
  else
   aI (0:Int)
 else
  bif(x0.kind==2)then
   let v5:=bJ.kind==an.kind
   let aI:Bool→Bool:=fun v6=>
    (v5&&v6)
   bif v5 then
    aI (zv bJ.enum an.enum)
   else
    aI false
  else
   bif(x0.kind==3)then
    (an.kind==2)
   else
    (an.kind==1)
def C7(x0:cX)(an:Attr)(bJ:Attr):Prop:=
 ((x0.kind==1)=true→(
  let v4:=an.kind != 4
  (v4=true→(
   zG an ⟨an.kind,x0.n,⟨#[]⟩⟩))))∧((x0.kind==1)=false→(
  ((x0.kind==2)=true→(
   let v5:=bJ.kind==an.kind
   (v5=true→(
    C5 bJ.enum an.enum))))))
noncomputable def zy(x0:aO)(an:Attr)(bJ:cX):Int:=
 bif((decide (bJ.kind<1))||(decide (bJ.kind>4)))then
  7
 else
  let v6:=um x0 bJ.attr
  bif !v6.2 then
   8
  else
   bif !v6.1.fG then
    24
   else
    bif(!(CX bJ v6.1 an))then
     11
    else
     bif((bJ.kind==3)&&((decide (bJ.n<(-1099511627776)))||(decide (bJ.n>1099511627776))))then
      2
     else
      bif(((bJ.kind==2)||(bJ.kind==4))&&(bJ.n != 0))then
       4
      else
       0
def C8(x0:aO)(an:Attr)(bJ:cX):Prop:=
 (((decide (bJ.kind<1))||(decide (bJ.kind>4)))=false→(
  let v6:=um x0 bJ.attr
  (C6 x0 bJ.attr)∧
  ((!v6.2)=false→(
   ((!v6.1.fG)=false→(
    C7 bJ v6.1 an))))))
noncomputable def zz(x0:aO)(an:Int):Int:=
 let v2:Command:=List.getD x0.commands (Int.toNat an) (aw .Command)
 bif(!(iB v2.name))then
  10
 else
  Sum.elim (fun r=>r) (fun _=>
   let aI:Int:=
    let v6:Int:=(List.length v2.gq:Int)
    Sum.elim (fun r=>r) (fun _=>
     0)
    (bm (fun(i7:Nat) (_:Unit)=>
     show Step (Int) (Unit)from
     let v9:cX:=List.getD v2.gq (Int.toNat (i7:Int)) (aw .cX)
     let v10:=zy x0 ⟨v2.param.name,v2.param.kind,v2.param.min,v2.param.max,v2.param.enum,v2.param.fG,v2.param.safety⟩ v9
     bif(v10 != 0)then
      .ret v10
     else
      .bh ()) 0 (Int.toNat v6) ():Int⊕(Unit))
   bif(v2.param.kind==0)then
    bif(!(zx ⟨v2.param.name,v2.param.kind,v2.param.min,v2.param.max,v2.param.enum,v2.param.fG,v2.param.safety⟩ ⟨⟨#[]⟩,0,0,0,[],false,false⟩))then
     4
    else
     aI
   else
    let v6:=p1 ⟨v2.param.name,v2.param.kind,v2.param.min,v2.param.max,v2.param.enum,v2.param.fG,v2.param.safety⟩
    bif(v6 != 0)then
     v6
    else
     aI)
  (bm (fun(i5:Nat) (_:Unit)=>
   show Step (Int) (Unit)from
   bif(cf .eql ((List.getD x0.commands (Int.toNat (i5:Int)) (aw .Command)).name) v2.name)then
    .ret 9
   else
    .bh ()) 0 (Int.toNat an) ():Int⊕(Unit))
def HK(x0:aO)(an:Int):Prop:=
 let v2:Command:=List.getD x0.commands (Int.toNat an) (aw .Command)
 (0≤an∧an<(List.length x0.commands:Int))∧
 (nP v2.name)∧
 ((!(iB v2.name))=false→(
  (0≤an∧an<(9223372036854775808:Int))∧
  let a1:Unit→Prop:=fun _=>
   let aI:Prop:=
    let v6:Int:=(List.length v2.gq:Int)
    ∃dK:Nat→(Unit)→Prop,dK 0 ()∧∀(i7:Nat) (d1:Unit),i7<Int.toNat v6→dK i7 d1→(
     let v9:cX:=List.getD v2.gq (Int.toNat (i7:Int)) (aw .cX)
     let v10:=zy x0 ⟨v2.param.name,v2.param.kind,v2.param.min,v2.param.max,v2.param.enum,v2.param.fG,v2.param.safety⟩ v9
     (C8 x0 ⟨v2.param.name,v2.param.kind,v2.param.min,v2.param.max,v2.param.enum,v2.param.fG,v2.param.safety⟩ v9)∧
     ((v10 != 0)=false→(
      dK (i7+1) ())))
   ((v2.param.kind==0)=true→(
    (HI ⟨v2.param.name,v2.param.kind,v2.param.min,v2.param.max,v2.param.enum,v2.param.fG,v2.param.safety⟩ ⟨⟨#[]⟩,0,0,0,[],false,false⟩)∧
    ((!(zx ⟨v2.param.name,v2.param.kind,v2.param.min,v2.param.max,v2.param.enum,v2.param.fG,v2.param.safety⟩ ⟨⟨#[]⟩,0,0,0,[],false,false⟩))=false→(
     aI))))∧((v2.param.kind==0)=false→(
    let v6:=p1 ⟨v2.param.name,v2.param.kind,v2.param.min,v2.param.max,v2.param.enum,v2.param.fG,v2.param.safety⟩
    (ur ⟨v2.param.name,v2.param.kind,v2.param.min,v2.param.max,v2.param.enum,v2.param.fG,v2.param.safety⟩)∧
    ((v6 != 0)=false→(
     aI))))
  ∃bp:Nat→(Unit)→Prop,bp 0 ()∧(∀(i5:Nat) (d0:Unit),i5<Int.toNat an→bp i5 d0→(
   (0≤(i5:Int)∧(i5:Int)<(List.length x0.commands:Int))∧
   ((cf .eql ((List.getD x0.commands (Int.toNat (i5:Int)) (aw .Command)).name) v2.name)=false→(
    bp (i5+1) ()))))∧∀bD,bp (Int.toNat an) bD→a1 bD))
noncomputable def zB(x0:aO):Int:=
 bif(!(iB x0.name))then
  10
 else
  bif(zA x0)then
   3
  else
   let v4:Int:=(List.length x0.attrs:Int)
   Sum.elim (fun r=>r) (fun _=>
    let v5:Int:=(List.length x0.commands:Int)
    Sum.elim (fun r=>r) (fun _=>
     let v6:Int:=(List.length x0.events:Int)
     Sum.elim (fun r=>r) (fun _=>
      0)
     (bm (fun(i7:Nat) (_:Unit)=>
      show Step (Int) (Unit)from
      bif(!(iB (List.getD x0.events (Int.toNat (i7:Int)) (aw .str))))then
       .ret 10
      else
       Sum.elim (fun r=>r) (fun _=>
        .bh ())
       (bm (fun(i12:Nat) (_:Unit)=>
        show Step (Step (Int) (Unit)) (Unit)from
        bif(cf .eql (List.getD x0.events (Int.toNat (i12:Int)) (aw .str)) (List.getD x0.events (Int.toNat (i7:Int)) (aw .str)))then
         .ret (.ret 9)
        else
         .bh ()) 0 (Int.toNat (i7:Int)) ():(Step (Int) (Unit))⊕(Unit))) 0 (Int.toNat v6) ():Int⊕(Unit)))
    (bm (fun(i6:Nat) (_:Unit)=>
     show Step (Int) (Unit)from
     let bx:=zz x0 (i6:Int)
     bif(bx != 0)then
      .ret bx
     else
      .bh ()) 0 (Int.toNat v5) ():Int⊕(Unit)))
   (bm (fun(i5:Nat) (_:Unit)=>
    show Step (Int) (Unit)from
    let bw:Attr:=List.getD x0.attrs (Int.toNat (i5:Int)) (aw .Attr)
    let bx:=p1 bw
    bif(bx != 0)then
     .ret bx
    else
     bif(decide ((oO x0 ((List.getD x0.attrs (Int.toNat (i5:Int)) (aw .Attr)).name))<(i5:Int)))then
      .ret 9
     else
      .bh ()) 0 (Int.toNat v4) ():Int⊕(Unit))
def HL(x0:aO):Prop:=
 (nP x0.name)∧
 ((!(iB x0.name))=false→(
  ((zA x0)=false→(
   let v4:Int:=(List.length x0.attrs:Int)
   let a1:Unit→Prop:=fun _=>
    let v5:Int:=(List.length x0.commands:Int)
    let eT:Unit→Prop:=fun _=>
     let v6:Int:=(List.length x0.events:Int)
     ∃kH:Nat→(Unit)→Prop,kH 0 ()∧∀(i7:Nat) (d2:Unit),i7<Int.toNat v6→kH i7 d2→(
      let v9:ByteArray:=List.getD x0.events (Int.toNat (i7:Int)) (aw .str)
      (nP v9)∧
      ((!(iB v9))=false→(
       (0≤(i7:Int)∧(i7:Int)<(9223372036854775808:Int))∧
       let k6:Unit→Prop:=fun _=>
        kH (i7+1) ()
       ∃mm:Nat→(Unit)→Prop,mm 0 ()∧(∀(i12:Nat) (d3:Unit),i12<Int.toNat (i7:Int)→mm i12 d3→(
        (0≤(i12:Int)∧(i12:Int)<(List.length x0.events:Int))∧
        ((cf .eql (List.getD x0.events (Int.toNat (i12:Int)) (aw .str)) (List.getD x0.events (Int.toNat (i7:Int)) (aw .str)))=false→(
         mm (i12+1) ()))))∧∀cn,mm (Int.toNat (i7:Int)) cn→k6 cn)))
    ∃dK:Nat→(Unit)→Prop,dK 0 ()∧(∀(i6:Nat) (d1:Unit),i6<Int.toNat v5→dK i6 d1→(
     let bx:=zz x0 (i6:Int)
     (HK x0 (i6:Int))∧
     ((bx != 0)=false→(
      dK (i6+1) ()))))∧∀aM,dK (Int.toNat v5) aM→eT aM
   ∃bp:Nat→(Unit)→Prop,bp 0 ()∧(∀(i5:Nat) (d0:Unit),i5<Int.toNat v4→bp i5 d0→(
    let bw:Attr:=List.getD x0.attrs (Int.toNat (i5:Int)) (aw .Attr)
    let bx:=p1 bw
    (ur bw)∧
    ((bx != 0)=false→(
     ((decide ((oO x0 ((List.getD x0.attrs (Int.toNat (i5:Int)) (aw .Attr)).name))<(i5:Int)))=false→(
      bp (i5+1) ()))))))∧∀bD,bp (Int.toNat v4) bD→a1 bD))))
noncomputable def zC(x0:List aO):Int:=
 let v1:Int:=(List.length x0:Int)
 bif(decide (v1>256))then
  3
 else
  Sum.elim (fun r=>r) (fun _=>
   0)
  (bm (fun(i3:Nat) (_:Unit)=>
   show Step (Int) (Unit)from
   let v5:aO:=List.getD x0 (Int.toNat (i3:Int)) (aw .aO)
   let v6:=zB v5
   bif(v6 != 0)then
    .ret v6
   else
    Sum.elim (fun r=>r) (fun _=>
     .bh ())
    (bm (fun(i8:Nat) (_:Unit)=>
     show Step (Step (Int) (Unit)) (Unit)from
     bif(cf .eql ((List.getD x0 (Int.toNat (i8:Int)) (aw .aO)).name) ((List.getD x0 (Int.toNat (i3:Int)) (aw .aO)).name))then
      .ret (.ret 9)
     else
      .bh ()) 0 (Int.toNat (i3:Int)) ():(Step (Int) (Unit))⊕(Unit))) 0 (Int.toNat v1) ():Int⊕(Unit))
def HM(x0:List aO):Prop:=
 let v1:Int:=(List.length x0:Int)
 ((decide (v1>256))=false→(
  ∃bp:Nat→(Unit)→Prop,bp 0 ()∧∀(i3:Nat) (d0:Unit),i3<Int.toNat v1→bp i3 d0→(
   let v5:aO:=List.getD x0 (Int.toNat (i3:Int)) (aw .aO)
   let v6:=zB v5
   (HL v5)∧
   ((v6 != 0)=false→(
    (0≤(i3:Int)∧(i3:Int)<(9223372036854775808:Int))∧
    let eT:Unit→Prop:=fun _=>
     bp (i3+1) ()
    ∃dK:Nat→(Unit)→Prop,dK 0 ()∧(∀(i8:Nat) (d1:Unit),i8<Int.toNat (i3:Int)→dK i8 d1→(
     (0≤(i8:Int)∧(i8:Int)<(List.length x0:Int))∧
     ((cf .eql ((List.getD x0 (Int.toNat (i8:Int)) (aw .aO)).name) ((List.getD x0 (Int.toNat (i3:Int)) (aw .aO)).name))=false→(
      dK (i8+1) ()))))∧∀aM,dK (Int.toNat (i3:Int)) aM→eT aM)))))
noncomputable def q6(x0:List ByteArray)(an:ByteArray):Int:=
 let v2:Int:=(List.length x0:Int)
 Sum.elim (fun r=>r) (fun _=>
  (-1))
 (bm (fun(i3:Nat) (_:Unit)=>
  show Step (Int) (Unit)from
  bif(cf .eql (List.getD x0 (Int.toNat (i3:Int)) (aw .str)) an)then
   .ret (i3:Int)
  else
   .bh ()) 0 (Int.toNat v2) ():Int⊕(Unit))
noncomputable def j3(x0:Home)(an:ByteArray):Int:=
 let v2:Int:=(List.length x0.bq:Int)
 Sum.elim (fun r=>r) (fun _=>
  (-1))
 (bm (fun(i3:Nat) (_:Unit)=>
  show Step (Int) (Unit)from
  bif(cf .eql ((List.getD x0.bq (Int.toNat (i3:Int)) (aw .aO)).name) an)then
   .ret (i3:Int)
  else
   .bh ()) 0 (Int.toNat v2) ():Int⊕(Unit))
def zH(x0:Home)(_:ByteArray):Prop:=
 let v2:Int:=(List.length x0.bq:Int)
 0≤v2∧v2<(9223372036854775808:Int)
noncomputable def q8(x0:Home)(an:bA):Int:=
 let v4:Int:=(List.length an.bq:Int)
 bif((decide ((List.length an.bq:Int)<1))||(decide (v4>4)))then
  3
 else
  Sum.elim (fun r=>r) (fun bD=>
   bif(decide (bD>24))then
    3
   else
    0)
  (bm (fun(i8:Nat) (aM:Int)=>
   show Step (Int) (Int)from
   let v11:=j3 x0 (List.getD an.bq (Int.toNat (i8:Int)) (aw .str))
   bif(decide (v11<0))then
    .ret 8
   else
    bif(decide ((q6 an.bq (List.getD an.bq (Int.toNat (i8:Int)) (aw .str)))<(i8:Int)))then
     .ret 9
    else
     .bh (IntKind.wrap .i64 (aM+(List.length ((List.getD x0.bq (Int.toNat v11) (aw .aO)).attrs):Int)))) 0 (Int.toNat v4) 0:Int⊕(Int))
def HO(x0:Home)(an:bA):Prop:=
 let v4:Int:=(List.length an.bq:Int)
 (((decide ((List.length an.bq:Int)<1))||(decide (v4>4)))=false→(
  ∃bp:Nat→(Int)→Prop,bp 0 0∧∀(i8:Nat) (d0:Int),i8<Int.toNat v4→bp i8 d0→(
   let v10:ByteArray:=List.getD an.bq (Int.toNat (i8:Int)) (aw .str)
   let v11:=j3 x0 v10
   (zH x0 v10)∧
   ((decide (v11<0))=false→(
    ((decide ((q6 an.bq (List.getD an.bq (Int.toNat (i8:Int)) (aw .str)))<(i8:Int)))=false→(
     (0≤v11∧v11<(List.length x0.bq:Int))∧
     bp (i8+1) (IntKind.wrap .i64 (d0+(List.length ((List.getD x0.bq (Int.toNat v11) (aw .aO)).attrs):Int))))))))))
noncomputable def p6(x0:Home)(an:Int):Int:=
 let v2:bA:=List.getD x0.a8 (Int.toNat an) (aw .bA)
 let dQ:Bool:=(((((decide (v2.id<1))||(decide (v2.id>250)))||(decide (v2.oQ<0)))||(decide (v2.oQ>255)))||((!v2.oR)&&(v2.kZ != 0)))||(v2.oR&&((decide (v2.kZ<4))||(decide (v2.kZ>3600))))
 bif dQ then
  2
 else
  bif((decide (an>0))&&(decide (((List.getD x0.a8 (Int.toNat (IntKind.wrap .i64 (an-(1:Int)))) (aw .bA)).id)≥v2.id)))then
   14
  else
   Sum.elim (fun r=>r) (fun _=>
    bif(!(iB v2.room))then
     10
    else
     (q8 x0 v2))
   (bm (fun(i24:Nat) (_:Unit)=>
    show Step (Int) (Unit)from
    bif(((List.getD x0.a8 (Int.toNat (i24:Int)) (aw .bA)).hk)==v2.hk)then
     .ret 9
    else
     .bh ()) 0 (Int.toNat an) ():Int⊕(Unit))
def HP(x0:Home)(an:Int):Prop:=
 let v2:bA:=List.getD x0.a8 (Int.toNat an) (aw .bA)
 (0≤an∧an<(List.length x0.a8:Int))∧
 let dQ:Bool:=(((((decide (v2.id<1))||(decide (v2.id>250)))||(decide (v2.oQ<0)))||(decide (v2.oQ>255)))||((!v2.oR)&&(v2.kZ != 0)))||(v2.oR&&((decide (v2.kZ<4))||(decide (v2.kZ>3600))))
 (dQ=false→(
  let cj:=decide (an>0)
  let v20:Int:=IntKind.wrap .i64 (an-(1:Int))
  (cj=true→0≤v20∧v20<(List.length x0.a8:Int))∧
  ((cj&&(decide (((List.getD x0.a8 (Int.toNat v20) (aw .bA)).id)≥v2.id)))=false→(
   (0≤an∧an<(9223372036854775808:Int))∧
   let a1:Unit→Prop:=fun _=>
    (nP v2.room)∧
    ((!(iB v2.room))=false→(
     HO x0 v2))
   ∃bp:Nat→(Unit)→Prop,bp 0 ()∧(∀(i24:Nat) (d0:Unit),i24<Int.toNat an→bp i24 d0→(
    (0≤(i24:Int)∧(i24:Int)<(List.length x0.a8:Int))∧
    ((((List.getD x0.a8 (Int.toNat (i24:Int)) (aw .bA)).hk)==v2.hk)=false→(
     bp (i24+1) ()))))∧∀bD,bp (Int.toNat an) bD→a1 bD))))
noncomputable def j4(x0:Home):Int:=
 let v1:=zC x0.bq
 bif(v1 != 0)then
  v1
 else
  let v3:Int:=(List.length x0.a8:Int)
  bif(decide (v3>20))then
   3
  else
   Sum.elim (fun r=>r) (fun _=>
    0)
   (bm (fun(i5:Nat) (_:Unit)=>
    show Step (Int) (Unit)from
    let bw:=p6 x0 (i5:Int)
    bif(bw != 0)then
     .ret bw
    else
     .bh ()) 0 (Int.toNat v3) ():Int⊕(Unit))
def sI(x0:Home):Prop:=
 let v1:=zC x0.bq
 (HM x0.bq)∧
 ((v1 != 0)=false→(
  let v3:Int:=(List.length x0.a8:Int)
  ((decide (v3>20))=false→(
   ∃bp:Nat→(Unit)→Prop,bp 0 ()∧∀(i5:Nat) (d0:Unit),i5<Int.toNat v3→bp i5 d0→(
    let bw:=p6 x0 (i5:Int)
    (HP x0 (i5:Int))∧
    ((bw != 0)=false→(
     bp (i5+1) ())))))))
noncomputable def wO(x0:bQ):Bool:=
 let v3:Bool:=(x0.kind==1)||(x0.kind==2)
 let v12:Bool:=((!v3)&&(cf .neq x0.key.attr (⟨#[]⟩:ByteArray)))||(((!v3)&&(x0.kind != 3))&&(!(bif x0.key.dev==0 then bif et x0.key.cK (⟨#[]⟩:ByteArray)then et x0.key.attr (⟨#[]⟩:ByteArray)else false else false)))
 bif v12 then
  false
 else
  let zcM:Bool:=(((((x0.kind==3)||(x0.kind==4))||(x0.kind==5))||(x0.kind==6))||(cf .eql x0.name (⟨#[]⟩:ByteArray)))&&(((x0.kind==2)||(x0.kind==3))||(bif x0.value.kind==0 then bif x0.value.n==0 then et x0.value.s (⟨#[]⟩:ByteArray)else false else false))
  (zcM&&((x0.kind==7)||(cf .eql x0.text (⟨#[]⟩:ByteArray))))
noncomputable def hl(x0:Home)(an:Int):Int:=
 let v2:Int:=(List.length x0.a8:Int)
 Sum.elim (fun r=>r) (fun _=>
  (-1))
 (bm (fun(i3:Nat) (_:Unit)=>
  show Step (Int) (Unit)from
  bif(((List.getD x0.a8 (Int.toNat (i3:Int)) (aw .bA)).id)==an)then
   .ret (i3:Int)
  else
   .bh ()) 0 (Int.toNat v2) ():Int⊕(Unit))
def uK(x0:Home)(_:Int):Prop:=
 let v2:Int:=(List.length x0.a8:Int)
 0≤v2∧v2<(9223372036854775808:Int)
noncomputable def sJ(x0:Home)(an:Int)(bJ:ByteArray):aO × Bool:=
 let v3:=hl x0 an
 let v4:=decide (v3<0)
 let aI:Int→aO × Bool:=fun v5=>
  let bw:Bool:=v4||(v5 != 0)
  let aI:Int→aO × Bool:=fun v9=>
   bif(bw||(decide (v9<0)))then
    (⟨⟨#[]⟩,[],[],[]⟩,false)
   else
    let bS:aO:=List.getD x0.bq (Int.toNat (j3 x0 bJ)) (aw .aO)
    (bS,true)
  bif bw then
   aI (0:Int)
  else
   aI (q6 ((List.getD x0.a8 (Int.toNat v3) (aw .bA)).bq) bJ)
 bif v4 then
  aI (0:Int)
 else
  aI (j4 x0)
def Dc(x0:Home)(an:Int)(bJ:ByteArray):Prop:=
 let v3:=hl x0 an
 (uK x0 an)∧
 let v4:=decide (v3<0)
 let aI:Int→Prop:=fun v5=>
  let bw:Bool:=v4||(v5 != 0)
  (bw=false→0≤v3∧v3<(List.length x0.a8:Int))∧
  let aI:Int→Prop:=fun v9=>
   ((bw||(decide (v9<0)))=false→(
    let v12:=j3 x0 bJ
    (zH x0 bJ)∧
    let _:aO:=List.getD x0.bq (Int.toNat v12) (aw .aO)
    0≤v12∧v12<(List.length x0.bq:Int)))
  (bw=true→(
   aI (0:Int)))∧(bw=false→(
   aI (q6 ((List.getD x0.a8 (Int.toNat v3) (aw .bA)).bq) bJ)))
 (v4=true→(
  aI (0:Int)))∧(v4=false→(
  (sI x0)∧
  aI (j4 x0)))
noncomputable def uu(x0:Home)(an:cd):Attr × Bool:=
 let v2:=sJ x0 an.dev an.cK
 bif !v2.2 then
  (⟨⟨#[]⟩,0,0,0,[],false,false⟩,false)
 else
  let v6:=um v2.1 an.attr
  (v6.1,v6.2)
def Dd(x0:Home)(an:cd):Prop:=
 let v2:=sJ x0 an.dev an.cK
 (Dc x0 an.dev an.cK)∧
 ((!v2.2)=false→(
  let _:=um v2.1 an.attr
  C6 v2.1 an.attr))
noncomputable def De(x0:Home)(an:bQ):Int:=
 let v2:=uu x0 ⟨an.key.dev,an.key.cK,an.key.attr⟩
 bif !v2.2 then
  8
 else
  bif(an.kind==1)then
   0
  else
   bif !v2.1.fG then
    24
   else
    (wK v2.1 ⟨an.value.kind,an.value.n,an.value.s⟩)
def HS(x0:Home)(an:bQ):Prop:=
 let v2:=uu x0 ⟨an.key.dev,an.key.cK,an.key.attr⟩
 (Dd x0 ⟨an.key.dev,an.key.cK,an.key.attr⟩)∧
 ((!v2.2)=false→(
  ((an.kind==1)=false→(
   ((!v2.1.fG)=false→(
    zG v2.1 ⟨an.value.kind,an.value.n,an.value.s⟩))))))
noncomputable def zK(x0:aO)(an:ByteArray):Command × Bool:=
 let v2:Int:=(List.length x0.commands:Int)
 Sum.elim (fun r=>r) (fun _=>
  (⟨⟨#[]⟩,⟨⟨#[]⟩,0,0,0,[],false,false⟩,[]⟩,false))
 (bm (fun(i3:Nat) (_:Unit)=>
  show Step (Command × Bool) (Unit)from
  bif(cf .eql ((List.getD x0.commands (Int.toNat (i3:Int)) (aw .Command)).name) an)then
   let bw:Command:=List.getD x0.commands (Int.toNat (i3:Int)) (aw .Command)
   .ret (bw,true)
  else
   .bh ()) 0 (Int.toNat v2) ():(Command × Bool)⊕(Unit))
noncomputable def Dg(x0:Home)(an:bQ):Int:=
 let v2:=sJ x0 an.key.dev an.key.cK
 bif !v2.2 then
  8
 else
  let v6:=zK v2.1 an.name
  bif !v6.2 then
   8
  else
   bif(v6.1.param.kind != 0)then
    (wK ⟨v6.1.param.name,v6.1.param.kind,v6.1.param.min,v6.1.param.max,v6.1.param.enum,v6.1.param.fG,v6.1.param.safety⟩ ⟨an.value.kind,an.value.n,an.value.s⟩)
   else
    bif(!(bif an.value.kind==0 then bif an.value.n==0 then et an.value.s (⟨#[]⟩:ByteArray)else false else false))then
     11
    else
     0
def HT(x0:Home)(an:bQ):Prop:=
 let v2:=sJ x0 an.key.dev an.key.cK
 (Dc x0 an.key.dev an.key.cK)∧
 ((!v2.2)=false→(
  let v6:=zK v2.1 an.name
  ((!v6.2)=false→(
   ((v6.1.param.kind != 0)=true→(
    zG ⟨v6.1.param.name,v6.1.param.kind,v6.1.param.min,v6.1.param.max,v6.1.param.enum,v6.1.param.fG,v6.1.param.safety⟩ ⟨an.value.kind,an.value.n,an.value.s⟩))))))
noncomputable def uw(x0:Home)(an:bQ):Int:=
 let v2:=j4 x0
 bif(v2 != 0)then
  v2
 else
  bif((decide (an.kind<1))||(decide (an.kind>7)))then
   7
  else
   bif((decide (an.dO<0))||(decide (an.dO>1099511627776)))then
    2
   else
    bif(!(wO an))then
     1
    else
     let aI:Bool→Int:=fun v12=>
      bif v12 then
       (De x0 an)
      else
       bif(an.kind==3)then
        (Dg x0 an)
       else
        bif(an.kind==7)then
         bif(decide ((ByteArray.size an.text:Int)>20000))then
          3
         else
          0
        else
         bif(!(iB an.name))then
          10
         else
          0
     let v12:=an.kind==1
     bif v12 then
      aI v12
     else
      aI (an.kind==2)
def zJ(x0:Home)(an:bQ):Prop:=
 let v2:=j4 x0
 (sI x0)∧
 ((v2 != 0)=false→(
  (((decide (an.kind<1))||(decide (an.kind>7)))=false→(
   (((decide (an.dO<0))||(decide (an.dO>1099511627776)))=false→(
    ((!(wO an))=false→(
     let aI:Bool→Prop:=fun v12=>
      (v12=true→(
       HS x0 an))∧(v12=false→(
       ((an.kind==3)=true→(
        HT x0 an))∧((an.kind==3)=false→(
        ((an.kind==7)=false→(
         nP an.name))))))
     let v12:=an.kind==1
     (v12=true→(
      aI v12))∧(v12=false→(
      aI (an.kind==2)))))))))))
noncomputable def R5(x0:ByteArray):Int:=
 let v1:Int:=(ByteArray.size x0:Int)
 Sum.elim (fun r=>r) (fun bD=>
  bD)
 (bm (fun(i3:Nat) (aM:Int)=>
  show Step (Int) (Int)from
  .bh (IntKind.wrap .u64 ((bn .xor .u64 aM (IntKind.wrap .u64 (dP x0 (i3:Int))))*(1099511628211:Int)))) 0 (Int.toNat v1) 14695981039346656037:Int⊕(Int))
def HY(x0:ByteArray):Prop:=
 let v1:Int:=(ByteArray.size x0:Int)
 0≤v1∧v1<(9223372036854775808:Int)
noncomputable def zY(x0:Int)(an:ByteArray):Int:=
 let dQ:List Int:=([(IntKind.wrap .u8 (bn .shr .u64 x0 (56:Int))),(IntKind.wrap .u8 (bn .shr .u64 x0 (48:Int))),(IntKind.wrap .u8 (bn .shr .u64 x0 (40:Int))),(IntKind.wrap .u8 (bn .shr .u64 x0 (32:Int))),(IntKind.wrap .u8 (bn .shr .u64 x0 (24:Int))),(IntKind.wrap .u8 (bn .shr .u64 x0 (16:Int))),(IntKind.wrap .u8 (bn .shr .u64 x0 (8:Int))),(IntKind.wrap .u8 (bn .shr .u64 x0 (0:Int)))]:List Int)
 let cj:=bytesOf dQ
 (IntKind.wrap .i64 (bn .shr .u64 (R5 (ByteArray.append (ByteArray.append cj an) cj)) (32:Int)))
def Dk(x0:Int)(an:ByteArray):Prop:=
 let dQ:List Int:=([(IntKind.wrap .u8 (bn .shr .u64 x0 (56:Int))),(IntKind.wrap .u8 (bn .shr .u64 x0 (48:Int))),(IntKind.wrap .u8 (bn .shr .u64 x0 (40:Int))),(IntKind.wrap .u8 (bn .shr .u64 x0 (32:Int))),(IntKind.wrap .u8 (bn .shr .u64 x0 (24:Int))),(IntKind.wrap .u8 (bn .shr .u64 x0 (16:Int))),(IntKind.wrap .u8 (bn .shr .u64 x0 (8:Int))),(IntKind.wrap .u8 (bn .shr .u64 x0 (0:Int)))]:List Int)
 let cj:=bytesOf dQ
 let v20:=ByteArray.append cj an
 (ByteArray.size cj+ByteArray.size an≤9223372036854775807)∧
 let v21:=ByteArray.append v20 cj
 (ByteArray.size v20+ByteArray.size cj≤9223372036854775807)∧
 HY v21
noncomputable def mg(x0:Int)(an:ByteArray):ByteArray × Int:=
 let v2:Int:=(ByteArray.size an:Int)
 bif(decide (v2<4))then
  (⟨#[]⟩,5)
 else
  let v5:=kF an none (some (IntKind.wrap .i64 (v2-(4:Int))))
  let v6:=zY x0 v5
  let dD:List Int:=([(IntKind.wrap .u8 (bn .shr .i64 v6 (24:Int))),(IntKind.wrap .u8 (bn .shr .i64 v6 (16:Int))),(IntKind.wrap .u8 (bn .shr .i64 v6 (8:Int))),(IntKind.wrap .u8 (bn .shr .i64 v6 (0:Int)))]:List Int)
  bif(cf .neq (kF an (some (ByteArray.size v5:Int)) none) (bytesOf dD))then
   (⟨#[]⟩,6)
  else
   (v5,0)
def HZ(x0:Int)(an:ByteArray):Prop:=
 let v2:Int:=(ByteArray.size an:Int)
 ((decide (v2<4))=false→(
  let v4:Int:=IntKind.wrap .i64 (v2-(4:Int))
  let v5:=kF an none (some v4)
  (iC (ByteArray.size an) none (some v4))∧
  let _:=zY x0 v5
  (Dk x0 v5)∧
  let cU:Int:=(ByteArray.size v5:Int)
  iC (ByteArray.size an) (some cU) none))
noncomputable def Dw(x0:dS):Int:=
 bif(!(iA x0.cq))then
  10
 else
  bif(((((decide (x0.id<1))||(decide (x0.id>1099511627776)))||(decide (x0.mZ<0)))||(decide (x0.mZ>x0.m0)))||(decide (x0.m0>1099511627776)))then
   2
  else
   bif(decide ((IntKind.wrap .i64 (x0.m0-x0.mZ))>43200))then
    3
   else
    0
def R6(x0:dS):Prop:=
 nO x0.cq
noncomputable def wX(x0:Int)(an:ByteArray):dS × Int:=
 let v2:=jL an
 bif(v2.2 != 0)then
  (⟨⟨#[]⟩,0,0,0⟩,v2.2)
 else
  let v6:=mg x0 v2.1
  bif(v6.2 != 0)then
   (⟨⟨#[]⟩,0,0,0⟩,v6.2)
  else
   let v10:=iz ⟨v6.1,0,true⟩ (24:Int)
   let bS:=hj v10.1
   let cT:=hj bS.1
   let cj:=hj cT.1
   let v22:=wv cj.1
   let aI:Int→dS × Int:=fun v25=>
    bif(v25 != 0)then
     (⟨⟨#[]⟩,0,0,0⟩,v25)
    else
     (⟨v10.2,bS.2,cT.2,cj.2⟩,0)
   bif(v22.2==0)then
    aI (Dw ⟨v10.2,bS.2,cT.2,cj.2⟩)
   else
    aI v22.2
def H2(x0:Int)(an:ByteArray):Prop:=
 let v2:=jL an
 (Dj an)∧
 ((v2.2 != 0)=false→(
  let v6:=mg x0 v2.1
  (HZ x0 v2.1)∧
  ((v6.2 != 0)=false→(
   let v10:=iz ⟨v6.1,0,true⟩ (24:Int)
   (sy ⟨v6.1,0,true⟩ (24:Int))∧
   let bS:=hj v10.1
   (nN v10.1)∧
   let cT:=hj bS.1
   (nN bS.1)∧
   let cj:=hj cT.1
   (nN cT.1)∧
   let v22:=wv cj.1
   ((v22.2==0)=true→(
    R6 ⟨v10.2,bS.2,cT.2,cj.2⟩))))))
noncomputable def Dx(x0:List Int)(an:Int):Int:=
 let v2:Int:=(List.length x0:Int)
 Sum.elim (fun r=>r) (fun _=>
  (-1))
 (bm (fun(i3:Nat) (_:Unit)=>
  show Step (Int) (Unit)from
  bif(an==(List.getD x0 (Int.toNat (i3:Int)) (aw .i64)))then
   .ret (i3:Int)
  else
   .bh ()) 0 (Int.toNat v2) ():Int⊕(Unit))
noncomputable def z6(x0:List Int)(an:Int):Bool:=
 (decide ((Dx x0 an)≥0))
noncomputable def iN(x0:Int)(an:ByteArray)(bJ:Int)(b8:List Int):dS × Int:=
 let v4:=wX x0 an
 let aI:Int→dS × Int:=fun bw=>
  (⟨⟨#[]⟩,0,0,0⟩,bw)
 bif(v4.2 != 0)then
  aI v4.2
 else
  bif((decide (bJ<v4.1.mZ))||(decide (bJ≥v4.1.m0)))then
   aI (17:Int)
  else
   bif(z6 b8 v4.1.id)then
    aI (16:Int)
   else
    (v4.1,0)
def H3(x0:Int)(an:ByteArray)(_:Int)(_:List Int):Prop:=
 let _:=wX x0 an
 H2 x0 an
noncomputable def uE(x0:df):Bool:=
 (((decide (0≤x0.from_))&&(decide (x0.from_<x0.oX)))&&(decide (x0.oX≤10080)))
noncomputable def Ah(x0:List df):Int:=
 let v1:Int:=(List.length x0:Int)
 bif(decide (v1>256))then
  3
 else
  Sum.elim (fun r=>r) (fun _=>
   0)
  (bm (fun(i3:Nat) (_:Unit)=>
   show Step (Int) (Unit)from
   let v5:df:=List.getD x0 (Int.toNat (i3:Int)) (aw .df)
   bif(!(uE v5))then
    .ret 2
   else
    .bh ()) 0 (Int.toNat v1) ():Int⊕(Unit))
noncomputable def m2(x0:Home)(an:List br)(bJ:Int):Int:=
 let v3:br:=List.getD an (Int.toNat bJ) (aw .br)
 bif(!(iA v3.name))then
  10
 else
  let v6:=ih an none (some bJ)
  let bK:Int→Int:=fun bw=>
   bif(decide (bw≥0))then
    9
   else
    bif((decide (v3.role<1))||(decide (v3.role>4)))then
     2
    else
     let v12:=Ah v3.gA
     bif(v12 != 0)then
      v12
     else
      let cj:Int:=(List.length v3.dj:Int)
      bif((cI.den (.mn true) (v3.role==1) (decide ((List.length v3.gA:Int)>0)))||((decide (v3.role≥3))&&(decide (cj>0))))then
       4
      else
       bif(decide (cj>256))then
        3
       else
        Sum.elim (fun r=>r) (fun _=>
         0)
        (bm (fun(i24:Nat) (_:Unit)=>
         show Step (Int) (Unit)from
         let v26:ByteArray:=List.getD v3.dj (Int.toNat (i24:Int)) (aw .str)
         bif(!(iA v26))then
          .ret 10
         else
          let bK:Int→Step (Int) (Unit):=fun h3=>
           bif(!(decide (h3≥0)))then
            .ret 8
           else
            .bh ()
          let h3:Int:=(List.length x0.a8:Int)
          Sum.elim (fun r=>r) (fun _=>
           bK ((-1):Int))
          (bm (fun(i30:Nat) (_:Unit)=>
           show Step (Step (Int) (Unit)) (Unit)from
           bif(cf .eql ((List.getD x0.a8 (Int.toNat (i30:Int)) (aw .bA)).room) v26)then
            .ret (bK (i30:Int))
           else
            .bh ()) 0 (Int.toNat h3) ():(Step (Int) (Unit))⊕(Unit))) 0 (Int.toNat cj) ():Int⊕(Unit))
  let bw:Int:=(List.length v6:Int)
  Sum.elim (fun r=>r) (fun _=>
   bK ((-1):Int))
  (bm (fun(i8:Nat) (_:Unit)=>
   show Step (Int) (Unit)from
   bif(cf .eql ((List.getD v6 (Int.toNat (i8:Int)) (aw .br)).name) v3.name)then
    .ret (bK (i8:Int))
   else
    .bh ()) 0 (Int.toNat bw) ():Int⊕(Unit))
def Dp(x0:Home)(an:List br)(bJ:Int):Prop:=
 let v3:br:=List.getD an (Int.toNat bJ) (aw .br)
 (0≤bJ∧bJ<(List.length an:Int))∧
 (nO v3.name)∧
 ((!(iA v3.name))=false→(
  let v6:=ih an none (some bJ)
  (iC (List.length an) none (some bJ))∧
  let bK:Int→Prop:=fun bw=>
   ((decide (bw≥0))=false→(
    (((decide (v3.role<1))||(decide (v3.role>4)))=false→(
     let v12:=Ah v3.gA
     ((v12 != 0)=false→(
      let cj:Int:=(List.length v3.dj:Int)
      (((cI.den (.mn true) (v3.role==1) (decide ((List.length v3.gA:Int)>0)))||((decide (v3.role≥3))&&(decide (cj>0))))=false→(
       ((decide (cj>256))=false→(
        ∃bp:Nat→(Unit)→Prop,bp 0 ()∧∀(i24:Nat) (d0:Unit),i24<Int.toNat cj→bp i24 d0→(
         let v26:ByteArray:=List.getD v3.dj (Int.toNat (i24:Int)) (aw .str)
         (nO v26)∧
         ((!(iA v26))=false→(
          let bK:Int→Prop:=fun h3=>
           ((!(decide (h3≥0)))=false→(
            bp (i24+1) ()))
          let h3:Int:=(List.length x0.a8:Int)
          let eT:Unit→Prop:=fun _=>
           bK ((-1):Int)
          ∃dK:Nat→(Unit)→Prop,dK 0 ()∧(∀(i30:Nat) (d1:Unit),i30<Int.toNat h3→dK i30 d1→(
           ((cf .eql ((List.getD x0.a8 (Int.toNat (i30:Int)) (aw .bA)).room) v26)=true→(
            bK (i30:Int)))∧((cf .eql ((List.getD x0.a8 (Int.toNat (i30:Int)) (aw .bA)).room) v26)=false→(
            dK (i30+1) ()))))∧∀aM,dK (Int.toNat h3) aM→eT aM)))))))))))))
  let bw:Int:=(List.length v6:Int)
  let gM:Unit→Prop:=fun _=>
   bK ((-1):Int)
  ∃kH:Nat→(Unit)→Prop,kH 0 ()∧(∀(i8:Nat) (d2:Unit),i8<Int.toNat bw→kH i8 d2→(
   ((cf .eql ((List.getD v6 (Int.toNat (i8:Int)) (aw .br)).name) v3.name)=true→(
    bK (i8:Int)))∧((cf .eql ((List.getD v6 (Int.toNat (i8:Int)) (aw .br)).name) v3.name)=false→(
    kH (i8+1) ()))))∧∀dg,kH (Int.toNat bw) dg→gM dg))
noncomputable def R7(x0:br):Bool:=
 (x0.role==4)
noncomputable def sN(x0:Home)(an:List br):Int:=
 let v2:=fc x0
 bif(v2 != 0)then
  v2
 else
  let v6:Int:=(List.length an:Int)
  bif((decide ((List.length an:Int)<1))||(decide (v6>16)))then
   3
  else
   Sum.elim (fun r=>r) (fun _=>
    let bK:Int→Int:=fun v9=>
     bif(!(decide (v9≥0)))then
      8
     else
      0
    Sum.elim (fun r=>r) (fun _=>
     bK ((-1):Int))
    (bm (fun(i9:Nat) (_:Unit)=>
     show Step (Int) (Unit)from
     let v11:br:=List.getD an (Int.toNat (i9:Int)) (aw .br)
     bif(R7 v11)then
      .ret (bK (i9:Int))
     else
      .bh ()) 0 (Int.toNat v6) ():Int⊕(Unit)))
   (bm (fun(i9:Nat) (_:Unit)=>
    show Step (Int) (Unit)from
    let v11:=m2 x0 an (i9:Int)
    bif(v11 != 0)then
     .ret v11
    else
     .bh ()) 0 (Int.toNat v6) ():Int⊕(Unit))
def H5(x0:Home)(an:List br):Prop:=
 let v2:=fc x0
 (zt x0)∧
 ((v2 != 0)=false→(
  let v6:Int:=(List.length an:Int)
  (((decide ((List.length an:Int)<1))||(decide (v6>16)))=false→(
   ∃bp:Nat→(Unit)→Prop,bp 0 ()∧∀(i9:Nat) (d0:Unit),i9<Int.toNat v6→bp i9 d0→(
    let v11:=m2 x0 an (i9:Int)
    (Dp x0 an (i9:Int))∧
    ((v11 != 0)=false→(
     bp (i9+1) ())))))))
def R8(x:List df):List df:=x
def H7(x:List df):Prop:=x.length≤maxLen∧x.length*16≤140737488355328
noncomputable def Ae(x0:List br)(an:ByteArray):br × Bool:=
 let v2:Int:=(List.length x0:Int)
 Sum.elim (fun r=>r) (fun _=>
  (⟨⟨#[]⟩,0,[],[],false⟩,false))
 (bm (fun(i3:Nat) (_:Unit)=>
  show Step (br × Bool) (Unit)from
  let v5:br:=List.getD x0 (Int.toNat (i3:Int)) (aw .br)
  bif(cf .eql v5.name an)then
   .ret (⟨v5.name,v5.role,(R8 v5.gA),(D0 v5.dj),v5.home⟩,true)
  else
   .bh ()) 0 (Int.toNat v2) ():(br × Bool)⊕(Unit))
def H6(x0:List br)(an:ByteArray):Prop:=
 let v2:Int:=(List.length x0:Int)
 ∃bp:Nat→(Unit)→Prop,bp 0 ()∧∀(i3:Nat) (d0:Unit),i3<Int.toNat v2→bp i3 d0→(
  let v5:br:=List.getD x0 (Int.toNat (i3:Int)) (aw .br)
  ((cf .eql v5.name an)=true→(
   (H7 v5.gA)∧
   wH v5.dj))∧((cf .eql v5.name an)=false→(
   bp (i3+1) ())))
noncomputable def jf(x0:Home)(an:Int):ByteArray:=
 let v2:=lG x0 an
 v2.1.room
def rf(x0:Home)(an:Int):Prop:=
 let _:=lG x0 an
 zu x0 an
noncomputable def ri(x0:Home)(an:cd):Bool:=
 let v2:=uv x0 an
 (v2.2&&v2.1.safety)
def Dq(x0:Home)(an:cd):Prop:=
 let _:=uv x0 an
 C1 x0 an
noncomputable def mj(x0:Home)(an:Int):(List cd):=
 let v2:=lG x0 an
 let v6:Int:=(List.length v2.1.bq:Int)
 Sum.elim (fun r=>r) (fun bD=>
  bD)
 (bm (fun(i8:Nat) (aM:(List cd))=>
  show Step ((List cd)) ((List cd))from
  let v10:ByteArray:=List.getD v2.1.bq (Int.toNat (i8:Int)) (aw .str)
  let v11:aO:=(jK (.str) (kE x0) v10).getD (aw .aO)
  let v12:Int:=(List.length v11.attrs:Int)
  Sum.elim (fun r=>r) (fun dg=>
   .bh dg)
  (bm (fun(i14:Nat) (cn:(List cd))=>
   show Step (Step ((List cd)) ((List cd))) ((List cd))from
   .bh (List.append cn ([⟨an,v10,(List.getD v11.attrs (Int.toNat (i14:Int)) (aw .Attr)).name⟩]:List cd))) 0 (Int.toNat v12) aM:(Step ((List cd)) ((List cd)))⊕((List cd)))) 0 (Int.toNat v6) []:(List cd)⊕((List cd)))
def H8(x0:Home)(an:Int):Prop:=
 let v2:=lG x0 an
 (zu x0 an)∧
 let v6:Int:=(List.length v2.1.bq:Int)
 ∃bp:Nat→((List cd))→Prop,bp 0 []∧∀(i8:Nat) (d0:(List cd)),i8<Int.toNat v6→bp i8 d0→(
  let v10:ByteArray:=List.getD v2.1.bq (Int.toNat (i8:Int)) (aw .str)
  let v11:aO:=(jK (.str) (kE x0) v10).getD (aw .aO)
  let v12:Int:=(List.length v11.attrs:Int)
  let eT:(List cd)→Prop:=fun aM=>
   bp (i8+1) aM
  ∃dK:Nat→((List cd))→Prop,dK 0 d0∧(∀(i14:Nat) (d1:(List cd)),i14<Int.toNat v12→dK i14 d1→(
   let dD:List cd:=([⟨an,v10,(List.getD v11.attrs (Int.toNat (i14:Int)) (aw .Attr)).name⟩]:List cd)
   (List.length d1+List.length dD≤maxLen∧(List.length d1+List.length dD)*40≤140737488355328)∧
   dK (i14+1) (List.append d1 dD)))∧∀aM,dK (Int.toNat v12) aM→eT aM)
noncomputable def p8(x0:Home)(an:bQ):Bool:=
 bif(an.kind==2)then
  (ri x0 ⟨an.key.dev,an.key.cK,an.key.attr⟩)
 else
  let v3:=mj x0 an.key.dev
  let eI:Int→Bool:=fun v4=>
   (decide (v4≥0))
  let v4:Int:=(List.length v3:Int)
  Sum.elim (fun r=>r) (fun _=>
   eI ((-1):Int))
  (bm (fun(i5:Nat) (_:Unit)=>
   show Step (Bool) (Unit)from
   let bw:cd:=List.getD v3 (Int.toNat (i5:Int)) (aw .cd)
   let bx:=cf .eql bw.cK an.key.cK
   let aI:Bool→Step (Bool) (Unit):=fun v9=>
    bif(bx&&v9)then
     .ret (eI (i5:Int))
    else
     .bh ()
   bif bx then
    aI (ri x0 bw)
   else
    aI false) 0 (Int.toNat v4) ():Bool⊕(Unit))
def wS(x0:Home)(an:bQ):Prop:=
 ((an.kind==2)=true→(
  Dq x0 ⟨an.key.dev,an.key.cK,an.key.attr⟩))∧((an.kind==2)=false→(
  let v3:=mj x0 an.key.dev
  (H8 x0 an.key.dev)∧
  let v4:Int:=(List.length v3:Int)
  ∃bp:Nat→(Unit)→Prop,bp 0 ()∧∀(i5:Nat) (d0:Unit),i5<Int.toNat v4→bp i5 d0→(
   let bw:cd:=List.getD v3 (Int.toNat (i5:Int)) (aw .cd)
   let bx:=cf .eql bw.cK an.key.cK
   let aI:Bool→Prop:=fun v9=>
    ((bx&&v9)=false→(
     bp (i5+1) ()))
   (bx=true→(
    (Dq x0 bw)∧
    aI (ri x0 bw)))∧(bx=false→(
    aI false)))))
noncomputable def DG(x0:Home)(an:br)(bJ:Int)(b8:bQ):Int:=
 bif((decide (b8.kind<1))||(decide (b8.kind>7)))then
  7
 else
  bif(an.role==1)then
   let bx:=decide (bJ≥0)
   let eI:Bool→Int:=fun v9=>
    bif(!(bx&&v9))then
     17
    else
     let jO:Int→Int:=fun v12=>
      bif(decide (0<v12))then
       16
      else
       0
     let aI:Bool→Int:=fun v12=>
      bif v12 then
       let eI:Int→Int:=fun dp=>
        dp
       let bK:Int→Int:=fun dp=>
        bif(!(decide (dp≥0)))then
         eI (8:Int)
        else
         let dQ:=decide ((List.length an.dj:Int)>0)
         let aI:ByteArray→Int:=fun cj=>
          let aI:Bool→Int:=fun v20=>
           bif(dQ&&(!v20))then
            eI (16:Int)
           else
            bif(p8 x0 b8)then
             eI (16:Int)
            else
             eI (0:Int)
          bif dQ then
           aI (hM an.dj cj)
          else
           aI false
         bif dQ then
          aI (jf x0 b8.key.dev)
         else
          aI (⟨#[]⟩:ByteArray)
       let dp:Int:=(List.length x0.a8:Int)
       Sum.elim (fun r=>r) (fun _=>
        bK ((-1):Int))
       (bm (fun(i15:Nat) (_:Unit)=>
        show Step (Int) (Unit)from
        bif(((List.getD x0.a8 (Int.toNat (i15:Int)) (aw .bA)).id)==b8.key.dev)then
         .ret (bK (i15:Int))
        else
         .bh ()) 0 (Int.toNat dp) ():Int⊕(Unit))
      else
       bif(b8.kind==4)then
        jO (1:Int)
       else
        bif(b8.kind==5)then
         jO (2:Int)
        else
         let aI:Bool→Int:=fun cT=>
          bif cT then
           jO (3:Int)
          else
           jO (0:Int)
         let cT:=b8.kind==6
         bif cT then
          aI cT
         else
          aI (b8.kind==7)
     let v12:=b8.kind==2
     bif v12 then
      aI v12
     else
      aI (b8.kind==3)
   bif bx then
    let bK:Bool→Int:=fun v9=>
     eI v9
    let v9:Int:=bn .rem .i64 bJ (10080:Int)
    let aI:Int→Int:=fun v10=>
     let v12:Int:=(List.length an.gA:Int)
     Sum.elim (fun r=>r) (fun _=>
      bK false)
     (bm (fun(i13:Nat) (_:Unit)=>
      show Step (Int) (Unit)from
      let cU:df:=List.getD an.gA (Int.toNat (i13:Int)) (aw .df)
      bif(((uE cU)&&(decide (cU.from_≤v10)))&&(decide (v10<cU.oX)))then
       .ret (bK true)
      else
       .bh ()) 0 (Int.toNat v12) ():Int⊕(Unit))
    bif(decide (v9<0))then
     aI (IntKind.wrap .i64 (v9+(10080:Int)))
    else
     aI v9
   else
    eI false
  else
   bif(an.role==2)then
    bif !true then
     17
    else
     let jO:Int→Int:=fun v10=>
      bif(decide (1<v10))then
       16
      else
       0
     bif(b8.kind==2)then
      let eI:Int→Int:=fun v11=>
       v11
      let bK:Int→Int:=fun v11=>
       bif(!(decide (v11≥0)))then
        eI (8:Int)
       else
        let cU:=decide ((List.length an.dj:Int)>0)
        let aI:ByteArray→Int:=fun cT=>
         let aI:Bool→Int:=fun dD=>
          bif(cU&&(!dD))then
           eI (16:Int)
          else
           bif(p8 x0 b8)then
            eI (16:Int)
           else
            eI (0:Int)
         bif cU then
          aI (hM an.dj cT)
         else
          aI false
        bif cU then
         aI (jf x0 b8.key.dev)
        else
         aI (⟨#[]⟩:ByteArray)
      let v11:Int:=(List.length x0.a8:Int)
      Sum.elim (fun r=>r) (fun _=>
       bK ((-1):Int))
      (bm (fun(i12:Nat) (_:Unit)=>
       show Step (Int) (Unit)from
       bif(((List.getD x0.a8 (Int.toNat (i12:Int)) (aw .bA)).id)==b8.key.dev)then
        .ret (bK (i12:Int))
       else
        .bh ()) 0 (Int.toNat v11) ():Int⊕(Unit))
     else
      bif(b8.kind==3)then
       let eI:Int→Int:=fun v12=>
        v12
       let bK:Int→Int:=fun v12=>
        bif(!(decide (v12≥0)))then
         eI (8:Int)
        else
         let cT:=decide ((List.length an.dj:Int)>0)
         let aI:ByteArray→Int:=fun dD=>
          let aI:Bool→Int:=fun dQ=>
           bif(cT&&(!dQ))then
            eI (16:Int)
           else
            bif(p8 x0 b8)then
             eI (16:Int)
            else
             eI (0:Int)
          bif cT then
           aI (hM an.dj dD)
          else
           aI false
         bif cT then
          aI (jf x0 b8.key.dev)
         else
          aI (⟨#[]⟩:ByteArray)
       let v12:Int:=(List.length x0.a8:Int)
       Sum.elim (fun r=>r) (fun _=>
        bK ((-1):Int))
       (bm (fun(i13:Nat) (_:Unit)=>
        show Step (Int) (Unit)from
        bif(((List.getD x0.a8 (Int.toNat (i13:Int)) (aw .bA)).id)==b8.key.dev)then
         .ret (bK (i13:Int))
        else
         .bh ()) 0 (Int.toNat v12) ():Int⊕(Unit))
      else
       bif(b8.kind==4)then
        jO (1:Int)
       else
        bif(b8.kind==5)then
         jO (2:Int)
        else
         let aI:Bool→Int:=fun dp=>
          bif dp then
           jO (3:Int)
          else
           jO (0:Int)
         let dp:=b8.kind==6
         bif dp then
          aI dp
         else
          aI (b8.kind==7)
   else
    bif(an.role==3)then
     bif !true then
      17
     else
      let jO:Int→Int:=fun v11=>
       bif(decide (2<v11))then
        16
       else
        0
      bif(b8.kind==2)then
       let eI:Int→Int:=fun v12=>
        v12
       let bK:Int→Int:=fun v12=>
        bif(!(decide (v12≥0)))then
         eI (8:Int)
        else
         let cT:=decide ((List.length an.dj:Int)>0)
         let aI:ByteArray→Int:=fun dD=>
          let aI:Bool→Int:=fun dQ=>
           bif(cT&&(!dQ))then
            eI (16:Int)
           else
            eI (0:Int)
          bif cT then
           aI (hM an.dj dD)
          else
           aI false
         bif cT then
          aI (jf x0 b8.key.dev)
         else
          aI (⟨#[]⟩:ByteArray)
       let v12:Int:=(List.length x0.a8:Int)
       Sum.elim (fun r=>r) (fun _=>
        bK ((-1):Int))
       (bm (fun(i13:Nat) (_:Unit)=>
        show Step (Int) (Unit)from
        bif(((List.getD x0.a8 (Int.toNat (i13:Int)) (aw .bA)).id)==b8.key.dev)then
         .ret (bK (i13:Int))
        else
         .bh ()) 0 (Int.toNat v12) ():Int⊕(Unit))
      else
       bif(b8.kind==3)then
        let eI:Int→Int:=fun bS=>
         bS
        let bK:Int→Int:=fun bS=>
         bif(!(decide (bS≥0)))then
          eI (8:Int)
         else
          let dD:=decide ((List.length an.dj:Int)>0)
          let aI:ByteArray→Int:=fun dQ=>
           let aI:Bool→Int:=fun cj=>
            bif(dD&&(!cj))then
             eI (16:Int)
            else
             eI (0:Int)
           bif dD then
            aI (hM an.dj dQ)
           else
            aI false
          bif dD then
           aI (jf x0 b8.key.dev)
          else
           aI (⟨#[]⟩:ByteArray)
        let bS:Int:=(List.length x0.a8:Int)
        Sum.elim (fun r=>r) (fun _=>
         bK ((-1):Int))
        (bm (fun(i14:Nat) (_:Unit)=>
         show Step (Int) (Unit)from
         bif(((List.getD x0.a8 (Int.toNat (i14:Int)) (aw .bA)).id)==b8.key.dev)then
          .ret (bK (i14:Int))
         else
          .bh ()) 0 (Int.toNat bS) ():Int⊕(Unit))
       else
        bif(b8.kind==4)then
         jO (1:Int)
        else
         bif(b8.kind==5)then
          jO (2:Int)
         else
          let aI:Bool→Int:=fun cU=>
           bif cU then
            jO (3:Int)
           else
            jO (0:Int)
          let cU:=b8.kind==6
          bif cU then
           aI cU
          else
           aI (b8.kind==7)
    else
     bif !true then
      17
     else
      let jO:Int→Int:=fun v11=>
       bif(decide (3<v11))then
        16
       else
        0
      bif(b8.kind==2)then
       let eI:Int→Int:=fun v12=>
        v12
       let bK:Int→Int:=fun v12=>
        bif(!(decide (v12≥0)))then
         eI (8:Int)
        else
         let cT:=decide ((List.length an.dj:Int)>0)
         let aI:ByteArray→Int:=fun dD=>
          let aI:Bool→Int:=fun dQ=>
           bif(cT&&(!dQ))then
            eI (16:Int)
           else
            eI (0:Int)
          bif cT then
           aI (hM an.dj dD)
          else
           aI false
         bif cT then
          aI (jf x0 b8.key.dev)
         else
          aI (⟨#[]⟩:ByteArray)
       let v12:Int:=(List.length x0.a8:Int)
       Sum.elim (fun r=>r) (fun _=>
        bK ((-1):Int))
       (bm (fun(i13:Nat) (_:Unit)=>
        show Step (Int) (Unit)from
        bif(((List.getD x0.a8 (Int.toNat (i13:Int)) (aw .bA)).id)==b8.key.dev)then
         .ret (bK (i13:Int))
        else
         .bh ()) 0 (Int.toNat v12) ():Int⊕(Unit))
      else
       bif(b8.kind==3)then
        let eI:Int→Int:=fun bS=>
         bS
        let bK:Int→Int:=fun bS=>
         bif(!(decide (bS≥0)))then
          eI (8:Int)
         else
          let dD:=decide ((List.length an.dj:Int)>0)
          let aI:ByteArray→Int:=fun dQ=>
           let aI:Bool→Int:=fun cj=>
            bif(dD&&(!cj))then
             eI (16:Int)
            else
             eI (0:Int)
           bif dD then
            aI (hM an.dj dQ)
           else
            aI false
          bif dD then
           aI (jf x0 b8.key.dev)
          else
           aI (⟨#[]⟩:ByteArray)
        let bS:Int:=(List.length x0.a8:Int)
        Sum.elim (fun r=>r) (fun _=>
         bK ((-1):Int))
        (bm (fun(i14:Nat) (_:Unit)=>
         show Step (Int) (Unit)from
         bif(((List.getD x0.a8 (Int.toNat (i14:Int)) (aw .bA)).id)==b8.key.dev)then
          .ret (bK (i14:Int))
         else
          .bh ()) 0 (Int.toNat bS) ():Int⊕(Unit))
       else
        bif(b8.kind==4)then
         jO (1:Int)
        else
         bif(b8.kind==5)then
          jO (2:Int)
         else
          let aI:Bool→Int:=fun cU=>
           bif cU then
            jO (3:Int)
           else
            jO (0:Int)
          let cU:=b8.kind==6
          bif cU then
           aI cU
          else
           aI (b8.kind==7)
def Dr(x0:Home)(an:br)(bJ:Int)(b8:bQ):Prop:=
 (((decide (b8.kind<1))||(decide (b8.kind>7)))=false→(
  ((an.role==1)=true→(
   let bx:=decide (bJ≥0)
   let eI:Bool→Prop:=fun v9=>
    ((!(bx&&v9))=false→(
     let aI:Bool→Prop:=fun v12=>
      (v12=true→(
       let bK:Int→Prop:=fun dp=>
        ((!(decide (dp≥0)))=false→(
         let dQ:=decide ((List.length an.dj:Int)>0)
         let aI:ByteArray→Prop:=fun cj=>
          let aI:Bool→Prop:=fun v20=>
           ((dQ&&(!v20))=false→(
            wS x0 b8))
          (dQ=true→(
           aI (hM an.dj cj)))∧(dQ=false→(
           aI false))
         (dQ=true→(
          (rf x0 b8.key.dev)∧
          aI (jf x0 b8.key.dev)))∧(dQ=false→(
          aI (⟨#[]⟩:ByteArray)))))
       let dp:Int:=(List.length x0.a8:Int)
       let a1:Unit→Prop:=fun _=>
        bK ((-1):Int)
       ∃bp:Nat→(Unit)→Prop,bp 0 ()∧(∀(i15:Nat) (d0:Unit),i15<Int.toNat dp→bp i15 d0→(
        ((((List.getD x0.a8 (Int.toNat (i15:Int)) (aw .bA)).id)==b8.key.dev)=true→(
         bK (i15:Int)))∧((((List.getD x0.a8 (Int.toNat (i15:Int)) (aw .bA)).id)==b8.key.dev)=false→(
         bp (i15+1) ()))))∧∀bD,bp (Int.toNat dp) bD→a1 bD))
     let v12:=b8.kind==2
     (v12=true→(
      aI v12))∧(v12=false→(
      aI (b8.kind==3)))))
   (bx=true→(
    let bK:Bool→Prop:=fun v9=>
     eI v9
    let v9:Int:=bn .rem .i64 bJ (10080:Int)
    let aI:Int→Prop:=fun v10=>
     let v12:Int:=(List.length an.gA:Int)
     let eT:Unit→Prop:=fun _=>
      bK false
     ∃dK:Nat→(Unit)→Prop,dK 0 ()∧(∀(i13:Nat) (d1:Unit),i13<Int.toNat v12→dK i13 d1→(
      let cU:df:=List.getD an.gA (Int.toNat (i13:Int)) (aw .df)
      ((((uE cU)&&(decide (cU.from_≤v10)))&&(decide (v10<cU.oX)))=true→(
       bK true))∧((((uE cU)&&(decide (cU.from_≤v10)))&&(decide (v10<cU.oX)))=false→(
       dK (i13+1) ()))))∧∀aM,dK (Int.toNat v12) aM→eT aM
    ((decide (v9<0))=true→(
     aI (IntKind.wrap .i64 (v9+(10080:Int)))))∧((decide (v9<0))=false→(
     aI v9))))∧(bx=false→(
    eI false))))∧((an.role==1)=false→(
   ((an.role==2)=true→(
    ((!true)=false→(
     ((b8.kind==2)=true→(
      let bK:Int→Prop:=fun v11=>
       ((!(decide (v11≥0)))=false→(
        let cU:=decide ((List.length an.dj:Int)>0)
        let aI:ByteArray→Prop:=fun cT=>
         let aI:Bool→Prop:=fun dD=>
          ((cU&&(!dD))=false→(
           wS x0 b8))
         (cU=true→(
          aI (hM an.dj cT)))∧(cU=false→(
          aI false))
        (cU=true→(
         (rf x0 b8.key.dev)∧
         aI (jf x0 b8.key.dev)))∧(cU=false→(
         aI (⟨#[]⟩:ByteArray)))))
      let v11:Int:=(List.length x0.a8:Int)
      let gM:Unit→Prop:=fun _=>
       bK ((-1):Int)
      ∃kH:Nat→(Unit)→Prop,kH 0 ()∧(∀(i12:Nat) (d2:Unit),i12<Int.toNat v11→kH i12 d2→(
       ((((List.getD x0.a8 (Int.toNat (i12:Int)) (aw .bA)).id)==b8.key.dev)=true→(
        bK (i12:Int)))∧((((List.getD x0.a8 (Int.toNat (i12:Int)) (aw .bA)).id)==b8.key.dev)=false→(
        kH (i12+1) ()))))∧∀dg,kH (Int.toNat v11) dg→gM dg))∧((b8.kind==2)=false→(
      ((b8.kind==3)=true→(
       let bK:Int→Prop:=fun v12=>
        ((!(decide (v12≥0)))=false→(
         let cT:=decide ((List.length an.dj:Int)>0)
         let aI:ByteArray→Prop:=fun dD=>
          let aI:Bool→Prop:=fun dQ=>
           ((cT&&(!dQ))=false→(
            wS x0 b8))
          (cT=true→(
           aI (hM an.dj dD)))∧(cT=false→(
           aI false))
         (cT=true→(
          (rf x0 b8.key.dev)∧
          aI (jf x0 b8.key.dev)))∧(cT=false→(
          aI (⟨#[]⟩:ByteArray)))))
       let v12:Int:=(List.length x0.a8:Int)
       let k6:Unit→Prop:=fun _=>
        bK ((-1):Int)
       ∃mm:Nat→(Unit)→Prop,mm 0 ()∧(∀(i13:Nat) (d3:Unit),i13<Int.toNat v12→mm i13 d3→(
        ((((List.getD x0.a8 (Int.toNat (i13:Int)) (aw .bA)).id)==b8.key.dev)=true→(
         bK (i13:Int)))∧((((List.getD x0.a8 (Int.toNat (i13:Int)) (aw .bA)).id)==b8.key.dev)=false→(
         mm (i13+1) ()))))∧∀cn,mm (Int.toNat v12) cn→k6 cn))))))))∧((an.role==2)=false→(
    ((an.role==3)=true→(
     ((!true)=false→(
      ((b8.kind==2)=true→(
       let bK:Int→Prop:=fun v12=>
        ((!(decide (v12≥0)))=false→(
         let cT:=decide ((List.length an.dj:Int)>0)
         (cT=true→(
          rf x0 b8.key.dev))))
       let v12:Int:=(List.length x0.a8:Int)
       let sR:Unit→Prop:=fun _=>
        bK ((-1):Int)
       ∃D3:Nat→(Unit)→Prop,D3 0 ()∧(∀(i13:Nat) (d4:Unit),i13<Int.toNat v12→D3 i13 d4→(
        ((((List.getD x0.a8 (Int.toNat (i13:Int)) (aw .bA)).id)==b8.key.dev)=true→(
         bK (i13:Int)))∧((((List.getD x0.a8 (Int.toNat (i13:Int)) (aw .bA)).id)==b8.key.dev)=false→(
         D3 (i13+1) ()))))∧∀gr,D3 (Int.toNat v12) gr→sR gr))∧((b8.kind==2)=false→(
       ((b8.kind==3)=true→(
        let bK:Int→Prop:=fun bS=>
         ((!(decide (bS≥0)))=false→(
          let dD:=decide ((List.length an.dj:Int)>0)
          (dD=true→(
           rf x0 b8.key.dev))))
        let bS:Int:=(List.length x0.a8:Int)
        let As:Unit→Prop:=fun _=>
         bK ((-1):Int)
        ∃D4:Nat→(Unit)→Prop,D4 0 ()∧(∀(i14:Nat) (d5:Unit),i14<Int.toNat bS→D4 i14 d5→(
         ((((List.getD x0.a8 (Int.toNat (i14:Int)) (aw .bA)).id)==b8.key.dev)=true→(
          bK (i14:Int)))∧((((List.getD x0.a8 (Int.toNat (i14:Int)) (aw .bA)).id)==b8.key.dev)=false→(
          D4 (i14+1) ()))))∧∀iQ,D4 (Int.toNat bS) iQ→As iQ))))))))∧((an.role==3)=false→(
     ((!true)=false→(
      ((b8.kind==2)=true→(
       let bK:Int→Prop:=fun v12=>
        ((!(decide (v12≥0)))=false→(
         let cT:=decide ((List.length an.dj:Int)>0)
         (cT=true→(
          rf x0 b8.key.dev))))
       let v12:Int:=(List.length x0.a8:Int)
       let uV:Unit→Prop:=fun _=>
        bK ((-1):Int)
       ∃D5:Nat→(Unit)→Prop,D5 0 ()∧(∀(i13:Nat) (d6:Unit),i13<Int.toNat v12→D5 i13 d6→(
        ((((List.getD x0.a8 (Int.toNat (i13:Int)) (aw .bA)).id)==b8.key.dev)=true→(
         bK (i13:Int)))∧((((List.getD x0.a8 (Int.toNat (i13:Int)) (aw .bA)).id)==b8.key.dev)=false→(
         D5 (i13+1) ()))))∧∀kG,D5 (Int.toNat v12) kG→uV kG))∧((b8.kind==2)=false→(
       ((b8.kind==3)=true→(
        let bK:Int→Prop:=fun bS=>
         ((!(decide (bS≥0)))=false→(
          let dD:=decide ((List.length an.dj:Int)>0)
          (dD=true→(
           rf x0 b8.key.dev))))
        let bS:Int:=(List.length x0.a8:Int)
        let xb:Unit→Prop:=fun _=>
         bK ((-1):Int)
        ∃D6:Nat→(Unit)→Prop,D6 0 ()∧(∀(i14:Nat) (d7:Unit),i14<Int.toNat bS→D6 i14 d7→(
         ((((List.getD x0.a8 (Int.toNat (i14:Int)) (aw .bA)).id)==b8.key.dev)=true→(
          bK (i14:Int)))∧((((List.getD x0.a8 (Int.toNat (i14:Int)) (aw .bA)).id)==b8.key.dev)=false→(
          D6 (i14+1) ()))))∧∀jN,D6 (Int.toNat bS) jN→xb jN))))))))))))))
noncomputable def oV(x0:Home)(an:List br)(bJ:ByteArray)(b8:Int)(bC:bQ):Int:=
 let v5:=sN x0 an
 bif(v5 != 0)then
  v5
 else
  let bw:=Ae an bJ
  bif !bw.2 then
   8
  else
   (DG x0 bw.1 b8 bC)
def H9(x0:Home)(an:List br)(bJ:ByteArray)(b8:Int)(bC:bQ):Prop:=
 let v5:=sN x0 an
 (H5 x0 an)∧
 ((v5 != 0)=false→(
  let bw:=Ae an bJ
  (H6 an bJ)∧
  ((!bw.2)=false→(
   Dr x0 bw.1 b8 bC))))
noncomputable def hL(x0:List aX)(an:ByteArray):Int × Bool:=
 let bK:Int→Int × Bool:=fun v2=>
  bif(decide (v2≥0))then
   (v2,true)
  else
   let bK:Int→Int × Bool:=fun v4=>
    let aI:Int→Int × Bool:=fun v5=>
     (v5,false)
    bif(decide (v4<0))then
     aI (List.length x0:Int)
    else
     aI v4
   let v4:Int:=(List.length x0:Int)
   Sum.elim (fun r=>r) (fun _=>
    bK ((-1):Int))
   (bm (fun(i5:Nat) (_:Unit)=>
    show Step (Int × Bool) (Unit)from
    bif(cf .gtr ((List.getD x0 (Int.toNat (i5:Int)) (aw .aX)).cq) an)then
     .ret (bK (i5:Int))
    else
     .bh ()) 0 (Int.toNat v4) ():(Int × Bool)⊕(Unit))
 let v2:Int:=(List.length x0:Int)
 Sum.elim (fun r=>r) (fun _=>
  bK ((-1):Int))
 (bm (fun(i3:Nat) (_:Unit)=>
  show Step (Int × Bool) (Unit)from
  bif(cf .eql ((List.getD x0 (Int.toNat (i3:Int)) (aw .aX)).cq) an)then
   .ret (bK (i3:Int))
  else
   .bh ()) 0 (Int.toNat v2) ():(Int × Bool)⊕(Unit))
noncomputable def IP:cv:=
 ⟨(-1),0⟩
noncomputable def oU(x0:cv):Int:=
 bif((x0.top==(-1))&&(x0.bits==0))then
  0
 else
  bif(((decide (x0.top<0))||(decide (x0.top>1099511627776)))||((bn .and .u64 x0.bits (1:Int))==0))then
   2
  else
   bif((decide (x0.top<63))&&((bn .shr .u64 x0.bits (IntKind.wrap .i64 (x0.top+(1:Int)))) != 0))then
    2
   else
    0
def Ib(x0:cv):Prop:=
 (((x0.top==(-1))&&(x0.bits==0))=false→(
  ((((decide (x0.top<0))||(decide (x0.top>1099511627776)))||((bn .and .u64 x0.bits (1:Int))==0))=false→(
   let v10:=decide (x0.top<63)
   let v11:Int:=IntKind.wrap .i64 (x0.top+(1:Int))
   v10=true→0≤v11))))
noncomputable def rh(x0:cv)(an:Int):cv × Bool:=
 bif(((((oU x0) != 0)||(decide (an<0)))||(decide (an>1099511627776)))||(decide (an≤(IntKind.wrap .i64 (x0.top-(64:Int))))))then
  (x0,false)
 else
  bif(decide (an>x0.top))then
   let aI:Int→cv × Bool:=fun v12=>
    (⟨an,(bn .or .u64 v12 (1:Int))⟩,true)
   bif(decide ((IntKind.wrap .i64 (an-x0.top))<64))then
    aI (bn .shl .u64 x0.bits (IntKind.wrap .i64 (an-x0.top)))
   else
    aI (0:Int)
  else
   let bS:Int:=bn .shl .u64 (1:Int) (IntKind.wrap .i64 (x0.top-an))
   bif((bn .and .u64 x0.bits bS) != 0)then
    (x0,false)
   else
    (⟨x0.top,(bn .or .u64 x0.bits bS)⟩,true)
def Ic(x0:cv)(an:Int):Prop:=
 (Ib x0)∧
 ((((((oU x0) != 0)||(decide (an<0)))||(decide (an>1099511627776)))||(decide (an≤(IntKind.wrap .i64 (x0.top-(64:Int))))))=false→(
  ((decide (an>x0.top))=true→(
   ((decide ((IntKind.wrap .i64 (an-x0.top))<64))=true→(
    let dp:Int:=IntKind.wrap .i64 (an-x0.top)
    0≤dp))))∧((decide (an>x0.top))=false→(
   let v12:Int:=IntKind.wrap .i64 (x0.top-an)
   let _:Int:=bn .shl .u64 (1:Int) v12
   0≤v12))))
noncomputable def l8(x0:Config)(an:List br)(bJ:List aX)(b8:List Int)(bC:gl)(rm:Int)(rn:Int):ByteArray × (List aX) × Int:=
 let bw:=iN x0.key bC.token rm b8
 let bK:Int→ByteArray × (List aX) × Int:=fun v10=>
  bif(v10 != 0)then
   (⟨#[]⟩,bJ,v10)
  else
   let bS:=hL bJ bw.1.cq
   let cT:=IP
   let aI:Int→Int→ByteArray × (List aX) × Int:=fun dD dQ=>
    let cj:=rh ⟨dD,dQ⟩ bC.request.dO
    let aI:(List aX)→ByteArray × (List aX) × Int:=fun v24=>
     (bw.1.cq,v24,0)
    bif !cj.2 then
     (⟨#[]⟩,bJ,18)
    else
     bif bS.2 then
      aI (List.set bJ (Int.toNat bS.1) ⟨(List.getD bJ (Int.toNat bS.1) (aw .aX)).cq,⟨cj.1.top,cj.1.bits⟩⟩)
     else
      aI (List.append (List.append (ih bJ none (some bS.1)) ([⟨bw.1.cq,⟨cj.1.top,cj.1.bits⟩⟩]:List aX)) (ih bJ (some bS.1) none))
   bif bS.2 then
    let dD:aX:=List.getD bJ (Int.toNat bS.1) (aw .aX)
    aI dD.gT.top dD.gT.bits
   else
    aI cT.top cT.bits
 bif(bw.2==0)then
  let aI:Int→ByteArray × (List aX) × Int:=fun v11=>
   bK v11
  let v11:=oT ⟨x0.home.bq,x0.home.a8⟩ ⟨bC.request.kind,bC.request.dO,⟨bC.request.key.dev,bC.request.key.cK,bC.request.key.attr⟩,bC.request.name,⟨bC.request.value.kind,bC.request.value.n,bC.request.value.s⟩,bC.request.text⟩
  bif(v11 != 0)then
   aI v11
  else
   let bS:=oV ⟨x0.home.bq,x0.home.a8⟩ an bw.1.cq rn ⟨bC.request.kind,bC.request.dO,⟨bC.request.key.dev,bC.request.key.cK,bC.request.key.attr⟩,bC.request.name,⟨bC.request.value.kind,bC.request.value.n,bC.request.value.s⟩,bC.request.text⟩
   bif(bS != 0)then
    aI bS
   else
    aI (0:Int)
 else
  bK bw.2
def uz(x0:Config)(an:List br)(bJ:List aX)(b8:List Int)(bC:gl)(rm:Int)(rn:Int):Prop:=
 (List.length ([]:List aX)+List.length bJ≤maxLen∧(List.length ([]:List aX)+List.length bJ)*32≤140737488355328)∧
 let bw:=iN x0.key bC.token rm b8
 (H3 x0.key bC.token rm b8)∧
 let bK:Int→Prop:=fun v10=>
  ((v10 != 0)=false→(
   let bS:=hL bJ bw.1.cq
   let cT:=IP
   let aI:Int→Int→Prop:=fun dD dQ=>
    let cj:=rh ⟨dD,dQ⟩ bC.request.dO
    (Ic ⟨dD,dQ⟩ bC.request.dO)∧
    ((!cj.2)=false→(
     (bS.2=true→(
      (0≤bS.1∧bS.1<(List.length bJ:Int))∧
      0≤bS.1∧bS.1<(List.length bJ:Int)))∧(bS.2=false→(
      let v23:List aX:=([⟨bw.1.cq,⟨cj.1.top,cj.1.bits⟩⟩]:List aX)
      (iC (List.length bJ) none (some bS.1))∧
      (0≤(0:Int)∧(0:Int)<(List.length v23:Int))∧
      List.length bJ+List.length v23≤maxLen∧(List.length bJ+List.length v23)*32≤140737488355328))))
   (bS.2=true→(
    (0≤bS.1∧bS.1<(List.length bJ:Int))∧
    let dD:aX:=List.getD bJ (Int.toNat bS.1) (aw .aX)
    (0≤bS.1∧bS.1<(List.length bJ:Int))∧
    aI dD.gT.top dD.gT.bits))∧(bS.2=false→(
    aI cT.top cT.bits))))
 ((bw.2==0)=true→(
  let aI:Int→Prop:=fun v11=>
   bK v11
  let v11:=oT ⟨x0.home.bq,x0.home.a8⟩ ⟨bC.request.kind,bC.request.dO,⟨bC.request.key.dev,bC.request.key.cK,bC.request.key.attr⟩,bC.request.name,⟨bC.request.value.kind,bC.request.value.n,bC.request.value.s⟩,bC.request.text⟩
  (HH ⟨x0.home.bq,x0.home.a8⟩ ⟨bC.request.kind,bC.request.dO,⟨bC.request.key.dev,bC.request.key.cK,bC.request.key.attr⟩,bC.request.name,⟨bC.request.value.kind,bC.request.value.n,bC.request.value.s⟩,bC.request.text⟩)∧
  ((v11 != 0)=true→(
   aI v11))∧((v11 != 0)=false→(
   let bS:=oV ⟨x0.home.bq,x0.home.a8⟩ an bw.1.cq rn ⟨bC.request.kind,bC.request.dO,⟨bC.request.key.dev,bC.request.key.cK,bC.request.key.attr⟩,bC.request.name,⟨bC.request.value.kind,bC.request.value.n,bC.request.value.s⟩,bC.request.text⟩
   (H9 ⟨x0.home.bq,x0.home.a8⟩ an bw.1.cq rn ⟨bC.request.kind,bC.request.dO,⟨bC.request.key.dev,bC.request.key.cK,bC.request.key.attr⟩,bC.request.name,⟨bC.request.value.kind,bC.request.value.n,bC.request.value.s⟩,bC.request.text⟩)∧
   ((bS != 0)=true→(
    aI bS))∧((bS != 0)=false→(
    aI (0:Int)))))))∧((bw.2==0)=false→(
  bK bw.2))
def R9:List aO:=[⟨⟨#[111,110,111,102,102]⟩,[⟨⟨#[111,110]⟩,1,0,0,[],true,false⟩],[⟨⟨#[111,110]⟩,⟨⟨#[]⟩,0,0,0,[],false,false⟩,[⟨1,⟨#[111,110]⟩,1⟩]⟩,⟨⟨#[111,102,102]⟩,⟨⟨#[]⟩,0,0,0,[],false,false⟩,[⟨1,⟨#[111,110]⟩,0⟩]⟩,⟨⟨#[116,111,103,103,108,101]⟩,⟨⟨#[]⟩,0,0,0,[],false,false⟩,[⟨4,⟨#[111,110]⟩,0⟩]⟩],[]⟩,
 ⟨⟨#[108,101,118,101,108]⟩,[⟨⟨#[108,101,118,101,108]⟩,2,0,100,[],true,false⟩],[⟨⟨#[109,111,118,101]⟩,⟨⟨#[116,111]⟩,2,0,100,[],false,false⟩,[⟨2,⟨#[108,101,118,101,108]⟩,0⟩]⟩,⟨⟨#[115,116,101,112]⟩,⟨⟨#[]⟩,0,0,0,[],false,false⟩,[⟨3,⟨#[108,101,118,101,108]⟩,10⟩]⟩],[]⟩,
 ⟨⟨#[108,111,99,107]⟩,[⟨⟨#[108,111,99,107,101,100]⟩,1,0,0,[],true,true⟩],[⟨⟨#[108,111,99,107]⟩,⟨⟨#[]⟩,0,0,0,[],false,false⟩,[⟨1,⟨#[108,111,99,107,101,100]⟩,1⟩]⟩,⟨⟨#[117,110,108,111,99,107]⟩,⟨⟨#[]⟩,0,0,0,[],false,false⟩,[⟨1,⟨#[108,111,99,107,101,100]⟩,0⟩]⟩],[⟨#[106,97,109]⟩]⟩,
 ⟨⟨#[116,104,101,114,109,111,115,116,97,116]⟩,[⟨⟨#[116,97,114,103,101,116]⟩,2,50,300,[],true,false⟩,⟨⟨#[116,101,109,112]⟩,2,(-500),1000,[],false,false⟩],[],[]⟩,
 ⟨⟨#[115,109,111,107,101]⟩,[⟨⟨#[97,108,97,114,109]⟩,1,0,0,[],false,true⟩],[],[⟨#[116,101,115,116]⟩]⟩,
 ⟨⟨#[108,101,97,107]⟩,[⟨⟨#[119,101,116]⟩,1,0,0,[],false,true⟩],[],[]⟩,
 ⟨⟨#[118,97,108,118,101]⟩,[⟨⟨#[111,112,101,110]⟩,1,0,0,[],true,true⟩],[⟨⟨#[111,112,101,110]⟩,⟨⟨#[]⟩,0,0,0,[],false,false⟩,[⟨1,⟨#[111,112,101,110]⟩,1⟩]⟩,⟨⟨#[99,108,111,115,101]⟩,⟨⟨#[]⟩,0,0,0,[],false,false⟩,[⟨1,⟨#[111,112,101,110]⟩,0⟩]⟩],[]⟩,
 ⟨⟨#[109,101,116,101,114]⟩,[⟨⟨#[112,111,119,101,114]⟩,2,0,100000,[],false,false⟩],[],[]⟩]
def Sa:Prop:=True
noncomputable def Du:Config × (List br):=
 (⟨⟨(R9),([⟨1,0,0,false,0,⟨#[104,97,108,108]⟩,([⟨#[111,110,111,102,102]⟩]:List ByteArray)⟩]:List bA)⟩,[],[],⟨0,[]⟩,7⟩,([⟨⟨#[97,110,110]⟩,4,[],[],false⟩]:List br))
def Sb:Prop:=
 Sa
noncomputable def wW(x0:dS):Int:=
 bif(!(iB x0.cq))then
  10
 else
  bif(((((decide (x0.id<1))||(decide (x0.id>1099511627776)))||(decide (x0.mZ<0)))||(decide (x0.mZ>x0.m0)))||(decide (x0.m0>1099511627776)))then
   2
  else
   bif(decide ((IntKind.wrap .i64 (x0.m0-x0.mZ))>43200))then
    3
   else
    0
def IQ(x0:dS):Prop:=
 nP x0.cq
noncomputable def ux(x0:Int):ByteArray:=
 (bytesOf ([(IntKind.wrap .u8 (bn .shr .i64 x0 (24:Int))),(IntKind.wrap .u8 (bn .shr .i64 x0 (16:Int))),(IntKind.wrap .u8 (bn .shr .i64 x0 (8:Int))),(IntKind.wrap .u8 x0)]:List Int))
noncomputable def Sc(x0:ByteArray):Int:=
 let v1:Int:=(ByteArray.size x0:Int)
 Sum.elim (fun r=>r) (fun bD=>
  bD)
 (bm (fun(i3:Nat) (aM:Int)=>
  show Step (Int) (Int)from
  .bh (IntKind.wrap .u64 ((bn .xor .u64 aM (IntKind.wrap .u64 (dP x0 (i3:Int))))*(1099511628211:Int)))) 0 (Int.toNat v1) 14695981039346656037:Int⊕(Int))
def Sd(x0:ByteArray):Prop:=
 let v1:Int:=(ByteArray.size x0:Int)
 0≤v1∧v1<(9223372036854775808:Int)
noncomputable def wQ(x0:Int):ByteArray:=
 Sum.elim (fun r=>r) (fun bD=>
  bD.1)
 (cJ (fun(aM:ByteArray × Int)=>
  show Step (ByteArray) (ByteArray × Int)from
  bif(decide (aM.2≥0))then
   .bh ((ByteArray.append aM.1 (bytesOf ([(IntKind.wrap .u8 (bn .shr .u64 x0 (IntKind.wrap .u64 ((8:Int)*(IntKind.wrap .u64 aM.2)))))]:List Int))),(IntKind.wrap .i64 (aM.2-(1:Int))))
  else
   .cz (aM.1,aM.2)) dk (⟨#[]⟩,7):ByteArray⊕(ByteArray × Int))
def Dl(x0:Int):Prop:=
 ∃(bp:(ByteArray × Int)→Prop) (eS:(ByteArray × Int)→Nat),bp (⟨#[]⟩,7)∧eS (⟨#[]⟩,7)<dk∧∀(d0:ByteArray × Int),bp d0→(
  ((decide (d0.2≥0))=true→(
   let v5:Int:=IntKind.wrap .u64 ((8:Int)*(IntKind.wrap .u64 d0.2))
   (0≤v5)∧
   let v9:=bytesOf ([(IntKind.wrap .u8 (bn .shr .u64 x0 v5))]:List Int)
   (ByteArray.size d0.1+ByteArray.size v9≤9223372036854775807)∧
   bp ((ByteArray.append d0.1 v9),(IntKind.wrap .i64 (d0.2-(1:Int))))∧eS ((ByteArray.append d0.1 v9),(IntKind.wrap .i64 (d0.2-(1:Int))))<eS d0)))
noncomputable def wR(x0:Int)(an:ByteArray):Int:=
 (IntKind.wrap .i64 (bn .shr .u64 (Sc (ByteArray.append (ByteArray.append (wQ x0) an) (wQ x0))) (32:Int)))
def Dm(x0:Int)(an:ByteArray):Prop:=
 let v2:=wQ x0
 (Dl x0)∧
 let v3:=ByteArray.append v2 an
 (ByteArray.size v2+ByteArray.size an≤9223372036854775807)∧
 let v4:=wQ x0
 (Dl x0)∧
 let v5:=ByteArray.append v3 v4
 (ByteArray.size v3+ByteArray.size v4≤9223372036854775807)∧
 Sd v5
noncomputable def wV(x0:Int)(an:ByteArray):ByteArray:=
 (ByteArray.append an (ux (wR x0 an)))
def Dn(x0:Int)(an:ByteArray):Prop:=
 (Dm x0 an)∧
 let v3:=ux (wR x0 an)
 ByteArray.size an+ByteArray.size v3≤9223372036854775807
noncomputable def zU(x0:dS):ByteArray:=
 (ByteArray.append (ByteArray.append (ByteArray.append (q1 x0.cq) (j2 x0.id)) (j2 x0.mZ)) (j2 x0.m0))
def Ds(x0:dS):Prop:=
 let v1:=q1 x0.cq
 (CG x0.cq)∧
 let v2:=j2 x0.id
 (pV x0.id)∧
 let v3:=ByteArray.append v1 v2
 (ByteArray.size v1+ByteArray.size v2≤9223372036854775807)∧
 let v4:=j2 x0.mZ
 (pV x0.mZ)∧
 let v5:=ByteArray.append v3 v4
 (ByteArray.size v3+ByteArray.size v4≤9223372036854775807)∧
 let v6:=j2 x0.m0
 (pV x0.m0)∧
 ByteArray.size v5+ByteArray.size v6≤9223372036854775807
noncomputable def zT(x0:Int)(an:dS):ByteArray × Int:=
 let v2:=wW an
 bif(v2 != 0)then
  (⟨#[]⟩,v2)
 else
  ((R3 (wV x0 (zU an))),0)
def Ie(x0:Int)(an:dS):Prop:=
 let v2:=wW an
 (IQ an)∧
 ((v2 != 0)=false→(
  let v4:=zU an
  (Ds an)∧
  let v5:=wV x0 v4
  (Dn x0 v4)∧
  HX v5))
noncomputable def Dt:Bool:=
 let v0:=Du
 let v3:=zT (7:Int) ⟨⟨#[97,110,110]⟩,1,0,100⟩
 let v6:=l8 v0.1 v0.2 ([]:List aX) ([]:List Int) ⟨v3.1,⟨1,5,⟨1,⟨#[111,110,111,102,102]⟩,⟨#[111,110]⟩⟩,⟨#[]⟩,⟨0,0,⟨#[]⟩⟩,⟨#[]⟩⟩⟩ (5:Int) (5:Int)
 let v10:=l8 v0.1 v0.2 v6.2.1 ([]:List Int) ⟨v3.1,⟨1,5,⟨1,⟨#[111,110,111,102,102]⟩,⟨#[111,110]⟩⟩,⟨#[]⟩,⟨0,0,⟨#[]⟩⟩,⟨#[]⟩⟩⟩ (5:Int) (5:Int)
 let dp:=l8 v0.1 v0.2 v6.2.1 ([]:List Int) ⟨v3.1,⟨1,4,⟨1,⟨#[111,110,111,102,102]⟩,⟨#[111,110]⟩⟩,⟨#[]⟩,⟨0,0,⟨#[]⟩⟩,⟨#[]⟩⟩⟩ (5:Int) (5:Int)
 let cj:=IM (zo ⟨1,4,⟨1,⟨#[111,110,111,102,102]⟩,⟨#[111,110]⟩⟩,⟨#[]⟩,⟨0,0,⟨#[]⟩⟩,⟨#[]⟩⟩)
 let Ap:Bool:=(((((v3.2==0)&&(cf .eql v6.1 (⟨#[97,110,110]⟩:ByteArray)))&&(v6.2.2==0))&&((List.length v6.2.1:Int)==1))&&(((List.getD v6.2.1 (Int.toNat (0:Int)) (aw .aX)).gT.top)==5))&&(v10.2.2==18)
 let v37:=bif cj.1.kind==1 then bif cj.1.dO==4 then bif cj.1.key.dev==1 then bif et cj.1.key.cK (⟨#[111,110,111,102,102]⟩:ByteArray)then bif et cj.1.key.attr (⟨#[111,110]⟩:ByteArray)then bif et cj.1.name (⟨#[]⟩:ByteArray)then bif cj.1.value.kind==0 then bif cj.1.value.n==0 then bif et cj.1.value.s (⟨#[]⟩:ByteArray)then et cj.1.text (⟨#[]⟩:ByteArray)else false else false else false else false else false else false else false else false else false
 (((Ap&&(dp.2.2==0))&&v37)&&(cj.2==0))
def zW:Prop:=
 let v0:=Du
 (Sb)∧
 let v3:=zT (7:Int) ⟨⟨#[97,110,110]⟩,1,0,100⟩
 (Ie (7:Int) ⟨⟨#[97,110,110]⟩,1,0,100⟩)∧
 let v6:=l8 v0.1 v0.2 ([]:List aX) ([]:List Int) ⟨v3.1,⟨1,5,⟨1,⟨#[111,110,111,102,102]⟩,⟨#[111,110]⟩⟩,⟨#[]⟩,⟨0,0,⟨#[]⟩⟩,⟨#[]⟩⟩⟩ (5:Int) (5:Int)
 (uz v0.1 v0.2 ([]:List aX) ([]:List Int) ⟨v3.1,⟨1,5,⟨1,⟨#[111,110,111,102,102]⟩,⟨#[111,110]⟩⟩,⟨#[]⟩,⟨0,0,⟨#[]⟩⟩,⟨#[]⟩⟩⟩ (5:Int) (5:Int))∧
 let _:=l8 v0.1 v0.2 v6.2.1 ([]:List Int) ⟨v3.1,⟨1,5,⟨1,⟨#[111,110,111,102,102]⟩,⟨#[111,110]⟩⟩,⟨#[]⟩,⟨0,0,⟨#[]⟩⟩,⟨#[]⟩⟩⟩ (5:Int) (5:Int)
 (uz v0.1 v0.2 v6.2.1 ([]:List Int) ⟨v3.1,⟨1,5,⟨1,⟨#[111,110,111,102,102]⟩,⟨#[111,110]⟩⟩,⟨#[]⟩,⟨0,0,⟨#[]⟩⟩,⟨#[]⟩⟩⟩ (5:Int) (5:Int))∧
 let _:=l8 v0.1 v0.2 v6.2.1 ([]:List Int) ⟨v3.1,⟨1,4,⟨1,⟨#[111,110,111,102,102]⟩,⟨#[111,110]⟩⟩,⟨#[]⟩,⟨0,0,⟨#[]⟩⟩,⟨#[]⟩⟩⟩ (5:Int) (5:Int)
 (uz v0.1 v0.2 v6.2.1 ([]:List Int) ⟨v3.1,⟨1,4,⟨1,⟨#[111,110,111,102,102]⟩,⟨#[111,110]⟩⟩,⟨#[]⟩,⟨0,0,⟨#[]⟩⟩,⟨#[]⟩⟩⟩ (5:Int) (5:Int))∧
 let dQ:=zo ⟨1,4,⟨1,⟨#[111,110,111,102,102]⟩,⟨#[111,110]⟩⟩,⟨#[]⟩,⟨0,0,⟨#[]⟩⟩,⟨#[]⟩⟩
 (Hl ⟨1,4,⟨1,⟨#[111,110,111,102,102]⟩,⟨#[111,110]⟩⟩,⟨#[]⟩,⟨0,0,⟨#[]⟩⟩,⟨#[]⟩⟩)∧
 let _:=IM dQ
 (CJ dQ)∧
 let h3:Bool:=(((v3.2==0)&&(cf .eql v6.1 (⟨#[97,110,110]⟩:ByteArray)))&&(v6.2.2==0))&&((List.length v6.2.1:Int)==1)
 h3=true→0≤(0:Int)∧(0:Int)<(List.length v6.2.1:Int)
noncomputable def tV(x0:Case):Bool:=
 let v6:Int:=(List.length x0.members:Int)
 let dp:Bool:=((((decide ((List.length x0.c.home.bq:Int)>100))||(decide ((List.length x0.c.home.a8:Int)>30)))||(decide (v6>30)))||(decide ((List.length x0.kS:Int)>60)))||(decide ((List.length x0.oF:Int)>100))
 bif((dp||(decide ((ByteArray.size x0.a.token:Int)>1000)))||(decide ((ByteArray.size x0.a.request.text:Int)>25000)))then
  true
 else
  Sum.elim (fun r=>r) (fun _=>
   false)
  (bm (fun(i21:Nat) (_:Unit)=>
   show Step (Bool) (Unit)from
   let h3:Bool:=(decide ((List.length ((List.getD x0.members (Int.toNat (i21:Int)) (aw .br)).gA):Int)>300))||(decide ((List.length ((List.getD x0.members (Int.toNat (i21:Int)) (aw .br)).dj):Int)>300))
   bif h3 then
    .ret true
   else
    .bh ()) 0 (Int.toNat v6) ():Bool⊕(Unit))
def Ii(x0:Case):Prop:=
 let v6:Int:=(List.length x0.members:Int)
 let dp:Bool:=((((decide ((List.length x0.c.home.bq:Int)>100))||(decide ((List.length x0.c.home.a8:Int)>30)))||(decide (v6>30)))||(decide ((List.length x0.kS:Int)>60)))||(decide ((List.length x0.oF:Int)>100))
 (((dp||(decide ((ByteArray.size x0.a.token:Int)>1000)))||(decide ((ByteArray.size x0.a.request.text:Int)>25000)))=false→(
  0≤v6∧v6<(9223372036854775808:Int)))
noncomputable def Se:cv:=
 ⟨(-1),0⟩
noncomputable def uA(x0:List aX)(an:ByteArray):cv:=
 let v2:Int:=(List.length x0:Int)
 Sum.elim (fun r=>r) (fun _=>
  let v3:=Se
  v3)
 (bm (fun(i3:Nat) (_:Unit)=>
  show Step (cv) (Unit)from
  bif(cf .eql ((List.getD x0 (Int.toNat (i3:Int)) (aw .aX)).cq) an)then
   let bw:aX:=List.getD x0 (Int.toNat (i3:Int)) (aw .aX)
   .ret ⟨bw.gT.top,bw.gT.bits⟩
  else
   .bh ()) 0 (Int.toNat v2) ():cv⊕(Unit))
noncomputable def zZ(x0:Int)(an:ByteArray):ByteArray × Int:=
 let v2:Int:=(ByteArray.size an:Int)
 bif(decide (v2<4))then
  (⟨#[]⟩,5)
 else
  let v5:=kF an none (some (IntKind.wrap .i64 (v2-(4:Int))))
  bif(cf .neq (wV x0 v5) an)then
   (⟨#[]⟩,6)
  else
   (v5,0)
def Ik(x0:Int)(an:ByteArray):Prop:=
 let v2:Int:=(ByteArray.size an:Int)
 ((decide (v2<4))=false→(
  let v4:Int:=IntKind.wrap .i64 (v2-(4:Int))
  let v5:=kF an none (some v4)
  (iC (ByteArray.size an) none (some v4))∧
  Dn x0 v5))
noncomputable def z7(x0:Int)(an:ByteArray):dS × Int:=
 let v2:=zX an
 bif(v2.2 != 0)then
  (⟨⟨#[]⟩,0,0,0⟩,v2.2)
 else
  let v6:=zZ x0 v2.1
  bif(v6.2 != 0)then
   (⟨⟨#[]⟩,0,0,0⟩,v6.2)
  else
   let v10:=uf ⟨v6.1,0,0,true⟩ (24:Int)
   let bS:=oK v10.1
   let cT:=oK bS.1
   let cj:=oK cT.1
   let v22:=zn cj.1
   let aI:Int→dS × Int:=fun v25=>
    bif(v25 != 0)then
     (⟨⟨#[]⟩,0,0,0⟩,v25)
    else
     (⟨v10.2,bS.2,cT.2,cj.2⟩,0)
   bif(v22.2==0)then
    aI (wW ⟨v10.2,bS.2,cT.2,cj.2⟩)
   else
    aI v22.2
def Dy(x0:Int)(an:ByteArray):Prop:=
 let v2:=zX an
 (Dv an)∧
 ((v2.2 != 0)=false→(
  let v6:=zZ x0 v2.1
  (Ik x0 v2.1)∧
  ((v6.2 != 0)=false→(
   let v10:=uf ⟨v6.1,0,0,true⟩ (24:Int)
   (Hi ⟨v6.1,0,0,true⟩ (24:Int))∧
   let bS:=oK v10.1
   (uh v10.1)∧
   let cT:=oK bS.1
   (uh bS.1)∧
   let cj:=oK cT.1
   (uh cT.1)∧
   let v22:=zn cj.1
   ((v22.2==0)=true→(
    IQ ⟨v10.2,bS.2,cT.2,cj.2⟩))))))
noncomputable def z1(x0:List Int)(an:Int):Bool:=
 let v2:Int:=(List.length x0:Int)
 Sum.elim (fun r=>r) (fun _=>
  false)
 (bm (fun(i3:Nat) (_:Unit)=>
  show Step (Bool) (Unit)from
  bif((List.getD x0 (Int.toNat (i3:Int)) (aw .i64))==an)then
   .ret true
  else
   .bh ()) 0 (Int.toNat v2) ():Bool⊕(Unit))
noncomputable def wY(x0:Int)(an:ByteArray)(bJ:Int)(b8:List Int):dS × Int:=
 let v4:=z7 x0 an
 bif(v4.2 != 0)then
  (⟨⟨#[]⟩,0,0,0⟩,v4.2)
 else
  bif((decide (bJ<v4.1.mZ))||(decide (bJ≥v4.1.m0)))then
   (⟨⟨#[]⟩,0,0,0⟩,17)
  else
   bif(z1 b8 v4.1.id)then
    (⟨⟨#[]⟩,0,0,0⟩,16)
   else
    (v4.1,0)
def DK(x0:Int)(an:ByteArray)(_:Int)(_:List Int):Prop:=
 let _:=z7 x0 an
 Dy x0 an
noncomputable def qa(x0:List br)(an:ByteArray):Int:=
 let v2:Int:=(List.length x0:Int)
 Sum.elim (fun r=>r) (fun _=>
  (-1))
 (bm (fun(i3:Nat) (_:Unit)=>
  show Step (Int) (Unit)from
  bif(cf .eql ((List.getD x0 (Int.toNat (i3:Int)) (aw .br)).name) an)then
   .ret (i3:Int)
  else
   .bh ()) 0 (Int.toNat v2) ():Int⊕(Unit))
noncomputable def IS(x0:df):Bool:=
 (((decide (0≤x0.from_))&&(decide (x0.from_<x0.oX)))&&(decide (x0.oX≤10080)))
noncomputable def uH(x0:List df):Int:=
 let v1:Int:=(List.length x0:Int)
 bif(decide (v1>256))then
  3
 else
  Sum.elim (fun r=>r) (fun _=>
   0)
  (bm (fun(i3:Nat) (_:Unit)=>
   show Step (Int) (Unit)from
   let v5:df:=List.getD x0 (Int.toNat (i3:Int)) (aw .df)
   bif(!(IS v5))then
    .ret 2
   else
    .bh ()) 0 (Int.toNat v1) ():Int⊕(Unit))
noncomputable def Ag(x0:Home)(an:ByteArray):Bool:=
 let v2:Int:=(List.length x0.a8:Int)
 Sum.elim (fun r=>r) (fun _=>
  false)
 (bm (fun(i3:Nat) (_:Unit)=>
  show Step (Bool) (Unit)from
  bif(cf .eql ((List.getD x0.a8 (Int.toNat (i3:Int)) (aw .bA)).room) an)then
   .ret true
  else
   .bh ()) 0 (Int.toNat v2) ():Bool⊕(Unit))
def Ix(x0:Home)(_:ByteArray):Prop:=
 let v2:Int:=(List.length x0.a8:Int)
 0≤v2∧v2<(9223372036854775808:Int)
noncomputable def m3(x0:Home)(an:br):Int:=
 bif((decide (an.role<1))||(decide (an.role>4)))then
  2
 else
  bif((uH an.gA) != 0)then
   (uH an.gA)
  else
   let v12:Int:=(List.length an.dj:Int)
   bif((cI.den (.mn true) (an.role==1) (decide ((List.length an.gA:Int)>0)))||((decide (an.role≥3))&&(decide (v12>0))))then
    4
   else
    bif(decide (v12>256))then
     3
    else
     Sum.elim (fun r=>r) (fun _=>
      0)
     (bm (fun(i17:Nat) (_:Unit)=>
      show Step (Int) (Unit)from
      bif(!(iB (List.getD an.dj (Int.toNat (i17:Int)) (aw .str))))then
       .ret 10
      else
       bif(!(Ag x0 (List.getD an.dj (Int.toNat (i17:Int)) (aw .str))))then
        .ret 8
       else
        .bh ()) 0 (Int.toNat v12) ():Int⊕(Unit))
def Ak(x0:Home)(an:br):Prop:=
 (((decide (an.role<1))||(decide (an.role>4)))=false→(
  (((uH an.gA) != 0)=false→(
   let v12:Int:=(List.length an.dj:Int)
   (((cI.den (.mn true) (an.role==1) (decide ((List.length an.gA:Int)>0)))||((decide (an.role≥3))&&(decide (v12>0))))=false→(
    ((decide (v12>256))=false→(
     ∃bp:Nat→(Unit)→Prop,bp 0 ()∧∀(i17:Nat) (d0:Unit),i17<Int.toNat v12→bp i17 d0→(
      let cj:ByteArray:=List.getD an.dj (Int.toNat (i17:Int)) (aw .str)
      (nP cj)∧
      ((!(iB cj))=false→(
       let v22:ByteArray:=List.getD an.dj (Int.toNat (i17:Int)) (aw .str)
       (Ix x0 v22)∧
       ((!(Ag x0 v22))=false→(
        bp (i17+1) ())))))))))))))
noncomputable def uI(x0:Home)(an:List br):Int:=
 bif((j4 x0) != 0)then
  (j4 x0)
 else
  let v6:Int:=(List.length an:Int)
  bif((decide ((List.length an:Int)<1))||(decide (v6>16)))then
   3
  else
   Sum.elim (fun r=>r) (fun bD=>
    bif !bD then
     8
    else
     0)
   (bm (fun(i10:Nat) (aM:Bool)=>
    show Step (Int) (Bool)from
    bif(!(iB ((List.getD an (Int.toNat (i10:Int)) (aw .br)).name)))then
     .ret 10
    else
     bif(decide ((qa (ih an none (some (i10:Int))) ((List.getD an (Int.toNat (i10:Int)) (aw .br)).name))≥0))then
      .ret 9
     else
      let cj:br:=List.getD an (Int.toNat (i10:Int)) (aw .br)
      bif((m3 x0 cj) != 0)then
       let v22:br:=List.getD an (Int.toNat (i10:Int)) (aw .br)
       .ret (m3 x0 v22)
      else
       .bh (aM||(((List.getD an (Int.toNat (i10:Int)) (aw .br)).role)==4))) 0 (Int.toNat v6) false:Int⊕(Bool))
def DJ(x0:Home)(an:List br):Prop:=
 (sI x0)∧
 (((j4 x0) != 0)=true→(
  sI x0))∧(((j4 x0) != 0)=false→(
  let v6:Int:=(List.length an:Int)
  (((decide ((List.length an:Int)<1))||(decide (v6>16)))=false→(
   ∃bp:Nat→(Bool)→Prop,bp 0 false∧∀(i10:Nat) (d0:Bool),i10<Int.toNat v6→bp i10 d0→(
    let v12:br:=List.getD an (Int.toNat (i10:Int)) (aw .br)
    (nP v12.name)∧
    ((!(iB v12.name))=false→(
     (iC (List.length an) none (some (i10:Int)))∧
     ((decide ((qa (ih an none (some (i10:Int))) ((List.getD an (Int.toNat (i10:Int)) (aw .br)).name))≥0))=false→(
      let cj:br:=List.getD an (Int.toNat (i10:Int)) (aw .br)
      (Ak x0 cj)∧
      (((m3 x0 cj) != 0)=true→(
       let v22:br:=List.getD an (Int.toNat (i10:Int)) (aw .br)
       Ak x0 v22))∧(((m3 x0 cj) != 0)=false→(
       bp (i10+1) (d0||(((List.getD an (Int.toNat (i10:Int)) (aw .br)).role)==4)))))))))))))
noncomputable def DF(x0:Int):Int:=
 let v1:Int:=bn .rem .i64 x0 (10080:Int)
 let aI:Int→Int:=fun v2=>
  v2
 bif(decide (v1<0))then
  aI (IntKind.wrap .i64 (v1+(10080:Int)))
 else
  aI v1
noncomputable def uF(x0:List df)(an:Int):Bool:=
 let v2:=DF an
 let v3:Int:=(List.length x0:Int)
 Sum.elim (fun r=>r) (fun _=>
  false)
 (bm (fun(i4:Nat) (_:Unit)=>
  show Step (Bool) (Unit)from
  let v6:df:=List.getD x0 (Int.toNat (i4:Int)) (aw .df)
  bif(((IS v6)&&(decide (((List.getD x0 (Int.toNat (i4:Int)) (aw .df)).from_)≤v2)))&&(decide (v2<((List.getD x0 (Int.toNat (i4:Int)) (aw .df)).oX))))then
   .ret true
  else
   .bh ()) 0 (Int.toNat v3) ():Bool⊕(Unit))
noncomputable def Aa(x0:Home)(an:Int):ByteArray:=
 let v2:=hl x0 an
 let v3:=decide (v2<0)
 let aI:Int→ByteArray:=fun v4=>
  bif(v3||(v4 != 0))then
   ⟨#[]⟩
  else
   (List.getD x0.a8 (Int.toNat v2) (aw .bA)).room
 bif v3 then
  aI (0:Int)
 else
  aI (j4 x0)
def Iy(x0:Home)(an:Int):Prop:=
 let v2:=hl x0 an
 (uK x0 an)∧
 let v3:=decide (v2<0)
 let aI:Int→Prop:=fun v4=>
  ((v3||(v4 != 0))=false→(
   0≤v2∧v2<(List.length x0.a8:Int)))
 (v3=true→(
  aI (0:Int)))∧(v3=false→(
  (sI x0)∧
  aI (j4 x0)))
noncomputable def w1(x0:Home)(an:br)(bJ:Int):Bool:=
 let v3:Int:=(List.length an.dj:Int)
 Sum.elim (fun r=>r) (fun _=>
  (v3==0))
 (bm (fun(i4:Nat) (_:Unit)=>
  show Step (Bool) (Unit)from
  bif(cf .eql (List.getD an.dj (Int.toNat (i4:Int)) (aw .str)) (Aa x0 bJ))then
   .ret true
  else
   .bh ()) 0 (Int.toNat v3) ():Bool⊕(Unit))
def DI(x0:Home)(an:br)(bJ:Int):Prop:=
 let v3:Int:=(List.length an.dj:Int)
 (0≤v3∧v3<(9223372036854775808:Int))∧
 ∃bp:Nat→(Unit)→Prop,bp 0 ()∧∀(i4:Nat) (d0:Unit),i4<Int.toNat v3→bp i4 d0→(
  (Iy x0 bJ)∧
  ((cf .eql (List.getD an.dj (Int.toNat (i4:Int)) (aw .str)) (Aa x0 bJ))=false→(
   bp (i4+1) ())))
noncomputable def w0(x0:Home)(an:cd):Bool:=
 let v2:=uu x0 an
 (v2.2&&v2.1.safety)
def DH(x0:Home)(an:cd):Prop:=
 let _:=uu x0 an
 Dd x0 an
noncomputable def Ab(x0:Home)(an:Int):(List cd):=
 let v2:=hl x0 an
 bif(((j4 x0) != 0)||(decide (v2<0)))then
  []
 else
  let bw:bA:=List.getD x0.a8 (Int.toNat v2) (aw .bA)
  let bx:Int:=(List.length bw.bq:Int)
  Sum.elim (fun r=>r) (fun bD=>
   bD)
  (bm (fun(i10:Nat) (aM:(List cd))=>
   show Step ((List cd)) ((List cd))from
   let dp:aO:=List.getD x0.bq (Int.toNat (j3 x0 (List.getD bw.bq (Int.toNat (i10:Int)) (aw .str)))) (aw .aO)
   let cU:Int:=(List.length dp.attrs:Int)
   Sum.elim (fun r=>r) (fun dg=>
    .bh dg)
   (bm (fun(i17:Nat) (cn:(List cd))=>
    show Step (Step ((List cd)) ((List cd))) ((List cd))from
    .bh (List.append cn ([⟨an,dp.name,(List.getD dp.attrs (Int.toNat (i17:Int)) (aw .Attr)).name⟩]:List cd))) 0 (Int.toNat cU) aM:(Step ((List cd)) ((List cd)))⊕((List cd)))) 0 (Int.toNat bx) []:(List cd)⊕((List cd)))
def Iz(x0:Home)(an:Int):Prop:=
 let v2:=hl x0 an
 (uK x0 an)∧
 (sI x0)∧
 ((((j4 x0) != 0)||(decide (v2<0)))=false→(
  let bw:bA:=List.getD x0.a8 (Int.toNat v2) (aw .bA)
  (0≤v2∧v2<(List.length x0.a8:Int))∧
  let bx:Int:=(List.length bw.bq:Int)
  (0≤bx∧bx<(9223372036854775808:Int))∧
  ∃bp:Nat→((List cd))→Prop,bp 0 []∧∀(i10:Nat) (d0:(List cd)),i10<Int.toNat bx→bp i10 d0→(
   let v12:ByteArray:=List.getD bw.bq (Int.toNat (i10:Int)) (aw .str)
   let bS:=j3 x0 v12
   (zH x0 v12)∧
   let dp:aO:=List.getD x0.bq (Int.toNat bS) (aw .aO)
   (0≤bS∧bS<(List.length x0.bq:Int))∧
   let cU:Int:=(List.length dp.attrs:Int)
   (0≤cU∧cU<(9223372036854775808:Int))∧
   let eT:(List cd)→Prop:=fun aM=>
    bp (i10+1) aM
   ∃dK:Nat→((List cd))→Prop,dK 0 d0∧(∀(i17:Nat) (d1:(List cd)),i17<Int.toNat cU→dK i17 d1→(
    let v20:List cd:=([⟨an,dp.name,(List.getD dp.attrs (Int.toNat (i17:Int)) (aw .Attr)).name⟩]:List cd)
    (List.length d1+List.length v20≤maxLen∧(List.length d1+List.length v20)*40≤140737488355328)∧
    dK (i17+1) (List.append d1 v20)))∧∀aM,dK (Int.toNat cU) aM→eT aM)))
noncomputable def DE(x0:Home)(an:bQ):Bool:=
 bif(an.kind==2)then
  (w0 x0 ⟨an.key.dev,an.key.cK,an.key.attr⟩)
 else
  let v3:=Ab x0 an.key.dev
  let v4:Int:=(List.length v3:Int)
  Sum.elim (fun r=>r) (fun _=>
   false)
  (bm (fun(i5:Nat) (_:Unit)=>
   show Step (Bool) (Unit)from
   let bx:=cf .eql ((List.getD v3 (Int.toNat (i5:Int)) (aw .cd)).cK) an.key.cK
   let v9:cd:=List.getD v3 (Int.toNat (i5:Int)) (aw .cd)
   let aI:Bool→Step (Bool) (Unit):=fun v10=>
    bif(bx&&v10)then
     .ret true
    else
     .bh ()
   bif bx then
    aI (w0 x0 v9)
   else
    aI false) 0 (Int.toNat v4) ():Bool⊕(Unit))
def Aj(x0:Home)(an:bQ):Prop:=
 ((an.kind==2)=true→(
  DH x0 ⟨an.key.dev,an.key.cK,an.key.attr⟩))∧((an.kind==2)=false→(
  let v3:=Ab x0 an.key.dev
  (Iz x0 an.key.dev)∧
  let v4:Int:=(List.length v3:Int)
  ∃bp:Nat→(Unit)→Prop,bp 0 ()∧∀(i5:Nat) (d0:Unit),i5<Int.toNat v4→bp i5 d0→(
   let bx:=cf .eql ((List.getD v3 (Int.toNat (i5:Int)) (aw .cd)).cK) an.key.cK
   let v9:cd:=List.getD v3 (Int.toNat (i5:Int)) (aw .cd)
   let aI:Bool→Prop:=fun v10=>
    ((bx&&v10)=false→(
     bp (i5+1) ()))
   (bx=true→(
    (DH x0 v9)∧
    aI (w0 x0 v9)))∧(bx=false→(
    aI false)))))
noncomputable def uJ(x0:Home)(an:List br)(bJ:ByteArray)(b8:Int)(bC:bQ):Int:=
 bif((uI x0 an) != 0)then
  (uI x0 an)
 else
  let bw:=qa an bJ
  bif(decide (bw<0))then
   8
  else
   let v9:br:=List.getD an (Int.toNat bw) (aw .br)
   bif((decide (bC.kind<1))||(decide (bC.kind>7)))then
    7
   else
    let bS:=v9.role==1
    let dp:=decide (b8<0)
    let aI:Bool→Int:=fun cU=>
     bif(bS&&(dp||(!cU)))then
      17
     else
      let bK:Int→Int:=fun cj=>
       bif(decide (v9.role<cj))then
        16
       else
        0
      let aI:Bool→Int:=fun cj=>
       bif cj then
        bif(decide ((hl x0 bC.key.dev)<0))then
         8
        else
         bif(!(w1 x0 v9 bC.key.dev))then
          16
         else
          bif(DE x0 bC)then
           bK (3:Int)
          else
           bK (1:Int)
       else
        bif(bC.kind==4)then
         bK (2:Int)
        else
         bif(bC.kind==5)then
          bK (3:Int)
         else
          let aI:Bool→Int:=fun v23=>
           bif v23 then
            bK (4:Int)
           else
            bK (1:Int)
          let v23:=bC.kind==6
          bif v23 then
           aI v23
          else
           aI (bC.kind==7)
      let cj:=bC.kind==2
      bif cj then
       aI cj
      else
       aI (bC.kind==3)
    bif bS then
     bif dp then
      aI false
     else
      aI (uF v9.gA b8)
    else
     aI false
def IA(x0:Home)(an:List br)(bJ:ByteArray)(b8:Int)(bC:bQ):Prop:=
 (DJ x0 an)∧
 (((uI x0 an) != 0)=true→(
  DJ x0 an))∧(((uI x0 an) != 0)=false→(
  let bw:=qa an bJ
  ((decide (bw<0))=false→(
   let v9:br:=List.getD an (Int.toNat bw) (aw .br)
   (0≤bw∧bw<(List.length an:Int))∧
   (((decide (bC.kind<1))||(decide (bC.kind>7)))=false→(
    let bS:=v9.role==1
    let dp:=decide (b8<0)
    let aI:Bool→Prop:=fun cU=>
     ((bS&&(dp||(!cU)))=false→(
      let aI:Bool→Prop:=fun cj=>
       (cj=true→(
        (uK x0 bC.key.dev)∧
        ((decide ((hl x0 bC.key.dev)<0))=false→(
         (DI x0 v9 bC.key.dev)∧
         ((!(w1 x0 v9 bC.key.dev))=false→(
          Aj x0 bC))))))
      let cj:=bC.kind==2
      (cj=true→(
       aI cj))∧(cj=false→(
       aI (bC.kind==3)))))
    (bS=true→(
     (dp=true→(
      aI false))∧(dp=false→(
      aI (uF v9.gA b8)))))∧(bS=false→(
     aI false))))))))
noncomputable def lH(x0:cv)(an:Int):Bool:=
 (((decide (an≥0))&&(decide (an≤63)))&&((bn .rem .u64 (bn .shr .u64 x0.bits an) (2:Int))==1))
def wZ(_:cv)(an:Int):Prop:=
 let v4:Bool:=(decide (an≥0))&&(decide (an≤63))
 v4=true→0≤an
noncomputable def sL(x0:cv):Int:=
 let bw:Bool:=((decide (x0.top<(-1)))||(decide (x0.top>1099511627776)))||((x0.top==(-1))&&(x0.bits != 0))
 let bx:=decide (x0.top≥0)
 let aI:Bool→Int:=fun v9=>
  bif(bw||(bx&&(!v9)))then
   2
  else
   Sum.elim (fun r=>r) (fun _=>
    0)
   (cJ (fun(aM:Int)=>
    show Step (Int) (Int)from
    bif(decide (aM≤63))then
     bif((lH x0 aM)&&(decide (aM>x0.top)))then
      .ret 2
     else
      .bh (IntKind.wrap .i64 (aM+(1:Int)))
    else
     .cz aM) dk 0:Int⊕(Int))
 bif bw then
  aI false
 else
  bif bx then
   aI (lH x0 (0:Int))
  else
   aI false
def DB(x0:cv):Prop:=
 let bw:Bool:=((decide (x0.top<(-1)))||(decide (x0.top>1099511627776)))||((x0.top==(-1))&&(x0.bits != 0))
 let bx:=decide (x0.top≥0)
 let aI:Bool→Prop:=fun v9=>
  ((bw||(bx&&(!v9)))=false→(
   ∃(bp:(Int)→Prop) (eS:(Int)→Nat),bp 0∧eS 0<dk∧∀(d0:Int),bp d0→(
    ((decide (d0≤63))=true→(
     (wZ x0 d0)∧
     (((lH x0 d0)&&(decide (d0>x0.top)))=false→(
      bp (IntKind.wrap .i64 (d0+(1:Int)))∧eS (IntKind.wrap .i64 (d0+(1:Int)))<eS d0)))))))
 (bw=true→(
  aI false))∧(bw=false→(
  (bx=true→(
   (wZ x0 (0:Int))∧
   aI (lH x0 (0:Int))))∧(bx=false→(
   aI false))))
noncomputable def uD(x0:cv)(an:Int):cv × Bool:=
 bif((((sL x0) != 0)||(decide (an<0)))||(decide (an>1099511627776)))then
  (x0,false)
 else
  bif(decide (an≤x0.top))then
   let v10:=decide ((IntKind.wrap .i64 (x0.top-an))>63)
   let aI:Bool→cv × Bool:=fun v12=>
    bif(v10||v12)then
     (x0,false)
    else
     (⟨x0.top,(bn .or .u64 x0.bits (bn .shl .u64 (1:Int) (IntKind.wrap .i64 (x0.top-an))))⟩,true)
   bif v10 then
    aI false
   else
    aI (lH x0 (IntKind.wrap .i64 (x0.top-an)))
  else
   Sum.elim (fun r=>r) (fun bD=>
    (⟨an,bD.2⟩,true))
   (cJ (fun(aM:Int × Int)=>
    show Step (cv × Bool) (Int × Int)from
    bif(decide (aM.1≤63))then
     let bK:Int→Step (cv × Bool) (Int × Int):=fun cU=>
      .bh ((IntKind.wrap .i64 (aM.1+(1:Int))),cU)
     let v12:=decide (x0.top≥0)
     let aI:Bool→Step (cv × Bool) (Int × Int):=fun cU=>
      bif(v12&&cU)then
       bK (bn .or .u64 aM.2 (bn .shl .u64 (1:Int) aM.1))
      else
       bK aM.2
     bif v12 then
      aI (lH x0 (IntKind.wrap .i64 (x0.top-(IntKind.wrap .i64 (an-aM.1)))))
     else
      aI false
    else
     .cz (aM.1,aM.2)) dk (1,1):(cv × Bool)⊕(Int × Int))
def Ip(x0:cv)(an:Int):Prop:=
 (DB x0)∧
 (((((sL x0) != 0)||(decide (an<0)))||(decide (an>1099511627776)))=false→(
  ((decide (an≤x0.top))=true→(
   let v10:=decide ((IntKind.wrap .i64 (x0.top-an))>63)
   let v11:Int:=IntKind.wrap .i64 (x0.top-an)
   let aI:Bool→Prop:=fun v12=>
    ((v10||v12)=false→(
     let dp:Int:=IntKind.wrap .i64 (x0.top-an)
     0≤dp))
   (v10=true→(
    aI false))∧(v10=false→(
    (wZ x0 v11)∧
    aI (lH x0 v11)))))∧((decide (an≤x0.top))=false→(
   ∃(bp:(Int × Int)→Prop) (eS:(Int × Int)→Nat),bp (1,1)∧eS (1,1)<dk∧∀(d0:Int × Int),bp d0→(
    ((decide (d0.1≤63))=true→(
     let bK:Int→Prop:=fun cU=>
      bp ((IntKind.wrap .i64 (d0.1+(1:Int))),cU)∧eS ((IntKind.wrap .i64 (d0.1+(1:Int))),cU)<eS d0
     let v12:=decide (x0.top≥0)
     let dp:Int:=IntKind.wrap .i64 (x0.top-(IntKind.wrap .i64 (an-d0.1)))
     let aI:Bool→Prop:=fun cU=>
      ((v12&&cU)=true→(
       (0≤d0.1)∧
       bK (bn .or .u64 d0.2 (bn .shl .u64 (1:Int) d0.1))))∧((v12&&cU)=false→(
       bK d0.2))
     (v12=true→(
      (wZ x0 dp)∧
      aI (lH x0 dp)))∧(v12=false→(
      aI false)))))))))
noncomputable def z8(x0:List aX)(an:ByteArray)(bJ:cv):(List aX):=
 let v3:Int:=(List.length x0:Int)
 Sum.elim (fun r=>r) (fun bD=>
  Sum.elim (fun r=>r) (fun aM=>
   let aI:(List aX)→(List aX):=fun bS=>
    bS
   bif((!bD.2.1)&&(bD.1==(List.length x0:Int)))then
    aI (List.append aM.2 ([⟨an,⟨bJ.top,bJ.bits⟩⟩]:List aX))
   else
    aI aM.2)
  (bm (fun(i10:Nat) (dg:Bool × (List aX))=>
   show Step ((List aX)) (Bool × (List aX))from
   let aI:(List aX)→Step ((List aX)) (Bool × (List aX)):=fun cU=>
    let cT:aX:=List.getD x0 (Int.toNat (i10:Int)) (aw .aX)
    let aI:Bool→Int→Int→Step ((List aX)) (Bool × (List aX)):=fun dD v21 v22=>
     .bh (dD,(List.append cU ([⟨cT.cq,⟨v21,v22⟩⟩]:List aX)))
    bif((bD.2.1&&(!dg.1))&&(cf .eql cT.cq an))then
     aI true bJ.top bJ.bits
    else
     aI dg.1 cT.gT.top cT.gT.bits
   bif((!bD.2.1)&&((i10:Int)==bD.1))then
    aI (List.append dg.2 ([⟨an,⟨bJ.top,bJ.bits⟩⟩]:List aX))
   else
    aI dg.2) 0 (Int.toNat v3) (false,[]):(List aX)⊕(Bool × (List aX))))
 (cJ (fun(cn:Int × Bool × Int)=>
  show Step ((List aX)) (Int × Bool × Int)from
  bif(decide (cn.2.2≥0))then
   let bK:Int→Bool→Step ((List aX)) (Int × Bool × Int):=fun v9 v10=>
    .bh (v9,v10,(IntKind.wrap .i64 (cn.2.2-(1:Int))))
   let aI:Bool→Step ((List aX)) (Int × Bool × Int):=fun v9=>
    bif(cf .gtr ((List.getD x0 (Int.toNat cn.2.2) (aw .aX)).cq) an)then
     bK cn.2.2 v9
    else
     bK cn.1 v9
   bif(cf .eql ((List.getD x0 (Int.toNat cn.2.2) (aw .aX)).cq) an)then
    aI true
   else
    aI cn.2.1
  else
   .cz (cn.1,cn.2.1,cn.2.2)) dk (v3,false,(IntKind.wrap .i64 (v3-(1:Int)))):(List aX)⊕(Int × Bool × Int))
def Ir(x0:List aX)(an:ByteArray)(bJ:cv):Prop:=
 let v3:Int:=(List.length x0:Int)
 let a1:(Int × Bool × Int)→Prop:=fun bD=>
  let eT:(Bool × (List aX))→Prop:=fun aM=>
   (((!bD.2.1)&&(bD.1==(List.length x0:Int)))=true→(
    let dp:List aX:=([⟨an,⟨bJ.top,bJ.bits⟩⟩]:List aX)
    List.length aM.2+List.length dp≤maxLen∧(List.length aM.2+List.length dp)*32≤140737488355328))
  ∃dK:Nat→(Bool × (List aX))→Prop,dK 0 (false,[])∧(∀(i10:Nat) (d1:Bool × (List aX)),i10<Int.toNat v3→dK i10 d1→(
   let aI:(List aX)→Prop:=fun cU=>
    let cT:aX:=List.getD x0 (Int.toNat (i10:Int)) (aw .aX)
    let aI:Bool→Int→Int→Prop:=fun dD v21 v22=>
     let v23:List aX:=([⟨cT.cq,⟨v21,v22⟩⟩]:List aX)
     (List.length cU+List.length v23≤maxLen∧(List.length cU+List.length v23)*32≤140737488355328)∧
     dK (i10+1) (dD,(List.append cU v23))
    (((bD.2.1&&(!d1.1))&&(cf .eql cT.cq an))=true→(
     aI true bJ.top bJ.bits))∧(((bD.2.1&&(!d1.1))&&(cf .eql cT.cq an))=false→(
     aI d1.1 cT.gT.top cT.gT.bits))
   (((!bD.2.1)&&((i10:Int)==bD.1))=true→(
    let cU:List aX:=([⟨an,⟨bJ.top,bJ.bits⟩⟩]:List aX)
    (List.length d1.2+List.length cU≤maxLen∧(List.length d1.2+List.length cU)*32≤140737488355328)∧
    aI (List.append d1.2 cU)))∧(((!bD.2.1)&&((i10:Int)==bD.1))=false→(
    aI d1.2))))∧∀aM,dK (Int.toNat v3) aM→eT aM
 ∃(bp:(Int × Bool × Int)→Prop) (eS:(Int × Bool × Int)→Nat),bp (v3,false,(IntKind.wrap .i64 (v3-(1:Int))))∧eS (v3,false,(IntKind.wrap .i64 (v3-(1:Int))))<dk∧∀(d0:Int × Bool × Int),bp d0→(
  ((decide (d0.2.2≥0))=true→(
   let bK:Int→Bool→Prop:=fun v9 v10=>
    bp (v9,v10,(IntKind.wrap .i64 (d0.2.2-(1:Int))))∧eS (v9,v10,(IntKind.wrap .i64 (d0.2.2-(1:Int))))<eS d0
   let aI:Bool→Prop:=fun v9=>
    (0≤d0.2.2∧d0.2.2<(List.length x0:Int))∧
    ((cf .gtr ((List.getD x0 (Int.toNat d0.2.2) (aw .aX)).cq) an)=true→(
     bK d0.2.2 v9))∧((cf .gtr ((List.getD x0 (Int.toNat d0.2.2) (aw .aX)).cq) an)=false→(
     bK d0.1 v9))
   (0≤d0.2.2∧d0.2.2<(List.length x0:Int))∧
   ((cf .eql ((List.getD x0 (Int.toNat d0.2.2) (aw .aX)).cq) an)=true→(
    aI true))∧((cf .eql ((List.getD x0 (Int.toNat d0.2.2) (aw .aX)).cq) an)=false→(
    aI d0.2.1))))∧((decide (d0.2.2≥0))=false→(
   a1 (d0.1,d0.2.1,d0.2.2))))
noncomputable def m32(x0:Config)(an:List br)(bJ:List aX)(b8:List Int)(bC:gl)(rm:Int)(rn:Int):ByteArray × (List aX) × Int:=
 let bx:List aX:=List.append ([]:List aX) bJ
 let v9:=wY x0.key bC.token rm b8
 bif(v9.2 != 0)then
  (⟨#[]⟩,bx,v9.2)
 else
  let bS:=uw ⟨x0.home.bq,x0.home.a8⟩ ⟨bC.request.kind,bC.request.dO,⟨bC.request.key.dev,bC.request.key.cK,bC.request.key.attr⟩,bC.request.name,⟨bC.request.value.kind,bC.request.value.n,bC.request.value.s⟩,bC.request.text⟩
  bif(bS != 0)then
   (⟨#[]⟩,bx,bS)
  else
   let cU:=uJ ⟨x0.home.bq,x0.home.a8⟩ an v9.1.cq rn ⟨bC.request.kind,bC.request.dO,⟨bC.request.key.dev,bC.request.key.cK,bC.request.key.attr⟩,bC.request.name,⟨bC.request.value.kind,bC.request.value.n,bC.request.value.s⟩,bC.request.text⟩
   bif(cU != 0)then
    (⟨#[]⟩,bx,cU)
   else
    let dD:=uA bJ v9.1.cq
    let dQ:=uD dD bC.request.dO
    bif !dQ.2 then
     (⟨#[]⟩,bx,18)
    else
     (v9.1.cq,(z8 bJ v9.1.cq dQ.1),0)
def IB(x0:Config)(an:List br)(bJ:List aX)(b8:List Int)(bC:gl)(rm:Int)(rn:Int):Prop:=
 let bw:List aX:=([]:List aX)
 let _:List aX:=List.append bw bJ
 (List.length bw+List.length bJ≤maxLen∧(List.length bw+List.length bJ)*32≤140737488355328)∧
 let v9:=wY x0.key bC.token rm b8
 (DK x0.key bC.token rm b8)∧
 ((v9.2 != 0)=false→(
  let bS:=uw ⟨x0.home.bq,x0.home.a8⟩ ⟨bC.request.kind,bC.request.dO,⟨bC.request.key.dev,bC.request.key.cK,bC.request.key.attr⟩,bC.request.name,⟨bC.request.value.kind,bC.request.value.n,bC.request.value.s⟩,bC.request.text⟩
  (zJ ⟨x0.home.bq,x0.home.a8⟩ ⟨bC.request.kind,bC.request.dO,⟨bC.request.key.dev,bC.request.key.cK,bC.request.key.attr⟩,bC.request.name,⟨bC.request.value.kind,bC.request.value.n,bC.request.value.s⟩,bC.request.text⟩)∧
  ((bS != 0)=false→(
   let cU:=uJ ⟨x0.home.bq,x0.home.a8⟩ an v9.1.cq rn ⟨bC.request.kind,bC.request.dO,⟨bC.request.key.dev,bC.request.key.cK,bC.request.key.attr⟩,bC.request.name,⟨bC.request.value.kind,bC.request.value.n,bC.request.value.s⟩,bC.request.text⟩
   (IA ⟨x0.home.bq,x0.home.a8⟩ an v9.1.cq rn ⟨bC.request.kind,bC.request.dO,⟨bC.request.key.dev,bC.request.key.cK,bC.request.key.attr⟩,bC.request.name,⟨bC.request.value.kind,bC.request.value.n,bC.request.value.s⟩,bC.request.text⟩)∧
   ((cU != 0)=false→(
    let dD:=uA bJ v9.1.cq
    let dQ:=uD dD bC.request.dO
    (Ip dD bC.request.dO)∧
    ((!dQ.2)=false→(
     Ir bJ v9.1.cq dQ.1))))))))
noncomputable def yY(x0:List aX)(an:List aX):Bool:=
 let v2:Int:=(List.length x0:Int)
 bif(v2 != (List.length an:Int))then
  false
 else
  Sum.elim (fun r=>r) (fun _=>
   true)
  (bm (fun(i5:Nat) (_:Unit)=>
   show Step (Bool) (Unit)from
   let bw:aX:=List.getD x0 (Int.toNat (i5:Int)) (aw .aX)
   let bx:aX:=List.getD an (Int.toNat (i5:Int)) (aw .aX)
   bif(!(bif et bw.cq bx.cq then bif bw.gT.top==bx.gT.top then bw.gT.bits==bx.gT.bits else false else false))then
    .ret false
   else
    .bh ()) 0 (Int.toNat v2) ():Bool⊕(Unit))
def GV(x0:List aX)(an:List aX):Prop:=
 let v2:Int:=(List.length x0:Int)
 ((v2 != (List.length an:Int))=false→(
  ∃bp:Nat→(Unit)→Prop,bp 0 ()∧∀(i5:Nat) (d0:Unit),i5<Int.toNat v2→bp i5 d0→(
   let bw:aX:=List.getD x0 (Int.toNat (i5:Int)) (aw .aX)
   let bx:aX:=List.getD an (Int.toNat (i5:Int)) (aw .aX)
   (0≤(i5:Int)∧(i5:Int)<(List.length an:Int))∧
   ((!(bif et bw.cq bx.cq then bif bw.gT.top==bx.gT.top then bw.gT.bits==bx.gT.bits else false else false))=false→(
    bp (i5+1) ())))))
noncomputable def Cx(x0:Case):Bool:=
 bif(tV x0)then
  (Dt)
 else
  let v2:=l8 ⟨⟨x0.c.home.bq,x0.c.home.a8⟩,x0.c.sr,x0.c.ss,⟨x0.c.lB.offset,x0.c.lB.changes⟩,x0.c.key⟩ x0.members x0.kS x0.oF ⟨x0.a.token,⟨x0.a.request.kind,x0.a.request.dO,⟨x0.a.request.key.dev,x0.a.request.key.cK,x0.a.request.key.attr⟩,x0.a.request.name,⟨x0.a.request.value.kind,x0.a.request.value.n,x0.a.request.value.s⟩,x0.a.request.text⟩⟩ x0.now x0.hb
  let v6:=m32 ⟨⟨x0.c.home.bq,x0.c.home.a8⟩,x0.c.sr,x0.c.ss,⟨x0.c.lB.offset,x0.c.lB.changes⟩,x0.c.key⟩ x0.members x0.kS x0.oF ⟨x0.a.token,⟨x0.a.request.kind,x0.a.request.dO,⟨x0.a.request.key.dev,x0.a.request.key.cK,x0.a.request.key.attr⟩,x0.a.request.name,⟨x0.a.request.value.kind,x0.a.request.value.n,x0.a.request.value.s⟩,x0.a.request.text⟩⟩ x0.now x0.hb
  let v12:Bool:=(cf .eql v2.1 v6.1)&&(v2.2.2==v6.2.2)
  let aI:Bool→Bool:=fun bS=>
   let dp:Bool:=v12&&bS
   let aI:Bool→Bool:=fun cU=>
    (dp&&cU)
   bif dp then
    aI (Dt)
   else
    aI false
  bif v12 then
   aI (yY v2.2.1 v6.2.1)
  else
   aI false
def Qc(x0:Case):Prop:=
 (Ii x0)∧
 ((tV x0)=true→(
  zW))∧((tV x0)=false→(
  let v2:=l8 ⟨⟨x0.c.home.bq,x0.c.home.a8⟩,x0.c.sr,x0.c.ss,⟨x0.c.lB.offset,x0.c.lB.changes⟩,x0.c.key⟩ x0.members x0.kS x0.oF ⟨x0.a.token,⟨x0.a.request.kind,x0.a.request.dO,⟨x0.a.request.key.dev,x0.a.request.key.cK,x0.a.request.key.attr⟩,x0.a.request.name,⟨x0.a.request.value.kind,x0.a.request.value.n,x0.a.request.value.s⟩,x0.a.request.text⟩⟩ x0.now x0.hb
  (uz ⟨⟨x0.c.home.bq,x0.c.home.a8⟩,x0.c.sr,x0.c.ss,⟨x0.c.lB.offset,x0.c.lB.changes⟩,x0.c.key⟩ x0.members x0.kS x0.oF ⟨x0.a.token,⟨x0.a.request.kind,x0.a.request.dO,⟨x0.a.request.key.dev,x0.a.request.key.cK,x0.a.request.key.attr⟩,x0.a.request.name,⟨x0.a.request.value.kind,x0.a.request.value.n,x0.a.request.value.s⟩,x0.a.request.text⟩⟩ x0.now x0.hb)∧
  let v6:=m32 ⟨⟨x0.c.home.bq,x0.c.home.a8⟩,x0.c.sr,x0.c.ss,⟨x0.c.lB.offset,x0.c.lB.changes⟩,x0.c.key⟩ x0.members x0.kS x0.oF ⟨x0.a.token,⟨x0.a.request.kind,x0.a.request.dO,⟨x0.a.request.key.dev,x0.a.request.key.cK,x0.a.request.key.attr⟩,x0.a.request.name,⟨x0.a.request.value.kind,x0.a.request.value.n,x0.a.request.value.s⟩,x0.a.request.text⟩⟩ x0.now x0.hb
  (IB ⟨⟨x0.c.home.bq,x0.c.home.a8⟩,x0.c.sr,x0.c.ss,⟨x0.c.lB.offset,x0.c.lB.changes⟩,x0.c.key⟩ x0.members x0.kS x0.oF ⟨x0.a.token,⟨x0.a.request.kind,x0.a.request.dO,⟨x0.a.request.key.dev,x0.a.request.key.cK,x0.a.request.key.attr⟩,x0.a.request.name,⟨x0.a.request.value.kind,x0.a.request.value.n,x0.a.request.value.s⟩,x0.a.request.text⟩⟩ x0.now x0.hb)∧
  let v12:Bool:=(cf .eql v2.1 v6.1)&&(v2.2.2==v6.2.2)
  let aI:Bool→Prop:=fun bS=>
   let dp:Bool:=v12&&bS
   (dp=true→(
    zW))
  (v12=true→(
   (GV v2.2.1 v6.2.1)∧
   aI (yY v2.2.1 v6.2.1)))∧(v12=false→(
   aI false))))
end Go.aN
