/- Models, printed. Conditions: none. -/
import Derived.Test.YtmkpmgfieagphaaGreatDoorKTEk
open Go Go.aK Go.eK
namespace Go.aK
def HA{α:Type}[Inhabited α]:List α→Nat→α
 |[],_=>default
 |[x],_=>x
 |x::l,n=>bif Nat.beq n 0 then x else HA l (n-1)
noncomputable def fV(x0:Int):ByteArray:=
 Sum.elim (fun r=>r) (fun bR=>
  (bytesOf (List.append bR.2 ([(IntKind.wrap .u8 bR.1)]:List Int))))
 (c4 (fun(aV:Int × (List Int))=>
  show Step (ByteArray) (Int × (List Int))from
  bif(decide (aV.1≥128))then
   .bq ((bz .shr .u64 aV.1 (7:Int)),(List.append aV.2 ([(bz .or .u8 (IntKind.wrap .u8 aV.1) (128:Int))]:List Int)))
  else
   .cN (aV.1,aV.2)) dU ((bz .xor .u64 (bz .shl .u64 (IntKind.wrap .u64 x0) (1:Int)) (IntKind.wrap .u64 (bz .shr .i64 x0 (63:Int)))),[]):ByteArray⊕(Int × (List Int)))
def oy(x0:Int):Prop:=
 let aW:(Int × (List Int))→Prop:=fun bR=>
  let v9:List Int:=([(IntKind.wrap .u8 bR.1)]:List Int)
  List.length bR.2+List.length v9≤maxLen∧(List.length bR.2+List.length v9)*1≤140737488355328
 ∃(bB:(Int × (List Int))→Prop) (hb:(Int × (List Int))→Nat),bB ((bz .xor .u64 (bz .shl .u64 (IntKind.wrap .u64 x0) (1:Int)) (IntKind.wrap .u64 (bz .shr .i64 x0 (63:Int)))),[])∧hb ((bz .xor .u64 (bz .shl .u64 (IntKind.wrap .u64 x0) (1:Int)) (IntKind.wrap .u64 (bz .shr .i64 x0 (63:Int)))),[])<dU∧∀(d0:Int × (List Int)),bB d0→(
  ((decide (d0.1≥128))=true→(
   let v11:List Int:=([(bz .or .u8 (IntKind.wrap .u8 d0.1) (128:Int))]:List Int)
   (List.length d0.2+List.length v11≤maxLen∧(List.length d0.2+List.length v11)*1≤140737488355328)∧
   bB ((bz .shr .u64 d0.1 (7:Int)),(List.append d0.2 v11))∧hb ((bz .shr .u64 d0.1 (7:Int)),(List.append d0.2 v11))<hb d0))∧((decide (d0.1≥128))=false→(
   aW (d0.1,d0.2))))
noncomputable def h7(x0:ByteArray):ByteArray:=
 (ByteArray.append (fV (ByteArray.size x0:Int)) x0)
def sy(x0:ByteArray):Prop:=
 let v1:Int:=(ByteArray.size x0:Int)
 let v2:=fV v1
 (oy v1)∧
 ByteArray.size v2+ByteArray.size x0≤9223372036854775807
noncomputable def sz(x0:Int):Bool:=
 ((decide (x0≥(-1099511627776)))&&(decide (x0≤1099511627776)))
noncomputable def ku(x0:cd):Int:=
 let bN:Bool→Int:=fun v1=>
  bif !v1 then
   2
  else
   bif(decide ((ByteArray.size x0.s:Int)>60))then
    3
   else
    bif((cM .neq x0.s (⟨#[]⟩:ByteArray))&&(x0.kind != 4))then
     4
    else
     0
 let aM:Bool→Int:=fun v1=>
  bif v1 then
   bN (x0.n==0)
  else
   bif(x0.kind==1)then
    bN ((x0.n==0)||(x0.n==1))
   else
    bif(x0.kind==2)then
     bN (sz x0.n)
    else
     bif(x0.kind==3)then
      bN ((decide (x0.n≥0))&&(decide (x0.n≤63)))
     else
      7
 let v1:=x0.kind==0
 bif v1 then
  aM v1
 else
  aM (x0.kind==4)
noncomputable def mR(x0:cd):ByteArray:=
 let aM:Int→Int→ByteArray→ByteArray:=fun v3 v4 v5=>
  let v6:=fV v3
  let bN:ByteArray→ByteArray:=fun bA=>
   bA
  let aM:Bool→ByteArray:=fun bA=>
   bif bA then
    bN (ByteArray.append v6 (fV v4))
   else
    bif(v3==4)then
     bN (ByteArray.append v6 (h7 v5))
    else
     bN v6
  let bA:=v3==1
  bif bA then
   aM bA
  else
   let bx:=v3==2
   bif bx then
    aM bx
   else
    aM (v3==3)
 bif((ku x0) != 0)then
  aM (0:Int) (0:Int) (⟨#[]⟩:ByteArray)
 else
  aM x0.kind x0.n x0.s
def Gq(x0:cd):Prop:=
 let aM:Int→Int→ByteArray→Prop:=fun v3 v4 v5=>
  let v6:=fV v3
  (oy v3)∧
  let aM:Bool→Prop:=fun bA=>
   (bA=true→(
    let v9:=fV v4
    (oy v4)∧
    ByteArray.size v6+ByteArray.size v9≤9223372036854775807))∧(bA=false→(
    ((v3==4)=true→(
     let v10:=h7 v5
     (sy v5)∧
     ByteArray.size v6+ByteArray.size v10≤9223372036854775807))))
  let bA:=v3==1
  (bA=true→(
   aM bA))∧(bA=false→(
   let bx:=v3==2
   (bx=true→(
    aM bx))∧(bx=false→(
    aM (v3==3)))))
 (((ku x0) != 0)=true→(
  aM (0:Int) (0:Int) (⟨#[]⟩:ByteArray)))∧(((ku x0) != 0)=false→(
  aM x0.kind x0.n x0.s))
noncomputable def ox(x0:bs):ByteArray:=
 let bT:=ByteArray.append (ByteArray.append (ByteArray.append (ByteArray.append (ByteArray.append (ByteArray.append (fV x0.kind) (fV x0.dy)) (fV x0.key.dev)) (h7 x0.key.dk)) (h7 x0.key.attr)) (h7 x0.name)) (mR ⟨x0.value.kind,x0.value.n,x0.value.s⟩)
 (ByteArray.append bT (h7 x0.text))
def B4(x0:bs):Prop:=
 let v1:=fV x0.kind
 (oy x0.kind)∧
 let v2:=fV x0.dy
 (oy x0.dy)∧
 let v3:=ByteArray.append v1 v2
 (ByteArray.size v1+ByteArray.size v2≤9223372036854775807)∧
 let v4:=fV x0.key.dev
 (oy x0.key.dev)∧
 let v5:=ByteArray.append v3 v4
 (ByteArray.size v3+ByteArray.size v4≤9223372036854775807)∧
 let v6:=h7 x0.key.dk
 (sy x0.key.dk)∧
 let bA:=ByteArray.append v5 v6
 (ByteArray.size v5+ByteArray.size v6≤9223372036854775807)∧
 let bx:=h7 x0.key.attr
 (sy x0.key.attr)∧
 let v9:=ByteArray.append bA bx
 (ByteArray.size bA+ByteArray.size bx≤9223372036854775807)∧
 let v10:=h7 x0.name
 (sy x0.name)∧
 let v11:=ByteArray.append v9 v10
 (ByteArray.size v9+ByteArray.size v10≤9223372036854775807)∧
 let v12:=mR ⟨x0.value.kind,x0.value.n,x0.value.s⟩
 (Gq ⟨x0.value.kind,x0.value.n,x0.value.s⟩)∧
 let bT:=ByteArray.append v11 v12
 (ByteArray.size v11+ByteArray.size v12≤9223372036854775807)∧
 let fv:=h7 x0.text
 (sy x0.text)∧
 ByteArray.size bT+ByteArray.size fv≤9223372036854775807
noncomputable def nA(x0:Rd):Rd × Int:=
 bif !x0.made then
  (x0,15)
 else
  (x0,x0.err)
noncomputable def yM(x0:ByteArray):Int × Int × Int:=
 let v1:Int:=(ByteArray.size x0:Int)
 Sum.elim (fun r=>r) (fun bR=>
  (0,0,5))
 (bn (fun(i3:Nat) (aV:Int)=>
  show Step (Int × Int × Int) (Int)from
  let v5:Int:=ei x0 (i3:Int)
  bif(((decide ((i3:Int)>0))&&(v5==0))||(((i3:Int)==9)&&(decide (v5>1))))then
   .ret (0,0,4)
  else
   let dM:Int:=bz .or .u64 aV (bz .shl .u64 (IntKind.wrap .u64 (bz .and .u8 v5 (127:Int))) (IntKind.wrap .i64 ((7:Int)*(i3:Int))))
   bif(decide (v5<128))then
    .ret (dM,(IntKind.wrap .i64 ((i3:Int)+(1:Int))),0)
   else
    .bq dM) 0 (Int.toNat v1) 0:(Int × Int × Int)⊕(Int))
def Gj(x0:ByteArray):Prop:=
 let v1:Int:=(ByteArray.size x0:Int)
 (0≤v1∧v1<(9223372036854775808:Int))∧
 ∃bB:Nat→(Int)→Prop,bB 0 0∧∀(i3:Nat) (d0:Int),i3<Int.toNat v1→bB i3 d0→(
  let v5:Int:=ei x0 (i3:Int)
  ((((decide ((i3:Int)>0))&&(v5==0))||(((i3:Int)==9)&&(decide (v5>1))))=false→(
   let fv:Int:=IntKind.wrap .u64 (bz .and .u8 v5 (127:Int))
   let eS:Int:=IntKind.wrap .i64 ((7:Int)*(i3:Int))
   (0≤eS)∧
   let dM:Int:=bz .or .u64 d0 (bz .shl .u64 fv eS)
   ((decide (v5<128))=false→(
    bB (i3+1) dM)))))
noncomputable def gq(x0:Rd):Rd × Int:=
 let v1:=nA x0
 bif(v1.2 != 0)then
  (v1.1,0)
 else
  let v5:=yM v1.1.rest
  bif(v5.2.2 != 0)then
   (⟨v1.1.rest,v5.2.2,v1.1.made⟩,0)
  else
   (⟨(mU v1.1.rest (some v5.2.1) none),v1.1.err,v1.1.made⟩,(bz .xor .i64 (IntKind.wrap .i64 (bz .shr .u64 v5.1 (1:Int))) (IntKind.wrap .i64 (0-(IntKind.wrap .i64 (bz .and .u64 v5.1 (1:Int)))))))
def nC(x0:Rd):Prop:=
 let v1:=nA x0
 ((v1.2 != 0)=false→(
  let v5:=yM v1.1.rest
  (Gj v1.1.rest)∧
  ((v5.2.2 != 0)=false→(
   iZ (ByteArray.size v1.1.rest) (some v5.2.1) none))))
noncomputable def yP(x0:Rd)(ar:Int):Rd × Int:=
 let v2:=gq x0
 let v5:=nA v2.1
 bif(v5.2 != 0)then
  (v5.1,0)
 else
  bif(decide (v2.2<0))then
   (⟨v5.1.rest,4,v5.1.made⟩,0)
  else
   bif(decide (v2.2>(cC.den (.mx .i64) ar (0:Int))))then
    (⟨v5.1.rest,3,v5.1.made⟩,0)
   else
    (v5.1,v2.2)
def Gk(x0:Rd)(ar:Int):Prop:=
 let v2:=gq x0
 nC x0
noncomputable def hH(x0:Rd)(ar:Int):Rd × ByteArray:=
 let v2:=yP x0 ar
 let v5:=nA v2.1
 bif(v5.2 != 0)then
  (v5.1,⟨#[]⟩)
 else
  bif(decide (v2.2>(ByteArray.size v5.1.rest:Int)))then
   (⟨v5.1.rest,5,v5.1.made⟩,⟨#[]⟩)
  else
   (⟨(mU v5.1.rest (some v2.2) none),v5.1.err,v5.1.made⟩,(mU v5.1.rest none (some v2.2)))
def sB(x0:Rd)(ar:Int):Prop:=
 let v2:=yP x0 ar
 (Gk x0 ar)∧
 let v5:=nA v2.1
 ((v5.2 != 0)=false→(
  ((decide (v2.2>(ByteArray.size v5.1.rest:Int)))=false→(
   (iZ (ByteArray.size v5.1.rest) none (some v2.2))∧
   iZ (ByteArray.size v5.1.rest) (some v2.2) none))))
noncomputable def BV(x0:Rd)(ar:Int):Rd:=
 let v2:=nA x0
 bif(v2.2==0)then
  ⟨v2.1.rest,ar,v2.1.made⟩
 else
  v2.1
noncomputable def uf(x0:Rd):Rd × cd:=
 let v1:=gq x0
 let bN:Int→ByteArray→ByteArray→Int→Bool→Rd × cd:=fun v6 bA bx v9 v10=>
  let aM:ByteArray→Int→Bool→Rd × cd:=fun bT fv eS=>
   let c8:=nA ⟨bT,fv,eS⟩
   bif(c8.2 != 0)then
    (c8.1,⟨0,0,⟨#[]⟩⟩)
   else
    (c8.1,⟨v1.2,v6,bA⟩)
  bif((ku ⟨v1.2,v6,bA⟩) != 0)then
   let bT:=BV ⟨bx,v9,v10⟩ (4:Int)
   aM bT.rest bT.err bT.made
  else
   aM bx v9 v10
 let aM:Bool→Rd × cd:=fun v4=>
  bif v4 then
   let v6:=gq v1.1
   bN v6.2 (⟨#[]⟩:ByteArray) v6.1.rest v6.1.err v6.1.made
  else
   bif(v1.2==4)then
    let bA:=hH v1.1 (60:Int)
    bN (0:Int) bA.2 bA.1.rest bA.1.err bA.1.made
   else
    bN (0:Int) (⟨#[]⟩:ByteArray) v1.1.rest v1.1.err v1.1.made
 let v4:=v1.2==1
 bif v4 then
  aM v4
 else
  let v5:=v1.2==2
  bif v5 then
   aM v5
  else
   aM (v1.2==3)
def BY(x0:Rd):Prop:=
 let v1:=gq x0
 (nC x0)∧
 let aM:Bool→Prop:=fun v4=>
  (v4=true→(
   let v6:=gq v1.1
   nC v1.1))∧(v4=false→(
   ((v1.2==4)=true→(
    let bA:=hH v1.1 (60:Int)
    sB v1.1 (60:Int)))))
 let v4:=v1.2==1
 (v4=true→(
  aM v4))∧(v4=false→(
  let v5:=v1.2==2
  (v5=true→(
   aM v5))∧(v5=false→(
   aM (v1.2==3)))))
noncomputable def Gi(x0:Rd):Rd × Int:=
 let v1:=nA x0
 bif(v1.2 != 0)then
  (v1.1,0)
 else
  (v1.1,(ByteArray.size v1.1.rest:Int))
noncomputable def v7(x0:Rd):Rd × Int:=
 let v1:=Gi x0
 bif(decide (v1.2>0))then
  (v1.1,23)
 else
  let v5:=nA v1.1
  (v5.1,v5.2)
noncomputable def v8(x0:bs):Int:=
 bif((decide (x0.kind<1))||(decide (x0.kind>7)))then
  7
 else
  0
noncomputable def wa(x0:bs):Int:=
 bif((decide (x0.dy<0))||(decide (x0.dy>1099511627776)))then
  2
 else
  0
noncomputable def ui(x0:ByteArray):bs × Int:=
 let v1:=gq ⟨x0,0,true⟩
 let v4:=gq v1.1
 let bA:=gq v4.1
 let v10:=hH bA.1 (24:Int)
 let bT:=hH v10.1 (24:Int)
 let c8:=hH bT.1 (24:Int)
 let b7:=uf c8.1
 let v22:=hH b7.1 (20000:Int)
 let aM:Int→bs × Int:=fun v25=>
  bif(v25 != 0)then
   (⟨0,0,⟨0,⟨#[]⟩,⟨#[]⟩⟩,⟨#[]⟩,⟨0,0,⟨#[]⟩⟩,⟨#[]⟩⟩,v25)
  else
   (⟨v1.2,v4.2,⟨bA.2,v10.2,bT.2⟩,c8.2,⟨b7.2.kind,b7.2.n,b7.2.s⟩,v22.2⟩,0)
 let v25:=v7 v22.1
 bif(v25.2 != 0)then
  aM v25.2
 else
  let iu:=v8 ⟨v1.2,v4.2,⟨bA.2,v10.2,bT.2⟩,c8.2,⟨b7.2.kind,b7.2.n,b7.2.s⟩,v22.2⟩
  bif(iu != 0)then
   aM iu
  else
   let v31:=wa ⟨v1.2,v4.2,⟨bA.2,v10.2,bT.2⟩,c8.2,⟨b7.2.kind,b7.2.n,b7.2.s⟩,v22.2⟩
   bif(v31 != 0)then
    aM v31
   else
    aM (0:Int)
def yR(x0:ByteArray):Prop:=
 let v1:=gq ⟨x0,0,true⟩
 (nC ⟨x0,0,true⟩)∧
 let v4:=gq v1.1
 (nC v1.1)∧
 let bA:=gq v4.1
 (nC v4.1)∧
 let v10:=hH bA.1 (24:Int)
 (sB bA.1 (24:Int))∧
 let bT:=hH v10.1 (24:Int)
 (sB v10.1 (24:Int))∧
 let c8:=hH bT.1 (24:Int)
 (sB bT.1 (24:Int))∧
 let b7:=uf c8.1
 (BY c8.1)∧
 let v22:=hH b7.1 (20000:Int)
 sB b7.1 (20000:Int)
noncomputable def HC(x0:Int):Bool:=
 ((decide (x0≥97))&&(decide (x0≤122)))
noncomputable def iq(x0:ByteArray):Bool:=
 bif((decide ((ByteArray.size x0:Int)<1))||(decide ((ByteArray.size x0:Int)>24)))then
  false
 else
  Sum.elim (fun r=>r) (fun bR=>
   true)
  (c4 (fun(aV:Int)=>
   show Step (Bool) (Int)from
   let v9:Int:=cC.den .l7 x0 aV
   bif(cC.den .l6 x0 aV)then
    bif((!(HC v9))&&(((cC.den .l8 x0 aV)==0)||(((v9 != 95)&&(v9 != 45))&&((decide (v9<48))||(decide (v9>57))))))then
     .ret false
    else
     .bq (cC.den .kX x0 aV)
   else
    .cN aV) dU 0:Bool⊕(Int))
def nH(x0:ByteArray):Prop:=
 (((decide ((ByteArray.size x0:Int)<1))||(decide ((ByteArray.size x0:Int)>24)))=false→(
  ∃(bB:(Int)→Prop) (hb:(Int)→Nat),bB 0∧hb 0<dU∧∀(d0:Int),bB d0→(
   let v9:Int:=cC.den .l7 x0 d0
   ((cC.den .l6 x0 d0)=true→(
    (((!(HC v9))&&(((cC.den .l8 x0 d0)==0)||(((v9 != 95)&&(v9 != 45))&&((decide (v9<48))||(decide (v9>57))))))=false→(
     bB (cC.den .kX x0 d0)∧hb (cC.den .kX x0 d0)<hb d0)))))))
noncomputable def mP(x0:cn):cn × Int:=
 bif !x0.made then
  (x0,15)
 else
  (x0,x0.bad)
noncomputable def iH(x0:cn):cn × Int:=
 let v1:=mP x0
 bif(v1.2 != 0)then
  (v1.1,0)
 else
  Sum.elim (fun r=>r) (fun bR=>
   (v1.1,0))
  (bn (fun(i6:Nat) (aV:Int)=>
   show Step (cn × Int) (Int)from
   bif(decide ((IntKind.wrap .i64 (v1.1.at_+(i6:Int)))≥(ByteArray.size v1.1.s:Int)))then
    .ret (⟨v1.1.s,v1.1.at_,5,v1.1.made⟩,0)
   else
    let v12:Int:=ei v1.1.s (IntKind.wrap .i64 (v1.1.at_+(i6:Int)))
    bif(((decide ((i6:Int)>0))&&(v12==0))||(((i6:Int)==9)&&(decide (v12>1))))then
     .ret (⟨v1.1.s,v1.1.at_,4,v1.1.made⟩,0)
    else
     let v24:Int:=bz .or .u64 aV (bz .shl .u64 (IntKind.wrap .u64 (bz .rem .u8 v12 (128:Int))) (IntKind.wrap .i64 ((7:Int)*(i6:Int))))
     bif(decide (v12<128))then
      let iu:Int:=IntKind.wrap .i64 (bz .shr .u64 v24 (1:Int))
      let aM:Int→Step (cn × Int) (Int):=fun v30=>
       .ret (⟨v1.1.s,(IntKind.wrap .i64 ((IntKind.wrap .i64 (v1.1.at_+(i6:Int)))+(1:Int))),v1.1.bad,v1.1.made⟩,v30)
      bif((bz .rem .u64 v24 (2:Int))==1)then
       aM (IntKind.wrap .i64 (((-1):Int)-iu))
      else
       aM iu
     else
      .bq v24) 0 (Int.toNat (10:Int)) 0:(cn × Int)⊕(Int))
def q7(x0:cn):Prop:=
 let v1:=mP x0
 ((v1.2 != 0)=false→(
  ∃bB:Nat→(Int)→Prop,bB 0 0∧∀(i6:Nat) (d0:Int),i6<Int.toNat (10:Int)→bB i6 d0→(
   ((decide ((IntKind.wrap .i64 (v1.1.at_+(i6:Int)))≥(ByteArray.size v1.1.s:Int)))=false→(
    let v11:Int:=IntKind.wrap .i64 (v1.1.at_+(i6:Int))
    let v12:Int:=ei v1.1.s v11
    (0≤v11∧v11<(ByteArray.size v1.1.s:Int))∧
    ((((decide ((i6:Int)>0))&&(v12==0))||(((i6:Int)==9)&&(decide (v12>1))))=false→(
     let v21:Int:=IntKind.wrap .u64 (bz .rem .u8 v12 (128:Int))
     let v22:Int:=IntKind.wrap .i64 ((7:Int)*(i6:Int))
     (0≤v22)∧
     let v24:Int:=bz .or .u64 d0 (bz .shl .u64 v21 v22)
     ((decide (v12<128))=false→(
      bB (i6+1) v24)))))))))
noncomputable def yQ(x0:cn)(ar:Int):cn × Int:=
 let v2:=iH x0
 let aM:Int→cn × Int:=fun v5=>
  let bA:=mP v2.1
  bif(bA.2 != 0)then
   (bA.1,0)
  else
   bif(decide (v2.2<0))then
    (⟨bA.1.s,bA.1.at_,4,bA.1.made⟩,0)
   else
    bif(decide (v2.2>v5))then
     (⟨bA.1.s,bA.1.at_,3,bA.1.made⟩,0)
    else
     (bA.1,v2.2)
 bif(decide (ar<0))then
  aM (0:Int)
 else
  aM ar
def Gn(x0:cn)(ar:Int):Prop:=
 let v2:=iH x0
 q7 x0
noncomputable def iY(x0:cn)(ar:Int):cn × ByteArray:=
 let v2:=yQ x0 ar
 let v5:=mP v2.1
 bif(v5.2 != 0)then
  (v5.1,⟨#[]⟩)
 else
  bif(decide (v2.2>(IntKind.wrap .i64 ((ByteArray.size v5.1.s:Int)-v5.1.at_))))then
   (⟨v5.1.s,v5.1.at_,5,v5.1.made⟩,⟨#[]⟩)
  else
   (⟨v5.1.s,(IntKind.wrap .i64 (v5.1.at_+v2.2)),v5.1.bad,v5.1.made⟩,(mU v5.1.s (some v5.1.at_) (some (IntKind.wrap .i64 (v5.1.at_+v2.2)))))
def uk(x0:cn)(ar:Int):Prop:=
 let v2:=yQ x0 ar
 (Gn x0 ar)∧
 let v5:=mP v2.1
 ((v5.2 != 0)=false→(
  ((decide (v2.2>(IntKind.wrap .i64 ((ByteArray.size v5.1.s:Int)-v5.1.at_))))=false→(
   let v12:Int:=IntKind.wrap .i64 (v5.1.at_+v2.2)
   iZ (ByteArray.size v5.1.s) (some v5.1.at_) (some v12)))))
noncomputable def pR(x0:cd):Int:=
 let bN:Int→Int→Int:=fun v1 v2=>
  bif((decide (x0.n<v1))||(decide (x0.n>v2)))then
   2
  else
   bif(decide ((ByteArray.size x0.s:Int)>60))then
    3
   else
    bif((cM .neq x0.s (⟨#[]⟩:ByteArray))&&(x0.kind != 4))then
     4
    else
     0
 let aM:Bool→Int:=fun v1=>
  bif v1 then
   bN (0:Int) (0:Int)
  else
   bif(x0.kind==1)then
    bN (0:Int) (1:Int)
   else
    bif(x0.kind==2)then
     bN ((-1099511627776):Int) (1099511627776:Int)
    else
     bif(x0.kind==3)then
      bN (0:Int) (63:Int)
     else
      7
 let v1:=x0.kind==0
 bif v1 then
  aM v1
 else
  aM (x0.kind==4)
noncomputable def BW(x0:cn)(ar:Int):cn:=
 let v2:=mP x0
 bif(v2.2==0)then
  ⟨v2.1.s,v2.1.at_,ar,v2.1.made⟩
 else
  v2.1
noncomputable def uh(x0:cn):cn × cd:=
 let v1:=iH x0
 let aM:ByteArray→ByteArray→Int→Int→Bool→cn × cd:=fun v5 v6 bA bx v9=>
  let aM:Int→ByteArray→Int→Int→Bool→cn × cd:=fun bT fv eS c8 dM=>
   let bN:ByteArray→Int→Int→Bool→cn × cd:=fun v22 v23 v24 v25=>
    let v26:=mP ⟨v22,v23,v24,v25⟩
    bif(v26.2 != 0)then
     (v26.1,⟨0,0,⟨#[]⟩⟩)
    else
     (v26.1,⟨v1.2,bT,v5⟩)
   let ea:=mP ⟨fv,eS,c8,dM⟩
   let v21:=ea.2==0
   let aM:Int→cn × cd:=fun v22=>
    bif(v21&&(v22 != 0))then
     let v25:=BW ea.1 (4:Int)
     bN v25.s v25.at_ v25.bad v25.made
    else
     bN ea.1.s ea.1.at_ ea.1.bad ea.1.made
   bif v21 then
    aM (pR ⟨v1.2,bT,v5⟩)
   else
    aM (0:Int)
  bif((decide (v1.2≥1))&&(decide (v1.2≤3)))then
   let bT:=iH ⟨v6,bA,bx,v9⟩
   aM bT.2 bT.1.s bT.1.at_ bT.1.bad bT.1.made
  else
   aM (0:Int) v6 bA bx v9
 bif(v1.2==4)then
  let v5:=iY v1.1 (60:Int)
  aM v5.2 v5.1.s v5.1.at_ v5.1.bad v5.1.made
 else
  aM (⟨#[]⟩:ByteArray) v1.1.s v1.1.at_ v1.1.bad v1.1.made
def B1(x0:cn):Prop:=
 let v1:=iH x0
 (q7 x0)∧
 let aM:ByteArray→ByteArray→Int→Int→Bool→Prop:=fun v5 v6 bA bx v9=>
  (((decide (v1.2≥1))&&(decide (v1.2≤3)))=true→(
   let bT:=iH ⟨v6,bA,bx,v9⟩
   q7 ⟨v6,bA,bx,v9⟩))
 ((v1.2==4)=true→(
  let v5:=iY v1.1 (60:Int)
  (uk v1.1 (60:Int))∧
  aM v5.2 v5.1.s v5.1.at_ v5.1.bad v5.1.made))∧((v1.2==4)=false→(
  aM (⟨#[]⟩:ByteArray) v1.1.s v1.1.at_ v1.1.bad v1.1.made))
noncomputable def BX(x0:cn):cn × Int:=
 let v1:=mP x0
 bif(v1.2 != 0)then
  let v5:=mP v1.1
  (v5.1,v5.2)
 else
  bif(decide (v1.1.at_<(ByteArray.size v1.1.s:Int)))then
   (v1.1,23)
  else
   (v1.1,0)
noncomputable def yT(x0:ByteArray):bs × Int:=
 let v1:=iH ⟨x0,0,0,true⟩
 let v4:=iH v1.1
 let bA:=iH v4.1
 let v10:=iY bA.1 (24:Int)
 let bT:=iY v10.1 (24:Int)
 let c8:=iY bT.1 (24:Int)
 let b7:=uh c8.1
 let v22:=iY b7.1 (20000:Int)
 let v25:=BX v22.1
 bif(v25.2 != 0)then
  (⟨0,0,⟨0,⟨#[]⟩,⟨#[]⟩⟩,⟨#[]⟩,⟨0,0,⟨#[]⟩⟩,⟨#[]⟩⟩,v25.2)
 else
  bif((decide (v1.2<1))||(decide (v1.2>7)))then
   (⟨0,0,⟨0,⟨#[]⟩,⟨#[]⟩⟩,⟨#[]⟩,⟨0,0,⟨#[]⟩⟩,⟨#[]⟩⟩,7)
  else
   bif((decide (v4.2<0))||(decide (v4.2>1099511627776)))then
    (⟨0,0,⟨0,⟨#[]⟩,⟨#[]⟩⟩,⟨#[]⟩,⟨0,0,⟨#[]⟩⟩,⟨#[]⟩⟩,2)
   else
    (⟨v1.2,v4.2,⟨bA.2,v10.2,bT.2⟩,c8.2,⟨b7.2.kind,b7.2.n,b7.2.s⟩,v22.2⟩,0)
def B2(x0:ByteArray):Prop:=
 let v1:=iH ⟨x0,0,0,true⟩
 (q7 ⟨x0,0,0,true⟩)∧
 let v4:=iH v1.1
 (q7 v1.1)∧
 let bA:=iH v4.1
 (q7 v4.1)∧
 let v10:=iY bA.1 (24:Int)
 (uk bA.1 (24:Int))∧
 let bT:=iY v10.1 (24:Int)
 (uk v10.1 (24:Int))∧
 let c8:=iY bT.1 (24:Int)
 (uk bT.1 (24:Int))∧
 let b7:=uh c8.1
 (B1 c8.1)∧
 let v22:=iY b7.1 (20000:Int)
 uk b7.1 (20000:Int)
noncomputable def fA(x0:Int):ByteArray:=
 let v2:Int:=bz .shl .u64 (IntKind.wrap .u64 x0) (1:Int)
 let aM:Int→ByteArray:=fun v3=>
  Sum.elim (fun r=>r) (fun bR=>
   (bytesOf (List.append bR.2 ([(IntKind.wrap .u8 bR.1)]:List Int))))
  (c4 (fun(aV:Int × (List Int))=>
   show Step (ByteArray) (Int × (List Int))from
   bif(decide (aV.1≥128))then
    .bq ((bz .quo .u64 aV.1 (128:Int)),(List.append aV.2 ([(IntKind.wrap .u8 ((IntKind.wrap .u8 (bz .rem .u64 aV.1 (128:Int)))+(128:Int)))]:List Int)))
   else
    .cN (aV.1,aV.2)) dU (v3,[]):ByteArray⊕(Int × (List Int)))
 bif(decide (x0<0))then
  aM (gF.den (.uL .u64) v2)
 else
  aM v2
def iF(x0:Int):Prop:=
 let v2:Int:=bz .shl .u64 (IntKind.wrap .u64 x0) (1:Int)
 let aM:Int→Prop:=fun v3=>
  let aW:(Int × (List Int))→Prop:=fun bR=>
   let bx:List Int:=([(IntKind.wrap .u8 bR.1)]:List Int)
   List.length bR.2+List.length bx≤maxLen∧(List.length bR.2+List.length bx)*1≤140737488355328
  ∃(bB:(Int × (List Int))→Prop) (hb:(Int × (List Int))→Nat),bB (v3,[])∧hb (v3,[])<dU∧∀(d0:Int × (List Int)),bB d0→(
   ((decide (d0.1≥128))=true→(
    let v11:List Int:=([(IntKind.wrap .u8 ((IntKind.wrap .u8 (bz .rem .u64 d0.1 (128:Int)))+(128:Int)))]:List Int)
    (List.length d0.2+List.length v11≤maxLen∧(List.length d0.2+List.length v11)*1≤140737488355328)∧
    bB ((bz .quo .u64 d0.1 (128:Int)),(List.append d0.2 v11))∧hb ((bz .quo .u64 d0.1 (128:Int)),(List.append d0.2 v11))<hb d0))∧((decide (d0.1≥128))=false→(
    aW (d0.1,d0.2))))
 ((decide (x0<0))=true→(
  aM (gF.den (.uL .u64) v2)))∧((decide (x0<0))=false→(
  aM v2))
noncomputable def iG(x0:ByteArray):ByteArray:=
 (ByteArray.append (fA (ByteArray.size x0:Int)) x0)
def pQ(x0:ByteArray):Prop:=
 let v1:Int:=(ByteArray.size x0:Int)
 let v2:=fA v1
 (iF v1)∧
 ByteArray.size v2+ByteArray.size x0≤9223372036854775807
noncomputable def uo(x0:cd):ByteArray:=
 let aM:Int→Int→ByteArray→ByteArray:=fun v3 v4 v5=>
  bif(v3==0)then
   (fA (0:Int))
  else
   bif(v3==4)then
    (ByteArray.append (fA v3) (iG v5))
   else
    (ByteArray.append (fA v3) (fA v4))
 bif((pR x0) != 0)then
  aM (0:Int) (0:Int) (⟨#[]⟩:ByteArray)
 else
  aM x0.kind x0.n x0.s
def Gr(x0:cd):Prop:=
 let aM:Int→Int→ByteArray→Prop:=fun v3 v4 v5=>
  ((v3==0)=true→(
   iF (0:Int)))∧((v3==0)=false→(
   ((v3==4)=true→(
    let bx:=fA v3
    (iF v3)∧
    let v9:=iG v5
    (pQ v5)∧
    ByteArray.size bx+ByteArray.size v9≤9223372036854775807))∧((v3==4)=false→(
    let bx:=fA v3
    (iF v3)∧
    let v9:=fA v4
    (iF v4)∧
    ByteArray.size bx+ByteArray.size v9≤9223372036854775807))))
 (((pR x0) != 0)=true→(
  aM (0:Int) (0:Int) (⟨#[]⟩:ByteArray)))∧(((pR x0) != 0)=false→(
  aM x0.kind x0.n x0.s))
noncomputable def yV(x0:bs):ByteArray:=
 let bT:=ByteArray.append (ByteArray.append (ByteArray.append (ByteArray.append (ByteArray.append (ByteArray.append (fA x0.kind) (fA x0.dy)) (fA x0.key.dev)) (iG x0.key.dk)) (iG x0.key.attr)) (iG x0.name)) (uo ⟨x0.value.kind,x0.value.n,x0.value.s⟩)
 (ByteArray.append bT (iG x0.text))
def Gt(x0:bs):Prop:=
 let v1:=fA x0.kind
 (iF x0.kind)∧
 let v2:=fA x0.dy
 (iF x0.dy)∧
 let v3:=ByteArray.append v1 v2
 (ByteArray.size v1+ByteArray.size v2≤9223372036854775807)∧
 let v4:=fA x0.key.dev
 (iF x0.key.dev)∧
 let v5:=ByteArray.append v3 v4
 (ByteArray.size v3+ByteArray.size v4≤9223372036854775807)∧
 let v6:=iG x0.key.dk
 (pQ x0.key.dk)∧
 let bA:=ByteArray.append v5 v6
 (ByteArray.size v5+ByteArray.size v6≤9223372036854775807)∧
 let bx:=iG x0.key.attr
 (pQ x0.key.attr)∧
 let v9:=ByteArray.append bA bx
 (ByteArray.size bA+ByteArray.size bx≤9223372036854775807)∧
 let v10:=iG x0.name
 (pQ x0.name)∧
 let v11:=ByteArray.append v9 v10
 (ByteArray.size v9+ByteArray.size v10≤9223372036854775807)∧
 let v12:=uo ⟨x0.value.kind,x0.value.n,x0.value.s⟩
 (Gr ⟨x0.value.kind,x0.value.n,x0.value.s⟩)∧
 let bT:=ByteArray.append v11 v12
 (ByteArray.size v11+ByteArray.size v12≤9223372036854775807)∧
 let fv:=iG x0.text
 (pQ x0.text)∧
 ByteArray.size bT+ByteArray.size fv≤9223372036854775807
noncomputable def jW(x0:ByteArray):Bool:=
 let v3:Int:=(ByteArray.size x0:Int)
 bif((decide ((ByteArray.size x0:Int)<1))||(decide (v3>24)))then
  false
 else
  Sum.elim (fun r=>r) (fun bR=>
   true)
  (bn (fun(i6:Nat) (aV:Unit)=>
   show Step (Bool) (Unit)from
   let bx:Int:=ei x0 (i6:Int)
   bif((!((decide (bx≥97))&&(decide (bx≤122))))&&(((i6:Int)==0)||(((bx != 95)&&(bx != 45))&&((decide (bx<48))||(decide (bx>57))))))then
    .ret false
   else
    .bq ()) 0 (Int.toNat v3) ():Bool⊕(Unit))
def p0(x0:ByteArray):Prop:=
 let v3:Int:=(ByteArray.size x0:Int)
 (((decide ((ByteArray.size x0:Int)<1))||(decide (v3>24)))=false→(
  0≤v3∧v3<(9223372036854775808:Int)))
noncomputable def Qw(x0:ByteArray):ByteArray:=
 let v1:Int:=(ByteArray.size x0:Int)
 Sum.elim (fun r=>r) (fun bR=>
  (bytesOf bR))
 (bn (fun(i3:Nat) (aV:(List Int))=>
  show Step (ByteArray) ((List Int))from
  let v11:List Int:=([(ei (⟨#[48,49,50,51,52,53,54,55,56,57,97,98,99,100,101,102]⟩:ByteArray) (bz .quo .u8 (ei x0 (i3:Int)) (16:Int))),(ei (⟨#[48,49,50,51,52,53,54,55,56,57,97,98,99,100,101,102]⟩:ByteArray) (bz .rem .u8 (ei x0 (i3:Int)) (16:Int)))]:List Int)
  .bq (List.append aV v11)) 0 (Int.toNat v1) []:ByteArray⊕((List Int)))
def G8(x0:ByteArray):Prop:=
 let v1:Int:=(ByteArray.size x0:Int)
 (0≤v1∧v1<(9223372036854775808:Int))∧
 ∃bB:Nat→((List Int))→Prop,bB 0 []∧∀(i3:Nat) (d0:(List Int)),i3<Int.toNat v1→bB i3 d0→(
  let v6:Int:=bz .quo .u8 (ei x0 (i3:Int)) (16:Int)
  (0≤v6∧v6<(ByteArray.size (⟨#[48,49,50,51,52,53,54,55,56,57,97,98,99,100,101,102]⟩:ByteArray):Int))∧
  let v9:Int:=bz .rem .u8 (ei x0 (i3:Int)) (16:Int)
  (0≤v9∧v9<(ByteArray.size (⟨#[48,49,50,51,52,53,54,55,56,57,97,98,99,100,101,102]⟩:ByteArray):Int))∧
  let v11:List Int:=([(ei (⟨#[48,49,50,51,52,53,54,55,56,57,97,98,99,100,101,102]⟩:ByteArray) v6),(ei (⟨#[48,49,50,51,52,53,54,55,56,57,97,98,99,100,101,102]⟩:ByteArray) v9)]:List Int)
  (List.length d0+List.length v11≤maxLen∧(List.length d0+List.length v11)*1≤140737488355328)∧
  bB (i3+1) (List.append d0 v11))
noncomputable def Cd(x0:Int):Int:=
 (cC.den (.uM .i64) (cC.den (.mx .i64) x0 ((-1099511627776):Int)) (1099511627776:Int))
noncomputable def zx(x0:Int):Int:=
 Sum.elim (fun r=>r) (fun bR=>
  (-1))
 (bn (fun(i17:Nat) (aV:Unit)=>
  show Step (Int) (Unit)from
  let b7:Int:=HA ([(ei (⟨#[48,49,50,51,52,53,54,55,56,57,97,98,99,100,101,102]⟩:ByteArray) (0:Int)),(ei (⟨#[48,49,50,51,52,53,54,55,56,57,97,98,99,100,101,102]⟩:ByteArray) (1:Int)),(ei (⟨#[48,49,50,51,52,53,54,55,56,57,97,98,99,100,101,102]⟩:ByteArray) (2:Int)),(ei (⟨#[48,49,50,51,52,53,54,55,56,57,97,98,99,100,101,102]⟩:ByteArray) (3:Int)),(ei (⟨#[48,49,50,51,52,53,54,55,56,57,97,98,99,100,101,102]⟩:ByteArray) (4:Int)),(ei (⟨#[48,49,50,51,52,53,54,55,56,57,97,98,99,100,101,102]⟩:ByteArray) (5:Int)),(ei (⟨#[48,49,50,51,52,53,54,55,56,57,97,98,99,100,101,102]⟩:ByteArray) (6:Int)),(ei (⟨#[48,49,50,51,52,53,54,55,56,57,97,98,99,100,101,102]⟩:ByteArray) (7:Int)),(ei (⟨#[48,49,50,51,52,53,54,55,56,57,97,98,99,100,101,102]⟩:ByteArray) (8:Int)),(ei (⟨#[48,49,50,51,52,53,54,55,56,57,97,98,99,100,101,102]⟩:ByteArray) (9:Int)),(ei (⟨#[48,49,50,51,52,53,54,55,56,57,97,98,99,100,101,102]⟩:ByteArray) (10:Int)),(ei (⟨#[48,49,50,51,52,53,54,55,56,57,97,98,99,100,101,102]⟩:ByteArray) (11:Int)),(ei (⟨#[48,49,50,51,52,53,54,55,56,57,97,98,99,100,101,102]⟩:ByteArray) (12:Int)),(ei (⟨#[48,49,50,51,52,53,54,55,56,57,97,98,99,100,101,102]⟩:ByteArray) (13:Int)),(ei (⟨#[48,49,50,51,52,53,54,55,56,57,97,98,99,100,101,102]⟩:ByteArray) (14:Int)),(ei (⟨#[48,49,50,51,52,53,54,55,56,57,97,98,99,100,101,102]⟩:ByteArray) (15:Int))]:List Int) (Int.toNat (i17:Int))
  bif(b7==x0)then
   .ret (i17:Int)
  else
   .bq ()) 0 (Int.toNat (16:Int)) ():Int⊕(Unit))
def zh(x0:Int):Prop:=
 (0≤(0:Int)∧(0:Int)<(ByteArray.size (⟨#[48,49,50,51,52,53,54,55,56,57,97,98,99,100,101,102]⟩:ByteArray):Int))∧
 (0≤(1:Int)∧(1:Int)<(ByteArray.size (⟨#[48,49,50,51,52,53,54,55,56,57,97,98,99,100,101,102]⟩:ByteArray):Int))∧
 (0≤(2:Int)∧(2:Int)<(ByteArray.size (⟨#[48,49,50,51,52,53,54,55,56,57,97,98,99,100,101,102]⟩:ByteArray):Int))∧
 (0≤(3:Int)∧(3:Int)<(ByteArray.size (⟨#[48,49,50,51,52,53,54,55,56,57,97,98,99,100,101,102]⟩:ByteArray):Int))∧
 (0≤(4:Int)∧(4:Int)<(ByteArray.size (⟨#[48,49,50,51,52,53,54,55,56,57,97,98,99,100,101,102]⟩:ByteArray):Int))∧
 (0≤(5:Int)∧(5:Int)<(ByteArray.size (⟨#[48,49,50,51,52,53,54,55,56,57,97,98,99,100,101,102]⟩:ByteArray):Int))∧
 (0≤(6:Int)∧(6:Int)<(ByteArray.size (⟨#[48,49,50,51,52,53,54,55,56,57,97,98,99,100,101,102]⟩:ByteArray):Int))∧
 (0≤(7:Int)∧(7:Int)<(ByteArray.size (⟨#[48,49,50,51,52,53,54,55,56,57,97,98,99,100,101,102]⟩:ByteArray):Int))∧
 (0≤(8:Int)∧(8:Int)<(ByteArray.size (⟨#[48,49,50,51,52,53,54,55,56,57,97,98,99,100,101,102]⟩:ByteArray):Int))∧
 (0≤(9:Int)∧(9:Int)<(ByteArray.size (⟨#[48,49,50,51,52,53,54,55,56,57,97,98,99,100,101,102]⟩:ByteArray):Int))∧
 (0≤(10:Int)∧(10:Int)<(ByteArray.size (⟨#[48,49,50,51,52,53,54,55,56,57,97,98,99,100,101,102]⟩:ByteArray):Int))∧
 (0≤(11:Int)∧(11:Int)<(ByteArray.size (⟨#[48,49,50,51,52,53,54,55,56,57,97,98,99,100,101,102]⟩:ByteArray):Int))∧
 (0≤(12:Int)∧(12:Int)<(ByteArray.size (⟨#[48,49,50,51,52,53,54,55,56,57,97,98,99,100,101,102]⟩:ByteArray):Int))∧
 (0≤(13:Int)∧(13:Int)<(ByteArray.size (⟨#[48,49,50,51,52,53,54,55,56,57,97,98,99,100,101,102]⟩:ByteArray):Int))∧
 (0≤(14:Int)∧(14:Int)<(ByteArray.size (⟨#[48,49,50,51,52,53,54,55,56,57,97,98,99,100,101,102]⟩:ByteArray):Int))∧
 0≤(15:Int)∧(15:Int)<(ByteArray.size (⟨#[48,49,50,51,52,53,54,55,56,57,97,98,99,100,101,102]⟩:ByteArray):Int)
noncomputable def oO(x0:ByteArray):ByteArray × Int:=
 let v1:Int:=(ByteArray.size x0:Int)
 bif((bz .rem .i64 v1 (2:Int)) != 0)then
  (⟨#[]⟩,4)
 else
  Sum.elim (fun r=>r) (fun bR=>
   ((bytesOf bR.2),0))
  (c4 (fun(aV:Int × (List Int))=>
   show Step (ByteArray × Int) (Int × (List Int))from
   bif(decide (aV.1<v1))then
    let v12:=zx (ei x0 aV.1)
    let bT:=zx (ei x0 (IntKind.wrap .i64 (aV.1+(1:Int))))
    bif((decide (v12<0))||(decide (bT<0)))then
     .ret (⟨#[]⟩,4)
    else
     .bq ((IntKind.wrap .i64 (aV.1+(2:Int))),(List.append aV.2 ([(IntKind.wrap .u8 (IntKind.wrap .i64 ((IntKind.wrap .i64 ((16:Int)*v12))+bT)))]:List Int)))
   else
    .cN (aV.1,aV.2)) dU (0,(List.replicate (Int.toNat (0:Int)) (aA .u8))):(ByteArray × Int)⊕(Int × (List Int)))
def CE(x0:ByteArray):Prop:=
 let v1:Int:=(ByteArray.size x0:Int)
 (((bz .rem .i64 v1 (2:Int)) != 0)=false→(
  (0≤(0:Int)∧(0:Int)≤(bz .quo .i64 v1 (2:Int))∧(bz .quo .i64 v1 (2:Int))≤(maxLen:Int)∧(1:Int)*(bz .quo .i64 v1 (2:Int))≤281474976710656)∧
  ∃(bB:(Int × (List Int))→Prop) (hb:(Int × (List Int))→Nat),bB (0,(List.replicate (Int.toNat (0:Int)) (aA .u8)))∧hb (0,(List.replicate (Int.toNat (0:Int)) (aA .u8)))<dU∧∀(d0:Int × (List Int)),bB d0→(
   ((decide (d0.1<v1))=true→(
    let v9:Int:=ei x0 d0.1
    (0≤d0.1∧d0.1<(ByteArray.size x0:Int))∧
    let v10:Int:=IntKind.wrap .i64 (d0.1+(1:Int))
    let v11:Int:=ei x0 v10
    (0≤v10∧v10<(ByteArray.size x0:Int))∧
    let v12:=zx v9
    (zh v9)∧
    let bT:=zx v11
    (zh v11)∧
    (((decide (v12<0))||(decide (bT<0)))=false→(
     let v20:List Int:=([(IntKind.wrap .u8 (IntKind.wrap .i64 ((IntKind.wrap .i64 ((16:Int)*v12))+bT)))]:List Int)
     (List.length d0.2+List.length v20≤maxLen∧(List.length d0.2+List.length v20)*1≤140737488355328)∧
     bB ((IntKind.wrap .i64 (d0.1+(2:Int))),(List.append d0.2 v20))∧hb ((IntKind.wrap .i64 (d0.1+(2:Int))),(List.append d0.2 v20))<hb d0)))))))
noncomputable def mS(x0:List ByteArray)(ar:ByteArray):Int:=
 let v2:Int:=(List.length x0:Int)
 Sum.elim (fun r=>r) (fun bR=>
  (-1))
 (bn (fun(i3:Nat) (aV:Unit)=>
  show Step (Int) (Unit)from
  bif(cM .eql ar (List.getD x0 (Int.toNat (i3:Int)) (aA .str)))then
   .ret (i3:Int)
  else
   .bq ()) 0 (Int.toNat v2) ():Int⊕(Unit))
noncomputable def iJ(x0:List ByteArray)(ar:ByteArray):Bool:=
 (decide ((mS x0 ar)≥0))
noncomputable def p2(x0:List ByteArray)(ar:ByteArray):Int:=
 (mS x0 ar)
noncomputable def wj(x0:List ByteArray):Int:=
 let v3:Int:=(List.length x0:Int)
 bif((decide ((List.length x0:Int)<1))||(decide (v3>64)))then
  3
 else
  Sum.elim (fun r=>r) (fun bR=>
   0)
  (bn (fun(i6:Nat) (aV:Unit)=>
   show Step (Int) (Unit)from
   let bx:ByteArray:=List.getD x0 (Int.toNat (i6:Int)) (aA .str)
   bif(!(iq bx))then
    .ret 10
   else
    bif(decide ((p2 x0 bx)<(i6:Int)))then
     .ret 9
    else
     .bq ()) 0 (Int.toNat v3) ():Int⊕(Unit))
def B6(x0:List ByteArray):Prop:=
 let v3:Int:=(List.length x0:Int)
 (((decide ((List.length x0:Int)<1))||(decide (v3>64)))=false→(
  ∃bB:Nat→(Unit)→Prop,bB 0 ()∧∀(i6:Nat) (d0:Unit),i6<Int.toNat v3→bB i6 d0→(
   let bx:ByteArray:=List.getD x0 (Int.toNat (i6:Int)) (aA .str)
   (nH bx)∧
   ((!(iq bx))=false→(
    ((decide ((p2 x0 bx)<(i6:Int)))=false→(
     bB (i6+1) ())))))))
noncomputable def kY(x0:Attr):Int:=
 bif(!(iq x0.name))then
  10
 else
  bif((decide (x0.kind<1))||(decide (x0.kind>4)))then
   7
  else
   let bN:Int:=
    bif(x0.kind==3)then
     (wj x0.enum)
    else
     bif(decide ((List.length x0.enum:Int)>0))then
      4
     else
      0
   bif(x0.kind==2)then
    let bx:=!(sz x0.min)
    let aM:Bool→Int:=fun v9=>
     bif((bx||(!v9))||(decide (x0.min>x0.max)))then
      2
     else
      bN
    bif bx then
     aM false
    else
     aM (sz x0.max)
   else
    bif((x0.min != 0)||(x0.max != 0))then
     2
    else
     bN
def wi(x0:Attr):Prop:=
 (nH x0.name)∧
 ((!(iq x0.name))=false→(
  (((decide (x0.kind<1))||(decide (x0.kind>4)))=false→(
   let bN:Prop:=
    ((x0.kind==3)=true→(
     B6 x0.enum))
   ((x0.kind==2)=true→(
    let bx:=!(sz x0.min)
    let aM:Bool→Prop:=fun v9=>
     (((bx||(!v9))||(decide (x0.min>x0.max)))=false→(
      bN))
    (bx=true→(
     aM false))∧(bx=false→(
     aM (sz x0.max)))))∧((x0.kind==2)=false→(
    (((x0.min != 0)||(x0.max != 0))=false→(
     bN))))))))
noncomputable def oK(x0:aJ):Bool:=
 let v1:Int:=(List.length x0.commands:Int)
 Sum.elim (fun r=>r) (fun bR=>
  (((decide ((List.length x0.attrs:Int)>12))||(decide ((List.length x0.commands:Int)>12)))||(decide ((List.length x0.events:Int)>12))))
 (bn (fun(i2:Nat) (aV:Unit)=>
  show Step (Bool) (Unit)from
  bif(decide ((List.length ((List.getD x0.commands (Int.toNat (i2:Int)) (aA .Command)).gh):Int)>12))then
   .ret true
  else
   .bq ()) 0 (Int.toNat v1) ():Bool⊕(Unit))
noncomputable def uu(x0:Attr):Bool:=
 (((((((cM .eql x0.name (⟨#[]⟩:ByteArray))&&(x0.kind==0))&&(x0.min==0))&&(x0.max==0))&&((List.length x0.enum:Int)==0))&&(!x0.fB))&&(!x0.safety))
def C6(x:List ByteArray):List ByteArray:=x
def wh(x:List ByteArray):Prop:=x.length≤maxLen∧x.length*16≤140737488355328
noncomputable def sF(x0:aJ)(ar:ByteArray):Attr × Bool:=
 let v2:Int:=(List.length x0.attrs:Int)
 Sum.elim (fun r=>r) (fun bR=>
  (⟨⟨#[]⟩,0,0,0,[],false,false⟩,false))
 (bn (fun(i3:Nat) (aV:Unit)=>
  show Step (Attr × Bool) (Unit)from
  let v5:Attr:=List.getD x0.attrs (Int.toNat (i3:Int)) (aA .Attr)
  bif(cM .eql v5.name ar)then
   .ret (⟨v5.name,v5.kind,v5.min,v5.max,(C6 v5.enum),v5.fB,v5.safety⟩,true)
  else
   .bq ()) 0 (Int.toNat v2) ():(Attr × Bool)⊕(Unit))
def yX(x0:aJ)(ar:ByteArray):Prop:=
 let v2:Int:=(List.length x0.attrs:Int)
 ∃bB:Nat→(Unit)→Prop,bB 0 ()∧∀(i3:Nat) (d0:Unit),i3<Int.toNat v2→bB i3 d0→(
  let v5:Attr:=List.getD x0.attrs (Int.toNat (i3:Int)) (aA .Attr)
  ((cM .eql v5.name ar)=true→(
   wh v5.enum))∧((cM .eql v5.name ar)=false→(
   bB (i3+1) ())))
noncomputable def wo(x0:Attr)(ar:cd):Int:=
 let v2:=kY x0
 bif(v2 != 0)then
  v2
 else
  let v4:=ku ar
  bif(v4 != 0)then
   v4
  else
   bif(ar.kind != x0.kind)then
    11
   else
    let aM:Bool→Int:=fun bA=>
     bif bA then
      2
     else
      0
    let v11:Bool:=(ar.kind==2)&&((decide (ar.n<x0.min))||(decide (ar.n>x0.max)))
    bif v11 then
     aM v11
    else
     aM ((ar.kind==3)&&(decide (ar.n≥(List.length x0.enum:Int))))
def yW(x0:Attr)(ar:cd):Prop:=
 let v2:=kY x0
 wi x0
noncomputable def y3(x0:List ByteArray)(ar:List ByteArray):Bool:=
 let v2:Int:=(List.length x0:Int)
 bif(v2 != (List.length ar:Int))then
  false
 else
  Sum.elim (fun r=>r) (fun bR=>
   true)
  (bn (fun(i5:Nat) (aV:Unit)=>
   show Step (Bool) (Unit)from
   bif(cM .neq (List.getD x0 (Int.toNat (i5:Int)) (aA .str)) (List.getD ar (Int.toNat (i5:Int)) (aA .str)))then
    .ret false
   else
    .bq ()) 0 (Int.toNat v2) ():Bool⊕(Unit))
def Gx(x0:List ByteArray)(ar:List ByteArray):Prop:=
 let v2:Int:=(List.length x0:Int)
 ((v2 != (List.length ar:Int))=false→(
  ∃bB:Nat→(Unit)→Prop,bB 0 ()∧∀(i5:Nat) (d0:Unit),i5<Int.toNat v2→bB i5 d0→(
   (0≤(i5:Int)∧(i5:Int)<(List.length ar:Int))∧
   ((cM .neq (List.getD x0 (Int.toNat (i5:Int)) (aA .str)) (List.getD ar (Int.toNat (i5:Int)) (aA .str)))=false→(
    bB (i5+1) ())))))
noncomputable def Ce(x0:Attr)(ar:Attr):Bool:=
 let v2:=x0.kind==ar.kind
 let aM:Bool→Bool:=fun v3=>
  (v2&&v3)
 bif v2 then
  aM (y3 x0.enum ar.enum)
 else
  aM false
def Gy(x0:Attr)(ar:Attr):Prop:=
 let v2:=x0.kind==ar.kind
 (v2=true→(
  Gx x0.enum ar.enum))
noncomputable def Cg(x0:cO)(ar:Attr)(b6:Attr):Bool:=
 bif(x0.kind==1)then
  let v4:=ar.kind != 4
  let aM:Int→Bool:=fun v5=>
   (v4&&(v5==0))
  bif v4 then
   aM (wo ar ⟨ar.kind,x0.n,⟨#[]⟩⟩)
  else
   aM (0:Int)
 else
  bif(x0.kind==2)then
   (Ce ar b6)
  else
   bif(x0.kind==3)then
    (ar.kind==2)
   else
    (ar.kind==1)
def B8(x0:cO)(ar:Attr)(b6:Attr):Prop:=
 ((x0.kind==1)=true→(
  let v4:=ar.kind != 4
  (v4=true→(
   yW ar ⟨ar.kind,x0.n,⟨#[]⟩⟩))))∧((x0.kind==1)=false→(
  ((x0.kind==2)=true→(
   Gy ar b6))))
noncomputable def p4(x0:aJ)(ar:Attr)(b6:cO):Int:=
 bif((decide (b6.kind<1))||(decide (b6.kind>4)))then
  7
 else
  let v6:=sF x0 b6.attr
  bif !v6.2 then
   8
  else
   bif !v6.1.fB then
    24
   else
    bif(!(Cg b6 v6.1 ar))then
     11
    else
     let bT:=b6.kind==3
     let aM:Int→Int:=fun fv=>
      bif(bT&&(fv != b6.n))then
       2
      else
       bif(((b6.kind==2)||(b6.kind==4))&&(b6.n != 0))then
        4
       else
        0
     bif bT then
      aM (Cd b6.n)
     else
      aM (0:Int)
def B9(x0:aJ)(ar:Attr)(b6:cO):Prop:=
 (((decide (b6.kind<1))||(decide (b6.kind>4)))=false→(
  let v6:=sF x0 b6.attr
  (yX x0 b6.attr)∧
  ((!v6.2)=false→(
   ((!v6.1.fB)=false→(
    B8 b6 v6.1 ar))))))
noncomputable def rf(x0:aJ)(ar:Int):Int:=
 let v2:Command:=List.getD x0.commands (Int.toNat ar) (aA .Command)
 bif(!(iq v2.name))then
  10
 else
  let v5:=iK x0.commands none (some ar)
  let v6:Int:=(List.length v5:Int)
  Sum.elim (fun r=>r) (fun bR=>
   let aM:Int:=
    let bx:Int:=(List.length v2.gh:Int)
    Sum.elim (fun r=>r) (fun aV=>
     0)
    (bn (fun(i9:Nat) (dp:Unit)=>
     show Step (Int) (Unit)from
     let v11:cO:=List.getD v2.gh (Int.toNat (i9:Int)) (aA .cO)
     let v12:=p4 x0 ⟨v2.param.name,v2.param.kind,v2.param.min,v2.param.max,v2.param.enum,v2.param.fB,v2.param.safety⟩ v11
     bif(v12 != 0)then
      .ret v12
     else
      .bq ()) 0 (Int.toNat bx) ():Int⊕(Unit))
   bif(v2.param.kind==0)then
    bif(!(uu ⟨v2.param.name,v2.param.kind,v2.param.min,v2.param.max,v2.param.enum,v2.param.fB,v2.param.safety⟩))then
     4
    else
     aM
   else
    let bx:=kY ⟨v2.param.name,v2.param.kind,v2.param.min,v2.param.max,v2.param.enum,v2.param.fB,v2.param.safety⟩
    bif(bx != 0)then
     bx
    else
     aM)
  (bn (fun(i7:Nat) (c7:Unit)=>
   show Step (Int) (Unit)from
   bif(cM .eql ((List.getD v5 (Int.toNat (i7:Int)) (aA .Command)).name) v2.name)then
    .ret 9
   else
    .bq ()) 0 (Int.toNat v6) ():Int⊕(Unit))
def Ca(x0:aJ)(ar:Int):Prop:=
 let v2:Command:=List.getD x0.commands (Int.toNat ar) (aA .Command)
 (0≤ar∧ar<(List.length x0.commands:Int))∧
 (nH v2.name)∧
 ((!(iq v2.name))=false→(
  let v5:=iK x0.commands none (some ar)
  (iZ (List.length x0.commands) none (some ar))∧
  let v6:Int:=(List.length v5:Int)
  let aW:Unit→Prop:=fun bR=>
   let aM:Prop:=
    let bx:Int:=(List.length v2.gh:Int)
    ∃ep:Nat→(Unit)→Prop,ep 0 ()∧∀(i9:Nat) (d1:Unit),i9<Int.toNat bx→ep i9 d1→(
     let v11:cO:=List.getD v2.gh (Int.toNat (i9:Int)) (aA .cO)
     let v12:=p4 x0 ⟨v2.param.name,v2.param.kind,v2.param.min,v2.param.max,v2.param.enum,v2.param.fB,v2.param.safety⟩ v11
     (B9 x0 ⟨v2.param.name,v2.param.kind,v2.param.min,v2.param.max,v2.param.enum,v2.param.fB,v2.param.safety⟩ v11)∧
     ((v12 != 0)=false→(
      ep (i9+1) ())))
   ((v2.param.kind==0)=true→(
    ((!(uu ⟨v2.param.name,v2.param.kind,v2.param.min,v2.param.max,v2.param.enum,v2.param.fB,v2.param.safety⟩))=false→(
     aM))))∧((v2.param.kind==0)=false→(
    let bx:=kY ⟨v2.param.name,v2.param.kind,v2.param.min,v2.param.max,v2.param.enum,v2.param.fB,v2.param.safety⟩
    (wi ⟨v2.param.name,v2.param.kind,v2.param.min,v2.param.max,v2.param.enum,v2.param.fB,v2.param.safety⟩)∧
    ((bx != 0)=false→(
     aM))))
  ∃bB:Nat→(Unit)→Prop,bB 0 ()∧(∀(i7:Nat) (d0:Unit),i7<Int.toNat v6→bB i7 d0→(
   ((cM .eql ((List.getD v5 (Int.toNat (i7:Int)) (aA .Command)).name) v2.name)=false→(
    bB (i7+1) ()))))∧∀bR,bB (Int.toNat v6) bR→aW bR))
noncomputable def p5(x0:aJ):Int:=
 bif(!(iq x0.name))then
  10
 else
  bif(oK x0)then
   3
  else
   let v4:Int:=(List.length x0.attrs:Int)
   Sum.elim (fun r=>r) (fun bR=>
    let v5:Int:=(List.length x0.commands:Int)
    Sum.elim (fun r=>r) (fun aV=>
     let v6:Int:=(List.length x0.events:Int)
     Sum.elim (fun r=>r) (fun dp=>
      0)
     (bn (fun(i7:Nat) (c7:Unit)=>
      show Step (Int) (Unit)from
      let v9:ByteArray:=List.getD x0.events (Int.toNat (i7:Int)) (aA .str)
      bif(!(iq v9))then
       .ret 10
      else
       bif(iJ (iK x0.events none (some (i7:Int))) v9)then
        .ret 9
       else
        .bq ()) 0 (Int.toNat v6) ():Int⊕(Unit)))
    (bn (fun(i6:Nat) (gi:Unit)=>
     show Step (Int) (Unit)from
     let bx:=rf x0 (i6:Int)
     bif(bx != 0)then
      .ret bx
     else
      .bq ()) 0 (Int.toNat v5) ():Int⊕(Unit)))
   (bn (fun(i5:Nat) (iN:Unit)=>
    show Step (Int) (Unit)from
    let bA:Attr:=List.getD x0.attrs (Int.toNat (i5:Int)) (aA .Attr)
    let bx:=kY bA
    bif(bx != 0)then
     .ret bx
    else
     let v10:=iK x0.attrs none (some (i5:Int))
     let v11:Int:=(List.length v10:Int)
     Sum.elim (fun r=>r) (fun kC=>
      .bq ())
     (bn (fun(i12:Nat) (jH:Unit)=>
      show Step (Step (Int) (Unit)) (Unit)from
      bif(cM .eql ((List.getD v10 (Int.toNat (i12:Int)) (aA .Attr)).name) bA.name)then
       .ret (.ret 9)
      else
       .bq ()) 0 (Int.toNat v11) ():(Step (Int) (Unit))⊕(Unit))) 0 (Int.toNat v4) ():Int⊕(Unit))
def GA(x0:aJ):Prop:=
 (nH x0.name)∧
 ((!(iq x0.name))=false→(
  ((oK x0)=false→(
   let v4:Int:=(List.length x0.attrs:Int)
   let aW:Unit→Prop:=fun bR=>
    let v5:Int:=(List.length x0.commands:Int)
    let fx:Unit→Prop:=fun aV=>
     let v6:Int:=(List.length x0.events:Int)
     ∃kD:Nat→(Unit)→Prop,kD 0 ()∧∀(i7:Nat) (d2:Unit),i7<Int.toNat v6→kD i7 d2→(
      let v9:ByteArray:=List.getD x0.events (Int.toNat (i7:Int)) (aA .str)
      (nH v9)∧
      ((!(iq v9))=false→(
       (iZ (List.length x0.events) none (some (i7:Int)))∧
       ((iJ (iK x0.events none (some (i7:Int))) v9)=false→(
        kD (i7+1) ())))))
    ∃ep:Nat→(Unit)→Prop,ep 0 ()∧(∀(i6:Nat) (d1:Unit),i6<Int.toNat v5→ep i6 d1→(
     let bx:=rf x0 (i6:Int)
     (Ca x0 (i6:Int))∧
     ((bx != 0)=false→(
      ep (i6+1) ()))))∧∀aV,ep (Int.toNat v5) aV→fx aV
   ∃bB:Nat→(Unit)→Prop,bB 0 ()∧(∀(i5:Nat) (d0:Unit),i5<Int.toNat v4→bB i5 d0→(
    let bA:Attr:=List.getD x0.attrs (Int.toNat (i5:Int)) (aA .Attr)
    let bx:=kY bA
    (wi bA)∧
    ((bx != 0)=false→(
     let v10:=iK x0.attrs none (some (i5:Int))
     (iZ (List.length x0.attrs) none (some (i5:Int)))∧
     let v11:Int:=(List.length v10:Int)
     let k7:Unit→Prop:=fun c7=>
      bB (i5+1) ()
     ∃me:Nat→(Unit)→Prop,me 0 ()∧(∀(i12:Nat) (d3:Unit),i12<Int.toNat v11→me i12 d3→(
      ((cM .eql ((List.getD v10 (Int.toNat (i12:Int)) (aA .Attr)).name) bA.name)=false→(
       me (i12+1) ()))))∧∀c7,me (Int.toNat v11) c7→k7 c7))))∧∀bR,bB (Int.toNat v4) bR→aW bR))))
noncomputable def nJ(x0:List aJ):Int:=
 let v1:Int:=(List.length x0:Int)
 bif(decide (v1>256))then
  3
 else
  Sum.elim (fun r=>r) (fun bR=>
   0)
  (bn (fun(i3:Nat) (aV:Unit)=>
   show Step (Int) (Unit)from
   let v5:aJ:=List.getD x0 (Int.toNat (i3:Int)) (aA .aJ)
   let v6:=p5 v5
   bif(v6 != 0)then
    .ret v6
   else
    let bx:=iK x0 none (some (i3:Int))
    let v9:Int:=(List.length bx:Int)
    Sum.elim (fun r=>r) (fun dp=>
     .bq ())
    (bn (fun(i10:Nat) (c7:Unit)=>
     show Step (Step (Int) (Unit)) (Unit)from
     bif(cM .eql ((List.getD bx (Int.toNat (i10:Int)) (aA .aJ)).name) v5.name)then
      .ret (.ret 9)
     else
      .bq ()) 0 (Int.toNat v9) ():(Step (Int) (Unit))⊕(Unit))) 0 (Int.toNat v1) ():Int⊕(Unit))
def GB(x0:List aJ):Prop:=
 let v1:Int:=(List.length x0:Int)
 ((decide (v1>256))=false→(
  ∃bB:Nat→(Unit)→Prop,bB 0 ()∧∀(i3:Nat) (d0:Unit),i3<Int.toNat v1→bB i3 d0→(
   let v5:aJ:=List.getD x0 (Int.toNat (i3:Int)) (aA .aJ)
   let v6:=p5 v5
   (GA v5)∧
   ((v6 != 0)=false→(
    let bx:=iK x0 none (some (i3:Int))
    (iZ (List.length x0) none (some (i3:Int)))∧
    let v9:Int:=(List.length bx:Int)
    let fx:Unit→Prop:=fun aV=>
     bB (i3+1) ()
    ∃ep:Nat→(Unit)→Prop,ep 0 ()∧(∀(i10:Nat) (d1:Unit),i10<Int.toNat v9→ep i10 d1→(
     ((cM .eql ((List.getD bx (Int.toNat (i10:Int)) (aA .aJ)).name) v5.name)=false→(
      ep (i10+1) ()))))∧∀aV,ep (Int.toNat v9) aV→fx aV)))))
noncomputable def kB(x0:Home):(List (ByteArray × aJ)):=
 let v2:Int:=(List.length x0.bp:Int)
 Sum.elim (fun r=>r) (fun bR=>
  bR)
 (bn (fun(i4:Nat) (aV:(List (ByteArray × aJ)))=>
  show Step ((List (ByteArray × aJ))) ((List (ByteArray × aJ)))from
  let v6:aJ:=List.getD x0.bp (Int.toNat (i4:Int)) (aA .aJ)
  .bq (sH (.str) aV v6.name v6)) 0 (Int.toNat v2) ([]:List (ByteArray × aJ)):(List (ByteArray × aJ))⊕((List (ByteArray × aJ))))
noncomputable def wv(x0:bu):Bool:=
 bif((((decide (x0.id<1))||(decide (x0.id>250)))||(decide (x0.oL<0)))||(decide (x0.oL>255)))then
  false
 else
  bif x0.oM then
   ((decide (x0.kZ≥4))&&(decide (x0.kZ≤3600)))
  else
   (x0.kZ==0)
noncomputable def sG(x0:bu)(ar:List (ByteArray × aJ)):Int:=
 let v4:Int:=(List.length x0.bp:Int)
 bif((decide ((List.length x0.bp:Int)<1))||(decide (v4>4)))then
  3
 else
  Sum.elim (fun r=>r) (fun bR=>
   bif(decide (bR>24))then
    3
   else
    0)
  (bn (fun(i8:Nat) (aV:Int)=>
   show Step (Int) (Int)from
   let v10:ByteArray:=List.getD x0.bp (Int.toNat (i8:Int)) (aA .str)
   bif(!((jF (.str) ar v10).isSome))then
    .ret 8
   else
    bif(decide ((p2 x0.bp v10)<(i8:Int)))then
     .ret 9
    else
     .bq (IntKind.wrap .i64 (aV+(List.length (((jF (.str) ar v10).getD (aA .aJ)).attrs):Int)))) 0 (Int.toNat v4) 0:Int⊕(Int))
noncomputable def fS(x0:Home):Int:=
 let v1:=nJ x0.bp
 bif(v1 != 0)then
  v1
 else
  let v3:Int:=(List.length x0.bl:Int)
  bif(decide (v3>20))then
   3
  else
   Sum.elim (fun r=>r) (fun bR=>
    0)
   (bn (fun(i8:Nat) (aV:(List (Int × Bool)))=>
    show Step (Int) ((List (Int × Bool)))from
    let v10:bu:=List.getD x0.bl (Int.toNat (i8:Int)) (aA .bu)
    bif(!(wv v10))then
     .ret 2
    else
     bif((decide ((i8:Int)>0))&&(decide (v10.id≤((List.getD x0.bl (Int.toNat (IntKind.wrap .i64 ((i8:Int)-(1:Int)))) (aA .bu)).id))))then
      .ret 14
     else
      bif((jF (.int .u64) aV v10.hg).getD false)then
       .ret 9
      else
       bif(!(iq v10.room))then
        .ret 10
       else
        let v21:=sG v10 (kB x0)
        bif(v21 != 0)then
         .ret v21
        else
         .bq (sH (.int .u64) aV v10.hg true)) 0 (Int.toNat v3) ([]:List (Int × Bool)):Int⊕((List (Int × Bool))))
def yY(x0:Home):Prop:=
 let v1:=nJ x0.bp
 (GB x0.bp)∧
 ((v1 != 0)=false→(
  let v3:Int:=(List.length x0.bl:Int)
  ((decide (v3>20))=false→(
   ∃bB:Nat→((List (Int × Bool)))→Prop,bB 0 ([]:List (Int × Bool))∧∀(i8:Nat) (d0:(List (Int × Bool))),i8<Int.toNat v3→bB i8 d0→(
    let v10:bu:=List.getD x0.bl (Int.toNat (i8:Int)) (aA .bu)
    ((!(wv v10))=false→(
     let bT:=decide ((i8:Int)>0)
     let fv:Int:=IntKind.wrap .i64 ((i8:Int)-(1:Int))
     (bT=true→0≤fv∧fv<(List.length x0.bl:Int))∧
     ((bT&&(decide (v10.id≤((List.getD x0.bl (Int.toNat fv) (aA .bu)).id))))=false→(
      (((jF (.int .u64) d0 v10.hg).getD false)=false→(
       (nH v10.room)∧
       ((!(iq v10.room))=false→(
        let v21:=sG v10 (kB x0)
        ((v21 != 0)=false→(
         bB (i8+1) (sH (.int .u64) d0 v10.hg true))))))))))))))))
noncomputable def ma(x0:bs):bs:=
 let bN:Int→ByteArray→ByteArray→ByteArray→Int→Int→ByteArray→ByteArray→bs:=fun v3 v4 v5 v6 bA bx v9 v10=>
  ⟨x0.kind,x0.dy,⟨v3,v4,v5⟩,v6,⟨bA,bx,v9⟩,v10⟩
 bif(x0.kind==1)then
  bN x0.key.dev x0.key.dk x0.key.attr (⟨#[]⟩:ByteArray) (0:Int) (0:Int) (⟨#[]⟩:ByteArray) (⟨#[]⟩:ByteArray)
 else
  bif(x0.kind==2)then
   bN x0.key.dev x0.key.dk x0.key.attr (⟨#[]⟩:ByteArray) x0.value.kind x0.value.n x0.value.s (⟨#[]⟩:ByteArray)
  else
   bif(x0.kind==3)then
    bN x0.key.dev x0.key.dk (⟨#[]⟩:ByteArray) x0.name x0.value.kind x0.value.n x0.value.s (⟨#[]⟩:ByteArray)
   else
    let aM:Bool→bs:=fun v4=>
     bif v4 then
      bN (0:Int) (⟨#[]⟩:ByteArray) (⟨#[]⟩:ByteArray) x0.name (0:Int) (0:Int) (⟨#[]⟩:ByteArray) (⟨#[]⟩:ByteArray)
     else
      bif(x0.kind==7)then
       bN (0:Int) (⟨#[]⟩:ByteArray) (⟨#[]⟩:ByteArray) (⟨#[]⟩:ByteArray) (0:Int) (0:Int) (⟨#[]⟩:ByteArray) x0.text
      else
       bN (0:Int) (⟨#[]⟩:ByteArray) (⟨#[]⟩:ByteArray) (⟨#[]⟩:ByteArray) (0:Int) (0:Int) (⟨#[]⟩:ByteArray) (⟨#[]⟩:ByteArray)
    let v4:=x0.kind==4
    bif v4 then
     aM v4
    else
     let v5:=x0.kind==5
     bif v5 then
      aM v5
     else
      aM (x0.kind==6)
noncomputable def l9(x0:Home)(ar:Int):bu × Bool:=
 bif((fS x0) != 0)then
  (⟨0,0,0,false,0,⟨#[]⟩,[]⟩,false)
 else
  let v4:Int:=(List.length x0.bl:Int)
  Sum.elim (fun r=>r) (fun bR=>
   (⟨0,0,0,false,0,⟨#[]⟩,[]⟩,false))
  (bn (fun(i5:Nat) (aV:Unit)=>
   show Step (bu × Bool) (Unit)from
   let bA:bu:=List.getD x0.bl (Int.toNat (i5:Int)) (aA .bu)
   bif(bA.id==ar)then
    .ret (bA,true)
   else
    .bq ()) 0 (Int.toNat v4) ():(bu × Bool)⊕(Unit))
def yZ(x0:Home)(ar:Int):Prop:=
 yY x0
noncomputable def uy(x0:Home)(ar:dh):Attr × Bool:=
 let v2:=l9 x0 ar.dev
 let aM:Int→Attr × Bool:=fun v6=>
  bif((!v2.2)||(decide (v6<0)))then
   (⟨⟨#[]⟩,0,0,0,[],false,false⟩,false)
  else
   let v10:aJ:=(jF (.str) (kB x0) ar.dk).getD (aA .aJ)
   let v11:=sF v10 ar.attr
   bif !v11.2 then
    (⟨⟨#[]⟩,0,0,0,[],false,false⟩,false)
   else
    (v11.1,true)
 bif !v2.2 then
  aM (0:Int)
 else
  aM (p2 v2.1.bp ar.dk)
def Cn(x0:Home)(ar:dh):Prop:=
 let v2:=l9 x0 ar.dev
 (yZ x0 ar.dev)∧
 let aM:Int→Prop:=fun v6=>
  (((!v2.2)||(decide (v6<0)))=false→(
   let v10:aJ:=(jF (.str) (kB x0) ar.dk).getD (aA .aJ)
   let v11:=sF v10 ar.attr
   yX v10 ar.attr))
 ((!v2.2)=true→(
  aM (0:Int)))∧((!v2.2)=false→(
  aM (p2 v2.1.bp ar.dk)))
noncomputable def CB(x0:Home)(ar:bs):Int:=
 let v2:=uy x0 ⟨ar.key.dev,ar.key.dk,ar.key.attr⟩
 bif !v2.2 then
  8
 else
  bif(ar.kind==1)then
   0
  else
   bif !v2.1.fB then
    24
   else
    (wo v2.1 ⟨ar.value.kind,ar.value.n,ar.value.s⟩)
def Co(x0:Home)(ar:bs):Prop:=
 let v2:=uy x0 ⟨ar.key.dev,ar.key.dk,ar.key.attr⟩
 (Cn x0 ⟨ar.key.dev,ar.key.dk,ar.key.attr⟩)∧
 ((!v2.2)=false→(
  ((ar.kind==1)=false→(
   ((!v2.1.fB)=false→(
    yW v2.1 ⟨ar.value.kind,ar.value.n,ar.value.s⟩))))))
noncomputable def ri(x0:Home)(ar:Int)(b6:ByteArray):aJ × Bool:=
 let eC:Int→aJ × Bool:=fun v3=>
  bif(!(decide (v3≥0)))then
   (⟨⟨#[]⟩,[],[],[]⟩,false)
  else
   let bN:Int→aJ × Bool:=fun v6=>
    bif(decide (v6<0))then
     (⟨⟨#[]⟩,[],[],[]⟩,false)
    else
     let bx:aJ:=List.getD x0.bp (Int.toNat v6) (aA .aJ)
     (bx,true)
   let v6:Int:=(List.length x0.bp:Int)
   Sum.elim (fun r=>r) (fun bR=>
    bN ((-1):Int))
   (bn (fun(i7:Nat) (aV:Unit)=>
    show Step (aJ × Bool) (Unit)from
    bif(cM .eql ((List.getD x0.bp (Int.toNat (i7:Int)) (aA .aJ)).name) b6)then
     .ret (bN (i7:Int))
    else
     .bq ()) 0 (Int.toNat v6) ():(aJ × Bool)⊕(Unit))
 let v3:Int:=(List.length x0.bl:Int)
 Sum.elim (fun r=>r) (fun dp=>
  eC ((-1):Int))
 (bn (fun(i4:Nat) (c7:Unit)=>
  show Step (aJ × Bool) (Unit)from
  let v6:bu:=List.getD x0.bl (Int.toNat (i4:Int)) (aA .bu)
  let bA:=v6.id==ar
  let aM:Bool→Step (aJ × Bool) (Unit):=fun bx=>
   bif(bA&&bx)then
    .ret (eC (i4:Int))
   else
    .bq ()
  bif bA then
   aM (iJ v6.bp b6)
  else
   aM false) 0 (Int.toNat v3) ():(aJ × Bool)⊕(Unit))
def GL(x0:Home)(ar:Int)(b6:ByteArray):Prop:=
 let eC:Int→Prop:=fun v3=>
  ((!(decide (v3≥0)))=false→(
   let bN:Int→Prop:=fun v6=>
    ((decide (v6<0))=false→(
     let bx:aJ:=List.getD x0.bp (Int.toNat v6) (aA .aJ)
     0≤v6∧v6<(List.length x0.bp:Int)))
   let v6:Int:=(List.length x0.bp:Int)
   let aW:Unit→Prop:=fun bR=>
    bN ((-1):Int)
   ∃bB:Nat→(Unit)→Prop,bB 0 ()∧(∀(i7:Nat) (d0:Unit),i7<Int.toNat v6→bB i7 d0→(
    ((cM .eql ((List.getD x0.bp (Int.toNat (i7:Int)) (aA .aJ)).name) b6)=true→(
     bN (i7:Int)))∧((cM .eql ((List.getD x0.bp (Int.toNat (i7:Int)) (aA .aJ)).name) b6)=false→(
     bB (i7+1) ()))))∧∀bR,bB (Int.toNat v6) bR→aW bR))
 let v3:Int:=(List.length x0.bl:Int)
 let fx:Unit→Prop:=fun aV=>
  eC ((-1):Int)
 ∃ep:Nat→(Unit)→Prop,ep 0 ()∧(∀(i4:Nat) (d1:Unit),i4<Int.toNat v3→ep i4 d1→(
  let v6:bu:=List.getD x0.bl (Int.toNat (i4:Int)) (aA .bu)
  let bA:=v6.id==ar
  let aM:Bool→Prop:=fun bx=>
   ((bA&&bx)=true→(
    eC (i4:Int)))∧((bA&&bx)=false→(
    ep (i4+1) ()))
  (bA=true→(
   aM (iJ v6.bp b6)))∧(bA=false→(
   aM false))))∧∀aV,ep (Int.toNat v3) aV→fx aV
def Qx(x:List cO):List cO:=x
def B5(x:List cO):Prop:=x.length≤maxLen∧x.length*32≤140737488355328
noncomputable def ze(x0:aJ)(ar:ByteArray):Command × Bool:=
 let v2:Int:=(List.length x0.commands:Int)
 Sum.elim (fun r=>r) (fun bR=>
  (⟨⟨#[]⟩,⟨⟨#[]⟩,0,0,0,[],false,false⟩,[]⟩,false))
 (bn (fun(i3:Nat) (aV:Unit)=>
  show Step (Command × Bool) (Unit)from
  let v5:Command:=List.getD x0.commands (Int.toNat (i3:Int)) (aA .Command)
  bif(cM .eql v5.name ar)then
   .ret (⟨v5.name,⟨v5.param.name,v5.param.kind,v5.param.min,v5.param.max,(C6 v5.param.enum),v5.param.fB,v5.param.safety⟩,(Qx v5.gh)⟩,true)
  else
   .bq ()) 0 (Int.toNat v2) ():(Command × Bool)⊕(Unit))
def GM(x0:aJ)(ar:ByteArray):Prop:=
 let v2:Int:=(List.length x0.commands:Int)
 ∃bB:Nat→(Unit)→Prop,bB 0 ()∧∀(i3:Nat) (d0:Unit),i3<Int.toNat v2→bB i3 d0→(
  let v5:Command:=List.getD x0.commands (Int.toNat (i3:Int)) (aA .Command)
  ((cM .eql v5.name ar)=true→(
   (wh v5.param.enum)∧
   B5 v5.gh))∧((cM .eql v5.name ar)=false→(
   bB (i3+1) ())))
noncomputable def CD(x0:Home)(ar:bs):Int:=
 let v2:=ri x0 ar.key.dev ar.key.dk
 bif !v2.2 then
  8
 else
  let v6:=ze v2.1 ar.name
  bif !v6.2 then
   8
  else
   bif(v6.1.param.kind != 0)then
    (wo ⟨v6.1.param.name,v6.1.param.kind,v6.1.param.min,v6.1.param.max,v6.1.param.enum,v6.1.param.fB,v6.1.param.safety⟩ ⟨ar.value.kind,ar.value.n,ar.value.s⟩)
   else
    bif(!(bif ar.value.kind==0 then bif ar.value.n==0 then dE ar.value.s (⟨#[]⟩:ByteArray)else false else false))then
     11
    else
     0
def GN(x0:Home)(ar:bs):Prop:=
 let v2:=ri x0 ar.key.dev ar.key.dk
 (GL x0 ar.key.dev ar.key.dk)∧
 ((!v2.2)=false→(
  let v6:=ze v2.1 ar.name
  (GM v2.1 ar.name)∧
  ((!v6.2)=false→(
   ((v6.1.param.kind != 0)=true→(
    yW ⟨v6.1.param.name,v6.1.param.kind,v6.1.param.min,v6.1.param.max,v6.1.param.enum,v6.1.param.fB,v6.1.param.safety⟩ ⟨ar.value.kind,ar.value.n,ar.value.s⟩))))))
noncomputable def zg(x0:Home)(ar:bs):Int:=
 let aM:Bool→Int:=fun v2=>
  bif v2 then
   (CB x0 ar)
  else
   bif(ar.kind==3)then
    (CD x0 ar)
   else
    bif(ar.kind==7)then
     bif(decide ((ByteArray.size ar.text:Int)>20000))then
      3
     else
      0
    else
     bif(!(iq ar.name))then
      10
     else
      0
 let v2:=ar.kind==1
 bif v2 then
  aM v2
 else
  aM (ar.kind==2)
def Cp(x0:Home)(ar:bs):Prop:=
 let aM:Bool→Prop:=fun v2=>
  (v2=true→(
   Co x0 ar))∧(v2=false→(
   ((ar.kind==3)=true→(
    GN x0 ar))∧((ar.kind==3)=false→(
    ((ar.kind==7)=false→(
     nH ar.name))))))
 let v2:=ar.kind==1
 (v2=true→(
  aM v2))∧(v2=false→(
  aM (ar.kind==2)))
noncomputable def mL(x0:Home)(ar:bs):Int:=
 let bN:Int→Int:=fun v2=>
  v2
 let v2:=fS x0
 bif(v2 != 0)then
  bN v2
 else
  let v4:=v8 ar
  bif(v4 != 0)then
   bN v4
  else
   let v6:=wa ar
   bif(v6 != 0)then
    bN v6
   else
    let aM:Int→Int:=fun bx=>
     bif(bx != 0)then
      bN bx
     else
      let v10:=zg x0 ar
      bif(v10 != 0)then
       bN v10
      else
       bN (0:Int)
    let bx:=ma ar
    let v9:=!(bif ar.kind==bx.kind then bif ar.dy==bx.dy then bif ar.key.dev==bx.key.dev then bif dE ar.key.dk bx.key.dk then bif dE ar.key.attr bx.key.attr then bif dE ar.name bx.name then bif ar.value.kind==bx.value.kind then bif ar.value.n==bx.value.n then bif dE ar.value.s bx.value.s then dE ar.text bx.text else false else false else false else false else false else false else false else false else false)
    bif v9 then
     aM (1:Int)
    else
     aM (0:Int)
def Cq(x0:Home)(ar:bs):Prop:=
 let v2:=fS x0
 (yY x0)∧
 ((v2 != 0)=false→(
  let v4:=v8 ar
  ((v4 != 0)=false→(
   let v6:=wa ar
   ((v6 != 0)=false→(
    let aM:Int→Prop:=fun bx=>
     ((bx != 0)=false→(
      let v10:=zg x0 ar
      Cp x0 ar))
    let bx:=ma ar
    let v9:=!(bif ar.kind==bx.kind then bif ar.dy==bx.dy then bif ar.key.dev==bx.key.dev then bif dE ar.key.dk bx.key.dk then bif dE ar.key.attr bx.key.attr then bif dE ar.name bx.name then bif ar.value.kind==bx.value.kind then bif ar.value.n==bx.value.n then bif dE ar.value.s bx.value.s then dE ar.text bx.text else false else false else false else false else false else false else false else false else false)
    (v9=true→(
     aM (1:Int)))∧(v9=false→(
     aM (0:Int)))))))))
noncomputable def ur(x0:List ByteArray)(ar:ByteArray):Bool:=
 let v2:Int:=(List.length x0:Int)
 Sum.elim (fun r=>r) (fun bR=>
  false)
 (bn (fun(i3:Nat) (aV:Unit)=>
  show Step (Bool) (Unit)from
  bif(cM .eql (List.getD x0 (Int.toNat (i3:Int)) (aA .str)) ar)then
   .ret true
  else
   .bq ()) 0 (Int.toNat v2) ():Bool⊕(Unit))
noncomputable def p3(x0:Attr):Int:=
 bif(!(jW x0.name))then
  10
 else
  bif((decide (x0.kind<1))||(decide (x0.kind>4)))then
   7
  else
   let aM:Int:=
    bif(x0.kind != 3)then
     bif(decide ((List.length x0.enum:Int)>0))then
      4
     else
      0
    else
     let v10:Int:=(List.length x0.enum:Int)
     bif((decide ((List.length x0.enum:Int)<1))||(decide (v10>64)))then
      3
     else
      Sum.elim (fun r=>r) (fun bR=>
       0)
      (bn (fun(i13:Nat) (aV:Unit)=>
       show Step (Int) (Unit)from
       bif(!(jW (List.getD x0.enum (Int.toNat (i13:Int)) (aA .str))))then
        .ret 10
       else
        bif(ur (iK x0.enum none (some (i13:Int))) (List.getD x0.enum (Int.toNat (i13:Int)) (aA .str)))then
         .ret 9
        else
         .bq ()) 0 (Int.toNat v10) ():Int⊕(Unit))
   bif(x0.kind==2)then
    bif(((decide (x0.min<(-1099511627776)))||(decide (x0.max>1099511627776)))||(decide (x0.min>x0.max)))then
     2
    else
     aM
   else
    bif((x0.min != 0)||(x0.max != 0))then
     2
    else
     aM
def ux(x0:Attr):Prop:=
 (p0 x0.name)∧
 ((!(jW x0.name))=false→(
  (((decide (x0.kind<1))||(decide (x0.kind>4)))=false→(
   let aM:Prop:=
    ((x0.kind != 3)=false→(
     let v10:Int:=(List.length x0.enum:Int)
     (((decide ((List.length x0.enum:Int)<1))||(decide (v10>64)))=false→(
      ∃bB:Nat→(Unit)→Prop,bB 0 ()∧∀(i13:Nat) (d0:Unit),i13<Int.toNat v10→bB i13 d0→(
       let eS:ByteArray:=List.getD x0.enum (Int.toNat (i13:Int)) (aA .str)
       (p0 eS)∧
       ((!(jW eS))=false→(
        (iZ (List.length x0.enum) none (some (i13:Int)))∧
        ((ur (iK x0.enum none (some (i13:Int))) (List.getD x0.enum (Int.toNat (i13:Int)) (aA .str)))=false→(
         bB (i13+1) ())))))))))
   ((x0.kind==2)=true→(
    ((((decide (x0.min<(-1099511627776)))||(decide (x0.max>1099511627776)))||(decide (x0.min>x0.max)))=false→(
     aM))))∧((x0.kind==2)=false→(
    (((x0.min != 0)||(x0.max != 0))=false→(
     aM))))))))
noncomputable def oJ(x0:aJ)(ar:ByteArray):Int:=
 let v2:Int:=(List.length x0.attrs:Int)
 Sum.elim (fun r=>r) (fun bR=>
  (-1))
 (bn (fun(i3:Nat) (aV:Unit)=>
  show Step (Int) (Unit)from
  bif(cM .eql ((List.getD x0.attrs (Int.toNat (i3:Int)) (aA .Attr)).name) ar)then
   .ret (i3:Int)
  else
   .bq ()) 0 (Int.toNat v2) ():Int⊕(Unit))
noncomputable def y7(x0:aJ):Bool:=
 let v3:Int:=(List.length x0.commands:Int)
 bif(((decide ((List.length x0.attrs:Int)>12))||(decide (v3>12)))||(decide ((List.length x0.events:Int)>12)))then
  true
 else
  Sum.elim (fun r=>r) (fun bR=>
   false)
  (bn (fun(i9:Nat) (aV:Unit)=>
   show Step (Bool) (Unit)from
   bif(decide ((List.length ((List.getD x0.commands (Int.toNat (i9:Int)) (aA .Command)).gh):Int)>12))then
    .ret true
   else
    .bq ()) 0 (Int.toNat v3) ():Bool⊕(Unit))
noncomputable def y2(x0:List ByteArray)(ar:List ByteArray):Bool:=
 let v2:Int:=(List.length x0:Int)
 bif(v2 != (List.length ar:Int))then
  false
 else
  Sum.elim (fun r=>r) (fun bR=>
   true)
  (bn (fun(i5:Nat) (aV:Unit)=>
   show Step (Bool) (Unit)from
   bif(cM .neq (List.getD x0 (Int.toNat (i5:Int)) (aA .str)) (List.getD ar (Int.toNat (i5:Int)) (aA .str)))then
    .ret false
   else
    .bq ()) 0 (Int.toNat v2) ():Bool⊕(Unit))
def Cs(x0:List ByteArray)(ar:List ByteArray):Prop:=
 let v2:Int:=(List.length x0:Int)
 ((v2 != (List.length ar:Int))=false→(
  ∃bB:Nat→(Unit)→Prop,bB 0 ()∧∀(i5:Nat) (d0:Unit),i5<Int.toNat v2→bB i5 d0→(
   (0≤(i5:Int)∧(i5:Int)<(List.length ar:Int))∧
   ((cM .neq (List.getD x0 (Int.toNat (i5:Int)) (aA .str)) (List.getD ar (Int.toNat (i5:Int)) (aA .str)))=false→(
    bB (i5+1) ())))))
noncomputable def y4(x0:Attr)(ar:Attr):Bool:=
 let bx:Bool:=(((cM .eql x0.name ar.name)&&(x0.kind==ar.kind))&&(x0.min==ar.min))&&(x0.max==ar.max)
 let aM:Bool→Bool:=fun v9=>
  (((bx&&v9)&&(cC.den (.nM false) x0.fB ar.fB))&&(cC.den (.nM false) x0.safety ar.safety))
 bif bx then
  aM (y2 x0.enum ar.enum)
 else
  aM false
def GO(x0:Attr)(ar:Attr):Prop:=
 let bx:Bool:=(((cM .eql x0.name ar.name)&&(x0.kind==ar.kind))&&(x0.min==ar.min))&&(x0.max==ar.max)
 (bx=true→(
  Cs x0.enum ar.enum))
noncomputable def uv(x0:aJ)(ar:ByteArray):Attr × Bool:=
 let v2:=oJ x0 ar
 bif(decide (v2<0))then
  (⟨⟨#[]⟩,0,0,0,[],false,false⟩,false)
 else
  let v4:Attr:=List.getD x0.attrs (Int.toNat v2) (aA .Attr)
  (v4,true)
def Ct(x0:aJ)(ar:ByteArray):Prop:=
 let v2:=oJ x0 ar
 ((decide (v2<0))=false→(
  let v4:Attr:=List.getD x0.attrs (Int.toNat v2) (aA .Attr)
  0≤v2∧v2<(List.length x0.attrs:Int)))
noncomputable def wm(x0:Attr)(ar:cd):Int:=
 bif((p3 x0) != 0)then
  (p3 x0)
 else
  bif((pR ar) != 0)then
   (pR ar)
  else
   bif(ar.kind != x0.kind)then
    11
   else
    bif(((ar.kind==2)&&((decide (ar.n<x0.min))||(decide (ar.n>x0.max))))||((ar.kind==3)&&(decide (ar.n≥(List.length x0.enum:Int)))))then
     2
    else
     0
def zb(x0:Attr)(ar:cd):Prop:=
 (ux x0)∧
 (((p3 x0) != 0)=true→(
  ux x0))
noncomputable def Cf(x0:cO)(ar:Attr)(b6:Attr):Bool:=
 bif(x0.kind==1)then
  let v4:=ar.kind != 4
  let aM:Int→Bool:=fun v5=>
   (v4&&(v5==0))
  bif v4 then
   aM (wm ar ⟨ar.kind,x0.n,⟨#[]⟩⟩)
  else
   aM (0:Int)
 else
  bif(x0.kind==2)then
   let v5:=b6.kind==ar.kind
   let aM:Bool→Bool:=fun v6=>
    (v5&&v6)
   bif v5 then
    aM (y2 b6.enum ar.enum)
   else
    aM false
  else
   bif(x0.kind==3)then
    (ar.kind==2)
   else
    (ar.kind==1)
def Cu(x0:cO)(ar:Attr)(b6:Attr):Prop:=
 ((x0.kind==1)=true→(
  let v4:=ar.kind != 4
  (v4=true→(
   zb ar ⟨ar.kind,x0.n,⟨#[]⟩⟩))))∧((x0.kind==1)=false→(
  ((x0.kind==2)=true→(
   let v5:=b6.kind==ar.kind
   (v5=true→(
    Cs b6.enum ar.enum))))))
noncomputable def y5(x0:aJ)(ar:Attr)(b6:cO):Int:=
 bif((decide (b6.kind<1))||(decide (b6.kind>4)))then
  7
 else
  let v6:=uv x0 b6.attr
  bif !v6.2 then
   8
  else
   bif !v6.1.fB then
    24
   else
    bif(!(Cf b6 v6.1 ar))then
     11
    else
     bif((b6.kind==3)&&((decide (b6.n<(-1099511627776)))||(decide (b6.n>1099511627776))))then
      2
     else
      bif(((b6.kind==2)||(b6.kind==4))&&(b6.n != 0))then
       4
      else
       0
def Cv(x0:aJ)(ar:Attr)(b6:cO):Prop:=
 (((decide (b6.kind<1))||(decide (b6.kind>4)))=false→(
  let v6:=uv x0 b6.attr
  (Ct x0 b6.attr)∧
  ((!v6.2)=false→(
   ((!v6.1.fB)=false→(
    Cu b6 v6.1 ar))))))
noncomputable def y6(x0:aJ)(ar:Int):Int:=
 let v2:Command:=List.getD x0.commands (Int.toNat ar) (aA .Command)
 bif(!(jW v2.name))then
  10
 else
  Sum.elim (fun r=>r) (fun bR=>
   let aM:Int:=
    let v6:Int:=(List.length v2.gh:Int)
    Sum.elim (fun r=>r) (fun aV=>
     0)
    (bn (fun(i7:Nat) (dp:Unit)=>
     show Step (Int) (Unit)from
     let v9:cO:=List.getD v2.gh (Int.toNat (i7:Int)) (aA .cO)
     let v10:=y5 x0 ⟨v2.param.name,v2.param.kind,v2.param.min,v2.param.max,v2.param.enum,v2.param.fB,v2.param.safety⟩ v9
     bif(v10 != 0)then
      .ret v10
     else
      .bq ()) 0 (Int.toNat v6) ():Int⊕(Unit))
   bif(v2.param.kind==0)then
    bif(!(y4 ⟨v2.param.name,v2.param.kind,v2.param.min,v2.param.max,v2.param.enum,v2.param.fB,v2.param.safety⟩ ⟨⟨#[]⟩,0,0,0,[],false,false⟩))then
     4
    else
     aM
   else
    let v6:=p3 ⟨v2.param.name,v2.param.kind,v2.param.min,v2.param.max,v2.param.enum,v2.param.fB,v2.param.safety⟩
    bif(v6 != 0)then
     v6
    else
     aM)
  (bn (fun(i5:Nat) (c7:Unit)=>
   show Step (Int) (Unit)from
   bif(cM .eql ((List.getD x0.commands (Int.toNat (i5:Int)) (aA .Command)).name) v2.name)then
    .ret 9
   else
    .bq ()) 0 (Int.toNat ar) ():Int⊕(Unit))
def GR(x0:aJ)(ar:Int):Prop:=
 let v2:Command:=List.getD x0.commands (Int.toNat ar) (aA .Command)
 (0≤ar∧ar<(List.length x0.commands:Int))∧
 (p0 v2.name)∧
 ((!(jW v2.name))=false→(
  (0≤ar∧ar<(9223372036854775808:Int))∧
  let aW:Unit→Prop:=fun bR=>
   let aM:Prop:=
    let v6:Int:=(List.length v2.gh:Int)
    ∃ep:Nat→(Unit)→Prop,ep 0 ()∧∀(i7:Nat) (d1:Unit),i7<Int.toNat v6→ep i7 d1→(
     let v9:cO:=List.getD v2.gh (Int.toNat (i7:Int)) (aA .cO)
     let v10:=y5 x0 ⟨v2.param.name,v2.param.kind,v2.param.min,v2.param.max,v2.param.enum,v2.param.fB,v2.param.safety⟩ v9
     (Cv x0 ⟨v2.param.name,v2.param.kind,v2.param.min,v2.param.max,v2.param.enum,v2.param.fB,v2.param.safety⟩ v9)∧
     ((v10 != 0)=false→(
      ep (i7+1) ())))
   ((v2.param.kind==0)=true→(
    (GO ⟨v2.param.name,v2.param.kind,v2.param.min,v2.param.max,v2.param.enum,v2.param.fB,v2.param.safety⟩ ⟨⟨#[]⟩,0,0,0,[],false,false⟩)∧
    ((!(y4 ⟨v2.param.name,v2.param.kind,v2.param.min,v2.param.max,v2.param.enum,v2.param.fB,v2.param.safety⟩ ⟨⟨#[]⟩,0,0,0,[],false,false⟩))=false→(
     aM))))∧((v2.param.kind==0)=false→(
    let v6:=p3 ⟨v2.param.name,v2.param.kind,v2.param.min,v2.param.max,v2.param.enum,v2.param.fB,v2.param.safety⟩
    (ux ⟨v2.param.name,v2.param.kind,v2.param.min,v2.param.max,v2.param.enum,v2.param.fB,v2.param.safety⟩)∧
    ((v6 != 0)=false→(
     aM))))
  ∃bB:Nat→(Unit)→Prop,bB 0 ()∧(∀(i5:Nat) (d0:Unit),i5<Int.toNat ar→bB i5 d0→(
   (0≤(i5:Int)∧(i5:Int)<(List.length x0.commands:Int))∧
   ((cM .eql ((List.getD x0.commands (Int.toNat (i5:Int)) (aA .Command)).name) v2.name)=false→(
    bB (i5+1) ()))))∧∀bR,bB (Int.toNat ar) bR→aW bR))
noncomputable def y8(x0:aJ):Int:=
 bif(!(jW x0.name))then
  10
 else
  bif(y7 x0)then
   3
  else
   let v4:Int:=(List.length x0.attrs:Int)
   Sum.elim (fun r=>r) (fun bR=>
    let v5:Int:=(List.length x0.commands:Int)
    Sum.elim (fun r=>r) (fun aV=>
     let v6:Int:=(List.length x0.events:Int)
     Sum.elim (fun r=>r) (fun dp=>
      0)
     (bn (fun(i7:Nat) (c7:Unit)=>
      show Step (Int) (Unit)from
      bif(!(jW (List.getD x0.events (Int.toNat (i7:Int)) (aA .str))))then
       .ret 10
      else
       Sum.elim (fun r=>r) (fun gi=>
        .bq ())
       (bn (fun(i12:Nat) (iN:Unit)=>
        show Step (Step (Int) (Unit)) (Unit)from
        bif(cM .eql (List.getD x0.events (Int.toNat (i12:Int)) (aA .str)) (List.getD x0.events (Int.toNat (i7:Int)) (aA .str)))then
         .ret (.ret 9)
        else
         .bq ()) 0 (Int.toNat (i7:Int)) ():(Step (Int) (Unit))⊕(Unit))) 0 (Int.toNat v6) ():Int⊕(Unit)))
    (bn (fun(i6:Nat) (kC:Unit)=>
     show Step (Int) (Unit)from
     let bx:=y6 x0 (i6:Int)
     bif(bx != 0)then
      .ret bx
     else
      .bq ()) 0 (Int.toNat v5) ():Int⊕(Unit)))
   (bn (fun(i5:Nat) (jH:Unit)=>
    show Step (Int) (Unit)from
    let bA:Attr:=List.getD x0.attrs (Int.toNat (i5:Int)) (aA .Attr)
    let bx:=p3 bA
    bif(bx != 0)then
     .ret bx
    else
     bif(decide ((oJ x0 ((List.getD x0.attrs (Int.toNat (i5:Int)) (aA .Attr)).name))<(i5:Int)))then
      .ret 9
     else
      .bq ()) 0 (Int.toNat v4) ():Int⊕(Unit))
def GU(x0:aJ):Prop:=
 (p0 x0.name)∧
 ((!(jW x0.name))=false→(
  ((y7 x0)=false→(
   let v4:Int:=(List.length x0.attrs:Int)
   let aW:Unit→Prop:=fun bR=>
    let v5:Int:=(List.length x0.commands:Int)
    let fx:Unit→Prop:=fun aV=>
     let v6:Int:=(List.length x0.events:Int)
     ∃kD:Nat→(Unit)→Prop,kD 0 ()∧∀(i7:Nat) (d2:Unit),i7<Int.toNat v6→kD i7 d2→(
      let v9:ByteArray:=List.getD x0.events (Int.toNat (i7:Int)) (aA .str)
      (p0 v9)∧
      ((!(jW v9))=false→(
       (0≤(i7:Int)∧(i7:Int)<(9223372036854775808:Int))∧
       let k7:Unit→Prop:=fun c7=>
        kD (i7+1) ()
       ∃me:Nat→(Unit)→Prop,me 0 ()∧(∀(i12:Nat) (d3:Unit),i12<Int.toNat (i7:Int)→me i12 d3→(
        (0≤(i12:Int)∧(i12:Int)<(List.length x0.events:Int))∧
        ((cM .eql (List.getD x0.events (Int.toNat (i12:Int)) (aA .str)) (List.getD x0.events (Int.toNat (i7:Int)) (aA .str)))=false→(
         me (i12+1) ()))))∧∀c7,me (Int.toNat (i7:Int)) c7→k7 c7)))
    ∃ep:Nat→(Unit)→Prop,ep 0 ()∧(∀(i6:Nat) (d1:Unit),i6<Int.toNat v5→ep i6 d1→(
     let bx:=y6 x0 (i6:Int)
     (GR x0 (i6:Int))∧
     ((bx != 0)=false→(
      ep (i6+1) ()))))∧∀aV,ep (Int.toNat v5) aV→fx aV
   ∃bB:Nat→(Unit)→Prop,bB 0 ()∧(∀(i5:Nat) (d0:Unit),i5<Int.toNat v4→bB i5 d0→(
    let bA:Attr:=List.getD x0.attrs (Int.toNat (i5:Int)) (aA .Attr)
    let bx:=p3 bA
    (ux bA)∧
    ((bx != 0)=false→(
     ((decide ((oJ x0 ((List.getD x0.attrs (Int.toNat (i5:Int)) (aA .Attr)).name))<(i5:Int)))=false→(
      bB (i5+1) ()))))))∧∀bR,bB (Int.toNat v4) bR→aW bR))))
noncomputable def y9(x0:List aJ):Int:=
 let v1:Int:=(List.length x0:Int)
 bif(decide (v1>256))then
  3
 else
  Sum.elim (fun r=>r) (fun bR=>
   0)
  (bn (fun(i3:Nat) (aV:Unit)=>
   show Step (Int) (Unit)from
   let v5:aJ:=List.getD x0 (Int.toNat (i3:Int)) (aA .aJ)
   let v6:=y8 v5
   bif(v6 != 0)then
    .ret v6
   else
    Sum.elim (fun r=>r) (fun dp=>
     .bq ())
    (bn (fun(i8:Nat) (c7:Unit)=>
     show Step (Step (Int) (Unit)) (Unit)from
     bif(cM .eql ((List.getD x0 (Int.toNat (i8:Int)) (aA .aJ)).name) ((List.getD x0 (Int.toNat (i3:Int)) (aA .aJ)).name))then
      .ret (.ret 9)
     else
      .bq ()) 0 (Int.toNat (i3:Int)) ():(Step (Int) (Unit))⊕(Unit))) 0 (Int.toNat v1) ():Int⊕(Unit))
def GV(x0:List aJ):Prop:=
 let v1:Int:=(List.length x0:Int)
 ((decide (v1>256))=false→(
  ∃bB:Nat→(Unit)→Prop,bB 0 ()∧∀(i3:Nat) (d0:Unit),i3<Int.toNat v1→bB i3 d0→(
   let v5:aJ:=List.getD x0 (Int.toNat (i3:Int)) (aA .aJ)
   let v6:=y8 v5
   (GU v5)∧
   ((v6 != 0)=false→(
    (0≤(i3:Int)∧(i3:Int)<(9223372036854775808:Int))∧
    let fx:Unit→Prop:=fun aV=>
     bB (i3+1) ()
    ∃ep:Nat→(Unit)→Prop,ep 0 ()∧(∀(i8:Nat) (d1:Unit),i8<Int.toNat (i3:Int)→ep i8 d1→(
     (0≤(i8:Int)∧(i8:Int)<(List.length x0:Int))∧
     ((cM .eql ((List.getD x0 (Int.toNat (i8:Int)) (aA .aJ)).name) ((List.getD x0 (Int.toNat (i3:Int)) (aA .aJ)).name))=false→(
      ep (i8+1) ()))))∧∀aV,ep (Int.toNat (i3:Int)) aV→fx aV)))))
noncomputable def re(x0:List ByteArray)(ar:ByteArray):Int:=
 let v2:Int:=(List.length x0:Int)
 Sum.elim (fun r=>r) (fun bR=>
  (-1))
 (bn (fun(i3:Nat) (aV:Unit)=>
  show Step (Int) (Unit)from
  bif(cM .eql (List.getD x0 (Int.toNat (i3:Int)) (aA .str)) ar)then
   .ret (i3:Int)
  else
   .bq ()) 0 (Int.toNat v2) ():Int⊕(Unit))
noncomputable def lD(x0:Home)(ar:ByteArray):Int:=
 let v2:Int:=(List.length x0.bp:Int)
 Sum.elim (fun r=>r) (fun bR=>
  (-1))
 (bn (fun(i3:Nat) (aV:Unit)=>
  show Step (Int) (Unit)from
  bif(cM .eql ((List.getD x0.bp (Int.toNat (i3:Int)) (aA .aJ)).name) ar)then
   .ret (i3:Int)
  else
   .bq ()) 0 (Int.toNat v2) ():Int⊕(Unit))
def Cw(x0:Home)(ar:ByteArray):Prop:=
 let v2:Int:=(List.length x0.bp:Int)
 0≤v2∧v2<(9223372036854775808:Int)
noncomputable def rh(x0:Home)(ar:bu):Int:=
 let v4:Int:=(List.length ar.bp:Int)
 bif((decide ((List.length ar.bp:Int)<1))||(decide (v4>4)))then
  3
 else
  Sum.elim (fun r=>r) (fun bR=>
   bif(decide (bR>24))then
    3
   else
    0)
  (bn (fun(i8:Nat) (aV:Int)=>
   show Step (Int) (Int)from
   let v11:=lD x0 (List.getD ar.bp (Int.toNat (i8:Int)) (aA .str))
   bif(decide (v11<0))then
    .ret 8
   else
    bif(decide ((re ar.bp (List.getD ar.bp (Int.toNat (i8:Int)) (aA .str)))<(i8:Int)))then
     .ret 9
    else
     .bq (IntKind.wrap .i64 (aV+(List.length ((List.getD x0.bp (Int.toNat v11) (aA .aJ)).attrs):Int)))) 0 (Int.toNat v4) 0:Int⊕(Int))
def GX(x0:Home)(ar:bu):Prop:=
 let v4:Int:=(List.length ar.bp:Int)
 (((decide ((List.length ar.bp:Int)<1))||(decide (v4>4)))=false→(
  ∃bB:Nat→(Int)→Prop,bB 0 0∧∀(i8:Nat) (d0:Int),i8<Int.toNat v4→bB i8 d0→(
   let v10:ByteArray:=List.getD ar.bp (Int.toNat (i8:Int)) (aA .str)
   let v11:=lD x0 v10
   (Cw x0 v10)∧
   ((decide (v11<0))=false→(
    ((decide ((re ar.bp (List.getD ar.bp (Int.toNat (i8:Int)) (aA .str)))<(i8:Int)))=false→(
     (0≤v11∧v11<(List.length x0.bp:Int))∧
     bB (i8+1) (IntKind.wrap .i64 (d0+(List.length ((List.getD x0.bp (Int.toNat v11) (aA .aJ)).attrs):Int))))))))))
noncomputable def p8(x0:Home)(ar:Int):Int:=
 let v2:bu:=List.getD x0.bl (Int.toNat ar) (aA .bu)
 let ea:Bool:=(((((decide (v2.id<1))||(decide (v2.id>250)))||(decide (v2.oL<0)))||(decide (v2.oL>255)))||((!v2.oM)&&(v2.kZ != 0)))||(v2.oM&&((decide (v2.kZ<4))||(decide (v2.kZ>3600))))
 bif ea then
  2
 else
  bif((decide (ar>0))&&(decide (((List.getD x0.bl (Int.toNat (IntKind.wrap .i64 (ar-(1:Int)))) (aA .bu)).id)≥v2.id)))then
   14
  else
   Sum.elim (fun r=>r) (fun bR=>
    bif(!(jW v2.room))then
     10
    else
     (rh x0 v2))
   (bn (fun(i24:Nat) (aV:Unit)=>
    show Step (Int) (Unit)from
    bif(((List.getD x0.bl (Int.toNat (i24:Int)) (aA .bu)).hg)==v2.hg)then
     .ret 9
    else
     .bq ()) 0 (Int.toNat ar) ():Int⊕(Unit))
def GY(x0:Home)(ar:Int):Prop:=
 let v2:bu:=List.getD x0.bl (Int.toNat ar) (aA .bu)
 (0≤ar∧ar<(List.length x0.bl:Int))∧
 let ea:Bool:=(((((decide (v2.id<1))||(decide (v2.id>250)))||(decide (v2.oL<0)))||(decide (v2.oL>255)))||((!v2.oM)&&(v2.kZ != 0)))||(v2.oM&&((decide (v2.kZ<4))||(decide (v2.kZ>3600))))
 (ea=false→(
  let b7:=decide (ar>0)
  let v20:Int:=IntKind.wrap .i64 (ar-(1:Int))
  (b7=true→0≤v20∧v20<(List.length x0.bl:Int))∧
  ((b7&&(decide (((List.getD x0.bl (Int.toNat v20) (aA .bu)).id)≥v2.id)))=false→(
   (0≤ar∧ar<(9223372036854775808:Int))∧
   let aW:Unit→Prop:=fun bR=>
    (p0 v2.room)∧
    ((!(jW v2.room))=false→(
     GX x0 v2))
   ∃bB:Nat→(Unit)→Prop,bB 0 ()∧(∀(i24:Nat) (d0:Unit),i24<Int.toNat ar→bB i24 d0→(
    (0≤(i24:Int)∧(i24:Int)<(List.length x0.bl:Int))∧
    ((((List.getD x0.bl (Int.toNat (i24:Int)) (aA .bu)).hg)==v2.hg)=false→(
     bB (i24+1) ()))))∧∀bR,bB (Int.toNat ar) bR→aW bR))))
noncomputable def p7(x0:Home):Int:=
 let v1:=y9 x0.bp
 bif(v1 != 0)then
  v1
 else
  let v3:Int:=(List.length x0.bl:Int)
  bif(decide (v3>20))then
   3
  else
   Sum.elim (fun r=>r) (fun bR=>
    0)
   (bn (fun(i5:Nat) (aV:Unit)=>
    show Step (Int) (Unit)from
    let bA:=p8 x0 (i5:Int)
    bif(bA != 0)then
     .ret bA
    else
     .bq ()) 0 (Int.toNat v3) ():Int⊕(Unit))
def Cx(x0:Home):Prop:=
 let v1:=y9 x0.bp
 (GV x0.bp)∧
 ((v1 != 0)=false→(
  let v3:Int:=(List.length x0.bl:Int)
  ((decide (v3>20))=false→(
   ∃bB:Nat→(Unit)→Prop,bB 0 ()∧∀(i5:Nat) (d0:Unit),i5<Int.toNat v3→bB i5 d0→(
    let bA:=p8 x0 (i5:Int)
    (GY x0 (i5:Int))∧
    ((bA != 0)=false→(
     bB (i5+1) ())))))))
noncomputable def wy(x0:bs):Bool:=
 let v3:Bool:=(x0.kind==1)||(x0.kind==2)
 let v12:Bool:=((!v3)&&(cM .neq x0.key.attr (⟨#[]⟩:ByteArray)))||(((!v3)&&(x0.kind != 3))&&(!(bif x0.key.dev==0 then bif dE x0.key.dk (⟨#[]⟩:ByteArray)then dE x0.key.attr (⟨#[]⟩:ByteArray)else false else false)))
 bif v12 then
  false
 else
  let zaV:Bool:=(((((x0.kind==3)||(x0.kind==4))||(x0.kind==5))||(x0.kind==6))||(cM .eql x0.name (⟨#[]⟩:ByteArray)))&&(((x0.kind==2)||(x0.kind==3))||(bif x0.value.kind==0 then bif x0.value.n==0 then dE x0.value.s (⟨#[]⟩:ByteArray)else false else false))
  (zaV&&((x0.kind==7)||(cM .eql x0.text (⟨#[]⟩:ByteArray))))
noncomputable def p9(x0:Home)(ar:Int):Int:=
 let v2:Int:=(List.length x0.bl:Int)
 Sum.elim (fun r=>r) (fun bR=>
  (-1))
 (bn (fun(i3:Nat) (aV:Unit)=>
  show Step (Int) (Unit)from
  bif(((List.getD x0.bl (Int.toNat (i3:Int)) (aA .bu)).id)==ar)then
   .ret (i3:Int)
  else
   .bq ()) 0 (Int.toNat v2) ():Int⊕(Unit))
def Qy(x0:Home)(ar:Int):Prop:=
 let v2:Int:=(List.length x0.bl:Int)
 0≤v2∧v2<(9223372036854775808:Int)
noncomputable def sJ(x0:Home)(ar:Int)(b6:ByteArray):aJ × Bool:=
 let v3:=p9 x0 ar
 let v4:=decide (v3<0)
 let aM:Int→aJ × Bool:=fun v5=>
  let bA:Bool:=v4||(v5 != 0)
  let aM:Int→aJ × Bool:=fun v9=>
   bif(bA||(decide (v9<0)))then
    (⟨⟨#[]⟩,[],[],[]⟩,false)
   else
    let bT:aJ:=List.getD x0.bp (Int.toNat (lD x0 b6)) (aA .aJ)
    (bT,true)
  bif bA then
   aM (0:Int)
  else
   aM (re ((List.getD x0.bl (Int.toNat v3) (aA .bu)).bp) b6)
 bif v4 then
  aM (0:Int)
 else
  aM (p7 x0)
def Cy(x0:Home)(ar:Int)(b6:ByteArray):Prop:=
 let v3:=p9 x0 ar
 (Qy x0 ar)∧
 let v4:=decide (v3<0)
 let aM:Int→Prop:=fun v5=>
  let bA:Bool:=v4||(v5 != 0)
  (bA=false→0≤v3∧v3<(List.length x0.bl:Int))∧
  let aM:Int→Prop:=fun v9=>
   ((bA||(decide (v9<0)))=false→(
    let v12:=lD x0 b6
    (Cw x0 b6)∧
    let bT:aJ:=List.getD x0.bp (Int.toNat v12) (aA .aJ)
    0≤v12∧v12<(List.length x0.bp:Int)))
  (bA=true→(
   aM (0:Int)))∧(bA=false→(
   aM (re ((List.getD x0.bl (Int.toNat v3) (aA .bu)).bp) b6)))
 (v4=true→(
  aM (0:Int)))∧(v4=false→(
  (Cx x0)∧
  aM (p7 x0)))
noncomputable def zc(x0:Home)(ar:dh):Attr × Bool:=
 let v2:=sJ x0 ar.dev ar.dk
 bif !v2.2 then
  (⟨⟨#[]⟩,0,0,0,[],false,false⟩,false)
 else
  let v6:=uv v2.1 ar.attr
  (v6.1,v6.2)
def G4(x0:Home)(ar:dh):Prop:=
 let v2:=sJ x0 ar.dev ar.dk
 (Cy x0 ar.dev ar.dk)∧
 ((!v2.2)=false→(
  let v6:=uv v2.1 ar.attr
  Ct v2.1 ar.attr))
noncomputable def CA(x0:Home)(ar:bs):Int:=
 let v2:=zc x0 ⟨ar.key.dev,ar.key.dk,ar.key.attr⟩
 bif !v2.2 then
  8
 else
  bif(ar.kind==1)then
   0
  else
   bif !v2.1.fB then
    24
   else
    (wm v2.1 ⟨ar.value.kind,ar.value.n,ar.value.s⟩)
def G5(x0:Home)(ar:bs):Prop:=
 let v2:=zc x0 ⟨ar.key.dev,ar.key.dk,ar.key.attr⟩
 (G4 x0 ⟨ar.key.dev,ar.key.dk,ar.key.attr⟩)∧
 ((!v2.2)=false→(
  ((ar.kind==1)=false→(
   ((!v2.1.fB)=false→(
    zb v2.1 ⟨ar.value.kind,ar.value.n,ar.value.s⟩))))))
noncomputable def zd(x0:aJ)(ar:ByteArray):Command × Bool:=
 let v2:Int:=(List.length x0.commands:Int)
 Sum.elim (fun r=>r) (fun bR=>
  (⟨⟨#[]⟩,⟨⟨#[]⟩,0,0,0,[],false,false⟩,[]⟩,false))
 (bn (fun(i3:Nat) (aV:Unit)=>
  show Step (Command × Bool) (Unit)from
  bif(cM .eql ((List.getD x0.commands (Int.toNat (i3:Int)) (aA .Command)).name) ar)then
   let bA:Command:=List.getD x0.commands (Int.toNat (i3:Int)) (aA .Command)
   .ret (bA,true)
  else
   .bq ()) 0 (Int.toNat v2) ():(Command × Bool)⊕(Unit))
noncomputable def CC(x0:Home)(ar:bs):Int:=
 let v2:=sJ x0 ar.key.dev ar.key.dk
 bif !v2.2 then
  8
 else
  let v6:=zd v2.1 ar.name
  bif !v6.2 then
   8
  else
   bif(v6.1.param.kind != 0)then
    (wm ⟨v6.1.param.name,v6.1.param.kind,v6.1.param.min,v6.1.param.max,v6.1.param.enum,v6.1.param.fB,v6.1.param.safety⟩ ⟨ar.value.kind,ar.value.n,ar.value.s⟩)
   else
    bif(!(bif ar.value.kind==0 then bif ar.value.n==0 then dE ar.value.s (⟨#[]⟩:ByteArray)else false else false))then
     11
    else
     0
def G6(x0:Home)(ar:bs):Prop:=
 let v2:=sJ x0 ar.key.dev ar.key.dk
 (Cy x0 ar.key.dev ar.key.dk)∧
 ((!v2.2)=false→(
  let v6:=zd v2.1 ar.name
  ((!v6.2)=false→(
   ((v6.1.param.kind != 0)=true→(
    zb ⟨v6.1.param.name,v6.1.param.kind,v6.1.param.min,v6.1.param.max,v6.1.param.enum,v6.1.param.fB,v6.1.param.safety⟩ ⟨ar.value.kind,ar.value.n,ar.value.s⟩))))))
noncomputable def zf(x0:Home)(ar:bs):Int:=
 let v2:=p7 x0
 bif(v2 != 0)then
  v2
 else
  bif((decide (ar.kind<1))||(decide (ar.kind>7)))then
   7
  else
   bif((decide (ar.dy<0))||(decide (ar.dy>1099511627776)))then
    2
   else
    bif(!(wy ar))then
     1
    else
     let aM:Bool→Int:=fun v12=>
      bif v12 then
       (CA x0 ar)
      else
       bif(ar.kind==3)then
        (CC x0 ar)
       else
        bif(ar.kind==7)then
         bif(decide ((ByteArray.size ar.text:Int)>20000))then
          3
         else
          0
        else
         bif(!(jW ar.name))then
          10
         else
          0
     let v12:=ar.kind==1
     bif v12 then
      aM v12
     else
      aM (ar.kind==2)
def Cz(x0:Home)(ar:bs):Prop:=
 let v2:=p7 x0
 (Cx x0)∧
 ((v2 != 0)=false→(
  (((decide (ar.kind<1))||(decide (ar.kind>7)))=false→(
   (((decide (ar.dy<0))||(decide (ar.dy>1099511627776)))=false→(
    ((!(wy ar))=false→(
     let aM:Bool→Prop:=fun v12=>
      (v12=true→(
       G5 x0 ar))∧(v12=false→(
       ((ar.kind==3)=true→(
        G6 x0 ar))∧((ar.kind==3)=false→(
        ((ar.kind==7)=false→(
         p0 ar.name))))))
     let v12:=ar.kind==1
     (v12=true→(
      aM v12))∧(v12=false→(
      aM (ar.kind==2)))))))))))
noncomputable def Qz(x0:ByteArray):Int:=
 let v1:Int:=(ByteArray.size x0:Int)
 Sum.elim (fun r=>r) (fun bR=>
  bR)
 (bn (fun(i3:Nat) (aV:Int)=>
  show Step (Int) (Int)from
  .bq (IntKind.wrap .u64 ((bz .xor .u64 aV (IntKind.wrap .u64 (ei x0 (i3:Int))))*(1099511628211:Int)))) 0 (Int.toNat v1) 14695981039346656037:Int⊕(Int))
def G9(x0:ByteArray):Prop:=
 let v1:Int:=(ByteArray.size x0:Int)
 0≤v1∧v1<(9223372036854775808:Int)
noncomputable def HD(x0:Int)(ar:ByteArray):Int:=
 let ea:List Int:=([(IntKind.wrap .u8 (bz .shr .u64 x0 (56:Int))),(IntKind.wrap .u8 (bz .shr .u64 x0 (48:Int))),(IntKind.wrap .u8 (bz .shr .u64 x0 (40:Int))),(IntKind.wrap .u8 (bz .shr .u64 x0 (32:Int))),(IntKind.wrap .u8 (bz .shr .u64 x0 (24:Int))),(IntKind.wrap .u8 (bz .shr .u64 x0 (16:Int))),(IntKind.wrap .u8 (bz .shr .u64 x0 (8:Int))),(IntKind.wrap .u8 (bz .shr .u64 x0 (0:Int)))]:List Int)
 let b7:=bytesOf ea
 (IntKind.wrap .i64 (bz .shr .u64 (Qz (ByteArray.append (ByteArray.append b7 ar) b7)) (32:Int)))
def CF(x0:Int)(ar:ByteArray):Prop:=
 let ea:List Int:=([(IntKind.wrap .u8 (bz .shr .u64 x0 (56:Int))),(IntKind.wrap .u8 (bz .shr .u64 x0 (48:Int))),(IntKind.wrap .u8 (bz .shr .u64 x0 (40:Int))),(IntKind.wrap .u8 (bz .shr .u64 x0 (32:Int))),(IntKind.wrap .u8 (bz .shr .u64 x0 (24:Int))),(IntKind.wrap .u8 (bz .shr .u64 x0 (16:Int))),(IntKind.wrap .u8 (bz .shr .u64 x0 (8:Int))),(IntKind.wrap .u8 (bz .shr .u64 x0 (0:Int)))]:List Int)
 let b7:=bytesOf ea
 let v20:=ByteArray.append b7 ar
 (ByteArray.size b7+ByteArray.size ar≤9223372036854775807)∧
 let v21:=ByteArray.append v20 b7
 (ByteArray.size v20+ByteArray.size b7≤9223372036854775807)∧
 G9 v21
noncomputable def qa(x0:Int)(ar:ByteArray):ByteArray × Int:=
 let v2:Int:=(ByteArray.size ar:Int)
 bif(decide (v2<4))then
  (⟨#[]⟩,5)
 else
  let v5:=mU ar none (some (IntKind.wrap .i64 (v2-(4:Int))))
  let v6:=HD x0 v5
  let dM:List Int:=([(IntKind.wrap .u8 (bz .shr .i64 v6 (24:Int))),(IntKind.wrap .u8 (bz .shr .i64 v6 (16:Int))),(IntKind.wrap .u8 (bz .shr .i64 v6 (8:Int))),(IntKind.wrap .u8 (bz .shr .i64 v6 (0:Int)))]:List Int)
  bif(cM .neq (mU ar (some (ByteArray.size v5:Int)) none) (bytesOf dM))then
   (⟨#[]⟩,6)
  else
   (v5,0)
def Ha(x0:Int)(ar:ByteArray):Prop:=
 let v2:Int:=(ByteArray.size ar:Int)
 ((decide (v2<4))=false→(
  let v4:Int:=IntKind.wrap .i64 (v2-(4:Int))
  let v5:=mU ar none (some v4)
  (iZ (ByteArray.size ar) none (some v4))∧
  let v6:=HD x0 v5
  (CF x0 v5)∧
  let eS:Int:=(ByteArray.size v5:Int)
  iZ (ByteArray.size ar) (some eS) none))
noncomputable def QA(x0:eL):Int:=
 bif(!(iq x0.e8))then
  10
 else
  bif(((((decide (x0.id<1))||(decide (x0.id>1099511627776)))||(decide (x0.oS<0)))||(decide (x0.oS>x0.oT)))||(decide (x0.oT>1099511627776)))then
   2
  else
   bif(decide ((IntKind.wrap .i64 (x0.oT-x0.oS))>43200))then
    3
   else
    0
def QB(x0:eL):Prop:=
 nH x0.e8
noncomputable def HE(x0:Int)(ar:ByteArray):eL × Int:=
 let v2:=oO ar
 bif(v2.2 != 0)then
  (⟨⟨#[]⟩,0,0,0⟩,v2.2)
 else
  let v6:=qa x0 v2.1
  bif(v6.2 != 0)then
   (⟨⟨#[]⟩,0,0,0⟩,v6.2)
  else
   let v10:=hH ⟨v6.1,0,true⟩ (24:Int)
   let bT:=gq v10.1
   let c8:=gq bT.1
   let b7:=gq c8.1
   let v22:=v7 b7.1
   let aM:Int→eL × Int:=fun v25=>
    bif(v25 != 0)then
     (⟨⟨#[]⟩,0,0,0⟩,v25)
    else
     (⟨v10.2,bT.2,c8.2,b7.2⟩,0)
   bif(v22.2==0)then
    aM (QA ⟨v10.2,bT.2,c8.2,b7.2⟩)
   else
    aM v22.2
def Hb(x0:Int)(ar:ByteArray):Prop:=
 let v2:=oO ar
 (CE ar)∧
 ((v2.2 != 0)=false→(
  let v6:=qa x0 v2.1
  (Ha x0 v2.1)∧
  ((v6.2 != 0)=false→(
   let v10:=hH ⟨v6.1,0,true⟩ (24:Int)
   (sB ⟨v6.1,0,true⟩ (24:Int))∧
   let bT:=gq v10.1
   (nC v10.1)∧
   let c8:=gq bT.1
   (nC bT.1)∧
   let b7:=gq c8.1
   (nC c8.1)∧
   let v22:=v7 b7.1
   ((v22.2==0)=true→(
    QB ⟨v10.2,bT.2,c8.2,b7.2⟩))))))
noncomputable def QC(x0:List Int)(ar:Int):Int:=
 let v2:Int:=(List.length x0:Int)
 Sum.elim (fun r=>r) (fun bR=>
  (-1))
 (bn (fun(i3:Nat) (aV:Unit)=>
  show Step (Int) (Unit)from
  bif(ar==(List.getD x0 (Int.toNat (i3:Int)) (aA .i64)))then
   .ret (i3:Int)
  else
   .bq ()) 0 (Int.toNat v2) ():Int⊕(Unit))
noncomputable def QD(x0:List Int)(ar:Int):Bool:=
 (decide ((QC x0 ar)≥0))
noncomputable def lE(x0:Int)(ar:ByteArray)(b6:Int)(cc:List Int):eL × Int:=
 let v4:=HE x0 ar
 let aM:Int→eL × Int:=fun bA=>
  (⟨⟨#[]⟩,0,0,0⟩,bA)
 bif(v4.2 != 0)then
  aM v4.2
 else
  bif((decide (b6<v4.1.oS))||(decide (b6≥v4.1.oT)))then
   aM (17:Int)
  else
   bif(QD cc v4.1.id)then
    aM (16:Int)
   else
    (v4.1,0)
def Hc(x0:Int)(ar:ByteArray)(b6:Int)(cc:List Int):Prop:=
 let v4:=HE x0 ar
 Hb x0 ar
noncomputable def zy(x0:eR):Bool:=
 (((decide (0≤x0.from_))&&(decide (x0.from_<x0.wL)))&&(decide (x0.wL≤10080)))
noncomputable def HF(x0:List eR):Int:=
 let v1:Int:=(List.length x0:Int)
 bif(decide (v1>256))then
  3
 else
  Sum.elim (fun r=>r) (fun bR=>
   0)
  (bn (fun(i3:Nat) (aV:Unit)=>
   show Step (Int) (Unit)from
   let v5:eR:=List.getD x0 (Int.toNat (i3:Int)) (aA .eR)
   bif(!(zy v5))then
    .ret 2
   else
    .bq ()) 0 (Int.toNat v1) ():Int⊕(Unit))
noncomputable def HG(x0:Home)(ar:List cw)(b6:Int):Int:=
 let v3:cw:=List.getD ar (Int.toNat b6) (aA .cw)
 bif(!(iq v3.name))then
  10
 else
  let v6:=iK ar none (some b6)
  let bN:Int→Int:=fun bA=>
   bif(decide (bA≥0))then
    9
   else
    bif((decide (v3.role<1))||(decide (v3.role>4)))then
     2
    else
     let v12:=HF v3.nK
     bif(v12 != 0)then
      v12
     else
      let b7:Int:=(List.length v3.fY:Int)
      bif((cC.den (.nM true) (v3.role==1) (decide ((List.length v3.nK:Int)>0)))||((decide (v3.role≥3))&&(decide (b7>0))))then
       4
      else
       bif(decide (b7>256))then
        3
       else
        Sum.elim (fun r=>r) (fun bR=>
         0)
        (bn (fun(i24:Nat) (aV:Unit)=>
         show Step (Int) (Unit)from
         let v26:ByteArray:=List.getD v3.fY (Int.toNat (i24:Int)) (aA .str)
         bif(!(iq v26))then
          .ret 10
         else
          let bN:Int→Step (Int) (Unit):=fun iu=>
           bif(!(decide (iu≥0)))then
            .ret 8
           else
            .bq ()
          let iu:Int:=(List.length x0.bl:Int)
          Sum.elim (fun r=>r) (fun dp=>
           bN ((-1):Int))
          (bn (fun(i30:Nat) (c7:Unit)=>
           show Step (Step (Int) (Unit)) (Unit)from
           bif(cM .eql ((List.getD x0.bl (Int.toNat (i30:Int)) (aA .bu)).room) v26)then
            .ret (bN (i30:Int))
           else
            .bq ()) 0 (Int.toNat iu) ():(Step (Int) (Unit))⊕(Unit))) 0 (Int.toNat b7) ():Int⊕(Unit))
  let bA:Int:=(List.length v6:Int)
  Sum.elim (fun r=>r) (fun gi=>
   bN ((-1):Int))
  (bn (fun(i8:Nat) (iN:Unit)=>
   show Step (Int) (Unit)from
   bif(cM .eql ((List.getD v6 (Int.toNat (i8:Int)) (aA .cw)).name) v3.name)then
    .ret (bN (i8:Int))
   else
    .bq ()) 0 (Int.toNat bA) ():Int⊕(Unit))
def CK(x0:Home)(ar:List cw)(b6:Int):Prop:=
 let v3:cw:=List.getD ar (Int.toNat b6) (aA .cw)
 (0≤b6∧b6<(List.length ar:Int))∧
 (nH v3.name)∧
 ((!(iq v3.name))=false→(
  let v6:=iK ar none (some b6)
  (iZ (List.length ar) none (some b6))∧
  let bN:Int→Prop:=fun bA=>
   ((decide (bA≥0))=false→(
    (((decide (v3.role<1))||(decide (v3.role>4)))=false→(
     let v12:=HF v3.nK
     ((v12 != 0)=false→(
      let b7:Int:=(List.length v3.fY:Int)
      (((cC.den (.nM true) (v3.role==1) (decide ((List.length v3.nK:Int)>0)))||((decide (v3.role≥3))&&(decide (b7>0))))=false→(
       ((decide (b7>256))=false→(
        ∃bB:Nat→(Unit)→Prop,bB 0 ()∧∀(i24:Nat) (d0:Unit),i24<Int.toNat b7→bB i24 d0→(
         let v26:ByteArray:=List.getD v3.fY (Int.toNat (i24:Int)) (aA .str)
         (nH v26)∧
         ((!(iq v26))=false→(
          let bN:Int→Prop:=fun iu=>
           ((!(decide (iu≥0)))=false→(
            bB (i24+1) ()))
          let iu:Int:=(List.length x0.bl:Int)
          let fx:Unit→Prop:=fun aV=>
           bN ((-1):Int)
          ∃ep:Nat→(Unit)→Prop,ep 0 ()∧(∀(i30:Nat) (d1:Unit),i30<Int.toNat iu→ep i30 d1→(
           ((cM .eql ((List.getD x0.bl (Int.toNat (i30:Int)) (aA .bu)).room) v26)=true→(
            bN (i30:Int)))∧((cM .eql ((List.getD x0.bl (Int.toNat (i30:Int)) (aA .bu)).room) v26)=false→(
            ep (i30+1) ()))))∧∀aV,ep (Int.toNat iu) aV→fx aV)))))))))))))
  let bA:Int:=(List.length v6:Int)
  let gG:Unit→Prop:=fun dp=>
   bN ((-1):Int)
  ∃kD:Nat→(Unit)→Prop,kD 0 ()∧(∀(i8:Nat) (d2:Unit),i8<Int.toNat bA→kD i8 d2→(
   ((cM .eql ((List.getD v6 (Int.toNat (i8:Int)) (aA .cw)).name) v3.name)=true→(
    bN (i8:Int)))∧((cM .eql ((List.getD v6 (Int.toNat (i8:Int)) (aA .cw)).name) v3.name)=false→(
    kD (i8+1) ()))))∧∀dp,kD (Int.toNat bA) dp→gG dp))
noncomputable def QE(x0:cw):Bool:=
 (x0.role==4)
noncomputable def HH(x0:Home)(ar:List cw):Int:=
 let v2:=fS x0
 bif(v2 != 0)then
  v2
 else
  let v6:Int:=(List.length ar:Int)
  bif((decide ((List.length ar:Int)<1))||(decide (v6>16)))then
   3
  else
   Sum.elim (fun r=>r) (fun bR=>
    let bN:Int→Int:=fun v9=>
     bif(!(decide (v9≥0)))then
      8
     else
      0
    Sum.elim (fun r=>r) (fun aV=>
     bN ((-1):Int))
    (bn (fun(i9:Nat) (dp:Unit)=>
     show Step (Int) (Unit)from
     let v11:cw:=List.getD ar (Int.toNat (i9:Int)) (aA .cw)
     bif(QE v11)then
      .ret (bN (i9:Int))
     else
      .bq ()) 0 (Int.toNat v6) ():Int⊕(Unit)))
   (bn (fun(i9:Nat) (c7:Unit)=>
    show Step (Int) (Unit)from
    let v11:=HG x0 ar (i9:Int)
    bif(v11 != 0)then
     .ret v11
    else
     .bq ()) 0 (Int.toNat v6) ():Int⊕(Unit))
def Hf(x0:Home)(ar:List cw):Prop:=
 let v2:=fS x0
 (yY x0)∧
 ((v2 != 0)=false→(
  let v6:Int:=(List.length ar:Int)
  (((decide ((List.length ar:Int)<1))||(decide (v6>16)))=false→(
   ∃bB:Nat→(Unit)→Prop,bB 0 ()∧∀(i9:Nat) (d0:Unit),i9<Int.toNat v6→bB i9 d0→(
    let v11:=HG x0 ar (i9:Int)
    (CK x0 ar (i9:Int))∧
    ((v11 != 0)=false→(
     bB (i9+1) ())))))))
def QF(x:List eR):List eR:=x
def Hh(x:List eR):Prop:=x.length≤maxLen∧x.length*16≤140737488355328
noncomputable def HI(x0:List cw)(ar:ByteArray):cw × Bool:=
 let v2:Int:=(List.length x0:Int)
 Sum.elim (fun r=>r) (fun bR=>
  (⟨⟨#[]⟩,0,[],[],false⟩,false))
 (bn (fun(i3:Nat) (aV:Unit)=>
  show Step (cw × Bool) (Unit)from
  let v5:cw:=List.getD x0 (Int.toNat (i3:Int)) (aA .cw)
  bif(cM .eql v5.name ar)then
   .ret (⟨v5.name,v5.role,(QF v5.nK),(C6 v5.fY),v5.home⟩,true)
  else
   .bq ()) 0 (Int.toNat v2) ():(cw × Bool)⊕(Unit))
def Hg(x0:List cw)(ar:ByteArray):Prop:=
 let v2:Int:=(List.length x0:Int)
 ∃bB:Nat→(Unit)→Prop,bB 0 ()∧∀(i3:Nat) (d0:Unit),i3<Int.toNat v2→bB i3 d0→(
  let v5:cw:=List.getD x0 (Int.toNat (i3:Int)) (aA .cw)
  ((cM .eql v5.name ar)=true→(
   (Hh v5.nK)∧
   wh v5.fY))∧((cM .eql v5.name ar)=false→(
   bB (i3+1) ())))
noncomputable def oU(x0:Home)(ar:Int):ByteArray:=
 let v2:=l9 x0 ar
 v2.1.room
def rm(x0:Home)(ar:Int):Prop:=
 let v2:=l9 x0 ar
 yZ x0 ar
noncomputable def C7(x0:Home)(ar:dh):Bool:=
 let v2:=uy x0 ar
 (v2.2&&v2.1.safety)
def CM(x0:Home)(ar:dh):Prop:=
 let v2:=uy x0 ar
 Cn x0 ar
noncomputable def HJ(x0:Home)(ar:Int):(List dh):=
 let v2:=l9 x0 ar
 let v6:Int:=(List.length v2.1.bp:Int)
 Sum.elim (fun r=>r) (fun bR=>
  bR)
 (bn (fun(i8:Nat) (aV:(List dh))=>
  show Step ((List dh)) ((List dh))from
  let v10:ByteArray:=List.getD v2.1.bp (Int.toNat (i8:Int)) (aA .str)
  let v11:aJ:=(jF (.str) (kB x0) v10).getD (aA .aJ)
  let v12:Int:=(List.length v11.attrs:Int)
  Sum.elim (fun r=>r) (fun dp=>
   .bq dp)
  (bn (fun(i14:Nat) (c7:(List dh))=>
   show Step (Step ((List dh)) ((List dh))) ((List dh))from
   .bq (List.append c7 ([⟨ar,v10,(List.getD v11.attrs (Int.toNat (i14:Int)) (aA .Attr)).name⟩]:List dh))) 0 (Int.toNat v12) aV:(Step ((List dh)) ((List dh)))⊕((List dh)))) 0 (Int.toNat v6) []:(List dh)⊕((List dh)))
def Hi(x0:Home)(ar:Int):Prop:=
 let v2:=l9 x0 ar
 (yZ x0 ar)∧
 let v6:Int:=(List.length v2.1.bp:Int)
 ∃bB:Nat→((List dh))→Prop,bB 0 []∧∀(i8:Nat) (d0:(List dh)),i8<Int.toNat v6→bB i8 d0→(
  let v10:ByteArray:=List.getD v2.1.bp (Int.toNat (i8:Int)) (aA .str)
  let v11:aJ:=(jF (.str) (kB x0) v10).getD (aA .aJ)
  let v12:Int:=(List.length v11.attrs:Int)
  let fx:(List dh)→Prop:=fun aV=>
   bB (i8+1) aV
  ∃ep:Nat→((List dh))→Prop,ep 0 d0∧(∀(i14:Nat) (d1:(List dh)),i14<Int.toNat v12→ep i14 d1→(
   let dM:List dh:=([⟨ar,v10,(List.getD v11.attrs (Int.toNat (i14:Int)) (aA .Attr)).name⟩]:List dh)
   (List.length d1+List.length dM≤maxLen∧(List.length d1+List.length dM)*40≤140737488355328)∧
   ep (i14+1) (List.append d1 dM)))∧∀aV,ep (Int.toNat v12) aV→fx aV)
noncomputable def C8(x0:Home)(ar:bs):Bool:=
 bif(ar.kind==2)then
  (C7 x0 ⟨ar.key.dev,ar.key.dk,ar.key.attr⟩)
 else
  let v3:=HJ x0 ar.key.dev
  let eC:Int→Bool:=fun v4=>
   (decide (v4≥0))
  let v4:Int:=(List.length v3:Int)
  Sum.elim (fun r=>r) (fun bR=>
   eC ((-1):Int))
  (bn (fun(i5:Nat) (aV:Unit)=>
   show Step (Bool) (Unit)from
   let bA:dh:=List.getD v3 (Int.toNat (i5:Int)) (aA .dh)
   let bx:=cM .eql bA.dk ar.key.dk
   let aM:Bool→Step (Bool) (Unit):=fun v9=>
    bif(bx&&v9)then
     .ret (eC (i5:Int))
    else
     .bq ()
   bif bx then
    aM (C7 x0 bA)
   else
    aM false) 0 (Int.toNat v4) ():Bool⊕(Unit))
def wC(x0:Home)(ar:bs):Prop:=
 ((ar.kind==2)=true→(
  CM x0 ⟨ar.key.dev,ar.key.dk,ar.key.attr⟩))∧((ar.kind==2)=false→(
  let v3:=HJ x0 ar.key.dev
  (Hi x0 ar.key.dev)∧
  let v4:Int:=(List.length v3:Int)
  ∃bB:Nat→(Unit)→Prop,bB 0 ()∧∀(i5:Nat) (d0:Unit),i5<Int.toNat v4→bB i5 d0→(
   let bA:dh:=List.getD v3 (Int.toNat (i5:Int)) (aA .dh)
   let bx:=cM .eql bA.dk ar.key.dk
   let aM:Bool→Prop:=fun v9=>
    ((bx&&v9)=false→(
     bB (i5+1) ()))
   (bx=true→(
    (CM x0 bA)∧
    aM (C7 x0 bA)))∧(bx=false→(
    aM false)))))
noncomputable def QG(x0:Home)(ar:cw)(b6:Int)(cc:bs):Int:=
 bif((decide (cc.kind<1))||(decide (cc.kind>7)))then
  7
 else
  bif(ar.role==1)then
   let bx:=decide (b6≥0)
   let eC:Bool→Int:=fun v9=>
    bif(!(bx&&v9))then
     17
    else
     let jI:Int→Int:=fun v12=>
      bif(decide (0<v12))then
       16
      else
       0
     let aM:Bool→Int:=fun v12=>
      bif v12 then
       let eC:Int→Int:=fun fv=>
        fv
       let bN:Int→Int:=fun fv=>
        bif(!(decide (fv≥0)))then
         eC (8:Int)
        else
         let ea:=decide ((List.length ar.fY:Int)>0)
         let aM:ByteArray→Int:=fun b7=>
          let aM:Bool→Int:=fun v20=>
           bif(ea&&(!v20))then
            eC (16:Int)
           else
            bif(C8 x0 cc)then
             eC (16:Int)
            else
             eC (0:Int)
          bif ea then
           aM (iJ ar.fY b7)
          else
           aM false
         bif ea then
          aM (oU x0 cc.key.dev)
         else
          aM (⟨#[]⟩:ByteArray)
       let fv:Int:=(List.length x0.bl:Int)
       Sum.elim (fun r=>r) (fun bR=>
        bN ((-1):Int))
       (bn (fun(i15:Nat) (aV:Unit)=>
        show Step (Int) (Unit)from
        bif(((List.getD x0.bl (Int.toNat (i15:Int)) (aA .bu)).id)==cc.key.dev)then
         .ret (bN (i15:Int))
        else
         .bq ()) 0 (Int.toNat fv) ():Int⊕(Unit))
      else
       bif(cc.kind==4)then
        jI (1:Int)
       else
        bif(cc.kind==5)then
         jI (2:Int)
        else
         let aM:Bool→Int:=fun c8=>
          bif c8 then
           jI (3:Int)
          else
           jI (0:Int)
         let c8:=cc.kind==6
         bif c8 then
          aM c8
         else
          aM (cc.kind==7)
     let v12:=cc.kind==2
     bif v12 then
      aM v12
     else
      aM (cc.kind==3)
   bif bx then
    let bN:Bool→Int:=fun v9=>
     eC v9
    let v9:Int:=bz .rem .i64 b6 (10080:Int)
    let aM:Int→Int:=fun v10=>
     let v12:Int:=(List.length ar.nK:Int)
     Sum.elim (fun r=>r) (fun dp=>
      bN false)
     (bn (fun(i13:Nat) (c7:Unit)=>
      show Step (Int) (Unit)from
      let eS:eR:=List.getD ar.nK (Int.toNat (i13:Int)) (aA .eR)
      bif(((zy eS)&&(decide (eS.from_≤v10)))&&(decide (v10<eS.wL)))then
       .ret (bN true)
      else
       .bq ()) 0 (Int.toNat v12) ():Int⊕(Unit))
    bif(decide (v9<0))then
     aM (IntKind.wrap .i64 (v9+(10080:Int)))
    else
     aM v9
   else
    eC false
  else
   bif(ar.role==2)then
    bif !true then
     17
    else
     let jI:Int→Int:=fun v10=>
      bif(decide (1<v10))then
       16
      else
       0
     bif(cc.kind==2)then
      let eC:Int→Int:=fun v11=>
       v11
      let bN:Int→Int:=fun v11=>
       bif(!(decide (v11≥0)))then
        eC (8:Int)
       else
        let eS:=decide ((List.length ar.fY:Int)>0)
        let aM:ByteArray→Int:=fun c8=>
         let aM:Bool→Int:=fun dM=>
          bif(eS&&(!dM))then
           eC (16:Int)
          else
           bif(C8 x0 cc)then
            eC (16:Int)
           else
            eC (0:Int)
         bif eS then
          aM (iJ ar.fY c8)
         else
          aM false
        bif eS then
         aM (oU x0 cc.key.dev)
        else
         aM (⟨#[]⟩:ByteArray)
      let v11:Int:=(List.length x0.bl:Int)
      Sum.elim (fun r=>r) (fun gi=>
       bN ((-1):Int))
      (bn (fun(i12:Nat) (iN:Unit)=>
       show Step (Int) (Unit)from
       bif(((List.getD x0.bl (Int.toNat (i12:Int)) (aA .bu)).id)==cc.key.dev)then
        .ret (bN (i12:Int))
       else
        .bq ()) 0 (Int.toNat v11) ():Int⊕(Unit))
     else
      bif(cc.kind==3)then
       let eC:Int→Int:=fun v12=>
        v12
       let bN:Int→Int:=fun v12=>
        bif(!(decide (v12≥0)))then
         eC (8:Int)
        else
         let c8:=decide ((List.length ar.fY:Int)>0)
         let aM:ByteArray→Int:=fun dM=>
          let aM:Bool→Int:=fun ea=>
           bif(c8&&(!ea))then
            eC (16:Int)
           else
            bif(C8 x0 cc)then
             eC (16:Int)
            else
             eC (0:Int)
          bif c8 then
           aM (iJ ar.fY dM)
          else
           aM false
         bif c8 then
          aM (oU x0 cc.key.dev)
         else
          aM (⟨#[]⟩:ByteArray)
       let v12:Int:=(List.length x0.bl:Int)
       Sum.elim (fun r=>r) (fun kC=>
        bN ((-1):Int))
       (bn (fun(i13:Nat) (jH:Unit)=>
        show Step (Int) (Unit)from
        bif(((List.getD x0.bl (Int.toNat (i13:Int)) (aA .bu)).id)==cc.key.dev)then
         .ret (bN (i13:Int))
        else
         .bq ()) 0 (Int.toNat v12) ():Int⊕(Unit))
      else
       bif(cc.kind==4)then
        jI (1:Int)
       else
        bif(cc.kind==5)then
         jI (2:Int)
        else
         let aM:Bool→Int:=fun fv=>
          bif fv then
           jI (3:Int)
          else
           jI (0:Int)
         let fv:=cc.kind==6
         bif fv then
          aM fv
         else
          aM (cc.kind==7)
   else
    bif(ar.role==3)then
     bif !true then
      17
     else
      let jI:Int→Int:=fun v11=>
       bif(decide (2<v11))then
        16
       else
        0
      bif(cc.kind==2)then
       let eC:Int→Int:=fun v12=>
        v12
       let bN:Int→Int:=fun v12=>
        bif(!(decide (v12≥0)))then
         eC (8:Int)
        else
         let c8:=decide ((List.length ar.fY:Int)>0)
         let aM:ByteArray→Int:=fun dM=>
          let aM:Bool→Int:=fun ea=>
           bif(c8&&(!ea))then
            eC (16:Int)
           else
            eC (0:Int)
          bif c8 then
           aM (iJ ar.fY dM)
          else
           aM false
         bif c8 then
          aM (oU x0 cc.key.dev)
         else
          aM (⟨#[]⟩:ByteArray)
       let v12:Int:=(List.length x0.bl:Int)
       Sum.elim (fun r=>r) (fun wM=>
        bN ((-1):Int))
       (bn (fun(i13:Nat) (wN:Unit)=>
        show Step (Int) (Unit)from
        bif(((List.getD x0.bl (Int.toNat (i13:Int)) (aA .bu)).id)==cc.key.dev)then
         .ret (bN (i13:Int))
        else
         .bq ()) 0 (Int.toNat v12) ():Int⊕(Unit))
      else
       bif(cc.kind==3)then
        let eC:Int→Int:=fun bT=>
         bT
        let bN:Int→Int:=fun bT=>
         bif(!(decide (bT≥0)))then
          eC (8:Int)
         else
          let dM:=decide ((List.length ar.fY:Int)>0)
          let aM:ByteArray→Int:=fun ea=>
           let aM:Bool→Int:=fun b7=>
            bif(dM&&(!b7))then
             eC (16:Int)
            else
             eC (0:Int)
           bif dM then
            aM (iJ ar.fY ea)
           else
            aM false
          bif dM then
           aM (oU x0 cc.key.dev)
          else
           aM (⟨#[]⟩:ByteArray)
        let bT:Int:=(List.length x0.bl:Int)
        Sum.elim (fun r=>r) (fun zz=>
         bN ((-1):Int))
        (bn (fun(i14:Nat) (qg:Unit)=>
         show Step (Int) (Unit)from
         bif(((List.getD x0.bl (Int.toNat (i14:Int)) (aA .bu)).id)==cc.key.dev)then
          .ret (bN (i14:Int))
         else
          .bq ()) 0 (Int.toNat bT) ():Int⊕(Unit))
       else
        bif(cc.kind==4)then
         jI (1:Int)
        else
         bif(cc.kind==5)then
          jI (2:Int)
         else
          let aM:Bool→Int:=fun eS=>
           bif eS then
            jI (3:Int)
           else
            jI (0:Int)
          let eS:=cc.kind==6
          bif eS then
           aM eS
          else
           aM (cc.kind==7)
    else
     bif !true then
      17
     else
      let jI:Int→Int:=fun v11=>
       bif(decide (3<v11))then
        16
       else
        0
      bif(cc.kind==2)then
       let eC:Int→Int:=fun v12=>
        v12
       let bN:Int→Int:=fun v12=>
        bif(!(decide (v12≥0)))then
         eC (8:Int)
        else
         let c8:=decide ((List.length ar.fY:Int)>0)
         let aM:ByteArray→Int:=fun dM=>
          let aM:Bool→Int:=fun ea=>
           bif(c8&&(!ea))then
            eC (16:Int)
           else
            eC (0:Int)
          bif c8 then
           aM (iJ ar.fY dM)
          else
           aM false
         bif c8 then
          aM (oU x0 cc.key.dev)
         else
          aM (⟨#[]⟩:ByteArray)
       let v12:Int:=(List.length x0.bl:Int)
       Sum.elim (fun r=>r) (fun sO=>
        bN ((-1):Int))
       (bn (fun(i13:Nat) (C9:Unit)=>
        show Step (Int) (Unit)from
        bif(((List.getD x0.bl (Int.toNat (i13:Int)) (aA .bu)).id)==cc.key.dev)then
         .ret (bN (i13:Int))
        else
         .bq ()) 0 (Int.toNat v12) ():Int⊕(Unit))
      else
       bif(cc.kind==3)then
        let eC:Int→Int:=fun bT=>
         bT
        let bN:Int→Int:=fun bT=>
         bif(!(decide (bT≥0)))then
          eC (8:Int)
         else
          let dM:=decide ((List.length ar.fY:Int)>0)
          let aM:ByteArray→Int:=fun ea=>
           let aM:Bool→Int:=fun b7=>
            bif(dM&&(!b7))then
             eC (16:Int)
            else
             eC (0:Int)
           bif dM then
            aM (iJ ar.fY ea)
           else
            aM false
          bif dM then
           aM (oU x0 cc.key.dev)
          else
           aM (⟨#[]⟩:ByteArray)
        let bT:Int:=(List.length x0.bl:Int)
        Sum.elim (fun r=>r) (fun Da=>
         bN ((-1):Int))
        (bn (fun(i14:Nat) (wO:Unit)=>
         show Step (Int) (Unit)from
         bif(((List.getD x0.bl (Int.toNat (i14:Int)) (aA .bu)).id)==cc.key.dev)then
          .ret (bN (i14:Int))
         else
          .bq ()) 0 (Int.toNat bT) ():Int⊕(Unit))
       else
        bif(cc.kind==4)then
         jI (1:Int)
        else
         bif(cc.kind==5)then
          jI (2:Int)
         else
          let aM:Bool→Int:=fun eS=>
           bif eS then
            jI (3:Int)
           else
            jI (0:Int)
          let eS:=cc.kind==6
          bif eS then
           aM eS
          else
           aM (cc.kind==7)
def CN(x0:Home)(ar:cw)(b6:Int)(cc:bs):Prop:=
 (((decide (cc.kind<1))||(decide (cc.kind>7)))=false→(
  ((ar.role==1)=true→(
   let bx:=decide (b6≥0)
   let eC:Bool→Prop:=fun v9=>
    ((!(bx&&v9))=false→(
     let aM:Bool→Prop:=fun v12=>
      (v12=true→(
       let bN:Int→Prop:=fun fv=>
        ((!(decide (fv≥0)))=false→(
         let ea:=decide ((List.length ar.fY:Int)>0)
         let aM:ByteArray→Prop:=fun b7=>
          let aM:Bool→Prop:=fun v20=>
           ((ea&&(!v20))=false→(
            wC x0 cc))
          (ea=true→(
           aM (iJ ar.fY b7)))∧(ea=false→(
           aM false))
         (ea=true→(
          (rm x0 cc.key.dev)∧
          aM (oU x0 cc.key.dev)))∧(ea=false→(
          aM (⟨#[]⟩:ByteArray)))))
       let fv:Int:=(List.length x0.bl:Int)
       let aW:Unit→Prop:=fun bR=>
        bN ((-1):Int)
       ∃bB:Nat→(Unit)→Prop,bB 0 ()∧(∀(i15:Nat) (d0:Unit),i15<Int.toNat fv→bB i15 d0→(
        ((((List.getD x0.bl (Int.toNat (i15:Int)) (aA .bu)).id)==cc.key.dev)=true→(
         bN (i15:Int)))∧((((List.getD x0.bl (Int.toNat (i15:Int)) (aA .bu)).id)==cc.key.dev)=false→(
         bB (i15+1) ()))))∧∀bR,bB (Int.toNat fv) bR→aW bR))
     let v12:=cc.kind==2
     (v12=true→(
      aM v12))∧(v12=false→(
      aM (cc.kind==3)))))
   (bx=true→(
    let bN:Bool→Prop:=fun v9=>
     eC v9
    let v9:Int:=bz .rem .i64 b6 (10080:Int)
    let aM:Int→Prop:=fun v10=>
     let v12:Int:=(List.length ar.nK:Int)
     let fx:Unit→Prop:=fun aV=>
      bN false
     ∃ep:Nat→(Unit)→Prop,ep 0 ()∧(∀(i13:Nat) (d1:Unit),i13<Int.toNat v12→ep i13 d1→(
      let eS:eR:=List.getD ar.nK (Int.toNat (i13:Int)) (aA .eR)
      ((((zy eS)&&(decide (eS.from_≤v10)))&&(decide (v10<eS.wL)))=true→(
       bN true))∧((((zy eS)&&(decide (eS.from_≤v10)))&&(decide (v10<eS.wL)))=false→(
       ep (i13+1) ()))))∧∀aV,ep (Int.toNat v12) aV→fx aV
    ((decide (v9<0))=true→(
     aM (IntKind.wrap .i64 (v9+(10080:Int)))))∧((decide (v9<0))=false→(
     aM v9))))∧(bx=false→(
    eC false))))∧((ar.role==1)=false→(
   ((ar.role==2)=true→(
    ((!true)=false→(
     ((cc.kind==2)=true→(
      let bN:Int→Prop:=fun v11=>
       ((!(decide (v11≥0)))=false→(
        let eS:=decide ((List.length ar.fY:Int)>0)
        let aM:ByteArray→Prop:=fun c8=>
         let aM:Bool→Prop:=fun dM=>
          ((eS&&(!dM))=false→(
           wC x0 cc))
         (eS=true→(
          aM (iJ ar.fY c8)))∧(eS=false→(
          aM false))
        (eS=true→(
         (rm x0 cc.key.dev)∧
         aM (oU x0 cc.key.dev)))∧(eS=false→(
         aM (⟨#[]⟩:ByteArray)))))
      let v11:Int:=(List.length x0.bl:Int)
      let gG:Unit→Prop:=fun dp=>
       bN ((-1):Int)
      ∃kD:Nat→(Unit)→Prop,kD 0 ()∧(∀(i12:Nat) (d2:Unit),i12<Int.toNat v11→kD i12 d2→(
       ((((List.getD x0.bl (Int.toNat (i12:Int)) (aA .bu)).id)==cc.key.dev)=true→(
        bN (i12:Int)))∧((((List.getD x0.bl (Int.toNat (i12:Int)) (aA .bu)).id)==cc.key.dev)=false→(
        kD (i12+1) ()))))∧∀dp,kD (Int.toNat v11) dp→gG dp))∧((cc.kind==2)=false→(
      ((cc.kind==3)=true→(
       let bN:Int→Prop:=fun v12=>
        ((!(decide (v12≥0)))=false→(
         let c8:=decide ((List.length ar.fY:Int)>0)
         let aM:ByteArray→Prop:=fun dM=>
          let aM:Bool→Prop:=fun ea=>
           ((c8&&(!ea))=false→(
            wC x0 cc))
          (c8=true→(
           aM (iJ ar.fY dM)))∧(c8=false→(
           aM false))
         (c8=true→(
          (rm x0 cc.key.dev)∧
          aM (oU x0 cc.key.dev)))∧(c8=false→(
          aM (⟨#[]⟩:ByteArray)))))
       let v12:Int:=(List.length x0.bl:Int)
       let k7:Unit→Prop:=fun c7=>
        bN ((-1):Int)
       ∃me:Nat→(Unit)→Prop,me 0 ()∧(∀(i13:Nat) (d3:Unit),i13<Int.toNat v12→me i13 d3→(
        ((((List.getD x0.bl (Int.toNat (i13:Int)) (aA .bu)).id)==cc.key.dev)=true→(
         bN (i13:Int)))∧((((List.getD x0.bl (Int.toNat (i13:Int)) (aA .bu)).id)==cc.key.dev)=false→(
         me (i13+1) ()))))∧∀c7,me (Int.toNat v12) c7→k7 c7))))))))∧((ar.role==2)=false→(
    ((ar.role==3)=true→(
     ((!true)=false→(
      ((cc.kind==2)=true→(
       let bN:Int→Prop:=fun v12=>
        ((!(decide (v12≥0)))=false→(
         let c8:=decide ((List.length ar.fY:Int)>0)
         (c8=true→(
          rm x0 cc.key.dev))))
       let v12:Int:=(List.length x0.bl:Int)
       let sP:Unit→Prop:=fun gi=>
        bN ((-1):Int)
       ∃Db:Nat→(Unit)→Prop,Db 0 ()∧(∀(i13:Nat) (d4:Unit),i13<Int.toNat v12→Db i13 d4→(
        ((((List.getD x0.bl (Int.toNat (i13:Int)) (aA .bu)).id)==cc.key.dev)=true→(
         bN (i13:Int)))∧((((List.getD x0.bl (Int.toNat (i13:Int)) (aA .bu)).id)==cc.key.dev)=false→(
         Db (i13+1) ()))))∧∀gi,Db (Int.toNat v12) gi→sP gi))∧((cc.kind==2)=false→(
       ((cc.kind==3)=true→(
        let bN:Int→Prop:=fun bT=>
         ((!(decide (bT≥0)))=false→(
          let dM:=decide ((List.length ar.fY:Int)>0)
          (dM=true→(
           rm x0 cc.key.dev))))
        let bT:Int:=(List.length x0.bl:Int)
        let zA:Unit→Prop:=fun iN=>
         bN ((-1):Int)
        ∃Dc:Nat→(Unit)→Prop,Dc 0 ()∧(∀(i14:Nat) (d5:Unit),i14<Int.toNat bT→Dc i14 d5→(
         ((((List.getD x0.bl (Int.toNat (i14:Int)) (aA .bu)).id)==cc.key.dev)=true→(
          bN (i14:Int)))∧((((List.getD x0.bl (Int.toNat (i14:Int)) (aA .bu)).id)==cc.key.dev)=false→(
          Dc (i14+1) ()))))∧∀iN,Dc (Int.toNat bT) iN→zA iN))))))))∧((ar.role==3)=false→(
     ((!true)=false→(
      ((cc.kind==2)=true→(
       let bN:Int→Prop:=fun v12=>
        ((!(decide (v12≥0)))=false→(
         let c8:=decide ((List.length ar.fY:Int)>0)
         (c8=true→(
          rm x0 cc.key.dev))))
       let v12:Int:=(List.length x0.bl:Int)
       let uN:Unit→Prop:=fun kC=>
        bN ((-1):Int)
       ∃Dd:Nat→(Unit)→Prop,Dd 0 ()∧(∀(i13:Nat) (d6:Unit),i13<Int.toNat v12→Dd i13 d6→(
        ((((List.getD x0.bl (Int.toNat (i13:Int)) (aA .bu)).id)==cc.key.dev)=true→(
         bN (i13:Int)))∧((((List.getD x0.bl (Int.toNat (i13:Int)) (aA .bu)).id)==cc.key.dev)=false→(
         Dd (i13+1) ()))))∧∀kC,Dd (Int.toNat v12) kC→uN kC))∧((cc.kind==2)=false→(
       ((cc.kind==3)=true→(
        let bN:Int→Prop:=fun bT=>
         ((!(decide (bT≥0)))=false→(
          let dM:=decide ((List.length ar.fY:Int)>0)
          (dM=true→(
           rm x0 cc.key.dev))))
        let bT:Int:=(List.length x0.bl:Int)
        let wP:Unit→Prop:=fun jH=>
         bN ((-1):Int)
        ∃De:Nat→(Unit)→Prop,De 0 ()∧(∀(i14:Nat) (d7:Unit),i14<Int.toNat bT→De i14 d7→(
         ((((List.getD x0.bl (Int.toNat (i14:Int)) (aA .bu)).id)==cc.key.dev)=true→(
          bN (i14:Int)))∧((((List.getD x0.bl (Int.toNat (i14:Int)) (aA .bu)).id)==cc.key.dev)=false→(
          De (i14+1) ()))))∧∀jH,De (Int.toNat bT) jH→wP jH))))))))))))))
noncomputable def uB(x0:Home)(ar:List cw)(b6:ByteArray)(cc:Int)(c1:bs):Int:=
 let v5:=HH x0 ar
 bif(v5 != 0)then
  v5
 else
  let bA:=HI ar b6
  bif !bA.2 then
   8
  else
   (QG x0 bA.1 cc c1)
def Hj(x0:Home)(ar:List cw)(b6:ByteArray)(cc:Int)(c1:bs):Prop:=
 let v5:=HH x0 ar
 (Hf x0 ar)∧
 ((v5 != 0)=false→(
  let bA:=HI ar b6
  (Hg ar b6)∧
  ((!bA.2)=false→(
   CN x0 bA.1 cc c1))))
noncomputable def jY(x0:List cH)(ar:ByteArray):Int × Bool:=
 let bN:Int→Int × Bool:=fun v2=>
  bif(decide (v2≥0))then
   (v2,true)
  else
   let bN:Int→Int × Bool:=fun v4=>
    let aM:Int→Int × Bool:=fun v5=>
     (v5,false)
    bif(decide (v4<0))then
     aM (List.length x0:Int)
    else
     aM v4
   let v4:Int:=(List.length x0:Int)
   Sum.elim (fun r=>r) (fun bR=>
    bN ((-1):Int))
   (bn (fun(i5:Nat) (aV:Unit)=>
    show Step (Int × Bool) (Unit)from
    bif(cM .gtr ((List.getD x0 (Int.toNat (i5:Int)) (aA .cH)).e8) ar)then
     .ret (bN (i5:Int))
    else
     .bq ()) 0 (Int.toNat v4) ():(Int × Bool)⊕(Unit))
 let v2:Int:=(List.length x0:Int)
 Sum.elim (fun r=>r) (fun dp=>
  bN ((-1):Int))
 (bn (fun(i3:Nat) (c7:Unit)=>
  show Step (Int × Bool) (Unit)from
  bif(cM .eql ((List.getD x0 (Int.toNat (i3:Int)) (aA .cH)).e8) ar)then
   .ret (bN (i3:Int))
  else
   .bq ()) 0 (Int.toNat v2) ():(Int × Bool)⊕(Unit))
noncomputable def HK:fl:=
 ⟨(-1),0⟩
noncomputable def zj(x0:fl):Int:=
 bif((x0.top==(-1))&&(x0.bits==0))then
  0
 else
  bif(((decide (x0.top<0))||(decide (x0.top>1099511627776)))||((bz .and .u64 x0.bits (1:Int))==0))then
   2
  else
   bif((decide (x0.top<63))&&((bz .shr .u64 x0.bits (IntKind.wrap .i64 (x0.top+(1:Int)))) != 0))then
    2
   else
    0
def Hk(x0:fl):Prop:=
 (((x0.top==(-1))&&(x0.bits==0))=false→(
  ((((decide (x0.top<0))||(decide (x0.top>1099511627776)))||((bz .and .u64 x0.bits (1:Int))==0))=false→(
   let v10:=decide (x0.top<63)
   let v11:Int:=IntKind.wrap .i64 (x0.top+(1:Int))
   v10=true→0≤v11))))
noncomputable def uA(x0:fl)(ar:Int):fl × Bool:=
 bif(((((zj x0) != 0)||(decide (ar<0)))||(decide (ar>1099511627776)))||(decide (ar≤(IntKind.wrap .i64 (x0.top-(64:Int))))))then
  (x0,false)
 else
  bif(decide (ar>x0.top))then
   let aM:Int→fl × Bool:=fun v12=>
    (⟨ar,(bz .or .u64 v12 (1:Int))⟩,true)
   bif(decide ((IntKind.wrap .i64 (ar-x0.top))<64))then
    aM (bz .shl .u64 x0.bits (IntKind.wrap .i64 (ar-x0.top)))
   else
    aM (0:Int)
  else
   let bT:Int:=bz .shl .u64 (1:Int) (IntKind.wrap .i64 (x0.top-ar))
   bif((bz .and .u64 x0.bits bT) != 0)then
    (x0,false)
   else
    (⟨x0.top,(bz .or .u64 x0.bits bT)⟩,true)
def Hl(x0:fl)(ar:Int):Prop:=
 (Hk x0)∧
 ((((((zj x0) != 0)||(decide (ar<0)))||(decide (ar>1099511627776)))||(decide (ar≤(IntKind.wrap .i64 (x0.top-(64:Int))))))=false→(
  ((decide (ar>x0.top))=true→(
   ((decide ((IntKind.wrap .i64 (ar-x0.top))<64))=true→(
    let fv:Int:=IntKind.wrap .i64 (ar-x0.top)
    0≤fv))))∧((decide (ar>x0.top))=false→(
   let v12:Int:=IntKind.wrap .i64 (x0.top-ar)
   let bT:Int:=bz .shl .u64 (1:Int) v12
   0≤v12))))
noncomputable def qb(x0:Config)(ar:List cw)(b6:List cH)(cc:List Int)(c1:ir)(Df:Int)(Dg:Int):ByteArray × (List cH) × Int:=
 let bA:=lE x0.key c1.token Df cc
 let bN:Int→ByteArray × (List cH) × Int:=fun v10=>
  bif(v10 != 0)then
   (⟨#[]⟩,b6,v10)
  else
   let bT:=jY b6 bA.1.e8
   let c8:=HK
   let aM:Int→Int→ByteArray × (List cH) × Int:=fun dM ea=>
    let b7:=uA ⟨dM,ea⟩ c1.request.dy
    let aM:(List cH)→ByteArray × (List cH) × Int:=fun v24=>
     (bA.1.e8,v24,0)
    bif !b7.2 then
     (⟨#[]⟩,b6,18)
    else
     bif bT.2 then
      aM (List.set b6 (Int.toNat bT.1) ⟨(List.getD b6 (Int.toNat bT.1) (aA .cH)).e8,⟨b7.1.top,b7.1.bits⟩⟩)
     else
      aM (List.append (List.append (iK b6 none (some bT.1)) ([⟨bA.1.e8,⟨b7.1.top,b7.1.bits⟩⟩]:List cH)) (iK b6 (some bT.1) none))
   bif bT.2 then
    let dM:cH:=List.getD b6 (Int.toNat bT.1) (aA .cH)
    aM dM.uz.top dM.uz.bits
   else
    aM c8.top c8.bits
 bif(bA.2==0)then
  let aM:Int→ByteArray × (List cH) × Int:=fun v11=>
   bN v11
  let v11:=mL ⟨x0.home.bp,x0.home.bl⟩ ⟨c1.request.kind,c1.request.dy,⟨c1.request.key.dev,c1.request.key.dk,c1.request.key.attr⟩,c1.request.name,⟨c1.request.value.kind,c1.request.value.n,c1.request.value.s⟩,c1.request.text⟩
  bif(v11 != 0)then
   aM v11
  else
   let bT:=uB ⟨x0.home.bp,x0.home.bl⟩ ar bA.1.e8 Dg ⟨c1.request.kind,c1.request.dy,⟨c1.request.key.dev,c1.request.key.dk,c1.request.key.attr⟩,c1.request.name,⟨c1.request.value.kind,c1.request.value.n,c1.request.value.s⟩,c1.request.text⟩
   bif(bT != 0)then
    aM bT
   else
    aM (0:Int)
 else
  bN bA.2
def wD(x0:Config)(ar:List cw)(b6:List cH)(cc:List Int)(c1:ir)(Df:Int)(Dg:Int):Prop:=
 (List.length ([]:List cH)+List.length b6≤maxLen∧(List.length ([]:List cH)+List.length b6)*32≤140737488355328)∧
 let bA:=lE x0.key c1.token Df cc
 (Hc x0.key c1.token Df cc)∧
 let bN:Int→Prop:=fun v10=>
  ((v10 != 0)=false→(
   let bT:=jY b6 bA.1.e8
   let c8:=HK
   let aM:Int→Int→Prop:=fun dM ea=>
    let b7:=uA ⟨dM,ea⟩ c1.request.dy
    (Hl ⟨dM,ea⟩ c1.request.dy)∧
    ((!b7.2)=false→(
     (bT.2=true→(
      (0≤bT.1∧bT.1<(List.length b6:Int))∧
      0≤bT.1∧bT.1<(List.length b6:Int)))∧(bT.2=false→(
      let v23:List cH:=([⟨bA.1.e8,⟨b7.1.top,b7.1.bits⟩⟩]:List cH)
      (iZ (List.length b6) none (some bT.1))∧
      (0≤(0:Int)∧(0:Int)<(List.length v23:Int))∧
      List.length b6+List.length v23≤maxLen∧(List.length b6+List.length v23)*32≤140737488355328))))
   (bT.2=true→(
    (0≤bT.1∧bT.1<(List.length b6:Int))∧
    let dM:cH:=List.getD b6 (Int.toNat bT.1) (aA .cH)
    (0≤bT.1∧bT.1<(List.length b6:Int))∧
    aM dM.uz.top dM.uz.bits))∧(bT.2=false→(
    aM c8.top c8.bits))))
 ((bA.2==0)=true→(
  let aM:Int→Prop:=fun v11=>
   bN v11
  let v11:=mL ⟨x0.home.bp,x0.home.bl⟩ ⟨c1.request.kind,c1.request.dy,⟨c1.request.key.dev,c1.request.key.dk,c1.request.key.attr⟩,c1.request.name,⟨c1.request.value.kind,c1.request.value.n,c1.request.value.s⟩,c1.request.text⟩
  (Cq ⟨x0.home.bp,x0.home.bl⟩ ⟨c1.request.kind,c1.request.dy,⟨c1.request.key.dev,c1.request.key.dk,c1.request.key.attr⟩,c1.request.name,⟨c1.request.value.kind,c1.request.value.n,c1.request.value.s⟩,c1.request.text⟩)∧
  ((v11 != 0)=true→(
   aM v11))∧((v11 != 0)=false→(
   let bT:=uB ⟨x0.home.bp,x0.home.bl⟩ ar bA.1.e8 Dg ⟨c1.request.kind,c1.request.dy,⟨c1.request.key.dev,c1.request.key.dk,c1.request.key.attr⟩,c1.request.name,⟨c1.request.value.kind,c1.request.value.n,c1.request.value.s⟩,c1.request.text⟩
   (Hj ⟨x0.home.bp,x0.home.bl⟩ ar bA.1.e8 Dg ⟨c1.request.kind,c1.request.dy,⟨c1.request.key.dev,c1.request.key.dk,c1.request.key.attr⟩,c1.request.name,⟨c1.request.value.kind,c1.request.value.n,c1.request.value.s⟩,c1.request.text⟩)∧
   ((bT != 0)=true→(
    aM bT))∧((bT != 0)=false→(
    aM (0:Int)))))))∧((bA.2==0)=false→(
  bN bA.2))
def QH:List aJ:=[⟨⟨#[111,110,111,102,102]⟩,[⟨⟨#[111,110]⟩,1,0,0,[],true,false⟩],[⟨⟨#[111,110]⟩,⟨⟨#[]⟩,0,0,0,[],false,false⟩,[⟨1,⟨#[111,110]⟩,1⟩]⟩,⟨⟨#[111,102,102]⟩,⟨⟨#[]⟩,0,0,0,[],false,false⟩,[⟨1,⟨#[111,110]⟩,0⟩]⟩,⟨⟨#[116,111,103,103,108,101]⟩,⟨⟨#[]⟩,0,0,0,[],false,false⟩,[⟨4,⟨#[111,110]⟩,0⟩]⟩],[]⟩,
 ⟨⟨#[108,101,118,101,108]⟩,[⟨⟨#[108,101,118,101,108]⟩,2,0,100,[],true,false⟩],[⟨⟨#[109,111,118,101]⟩,⟨⟨#[116,111]⟩,2,0,100,[],false,false⟩,[⟨2,⟨#[108,101,118,101,108]⟩,0⟩]⟩,⟨⟨#[115,116,101,112]⟩,⟨⟨#[]⟩,0,0,0,[],false,false⟩,[⟨3,⟨#[108,101,118,101,108]⟩,10⟩]⟩],[]⟩,
 ⟨⟨#[108,111,99,107]⟩,[⟨⟨#[108,111,99,107,101,100]⟩,1,0,0,[],true,true⟩],[⟨⟨#[108,111,99,107]⟩,⟨⟨#[]⟩,0,0,0,[],false,false⟩,[⟨1,⟨#[108,111,99,107,101,100]⟩,1⟩]⟩,⟨⟨#[117,110,108,111,99,107]⟩,⟨⟨#[]⟩,0,0,0,[],false,false⟩,[⟨1,⟨#[108,111,99,107,101,100]⟩,0⟩]⟩],[⟨#[106,97,109]⟩]⟩,
 ⟨⟨#[116,104,101,114,109,111,115,116,97,116]⟩,[⟨⟨#[116,97,114,103,101,116]⟩,2,50,300,[],true,false⟩,⟨⟨#[116,101,109,112]⟩,2,(-500),1000,[],false,false⟩],[],[]⟩,
 ⟨⟨#[115,109,111,107,101]⟩,[⟨⟨#[97,108,97,114,109]⟩,1,0,0,[],false,true⟩],[],[⟨#[116,101,115,116]⟩]⟩,
 ⟨⟨#[108,101,97,107]⟩,[⟨⟨#[119,101,116]⟩,1,0,0,[],false,true⟩],[],[]⟩,
 ⟨⟨#[118,97,108,118,101]⟩,[⟨⟨#[111,112,101,110]⟩,1,0,0,[],true,true⟩],[⟨⟨#[111,112,101,110]⟩,⟨⟨#[]⟩,0,0,0,[],false,false⟩,[⟨1,⟨#[111,112,101,110]⟩,1⟩]⟩,⟨⟨#[99,108,111,115,101]⟩,⟨⟨#[]⟩,0,0,0,[],false,false⟩,[⟨1,⟨#[111,112,101,110]⟩,0⟩]⟩],[]⟩,
 ⟨⟨#[109,101,116,101,114]⟩,[⟨⟨#[112,111,119,101,114]⟩,2,0,100000,[],false,false⟩],[],[]⟩]
def QI:Prop:=True
noncomputable def CR:Config × (List cw):=
 (⟨⟨(QH),([⟨1,0,0,false,0,⟨#[104,97,108,108]⟩,([⟨#[111,110,111,102,102]⟩]:List ByteArray)⟩]:List bu)⟩,[],[],⟨0,[]⟩,7⟩,([⟨⟨#[97,110,110]⟩,4,[],[],false⟩]:List cw))
def QJ:Prop:=
 QI
noncomputable def HL(x0:eL):Int:=
 bif(!(jW x0.e8))then
  10
 else
  bif(((((decide (x0.id<1))||(decide (x0.id>1099511627776)))||(decide (x0.oS<0)))||(decide (x0.oS>x0.oT)))||(decide (x0.oT>1099511627776)))then
   2
  else
   bif(decide ((IntKind.wrap .i64 (x0.oT-x0.oS))>43200))then
    3
   else
    0
def QK(x0:eL):Prop:=
 p0 x0.e8
noncomputable def zi(x0:Int):ByteArray:=
 (bytesOf ([(IntKind.wrap .u8 (bz .shr .i64 x0 (24:Int))),(IntKind.wrap .u8 (bz .shr .i64 x0 (16:Int))),(IntKind.wrap .u8 (bz .shr .i64 x0 (8:Int))),(IntKind.wrap .u8 x0)]:List Int))
noncomputable def QL(x0:ByteArray):Int:=
 let v1:Int:=(ByteArray.size x0:Int)
 Sum.elim (fun r=>r) (fun bR=>
  bR)
 (bn (fun(i3:Nat) (aV:Int)=>
  show Step (Int) (Int)from
  .bq (IntKind.wrap .u64 ((bz .xor .u64 aV (IntKind.wrap .u64 (ei x0 (i3:Int))))*(1099511628211:Int)))) 0 (Int.toNat v1) 14695981039346656037:Int⊕(Int))
def QM(x0:ByteArray):Prop:=
 let v1:Int:=(ByteArray.size x0:Int)
 0≤v1∧v1<(9223372036854775808:Int)
noncomputable def wB(x0:Int):ByteArray:=
 Sum.elim (fun r=>r) (fun bR=>
  bR.1)
 (c4 (fun(aV:ByteArray × Int)=>
  show Step (ByteArray) (ByteArray × Int)from
  bif(decide (aV.2≥0))then
   .bq ((ByteArray.append aV.1 (bytesOf ([(IntKind.wrap .u8 (bz .shr .u64 x0 (IntKind.wrap .u64 ((8:Int)*(IntKind.wrap .u64 aV.2)))))]:List Int))),(IntKind.wrap .i64 (aV.2-(1:Int))))
  else
   .cN (aV.1,aV.2)) dU (⟨#[]⟩,7):ByteArray⊕(ByteArray × Int))
def CH(x0:Int):Prop:=
 ∃(bB:(ByteArray × Int)→Prop) (hb:(ByteArray × Int)→Nat),bB (⟨#[]⟩,7)∧hb (⟨#[]⟩,7)<dU∧∀(d0:ByteArray × Int),bB d0→(
  ((decide (d0.2≥0))=true→(
   let v5:Int:=IntKind.wrap .u64 ((8:Int)*(IntKind.wrap .u64 d0.2))
   (0≤v5)∧
   let v9:=bytesOf ([(IntKind.wrap .u8 (bz .shr .u64 x0 v5))]:List Int)
   (ByteArray.size d0.1+ByteArray.size v9≤9223372036854775807)∧
   bB ((ByteArray.append d0.1 v9),(IntKind.wrap .i64 (d0.2-(1:Int))))∧hb ((ByteArray.append d0.1 v9),(IntKind.wrap .i64 (d0.2-(1:Int))))<hb d0)))
noncomputable def CJ(x0:Int)(ar:ByteArray):Int:=
 (IntKind.wrap .i64 (bz .shr .u64 (QL (ByteArray.append (ByteArray.append (wB x0) ar) (wB x0))) (32:Int)))
def CI(x0:Int)(ar:ByteArray):Prop:=
 let v2:=wB x0
 (CH x0)∧
 let v3:=ByteArray.append v2 ar
 (ByteArray.size v2+ByteArray.size ar≤9223372036854775807)∧
 let v4:=wB x0
 (CH x0)∧
 let v5:=ByteArray.append v3 v4
 (ByteArray.size v3+ByteArray.size v4≤9223372036854775807)∧
 QM v5
noncomputable def CP(x0:Int)(ar:ByteArray):ByteArray:=
 (ByteArray.append ar (zi (CJ x0 ar)))
def He(x0:Int)(ar:ByteArray):Prop:=
 (CI x0 ar)∧
 let v3:=zi (CJ x0 ar)
 ByteArray.size ar+ByteArray.size v3≤9223372036854775807
noncomputable def zm(x0:eL):ByteArray:=
 (ByteArray.append (ByteArray.append (ByteArray.append (iG x0.e8) (fA x0.id)) (fA x0.oS)) (fA x0.oT))
def CQ(x0:eL):Prop:=
 let v1:=iG x0.e8
 (pQ x0.e8)∧
 let v2:=fA x0.id
 (iF x0.id)∧
 let v3:=ByteArray.append v1 v2
 (ByteArray.size v1+ByteArray.size v2≤9223372036854775807)∧
 let v4:=fA x0.oS
 (iF x0.oS)∧
 let v5:=ByteArray.append v3 v4
 (ByteArray.size v3+ByteArray.size v4≤9223372036854775807)∧
 let v6:=fA x0.oT
 (iF x0.oT)∧
 ByteArray.size v5+ByteArray.size v6≤9223372036854775807
noncomputable def zl(x0:Int)(ar:eL):ByteArray × Int:=
 let v2:=HL ar
 bif(v2 != 0)then
  (⟨#[]⟩,v2)
 else
  ((Qw (CP x0 (zm ar))),0)
def Ho(x0:Int)(ar:eL):Prop:=
 let v2:=HL ar
 (QK ar)∧
 ((v2 != 0)=false→(
  let v4:=zm ar
  (CQ ar)∧
  let v5:=CP x0 v4
  (He x0 v4)∧
  G8 v5))
noncomputable def zo:Bool:=
 let v0:=CR
 let v3:=zl (7:Int) ⟨⟨#[97,110,110]⟩,1,0,100⟩
 let v6:=qb v0.1 v0.2 ([]:List cH) ([]:List Int) ⟨v3.1,⟨1,5,⟨1,⟨#[111,110,111,102,102]⟩,⟨#[111,110]⟩⟩,⟨#[]⟩,⟨0,0,⟨#[]⟩⟩,⟨#[]⟩⟩⟩ (5:Int) (5:Int)
 let v10:=qb v0.1 v0.2 v6.2.1 ([]:List Int) ⟨v3.1,⟨1,5,⟨1,⟨#[111,110,111,102,102]⟩,⟨#[111,110]⟩⟩,⟨#[]⟩,⟨0,0,⟨#[]⟩⟩,⟨#[]⟩⟩⟩ (5:Int) (5:Int)
 let fv:=qb v0.1 v0.2 v6.2.1 ([]:List Int) ⟨v3.1,⟨1,4,⟨1,⟨#[111,110,111,102,102]⟩,⟨#[111,110]⟩⟩,⟨#[]⟩,⟨0,0,⟨#[]⟩⟩,⟨#[]⟩⟩⟩ (5:Int) (5:Int)
 let b7:=ui (ox ⟨1,4,⟨1,⟨#[111,110,111,102,102]⟩,⟨#[111,110]⟩⟩,⟨#[]⟩,⟨0,0,⟨#[]⟩⟩,⟨#[]⟩⟩)
 let zv:Bool:=(((((v3.2==0)&&(cM .eql v6.1 (⟨#[97,110,110]⟩:ByteArray)))&&(v6.2.2==0))&&((List.length v6.2.1:Int)==1))&&(((List.getD v6.2.1 (Int.toNat (0:Int)) (aA .cH)).uz.top)==5))&&(v10.2.2==18)
 let v37:=bif b7.1.kind==1 then bif b7.1.dy==4 then bif b7.1.key.dev==1 then bif dE b7.1.key.dk (⟨#[111,110,111,102,102]⟩:ByteArray)then bif dE b7.1.key.attr (⟨#[111,110]⟩:ByteArray)then bif dE b7.1.name (⟨#[]⟩:ByteArray)then bif b7.1.value.kind==0 then bif b7.1.value.n==0 then bif dE b7.1.value.s (⟨#[]⟩:ByteArray)then dE b7.1.text (⟨#[]⟩:ByteArray)else false else false else false else false else false else false else false else false else false
 (((zv&&(fv.2.2==0))&&v37)&&(b7.2==0))
def wF:Prop:=
 let v0:=CR
 (QJ)∧
 let v3:=zl (7:Int) ⟨⟨#[97,110,110]⟩,1,0,100⟩
 (Ho (7:Int) ⟨⟨#[97,110,110]⟩,1,0,100⟩)∧
 let v6:=qb v0.1 v0.2 ([]:List cH) ([]:List Int) ⟨v3.1,⟨1,5,⟨1,⟨#[111,110,111,102,102]⟩,⟨#[111,110]⟩⟩,⟨#[]⟩,⟨0,0,⟨#[]⟩⟩,⟨#[]⟩⟩⟩ (5:Int) (5:Int)
 (wD v0.1 v0.2 ([]:List cH) ([]:List Int) ⟨v3.1,⟨1,5,⟨1,⟨#[111,110,111,102,102]⟩,⟨#[111,110]⟩⟩,⟨#[]⟩,⟨0,0,⟨#[]⟩⟩,⟨#[]⟩⟩⟩ (5:Int) (5:Int))∧
 let v10:=qb v0.1 v0.2 v6.2.1 ([]:List Int) ⟨v3.1,⟨1,5,⟨1,⟨#[111,110,111,102,102]⟩,⟨#[111,110]⟩⟩,⟨#[]⟩,⟨0,0,⟨#[]⟩⟩,⟨#[]⟩⟩⟩ (5:Int) (5:Int)
 (wD v0.1 v0.2 v6.2.1 ([]:List Int) ⟨v3.1,⟨1,5,⟨1,⟨#[111,110,111,102,102]⟩,⟨#[111,110]⟩⟩,⟨#[]⟩,⟨0,0,⟨#[]⟩⟩,⟨#[]⟩⟩⟩ (5:Int) (5:Int))∧
 let fv:=qb v0.1 v0.2 v6.2.1 ([]:List Int) ⟨v3.1,⟨1,4,⟨1,⟨#[111,110,111,102,102]⟩,⟨#[111,110]⟩⟩,⟨#[]⟩,⟨0,0,⟨#[]⟩⟩,⟨#[]⟩⟩⟩ (5:Int) (5:Int)
 (wD v0.1 v0.2 v6.2.1 ([]:List Int) ⟨v3.1,⟨1,4,⟨1,⟨#[111,110,111,102,102]⟩,⟨#[111,110]⟩⟩,⟨#[]⟩,⟨0,0,⟨#[]⟩⟩,⟨#[]⟩⟩⟩ (5:Int) (5:Int))∧
 let ea:=ox ⟨1,4,⟨1,⟨#[111,110,111,102,102]⟩,⟨#[111,110]⟩⟩,⟨#[]⟩,⟨0,0,⟨#[]⟩⟩,⟨#[]⟩⟩
 (B4 ⟨1,4,⟨1,⟨#[111,110,111,102,102]⟩,⟨#[111,110]⟩⟩,⟨#[]⟩,⟨0,0,⟨#[]⟩⟩,⟨#[]⟩⟩)∧
 let b7:=ui ea
 (yR ea)∧
 let iu:Bool:=(((v3.2==0)&&(cM .eql v6.1 (⟨#[97,110,110]⟩:ByteArray)))&&(v6.2.2==0))&&((List.length v6.2.1:Int)==1)
 iu=true→0≤(0:Int)∧(0:Int)<(List.length v6.2.1:Int)
noncomputable def BM(x0:Home)(ar:bs):Bool:=
 let v6:Bool:=(decide ((List.length x0.bp:Int)>300))||(decide ((List.length x0.bl:Int)>60))
 let aM:Int→Bool:=fun bA=>
  let aM:Int→Bool:=fun bx=>
   let v9:=bA==bx
   let aM:Bool→Bool:=fun v10=>
    (v6||(v9&&v10))
   bif v6 then
    aM false
   else
    bif v9 then
     aM (zo)
    else
     aM false
  bif v6 then
   aM (0:Int)
  else
   aM (zf x0 ar)
 bif v6 then
  aM (0:Int)
 else
  aM (mL x0 ar)
def OP(x0:Home)(ar:bs):Prop:=
 let v6:Bool:=(decide ((List.length x0.bp:Int)>300))||(decide ((List.length x0.bl:Int)>60))
 let aM:Int→Prop:=fun bA=>
  let aM:Int→Prop:=fun bx=>
   let v9:=bA==bx
   (v6=false→(
    (v9=true→(
     wF))))
  (v6=true→(
   aM (0:Int)))∧(v6=false→(
   (Cz x0 ar)∧
   aM (zf x0 ar)))
 (v6=true→(
  aM (0:Int)))∧(v6=false→(
  (Cq x0 ar)∧
  aM (mL x0 ar)))
noncomputable def BL(x0:bs)(ar:ByteArray):Bool:=
 let v12:Bool:=(((decide ((ByteArray.size ar:Int)>25000))||(decide ((ByteArray.size x0.text:Int)>25000)))||(decide ((ByteArray.size x0.name:Int)>1000)))||(decide ((ByteArray.size x0.key.dk:Int)>1000))
 bif((v12||(decide ((ByteArray.size x0.key.attr:Int)>1000)))||(decide ((ByteArray.size x0.value.s:Int)>1000)))then
  (zo)
 else
  let b7:=ui ar
  let v22:=yT ar
  let v28:=bif b7.1.kind==v22.1.kind then bif b7.1.dy==v22.1.dy then bif b7.1.key.dev==v22.1.key.dev then bif dE b7.1.key.dk v22.1.key.dk then bif dE b7.1.key.attr v22.1.key.attr then bif dE b7.1.name v22.1.name then bif b7.1.value.kind==v22.1.value.kind then bif b7.1.value.n==v22.1.value.n then bif dE b7.1.value.s v22.1.value.s then dE b7.1.text v22.1.text else false else false else false else false else false else false else false else false else false
  let v31:Bool:=((cM .eql (ox x0) (yV x0))&&v28)&&(b7.2==v22.2)
  let aM:Bool→Bool:=fun wI=>
   (v31&&wI)
  bif v31 then
   aM (zo)
  else
   aM false
def OK(x0:bs)(ar:ByteArray):Prop:=
 let v12:Bool:=(((decide ((ByteArray.size ar:Int)>25000))||(decide ((ByteArray.size x0.text:Int)>25000)))||(decide ((ByteArray.size x0.name:Int)>1000)))||(decide ((ByteArray.size x0.key.dk:Int)>1000))
 (((v12||(decide ((ByteArray.size x0.key.attr:Int)>1000)))||(decide ((ByteArray.size x0.value.s:Int)>1000)))=true→(
  wF))∧(((v12||(decide ((ByteArray.size x0.key.attr:Int)>1000)))||(decide ((ByteArray.size x0.value.s:Int)>1000)))=false→(
  let b7:=ui ar
  (yR ar)∧
  let v22:=yT ar
  (B2 ar)∧
  (B4 x0)∧
  (Gt x0)∧
  let v28:=bif b7.1.kind==v22.1.kind then bif b7.1.dy==v22.1.dy then bif b7.1.key.dev==v22.1.key.dev then bif dE b7.1.key.dk v22.1.key.dk then bif dE b7.1.key.attr v22.1.key.attr then bif dE b7.1.name v22.1.name then bif b7.1.value.kind==v22.1.value.kind then bif b7.1.value.n==v22.1.value.n then bif dE b7.1.value.s v22.1.value.s then dE b7.1.text v22.1.text else false else false else false else false else false else false else false else false else false
  let v31:Bool:=((cM .eql (ox x0) (yV x0))&&v28)&&(b7.2==v22.2)
  (v31=true→(
   wF))))
end Go.aK
