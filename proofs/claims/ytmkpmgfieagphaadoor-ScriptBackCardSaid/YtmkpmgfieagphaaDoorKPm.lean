/- Models, printed. Conditions: none. -/
import Derived.Test.YtmkpmgfieagphaaDoorKTEk
open Go Go.aG Go.du
namespace Go.aG
def gU{α:Type}[Inhabited α]:List α→Nat→α
 |[],_=>default
 |[x],_=>x
 |x::l,n=>bif Nat.beq n 0 then x else gU l (n-1)
noncomputable def m13(x0:aT):aT:=
 let b8:Int→Int→Int→ByteArray→ByteArray→Int→Int→ByteArray→Int→ByteArray→ByteArray→ByteArray→Int→Int→Int→ByteArray→ByteArray→ByteArray→Int→Int→ByteArray→ByteArray→aT:=fun v3 v4 v5 v6 bg bU v9 v10 v11 v12 c5 eO fM dy ee fo db v20 v21 iB Cq v24=>
  ⟨x0.kind,v3,v4,⟨v5,v6,bg⟩,⟨bU,v9,v10⟩,⟨v11,v12,c5⟩,⟨eO,⟨fM,dy,⟨ee,fo,db⟩,v20,⟨v21,iB,Cq⟩,v24⟩⟩⟩
 let aM:Bool→aT:=fun v1=>
  bif v1 then
   b8 (0:Int) (0:Int) x0.key.dev x0.key.bT x0.key.attr x0.value.kind x0.value.n x0.value.s (0:Int) (⟨#[]⟩:ByteArray) (⟨#[]⟩:ByteArray) (⟨#[]⟩:ByteArray) (0:Int) (0:Int) (0:Int) (⟨#[]⟩:ByteArray) (⟨#[]⟩:ByteArray) (⟨#[]⟩:ByteArray) (0:Int) (0:Int) (⟨#[]⟩:ByteArray) (⟨#[]⟩:ByteArray)
  else
   bif(x0.kind==3)then
    b8 (0:Int) (0:Int) (0:Int) (⟨#[]⟩:ByteArray) (⟨#[]⟩:ByteArray) (0:Int) (0:Int) (⟨#[]⟩:ByteArray) x0.event.dev x0.event.bT x0.event.name (⟨#[]⟩:ByteArray) (0:Int) (0:Int) (0:Int) (⟨#[]⟩:ByteArray) (⟨#[]⟩:ByteArray) (⟨#[]⟩:ByteArray) (0:Int) (0:Int) (⟨#[]⟩:ByteArray) (⟨#[]⟩:ByteArray)
   else
    bif(x0.kind==12)then
     b8 (0:Int) (0:Int) (0:Int) (⟨#[]⟩:ByteArray) (⟨#[]⟩:ByteArray) (0:Int) (0:Int) (⟨#[]⟩:ByteArray) (0:Int) (⟨#[]⟩:ByteArray) (⟨#[]⟩:ByteArray) x0.asked.token x0.asked.request.kind x0.asked.request.ec x0.asked.request.key.dev x0.asked.request.key.bT x0.asked.request.key.attr x0.asked.request.name x0.asked.request.value.kind x0.asked.request.value.n x0.asked.request.value.s x0.asked.request.text
    else
     let aM:Bool→aT:=fun v5=>
      bif v5 then
       b8 x0.n x0.m (0:Int) (⟨#[]⟩:ByteArray) (⟨#[]⟩:ByteArray) (0:Int) (0:Int) (⟨#[]⟩:ByteArray) (0:Int) (⟨#[]⟩:ByteArray) (⟨#[]⟩:ByteArray) (⟨#[]⟩:ByteArray) (0:Int) (0:Int) (0:Int) (⟨#[]⟩:ByteArray) (⟨#[]⟩:ByteArray) (⟨#[]⟩:ByteArray) (0:Int) (0:Int) (⟨#[]⟩:ByteArray) (⟨#[]⟩:ByteArray)
      else
       bif(x0.kind==14)then
        b8 (0:Int) (0:Int) (0:Int) (⟨#[]⟩:ByteArray) (⟨#[]⟩:ByteArray) (0:Int) (0:Int) (⟨#[]⟩:ByteArray) (0:Int) (⟨#[]⟩:ByteArray) (⟨#[]⟩:ByteArray) (⟨#[]⟩:ByteArray) (0:Int) (0:Int) (0:Int) (⟨#[]⟩:ByteArray) (⟨#[]⟩:ByteArray) (⟨#[]⟩:ByteArray) (0:Int) (0:Int) (⟨#[]⟩:ByteArray) (⟨#[]⟩:ByteArray)
       else
        b8 x0.n (0:Int) (0:Int) (⟨#[]⟩:ByteArray) (⟨#[]⟩:ByteArray) (0:Int) (0:Int) (⟨#[]⟩:ByteArray) (0:Int) (⟨#[]⟩:ByteArray) (⟨#[]⟩:ByteArray) (⟨#[]⟩:ByteArray) (0:Int) (0:Int) (0:Int) (⟨#[]⟩:ByteArray) (⟨#[]⟩:ByteArray) (⟨#[]⟩:ByteArray) (0:Int) (0:Int) (⟨#[]⟩:ByteArray) (⟨#[]⟩:ByteArray)
     let v5:=x0.kind==8
     bif v5 then
      aM v5
     else
      aM (x0.kind==9)
 let v1:=x0.kind==2
 bif v1 then
  aM v1
 else
  aM (x0.kind==13)
noncomputable def m14(x0:aT):Int:=
 let aM:Int→Int:=fun v1=>
  bif((((decide (x0.n<v1))||(decide (x0.n>1099511627776)))||(decide (x0.m<0)))||(decide (x0.m>1099511627776)))then
   2
  else
   let b8:Int→Int:=fun v10=>
    bif((decide (v10<1))||(decide (v10>250)))then
     2
    else
     0
   let aM:Bool→Int:=fun v10=>
    bif v10 then
     b8 x0.key.dev
    else
     bif(x0.kind==3)then
      b8 x0.event.dev
     else
      b8 (1:Int)
   let v10:=x0.kind==2
   bif v10 then
    aM v10
   else
    aM (x0.kind==13)
 bif(x0.kind==11)then
  aM ((-1):Int)
 else
  aM (0:Int)
noncomputable def fD(x0:Int):ByteArray:=
 Sum.elim (fun r=>r) (fun cG=>
  (bytesOf (List.append cG.2 ([(IntKind.wrap .u8 cG.1)]:List Int))))
 (b3 (fun(aF:Int × (List Int))=>
  show Step (ByteArray) (Int × (List Int))from
  bif(decide (aF.1≥128))then
   .bP ((bK .shr .u64 aF.1 (7:Int)),(List.append aF.2 ([(bK .or .u8 (IntKind.wrap .u8 aF.1) (128:Int))]:List Int)))
  else
   .b9 (aF.1,aF.2)) cX ((bK .xor .u64 (bK .shl .u64 (IntKind.wrap .u64 x0) (1:Int)) (IntKind.wrap .u64 (bK .shr .i64 x0 (63:Int)))),[]):ByteArray⊕(Int × (List Int)))
def mI(x0:Int):Prop:=
 let aR:(Int × (List Int))→Prop:=fun cG=>
  let v9:List Int:=([(IntKind.wrap .u8 cG.1)]:List Int)
  List.length cG.2+List.length v9≤maxLen∧(List.length cG.2+List.length v9)*1≤140737488355328
 ∃(cS:(Int × (List Int))→Prop) (gj:(Int × (List Int))→Nat),cS ((bK .xor .u64 (bK .shl .u64 (IntKind.wrap .u64 x0) (1:Int)) (IntKind.wrap .u64 (bK .shr .i64 x0 (63:Int)))),[])∧gj ((bK .xor .u64 (bK .shl .u64 (IntKind.wrap .u64 x0) (1:Int)) (IntKind.wrap .u64 (bK .shr .i64 x0 (63:Int)))),[])<cX∧∀(d0:Int × (List Int)),cS d0→(
  ((decide (d0.1≥128))=true→(
   let v11:List Int:=([(bK .or .u8 (IntKind.wrap .u8 d0.1) (128:Int))]:List Int)
   (List.length d0.2+List.length v11≤maxLen∧(List.length d0.2+List.length v11)*1≤140737488355328)∧
   cS ((bK .shr .u64 d0.1 (7:Int)),(List.append d0.2 v11))∧gj ((bK .shr .u64 d0.1 (7:Int)),(List.append d0.2 v11))<gj d0))∧((decide (d0.1≥128))=false→(
   aR (d0.1,d0.2))))
noncomputable def hl(x0:ByteArray):ByteArray:=
 (ByteArray.append (fD (ByteArray.size x0:Int)) x0)
def pV(x0:ByteArray):Prop:=
 let v1:Int:=(ByteArray.size x0:Int)
 let v2:=fD v1
 (mI v1)∧
 ByteArray.size v2+ByteArray.size x0≤9223372036854775807
noncomputable def vo(x0:Int):Bool:=
 ((decide (x0≥(-1099511627776)))&&(decide (x0≤1099511627776)))
noncomputable def fL(x0:cr):Int:=
 let b8:Bool→Int:=fun v1=>
  bif !v1 then
   2
  else
   bif(decide ((ByteArray.size x0.s:Int)>60))then
    3
   else
    bif((bm .neq x0.s (⟨#[]⟩:ByteArray))&&(x0.kind != 4))then
     4
    else
     0
 let aM:Bool→Int:=fun v1=>
  bif v1 then
   b8 (x0.n==0)
  else
   bif(x0.kind==1)then
    b8 ((x0.n==0)||(x0.n==1))
   else
    bif(x0.kind==2)then
     b8 (vo x0.n)
    else
     bif(x0.kind==3)then
      b8 ((decide (x0.n≥0))&&(decide (x0.n≤63)))
     else
      7
 let v1:=x0.kind==0
 bif v1 then
  aM v1
 else
  aM (x0.kind==4)
noncomputable def mP(x0:cr):ByteArray:=
 let aM:Int→Int→ByteArray→ByteArray:=fun v3 v4 v5=>
  let v6:=fD v3
  let b8:ByteArray→ByteArray:=fun bg=>
   bg
  let aM:Bool→ByteArray:=fun bg=>
   bif bg then
    b8 (ByteArray.append v6 (fD v4))
   else
    bif(v3==4)then
     b8 (ByteArray.append v6 (hl v5))
    else
     b8 v6
  let bg:=v3==1
  bif bg then
   aM bg
  else
   let bU:=v3==2
   bif bU then
    aM bU
   else
    aM (v3==3)
 bif((fL x0) != 0)then
  aM (0:Int) (0:Int) (⟨#[]⟩:ByteArray)
 else
  aM x0.kind x0.n x0.s
def B7(x0:cr):Prop:=
 let aM:Int→Int→ByteArray→Prop:=fun v3 v4 v5=>
  let v6:=fD v3
  (mI v3)∧
  let aM:Bool→Prop:=fun bg=>
   (bg=true→(
    let v9:=fD v4
    (mI v4)∧
    ByteArray.size v6+ByteArray.size v9≤9223372036854775807))∧(bg=false→(
    ((v3==4)=true→(
     let v10:=hl v5
     (pV v5)∧
     ByteArray.size v6+ByteArray.size v10≤9223372036854775807))))
  let bg:=v3==1
  (bg=true→(
   aM bg))∧(bg=false→(
   let bU:=v3==2
   (bU=true→(
    aM bU))∧(bU=false→(
    aM (v3==3)))))
 (((fL x0) != 0)=true→(
  aM (0:Int) (0:Int) (⟨#[]⟩:ByteArray)))∧(((fL x0) != 0)=false→(
  aM x0.kind x0.n x0.s))
noncomputable def m20(x0:ew):ByteArray:=
 let c5:=ByteArray.append (ByteArray.append (ByteArray.append (ByteArray.append (ByteArray.append (ByteArray.append (fD x0.kind) (fD x0.ec)) (fD x0.key.dev)) (hl x0.key.bT)) (hl x0.key.attr)) (hl x0.name)) (mP ⟨x0.value.kind,x0.value.n,x0.value.s⟩)
 (ByteArray.append c5 (hl x0.text))
def yy(x0:ew):Prop:=
 let v1:=fD x0.kind
 (mI x0.kind)∧
 let v2:=fD x0.ec
 (mI x0.ec)∧
 let v3:=ByteArray.append v1 v2
 (ByteArray.size v1+ByteArray.size v2≤9223372036854775807)∧
 let v4:=fD x0.key.dev
 (mI x0.key.dev)∧
 let v5:=ByteArray.append v3 v4
 (ByteArray.size v3+ByteArray.size v4≤9223372036854775807)∧
 let v6:=hl x0.key.bT
 (pV x0.key.bT)∧
 let bg:=ByteArray.append v5 v6
 (ByteArray.size v5+ByteArray.size v6≤9223372036854775807)∧
 let bU:=hl x0.key.attr
 (pV x0.key.attr)∧
 let v9:=ByteArray.append bg bU
 (ByteArray.size bg+ByteArray.size bU≤9223372036854775807)∧
 let v10:=hl x0.name
 (pV x0.name)∧
 let v11:=ByteArray.append v9 v10
 (ByteArray.size v9+ByteArray.size v10≤9223372036854775807)∧
 let v12:=mP ⟨x0.value.kind,x0.value.n,x0.value.s⟩
 (B7 ⟨x0.value.kind,x0.value.n,x0.value.s⟩)∧
 let c5:=ByteArray.append v11 v12
 (ByteArray.size v11+ByteArray.size v12≤9223372036854775807)∧
 let eO:=hl x0.text
 (pV x0.text)∧
 ByteArray.size c5+ByteArray.size eO≤9223372036854775807
noncomputable def l7(x0:Rd):Rd × Int:=
 bif !x0.made then
  (x0,15)
 else
  (x0,x0.err)
noncomputable def vp(x0:ByteArray):Int × Int × Int:=
 let v1:Int:=(ByteArray.size x0:Int)
 Sum.elim (fun r=>r) (fun cG=>
  (0,0,5))
 (bS (fun(i3:Nat) (aF:Int)=>
  show Step (Int × Int × Int) (Int)from
  let v5:Int:=aK x0 (i3:Int)
  bif(((decide ((i3:Int)>0))&&(v5==0))||(((i3:Int)==9)&&(decide (v5>1))))then
   .ret (0,0,4)
  else
   let ee:Int:=bK .or .u64 aF (bK .shl .u64 (IntKind.wrap .u64 (bK .and .u8 v5 (127:Int))) (IntKind.wrap .i64 ((7:Int)*(i3:Int))))
   bif(decide (v5<128))then
    .ret (ee,(IntKind.wrap .i64 ((i3:Int)+(1:Int))),0)
   else
    .bP ee) 0 (Int.toNat v1) 0:(Int × Int × Int)⊕(Int))
def BZ(x0:ByteArray):Prop:=
 let v1:Int:=(ByteArray.size x0:Int)
 (0≤v1∧v1<(9223372036854775808:Int))∧
 ∃cS:Nat→(Int)→Prop,cS 0 0∧∀(i3:Nat) (d0:Int),i3<Int.toNat v1→cS i3 d0→(
  let v5:Int:=aK x0 (i3:Int)
  ((((decide ((i3:Int)>0))&&(v5==0))||(((i3:Int)==9)&&(decide (v5>1))))=false→(
   let eO:Int:=IntKind.wrap .u64 (bK .and .u8 v5 (127:Int))
   let fM:Int:=IntKind.wrap .i64 ((7:Int)*(i3:Int))
   (0≤fM)∧
   let ee:Int:=bK .or .u64 d0 (bK .shl .u64 eO fM)
   ((decide (v5<128))=false→(
    cS (i3+1) ee)))))
noncomputable def hJ(x0:Rd):Rd × Int:=
 let v1:=l7 x0
 bif(v1.2 != 0)then
  (v1.1,0)
 else
  let v5:=vp v1.1.rest
  bif(v5.2.2 != 0)then
   (⟨v1.1.rest,v5.2.2,v1.1.made⟩,0)
  else
   (⟨(bh v1.1.rest (some v5.2.1) none),v1.1.err,v1.1.made⟩,(bK .xor .i64 (IntKind.wrap .i64 (bK .shr .u64 v5.1 (1:Int))) (IntKind.wrap .i64 (0-(IntKind.wrap .i64 (bK .and .u64 v5.1 (1:Int)))))))
def oQ(x0:Rd):Prop:=
 let v1:=l7 x0
 ((v1.2 != 0)=false→(
  let v5:=vp v1.1.rest
  (BZ v1.1.rest)∧
  ((v5.2.2 != 0)=false→(
   eE (ByteArray.size v1.1.rest) (some v5.2.1) none))))
noncomputable def vq(x0:Rd)(cI:Int):Rd × Int:=
 let v2:=hJ x0
 let v5:=l7 v2.1
 bif(v5.2 != 0)then
  (v5.1,0)
 else
  bif(decide (v2.2<0))then
   (⟨v5.1.rest,4,v5.1.made⟩,0)
  else
   bif(decide (v2.2>(bW.den (.mx .i64) cI (0:Int))))then
    (⟨v5.1.rest,3,v5.1.made⟩,0)
   else
    (v5.1,v2.2)
def B0(x0:Rd)(cI:Int):Prop:=
 let v2:=hJ x0
 oQ x0
noncomputable def hY(x0:Rd)(cI:Int):Rd × ByteArray:=
 let v2:=vq x0 cI
 let v5:=l7 v2.1
 bif(v5.2 != 0)then
  (v5.1,⟨#[]⟩)
 else
  bif(decide (v2.2>(ByteArray.size v5.1.rest:Int)))then
   (⟨v5.1.rest,5,v5.1.made⟩,⟨#[]⟩)
  else
   (⟨(bh v5.1.rest (some v2.2) none),v5.1.err,v5.1.made⟩,(bh v5.1.rest none (some v2.2)))
def rn(x0:Rd)(cI:Int):Prop:=
 let v2:=vq x0 cI
 (B0 x0 cI)∧
 let v5:=l7 v2.1
 ((v5.2 != 0)=false→(
  ((decide (v2.2>(ByteArray.size v5.1.rest:Int)))=false→(
   (eE (ByteArray.size v5.1.rest) none (some v2.2))∧
   eE (ByteArray.size v5.1.rest) (some v2.2) none))))
noncomputable def yo(x0:Rd)(cI:Int):Rd:=
 let v2:=l7 x0
 bif(v2.2==0)then
  ⟨v2.1.rest,cI,v2.1.made⟩
 else
  v2.1
noncomputable def rk(x0:Rd):Rd × cr:=
 let v1:=hJ x0
 let b8:Int→ByteArray→ByteArray→Int→Bool→Rd × cr:=fun v6 bg bU v9 v10=>
  let aM:ByteArray→Int→Bool→Rd × cr:=fun c5 eO fM=>
   let dy:=l7 ⟨c5,eO,fM⟩
   bif(dy.2 != 0)then
    (dy.1,⟨0,0,⟨#[]⟩⟩)
   else
    (dy.1,⟨v1.2,v6,bg⟩)
  bif((fL ⟨v1.2,v6,bg⟩) != 0)then
   let c5:=yo ⟨bU,v9,v10⟩ (4:Int)
   aM c5.rest c5.err c5.made
  else
   aM bU v9 v10
 let aM:Bool→Rd × cr:=fun v4=>
  bif v4 then
   let v6:=hJ v1.1
   b8 v6.2 (⟨#[]⟩:ByteArray) v6.1.rest v6.1.err v6.1.made
  else
   bif(v1.2==4)then
    let bg:=hY v1.1 (60:Int)
    b8 (0:Int) bg.2 bg.1.rest bg.1.err bg.1.made
   else
    b8 (0:Int) (⟨#[]⟩:ByteArray) v1.1.rest v1.1.err v1.1.made
 let v4:=v1.2==1
 bif v4 then
  aM v4
 else
  let v5:=v1.2==2
  bif v5 then
   aM v5
  else
   aM (v1.2==3)
def yq(x0:Rd):Prop:=
 let v1:=hJ x0
 (oQ x0)∧
 let aM:Bool→Prop:=fun v4=>
  (v4=true→(
   let v6:=hJ v1.1
   oQ v1.1))∧(v4=false→(
   ((v1.2==4)=true→(
    let bg:=hY v1.1 (60:Int)
    rn v1.1 (60:Int)))))
 let v4:=v1.2==1
 (v4=true→(
  aM v4))∧(v4=false→(
  let v5:=v1.2==2
  (v5=true→(
   aM v5))∧(v5=false→(
   aM (v1.2==3)))))
noncomputable def BY(x0:Rd):Rd × Int:=
 let v1:=l7 x0
 bif(v1.2 != 0)then
  (v1.1,0)
 else
  (v1.1,(ByteArray.size v1.1.rest:Int))
noncomputable def yp(x0:Rd):Rd × Int:=
 let v1:=BY x0
 bif(decide (v1.2>0))then
  (v1.1,23)
 else
  let v5:=l7 v1.1
  (v5.1,v5.2)
noncomputable def B3(x0:ew):Int:=
 bif((decide (x0.kind<1))||(decide (x0.kind>7)))then
  7
 else
  0
noncomputable def B4(x0:ew):Int:=
 bif((decide (x0.ec<0))||(decide (x0.ec>1099511627776)))then
  2
 else
  0
noncomputable def iP(x0:ByteArray):ew × Int:=
 let v1:=hJ ⟨x0,0,true⟩
 let v4:=hJ v1.1
 let bg:=hJ v4.1
 let v10:=hY bg.1 (24:Int)
 let c5:=hY v10.1 (24:Int)
 let dy:=hY c5.1 (24:Int)
 let db:=rk dy.1
 let iB:=hY db.1 (20000:Int)
 let aM:Int→ew × Int:=fun rH=>
  bif(rH != 0)then
   (⟨0,0,⟨0,⟨#[]⟩,⟨#[]⟩⟩,⟨#[]⟩,⟨0,0,⟨#[]⟩⟩,⟨#[]⟩⟩,rH)
  else
   (⟨v1.2,v4.2,⟨bg.2,v10.2,c5.2⟩,dy.2,⟨db.2.kind,db.2.n,db.2.s⟩,iB.2⟩,0)
 let rH:=yp iB.1
 bif(rH.2 != 0)then
  aM rH.2
 else
  let n2:=B3 ⟨v1.2,v4.2,⟨bg.2,v10.2,c5.2⟩,dy.2,⟨db.2.kind,db.2.n,db.2.s⟩,iB.2⟩
  bif(n2 != 0)then
   aM n2
  else
   let v31:=B4 ⟨v1.2,v4.2,⟨bg.2,v10.2,c5.2⟩,dy.2,⟨db.2.kind,db.2.n,db.2.s⟩,iB.2⟩
   bif(v31 != 0)then
    aM v31
   else
    aM (0:Int)
def sU(x0:ByteArray):Prop:=
 let v1:=hJ ⟨x0,0,true⟩
 (oQ ⟨x0,0,true⟩)∧
 let v4:=hJ v1.1
 (oQ v1.1)∧
 let bg:=hJ v4.1
 (oQ v4.1)∧
 let v10:=hY bg.1 (24:Int)
 (rn bg.1 (24:Int))∧
 let c5:=hY v10.1 (24:Int)
 (rn v10.1 (24:Int))∧
 let dy:=hY c5.1 (24:Int)
 (rn c5.1 (24:Int))∧
 let db:=rk dy.1
 (yq dy.1)∧
 let iB:=hY db.1 (20000:Int)
 rn db.1 (20000:Int)
noncomputable def Cr(x0:Int):Bool:=
 ((decide (x0≥97))&&(decide (x0≤122)))
noncomputable def m32(x0:ByteArray):Bool:=
 bif((decide ((ByteArray.size x0:Int)<1))||(decide ((ByteArray.size x0:Int)>24)))then
  false
 else
  Sum.elim (fun r=>r) (fun cG=>
   true)
  (b3 (fun(aF:Int)=>
   show Step (Bool) (Int)from
   let v9:Int:=bW.den .iy x0 aF
   bif(bW.den .ix x0 aF)then
    bif((!(Cr v9))&&(((bW.den .jC x0 aF)==0)||(((v9 != 95)&&(v9 != 45))&&((decide (v9<48))||(decide (v9>57))))))then
     .ret false
    else
     .bP (bW.den .hp x0 aF)
   else
    .b9 aF) cX 0:Bool⊕(Int))
def sW(x0:ByteArray):Prop:=
 (((decide ((ByteArray.size x0:Int)<1))||(decide ((ByteArray.size x0:Int)>24)))=false→(
  ∃(cS:(Int)→Prop) (gj:(Int)→Nat),cS 0∧gj 0<cX∧∀(d0:Int),cS d0→(
   let v9:Int:=bW.den .iy x0 d0
   ((bW.den .ix x0 d0)=true→(
    (((!(Cr v9))&&(((bW.den .jC x0 d0)==0)||(((v9 != 95)&&(v9 != 45))&&((decide (v9<48))||(decide (v9>57))))))=false→(
     cS (bW.den .hp x0 d0)∧gj (bW.den .hp x0 d0)<gj d0)))))))
noncomputable def sX(x0:ByteArray):Bool:=
 Sum.elim (fun r=>r) (fun cG=>
  ((decide ((ByteArray.size x0:Int)≥1))&&(decide ((ByteArray.size x0:Int)≤1000))))
 (b3 (fun(aF:Int)=>
  show Step (Bool) (Int)from
  let v4:Int:=bW.den .iy x0 aF
  bif(bW.den .ix x0 aF)then
   bif((decide (v4<33))||(decide (v4>126)))then
    .ret false
   else
    .bP (bW.den .hp x0 aF)
  else
   .b9 aF) cX 0:Bool⊕(Int))
def B6(x0:ByteArray):Prop:=
 ∃(cS:(Int)→Prop) (gj:(Int)→Nat),cS 0∧gj 0<cX∧∀(d0:Int),cS d0→(
  let v4:Int:=bW.den .iy x0 d0
  ((bW.den .ix x0 d0)=true→(
   (((decide (v4<33))||(decide (v4>126)))=false→(
    cS (bW.den .hp x0 d0)∧gj (bW.den .hp x0 d0)<gj d0)))))
noncomputable def m15(x0:aT):Int:=
 let b8:Int:=
  0
 let aM:Bool→Int:=fun v1=>
  bif v1 then
   let v4:=!(m32 x0.key.bT)
   let aM:Bool→Int:=fun v5=>
    bif(v4||(!v5))then
     10
    else
     let bU:=fL ⟨x0.value.kind,x0.value.n,x0.value.s⟩
     bif(bU != 0)then
      bU
     else
      bif(x0.value.kind==0)then
       4
      else
       b8
   bif v4 then
    aM false
   else
    aM (m32 x0.key.attr)
  else
   bif(x0.kind==3)then
    let v5:=!(m32 x0.event.bT)
    let aM:Bool→Int:=fun v6=>
     bif(v5||(!v6))then
      10
     else
      b8
    bif v5 then
     aM false
    else
     aM (m32 x0.event.name)
   else
    bif(x0.kind==12)then
     let v5:=m20 ⟨x0.asked.request.kind,x0.asked.request.ec,⟨x0.asked.request.key.dev,x0.asked.request.key.bT,x0.asked.request.key.attr⟩,x0.asked.request.name,⟨x0.asked.request.value.kind,x0.asked.request.value.n,x0.asked.request.value.s⟩,x0.asked.request.text⟩
     let v6:=iP v5
     let v10:=!(bif v6.1.kind==x0.asked.request.kind then bif v6.1.ec==x0.asked.request.ec then bif v6.1.key.dev==x0.asked.request.key.dev then bif bR v6.1.key.bT x0.asked.request.key.bT then bif bR v6.1.key.attr x0.asked.request.key.attr then bif bR v6.1.name x0.asked.request.name then bif v6.1.value.kind==x0.asked.request.value.kind then bif v6.1.value.n==x0.asked.request.value.n then bif bR v6.1.value.s x0.asked.request.value.s then bR v6.1.text x0.asked.request.text else false else false else false else false else false else false else false else false else false)
     let v11:Bool:=(v6.2 != 0)||v10
     let aM:Bool→Int:=fun v12=>
      bif(v11||(!v12))then
       4
      else
       b8
     bif v11 then
      aM false
     else
      aM (sX x0.asked.token)
    else
     b8
 let v1:=x0.kind==2
 bif v1 then
  aM v1
 else
  aM (x0.kind==13)
def yJ(x0:aT):Prop:=
 let aM:Bool→Prop:=fun v1=>
  (v1=true→(
   (sW x0.key.bT)∧
   let v4:=!(m32 x0.key.bT)
   (v4=false→(
    sW x0.key.attr))))∧(v1=false→(
   ((x0.kind==3)=true→(
    (sW x0.event.bT)∧
    let v5:=!(m32 x0.event.bT)
    (v5=false→(
     sW x0.event.name))))∧((x0.kind==3)=false→(
    ((x0.kind==12)=true→(
     let v5:=m20 ⟨x0.asked.request.kind,x0.asked.request.ec,⟨x0.asked.request.key.dev,x0.asked.request.key.bT,x0.asked.request.key.attr⟩,x0.asked.request.name,⟨x0.asked.request.value.kind,x0.asked.request.value.n,x0.asked.request.value.s⟩,x0.asked.request.text⟩
     (yy ⟨x0.asked.request.kind,x0.asked.request.ec,⟨x0.asked.request.key.dev,x0.asked.request.key.bT,x0.asked.request.key.attr⟩,x0.asked.request.name,⟨x0.asked.request.value.kind,x0.asked.request.value.n,x0.asked.request.value.s⟩,x0.asked.request.text⟩)∧
     let v6:=iP v5
     (sU v5)∧
     let v10:=!(bif v6.1.kind==x0.asked.request.kind then bif v6.1.ec==x0.asked.request.ec then bif v6.1.key.dev==x0.asked.request.key.dev then bif bR v6.1.key.bT x0.asked.request.key.bT then bif bR v6.1.key.attr x0.asked.request.key.attr then bif bR v6.1.name x0.asked.request.name then bif v6.1.value.kind==x0.asked.request.value.kind then bif v6.1.value.n==x0.asked.request.value.n then bif bR v6.1.value.s x0.asked.request.value.s then bR v6.1.text x0.asked.request.text else false else false else false else false else false else false else false else false else false)
     let v11:Bool:=(v6.2 != 0)||v10
     (v11=false→(
      B6 x0.asked.token))))))))
 let v1:=x0.kind==2
 (v1=true→(
  aM v1))∧(v1=false→(
  aM (x0.kind==13)))
def fq:Nat→Nat→List UInt8
 |0,_=>[]
 |f+1,u=>bif Nat.blt u 10 then[UInt8.ofNat (48+u)]else fq f (u/ 10)++[UInt8.ofNat (48+u%10)]
def fr(n:Int):ByteArray:=⟨(bif decide (n<0)then 45::fq 20 n.natAbs else fq 20 n.toNat).toArray⟩
def I2(n:Int):ByteArray:=fr n
def vr(n:Int):Prop:= -9223372036854775808≤n∧n≤9223372036854775807
noncomputable def m21(x0:Int):ByteArray:=
 (I2 x0)
def p6(x0:Int):Prop:=
 vr x0
noncomputable def m18(x0:Int)(cI:ByteArray)(n3:ByteArray):ByteArray:=
 (ByteArray.append (ByteArray.append (ByteArray.append (ByteArray.append (m21 x0) (⟨#[46]⟩:ByteArray)) cI) (⟨#[46]⟩:ByteArray)) n3)
def yI(x0:Int)(cI:ByteArray)(n3:ByteArray):Prop:=
 let v3:=m21 x0
 (p6 x0)∧
 let v4:=ByteArray.append v3 (⟨#[46]⟩:ByteArray)
 (ByteArray.size v3+ByteArray.size (⟨#[46]⟩:ByteArray)≤9223372036854775807)∧
 let v5:=ByteArray.append v4 cI
 (ByteArray.size v4+ByteArray.size cI≤9223372036854775807)∧
 let v6:=ByteArray.append v5 (⟨#[46]⟩:ByteArray)
 (ByteArray.size v5+ByteArray.size (⟨#[46]⟩:ByteArray)≤9223372036854775807)∧
 ByteArray.size v6+ByteArray.size n3≤9223372036854775807
noncomputable def m16(x0:h2):ByteArray:=
 (m18 x0.dev x0.bT x0.attr)
def I3(x0:h2):Prop:=
 yI x0.dev x0.bT x0.attr
noncomputable def kq(x0:Int):ByteArray:=
 bif((x0==34)||(x0==92))then
  (ByteArray.append (⟨#[92]⟩:ByteArray) (bytesOf ([x0]:List Int)))
 else
  bif((decide (x0<32))||(decide (x0>126)))then
   let v11:=ByteArray.append (⟨#[92,120]⟩:ByteArray) (bh (⟨#[48,49,50,51,52,53,54,55,56,57,97,98,99,100,101,102]⟩:ByteArray) (some (bK .shr .u8 x0 (4:Int))) (some (IntKind.wrap .u8 ((bK .shr .u8 x0 (4:Int))+(1:Int)))))
   let dy:=ByteArray.append v11 (bh (⟨#[48,49,50,51,52,53,54,55,56,57,97,98,99,100,101,102]⟩:ByteArray) (some (bK .and .u8 x0 (15:Int))) (some (IntKind.wrap .u8 ((bK .and .u8 x0 (15:Int))+(1:Int)))))
   dy
  else
   (bytesOf ([x0]:List Int))
def rr(x0:Int):Prop:=
 (((x0==34)||(x0==92))=true→(
  let v5:=bytesOf ([x0]:List Int)
  ByteArray.size (⟨#[92]⟩:ByteArray)+ByteArray.size v5≤9223372036854775807))∧(((x0==34)||(x0==92))=false→(
  (((decide (x0<32))||(decide (x0>126)))=true→(
   let bg:Int:=bK .shr .u8 x0 (4:Int)
   let v9:Int:=IntKind.wrap .u8 ((bK .shr .u8 x0 (4:Int))+(1:Int))
   let v10:=bh (⟨#[48,49,50,51,52,53,54,55,56,57,97,98,99,100,101,102]⟩:ByteArray) (some bg) (some v9)
   (eE (ByteArray.size (⟨#[48,49,50,51,52,53,54,55,56,57,97,98,99,100,101,102]⟩:ByteArray)) (some bg) (some v9))∧
   let v11:=ByteArray.append (⟨#[92,120]⟩:ByteArray) v10
   (ByteArray.size (⟨#[92,120]⟩:ByteArray)+ByteArray.size v10≤9223372036854775807)∧
   let v12:Int:=bK .and .u8 x0 (15:Int)
   let eO:Int:=IntKind.wrap .u8 ((bK .and .u8 x0 (15:Int))+(1:Int))
   let fM:=bh (⟨#[48,49,50,51,52,53,54,55,56,57,97,98,99,100,101,102]⟩:ByteArray) (some v12) (some eO)
   (eE (ByteArray.size (⟨#[48,49,50,51,52,53,54,55,56,57,97,98,99,100,101,102]⟩:ByteArray)) (some v12) (some eO))∧
   ByteArray.size v11+ByteArray.size fM≤9223372036854775807))))
noncomputable def yB(x0:ByteArray):ByteArray:=
 let v2:Int:=(ByteArray.size x0:Int)
 Sum.elim (fun r=>r) (fun cG=>
  (bytesOf (List.append cG (dc.den .eY (⟨#[34]⟩:ByteArray)))))
 (bS (fun(i4:Nat) (aF:(List Int))=>
  show Step (ByteArray) ((List Int))from
  let bg:=kq (aK x0 (i4:Int))
  .bP (List.append aF (dc.den .eY bg))) 0 (Int.toNat v2) (dc.den .eY (⟨#[34]⟩:ByteArray)):ByteArray⊕((List Int)))
def Cb(x0:ByteArray):Prop:=
 let v1:List Int:=dc.den .eY (⟨#[34]⟩:ByteArray)
 (List.length ([]:List Int)+List.length v1≤maxLen∧(List.length ([]:List Int)+List.length v1)*1≤140737488355328)∧
 let v2:Int:=(ByteArray.size x0:Int)
 (0≤v2∧v2<(9223372036854775808:Int))∧
 let aR:(List Int)→Prop:=fun cG=>
  let v4:List Int:=dc.den .eY (⟨#[34]⟩:ByteArray)
  List.length cG+List.length v4≤maxLen∧(List.length cG+List.length v4)*1≤140737488355328
 ∃cS:Nat→((List Int))→Prop,cS 0 v1∧(∀(i4:Nat) (d0:(List Int)),i4<Int.toNat v2→cS i4 d0→(
  let v6:Int:=aK x0 (i4:Int)
  let bg:=kq v6
  (rr v6)∧
  let bU:List Int:=dc.den .eY bg
  (List.length d0+List.length bU≤maxLen∧(List.length d0+List.length bU)*1≤140737488355328)∧
  cS (i4+1) (List.append d0 bU)))∧∀cG,cS (Int.toNat v2) cG→aR cG
noncomputable def m17(x0:cr):ByteArray:=
 bif((fL x0) != 0)then
  ⟨#[]⟩
 else
  bif(x0.kind==1)then
   bif(x0.n==1)then
    ⟨#[116,114,117,101]⟩
   else
    ⟨#[102,97,108,115,101]⟩
  else
   bif(x0.kind==2)then
    (m21 x0.n)
   else
    bif(x0.kind==3)then
     (ByteArray.append (⟨#[35]⟩:ByteArray) (m21 x0.n))
    else
     bif(x0.kind==4)then
      (yB x0.s)
     else
      ⟨#[110,111,110,101]⟩
def yC(x0:cr):Prop:=
 (((fL x0) != 0)=false→(
  ((x0.kind==1)=false→(
   ((x0.kind==2)=true→(
    p6 x0.n))∧((x0.kind==2)=false→(
    ((x0.kind==3)=true→(
     let v6:=m21 x0.n
     (p6 x0.n)∧
     ByteArray.size (⟨#[35]⟩:ByteArray)+ByteArray.size v6≤9223372036854775807))∧((x0.kind==3)=false→(
     ((x0.kind==4)=true→(
      Cb x0.s))))))))))
noncomputable def m19(x0:ByteArray):ByteArray:=
 let v1:Int:=aK (⟨#[48,49,50,51,52,53,54,55,56,57,97,98,99,100,101,102]⟩:ByteArray) (0:Int)
 let v2:Int:=aK (⟨#[48,49,50,51,52,53,54,55,56,57,97,98,99,100,101,102]⟩:ByteArray) (1:Int)
 let v3:Int:=aK (⟨#[48,49,50,51,52,53,54,55,56,57,97,98,99,100,101,102]⟩:ByteArray) (2:Int)
 let v4:Int:=aK (⟨#[48,49,50,51,52,53,54,55,56,57,97,98,99,100,101,102]⟩:ByteArray) (3:Int)
 let v5:Int:=aK (⟨#[48,49,50,51,52,53,54,55,56,57,97,98,99,100,101,102]⟩:ByteArray) (4:Int)
 let v6:Int:=aK (⟨#[48,49,50,51,52,53,54,55,56,57,97,98,99,100,101,102]⟩:ByteArray) (5:Int)
 let bg:Int:=aK (⟨#[48,49,50,51,52,53,54,55,56,57,97,98,99,100,101,102]⟩:ByteArray) (6:Int)
 let bU:Int:=aK (⟨#[48,49,50,51,52,53,54,55,56,57,97,98,99,100,101,102]⟩:ByteArray) (7:Int)
 let v9:Int:=aK (⟨#[48,49,50,51,52,53,54,55,56,57,97,98,99,100,101,102]⟩:ByteArray) (8:Int)
 let v10:Int:=aK (⟨#[48,49,50,51,52,53,54,55,56,57,97,98,99,100,101,102]⟩:ByteArray) (9:Int)
 let v11:Int:=aK (⟨#[48,49,50,51,52,53,54,55,56,57,97,98,99,100,101,102]⟩:ByteArray) (10:Int)
 let v12:Int:=aK (⟨#[48,49,50,51,52,53,54,55,56,57,97,98,99,100,101,102]⟩:ByteArray) (11:Int)
 let c5:Int:=aK (⟨#[48,49,50,51,52,53,54,55,56,57,97,98,99,100,101,102]⟩:ByteArray) (12:Int)
 let eO:Int:=aK (⟨#[48,49,50,51,52,53,54,55,56,57,97,98,99,100,101,102]⟩:ByteArray) (13:Int)
 let fM:Int:=aK (⟨#[48,49,50,51,52,53,54,55,56,57,97,98,99,100,101,102]⟩:ByteArray) (14:Int)
 let dy:Int:=aK (⟨#[48,49,50,51,52,53,54,55,56,57,97,98,99,100,101,102]⟩:ByteArray) (15:Int)
 let ee:Int:=(ByteArray.size x0:Int)
 Sum.elim (fun r=>r) (fun cG=>
  (bytesOf cG))
 (bS (fun(i21:Nat) (aF:(List Int))=>
  show Step (ByteArray) ((List Int))from
  let n2:List Int:=([(gU ([v1,v2,v3,v4,v5,v6,bg,bU,v9,v10,v11,v12,c5,eO,fM,dy]:List Int) (Int.toNat (bK .shr .u8 (aK x0 (i21:Int)) (4:Int)))),(gU ([v1,v2,v3,v4,v5,v6,bg,bU,v9,v10,v11,v12,c5,eO,fM,dy]:List Int) (Int.toNat (bK .and .u8 (aK x0 (i21:Int)) (15:Int))))]:List Int)
  .bP (List.append aF n2)) 0 (Int.toNat ee) (List.replicate (Int.toNat (0:Int)) (ed .u8)):ByteArray⊕((List Int)))
def Cd(x0:ByteArray):Prop:=
 let v1:Int:=aK (⟨#[48,49,50,51,52,53,54,55,56,57,97,98,99,100,101,102]⟩:ByteArray) (0:Int)
 (0≤(0:Int)∧(0:Int)<(ByteArray.size (⟨#[48,49,50,51,52,53,54,55,56,57,97,98,99,100,101,102]⟩:ByteArray):Int))∧
 let v2:Int:=aK (⟨#[48,49,50,51,52,53,54,55,56,57,97,98,99,100,101,102]⟩:ByteArray) (1:Int)
 (0≤(1:Int)∧(1:Int)<(ByteArray.size (⟨#[48,49,50,51,52,53,54,55,56,57,97,98,99,100,101,102]⟩:ByteArray):Int))∧
 let v3:Int:=aK (⟨#[48,49,50,51,52,53,54,55,56,57,97,98,99,100,101,102]⟩:ByteArray) (2:Int)
 (0≤(2:Int)∧(2:Int)<(ByteArray.size (⟨#[48,49,50,51,52,53,54,55,56,57,97,98,99,100,101,102]⟩:ByteArray):Int))∧
 let v4:Int:=aK (⟨#[48,49,50,51,52,53,54,55,56,57,97,98,99,100,101,102]⟩:ByteArray) (3:Int)
 (0≤(3:Int)∧(3:Int)<(ByteArray.size (⟨#[48,49,50,51,52,53,54,55,56,57,97,98,99,100,101,102]⟩:ByteArray):Int))∧
 let v5:Int:=aK (⟨#[48,49,50,51,52,53,54,55,56,57,97,98,99,100,101,102]⟩:ByteArray) (4:Int)
 (0≤(4:Int)∧(4:Int)<(ByteArray.size (⟨#[48,49,50,51,52,53,54,55,56,57,97,98,99,100,101,102]⟩:ByteArray):Int))∧
 let v6:Int:=aK (⟨#[48,49,50,51,52,53,54,55,56,57,97,98,99,100,101,102]⟩:ByteArray) (5:Int)
 (0≤(5:Int)∧(5:Int)<(ByteArray.size (⟨#[48,49,50,51,52,53,54,55,56,57,97,98,99,100,101,102]⟩:ByteArray):Int))∧
 let bg:Int:=aK (⟨#[48,49,50,51,52,53,54,55,56,57,97,98,99,100,101,102]⟩:ByteArray) (6:Int)
 (0≤(6:Int)∧(6:Int)<(ByteArray.size (⟨#[48,49,50,51,52,53,54,55,56,57,97,98,99,100,101,102]⟩:ByteArray):Int))∧
 let bU:Int:=aK (⟨#[48,49,50,51,52,53,54,55,56,57,97,98,99,100,101,102]⟩:ByteArray) (7:Int)
 (0≤(7:Int)∧(7:Int)<(ByteArray.size (⟨#[48,49,50,51,52,53,54,55,56,57,97,98,99,100,101,102]⟩:ByteArray):Int))∧
 let v9:Int:=aK (⟨#[48,49,50,51,52,53,54,55,56,57,97,98,99,100,101,102]⟩:ByteArray) (8:Int)
 (0≤(8:Int)∧(8:Int)<(ByteArray.size (⟨#[48,49,50,51,52,53,54,55,56,57,97,98,99,100,101,102]⟩:ByteArray):Int))∧
 let v10:Int:=aK (⟨#[48,49,50,51,52,53,54,55,56,57,97,98,99,100,101,102]⟩:ByteArray) (9:Int)
 (0≤(9:Int)∧(9:Int)<(ByteArray.size (⟨#[48,49,50,51,52,53,54,55,56,57,97,98,99,100,101,102]⟩:ByteArray):Int))∧
 let v11:Int:=aK (⟨#[48,49,50,51,52,53,54,55,56,57,97,98,99,100,101,102]⟩:ByteArray) (10:Int)
 (0≤(10:Int)∧(10:Int)<(ByteArray.size (⟨#[48,49,50,51,52,53,54,55,56,57,97,98,99,100,101,102]⟩:ByteArray):Int))∧
 let v12:Int:=aK (⟨#[48,49,50,51,52,53,54,55,56,57,97,98,99,100,101,102]⟩:ByteArray) (11:Int)
 (0≤(11:Int)∧(11:Int)<(ByteArray.size (⟨#[48,49,50,51,52,53,54,55,56,57,97,98,99,100,101,102]⟩:ByteArray):Int))∧
 let c5:Int:=aK (⟨#[48,49,50,51,52,53,54,55,56,57,97,98,99,100,101,102]⟩:ByteArray) (12:Int)
 (0≤(12:Int)∧(12:Int)<(ByteArray.size (⟨#[48,49,50,51,52,53,54,55,56,57,97,98,99,100,101,102]⟩:ByteArray):Int))∧
 let eO:Int:=aK (⟨#[48,49,50,51,52,53,54,55,56,57,97,98,99,100,101,102]⟩:ByteArray) (13:Int)
 (0≤(13:Int)∧(13:Int)<(ByteArray.size (⟨#[48,49,50,51,52,53,54,55,56,57,97,98,99,100,101,102]⟩:ByteArray):Int))∧
 let fM:Int:=aK (⟨#[48,49,50,51,52,53,54,55,56,57,97,98,99,100,101,102]⟩:ByteArray) (14:Int)
 (0≤(14:Int)∧(14:Int)<(ByteArray.size (⟨#[48,49,50,51,52,53,54,55,56,57,97,98,99,100,101,102]⟩:ByteArray):Int))∧
 let dy:Int:=aK (⟨#[48,49,50,51,52,53,54,55,56,57,97,98,99,100,101,102]⟩:ByteArray) (15:Int)
 (0≤(15:Int)∧(15:Int)<(ByteArray.size (⟨#[48,49,50,51,52,53,54,55,56,57,97,98,99,100,101,102]⟩:ByteArray):Int))∧
 let ee:Int:=(ByteArray.size x0:Int)
 (0≤(0:Int)∧(0:Int)≤(IntKind.wrap .i64 ((2:Int)*ee))∧(IntKind.wrap .i64 ((2:Int)*ee))≤(maxLen:Int)∧(1:Int)*(IntKind.wrap .i64 ((2:Int)*ee))≤281474976710656)∧
 (0≤ee∧ee<(9223372036854775808:Int))∧
 ∃cS:Nat→((List Int))→Prop,cS 0 (List.replicate (Int.toNat (0:Int)) (ed .u8))∧∀(i21:Nat) (d0:(List Int)),i21<Int.toNat ee→cS i21 d0→(
  let v24:Int:=bK .shr .u8 (aK x0 (i21:Int)) (4:Int)
  (0≤v24∧v24<(16:Int))∧
  (0≤v24∧v24<(16:Int))∧
  let rI:Int:=bK .and .u8 (aK x0 (i21:Int)) (15:Int)
  (0≤rI∧rI<(16:Int))∧
  (0≤rI∧rI<(16:Int))∧
  let n2:List Int:=([(gU ([v1,v2,v3,v4,v5,v6,bg,bU,v9,v10,v11,v12,c5,eO,fM,dy]:List Int) (Int.toNat v24)),(gU ([v1,v2,v3,v4,v5,v6,bg,bU,v9,v10,v11,v12,c5,eO,fM,dy]:List Int) (Int.toNat rI))]:List Int)
  (List.length d0+List.length n2≤maxLen∧(List.length d0+List.length n2)*1≤140737488355328)∧
  cS (i21+1) (List.append d0 n2))
noncomputable def m6(x0:aT):ByteArray × Int:=
 bif((decide (x0.kind<1))||(decide (x0.kind>16)))then
  (⟨#[]⟩,7)
 else
  let v4:=m13 x0
  let v5:=!(bif v4.kind==x0.kind then bif v4.n==x0.n then bif v4.m==x0.m then bif v4.key.dev==x0.key.dev then bif bR v4.key.bT x0.key.bT then bif bR v4.key.attr x0.key.attr then bif v4.value.kind==x0.value.kind then bif v4.value.n==x0.value.n then bif bR v4.value.s x0.value.s then bif v4.event.dev==x0.event.dev then bif bR v4.event.bT x0.event.bT then bif bR v4.event.name x0.event.name then bif bR v4.asked.token x0.asked.token then bif v4.asked.request.kind==x0.asked.request.kind then bif v4.asked.request.ec==x0.asked.request.ec then bif v4.asked.request.key.dev==x0.asked.request.key.dev then bif bR v4.asked.request.key.bT x0.asked.request.key.bT then bif bR v4.asked.request.key.attr x0.asked.request.key.attr then bif bR v4.asked.request.name x0.asked.request.name then bif v4.asked.request.value.kind==x0.asked.request.value.kind then bif v4.asked.request.value.n==x0.asked.request.value.n then bif bR v4.asked.request.value.s x0.asked.request.value.s then bR v4.asked.request.text x0.asked.request.text else false else false else false else false else false else false else false else false else false else false else false else false else false else false else false else false else false else false else false else false else false else false)
  bif v5 then
   (⟨#[]⟩,1)
  else
   let v6:=m14 x0
   bif(v6 != 0)then
    (⟨#[]⟩,v6)
   else
    let bU:=m15 x0
    bif(bU != 0)then
     (⟨#[]⟩,bU)
    else
     let v11:ByteArray:=gU ([⟨#[116,105,99,107]⟩,⟨#[115,101,110,115,101]⟩,⟨#[101,118,101,110,116]⟩,⟨#[110,111,105,115,101]⟩,⟨#[113,117,105,101,116]⟩,⟨#[111,102,102]⟩,⟨#[111,110]⟩,⟨#[99,117,116]⟩,⟨#[106,111,105,110]⟩,⟨#[99,114,97,115,104]⟩,⟨#[99,108,111,99,107]⟩,⟨#[97,115,107]⟩,⟨#[101,110,101,114,103,121]⟩,⟨#[109,111,118,101]⟩,⟨#[108,111,115,101]⟩,⟨#[116,119,105,99,101]⟩]:List ByteArray) (Int.toNat (IntKind.wrap .i64 (x0.kind-(1:Int))))
     let aM:Bool→ByteArray × Int:=fun v12=>
      bif v12 then
       let db:=ByteArray.append (ByteArray.append (ByteArray.append (ByteArray.append v11 (⟨#[32]⟩:ByteArray)) (m16 ⟨x0.key.dev,x0.key.bT,x0.key.attr⟩)) (⟨#[32]⟩:ByteArray)) (m17 ⟨x0.value.kind,x0.value.n,x0.value.s⟩)
       (db,0)
      else
       bif(x0.kind==3)then
        ((ByteArray.append (ByteArray.append v11 (⟨#[32]⟩:ByteArray)) (m18 x0.event.dev x0.event.bT x0.event.name)),0)
       else
        bif(x0.kind==12)then
         let db:=m20 ⟨x0.asked.request.kind,x0.asked.request.ec,⟨x0.asked.request.key.dev,x0.asked.request.key.bT,x0.asked.request.key.attr⟩,x0.asked.request.name,⟨x0.asked.request.value.kind,x0.asked.request.value.n,x0.asked.request.value.s⟩,x0.asked.request.text⟩
         ((ByteArray.append (ByteArray.append (ByteArray.append (ByteArray.append v11 (⟨#[32]⟩:ByteArray)) x0.asked.token) (⟨#[32]⟩:ByteArray)) (m19 db)),0)
        else
         let aM:Bool→ByteArray × Int:=fun dy=>
          bif dy then
           ((ByteArray.append (ByteArray.append (ByteArray.append (ByteArray.append v11 (⟨#[32]⟩:ByteArray)) (m21 x0.n)) (⟨#[32]⟩:ByteArray)) (m21 x0.m)),0)
          else
           bif(x0.kind==14)then
            (v11,0)
           else
            ((ByteArray.append (ByteArray.append v11 (⟨#[32]⟩:ByteArray)) (m21 x0.n)),0)
         let dy:=x0.kind==8
         bif dy then
          aM dy
         else
          aM (x0.kind==9)
     let v12:=x0.kind==2
     bif v12 then
      aM v12
     else
      aM (x0.kind==13)
def rv(x0:aT):Prop:=
 (((decide (x0.kind<1))||(decide (x0.kind>16)))=false→(
  let v4:=m13 x0
  let v5:=!(bif v4.kind==x0.kind then bif v4.n==x0.n then bif v4.m==x0.m then bif v4.key.dev==x0.key.dev then bif bR v4.key.bT x0.key.bT then bif bR v4.key.attr x0.key.attr then bif v4.value.kind==x0.value.kind then bif v4.value.n==x0.value.n then bif bR v4.value.s x0.value.s then bif v4.event.dev==x0.event.dev then bif bR v4.event.bT x0.event.bT then bif bR v4.event.name x0.event.name then bif bR v4.asked.token x0.asked.token then bif v4.asked.request.kind==x0.asked.request.kind then bif v4.asked.request.ec==x0.asked.request.ec then bif v4.asked.request.key.dev==x0.asked.request.key.dev then bif bR v4.asked.request.key.bT x0.asked.request.key.bT then bif bR v4.asked.request.key.attr x0.asked.request.key.attr then bif bR v4.asked.request.name x0.asked.request.name then bif v4.asked.request.value.kind==x0.asked.request.value.kind then bif v4.asked.request.value.n==x0.asked.request.value.n then bif bR v4.asked.request.value.s x0.asked.request.value.s then bR v4.asked.request.text x0.asked.request.text else false else false else false else false else false else false else false else false else false else false else false else false else false else false else false else false else false else false else false else false else false else false)
  (v5=false→(
   let v6:=m14 x0
   ((v6 != 0)=false→(
    let bU:=m15 x0
    (yJ x0)∧
    ((bU != 0)=false→(
     let v10:Int:=IntKind.wrap .i64 (x0.kind-(1:Int))
     let v11:ByteArray:=gU ([⟨#[116,105,99,107]⟩,⟨#[115,101,110,115,101]⟩,⟨#[101,118,101,110,116]⟩,⟨#[110,111,105,115,101]⟩,⟨#[113,117,105,101,116]⟩,⟨#[111,102,102]⟩,⟨#[111,110]⟩,⟨#[99,117,116]⟩,⟨#[106,111,105,110]⟩,⟨#[99,114,97,115,104]⟩,⟨#[99,108,111,99,107]⟩,⟨#[97,115,107]⟩,⟨#[101,110,101,114,103,121]⟩,⟨#[109,111,118,101]⟩,⟨#[108,111,115,101]⟩,⟨#[116,119,105,99,101]⟩]:List ByteArray) (Int.toNat v10)
     (0≤v10∧v10<(16:Int))∧
     let aM:Bool→Prop:=fun v12=>
      (v12=true→(
       let eO:=ByteArray.append v11 (⟨#[32]⟩:ByteArray)
       (ByteArray.size v11+ByteArray.size (⟨#[32]⟩:ByteArray)≤9223372036854775807)∧
       let fM:=m16 ⟨x0.key.dev,x0.key.bT,x0.key.attr⟩
       (I3 ⟨x0.key.dev,x0.key.bT,x0.key.attr⟩)∧
       let dy:=ByteArray.append eO fM
       (ByteArray.size eO+ByteArray.size fM≤9223372036854775807)∧
       let ee:=ByteArray.append dy (⟨#[32]⟩:ByteArray)
       (ByteArray.size dy+ByteArray.size (⟨#[32]⟩:ByteArray)≤9223372036854775807)∧
       let fo:=m17 ⟨x0.value.kind,x0.value.n,x0.value.s⟩
       (yC ⟨x0.value.kind,x0.value.n,x0.value.s⟩)∧
       ByteArray.size ee+ByteArray.size fo≤9223372036854775807))∧(v12=false→(
       ((x0.kind==3)=true→(
        let fM:=ByteArray.append v11 (⟨#[32]⟩:ByteArray)
        (ByteArray.size v11+ByteArray.size (⟨#[32]⟩:ByteArray)≤9223372036854775807)∧
        let dy:=m18 x0.event.dev x0.event.bT x0.event.name
        (yI x0.event.dev x0.event.bT x0.event.name)∧
        ByteArray.size fM+ByteArray.size dy≤9223372036854775807))∧((x0.kind==3)=false→(
        ((x0.kind==12)=true→(
         let dy:=ByteArray.append v11 (⟨#[32]⟩:ByteArray)
         (ByteArray.size v11+ByteArray.size (⟨#[32]⟩:ByteArray)≤9223372036854775807)∧
         let ee:=ByteArray.append dy x0.asked.token
         (ByteArray.size dy+ByteArray.size x0.asked.token≤9223372036854775807)∧
         let fo:=ByteArray.append ee (⟨#[32]⟩:ByteArray)
         (ByteArray.size ee+ByteArray.size (⟨#[32]⟩:ByteArray)≤9223372036854775807)∧
         let db:=m20 ⟨x0.asked.request.kind,x0.asked.request.ec,⟨x0.asked.request.key.dev,x0.asked.request.key.bT,x0.asked.request.key.attr⟩,x0.asked.request.name,⟨x0.asked.request.value.kind,x0.asked.request.value.n,x0.asked.request.value.s⟩,x0.asked.request.text⟩
         (yy ⟨x0.asked.request.kind,x0.asked.request.ec,⟨x0.asked.request.key.dev,x0.asked.request.key.bT,x0.asked.request.key.attr⟩,x0.asked.request.name,⟨x0.asked.request.value.kind,x0.asked.request.value.n,x0.asked.request.value.s⟩,x0.asked.request.text⟩)∧
         let v20:=m19 db
         (Cd db)∧
         ByteArray.size fo+ByteArray.size v20≤9223372036854775807))∧((x0.kind==12)=false→(
         let aM:Bool→Prop:=fun dy=>
          (dy=true→(
           let fo:=ByteArray.append v11 (⟨#[32]⟩:ByteArray)
           (ByteArray.size v11+ByteArray.size (⟨#[32]⟩:ByteArray)≤9223372036854775807)∧
           let db:=m21 x0.n
           (p6 x0.n)∧
           let v20:=ByteArray.append fo db
           (ByteArray.size fo+ByteArray.size db≤9223372036854775807)∧
           let v21:=ByteArray.append v20 (⟨#[32]⟩:ByteArray)
           (ByteArray.size v20+ByteArray.size (⟨#[32]⟩:ByteArray)≤9223372036854775807)∧
           let iB:=m21 x0.m
           (p6 x0.m)∧
           ByteArray.size v21+ByteArray.size iB≤9223372036854775807))∧(dy=false→(
           ((x0.kind==14)=false→(
            let db:=ByteArray.append v11 (⟨#[32]⟩:ByteArray)
            (ByteArray.size v11+ByteArray.size (⟨#[32]⟩:ByteArray)≤9223372036854775807)∧
            let v20:=m21 x0.n
            (p6 x0.n)∧
            ByteArray.size db+ByteArray.size v20≤9223372036854775807))))
         let dy:=x0.kind==8
         (dy=true→(
          aM dy))∧(dy=false→(
          aM (x0.kind==9)))))))))
     let v12:=x0.kind==2
     (v12=true→(
      aM v12))∧(v12=false→(
      aM (x0.kind==13)))))))))))
noncomputable def eA(x0:ByteArray)(cI:Int):Int:=
 (bW.den .rJ x0 cI)
noncomputable def hq(x0:Int):Int:=
 (bW.den (.rK .i64) (bW.den (.mx .i64) x0 ((-1099511627776):Int)) (1099511627776:Int))
noncomputable def fv(x0:ByteArray):Int × Bool:=
 let v3:Int:=(ByteArray.size x0:Int)
 bif(((ByteArray.size x0:Int)==0)||(decide (v3>14)))then
  (0,false)
 else
  Sum.elim (fun r=>r) (fun cG=>
   let aM:Int→Int × Bool:=fun bg=>
    let v11:=(hq bg) != bg
    let aM:ByteArray→Int × Bool:=fun v12=>
     bif(v11||(bm .neq v12 x0))then
      (0,false)
     else
      (bg,true)
    bif v11 then
     aM (⟨#[]⟩:ByteArray)
    else
     aM (m21 bg)
   bif((aK x0 (0:Int))==45)then
    aM (IntKind.wrap .i64 (0-cG))
   else
    aM cG)
  (bS (fun(i7:Nat) (aF:Int)=>
   show Step (Int × Bool) (Int)from
   let aM:Int→Step (Int × Bool) (Int):=fun v9=>
    .bP v9
   let v9:Int:=aK x0 (i7:Int)
   bif((decide (v9≥48))&&(decide (v9≤57)))then
    aM (IntKind.wrap .i64 ((IntKind.wrap .i64 ((10:Int)*aF))+(IntKind.wrap .i64 (IntKind.wrap .u8 (v9-(48:Int))))))
   else
    bif((decide ((i7:Int)>0))||(v9 != 45))then
     .ret (0,false)
    else
     aM aF) 0 (Int.toNat v3) 0:(Int × Bool)⊕(Int))
def jD(x0:ByteArray):Prop:=
 let v3:Int:=(ByteArray.size x0:Int)
 ((((ByteArray.size x0:Int)==0)||(decide (v3>14)))=false→(
  (0≤v3∧v3<(9223372036854775808:Int))∧
  let aR:Int→Prop:=fun cG=>
   let aM:Int→Prop:=fun bg=>
    let v11:=(hq bg) != bg
    (v11=false→(
     p6 bg))
   (0≤(0:Int)∧(0:Int)<(ByteArray.size x0:Int))∧
   (((aK x0 (0:Int))==45)=true→(
    aM (IntKind.wrap .i64 (0-cG))))∧(((aK x0 (0:Int))==45)=false→(
    aM cG))
  ∃cS:Nat→(Int)→Prop,cS 0 0∧(∀(i7:Nat) (d0:Int),i7<Int.toNat v3→cS i7 d0→(
   let aM:Int→Prop:=fun v9=>
    cS (i7+1) v9
   let v9:Int:=aK x0 (i7:Int)
   (((decide (v9≥48))&&(decide (v9≤57)))=true→(
    aM (IntKind.wrap .i64 ((IntKind.wrap .i64 ((10:Int)*d0))+(IntKind.wrap .i64 (IntKind.wrap .u8 (v9-(48:Int))))))))∧(((decide (v9≥48))&&(decide (v9≤57)))=false→(
    (((decide ((i7:Int)>0))||(v9 != 45))=false→(
     aM d0))))))∧∀cG,cS (Int.toNat v3) cG→aR cG))
noncomputable def iA(x0:ByteArray)(cI:Int):Int:=
 (eA x0 cI)
noncomputable def gk(x0:Int):Int:=
 (iA (⟨#[48,49,50,51,52,53,54,55,56,57,97,98,99,100,101,102]⟩:ByteArray) x0)
noncomputable def fp(x0:ByteArray):Int × Int:=
 bif((bm .eql x0 (⟨#[]⟩:ByteArray))||((aK x0 (0:Int))==34))then
  (0,0)
 else
  bif((aK x0 (0:Int)) != 92)then
   bif(bm .neq (kq (aK x0 (0:Int))) (bh x0 none (some (1:Int))))then
    (0,0)
   else
    ((aK x0 (0:Int)),1)
  else
   let bg:Int:=(ByteArray.size x0:Int)
   bif((decide (bg≥2))&&(((aK x0 (1:Int))==34)||((aK x0 (1:Int))==92)))then
    ((aK x0 (1:Int)),2)
   else
    let fo:Bool:=(decide (bg<4))||((aK x0 (1:Int)) != 120)
    let aM:Int→Int × Int:=fun v20=>
     let iB:Bool:=fo||(decide (v20<0))
     let aM:Int→Int × Int:=fun v24=>
      bif(iB||(decide (v24<0)))then
       (0,0)
      else
       let yV:Int:=IntKind.wrap .u8 (bK .or .i64 (bK .shl .i64 (gk (aK x0 (2:Int))) (4:Int)) (gk (aK x0 (3:Int))))
       bif(bm .neq (kq yV) (bh x0 none (some (4:Int))))then
        (0,0)
       else
        (yV,4)
     bif iB then
      aM (0:Int)
     else
      aM (gk (aK x0 (3:Int)))
    bif fo then
     aM (0:Int)
    else
     aM (gk (aK x0 (2:Int)))
def yN(x0:ByteArray):Prop:=
 let v1:=bm .eql x0 (⟨#[]⟩:ByteArray)
 (v1=false→0≤(0:Int)∧(0:Int)<(ByteArray.size x0:Int))∧
 ((v1||((aK x0 (0:Int))==34))=false→(
  (0≤(0:Int)∧(0:Int)<(ByteArray.size x0:Int))∧
  (((aK x0 (0:Int)) != 92)=true→(
   let bg:Int:=aK x0 (0:Int)
   (0≤(0:Int)∧(0:Int)<(ByteArray.size x0:Int))∧
   (eE (ByteArray.size x0) none (some (1:Int)))∧
   (rr bg)∧
   ((bm .neq (kq bg) (bh x0 none (some (1:Int))))=false→(
    0≤(0:Int)∧(0:Int)<(ByteArray.size x0:Int)))))∧(((aK x0 (0:Int)) != 92)=false→(
   let bg:Int:=(ByteArray.size x0:Int)
   let bU:=decide (bg≥2)
   (bU=true→0≤(1:Int)∧(1:Int)<(ByteArray.size x0:Int))∧
   let v10:=(aK x0 (1:Int))==34
   (bU=true→v10=false→0≤(1:Int)∧(1:Int)<(ByteArray.size x0:Int))∧
   ((bU&&(v10||((aK x0 (1:Int))==92)))=true→(
    0≤(1:Int)∧(1:Int)<(ByteArray.size x0:Int)))∧((bU&&(v10||((aK x0 (1:Int))==92)))=false→(
    let fM:=decide (bg<4)
    (fM=false→0≤(1:Int)∧(1:Int)<(ByteArray.size x0:Int))∧
    let fo:Bool:=fM||((aK x0 (1:Int)) != 120)
    (fo=false→0≤(2:Int)∧(2:Int)<(ByteArray.size x0:Int))∧
    let aM:Int→Prop:=fun v20=>
     let iB:Bool:=fo||(decide (v20<0))
     (iB=false→0≤(3:Int)∧(3:Int)<(ByteArray.size x0:Int))∧
     let aM:Int→Prop:=fun v24=>
      ((iB||(decide (v24<0)))=false→(
       (0≤(2:Int)∧(2:Int)<(ByteArray.size x0:Int))∧
       (0≤(3:Int)∧(3:Int)<(ByteArray.size x0:Int))∧
       let yV:Int:=IntKind.wrap .u8 (bK .or .i64 (bK .shl .i64 (gk (aK x0 (2:Int))) (4:Int)) (gk (aK x0 (3:Int))))
       (eE (ByteArray.size x0) none (some (4:Int)))∧
       rr yV))
     (iB=true→(
      aM (0:Int)))∧(iB=false→(
      aM (gk (aK x0 (3:Int)))))
    (fo=true→(
     aM (0:Int)))∧(fo=false→(
     aM (gk (aK x0 (2:Int)))))))))))
noncomputable def vG(x0:ByteArray):ByteArray × Int:=
 bif((bm .eql x0 (⟨#[]⟩:ByteArray))||((aK x0 (0:Int)) != 34))then
  (⟨#[]⟩,0)
 else
  Sum.elim (fun r=>r) (fun cG=>
   bif(decide (cG.1≥(ByteArray.size x0:Int)))then
    (⟨#[]⟩,0)
   else
    ((bytesOf cG.2.1),(IntKind.wrap .i64 (cG.1+(1:Int)))))
  (b3 (fun(aF:Int × (List Int) × Bool)=>
   show Step (ByteArray × Int) (Int × (List Int) × Bool)from
   bif((decide (aF.1<(ByteArray.size x0:Int)))&&((aK x0 aF.1) != 34))then
    let eO:=fp (bh x0 (some aF.1) none)
    bif(eO.2==0)then
     .ret (⟨#[]⟩,0)
    else
     let aM:Bool→Step (ByteArray × Int) (Int × (List Int) × Bool):=fun fo=>
      .bP ((IntKind.wrap .i64 (aF.1+eO.2)),(List.append aF.2.1 ([eO.1]:List Int)),fo)
     bif !aF.2.2 then
      aM true
     else
      aM aF.2.2
   else
    .b9 (aF.1,aF.2.1,aF.2.2)) cX (1,[],false):(ByteArray × Int)⊕(Int × (List Int) × Bool))
def yO(x0:ByteArray):Prop:=
 let v1:=bm .eql x0 (⟨#[]⟩:ByteArray)
 (v1=false→0≤(0:Int)∧(0:Int)<(ByteArray.size x0:Int))∧
 ((v1||((aK x0 (0:Int)) != 34))=false→(
  ∃(cS:(Int × (List Int) × Bool)→Prop) (gj:(Int × (List Int) × Bool)→Nat),cS (1,[],false)∧gj (1,[],false)<cX∧∀(d0:Int × (List Int) × Bool),cS d0→(
   let v9:=decide (d0.1<(ByteArray.size x0:Int))
   (v9=true→0≤d0.1∧d0.1<(ByteArray.size x0:Int))∧
   ((v9&&((aK x0 d0.1) != 34))=true→(
    let c5:=bh x0 (some d0.1) none
    (eE (ByteArray.size x0) (some d0.1) none)∧
    let eO:=fp c5
    (yN c5)∧
    ((eO.2==0)=false→(
     let aM:Bool→Prop:=fun fo=>
      let db:List Int:=([eO.1]:List Int)
      (List.length d0.2.1+List.length db≤maxLen∧(List.length d0.2.1+List.length db)*1≤140737488355328)∧
      cS ((IntKind.wrap .i64 (d0.1+eO.2)),(List.append d0.2.1 db),fo)∧gj ((IntKind.wrap .i64 (d0.1+eO.2)),(List.append d0.2.1 db),fo)<gj d0
     ((!d0.2.2)=true→(
      aM true))∧((!d0.2.2)=false→(
      aM d0.2.2)))))))))
noncomputable def oT(x0:ByteArray):ByteArray × Int:=
 let v1:=vG x0
 bif((v1.2==0)||(v1.2 != (ByteArray.size x0:Int)))then
  (⟨#[]⟩,4)
 else
  bif(decide ((ByteArray.size v1.1:Int)>60))then
   (⟨#[]⟩,3)
  else
   (v1.1,0)
def Ch(x0:ByteArray):Prop:=
 let v1:=vG x0
 yO x0
noncomputable def kr(x0:ByteArray):cr × Int:=
 let aM:Int→Int→ByteArray→cr × Int:=fun v3 v4 v5=>
  let v6:=bm .eql x0 (⟨#[]⟩:ByteArray)
  let aM:ByteArray→cr × Int:=fun bg=>
   bif(v6||(bm .neq bg x0))then
    (⟨0,0,⟨#[]⟩⟩,4)
   else
    (⟨v3,v4,v5⟩,0)
  bif v6 then
   aM (⟨#[]⟩:ByteArray)
  else
   aM (m17 ⟨v3,v4,v5⟩)
 bif(bm .eql x0 (⟨#[110,111,110,101]⟩:ByteArray))then
  aM (0:Int) (0:Int) (⟨#[]⟩:ByteArray)
 else
  bif((bm .eql x0 (⟨#[116,114,117,101]⟩:ByteArray))||(bm .eql x0 (⟨#[102,97,108,115,101]⟩:ByteArray)))then
   bif(bm .eql x0 (⟨#[116,114,117,101]⟩:ByteArray))then
    aM (1:Int) (1:Int) (⟨#[]⟩:ByteArray)
   else
    aM (1:Int) (0:Int) (⟨#[]⟩:ByteArray)
  else
   bif((bm .neq x0 (⟨#[]⟩:ByteArray))&&((aK x0 (0:Int))==35))then
    let v10:=fv (bh x0 (some (1:Int)) none)
    aM (3:Int) v10.1 (⟨#[]⟩:ByteArray)
   else
    bif((bm .neq x0 (⟨#[]⟩:ByteArray))&&((aK x0 (0:Int))==34))then
     let c5:=oT x0
     aM (4:Int) (0:Int) c5.1
    else
     let c5:=fv x0
     aM (2:Int) c5.1 (⟨#[]⟩:ByteArray)
def vA(x0:ByteArray):Prop:=
 let aM:Int→Int→ByteArray→Prop:=fun v3 v4 v5=>
  let v6:=bm .eql x0 (⟨#[]⟩:ByteArray)
  (v6=false→(
   yC ⟨v3,v4,v5⟩))
 ((bm .eql x0 (⟨#[110,111,110,101]⟩:ByteArray))=true→(
  aM (0:Int) (0:Int) (⟨#[]⟩:ByteArray)))∧((bm .eql x0 (⟨#[110,111,110,101]⟩:ByteArray))=false→(
  (((bm .eql x0 (⟨#[116,114,117,101]⟩:ByteArray))||(bm .eql x0 (⟨#[102,97,108,115,101]⟩:ByteArray)))=true→(
   ((bm .eql x0 (⟨#[116,114,117,101]⟩:ByteArray))=true→(
    aM (1:Int) (1:Int) (⟨#[]⟩:ByteArray)))∧((bm .eql x0 (⟨#[116,114,117,101]⟩:ByteArray))=false→(
    aM (1:Int) (0:Int) (⟨#[]⟩:ByteArray)))))∧(((bm .eql x0 (⟨#[116,114,117,101]⟩:ByteArray))||(bm .eql x0 (⟨#[102,97,108,115,101]⟩:ByteArray)))=false→(
   let v5:=bm .neq x0 (⟨#[]⟩:ByteArray)
   (v5=true→0≤(0:Int)∧(0:Int)<(ByteArray.size x0:Int))∧
   ((v5&&((aK x0 (0:Int))==35))=true→(
    let v9:=bh x0 (some (1:Int)) none
    (eE (ByteArray.size x0) (some (1:Int)) none)∧
    let v10:=fv v9
    (jD v9)∧
    aM (3:Int) v10.1 (⟨#[]⟩:ByteArray)))∧((v5&&((aK x0 (0:Int))==35))=false→(
    let v9:=bm .neq x0 (⟨#[]⟩:ByteArray)
    (v9=true→0≤(0:Int)∧(0:Int)<(ByteArray.size x0:Int))∧
    ((v9&&((aK x0 (0:Int))==34))=true→(
     let c5:=oT x0
     (Ch x0)∧
     aM (4:Int) (0:Int) c5.1))∧((v9&&((aK x0 (0:Int))==34))=false→(
     let c5:=fv x0
     (jD x0)∧
     aM (2:Int) c5.1 (⟨#[]⟩:ByteArray)))))))))
noncomputable def iz(x0:ByteArray):Int × ByteArray × ByteArray × Bool:=
 let b8:ByteArray→ByteArray→Bool→Int × ByteArray × ByteArray × Bool:=fun v1 v2 v3=>
  let b8:ByteArray→ByteArray→Bool→Int × ByteArray × ByteArray × Bool:=fun v4 v5 v6=>
   let bg:=fv v1
   (bg.1,v4,v5,((v3&&v6)&&bg.2))
  let aM:Int→Int × ByteArray × ByteArray × Bool:=fun v4=>
   bif(decide (v4≥0))then
    b8 (bh v2 none (some v4)) (bh v2 (some (IntKind.wrap .i64 (v4+(1:Int)))) none) true
   else
    b8 v2 (⟨#[]⟩:ByteArray) false
  bif(bm .eql (⟨#[46]⟩:ByteArray) v2)then
   aM (0:Int)
  else
   aM (eA v2 (aK (⟨#[46]⟩:ByteArray) (0:Int)))
 let aM:Int→Int × ByteArray × ByteArray × Bool:=fun v1=>
  bif(decide (v1≥0))then
   b8 (bh x0 none (some v1)) (bh x0 (some (IntKind.wrap .i64 (v1+(1:Int)))) none) true
  else
   b8 x0 (⟨#[]⟩:ByteArray) false
 bif(bm .eql (⟨#[46]⟩:ByteArray) x0)then
  aM (0:Int)
 else
  aM (eA x0 (aK (⟨#[46]⟩:ByteArray) (0:Int)))
def rB(x0:ByteArray):Prop:=
 let b8:ByteArray→ByteArray→Bool→Prop:=fun v1 v2 v3=>
  let b8:ByteArray→ByteArray→Bool→Prop:=fun v4 v5 v6=>
   let bg:=fv v1
   jD v1
  let aM:Int→Prop:=fun v4=>
   ((decide (v4≥0))=true→(
    (eE (ByteArray.size v2) none (some v4))∧
    let bg:Int:=IntKind.wrap .i64 (v4+(1:Int))
    (eE (ByteArray.size v2) (some bg) none)∧
    b8 (bh v2 none (some v4)) (bh v2 (some bg) none) true))∧((decide (v4≥0))=false→(
    b8 v2 (⟨#[]⟩:ByteArray) false))
  ((bm .eql (⟨#[46]⟩:ByteArray) v2)=true→(
   aM (0:Int)))∧((bm .eql (⟨#[46]⟩:ByteArray) v2)=false→(
   (0≤(0:Int)∧(0:Int)<(ByteArray.size (⟨#[46]⟩:ByteArray):Int))∧
   aM (eA v2 (aK (⟨#[46]⟩:ByteArray) (0:Int)))))
 let aM:Int→Prop:=fun v1=>
  ((decide (v1≥0))=true→(
   (eE (ByteArray.size x0) none (some v1))∧
   let v4:Int:=IntKind.wrap .i64 (v1+(1:Int))
   (eE (ByteArray.size x0) (some v4) none)∧
   b8 (bh x0 none (some v1)) (bh x0 (some v4) none) true))∧((decide (v1≥0))=false→(
   b8 x0 (⟨#[]⟩:ByteArray) false))
 ((bm .eql (⟨#[46]⟩:ByteArray) x0)=true→(
  aM (0:Int)))∧((bm .eql (⟨#[46]⟩:ByteArray) x0)=false→(
  (0≤(0:Int)∧(0:Int)<(ByteArray.size (⟨#[46]⟩:ByteArray):Int))∧
  aM (eA x0 (aK (⟨#[46]⟩:ByteArray) (0:Int)))))
noncomputable def jF(x0:Int):Int:=
 Sum.elim (fun r=>r) (fun cG=>
  (-1))
 (bS (fun(i17:Nat) (aF:Unit)=>
  show Step (Int) (Unit)from
  let db:Int:=gU ([(aK (⟨#[48,49,50,51,52,53,54,55,56,57,97,98,99,100,101,102]⟩:ByteArray) (0:Int)),(aK (⟨#[48,49,50,51,52,53,54,55,56,57,97,98,99,100,101,102]⟩:ByteArray) (1:Int)),(aK (⟨#[48,49,50,51,52,53,54,55,56,57,97,98,99,100,101,102]⟩:ByteArray) (2:Int)),(aK (⟨#[48,49,50,51,52,53,54,55,56,57,97,98,99,100,101,102]⟩:ByteArray) (3:Int)),(aK (⟨#[48,49,50,51,52,53,54,55,56,57,97,98,99,100,101,102]⟩:ByteArray) (4:Int)),(aK (⟨#[48,49,50,51,52,53,54,55,56,57,97,98,99,100,101,102]⟩:ByteArray) (5:Int)),(aK (⟨#[48,49,50,51,52,53,54,55,56,57,97,98,99,100,101,102]⟩:ByteArray) (6:Int)),(aK (⟨#[48,49,50,51,52,53,54,55,56,57,97,98,99,100,101,102]⟩:ByteArray) (7:Int)),(aK (⟨#[48,49,50,51,52,53,54,55,56,57,97,98,99,100,101,102]⟩:ByteArray) (8:Int)),(aK (⟨#[48,49,50,51,52,53,54,55,56,57,97,98,99,100,101,102]⟩:ByteArray) (9:Int)),(aK (⟨#[48,49,50,51,52,53,54,55,56,57,97,98,99,100,101,102]⟩:ByteArray) (10:Int)),(aK (⟨#[48,49,50,51,52,53,54,55,56,57,97,98,99,100,101,102]⟩:ByteArray) (11:Int)),(aK (⟨#[48,49,50,51,52,53,54,55,56,57,97,98,99,100,101,102]⟩:ByteArray) (12:Int)),(aK (⟨#[48,49,50,51,52,53,54,55,56,57,97,98,99,100,101,102]⟩:ByteArray) (13:Int)),(aK (⟨#[48,49,50,51,52,53,54,55,56,57,97,98,99,100,101,102]⟩:ByteArray) (14:Int)),(aK (⟨#[48,49,50,51,52,53,54,55,56,57,97,98,99,100,101,102]⟩:ByteArray) (15:Int))]:List Int) (Int.toNat (i17:Int))
  bif(db==x0)then
   .ret (i17:Int)
  else
   .bP ()) 0 (Int.toNat (16:Int)) ():Int⊕(Unit))
def vB(x0:Int):Prop:=
 (0≤(0:Int)∧(0:Int)<(ByteArray.size (⟨#[48,49,50,51,52,53,54,55,56,57,97,98,99,100,101,102]⟩:ByteArray):Int))∧
 (0≤(1:Int)∧(1:Int)<(ByteArray.size (⟨#[48,49,50,51,52,53,54,55,56,57,97,98,99,100,101,102]⟩:ByteArray):Int))∧
 (0≤(2:Int)∧(2:Int)<(ByteArray.size (⟨#[48,49,50,51,52,53,54,55,56,57,97,98,99,100,101,102]⟩:ByteArray):Int))∧
 (0≤(3:Int)∧(3:Int)<(ByteArray.size (⟨#[48,49,50,51,52,53,54,55,56,57,97,98,99,100,101,102]⟩:ByteArray):Int))∧
 (0≤(4:Int)∧(4:Int)<(ByteArray.size (⟨#[48,49,50,51,52,53,54,55,56,57,97,98,99,100,101,102]⟩:ByteArray):Int))∧
 (0≤(5:Int)∧(5:Int)<(ByteArray.size (⟨#[48,49,50,51,52,53,54,55,56,57,97,98,99,100,101,102]⟩:ByteArray):Int))∧
 (0≤(6:Int)∧(6:Int)<(ByteArray.size (⟨#[48,49,50,51,52,53,54,55,56,57,97,98,99,100,101,102]⟩:ByteArray):Int))∧
 (0≤(7:Int)∧(7:Int)<(ByteArray.size (⟨#[48,49,50,51,52,53,54,55,56,57,97,98,99,100,101,102]⟩:ByteArray):Int))∧
 (0≤(8:Int)∧(8:Int)<(ByteArray.size (⟨#[48,49,50,51,52,53,54,55,56,57,97,98,99,100,101,102]⟩:ByteArray):Int))∧
 (0≤(9:Int)∧(9:Int)<(ByteArray.size (⟨#[48,49,50,51,52,53,54,55,56,57,97,98,99,100,101,102]⟩:ByteArray):Int))∧
 (0≤(10:Int)∧(10:Int)<(ByteArray.size (⟨#[48,49,50,51,52,53,54,55,56,57,97,98,99,100,101,102]⟩:ByteArray):Int))∧
 (0≤(11:Int)∧(11:Int)<(ByteArray.size (⟨#[48,49,50,51,52,53,54,55,56,57,97,98,99,100,101,102]⟩:ByteArray):Int))∧
 (0≤(12:Int)∧(12:Int)<(ByteArray.size (⟨#[48,49,50,51,52,53,54,55,56,57,97,98,99,100,101,102]⟩:ByteArray):Int))∧
 (0≤(13:Int)∧(13:Int)<(ByteArray.size (⟨#[48,49,50,51,52,53,54,55,56,57,97,98,99,100,101,102]⟩:ByteArray):Int))∧
 (0≤(14:Int)∧(14:Int)<(ByteArray.size (⟨#[48,49,50,51,52,53,54,55,56,57,97,98,99,100,101,102]⟩:ByteArray):Int))∧
 0≤(15:Int)∧(15:Int)<(ByteArray.size (⟨#[48,49,50,51,52,53,54,55,56,57,97,98,99,100,101,102]⟩:ByteArray):Int)
noncomputable def j4(x0:ByteArray):ByteArray × Int:=
 let v1:Int:=(ByteArray.size x0:Int)
 bif((bK .rem .i64 v1 (2:Int)) != 0)then
  (⟨#[]⟩,4)
 else
  Sum.elim (fun r=>r) (fun cG=>
   ((bytesOf cG.2),0))
  (b3 (fun(aF:Int × (List Int))=>
   show Step (ByteArray × Int) (Int × (List Int))from
   bif(decide (aF.1<v1))then
    let v12:=jF (aK x0 aF.1)
    let c5:=jF (aK x0 (IntKind.wrap .i64 (aF.1+(1:Int))))
    bif((decide (v12<0))||(decide (c5<0)))then
     .ret (⟨#[]⟩,4)
    else
     .bP ((IntKind.wrap .i64 (aF.1+(2:Int))),(List.append aF.2 ([(IntKind.wrap .u8 (IntKind.wrap .i64 ((IntKind.wrap .i64 ((16:Int)*v12))+c5)))]:List Int)))
   else
    .b9 (aF.1,aF.2)) cX (0,(List.replicate (Int.toNat (0:Int)) (ed .u8))):(ByteArray × Int)⊕(Int × (List Int)))
def vC(x0:ByteArray):Prop:=
 let v1:Int:=(ByteArray.size x0:Int)
 (((bK .rem .i64 v1 (2:Int)) != 0)=false→(
  (0≤(0:Int)∧(0:Int)≤(bK .quo .i64 v1 (2:Int))∧(bK .quo .i64 v1 (2:Int))≤(maxLen:Int)∧(1:Int)*(bK .quo .i64 v1 (2:Int))≤281474976710656)∧
  ∃(cS:(Int × (List Int))→Prop) (gj:(Int × (List Int))→Nat),cS (0,(List.replicate (Int.toNat (0:Int)) (ed .u8)))∧gj (0,(List.replicate (Int.toNat (0:Int)) (ed .u8)))<cX∧∀(d0:Int × (List Int)),cS d0→(
   ((decide (d0.1<v1))=true→(
    let v9:Int:=aK x0 d0.1
    (0≤d0.1∧d0.1<(ByteArray.size x0:Int))∧
    let v10:Int:=IntKind.wrap .i64 (d0.1+(1:Int))
    let v11:Int:=aK x0 v10
    (0≤v10∧v10<(ByteArray.size x0:Int))∧
    let v12:=jF v9
    (vB v9)∧
    let c5:=jF v11
    (vB v11)∧
    (((decide (v12<0))||(decide (c5<0)))=false→(
     let v20:List Int:=([(IntKind.wrap .u8 (IntKind.wrap .i64 ((IntKind.wrap .i64 ((16:Int)*v12))+c5)))]:List Int)
     (List.length d0.2+List.length v20≤maxLen∧(List.length d0.2+List.length v20)*1≤140737488355328)∧
     cS ((IntKind.wrap .i64 (d0.1+(2:Int))),(List.append d0.2 v20))∧gj ((IntKind.wrap .i64 (d0.1+(2:Int))),(List.append d0.2 v20))<gj d0)))))))
noncomputable def m12(x0:Int)(cI:ByteArray):aT × Bool:=
 let b8:ByteArray→ByteArray→aT × Bool:=fun v2 v3=>
  let b8:Bool→Int→Int→Int→ByteArray→ByteArray→Int→Int→ByteArray→Int→ByteArray→ByteArray→ByteArray→Int→Int→Int→ByteArray→ByteArray→ByteArray→Int→Int→ByteArray→ByteArray→aT × Bool:=fun v5 bU v9 v10 v11 v12 c5 eO fM dy ee fo db v20 v21 iB Cq v24 rH QU rI v28 n2=>
   (⟨x0,bU,v9,⟨v10,v11,v12⟩,⟨c5,eO,fM⟩,⟨dy,ee,fo⟩,⟨db,⟨v20,v21,⟨iB,Cq,v24⟩,rH,⟨QU,rI,v28⟩,n2⟩⟩⟩,v5)
  let aM:Bool→aT × Bool:=fun v5=>
   bif v5 then
    let bg:=kr v3
    let v10:=iz v2
    b8 (v10.2.2.2&&(bg.2==0)) (0:Int) (0:Int) v10.1 v10.2.1 v10.2.2.1 bg.1.kind bg.1.n bg.1.s (0:Int) (⟨#[]⟩:ByteArray) (⟨#[]⟩:ByteArray) (⟨#[]⟩:ByteArray) (0:Int) (0:Int) (0:Int) (⟨#[]⟩:ByteArray) (⟨#[]⟩:ByteArray) (⟨#[]⟩:ByteArray) (0:Int) (0:Int) (⟨#[]⟩:ByteArray) (⟨#[]⟩:ByteArray)
   else
    bif(x0==3)then
     let bU:=iz cI
     b8 bU.2.2.2 (0:Int) (0:Int) (0:Int) (⟨#[]⟩:ByteArray) (⟨#[]⟩:ByteArray) (0:Int) (0:Int) (⟨#[]⟩:ByteArray) bU.1 bU.2.1 bU.2.2.1 (⟨#[]⟩:ByteArray) (0:Int) (0:Int) (0:Int) (⟨#[]⟩:ByteArray) (⟨#[]⟩:ByteArray) (⟨#[]⟩:ByteArray) (0:Int) (0:Int) (⟨#[]⟩:ByteArray) (⟨#[]⟩:ByteArray)
    else
     bif(x0==12)then
      let v9:=j4 v3
      let v12:=iP v9.1
      b8 ((v9.2==0)&&(v12.2==0)) (0:Int) (0:Int) (0:Int) (⟨#[]⟩:ByteArray) (⟨#[]⟩:ByteArray) (0:Int) (0:Int) (⟨#[]⟩:ByteArray) (0:Int) (⟨#[]⟩:ByteArray) (⟨#[]⟩:ByteArray) v2 v12.1.kind v12.1.ec v12.1.key.dev v12.1.key.bT v12.1.key.attr v12.1.name v12.1.value.kind v12.1.value.n v12.1.value.s v12.1.text
     else
      let aM:Bool→aT × Bool:=fun v9=>
       bif v9 then
        let v11:=fv v2
        let eO:=fv v3
        b8 (v11.2&&eO.2) v11.1 eO.1 (0:Int) (⟨#[]⟩:ByteArray) (⟨#[]⟩:ByteArray) (0:Int) (0:Int) (⟨#[]⟩:ByteArray) (0:Int) (⟨#[]⟩:ByteArray) (⟨#[]⟩:ByteArray) (⟨#[]⟩:ByteArray) (0:Int) (0:Int) (0:Int) (⟨#[]⟩:ByteArray) (⟨#[]⟩:ByteArray) (⟨#[]⟩:ByteArray) (0:Int) (0:Int) (⟨#[]⟩:ByteArray) (⟨#[]⟩:ByteArray)
       else
        bif(x0==14)then
         b8 true (0:Int) (0:Int) (0:Int) (⟨#[]⟩:ByteArray) (⟨#[]⟩:ByteArray) (0:Int) (0:Int) (⟨#[]⟩:ByteArray) (0:Int) (⟨#[]⟩:ByteArray) (⟨#[]⟩:ByteArray) (⟨#[]⟩:ByteArray) (0:Int) (0:Int) (0:Int) (⟨#[]⟩:ByteArray) (⟨#[]⟩:ByteArray) (⟨#[]⟩:ByteArray) (0:Int) (0:Int) (⟨#[]⟩:ByteArray) (⟨#[]⟩:ByteArray)
        else
         let v12:=fv cI
         b8 v12.2 v12.1 (0:Int) (0:Int) (⟨#[]⟩:ByteArray) (⟨#[]⟩:ByteArray) (0:Int) (0:Int) (⟨#[]⟩:ByteArray) (0:Int) (⟨#[]⟩:ByteArray) (⟨#[]⟩:ByteArray) (⟨#[]⟩:ByteArray) (0:Int) (0:Int) (0:Int) (⟨#[]⟩:ByteArray) (⟨#[]⟩:ByteArray) (⟨#[]⟩:ByteArray) (0:Int) (0:Int) (⟨#[]⟩:ByteArray) (⟨#[]⟩:ByteArray)
      let v9:=x0==8
      bif v9 then
       aM v9
      else
       aM (x0==9)
  let v5:=x0==2
  bif v5 then
   aM v5
  else
   aM (x0==13)
 let aM:Int→aT × Bool:=fun v2=>
  bif(decide (v2≥0))then
   b8 (bh cI none (some v2)) (bh cI (some (IntKind.wrap .i64 (v2+(1:Int)))) none)
  else
   b8 cI (⟨#[]⟩:ByteArray)
 bif(bm .eql (⟨#[32]⟩:ByteArray) cI)then
  aM (0:Int)
 else
  aM (eA cI (aK (⟨#[32]⟩:ByteArray) (0:Int)))
def yQ(x0:Int)(cI:ByteArray):Prop:=
 let b8:ByteArray→ByteArray→Prop:=fun v2 v3=>
  let aM:Bool→Prop:=fun v5=>
   (v5=true→(
    let bg:=kr v3
    (vA v3)∧
    let v10:=iz v2
    rB v2))∧(v5=false→(
    ((x0==3)=true→(
     let bU:=iz cI
     rB cI))∧((x0==3)=false→(
     ((x0==12)=true→(
      let v9:=j4 v3
      (vC v3)∧
      let v12:=iP v9.1
      sU v9.1))∧((x0==12)=false→(
      let aM:Bool→Prop:=fun v9=>
       (v9=true→(
        let v11:=fv v2
        (jD v2)∧
        let eO:=fv v3
        jD v3))∧(v9=false→(
        ((x0==14)=false→(
         let v12:=fv cI
         jD cI))))
      let v9:=x0==8
      (v9=true→(
       aM v9))∧(v9=false→(
       aM (x0==9)))))))))
  let v5:=x0==2
  (v5=true→(
   aM v5))∧(v5=false→(
   aM (x0==13)))
 let aM:Int→Prop:=fun v2=>
  ((decide (v2≥0))=true→(
   (eE (ByteArray.size cI) none (some v2))∧
   let v5:Int:=IntKind.wrap .i64 (v2+(1:Int))
   (eE (ByteArray.size cI) (some v5) none)∧
   b8 (bh cI none (some v2)) (bh cI (some v5) none)))∧((decide (v2≥0))=false→(
   b8 cI (⟨#[]⟩:ByteArray)))
 ((bm .eql (⟨#[32]⟩:ByteArray) cI)=true→(
  aM (0:Int)))∧((bm .eql (⟨#[32]⟩:ByteArray) cI)=false→(
  (0≤(0:Int)∧(0:Int)<(ByteArray.size (⟨#[32]⟩:ByteArray):Int))∧
  aM (eA cI (aK (⟨#[32]⟩:ByteArray) (0:Int)))))
noncomputable def m5(x0:ByteArray):aT × Int:=
 let b8:ByteArray→ByteArray→aT × Int:=fun v1 v2=>
  Sum.elim (fun r=>r) (fun cG=>
   (⟨0,0,0,⟨0,⟨#[]⟩,⟨#[]⟩⟩,⟨0,0,⟨#[]⟩⟩,⟨0,⟨#[]⟩,⟨#[]⟩⟩,⟨⟨#[]⟩,⟨0,0,⟨0,⟨#[]⟩,⟨#[]⟩⟩,⟨#[]⟩,⟨0,0,⟨#[]⟩⟩,⟨#[]⟩⟩⟩⟩,4))
  (bS (fun(i4:Nat) (aF:Unit)=>
   show Step (aT × Int) (Unit)from
   let aM:Step (aT × Int) (Unit):=
    .bP ()
   let v6:ByteArray:=gU ([⟨#[116,105,99,107]⟩,⟨#[115,101,110,115,101]⟩,⟨#[101,118,101,110,116]⟩,⟨#[110,111,105,115,101]⟩,⟨#[113,117,105,101,116]⟩,⟨#[111,102,102]⟩,⟨#[111,110]⟩,⟨#[99,117,116]⟩,⟨#[106,111,105,110]⟩,⟨#[99,114,97,115,104]⟩,⟨#[99,108,111,99,107]⟩,⟨#[97,115,107]⟩,⟨#[101,110,101,114,103,121]⟩,⟨#[109,111,118,101]⟩,⟨#[108,111,115,101]⟩,⟨#[116,119,105,99,101]⟩]:List ByteArray) (Int.toNat (i4:Int))
   bif(bm .neq v6 v1)then
    aM
   else
    let v9:=m12 (IntKind.wrap .i64 ((i4:Int)+(1:Int))) v2
    let v12:=m6 v9.1
    bif((v9.2&&(v12.2==0))&&(bm .eql v12.1 x0))then
     .ret (v9.1,0)
    else
     aM) 0 (Int.toNat (16:Int)) ():(aT × Int)⊕(Unit))
 let aM:Int→aT × Int:=fun v1=>
  bif(decide (v1≥0))then
   b8 (bh x0 none (some v1)) (bh x0 (some (IntKind.wrap .i64 (v1+(1:Int)))) none)
  else
   b8 x0 (⟨#[]⟩:ByteArray)
 bif(bm .eql (⟨#[32]⟩:ByteArray) x0)then
  aM (0:Int)
 else
  aM (eA x0 (aK (⟨#[32]⟩:ByteArray) (0:Int)))
def nZ(x0:ByteArray):Prop:=
 let b8:ByteArray→ByteArray→Prop:=fun v1 v2=>
  ∃cS:Nat→(Unit)→Prop,cS 0 ()∧∀(i4:Nat) (d0:Unit),i4<Int.toNat (16:Int)→cS i4 d0→(
   let aM:Prop:=
    cS (i4+1) ()
   let v6:ByteArray:=gU ([⟨#[116,105,99,107]⟩,⟨#[115,101,110,115,101]⟩,⟨#[101,118,101,110,116]⟩,⟨#[110,111,105,115,101]⟩,⟨#[113,117,105,101,116]⟩,⟨#[111,102,102]⟩,⟨#[111,110]⟩,⟨#[99,117,116]⟩,⟨#[106,111,105,110]⟩,⟨#[99,114,97,115,104]⟩,⟨#[99,108,111,99,107]⟩,⟨#[97,115,107]⟩,⟨#[101,110,101,114,103,121]⟩,⟨#[109,111,118,101]⟩,⟨#[108,111,115,101]⟩,⟨#[116,119,105,99,101]⟩]:List ByteArray) (Int.toNat (i4:Int))
   ((bm .neq v6 v1)=true→(
    aM))∧((bm .neq v6 v1)=false→(
    let bU:Int:=IntKind.wrap .i64 ((i4:Int)+(1:Int))
    let v9:=m12 bU v2
    (yQ bU v2)∧
    let v12:=m6 v9.1
    (rv v9.1)∧
    (((v9.2&&(v12.2==0))&&(bm .eql v12.1 x0))=false→(
     aM)))))
 let aM:Int→Prop:=fun v1=>
  ((decide (v1≥0))=true→(
   (eE (ByteArray.size x0) none (some v1))∧
   let v4:Int:=IntKind.wrap .i64 (v1+(1:Int))
   (eE (ByteArray.size x0) (some v4) none)∧
   b8 (bh x0 none (some v1)) (bh x0 (some v4) none)))∧((decide (v1≥0))=false→(
   b8 x0 (⟨#[]⟩:ByteArray)))
 ((bm .eql (⟨#[32]⟩:ByteArray) x0)=true→(
  aM (0:Int)))∧((bm .eql (⟨#[32]⟩:ByteArray) x0)=false→(
  (0≤(0:Int)∧(0:Int)<(ByteArray.size (⟨#[32]⟩:ByteArray):Int))∧
  aM (eA x0 (aK (⟨#[32]⟩:ByteArray) (0:Int)))))
noncomputable def m8(x0:ByteArray):(List aT) × Int × Int:=
 bif(decide ((ByteArray.size x0:Int)>1048576))then
  ([],0,3)
 else
  let aM:ByteArray→Bool→Int→(List aT) × Int × Int:=fun v3 v4 v5=>
   Sum.elim (fun r=>r) (fun cG=>
    (cG.2.2.2.1,0,0))
   (b3 (fun(aF:Int × ByteArray × Bool × (List aT) × Bool × Int)=>
    show Step ((List aT) × Int × Int) (Int × ByteArray × Bool × (List aT) × Bool × Int)from
    bif aF.2.2.1 then
     let aM:Int→(List aT)→Step ((List aT) × Int × Int) (Int × ByteArray × Bool × (List aT) × Bool × Int):=fun v12 ee=>
      let aM:ByteArray→Bool→Bool→Int→Step ((List aT) × Int × Int) (Int × ByteArray × Bool × (List aT) × Bool × Int):=fun fo db v20 v21=>
       .bP (v12,fo,db,ee,v20,v21)
      bif aF.2.2.2.2.1 then
       aM (⟨#[]⟩:ByteArray) false aF.2.2.2.2.1 aF.2.2.2.2.2
      else
       let db:=iA (bh x0 (some aF.2.2.2.2.2) none) (10:Int)
       bif(decide (db<0))then
        aM (bh x0 (some aF.2.2.2.2.2) none) true true aF.2.2.2.2.2
       else
        aM (bh x0 (some aF.2.2.2.2.2) (some (IntKind.wrap .i64 (aF.2.2.2.2.2+db)))) true aF.2.2.2.2.1 (IntKind.wrap .i64 (aF.2.2.2.2.2+(IntKind.wrap .i64 (db+(1:Int)))))
     let v12:Int:=IntKind.wrap .i64 (aF.1+(1:Int))
     bif((bm .eql aF.2.1 (⟨#[]⟩:ByteArray))||((aK aF.2.1 (0:Int))==35))then
      aM v12 aF.2.2.2.1
     else
      let ee:=m5 aF.2.1
      bif(ee.2 != 0)then
       .ret ([],v12,4)
      else
       aM v12 (List.append aF.2.2.2.1 ([ee.1]:List aT))
    else
     .b9 (aF.1,aF.2.1,aF.2.2.1,aF.2.2.2.1,aF.2.2.2.2.1,aF.2.2.2.2.2)) cX (0,v3,true,[],v4,v5):((List aT) × Int × Int)⊕(Int × ByteArray × Bool × (List aT) × Bool × Int))
  let v4:=iA (bh x0 (some (0:Int)) none) (10:Int)
  bif(decide (v4<0))then
   aM (bh x0 (some (0:Int)) none) true (0:Int)
  else
   aM (bh x0 (some (0:Int)) (some (IntKind.wrap .i64 ((0:Int)+v4)))) false (IntKind.wrap .i64 ((0:Int)+(IntKind.wrap .i64 (v4+(1:Int)))))
def s6(x0:ByteArray):Prop:=
 ((decide ((ByteArray.size x0:Int)>1048576))=false→(
  let aM:ByteArray→Bool→Int→Prop:=fun v3 v4 v5=>
   ∃(cS:(Int × ByteArray × Bool × (List aT) × Bool × Int)→Prop) (gj:(Int × ByteArray × Bool × (List aT) × Bool × Int)→Nat),cS (0,v3,true,[],v4,v5)∧gj (0,v3,true,[],v4,v5)<cX∧∀(d0:Int × ByteArray × Bool × (List aT) × Bool × Int),cS d0→(
    (d0.2.2.1=true→(
     let aM:Int→(List aT)→Prop:=fun v12 ee=>
      let aM:ByteArray→Bool→Bool→Int→Prop:=fun fo db v20 v21=>
       cS (v12,fo,db,ee,v20,v21)∧gj (v12,fo,db,ee,v20,v21)<gj d0
      (d0.2.2.2.2.1=true→(
       aM (⟨#[]⟩:ByteArray) false d0.2.2.2.2.1 d0.2.2.2.2.2))∧(d0.2.2.2.2.1=false→(
       (eE (ByteArray.size x0) (some d0.2.2.2.2.2) none)∧
       let db:=iA (bh x0 (some d0.2.2.2.2.2) none) (10:Int)
       ((decide (db<0))=true→(
        (eE (ByteArray.size x0) (some d0.2.2.2.2.2) none)∧
        aM (bh x0 (some d0.2.2.2.2.2) none) true true d0.2.2.2.2.2))∧((decide (db<0))=false→(
        let v21:Int:=IntKind.wrap .i64 (d0.2.2.2.2.2+db)
        (eE (ByteArray.size x0) (some d0.2.2.2.2.2) (some v21))∧
        aM (bh x0 (some d0.2.2.2.2.2) (some v21)) true d0.2.2.2.2.1 (IntKind.wrap .i64 (d0.2.2.2.2.2+(IntKind.wrap .i64 (db+(1:Int)))))))))
     let v12:Int:=IntKind.wrap .i64 (d0.1+(1:Int))
     let c5:=bm .eql d0.2.1 (⟨#[]⟩:ByteArray)
     (c5=false→0≤(0:Int)∧(0:Int)<(ByteArray.size d0.2.1:Int))∧
     ((c5||((aK d0.2.1 (0:Int))==35))=true→(
      aM v12 d0.2.2.2.1))∧((c5||((aK d0.2.1 (0:Int))==35))=false→(
      let ee:=m5 d0.2.1
      (nZ d0.2.1)∧
      ((ee.2 != 0)=false→(
       let v21:List aT:=([ee.1]:List aT)
       (List.length d0.2.2.2.1+List.length v21≤maxLen∧(List.length d0.2.2.2.1+List.length v21)*272≤140737488355328)∧
       aM v12 (List.append d0.2.2.2.1 v21))))))))
  (eE (ByteArray.size x0) (some (0:Int)) none)∧
  let v4:=iA (bh x0 (some (0:Int)) none) (10:Int)
  ((decide (v4<0))=true→(
   (eE (ByteArray.size x0) (some (0:Int)) none)∧
   aM (bh x0 (some (0:Int)) none) true (0:Int)))∧((decide (v4<0))=false→(
   let v6:Int:=IntKind.wrap .i64 ((0:Int)+v4)
   (eE (ByteArray.size x0) (some (0:Int)) (some v6))∧
   aM (bh x0 (some (0:Int)) (some v6)) false (IntKind.wrap .i64 ((0:Int)+(IntKind.wrap .i64 (v4+(1:Int)))))))))
noncomputable def m4:Bool:=
 let v0:=m6 ⟨2,0,0,⟨1,⟨#[118,97,108,118,101]⟩,⟨#[111,112,101,110]⟩⟩,⟨1,1,⟨#[]⟩⟩,⟨0,⟨#[]⟩,⟨#[]⟩⟩,⟨⟨#[]⟩,⟨0,0,⟨0,⟨#[]⟩,⟨#[]⟩⟩,⟨#[]⟩,⟨0,0,⟨#[]⟩⟩,⟨#[]⟩⟩⟩⟩
 bif((v0.2 != 0)||(bm .neq v0.1 (⟨#[115,101,110,115,101,32,49,46,118,97,108,118,101,46,111,112,101,110,32,116,114,117,101]⟩:ByteArray)))then
  false
 else
  let v6:=m6 ⟨11,(-1),0,⟨0,⟨#[]⟩,⟨#[]⟩⟩,⟨0,0,⟨#[]⟩⟩,⟨0,⟨#[]⟩,⟨#[]⟩⟩,⟨⟨#[]⟩,⟨0,0,⟨0,⟨#[]⟩,⟨#[]⟩⟩,⟨#[]⟩,⟨0,0,⟨#[]⟩⟩,⟨#[]⟩⟩⟩⟩
  bif((v6.2 != 0)||(bm .neq v6.1 (⟨#[99,108,111,99,107,32,45,49]⟩:ByteArray)))then
   false
  else
   let v12:List ByteArray:=([⟨#[116,105,99,107,32,48,53]⟩,⟨#[116,105,99,107]⟩,⟨#[84,105,99,107,32,53]⟩,⟨#[115,101,110,115,101,32,49,46,118,97,108,118,101,46,111,112,101,110,32,110,111,110,101]⟩]:List ByteArray)
   let c5:Int:=(List.length v12:Int)
   Sum.elim (fun r=>r) (fun cG=>
    let eO:=m8 (⟨#[35,32,97,32,114,101,109,97,114,107,10,10,110,111,110,115,101,110,115,101,10]⟩:ByteArray)
    ((eO.2.1==3)&&(eO.2.2==4)))
   (bS (fun(i14:Nat) (aF:Unit)=>
    show Step (Bool) (Unit)from
    let ee:=m5 (List.getD v12 (Int.toNat (i14:Int)) (ed .str))
    bif(ee.2 != 4)then
     .ret false
    else
     .bP ()) 0 (Int.toNat c5) ():Bool⊕(Unit))
def n1:Prop:=
 let v0:=m6 ⟨2,0,0,⟨1,⟨#[118,97,108,118,101]⟩,⟨#[111,112,101,110]⟩⟩,⟨1,1,⟨#[]⟩⟩,⟨0,⟨#[]⟩,⟨#[]⟩⟩,⟨⟨#[]⟩,⟨0,0,⟨0,⟨#[]⟩,⟨#[]⟩⟩,⟨#[]⟩,⟨0,0,⟨#[]⟩⟩,⟨#[]⟩⟩⟩⟩
 (rv ⟨2,0,0,⟨1,⟨#[118,97,108,118,101]⟩,⟨#[111,112,101,110]⟩⟩,⟨1,1,⟨#[]⟩⟩,⟨0,⟨#[]⟩,⟨#[]⟩⟩,⟨⟨#[]⟩,⟨0,0,⟨0,⟨#[]⟩,⟨#[]⟩⟩,⟨#[]⟩,⟨0,0,⟨#[]⟩⟩,⟨#[]⟩⟩⟩⟩)∧
 (((v0.2 != 0)||(bm .neq v0.1 (⟨#[115,101,110,115,101,32,49,46,118,97,108,118,101,46,111,112,101,110,32,116,114,117,101]⟩:ByteArray)))=false→(
  let v6:=m6 ⟨11,(-1),0,⟨0,⟨#[]⟩,⟨#[]⟩⟩,⟨0,0,⟨#[]⟩⟩,⟨0,⟨#[]⟩,⟨#[]⟩⟩,⟨⟨#[]⟩,⟨0,0,⟨0,⟨#[]⟩,⟨#[]⟩⟩,⟨#[]⟩,⟨0,0,⟨#[]⟩⟩,⟨#[]⟩⟩⟩⟩
  (rv ⟨11,(-1),0,⟨0,⟨#[]⟩,⟨#[]⟩⟩,⟨0,0,⟨#[]⟩⟩,⟨0,⟨#[]⟩,⟨#[]⟩⟩,⟨⟨#[]⟩,⟨0,0,⟨0,⟨#[]⟩,⟨#[]⟩⟩,⟨#[]⟩,⟨0,0,⟨#[]⟩⟩,⟨#[]⟩⟩⟩⟩)∧
  (((v6.2 != 0)||(bm .neq v6.1 (⟨#[99,108,111,99,107,32,45,49]⟩:ByteArray)))=false→(
   let v12:List ByteArray:=([⟨#[116,105,99,107,32,48,53]⟩,⟨#[116,105,99,107]⟩,⟨#[84,105,99,107,32,53]⟩,⟨#[115,101,110,115,101,32,49,46,118,97,108,118,101,46,111,112,101,110,32,110,111,110,101]⟩]:List ByteArray)
   let c5:Int:=(List.length v12:Int)
   let aR:Unit→Prop:=fun cG=>
    let eO:=m8 (⟨#[35,32,97,32,114,101,109,97,114,107,10,10,110,111,110,115,101,110,115,101,10]⟩:ByteArray)
    s6 (⟨#[35,32,97,32,114,101,109,97,114,107,10,10,110,111,110,115,101,110,115,101,10]⟩:ByteArray)
   ∃cS:Nat→(Unit)→Prop,cS 0 ()∧(∀(i14:Nat) (d0:Unit),i14<Int.toNat c5→cS i14 d0→(
    let dy:ByteArray:=List.getD v12 (Int.toNat (i14:Int)) (ed .str)
    let ee:=m5 dy
    (nZ dy)∧
    ((ee.2 != 4)=false→(
     cS (i14+1) ()))))∧∀cG,cS (Int.toNat c5) cG→aR cG))))
noncomputable def m7(x0:List aT):ByteArray × Int:=
 let v1:Int:=(List.length x0:Int)
 Sum.elim (fun r=>r) (fun cG=>
  ((bytesOf cG.1),0))
 (bS (fun(i4:Nat) (aF:(List Int) × Bool)=>
  show Step (ByteArray × Int) ((List Int) × Bool)from
  let v6:aT:=List.getD x0 (Int.toNat (i4:Int)) (ed .aT)
  let bg:=m6 v6
  bif(bg.2 != 0)then
   .ret (⟨#[]⟩,bg.2)
  else
   let aM:Bool→Step (ByteArray × Int) ((List Int) × Bool):=fun v11=>
    let aM:Bool→Step (ByteArray × Int) ((List Int) × Bool):=fun fM=>
     .bP ((List.append (List.append aF.1 (dc.den .eY bg.1)) ([10]:List Int)),fM)
    bif !v11 then
     aM true
    else
     aM v11
   bif !aF.2 then
    aM true
   else
    aM aF.2) 0 (Int.toNat v1) ([],false):(ByteArray × Int)⊕((List Int) × Bool))
def yW(x0:List aT):Prop:=
 let v1:Int:=(List.length x0:Int)
 ∃cS:Nat→((List Int) × Bool)→Prop,cS 0 ([],false)∧∀(i4:Nat) (d0:(List Int) × Bool),i4<Int.toNat v1→cS i4 d0→(
  let v6:aT:=List.getD x0 (Int.toNat (i4:Int)) (ed .aT)
  let bg:=m6 v6
  (rv v6)∧
  ((bg.2 != 0)=false→(
   let aM:Bool→Prop:=fun v11=>
    let v12:List Int:=dc.den .eY bg.1
    let c5:List Int:=List.append d0.1 v12
    (List.length d0.1+List.length v12≤maxLen∧(List.length d0.1+List.length v12)*1≤140737488355328)∧
    let aM:Bool→Prop:=fun fM=>
     let dy:List Int:=([10]:List Int)
     (List.length c5+List.length dy≤maxLen∧(List.length c5+List.length dy)*1≤140737488355328)∧
     cS (i4+1) ((List.append c5 dy),fM)
    ((!v11)=true→(
     aM true))∧((!v11)=false→(
     aM v11))
   ((!d0.2)=true→(
    aM true))∧((!d0.2)=false→(
    aM d0.2)))))
noncomputable def m9(x0:List aT)(cI:List aT):Bool:=
 let v2:Int:=(List.length x0:Int)
 bif(v2 != (List.length cI:Int))then
  false
 else
  Sum.elim (fun r=>r) (fun cG=>
   true)
  (bS (fun(i5:Nat) (aF:Unit)=>
   show Step (Bool) (Unit)from
   let bg:aT:=List.getD x0 (Int.toNat (i5:Int)) (ed .aT)
   let bU:aT:=List.getD cI (Int.toNat (i5:Int)) (ed .aT)
   let v9:=!(bif bg.kind==bU.kind then bif bg.n==bU.n then bif bg.m==bU.m then bif bg.key.dev==bU.key.dev then bif bR bg.key.bT bU.key.bT then bif bR bg.key.attr bU.key.attr then bif bg.value.kind==bU.value.kind then bif bg.value.n==bU.value.n then bif bR bg.value.s bU.value.s then bif bg.event.dev==bU.event.dev then bif bR bg.event.bT bU.event.bT then bif bR bg.event.name bU.event.name then bif bR bg.asked.token bU.asked.token then bif bg.asked.request.kind==bU.asked.request.kind then bif bg.asked.request.ec==bU.asked.request.ec then bif bg.asked.request.key.dev==bU.asked.request.key.dev then bif bR bg.asked.request.key.bT bU.asked.request.key.bT then bif bR bg.asked.request.key.attr bU.asked.request.key.attr then bif bR bg.asked.request.name bU.asked.request.name then bif bg.asked.request.value.kind==bU.asked.request.value.kind then bif bg.asked.request.value.n==bU.asked.request.value.n then bif bR bg.asked.request.value.s bU.asked.request.value.s then bR bg.asked.request.text bU.asked.request.text else false else false else false else false else false else false else false else false else false else false else false else false else false else false else false else false else false else false else false else false else false else false)
   bif v9 then
    .ret false
   else
    .bP ()) 0 (Int.toNat v2) ():Bool⊕(Unit))
def rb(x0:List aT)(cI:List aT):Prop:=
 let v2:Int:=(List.length x0:Int)
 ((v2 != (List.length cI:Int))=false→(
  ∃cS:Nat→(Unit)→Prop,cS 0 ()∧∀(i5:Nat) (d0:Unit),i5<Int.toNat v2→cS i5 d0→(
   let bg:aT:=List.getD x0 (Int.toNat (i5:Int)) (ed .aT)
   let bU:aT:=List.getD cI (Int.toNat (i5:Int)) (ed .aT)
   (0≤(i5:Int)∧(i5:Int)<(List.length cI:Int))∧
   let v9:=!(bif bg.kind==bU.kind then bif bg.n==bU.n then bif bg.m==bU.m then bif bg.key.dev==bU.key.dev then bif bR bg.key.bT bU.key.bT then bif bR bg.key.attr bU.key.attr then bif bg.value.kind==bU.value.kind then bif bg.value.n==bU.value.n then bif bR bg.value.s bU.value.s then bif bg.event.dev==bU.event.dev then bif bR bg.event.bT bU.event.bT then bif bR bg.event.name bU.event.name then bif bR bg.asked.token bU.asked.token then bif bg.asked.request.kind==bU.asked.request.kind then bif bg.asked.request.ec==bU.asked.request.ec then bif bg.asked.request.key.dev==bU.asked.request.key.dev then bif bR bg.asked.request.key.bT bU.asked.request.key.bT then bif bR bg.asked.request.key.attr bU.asked.request.key.attr then bif bR bg.asked.request.name bU.asked.request.name then bif bg.asked.request.value.kind==bU.asked.request.value.kind then bif bg.asked.request.value.n==bU.asked.request.value.n then bif bR bg.asked.request.value.s bU.asked.request.value.s then bR bg.asked.request.text bU.asked.request.text else false else false else false else false else false else false else false else false else false else false else false else false else false else false else false else false else false else false else false else false else false else false)
   (v9=false→(
    cS (i5+1) ())))))
noncomputable def m3(x0:List aT)(cI:ByteArray):Bool:=
 bif((decide ((List.length x0:Int)>100))||(decide ((ByteArray.size cI:Int)>3000)))then
  (m4)
 else
  let aM:Bool:=
   let v105:=m7 x0
   bif((v105.2 != 0)||(decide ((ByteArray.size v105.1:Int)>1048564)))then
    (m4)
   else
    let p7:=m8 v105.1
    let p8:=m8 (ByteArray.append (ByteArray.append (⟨#[35,32,98,101,103,105,110,10,10]⟩:ByteArray) v105.1) (⟨#[35,10]⟩:ByteArray))
    let ra:Bool:=(((p7.2.2==0)&&(p8.2.2==0))&&(p7.2.1==0))&&(p8.2.1==0)
    let aM:Bool→Bool:=fun Cs=>
     let v130:Bool:=ra&&Cs
     let aM:Bool→Bool:=fun v131=>
      let yX:Bool:=v130&&v131
      let aM:Bool→Bool:=fun QV=>
       (yX&&QV)
      bif yX then
       aM (m4)
      else
       aM false
     bif v130 then
      aM (m9 p8.1 x0)
     else
      aM false
    bif ra then
     aM (m9 p7.1 x0)
    else
     aM false
  let bg:=m5 cI
  bif(bg.2==0)then
   let v11:=m6 bg.1
   bif((v11.2 != 0)||(bm .neq v11.1 cI))then
    false
   else
    aM
  else
   aM
def sN(x0:List aT)(cI:ByteArray):Prop:=
 (((decide ((List.length x0:Int)>100))||(decide ((ByteArray.size cI:Int)>3000)))=true→(
  n1))∧(((decide ((List.length x0:Int)>100))||(decide ((ByteArray.size cI:Int)>3000)))=false→(
  let aM:Prop:=
   let v105:=m7 x0
   (yW x0)∧
   (((v105.2 != 0)||(decide ((ByteArray.size v105.1:Int)>1048564)))=true→(
    n1))∧(((v105.2 != 0)||(decide ((ByteArray.size v105.1:Int)>1048564)))=false→(
    let p7:=m8 v105.1
    (s6 v105.1)∧
    let I4:=ByteArray.append (⟨#[35,32,98,101,103,105,110,10,10]⟩:ByteArray) v105.1
    (ByteArray.size (⟨#[35,32,98,101,103,105,110,10,10]⟩:ByteArray)+ByteArray.size v105.1≤9223372036854775807)∧
    let v117:=ByteArray.append I4 (⟨#[35,10]⟩:ByteArray)
    (ByteArray.size I4+ByteArray.size (⟨#[35,10]⟩:ByteArray)≤9223372036854775807)∧
    let p8:=m8 v117
    (s6 v117)∧
    let ra:Bool:=(((p7.2.2==0)&&(p8.2.2==0))&&(p7.2.1==0))&&(p8.2.1==0)
    let aM:Bool→Prop:=fun Cs=>
     let v130:Bool:=ra&&Cs
     let aM:Bool→Prop:=fun v131=>
      let yX:Bool:=v130&&v131
      (yX=true→(
       n1))
     (v130=true→(
      (rb p8.1 x0)∧
      aM (m9 p8.1 x0)))∧(v130=false→(
      aM false))
    (ra=true→(
     (rb p7.1 x0)∧
     aM (m9 p7.1 x0)))∧(ra=false→(
     aM false))))
  let bg:=m5 cI
  (nZ cI)∧
  ((bg.2==0)=true→(
   let v11:=m6 bg.1
   (rv bg.1)∧
   (((v11.2 != 0)||(bm .neq v11.1 cI))=false→(
    aM))))∧((bg.2==0)=false→(
   aM))))
end Go.aG
