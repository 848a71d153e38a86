/- Contracts by hand: strconv.Itoa and strings.Builder.String (of the shelf), homehubref01.Digits (by induction). Conditions: none. -/
import Derived.Shelf.Strconv.Itoa3
import Derived.Shelf.Strings.Builder1
import Derived.Test.YtmkpmgfieagphaaGreatDoorRTEf
import Derived.Test.YtmkpmgfieagphaaGreatDoorRPn
namespace Go.Proofs
open Go.Shelf
def Tryz.NO:Go.Shelf.Ren:=⟨fun|169=>60|n=>n,fun|70=>105|9=>9|0=>0|72=>108|37=>106|127=>181|3=>3|5=>5|n=>n,fun|n=>n⟩
theorem Tryz.NP:Go.Proofs.Lays.n169 Tryz.prog Tryz.NO:={
 mixed:=by kernel_rfl
 f169:=Tryz.func60.trans (congrArg some (by kernel_rfl))
 t0:=Tryz.underlying0
 a0:=Tryz.isAgg0
 z0:=Tryz.sizeOf0
 v0:=Tryz.zeroValue0
 t3:=Tryz.underlying3
 a3:=Tryz.isAgg3
 z3:=Tryz.sizeOf3
 v3:=Tryz.zeroValue3
 t9:=Tryz.underlying9
 a9:=Tryz.isAgg9
 z9:=Tryz.sizeOf9
 v9:=Tryz.zeroValue9
 t37:=Tryz.underlying106
 a37:=Tryz.isAgg106
 z37:=Tryz.sizeOf106
 v37:=Tryz.zeroValue106
 t70:=Tryz.underlying105
 a70:=Tryz.isAgg105
 z70:=Tryz.sizeOf105
 v70:=Tryz.zeroValue105
 t72:=Tryz.underlying108
 a72:=Tryz.isAgg108
 z72:=Tryz.sizeOf108
 v72:=Tryz.zeroValue108
 t127:=Tryz.underlying181
 a127:=Tryz.isAgg181
 z127:=Tryz.sizeOf181
 v127:=Tryz.zeroValue181}
def Tryz.Wb:Go.Shelf.Ren:=⟨fun|171=>123|243=>195|246=>250|283=>285|284=>286|285=>287|286=>288|129=>305|317=>304|318=>306|319=>307|320=>308|337=>313|338=>314|n=>n,fun|3=>3|9=>9|2=>2|4=>4|171=>309|0=>0|53=>63|37=>106|5=>5|173=>312|212=>328|51=>314|20=>20|213=>329|46=>174|232=>333|233=>334|n=>n,fun|17=>2|18=>3|19=>4|n=>n⟩
theorem Tryz.Wc:Go.Proofs.LaysM.n171 Tryz.prog Tryz.Wb:={
 mixed:=by kernel_rfl
 f129:=Tryz.func305.trans (congrArg some (by kernel_rfl))
 f171:=Tryz.func123.trans (congrArg some (by kernel_rfl))
 f243:=Tryz.func195.trans (congrArg some (by kernel_rfl))
 f246:=Tryz.func250.trans (congrArg some (by kernel_rfl))
 f283:=Tryz.func285.trans (congrArg some (by kernel_rfl))
 f284:=Tryz.func286.trans (congrArg some (by kernel_rfl))
 f285:=Tryz.func287.trans (congrArg some (by kernel_rfl))
 f286:=Tryz.func288.trans (congrArg some (by kernel_rfl))
 f317:=Tryz.func304.trans (congrArg some (by kernel_rfl))
 f318:=Tryz.func306.trans (congrArg some (by kernel_rfl))
 f319:=Tryz.func307.trans (congrArg some (by kernel_rfl))
 f320:=Tryz.func308.trans (congrArg some (by kernel_rfl))
 f337:=Tryz.func313.trans (congrArg some (by kernel_rfl))
 f338:=Tryz.func314.trans (congrArg some (by kernel_rfl))
 t0:=Tryz.underlying0
 a0:=Tryz.isAgg0
 z0:=Tryz.sizeOf0
 v0:=Tryz.zeroValue0
 t2:=Tryz.underlying2
 a2:=Tryz.isAgg2
 z2:=Tryz.sizeOf2
 v2:=Tryz.zeroValue2
 t3:=Tryz.underlying3
 a3:=Tryz.isAgg3
 z3:=Tryz.sizeOf3
 v3:=Tryz.zeroValue3
 t4:=Tryz.underlying4
 a4:=Tryz.isAgg4
 z4:=Tryz.sizeOf4
 v4:=Tryz.zeroValue4
 t5:=Tryz.underlying5
 a5:=Tryz.isAgg5
 z5:=Tryz.sizeOf5
 v5:=Tryz.zeroValue5
 t9:=Tryz.underlying9
 a9:=Tryz.isAgg9
 z9:=Tryz.sizeOf9
 v9:=Tryz.zeroValue9
 t20:=Tryz.underlying20
 a20:=Tryz.isAgg20
 z20:=Tryz.sizeOf20
 v20:=Tryz.zeroValue20
 t37:=Tryz.underlying106
 a37:=Tryz.isAgg106
 z37:=Tryz.sizeOf106
 v37:=Tryz.zeroValue106
 t46:=Tryz.underlying174
 a46:=Tryz.isAgg174
 z46:=Tryz.sizeOf174
 v46:=Tryz.zeroValue174
 t51:=Tryz.underlying314
 a51:=Tryz.isAgg314
 z51:=Tryz.sizeOf314
 v51:=Tryz.zeroValue314
 t53:=Tryz.underlying63
 a53:=Tryz.isAgg63
 z53:=Tryz.sizeOf63
 v53:=Tryz.zeroValue63
 t171:=Tryz.underlying309
 a171:=Tryz.isAgg309
 z171:=Tryz.sizeOf309
 v171:=Tryz.zeroValue309
 t173:=Tryz.underlying312
 a173:=Tryz.isAgg312
 z173:=Tryz.sizeOf312
 v173:=Tryz.zeroValue312
 t212:=Tryz.underlying328
 a212:=Tryz.isAgg328
 z212:=Tryz.sizeOf328
 v212:=Tryz.zeroValue328
 t213:=Tryz.underlying329
 a213:=Tryz.isAgg329
 z213:=Tryz.sizeOf329
 t232:=Tryz.underlying333
 a232:=Tryz.isAgg333
 z232:=Tryz.sizeOf333
 v232:=Tryz.zeroValue333
 t233:=Tryz.underlying334
 a233:=Tryz.isAgg334
 z233:=Tryz.sizeOf334
 v233:=Tryz.zeroValue334
 g17:=by kernel_rfl
 g18:=by kernel_rfl
 g19:=by kernel_rfl
 i0:=by kernel_rfl
 i2:=by kernel_rfl
 i3:=by kernel_rfl
 i4:=by kernel_rfl
 i5:=by kernel_rfl
 i9:=by kernel_rfl
 i20:=by kernel_rfl
 i37:=by kernel_rfl
 i46:=by kernel_rfl
 i51:=by kernel_rfl
 i53:=by kernel_rfl
 i171:=by kernel_rfl
 i173:=by kernel_rfl
 i212:=by kernel_rfl
 i232:=by kernel_rfl
 i233:=by kernel_rfl
 m17:=by kernel_rfl
 m18:=by kernel_rfl
 m19:=by kernel_rfl}
theorem Tryz.NQ:Builder.Extra Tryz.prog Tryz.NO:={
 sizeBuilder:=by kernel_rfl
 liesBuilder:=by kernel_rfl
 t5:=Tryz.underlying5
 a5:=Tryz.isAgg5
 z5:=Tryz.sizeOf5
 v5:=Tryz.zeroValue5
 infoByte:=by kernel_rfl
 cellsByte:=by kernel_rfl
 sizeByte:=by kernel_rfl
 neB5:=by decide}
end Go.Proofs
open Go Go.aM Go.ed Go.Proofs
namespace Go.aM
theorem FB: ∀(f u:Nat),u<10^(f+1)→pt (f+1) u=Lib.decDigits u
 |f,u,h=>by
  rw[Lib.decDigits];unfold pt
  by_cases hu:u<10
  ·rw[dif_pos hu,jM hu,cond_true]
  ·have ae:Nat.blt u 10=false:=by cases ae:Nat.blt u 10 with|true=>exact absurd (e2 ae) hu|false=>rfl
   rw[dif_neg hu,ae,cond_false]
   cases f with
   |zero=>exact absurd h (by omega)
   |succ f=>rw[FB f (u/ 10) (by rw[Nat.pow_succ]at h;omega)]
theorem FC{n:Int}(h:BM n):fN n=⟨(Lib.itoa n).toArray⟩:=by
 obtain⟨aa,ad⟩:=h
 unfold fN Lib.itoa
 by_cases hn:n<0
 ·rw[decide_eq_true hn,cond_true,if_pos hn,FB 19 _ (by omega)]
 ·rw[decide_eq_false hn,cond_false,if_neg hn,FB 19 _ (by omega)]
def Wd(G:a7)(g:Nat):Prop:=G g=some (Lib.pow10Tab.map fun z=>bh.v (.int .u64 z))
theorem We{P:Program}{w:World}{ro:Nat→Prop}{G:a7}{g:Nat}{zs:List Int}{k:IntKind}{name:String}(ah:p6 w ro G)(aG:G g=some (zs.map fun z=>bh.v (.int k z)))(hn:P.globalNamed name=some g):Lib.TabIs P w name k zs:=by
 obtain⟨aa,ad,arr,t,p7,aq,aS⟩:=ah g _ aG
 unfold Lib.TabIs World.var?
 rw[hn]
 simp only[Option.bind_some,aq,Option.some.injEq]
 rw[List.length_map]at aS
 apply Array.ext
 ·simp[aS]
 ·intro i hi gE
  cases aa with
  |ptr _ _ c dk dy=>
   have Wf:i<zs.length:=by omega
   have hx:(zs.map fun z=>bh.v (.int k z))[i]? =some (.v (.int k zs[i])):=by rw[List.getElem?_map,List.getElem?_eq_getElem Wf];rfl
   have bD:=(dk i _ hx).2
   have a2:=dy i _ hx
   generalize c i=ci at bD a2
   cases a2
   rw[addLit,Nat.zero_add,cell_of_row w g i arr t p7 aq]at bD
   have:arr[i]? =some (.int k zs[i]):=by simpa using bD
   rw[Array.getElem?_eq_getElem hi]at this
   simpa using this
theorem NR{G:a7}:yi b0 G 60 108 5:=⟨fun hid af=>Wh Tryz.NP Tryz.NQ hid af,fun hid=>Wi Tryz.NP Tryz.NQ hid⟩
theorem FD{G:a7}(yj:Wd G 2):ck b0 G 123 BN:=by
 intro (n:Int) (hn:BM n) w β ro eM aa ad aq aS bC
 let cR:=0
 have h4:eM.getD 0 undef= .int .i64 n:=bs.val (ad 0 _ rfl)
 have tU:eM= #[.int .i64 n]:=by
  have ag:eM.size=1:=aa
  apply Array.ext
  ·simpa using ag
  ·intro i vE iK
   have:i=0:=by omega
   subst this;simpa[Array.getD,ag]using h4
 rw[tU]
 refine Calls.mono (Any.strconv_Itoa Tryz.Wc n hn.1 hn.2 w (We aS yj (by kernel_rfl))) fun e w' ⟨he,k,os,hw⟩=>?_
 subst hw
 have hold: ∀b,b<w.heap.size→(Sort.grow (w.drewN k) os).heap[b]? =w.heap[b]? :=fun b ae=>by
  show(w.heap++os)[b]? =_;rw[Array.getElem?_append_left ae]
 have bK:w.heap.size≤(Sort.grow (w.drewN k) os).heap.size:=by
  show w.heap.size≤(w.heap++os).size;simp
 refine⟨_,_,[],β,ro,cR,he,rfl,?_,⟨by simp[aF],by simp[aF],fun b _=>jN β b,fun b ae=>Nat.lt_of_lt_of_le (aq.lt b ae) bK⟩,⟨rfl,rfl,rfl,bK,fun b ae _=>hold b ae,fun _ h=>.inl h,fun _ h=>h,fun b h=>absurd h (jN β b),fun _ _ o ah=>(by simp[aF]at ah),fun _ o ah=>(by simp[aF]at ah),Nat.le_refl _⟩⟩
 rw[←FC hn]
 exact .fO rfl
theorem r1{n:Int}(h:gX n):IntKind.wrap .i64 n=n:=by
 obtain⟨aa,ad⟩:=h
 simp only[IntKind.wrap,IntKind.bits,IntKind.signed]
 simp
 omega
theorem FE: ∀(f u:Nat),(pt f u).length≤f
 |0,_=>Nat.le_refl _
 |f+1,u=>by
  unfold pt
  cases Nat.blt u 10 with
  |true=>simp
  |false=>
   have:=FE f (u/ 10)
   simp;omega
theorem EO(n:Int):(fN n).size≤21:=by
 unfold fN
 show(List.toArray _).size≤21
 rw[List.size_toArray]
 cases decide (n<0)with
 |true=>have:=FE 20 n.natAbs;simp;omega
 |false=>have:=FE 20 n.toNat;simp;omega
theorem FF(a b:List UInt8):ByteArray.append ⟨a.toArray⟩ ⟨b.toArray⟩=⟨(a++b).toArray⟩:=by
 show(⟨a.toArray⟩++⟨b.toArray⟩:ByteArray)=_
 apply ByteArray.ext
 rw[ByteArray.data_append]
 simp
theorem vF{n:Int}(h:gX n)(aU:0≤n):fN n=⟨(Lib.decDigits n.toNat).toArray⟩:=by
 rw[FC h]
 unfold Lib.itoa
 rw[if_neg (by omega)]
theorem FG{n:Int}(h:gX n)(aU:n<0):fN n=⟨(45::Lib.decDigits n.natAbs).toArray⟩:=by
 rw[FC h]
 unfold Lib.itoa
 rw[if_pos aU]
theorem NS{u:Nat}(h:u<10):Lib.decDigits u=[UInt8.ofNat (48+u)]:=by rw[Lib.decDigits,dif_pos h]
theorem NT{u:Nat}(h:10≤u):Lib.decDigits u=Lib.decDigits (u/ 10)++Lib.decDigits (u%10):=by
 rw[Lib.decDigits,dif_neg (by omega),NS (u:=u%10) (by omega)]
def jO(n:Int):Nat:=2*n.natAbs+(bif decide (n<0)then 1 else 0)
noncomputable def yk(k:Nat):List a1:=[⟨[.int .i64],[.str],some fun n=>gX n∧jO n<k,fun n=>fN n⟩]
def NU:List hU:=[⟨52,0,[.int .i64],[.str],false⟩]
noncomputable def t52:aB:=BO b0 (oo.all b0 yl) yl (60,108,5) [] NU 16 52 (hk 0 [.int .i64]) (qG 1)
def FH(x0:Int):ByteArray:=
 bif((decide (x0<0))&&(decide (x0>(-10))))then
  (ByteArray.append (⟨#[45]⟩:ByteArray) (fN (IntKind.wrap .i64 (0-x0))))
 else
  bif(decide (x0<0))then
   (ByteArray.append (fN (ba .quo .i64 x0 (10:Int))) (fN (IntKind.wrap .i64 (0-(ba .rem .i64 x0 (10:Int))))))
  else
   bif(decide (x0>9))then
    (ByteArray.append (fN (ba .quo .i64 x0 (10:Int))) (fN (ba .rem .i64 x0 (10:Int))))
   else
    (bytesOf ([(IntKind.wrap .u8 (IntKind.wrap .i64 ((48:Int)+x0)))]:List Int))
def NV(k:Nat)(x0:Int):Prop:=
 (((decide (x0<0))&&(decide (x0>(-10))))=true→(
  let v4:Int:=IntKind.wrap .i64 (0-x0)
  (gX v4∧jO v4<k)∧
  ByteArray.size (⟨#[45]⟩:ByteArray)+ByteArray.size (fN v4)≤9223372036854775807))∧(((decide (x0<0))&&(decide (x0>(-10))))=false→(
  ((decide (x0<0))=true→(
   let v5:Int:=ba .quo .i64 x0 (10:Int)
   (gX v5∧jO v5<k)∧
   let bf:Int:=IntKind.wrap .i64 (0-(ba .rem .i64 x0 (10:Int)))
   (gX bf∧jO bf<k)∧
   ByteArray.size (fN v5)+ByteArray.size (fN bf)≤9223372036854775807))∧((decide (x0<0))=false→(
   ((decide (x0>9))=true→(
    let v6:Int:=ba .quo .i64 x0 (10:Int)
    (gX v6∧jO v6<k)∧
    let bf:Int:=ba .rem .i64 x0 (10:Int)
    (gX bf∧jO bf<k)∧
    ByteArray.size (fN v6)+ByteArray.size (fN bf)≤9223372036854775807))))))
theorem ym{n:Int}(h:0≤n):jO n=2*n.toNat:=by
 unfold jO
 rw[decide_eq_false (by omega),cond_false]
 omega
theorem FI{n:Int}(h:n<0):jO n=2*n.natAbs+1:=by
 unfold jO
 rw[decide_eq_true h,cond_true]
theorem NW{n:Int}(h:0≤n):n.tdiv 10=((n.toNat/ 10:Nat):Int)∧n.tmod 10=((n.toNat%10:Nat):Int):=by
 obtain⟨m,rfl⟩: ∃m:Nat,n=m:=⟨_,(Int.toNat_of_nonneg h).symm⟩
 exact⟨rfl,rfl⟩
theorem NY{n:Int}(h:n<0):n.tdiv 10= -((n.natAbs/ 10:Nat):Int)∧n.tmod 10= -((n.natAbs%10:Nat):Int):=by
 obtain⟨m,rfl⟩: ∃m:Nat,n= -(m:Int):=⟨n.natAbs,by omega⟩
 rw[Int.neg_tdiv,Int.neg_tmod,Int.natAbs_neg,Int.natAbs_natCast]
 exact⟨rfl,rfl⟩
theorem Wj{k:Nat}{x:Int}(h:gX x)(aj:jO x<k+1):NV k x:=by
 have ag:=fun n=>EO n
 obtain⟨aa,ad⟩:=h
 refine⟨fun hc=>?_,fun hc=>⟨fun hd=>?_,fun hd he=>?_⟩⟩
 ·simp only[Bool.and_eq_true,decide_eq_true_eq]at hc
  have hw:IntKind.wrap .i64 (0-x)=0-x:=r1 ⟨by omega,by omega⟩
  show(gX _∧jO _<k)∧_;rw[hw];rw[FI hc.1]at aj;refine⟨⟨⟨by omega,by omega⟩,by rw[ym (by omega)];omega⟩,?_⟩
  have:=ag (0-x)
  have rV:ByteArray.size (⟨#[45]⟩:ByteArray)=1:=rfl
  omega
 ·have hd:=of_decide_eq_true hd
  simp only[Bool.and_eq_false_iff,decide_eq_false_iff_not]at hc;obtain⟨dk,dy⟩:=NY hd
  have hw:ba .quo .i64 x 10= -((x.natAbs/ 10:Nat):Int):=by
   show IntKind.wrap .i64 (x.tdiv 10)=_;rw[dk];exact r1 ⟨by omega,by omega⟩
  have av:IntKind.wrap .i64 (0-ba .rem .i64 x 10)=((x.natAbs%10:Nat):Int):=by
   show IntKind.wrap .i64 (0-x.tmod 10)=_;rw[dy,show(0:Int)- -((x.natAbs%10:Nat):Int)=((x.natAbs%10:Nat):Int)by omega]
   exact r1 ⟨by omega,by omega⟩
  show(gX (ba .quo .i64 x 10)∧jO (ba .quo .i64 x 10)<k)∧(gX (IntKind.wrap .i64 (0-ba .rem .i64 x 10))∧jO (IntKind.wrap .i64 (0-ba .rem .i64 x 10))<k)∧ByteArray.size (fN (ba .quo .i64 x 10))+ByteArray.size (fN (IntKind.wrap .i64 (0-ba .rem .i64 x 10)))≤_;rw[hw,av];rw[FI hd]at aj;refine⟨⟨⟨by omega,by omega⟩,by rw[FI (by omega)];omega⟩,⟨⟨by omega,by omega⟩,by rw[ym (by omega)];omega⟩,?_⟩
  have bD:=ag (-((x.natAbs/ 10:Nat):Int))
  have a2:=ag ((x.natAbs%10:Nat):Int)
  omega
 ·have hd:=of_decide_eq_false hd
  have he:=of_decide_eq_true he
  obtain⟨dk,dy⟩:=NW (n:=x) (by omega)
  have hw:ba .quo .i64 x 10=((x.toNat/ 10:Nat):Int):=by
   show IntKind.wrap .i64 (x.tdiv 10)=_;rw[dk];exact r1 ⟨by omega,by omega⟩
  have av:ba .rem .i64 x 10=((x.toNat%10:Nat):Int):=dy
  show(gX (ba .quo .i64 x 10)∧jO (ba .quo .i64 x 10)<k)∧(gX (ba .rem .i64 x 10)∧jO (ba .rem .i64 x 10)<k)∧ByteArray.size (fN (ba .quo .i64 x 10))+ByteArray.size (fN (ba .rem .i64 x 10))≤_;rw[hw,av];rw[ym (by omega)]at aj
  refine⟨⟨⟨by omega,by omega⟩,by rw[ym (by omega)];omega⟩,⟨⟨by omega,by omega⟩,by rw[ym (by omega)];omega⟩,?_⟩
  have bD:=ag ((x.toNat/ 10:Nat):Int)
  have a2:=ag ((x.toNat%10:Nat):Int)
  omega
theorem Wk{x:Int}(h:gX x):FH x=fN x:=by
 obtain⟨aa,ad⟩:=h
 unfold FH
 by_cases hn:x<0
 ·rw[decide_eq_true hn,Bool.true_and,cond_true]
  obtain⟨dk,dy⟩:=NY hn
  by_cases yg:x> -10
  ·have hw:IntKind.wrap .i64 (0-x)=0-x:=r1 ⟨by omega,by omega⟩
   rw[decide_eq_true yg,cond_true,hw,vF ⟨by omega,by omega⟩ (by omega),FG ⟨aa,ad⟩ hn,show(⟨#[45]⟩:ByteArray)=⟨[45].toArray⟩from rfl,FF]
   rw[show(0-x).toNat=x.natAbs by omega]
   rfl
  ·have hw:ba .quo .i64 x 10= -((x.natAbs/ 10:Nat):Int):=by
    show IntKind.wrap .i64 (x.tdiv 10)=_;rw[dk];exact r1 ⟨by omega,by omega⟩
   have av:IntKind.wrap .i64 (0-ba .rem .i64 x 10)=((x.natAbs%10:Nat):Int):=by
    show IntKind.wrap .i64 (0-x.tmod 10)=_;rw[dy,show(0:Int)- -((x.natAbs%10:Nat):Int)=((x.natAbs%10:Nat):Int)by omega]
    exact r1 ⟨by omega,by omega⟩
   rw[decide_eq_false yg,cond_false,hw,av,FG ⟨by omega,by omega⟩ (by omega),vF ⟨by omega,by omega⟩ (by omega),FG ⟨aa,ad⟩ hn,FF,NT (u:=x.natAbs) (by omega)]
   rw[Int.natAbs_neg,Int.natAbs_natCast,Int.toNat_natCast];rfl
 ·rw[decide_eq_false hn,Bool.false_and,cond_false,cond_false]
  obtain⟨dk,dy⟩:=NW (n:=x) (by omega)
  by_cases ik:x>9
  ·have hw:ba .quo .i64 x 10=((x.toNat/ 10:Nat):Int):=by
    show IntKind.wrap .i64 (x.tdiv 10)=_;rw[dk];exact r1 ⟨by omega,by omega⟩
   have av:ba .rem .i64 x 10=((x.toNat%10:Nat):Int):=dy
   rw[decide_eq_true ik,cond_true,hw,av,vF ⟨by omega,by omega⟩ (by omega),vF ⟨by omega,by omega⟩ (by omega),vF ⟨aa,ad⟩ (by omega),FF,NT (u:=x.toNat) (by omega)]
   rw[Int.toNat_natCast,Int.toNat_natCast]
  ·rw[decide_eq_false ik,cond_false,vF ⟨aa,ad⟩ (by omega),NS (by omega)]
   have:x=0∨x=1∨x=2∨x=3∨x=4∨x=5∨x=6∨x=7∨x=8∨x=9:=by omega
   rcases this with rfl|rfl|rfl|rfl|rfl|rfl|rfl|rfl|rfl|rfl<;>decide
theorem NZ{G:a7}: ∀k:Nat,ck b0 G 52 ⟨[.int .i64],[.str],some fun n=>gX n∧jO n<k,fun n=>fN n⟩
 |0=>fun _ hx=>absurd hx.2 (Nat.not_lt_zero _)
 |k+1=>Wl (M:=yk k) (FJ (Z:=(60,108,5)) (B:=[]) (C:=NU) N0 NR (fun _ h=>nomatch h) (pw.cons ⟨rfl,rfl,NZ k,fun h=>by cases h⟩ pw.nil) 16) t52 rfl (by kernel_rfl)
  (fun x hx=>by
   have e:vG (yk k) t52 (gg 0 (dn [.int .i64] x))=NV k x:=by kernel_rfl
   show vG (yk k) t52 (gg 0 (dn [.int .i64] x));rw[e]
   exact Wj hx.1 hx.2)
  (fun x hx=>by
   have e:vH (yk k) t52 [.str] (gg 0 (dn [.int .i64] x))=FH x:=by kernel_rfl
   show vH (yk k) t52 [.str] (gg 0 (dn [.int .i64] x))=fN x;rw[e]
   exact Wk hx.1)
theorem FK{G:a7}:ck b0 G 52 BP:=fun x hx=>NZ (jO x+1) x ⟨hx,Nat.lt_succ_self _⟩
end Go.aM
