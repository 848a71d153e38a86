/- Contracts by hand: strconv.Itoa and strings.Builder.String (of the shelf), homehubref01.Digits (by induction). Conditions: none. -/
import Derived.Shelf.Strconv.Itoa3
import Derived.Shelf.Strings.Builder1
import Derived.Test.YtmkpmgfieagphaaGreatDoorQTEf
import Derived.Test.YtmkpmgfieagphaaGreatDoorQPn
namespace Go.Proofs
open Go.Shelf
def Tryz.Na:Go.Shelf.Ren:=⟨fun|169=>60|n=>n,fun|70=>105|9=>9|0=>0|72=>108|37=>106|127=>181|3=>3|5=>5|n=>n,fun|n=>n⟩
theorem Tryz.Nb:Go.Proofs.Lays.n169 Tryz.prog Tryz.Na:={
 mixed:=by kernel_rfl
 f169:=Tryz.func60.trans (congrArg some (by kernel_rfl))
 t0:=Tryz.underlying0
 a0:=Tryz.isAgg0
 z0:=Tryz.sizeOf0
 v0:=Tryz.zeroValue0
 t3:=Tryz.underlying3
 a3:=Tryz.isAgg3
 z3:=Tryz.sizeOf3
 v3:=Tryz.zeroValue3
 t9:=Tryz.underlying9
 a9:=Tryz.isAgg9
 z9:=Tryz.sizeOf9
 v9:=Tryz.zeroValue9
 t37:=Tryz.underlying106
 a37:=Tryz.isAgg106
 z37:=Tryz.sizeOf106
 v37:=Tryz.zeroValue106
 t70:=Tryz.underlying105
 a70:=Tryz.isAgg105
 z70:=Tryz.sizeOf105
 v70:=Tryz.zeroValue105
 t72:=Tryz.underlying108
 a72:=Tryz.isAgg108
 z72:=Tryz.sizeOf108
 v72:=Tryz.zeroValue108
 t127:=Tryz.underlying181
 a127:=Tryz.isAgg181
 z127:=Tryz.sizeOf181
 v127:=Tryz.zeroValue181}
def Tryz.Vm:Go.Shelf.Ren:=⟨fun|171=>123|243=>195|246=>250|283=>285|284=>286|285=>287|286=>288|129=>305|317=>304|318=>306|319=>307|320=>308|337=>313|338=>314|n=>n,fun|3=>3|9=>9|2=>2|4=>4|171=>309|0=>0|53=>63|37=>106|5=>5|173=>312|212=>328|51=>314|20=>20|213=>329|46=>174|232=>333|233=>334|n=>n,fun|17=>2|18=>3|19=>4|n=>n⟩
theorem Tryz.Vn:Go.Proofs.LaysM.n171 Tryz.prog Tryz.Vm:={
 mixed:=by kernel_rfl
 f129:=Tryz.func305.trans (congrArg some (by kernel_rfl))
 f171:=Tryz.func123.trans (congrArg some (by kernel_rfl))
 f243:=Tryz.func195.trans (congrArg some (by kernel_rfl))
 f246:=Tryz.func250.trans (congrArg some (by kernel_rfl))
 f283:=Tryz.func285.trans (congrArg some (by kernel_rfl))
 f284:=Tryz.func286.trans (congrArg some (by kernel_rfl))
 f285:=Tryz.func287.trans (congrArg some (by kernel_rfl))
 f286:=Tryz.func288.trans (congrArg some (by kernel_rfl))
 f317:=Tryz.func304.trans (congrArg some (by kernel_rfl))
 f318:=Tryz.func306.trans (congrArg some (by kernel_rfl))
 f319:=Tryz.func307.trans (congrArg some (by kernel_rfl))
 f320:=Tryz.func308.trans (congrArg some (by kernel_rfl))
 f337:=Tryz.func313.trans (congrArg some (by kernel_rfl))
 f338:=Tryz.func314.trans (congrArg some (by kernel_rfl))
 t0:=Tryz.underlying0
 a0:=Tryz.isAgg0
 z0:=Tryz.sizeOf0
 v0:=Tryz.zeroValue0
 t2:=Tryz.underlying2
 a2:=Tryz.isAgg2
 z2:=Tryz.sizeOf2
 v2:=Tryz.zeroValue2
 t3:=Tryz.underlying3
 a3:=Tryz.isAgg3
 z3:=Tryz.sizeOf3
 v3:=Tryz.zeroValue3
 t4:=Tryz.underlying4
 a4:=Tryz.isAgg4
 z4:=Tryz.sizeOf4
 v4:=Tryz.zeroValue4
 t5:=Tryz.underlying5
 a5:=Tryz.isAgg5
 z5:=Tryz.sizeOf5
 v5:=Tryz.zeroValue5
 t9:=Tryz.underlying9
 a9:=Tryz.isAgg9
 z9:=Tryz.sizeOf9
 v9:=Tryz.zeroValue9
 t20:=Tryz.underlying20
 a20:=Tryz.isAgg20
 z20:=Tryz.sizeOf20
 v20:=Tryz.zeroValue20
 t37:=Tryz.underlying106
 a37:=Tryz.isAgg106
 z37:=Tryz.sizeOf106
 v37:=Tryz.zeroValue106
 t46:=Tryz.underlying174
 a46:=Tryz.isAgg174
 z46:=Tryz.sizeOf174
 v46:=Tryz.zeroValue174
 t51:=Tryz.underlying314
 a51:=Tryz.isAgg314
 z51:=Tryz.sizeOf314
 v51:=Tryz.zeroValue314
 t53:=Tryz.underlying63
 a53:=Tryz.isAgg63
 z53:=Tryz.sizeOf63
 v53:=Tryz.zeroValue63
 t171:=Tryz.underlying309
 a171:=Tryz.isAgg309
 z171:=Tryz.sizeOf309
 v171:=Tryz.zeroValue309
 t173:=Tryz.underlying312
 a173:=Tryz.isAgg312
 z173:=Tryz.sizeOf312
 v173:=Tryz.zeroValue312
 t212:=Tryz.underlying328
 a212:=Tryz.isAgg328
 z212:=Tryz.sizeOf328
 v212:=Tryz.zeroValue328
 t213:=Tryz.underlying329
 a213:=Tryz.isAgg329
 z213:=Tryz.sizeOf329
 t232:=Tryz.underlying333
 a232:=Tryz.isAgg333
 z232:=Tryz.sizeOf333
 v232:=Tryz.zeroValue333
 t233:=Tryz.underlying334
 a233:=Tryz.isAgg334
 z233:=Tryz.sizeOf334
 v233:=Tryz.zeroValue334
 g17:=by kernel_rfl
 g18:=by kernel_rfl
 g19:=by kernel_rfl
 i0:=by kernel_rfl
 i2:=by kernel_rfl
 i3:=by kernel_rfl
 i4:=by kernel_rfl
 i5:=by kernel_rfl
 i9:=by kernel_rfl
 i20:=by kernel_rfl
 i37:=by kernel_rfl
 i46:=by kernel_rfl
 i51:=by kernel_rfl
 i53:=by kernel_rfl
 i171:=by kernel_rfl
 i173:=by kernel_rfl
 i212:=by kernel_rfl
 i232:=by kernel_rfl
 i233:=by kernel_rfl
 m17:=by kernel_rfl
 m18:=by kernel_rfl
 m19:=by kernel_rfl}
theorem Tryz.Nc:Builder.Extra Tryz.prog Tryz.Na:={
 sizeBuilder:=by kernel_rfl
 liesBuilder:=by kernel_rfl
 t5:=Tryz.underlying5
 a5:=Tryz.isAgg5
 z5:=Tryz.sizeOf5
 v5:=Tryz.zeroValue5
 infoByte:=by kernel_rfl
 cellsByte:=by kernel_rfl
 sizeByte:=by kernel_rfl
 neB5:=by decide}
end Go.Proofs
open Go Go.aL Go.ei Go.Proofs
namespace Go.aL
theorem Fa: ∀(f u:Nat),u<10^(f+1)→pk (f+1) u=Lib.decDigits u
 |f,u,h=>by
  rw[Lib.decDigits];unfold pk
  by_cases hu:u<10
  ·rw[dif_pos hu,jG hu,cond_true]
  ·have ad:Nat.blt u 10=false:=by cases ad:Nat.blt u 10 with|true=>exact absurd (eT ad) hu|false=>rfl
   rw[dif_neg hu,ad,cond_false]
   cases f with
   |zero=>exact absurd h (by omega)
   |succ f=>rw[Fa f (u/ 10) (by rw[Nat.pow_succ]at h;omega)]
theorem Fb{n:Int}(h:Bq n):fI n=⟨(Lib.itoa n).toArray⟩:=by
 obtain⟨aa,ae⟩:=h
 unfold fI Lib.itoa
 by_cases hn:n<0
 ·rw[decide_eq_true hn,cond_true,if_pos hn,Fa 19 _ (by omega)]
 ·rw[decide_eq_false hn,cond_false,if_neg hn,Fa 19 _ (by omega)]
def Vo(G:aY)(g:Nat):Prop:=G g=some (Lib.pow10Tab.map fun z=>bd.v (.int .u64 z))
theorem Vp{P:Program}{w:World}{ro:Nat→Prop}{G:aY}{g:Nat}{zs:List Int}{k:IntKind}{name:String}(ag:p2 w ro G)(aG:G g=some (zs.map fun z=>bd.v (.int k z)))(hn:P.globalNamed name=some g):Lib.TabIs P w name k zs:=by
 obtain⟨aa,ae,arr,t,p3,aq,aT⟩:=ag g _ aG
 unfold Lib.TabIs World.var?
 rw[hn]
 simp only[Option.bind_some,aq,Option.some.injEq]
 rw[List.length_map]at aT
 apply Array.ext
 ·simp[aT]
 ·intro i hi gA
  cases aa with
  |ptr _ _ c dh dv=>
   have Vq:i<zs.length:=by omega
   have hx:(zs.map fun z=>bd.v (.int k z))[i]? =some (.v (.int k zs[i])):=by rw[List.getElem?_map,List.getElem?_eq_getElem Vq];rfl
   have bB:=(dh i _ hx).2
   have a2:=dv i _ hx
   generalize c i=ci at bB a2
   cases a2
   rw[addLit,Nat.zero_add,cell_of_row w g i arr t p3 aq]at bB
   have:arr[i]? =some (.int k zs[i]):=by simpa using bB
   rw[Array.getElem?_eq_getElem hi]at this
   simpa using this
theorem Nd{G:aY}:x7 b0 G 60 108 5:=⟨fun hid af=>Vr Tryz.Nb Tryz.Nc hid af,fun hid=>Vs Tryz.Nb Tryz.Nc hid⟩
theorem Fc{G:aY}(x8:Vo G 2):cp b0 G 123 Br:=by
 intro (n:Int) (hn:Bq n) w β ro eI aa ae aq aT bD
 let cO:=0
 have h3:eI.getD 0 undef= .int .i64 n:=bp.val (ae 0 _ rfl)
 have tL:eI= #[.int .i64 n]:=by
  have ah:eI.size=1:=aa
  apply Array.ext
  ·simpa using ah
  ·intro i vx jF
   have:i=0:=by omega
   subst this;simpa[Array.getD,ah]using h3
 rw[tL]
 refine Calls.mono (Any.strconv_Itoa Tryz.Vn n hn.1 hn.2 w (Vp aT x8 (by kernel_rfl))) fun e w' ⟨he,k,os,hw⟩=>?_
 subst hw
 have hold: ∀b,b<w.heap.size→(Sort.grow (w.drewN k) os).heap[b]? =w.heap[b]? :=fun b ad=>by
  show(w.heap++os)[b]? =_;rw[Array.getElem?_append_left ad]
 have bJ:w.heap.size≤(Sort.grow (w.drewN k) os).heap.size:=by
  show w.heap.size≤(w.heap++os).size;simp
 refine⟨_,_,[],β,ro,cO,he,rfl,?_,⟨by simp[aE],by simp[aE],fun b _=>jH β b,fun b ad=>Nat.lt_of_lt_of_le (aq.lt b ad) bJ⟩,⟨rfl,rfl,rfl,bJ,fun b ad _=>hold b ad,fun _ h=>.inl h,fun _ h=>h,fun b h=>absurd h (jH β b),fun _ _ o ag=>(by simp[aE]at ag),fun _ o ag=>(by simp[aE]at ag),Nat.le_refl _⟩⟩
 rw[←Fb hn]
 exact .fK rfl
theorem rT{n:Int}(h:gU n):IntKind.wrap .i64 n=n:=by
 obtain⟨aa,ae⟩:=h
 simp only[IntKind.wrap,IntKind.bits,IntKind.signed]
 simp
 omega
theorem Fe: ∀(f u:Nat),(pk f u).length≤f
 |0,_=>Nat.le_refl _
 |f+1,u=>by
  unfold pk
  cases Nat.blt u 10 with
  |true=>simp
  |false=>
   have:=Fe f (u/ 10)
   simp;omega
theorem Eu(n:Int):(fI n).size≤21:=by
 unfold fI
 show(List.toArray _).size≤21
 rw[List.size_toArray]
 cases decide (n<0)with
 |true=>have:=Fe 20 n.natAbs;simp;omega
 |false=>have:=Fe 20 n.toNat;simp;omega
theorem Ff(a b:List UInt8):ByteArray.append ⟨a.toArray⟩ ⟨b.toArray⟩=⟨(a++b).toArray⟩:=by
 show(⟨a.toArray⟩++⟨b.toArray⟩:ByteArray)=_
 apply ByteArray.ext
 rw[ByteArray.data_append]
 simp
theorem vy{n:Int}(h:gU n)(aS:0≤n):fI n=⟨(Lib.decDigits n.toNat).toArray⟩:=by
 rw[Fb h]
 unfold Lib.itoa
 rw[if_neg (by omega)]
theorem Fg{n:Int}(h:gU n)(aS:n<0):fI n=⟨(45::Lib.decDigits n.natAbs).toArray⟩:=by
 rw[Fb h]
 unfold Lib.itoa
 rw[if_pos aS]
theorem Nf{u:Nat}(h:u<10):Lib.decDigits u=[UInt8.ofNat (48+u)]:=by rw[Lib.decDigits,dif_pos h]
theorem Ng{u:Nat}(h:10≤u):Lib.decDigits u=Lib.decDigits (u/ 10)++Lib.decDigits (u%10):=by
 rw[Lib.decDigits,dif_neg (by omega),Nf (u:=u%10) (by omega)]
def jI(n:Int):Nat:=2*n.natAbs+(bif decide (n<0)then 1 else 0)
noncomputable def x9(k:Nat):List aW:=[⟨[.int .i64],[.str],some fun n=>gU n∧jI n<k,fun n=>fI n⟩]
def Nh:List hR:=[⟨52,0,[.int .i64],[.str],false⟩]
noncomputable def t52:az:=Bs b0 (oc.all b0 ya) ya (60,108,5) [] Nh 16 52 (hj 0 [.int .i64]) (qz 1)
def Fh(x0:Int):ByteArray:=
 bif((decide (x0<0))&&(decide (x0>(-10))))then
  (ByteArray.append (⟨#[45]⟩:ByteArray) (fI (IntKind.wrap .i64 (0-x0))))
 else
  bif(decide (x0<0))then
   (ByteArray.append (fI (aZ .quo .i64 x0 (10:Int))) (fI (IntKind.wrap .i64 (0-(aZ .rem .i64 x0 (10:Int))))))
  else
   bif(decide (x0>9))then
    (ByteArray.append (fI (aZ .quo .i64 x0 (10:Int))) (fI (aZ .rem .i64 x0 (10:Int))))
   else
    (bytesOf ([(IntKind.wrap .u8 (IntKind.wrap .i64 ((48:Int)+x0)))]:List Int))
def Ni(k:Nat)(x0:Int):Prop:=
 (((decide (x0<0))&&(decide (x0>(-10))))=true→(
  let v4:Int:=IntKind.wrap .i64 (0-x0)
  (gU v4∧jI v4<k)∧
  ByteArray.size (⟨#[45]⟩:ByteArray)+ByteArray.size (fI v4)≤9223372036854775807))∧(((decide (x0<0))&&(decide (x0>(-10))))=false→(
  ((decide (x0<0))=true→(
   let v5:Int:=aZ .quo .i64 x0 (10:Int)
   (gU v5∧jI v5<k)∧
   let bK:Int:=IntKind.wrap .i64 (0-(aZ .rem .i64 x0 (10:Int)))
   (gU bK∧jI bK<k)∧
   ByteArray.size (fI v5)+ByteArray.size (fI bK)≤9223372036854775807))∧((decide (x0<0))=false→(
   ((decide (x0>9))=true→(
    let v6:Int:=aZ .quo .i64 x0 (10:Int)
    (gU v6∧jI v6<k)∧
    let bK:Int:=aZ .rem .i64 x0 (10:Int)
    (gU bK∧jI bK<k)∧
    ByteArray.size (fI v6)+ByteArray.size (fI bK)≤9223372036854775807))))))
theorem yb{n:Int}(h:0≤n):jI n=2*n.toNat:=by
 unfold jI
 rw[decide_eq_false (by omega),cond_false]
 omega
theorem Fi{n:Int}(h:n<0):jI n=2*n.natAbs+1:=by
 unfold jI
 rw[decide_eq_true h,cond_true]
theorem Nj{n:Int}(h:0≤n):n.tdiv 10=((n.toNat/ 10:Nat):Int)∧n.tmod 10=((n.toNat%10:Nat):Int):=by
 obtain⟨m,rfl⟩: ∃m:Nat,n=m:=⟨_,(Int.toNat_of_nonneg h).symm⟩
 exact⟨rfl,rfl⟩
theorem Nk{n:Int}(h:n<0):n.tdiv 10= -((n.natAbs/ 10:Nat):Int)∧n.tmod 10= -((n.natAbs%10:Nat):Int):=by
 obtain⟨m,rfl⟩: ∃m:Nat,n= -(m:Int):=⟨n.natAbs,by omega⟩
 rw[Int.neg_tdiv,Int.neg_tmod,Int.natAbs_neg,Int.natAbs_natCast]
 exact⟨rfl,rfl⟩
theorem Vt{k:Nat}{x:Int}(h:gU x)(aj:jI x<k+1):Ni k x:=by
 have ah:=fun n=>Eu n
 obtain⟨aa,ae⟩:=h
 refine⟨fun hc=>?_,fun hc=>⟨fun hd=>?_,fun hd he=>?_⟩⟩
 ·simp only[Bool.and_eq_true,decide_eq_true_eq]at hc
  have hw:IntKind.wrap .i64 (0-x)=0-x:=rT ⟨by omega,by omega⟩
  show(gU _∧jI _<k)∧_;rw[hw];rw[Fi hc.1]at aj;refine⟨⟨⟨by omega,by omega⟩,by rw[yb (by omega)];omega⟩,?_⟩
  have:=ah (0-x)
  have rN:ByteArray.size (⟨#[45]⟩:ByteArray)=1:=rfl
  omega
 ·have hd:=of_decide_eq_true hd
  simp only[Bool.and_eq_false_iff,decide_eq_false_iff_not]at hc;obtain⟨dh,dv⟩:=Nk hd
  have hw:aZ .quo .i64 x 10= -((x.natAbs/ 10:Nat):Int):=by
   show IntKind.wrap .i64 (x.tdiv 10)=_;rw[dh];exact rT ⟨by omega,by omega⟩
  have av:IntKind.wrap .i64 (0-aZ .rem .i64 x 10)=((x.natAbs%10:Nat):Int):=by
   show IntKind.wrap .i64 (0-x.tmod 10)=_;rw[dv,show(0:Int)- -((x.natAbs%10:Nat):Int)=((x.natAbs%10:Nat):Int)by omega]
   exact rT ⟨by omega,by omega⟩
  show(gU (aZ .quo .i64 x 10)∧jI (aZ .quo .i64 x 10)<k)∧(gU (IntKind.wrap .i64 (0-aZ .rem .i64 x 10))∧jI (IntKind.wrap .i64 (0-aZ .rem .i64 x 10))<k)∧ByteArray.size (fI (aZ .quo .i64 x 10))+ByteArray.size (fI (IntKind.wrap .i64 (0-aZ .rem .i64 x 10)))≤_;rw[hw,av];rw[Fi hd]at aj;refine⟨⟨⟨by omega,by omega⟩,by rw[Fi (by omega)];omega⟩,⟨⟨by omega,by omega⟩,by rw[yb (by omega)];omega⟩,?_⟩
  have bB:=ah (-((x.natAbs/ 10:Nat):Int))
  have a2:=ah ((x.natAbs%10:Nat):Int)
  omega
 ·have hd:=of_decide_eq_false hd
  have he:=of_decide_eq_true he
  obtain⟨dh,dv⟩:=Nj (n:=x) (by omega)
  have hw:aZ .quo .i64 x 10=((x.toNat/ 10:Nat):Int):=by
   show IntKind.wrap .i64 (x.tdiv 10)=_;rw[dh];exact rT ⟨by omega,by omega⟩
  have av:aZ .rem .i64 x 10=((x.toNat%10:Nat):Int):=dv
  show(gU (aZ .quo .i64 x 10)∧jI (aZ .quo .i64 x 10)<k)∧(gU (aZ .rem .i64 x 10)∧jI (aZ .rem .i64 x 10)<k)∧ByteArray.size (fI (aZ .quo .i64 x 10))+ByteArray.size (fI (aZ .rem .i64 x 10))≤_;rw[hw,av];rw[yb (by omega)]at aj
  refine⟨⟨⟨by omega,by omega⟩,by rw[yb (by omega)];omega⟩,⟨⟨by omega,by omega⟩,by rw[yb (by omega)];omega⟩,?_⟩
  have bB:=ah ((x.toNat/ 10:Nat):Int)
  have a2:=ah ((x.toNat%10:Nat):Int)
  omega
theorem Vu{x:Int}(h:gU x):Fh x=fI x:=by
 obtain⟨aa,ae⟩:=h
 unfold Fh
 by_cases hn:x<0
 ·rw[decide_eq_true hn,Bool.true_and,cond_true]
  obtain⟨dh,dv⟩:=Nk hn
  by_cases x6:x> -10
  ·have hw:IntKind.wrap .i64 (0-x)=0-x:=rT ⟨by omega,by omega⟩
   rw[decide_eq_true x6,cond_true,hw,vy ⟨by omega,by omega⟩ (by omega),Fg ⟨aa,ae⟩ hn,show(⟨#[45]⟩:ByteArray)=⟨[45].toArray⟩from rfl,Ff]
   rw[show(0-x).toNat=x.natAbs by omega]
   rfl
  ·have hw:aZ .quo .i64 x 10= -((x.natAbs/ 10:Nat):Int):=by
    show IntKind.wrap .i64 (x.tdiv 10)=_;rw[dh];exact rT ⟨by omega,by omega⟩
   have av:IntKind.wrap .i64 (0-aZ .rem .i64 x 10)=((x.natAbs%10:Nat):Int):=by
    show IntKind.wrap .i64 (0-x.tmod 10)=_;rw[dv,show(0:Int)- -((x.natAbs%10:Nat):Int)=((x.natAbs%10:Nat):Int)by omega]
    exact rT ⟨by omega,by omega⟩
   rw[decide_eq_false x6,cond_false,hw,av,Fg ⟨by omega,by omega⟩ (by omega),vy ⟨by omega,by omega⟩ (by omega),Fg ⟨aa,ae⟩ hn,Ff,Ng (u:=x.natAbs) (by omega)]
   rw[Int.natAbs_neg,Int.natAbs_natCast,Int.toNat_natCast];rfl
 ·rw[decide_eq_false hn,Bool.false_and,cond_false,cond_false]
  obtain⟨dh,dv⟩:=Nj (n:=x) (by omega)
  by_cases ij:x>9
  ·have hw:aZ .quo .i64 x 10=((x.toNat/ 10:Nat):Int):=by
    show IntKind.wrap .i64 (x.tdiv 10)=_;rw[dh];exact rT ⟨by omega,by omega⟩
   have av:aZ .rem .i64 x 10=((x.toNat%10:Nat):Int):=dv
   rw[decide_eq_true ij,cond_true,hw,av,vy ⟨by omega,by omega⟩ (by omega),vy ⟨by omega,by omega⟩ (by omega),vy ⟨aa,ae⟩ (by omega),Ff,Ng (u:=x.toNat) (by omega)]
   rw[Int.toNat_natCast,Int.toNat_natCast]
  ·rw[decide_eq_false ij,cond_false,vy ⟨aa,ae⟩ (by omega),Nf (by omega)]
   have:x=0∨x=1∨x=2∨x=3∨x=4∨x=5∨x=6∨x=7∨x=8∨x=9:=by omega
   rcases this with rfl|rfl|rfl|rfl|rfl|rfl|rfl|rfl|rfl|rfl<;>decide
theorem Nl{G:aY}: ∀k:Nat,cp b0 G 52 ⟨[.int .i64],[.str],some fun n=>gU n∧jI n<k,fun n=>fI n⟩
 |0=>fun _ hx=>absurd hx.2 (Nat.not_lt_zero _)
 |k+1=>Vv (M:=x9 k) (Fj (Z:=(60,108,5)) (B:=[]) (C:=Nh) Nn Nd (fun _ h=>nomatch h) (po.cons ⟨rfl,rfl,Nl k,fun h=>by cases h⟩ po.nil) 16) t52 rfl (by kernel_rfl)
  (fun x hx=>by
   have e:vz (x9 k) t52 (fY 0 (dj [.int .i64] x))=Ni k x:=by kernel_rfl
   show vz (x9 k) t52 (fY 0 (dj [.int .i64] x));rw[e]
   exact Vt hx.1 hx.2)
  (fun x hx=>by
   have e:vA (x9 k) t52 [.str] (fY 0 (dj [.int .i64] x))=Fh x:=by kernel_rfl
   show vA (x9 k) t52 [.str] (fY 0 (dj [.int .i64] x))=fI x;rw[e]
   exact Vu hx.1)
theorem Fk{G:aY}:cp b0 G 52 Bt:=fun x hx=>Nl (jI x+1) x ⟨hx,Nat.lt_succ_self _⟩
end Go.aL
