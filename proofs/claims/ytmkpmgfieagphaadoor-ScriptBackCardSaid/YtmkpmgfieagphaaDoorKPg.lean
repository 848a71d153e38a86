/- Contracts by hand: strconv.Itoa and strings.Builder.String (of the shelf), homehubref01.Digits (by induction). Conditions: none. -/
import Derived.Shelf.Strconv.Itoa3
import Derived.Shelf.Strings.Builder1
import Derived.Test.YtmkpmgfieagphaaDoorKTEf
import Derived.Test.YtmkpmgfieagphaaDoorKPn
namespace Go.Proofs
open Go.Shelf
def Tryd.IZ:Go.Shelf.Ren:=⟨fun|169=>24|n=>n,fun|70=>61|9=>9|0=>0|72=>64|37=>62|127=>88|3=>3|5=>5|n=>n,fun|n=>n⟩
theorem Tryd.I0:Go.Proofs.Lays.n169 Tryd.prog Tryd.IZ:={
 mixed:=by kernel_rfl
 f169:=Tryd.func24.trans (congrArg some (by kernel_rfl))
 t0:=Tryd.underlying0
 a0:=Tryd.isAgg0
 z0:=Tryd.sizeOf0
 v0:=Tryd.zeroValue0
 t3:=Tryd.underlying3
 a3:=Tryd.isAgg3
 z3:=Tryd.sizeOf3
 v3:=Tryd.zeroValue3
 t9:=Tryd.underlying9
 a9:=Tryd.isAgg9
 z9:=Tryd.sizeOf9
 v9:=Tryd.zeroValue9
 t37:=Tryd.underlying62
 a37:=Tryd.isAgg62
 z37:=Tryd.sizeOf62
 v37:=Tryd.zeroValue62
 t70:=Tryd.underlying61
 a70:=Tryd.isAgg61
 z70:=Tryd.sizeOf61
 v70:=Tryd.zeroValue61
 t72:=Tryd.underlying64
 a72:=Tryd.isAgg64
 z72:=Tryd.sizeOf64
 v72:=Tryd.zeroValue64
 t127:=Tryd.underlying88
 a127:=Tryd.isAgg88
 z127:=Tryd.sizeOf88
 v127:=Tryd.zeroValue88}
def Tryd.QL:Go.Shelf.Ren:=⟨fun|171=>40|243=>61|246=>73|283=>77|284=>78|285=>79|286=>80|129=>83|317=>82|318=>84|319=>85|320=>86|337=>87|338=>88|n=>n,fun|3=>3|9=>9|2=>2|4=>4|171=>120|0=>0|53=>103|37=>62|5=>5|173=>123|212=>126|51=>115|20=>20|213=>127|46=>87|232=>130|233=>131|n=>n,fun|17=>1|18=>2|19=>3|n=>n⟩
theorem Tryd.QM:Go.Proofs.LaysM.n171 Tryd.prog Tryd.QL:={
 mixed:=by kernel_rfl
 f129:=Tryd.func83.trans (congrArg some (by kernel_rfl))
 f171:=Tryd.func40.trans (congrArg some (by kernel_rfl))
 f243:=Tryd.func61.trans (congrArg some (by kernel_rfl))
 f246:=Tryd.func73.trans (congrArg some (by kernel_rfl))
 f283:=Tryd.func77.trans (congrArg some (by kernel_rfl))
 f284:=Tryd.func78.trans (congrArg some (by kernel_rfl))
 f285:=Tryd.func79.trans (congrArg some (by kernel_rfl))
 f286:=Tryd.func80.trans (congrArg some (by kernel_rfl))
 f317:=Tryd.func82.trans (congrArg some (by kernel_rfl))
 f318:=Tryd.func84.trans (congrArg some (by kernel_rfl))
 f319:=Tryd.func85.trans (congrArg some (by kernel_rfl))
 f320:=Tryd.func86.trans (congrArg some (by kernel_rfl))
 f337:=Tryd.func87.trans (congrArg some (by kernel_rfl))
 f338:=Tryd.func88.trans (congrArg some (by kernel_rfl))
 t0:=Tryd.underlying0
 a0:=Tryd.isAgg0
 z0:=Tryd.sizeOf0
 v0:=Tryd.zeroValue0
 t2:=Tryd.underlying2
 a2:=Tryd.isAgg2
 z2:=Tryd.sizeOf2
 v2:=Tryd.zeroValue2
 t3:=Tryd.underlying3
 a3:=Tryd.isAgg3
 z3:=Tryd.sizeOf3
 v3:=Tryd.zeroValue3
 t4:=Tryd.underlying4
 a4:=Tryd.isAgg4
 z4:=Tryd.sizeOf4
 v4:=Tryd.zeroValue4
 t5:=Tryd.underlying5
 a5:=Tryd.isAgg5
 z5:=Tryd.sizeOf5
 v5:=Tryd.zeroValue5
 t9:=Tryd.underlying9
 a9:=Tryd.isAgg9
 z9:=Tryd.sizeOf9
 v9:=Tryd.zeroValue9
 t20:=Tryd.underlying20
 a20:=Tryd.isAgg20
 z20:=Tryd.sizeOf20
 v20:=Tryd.zeroValue20
 t37:=Tryd.underlying62
 a37:=Tryd.isAgg62
 z37:=Tryd.sizeOf62
 v37:=Tryd.zeroValue62
 t46:=Tryd.underlying87
 a46:=Tryd.isAgg87
 z46:=Tryd.sizeOf87
 v46:=Tryd.zeroValue87
 t51:=Tryd.underlying115
 a51:=Tryd.isAgg115
 z51:=Tryd.sizeOf115
 v51:=Tryd.zeroValue115
 t53:=Tryd.underlying103
 a53:=Tryd.isAgg103
 z53:=Tryd.sizeOf103
 v53:=Tryd.zeroValue103
 t171:=Tryd.underlying120
 a171:=Tryd.isAgg120
 z171:=Tryd.sizeOf120
 v171:=Tryd.zeroValue120
 t173:=Tryd.underlying123
 a173:=Tryd.isAgg123
 z173:=Tryd.sizeOf123
 v173:=Tryd.zeroValue123
 t212:=Tryd.underlying126
 a212:=Tryd.isAgg126
 z212:=Tryd.sizeOf126
 v212:=Tryd.zeroValue126
 t213:=Tryd.underlying127
 a213:=Tryd.isAgg127
 z213:=Tryd.sizeOf127
 t232:=Tryd.underlying130
 a232:=Tryd.isAgg130
 z232:=Tryd.sizeOf130
 v232:=Tryd.zeroValue130
 t233:=Tryd.underlying131
 a233:=Tryd.isAgg131
 z233:=Tryd.sizeOf131
 v233:=Tryd.zeroValue131
 g17:=by kernel_rfl
 g18:=by kernel_rfl
 g19:=by kernel_rfl
 i0:=by kernel_rfl
 i2:=by kernel_rfl
 i3:=by kernel_rfl
 i4:=by kernel_rfl
 i5:=by kernel_rfl
 i9:=by kernel_rfl
 i20:=by kernel_rfl
 i37:=by kernel_rfl
 i46:=by kernel_rfl
 i51:=by kernel_rfl
 i53:=by kernel_rfl
 i171:=by kernel_rfl
 i173:=by kernel_rfl
 i212:=by kernel_rfl
 i232:=by kernel_rfl
 i233:=by kernel_rfl
 m17:=by kernel_rfl
 m18:=by kernel_rfl
 m19:=by kernel_rfl}
theorem Tryd.I1:Builder.Extra Tryd.prog Tryd.IZ:={
 sizeBuilder:=by kernel_rfl
 liesBuilder:=by kernel_rfl
 t5:=Tryd.underlying5
 a5:=Tryd.isAgg5
 z5:=Tryd.sizeOf5
 v5:=Tryd.zeroValue5
 infoByte:=by kernel_rfl
 cellsByte:=by kernel_rfl
 sizeByte:=by kernel_rfl
 neB5:=by decide}
end Go.Proofs
open Go Go.aG Go.du Go.Proofs
namespace Go.aG
theorem Cn: ∀(f u:Nat),u<10^(f+1)→fq (f+1) u=Lib.decDigits u
 |f,u,h=>by
  rw[Lib.decDigits];unfold fq
  by_cases hu:u<10
  ·rw[dif_pos hu,iS hu,cond_true]
  ·have ad:Nat.blt u 10=false:=by cases ad:Nat.blt u 10 with|true=>exact absurd (eF ad) hu|false=>rfl
   rw[dif_neg hu,ad,cond_false]
   cases f with
   |zero=>exact absurd h (by omega)
   |succ f=>rw[Cn f (u/ 10) (by rw[Nat.pow_succ]at h;omega)]
theorem QN{n:Int}(h:vr n):fr n=⟨(Lib.itoa n).toArray⟩:=by
 obtain⟨aa,af⟩:=h
 unfold fr Lib.itoa
 by_cases hn:n<0
 ·rw[decide_eq_true hn,cond_true,if_pos hn,Cn 19 _ (by omega)]
 ·rw[decide_eq_false hn,cond_false,if_neg hn,Cn 19 _ (by omega)]
def QO(G:aY)(g:Nat):Prop:=G g=some (Lib.pow10Tab.map fun z=>ba.v (.int .u64 z))
theorem QP{P:Program}{w:World}{ro:Nat→Prop}{G:aY}{g:Nat}{zs:List Int}{k:IntKind}{name:String}(ag:oN w ro G)(aB:G g=some (zs.map fun z=>ba.v (.int k z)))(hn:P.globalNamed name=some g):Lib.TabIs P w name k zs:=by
 obtain⟨aa,af,arr,t,oO,ar,aQ⟩:=ag g _ aB
 unfold Lib.TabIs World.var?
 rw[hn]
 simp only[Option.bind_some,ar,Option.some.injEq]
 rw[List.length_map]at aQ
 apply Array.ext
 ·simp[aQ]
 ·intro i hi fZ
  cases aa with
  |ptr _ _ c dx dG=>
   have QQ:i<zs.length:=by omega
   have hx:(zs.map fun z=>ba.v (.int k z))[i]? =some (.v (.int k zs[i])):=by rw[List.getElem?_map,List.getElem?_eq_getElem QQ];rfl
   have bN:=(dx i _ hx).2
   have a2:=dG i _ hx
   generalize c i=ci at bN a2
   cases a2
   rw[addLit,Nat.zero_add,cell_of_row w g i arr t oO ar]at bN
   have:arr[i]? =some (.int k zs[i]):=by simpa using bN
   rw[Array.getElem?_eq_getElem hi]at this
   simpa using this
theorem QR{G:aY}:vE cN G 24 64 5:=⟨fun hid ae=>QS Tryd.I0 Tryd.I1 hid ae,fun hid=>QT Tryd.I0 Tryd.I1 hid⟩
theorem Co{G:aY}(vF:QO G 1):df cN G 40 yU:=by
 intro (n:Int) (hn:vr n) w β ro ek aa af ar aQ bx
 let cy:=0
 have hr:ek.getD 0 undef= .int .i64 n:=bk.val (af 0 _ rfl)
 have rG:ek= #[.int .i64 n]:=by
  have ah:ek.size=1:=aa
  apply Array.ext
  ·simpa using ah
  ·intro i s7 h1
   have:i=0:=by omega
   subst this;simpa[Array.getD,ah]using hr
 rw[rG]
 refine Calls.mono (Any.strconv_Itoa Tryd.QM n hn.1 hn.2 w (QP aQ vF (by kernel_rfl))) fun e w' ⟨he,k,os,hw⟩=>?_
 subst hw
 have hold: ∀b,b<w.heap.size→(Sort.grow (w.drewN k) os).heap[b]? =w.heap[b]? :=fun b ad=>by
  show(w.heap++os)[b]? =_;rw[Array.getElem?_append_left ad]
 have bA:w.heap.size≤(Sort.grow (w.drewN k) os).heap.size:=by
  show w.heap.size≤(w.heap++os).size;simp
 refine⟨_,_,[],β,ro,cy,he,rfl,?_,⟨by simp[aA],by simp[aA],fun b _=>iT β b,fun b ad=>Nat.lt_of_lt_of_le (ar.lt b ad) bA⟩,⟨rfl,rfl,rfl,bA,fun b ad _=>hold b ad,fun _ h=>.inl h,fun _ h=>h,fun b h=>absurd h (iT β b),fun _ _ o ag=>(by simp[aA]at ag),fun _ o ag=>(by simp[aA]at ag),Nat.le_refl _⟩⟩
 rw[←QN hn]
 exact .fw rfl
theorem Cp: ∀(f u:Nat),(fq f u).length≤f
 |0,_=>Nat.le_refl _
 |f+1,u=>by
  unfold fq
  cases Nat.blt u 10 with
  |true=>simp
  |false=>
   have:=Cp f (u/ 10)
   simp;omega
theorem P9(n:Int):(fr n).size≤21:=by
 unfold fr
 show(List.toArray _).size≤21
 rw[List.size_toArray]
 cases decide (n<0)with
 |true=>have:=Cp 20 n.natAbs;simp;omega
 |false=>have:=Cp 20 n.toNat;simp;omega
end Go.aG
