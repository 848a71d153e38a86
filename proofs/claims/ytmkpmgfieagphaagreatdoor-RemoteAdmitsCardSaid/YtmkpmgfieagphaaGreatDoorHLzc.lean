/- Can and Admit of the reference: no fault. Conditions: none. -/
import Derived.Test.YtmkpmgfieagphaaGreatDoorHLzb
namespace Go.aN
open Go Go.eg
def oY(h:Home):Prop:=h.bq.length≤100∧h.a8.length≤30
theorem Iw{h:Home}(a6:oY h)(x:Int):uK h x:=by
 obtain⟨_,ae⟩:=a6
 exact⟨by omega,by omega⟩
theorem zbW{h:Home}(a6:oY h)(x:ByteArray):Ix h x:=by
 obtain⟨_,ae⟩:=a6
 exact⟨by omega,by omega⟩
theorem zbX{h:Home}(a6:oY h)(k:cd):DH h k:=Rh (by have:=a6.1;omega) (by have:=a6.2;omega) k
theorem RO{h:Home}{x:Int}(ax:decide (hl h x<0)=false):0≤hl h x∧hl h x<(h.a8.length:Int):=by
 rw[DD]at ax⊢
 cases hf:bH (m1 h x) h.a8.length with
 |none=>rw[hf]at ax;cases ax
 |some i=>
  have:=(gp hf).1
  dsimp only;omega
theorem zbY{h:Home}(a6:oY h)(x:Int):Iy h x:=by
 refine⟨Iw a6 x,?_⟩
 intro v3
 have J: ∀z:Int,(v3||(z != 0))=false→0≤hl h x∧hl h x<(h.a8.length:Int):=fun z aT=>by
  rw[Bool.or_eq_false_iff]at aT;exact RO aT.1
 exact⟨fun _=>J _,fun _=>⟨wN h,J _⟩⟩
theorem zbZ{h:Home}(a6:oY h){m:br}(hm:m.dj.length≤1000000)(x:Int):DI h m x:=
 ⟨⟨by omega,by omega⟩,fun _ _=>True,trivial,fun _ _ _ _=>⟨zbY a6 x,fun _=>trivial⟩⟩
theorem zb0{h:Home}(a6:oY h)(x:Int):Iz h x:=by
 refine⟨Iw a6 x,wN h,fun ax=>?_⟩
 rw[Bool.or_eq_false_iff]at ax
 obtain⟨aT,ax⟩:=ax
 have aJ:=jc aT
 rw[sE]at aJ
 obtain⟨dI,eO⟩:=RO ax
 have hi:Int.toNat (hl h x)<h.a8.length:=by omega
 have aq:=Da aJ
 have aR:=Rq (Db (by omega) (C9 aJ _ hi)).2
 refine⟨⟨dI,eO⟩,⟨by omega,by omega⟩,fun k d=>d.length≤12*k,Nat.zero_le _,fun i d aj hd=>?_⟩
 rw[toNat_cast]at aj
 have eu:i<((h.a8.getD (Int.toNat (hl h x)) (aw .bA)).bq).length:=aj
 have hd:d.length≤12*i:=hd
 obtain⟨c,hc⟩:=zI aJ hi (RJ eu)
 obtain⟨aM,_,_⟩:=gp hc
 have hx:j3 h ((h.a8.getD (Int.toNat (hl h x)) (aw .bA)).bq.getD (Int.toNat (i:Int)) (aw .str))=(c:Int):=by rw[toNat_cast,sC,hc]
 have zaX:=Rr (zD (sG aJ) c aM).1.wide
 dsimp only
 rw[hx,toNat_cast c]
 refine⟨HN (by have:=a6.1;omega) _,⟨by omega,by omega⟩,⟨by omega,by omega⟩,fun j e=>e.length≤12*i+j,by show d.length≤_;omega,fun j e af he=>?_,fun j5 hc=>?_⟩
 ·rw[toNat_cast]at af
  have he:e.length≤12*i+j:=he
  refine⟨?_,?_⟩
  ·show e.length+1≤maxLen∧(e.length+1)*40≤140737488355328
   unfold maxLen;omega
  ·show(List.append e [_]).length≤_
   rw[Rs];omega
 ·rw[toNat_cast]at hc
  have hc:j5.length≤12*i+(h.bq.getD c (aw .aO)).attrs.length:=hc
  show j5.length≤12*(i+1);omega
theorem zb1{h:Home}(a6:oY h)(q:bQ):Aj h q:=by
 unfold Aj
 repeat' (first|exact trivial|exact zbX a6 _|exact zb0 a6 _|intro _|refine And.intro ?_ ?_|refine Exists.intro (fun _ _=>True) (And.intro trivial ?_))
theorem RP{h:Home}(a6:oY h)(m:br):Ak h m:=by
 unfold Ak
 repeat' (first|exact trivial|exact oN _|exact zbW a6 _|intro _|refine And.intro ?_ ?_|refine Exists.intro (fun _ _=>True) (And.intro trivial ?_))
theorem RQ{h:Home}(a6:oY h)(l:List br):DJ h l:=by
 refine⟨wN h,fun _=>wN h,fun _ _=>⟨fun _ _=>True,trivial,fun i _ hi _=>?_⟩⟩
 rw[toNat_cast]at hi
 exact⟨oN _,fun _=>⟨sA (by omega) (by omega),fun _=>⟨RP a6 _,fun _=>RP a6 _,fun _=>trivial⟩⟩⟩
theorem zb2{h:Home}(a6:oY h){l:List br}(aq:uy l)(x:ByteArray)(n:Int)(q:bQ):IA h l x n q:=by
 refine⟨RQ a6 l,fun _=>RQ a6 l,fun _=>?_⟩
 intro bw ax v9
 have ag:0≤bw∧bw<(l.length:Int):=by
  have ax:decide (qa l x<0)=false:=ax
  show 0≤qa l x∧qa l x<(l.length:Int);rw[Iu]at ax⊢
  cases hf:bH (lJ l x) l.length with
  |none=>rw[hf]at ax;cases ax
  |some i=>
   have:=(gp hf).1
   dsimp only;omega
 have gm:v9.dj.length≤1000000:=(aq _ (zq (by omega))).2
 refine⟨ag,fun _=>?_⟩
 intro bS dp aI
 have J: ∀z,aI z:=by
  intro z _
  have K: ∀b:Bool,b=true→(uK h q.key.dev)∧((decide ((hl h q.key.dev)<0))=false→((DI h v9 q.key.dev)∧((!(w1 h v9 q.key.dev))=false→(Aj h q)))):=fun b _=>⟨Iw a6 _,fun _=>⟨zbZ a6 gm _,fun _=>zb1 a6 q⟩⟩
  exact⟨fun _=>K _,fun _=>K _⟩
 exact⟨fun _=>⟨fun _=>J _,fun _=>J _⟩,fun _=>J _⟩
theorem zb3(n:Int){x:ByteArray}(hx:je x)(now:Int)(l:List Int):DK n x now l:=by
 have h:=zbo n hx
 unfold DK
 repeat' (first|exact trivial|exact h|intro _|refine And.intro ?_ ?_|refine Exists.intro (fun _ _=>True) (And.intro trivial ?_))
theorem Yo{c:Config}{ms:List br}{ws:List aX}{av:List Int}{a:gl}{now hb:Int}(tU:v7 ws)(aq:ws.length≤1000000)(aH:je a.token):m32 c ms ws av a now hb=l8 c ms ws av a now hb:=by
 rw[Ru]
 unfold m32
 dsimp only
 obtain⟨ae,aa⟩:=zbm c.key aH now av
 rw[ae]
 cases aT:((iN c.key a.token now av).2 != 0)with
 |true=>rfl
 |false=>
  rw[aa (jc aT)];generalize iN c.key a.token now av=v
  show(bif(uw c.home a.request) != 0 then((⟨#[]⟩:ByteArray),ws,uw c.home a.request)else bif(uJ c.home ms v.1.cq hb a.request) != 0 then(⟨#[]⟩,ws,uJ c.home ms v.1.cq hb a.request)else bif !(uD (uA ws v.1.cq) a.request.dO).2 then(⟨#[]⟩,ws,18)else(v.1.cq,z8 ws v.1.cq (uD (uA ws v.1.cq) a.request.dO).1,0))=(bif(oT c.home a.request) != 0 then((⟨#[]⟩:ByteArray),ws,oT c.home a.request)else
  bif(oV c.home ms v.1.cq hb a.request) != 0 then(⟨#[]⟩,ws,oV c.home ms v.1.cq hb a.request)else zS ws v.1.cq a.request.dO)
  unfold zS;rw[zaA,zbV,Rw,zbw (Qg tU _),zbH aq,Ys]
theorem Yh{c:Config}{ms:List br}{ws:List aX}{av:List Int}{a:gl}{now hb:Int}(a6:oY c.home)(hm:uy ms)(tU:v7 ws)(aq:ws.length≤1000000)(aH:je a.token)(ak:zJ c.home a.request):IB c ms ws av a now hb:=by
 refine⟨⟨?_,?_⟩,zb3 _ aH _ _,fun _=>⟨ak,fun _=>⟨zb2 a6 hm _ _ _,fun _=>⟨?_,fun _=>zbI aq _ _⟩⟩⟩⟩
 ·show 0+ws.length≤maxLen
  unfold maxLen;omega
 ·show(0+ws.length)*32≤140737488355328
  omega
 ·rw[Rw]
  exact zby (Qg tU _) _
end Go.aN
