/- Tokens: what they ask. Conditions: none. -/
import Derived.Test.YtmkpmgfieagphaaGreatDoorQLl
import Derived.Test.YtmkpmgfieagphaaGreatDoorQPn
import Derived.Test.YtmkpmgfieagphaaGreatDoorQTEk
namespace Go.aK
open Go Go.eO
theorem Fu{b:ByteArray}{a c:Option Int}:(m9 b a c).size≤b.size:=by
 cases a<;>cases c<;>simp only[m9,ByteArray.size_extract]<;>omega
theorem Ya(x:ByteArray)(z:Int): ∃n:Nat,ew x z=(n:Int)∧n<256:=⟨_,rfl,UInt8.toNat_lt _⟩
theorem Yb{R A B:Type}{Q:B→Prop}{f:R→B}{g:A→B}{l:R⊕A}(aa: ∀r,l= .inl r→Q (f r))(ae: ∀a,l= .inr a→Q (g a)):Q (Sum.elim f g l):=by
 cases l with
 |inl r=>exact aa r rfl
 |inr a=>exact ae a rfl
theorem Yc{R A:Type}{b:A→Step R A}{Q:R→Prop}(h: ∀a r,b a= .ret r→Q r): ∀(n:Nat) (a:A) (r:R),c5 b n a= .inl r→Q r:=by
 intro n
 induction n with
 |zero=>intro a r h;simp[c5]at h
 |succ n aZ=>
  intro a r ag;unfold c5 at ag
  split at ag
  ·rename_i eP ad
   cases ag;exact h _ _ ad
  ·cases ag
  ·exact aZ _ _ ag
theorem Yd{R A:Type}{b:A→Step R A}{I:A→Prop}(h: ∀a,I a→(∀bc,b a= .bq bc→I bc)∧∀bc,b a= .cK bc→I bc): ∀(n:Nat) (a bc:A),I a→c5 b n a= .inr bc→I bc:=by
 intro n
 induction n with
 |zero=>intro a bc bW h;simp[c5]at h;exact h ▸ bW
 |succ n aZ=>
  intro a bc bW ag;unfold c5 at ag
  split at ag
  ·cases ag
  ·rename_i a2 ad
   cases ag;exact(h a bW).2 _ ad
  ·rename_i a2 ad
   exact aZ _ _ ((h a bW).1 _ ad) ag
theorem Ol(z:Int):yd z:=by
 unfold yd
 decide
theorem Om(l:List Int)(v:Int):(List.append l [v]).length=l.length+1:=by
 show(l++[v]).length=_
 rw[List.length_append]
 rfl
theorem Ye{x:ByteArray}(hx:fz x):Bl x:=by
 unfold fz at hx
 unfold Bl
 intro v1 h
 have h:(bu .rem .i64 (x.size:Int) 2 != 0)=false:=h
 have h:(x.size:Int).tmod 2=0:=by simpa[bu]using h
 have aJ:bu .quo .i64 (x.size:Int) 2=((x.size/ 2:Nat):Int):=by
  show IntKind.wrap .i64 ((x.size:Int).tdiv 2)=_;rw[Int.tdiv_eq_ediv_of_nonneg (by omega),rN _ (by omega) (by omega)]
  omega
 refine⟨?_,fun d=>0≤d.1∧d.1≤(x.size:Int)∧d.1%2=0∧(d.2.length:Int)≤d.1,fun d=>x.size-d.1.toNat,⟨Int.le_refl _,by show(0:Int)≤_;omega,rfl,Int.le_refl _⟩,?_,?_⟩
 ·show 0≤(0:Int)∧(0:Int)≤bu .quo .i64 (x.size:Int) 2∧bu .quo .i64 (x.size:Int) 2≤(maxLen:Int)∧(1:Int)*bu .quo .i64 (x.size:Int) 2≤281474976710656
  rw[aJ];unfold maxLen;omega
 ·show x.size-Int.toNat 0<18446744073709551616
  omega
 ·intro d0 hd
  obtain⟨d1,d2,d3,d4⟩:=hd;intro bI
  have bI:d0.1<(x.size:Int):=of_decide_eq_true bI
  rw[Int.tmod_eq_emod_of_nonneg (by omega)]at h
  have dk:IntKind.wrap .i64 (d0.1+1)=d0.1+1:=rN _ (by omega) (by omega)
  have eu:IntKind.wrap .i64 (d0.1+2)=d0.1+2:=rN _ (by omega) (by omega)
  refine⟨⟨d1,bI⟩,?_,Ol _,Ol _,fun _=>⟨⟨?_,?_⟩,⟨?_,?_,?_,?_⟩,?_⟩⟩
  ·show 0≤IntKind.wrap .i64 (d0.1+1)∧IntKind.wrap .i64 (d0.1+1)<_
   rw[dk];omega
  ·show d0.2.length+1≤maxLen
   unfold maxLen;omega
  ·show(d0.2.length+1)*1≤_
   omega
  ·show 0≤IntKind.wrap .i64 (d0.1+2)
   rw[eu];omega
  ·show IntKind.wrap .i64 (d0.1+2)≤_
   rw[eu];omega
  ·show IntKind.wrap .i64 (d0.1+2)%2=0
   rw[eu];omega
  ·show((List.append d0.2 [_]).length:Int)≤IntKind.wrap .i64 (d0.1+2)
   rw[eu,Om];omega
  ·show x.size-(IntKind.wrap .i64 (d0.1+2)).toNat<x.size-d0.1.toNat
   rw[eu];omega
theorem Yf{x:ByteArray}(hx:fz x):(n9 x).1.size≤x.size+1:=by
 unfold fz at hx
 unfold n9
 dsimp only
 cases ((bu .rem .i64 (x.size:Int) (2:Int)) != 0)with
 |true=>exact Nat.zero_le _
 |false=>
  simp only[cond_false];refine Yb (Q:=fun r:ByteArray × Int=>r.1.size≤x.size+1) (fun r ag=>?_) (fun c hc=>?_)
  ·have:r=(⟨#[]⟩,4):=by
    refine Yc (Q:=fun r=>r=(⟨#[]⟩,4)) ?_ _ _ _ ag
    intro a r h;revert h;simp only[cond_eq_ite]
    repeat' split
    ·intro h;cases h;rfl
    ·intro h;cases h
    ·intro h;cases h
   rw[this];exact Nat.zero_le _
  ·have:0≤c.1∧c.1≤(x.size:Int)+1∧(c.2.length:Int)≤c.1:=by
    refine Yd (I:=fun c:Int × List Int=>0≤c.1∧c.1≤(x.size:Int)+1∧(c.2.length:Int)≤c.1) ?_ _ _ _ ⟨Int.le_refl _,by show(0:Int)≤_;omega,Int.le_refl _⟩ hc
    intro a a6;obtain⟨cb,a2,a3⟩:=a6
    cases bI:decide (a.1<(x.size:Int))with
    |false=>
     simp only[cond_false];refine⟨fun bc h=>(by cases h),fun bc h=>?_⟩
     cases h;exact⟨cb,a2,a3⟩
    |true=>
     have bI:=of_decide_eq_true bI
     simp only[cond_true]
     have eu:IntKind.wrap .i64 (a.1+2)=a.1+2:=rN _ (by omega) (by omega)
     rw[eu];simp only[cond_eq_ite]
     split
     ·exact⟨fun bc h=>(by cases h),fun bc h=>(by cases h)⟩
     ·refine⟨fun bc h=>?_,fun bc h=>(by cases h)⟩
      cases h;refine⟨?_,?_,?_⟩
      ·show 0≤a.1+2;omega
      ·show a.1+2≤_;omega
      ·show((List.append a.2 [_]).length:Int)≤a.1+2
       rw[Om];omega
   show(bytesOf c.2).size≤_;rw[s6];omega
theorem fz.str{x:ByteArray}(h:fz x){a b:Option Int}:fz (m9 x a b):=by
 unfold fz at h⊢
 have:=Fu (b:=x) (a:=a) (c:=b)
 omega
theorem Yg: ∀n:Nat,n<256→(0≤bu .shr .u8 (n:Int) 4∧bu .shr .u8 (n:Int) 4<16)∧(0≤bu .and .u8 (n:Int) 15∧bu .and .u8 (n:Int) 15<16)∧(0≤bu .quo .u8 (n:Int) 16∧bu .quo .u8 (n:Int) 16<16)∧(0≤bu .rem .u8 (n:Int) 16∧bu .rem .u8 (n:Int) 16<16):=by decide+kernel
theorem Yh{d l:List Int}{k:Nat}(hd:d.length≤2*k)(ar:l.length≤2)(aj:k<1000001):(List.length d+List.length l≤maxLen∧(List.length d+List.length l)*1≤140737488355328)∧(List.append d l).length≤2*(k+1):=by
 refine⟨⟨by unfold maxLen;omega,by omega⟩,?_⟩
 show(d++l).length≤_
 rw[List.length_append]
 omega
theorem Yi{x:ByteArray}(h:x.size≤1000000):Fv x:=by
 refine⟨⟨by omega,by omega⟩,fun i d=>d.length≤2*i,Nat.zero_le _,fun i d hi hd=>?_⟩
 have hi:i<x.size:=by rwa[Int.toNat_natCast]at hi
 obtain⟨n,hn,ad⟩:=Ya x (i:Int)
 obtain⟨_,_,gL,gu⟩:=Yg n ad
 rw[hn]
 exact⟨gL,gu,Yh hd (Nat.le_refl _) (by omega)⟩
def nU(x:ByteArray):Prop:=x.size≤30000
theorem nU.vu{x:ByteArray}(h:nU x):fz x:=by unfold nU at h;unfold fz;omega
theorem vv(a b:ByteArray):ByteArray.size (ByteArray.append a b)=a.size+b.size:=ByteArray.size_append
theorem Yj{x:ByteArray}(h:x.size≤4000000):Fw x:=by
 show 0≤(x.size:Int)∧(x.size:Int)<9223372036854775808
 omega
theorem Yk(n:Int){x:ByteArray}(h:x.size≤2000000):Bm n x:=by
 unfold Bm
 simp only[vv,s6,List.length_cons,List.length_nil]
 refine⟨by omega,by omega,Yj ?_⟩
 simp only[vv,s6,List.length_cons,List.length_nil]
 omega
theorem Yl(n:Int){x:ByteArray}(h:x.size≤1000000):Fx n x:=by
 intro aQ
 have aQ:=of_decide_eq_false aQ
 have aw:IntKind.wrap .i64 ((x.size:Int)-4)=(x.size:Int)-4:=kg (by omega) (by omega)
 rw[aw]
 have ai:=Fu (b:=x) (a:=none) (c:=some ((x.size:Int)-4))
 refine⟨⟨by omega,by omega⟩,Yk n (by omega),⟨by omega,?_⟩⟩
 show((m9 x none (some ((x.size:Int)-4))).size:Int)≤(x.size:Int)
 omega
theorem Ym(n:Int)(x:ByteArray):(pC n x).1.size≤x.size:=by
 unfold pC
 dsimp only
 cases decide ((x.size:Int)<4)with
 |true=>exact Nat.zero_le _
 |false=>
  simp only[cond_false];generalize hc:cC .neq _ _=c
  cases c with
  |true=>exact Nat.zero_le _
  |false=>exact(Fu (b:=x) (a:=none) (c:=some (IntKind.wrap .i64 ((x.size:Int)-4))))
theorem Yn(n:Int){x:ByteArray}(h:nU x):Fy n x:=by
 have aa:=Yf h.vu
 have ae:=Ym n (n9 x).1
 unfold nU at h
 have ar:dY (pC n (n9 x).1).1:=by unfold dY;omega
 have ar:dY (⟨(pC n (n9 x).1).1,0,true⟩:Rd).rest:=ar
 have aA:=xU (n:=24) ar
 have nT:dY (ix ⟨(pC n (n9 x).1).1,0,true⟩ 24).1.rest:=by rw[aA];exact xS ar
 have u1:dY (gV (ix ⟨(pC n (n9 x).1).1,0,true⟩ 24).1).1.rest:=by rw[qu nT];exact po nT
 have EO:dY (gV (gV (ix ⟨(pC n (n9 x).1).1,0,true⟩ 24).1).1).1.rest:=by rw[qu u1];exact po u1
 exact⟨Ye (by unfold fz;omega),fun _=>⟨Yl n (by omega),fun _=>⟨rQ ar,n5 nT,n5 u1,n5 EO,fun _=>qw _⟩⟩⟩
theorem Yo(n:Int){x:ByteArray}(h:nU x)(now:Int)(l:List Int):Fz n x now l:=Yn n h
theorem On(n:Int):Bn n:=by
 refine⟨fun d=> -1≤d.2∧d.2≤7∧(d.1.size:Int)≤7-d.2,fun d=>(d.2+1).toNat,⟨by decide,by decide,by decide⟩,by decide,fun d hd aP=>?_⟩
 obtain⟨aa,ae,av⟩:=hd
 have aP:=of_decide_eq_true aP
 have aA:IntKind.wrap .u64 d.2=d.2:=by rw[n2];omega
 have bh:IntKind.wrap .u64 (8*d.2)=8*d.2:=by rw[n2];omega
 have ct:IntKind.wrap .i64 (d.2-1)=d.2-1:=kg (by omega) (by omega)
 simp only[aA,bh,ct,vv,s6,List.length_cons,List.length_nil]
 refine⟨by omega,by omega,⟨by omega,by omega,by omega⟩,by omega⟩
def FA(n:Int):ByteArray:=bytesOf [(IntKind.wrap .u8 (bu .shr .u64 n (56:Int))),(IntKind.wrap .u8 (bu .shr .u64 n (48:Int))),(IntKind.wrap .u8 (bu .shr .u64 n (40:Int))),(IntKind.wrap .u8 (bu .shr .u64 n (32:Int))),(IntKind.wrap .u8 (bu .shr .u64 n (24:Int))),(IntKind.wrap .u8 (bu .shr .u64 n (16:Int))),(IntKind.wrap .u8 (bu .shr .u64 n (8:Int))),(IntKind.wrap .u8 (bu .shr .u64 n (0:Int)))]
theorem Yp(n:Int):vw n=FA n:=by kernel_rfl
theorem Oo(n:Int):(FA n).size=8:=by
 unfold FA
 rw[s6]
 rfl
theorem Yq(n:Int){x:ByteArray}(h:x.size≤2000000):Bo n x:=by
 unfold Bo
 simp only[Yp,vv,Oo]
 refine⟨On n,by omega,On n,by omega,?_⟩
 show 0≤(ByteArray.size _:Int)∧(ByteArray.size _:Int)<9223372036854775808
 simp only[vv,Oo]
 omega
theorem Yr(n:Int){x:ByteArray}(h:x.size≤2000000):FB n x:=by
 refine⟨Yq n h,?_⟩
 show x.size+(ye (Bp n x)).size≤_
 unfold ye
 rw[s6]
 simp only[List.length_cons,List.length_nil]
 omega
end Go.aK
namespace Go.aK
open Go Go.eO
theorem Ys(h:Home){l:List cg}{k:Nat}(aj:k<l.length):Bq h l (k:Int):=by
 have ai:ju l.length none (some (k:Int)):=vm (by omega) (by omega)
 have aP:0≤(k:Int):=by omega
 have aa:(k:Int)<(l.length:Int):=by omega
 unfold Bq
 repeat' (first|exact trivial|exact aP|exact aa|exact ai|exact qw _|intro _|refine And.intro ?_ ?_|refine Exists.intro (fun _ _=>True) (And.intro trivial ?_))
theorem Yt(h:Home)(l:List cg):FC h l:=by
 refine⟨Fg h,fun _ _=>⟨fun _ _=>True,trivial,fun i _ hi _=>⟨Ys h (by rw[toNat_cast]at hi;omega),fun _=>trivial⟩⟩⟩
def yf(l:List cg):Prop:=∀m∈l,m.k9.length≤1000000∧m.fN.length≤1000000
theorem Yu{l:List cg}(ar:yf l)(x:ByteArray):FD l x:=by
 refine⟨fun _ _=>True,trivial,fun i _ hi _=>⟨fun _=>?_,fun _=>trivial⟩⟩
 rw[toNat_cast]at hi⊢
 obtain⟨aa,ae⟩:=ar _ (A6 (d:=aE .cg) hi)
 refine⟨?_,E7 ae⟩
 unfold FE maxLen
 omega
theorem Yv(h:Home)(x:Int):qB h x:=Fh h x
theorem Yw(h:Home)(k:dr):Br h k:=Oj h k
theorem Yx{h:Home}{d:bR}(aV:tk h d=0):d.bH.length≤4:=by
 unfold tk at aV
 dsimp only at aV
 have:=(mn (by decide) aV).1
 simp only[Bool.or_eq_false_iff,decide_eq_false_iff_not]at this
 omega
theorem Yy(h:Home)(x:Int):(lP h x).1.bH.length≤4:=by
 rw[Fo]
 cases aV:(hP h != 0)with
 |true=>exact Nat.zero_le _
 |false=>
  have aP:=lI aV
  simp only[cond_false]
  cases hf:cB (fun i=>(h.bw.getD i (aE .bR)).id==x) h.bw.length with
  |none=>exact Nat.zero_le _
  |some i=>
   have hi:=(lO hf).1
   have ar:=X8 aP
   exact Yx (X9 (by omega) (X7 aP i hi)).2
theorem Yz{h:Home}{x:Int}{i:Nat}(hi:i<(lP h x).1.bH.length):hP h=0:=by
 rw[Fo]at hi
 cases aV:(hP h != 0)with
 |true=>rw[aV]at hi;exact absurd hi (Nat.not_lt_zero _)
 |false=>exact lI aV
theorem YA{c:aN}(h:qA c=false):c.attrs.length≤12:=by
 unfold qA at h
 dsimp only at h
 rw[toNat_cast,ib (p:=fun i=>decide ((List.length ((List.getD c.commands i (aE .Command)).gC):Int)>12)) (F:=fun _=>true) (fun i u=>by simp only[toNat_cast])]at h
 cases hf:cB (fun i=>decide ((List.length ((List.getD c.commands i (aE .Command)).gC):Int)>12)) c.commands.length with
 |none=>
  rw[hf]at h;simp only[Bool.or_eq_false_iff,decide_eq_false_iff_not]at h;omega
 |some i=>rw[hf]at h;cases h
theorem YB{h:Home}(aP:hP h=0)(x:ByteArray):((jw .str (kh h) x).getD (aE .aN)).attrs.length≤12:=by
 rw[look_eq (Fm (yb aP))]
 cases hf:cB (fun i=>decide ((h.bH.getD i (aE .aN)).name=x)) h.bH.length with
 |none=>exact Nat.zero_le _
 |some i=>exact YA (Bg (yb aP) i (lO hf).1).1.wide
theorem YC{α:Type}(l:List α)(v:α):(List.append l [v]).length=l.length+1:=by
 show(l++[v]).length=_
 rw[List.length_append]
 rfl
theorem YD(h:Home)(x:Int):FF h x:=by
 refine⟨Fh h x,fun k d=>d.length≤12*k,Nat.zero_le _,fun i d hi hd=>?_⟩
 rw[toNat_cast]at hi
 have aQ:=Yy h x
 have aP:=Yz hi
 have zh5:=YB aP ((lP h x).1.bH.getD (Int.toNat (i:Int)) (aE .str))
 refine⟨fun j e=>e.length≤12*i+j,by show d.length≤_;omega,fun j e af he=>?_,fun c hc=>?_⟩
 ·rw[toNat_cast]at af
  have he:e.length≤12*i+j:=he
  refine⟨?_,?_⟩
  ·show e.length+1≤maxLen∧(e.length+1)*40≤140737488355328
   unfold maxLen;omega
  ·show(List.append e [_]).length≤_
   rw[YC];omega
 ·rw[toNat_cast]at hc
  have hc:c.length≤12*i+_:=hc
  show c.length≤12*(i+1);omega
theorem YE(h:Home)(q:b3):vx h q:=by
 unfold vx
 repeat' (first|exact trivial|exact Yw _ _|exact YD _ _|intro _|refine And.intro ?_ ?_|refine Exists.intro (fun _ _=>True) (And.intro trivial ?_))
theorem YF(h:Home)(m:cg)(w:Int)(q:b3):Bs h m w q:=by
 unfold Bs
 repeat' (first|exact trivial|exact Yv _ _|exact YE _ _|intro _|refine And.intro ?_ ?_|refine Exists.intro (fun _ _=>True) (And.intro trivial ?_))
theorem YG(h:Home){l:List cg}(ar:yf l)(x:ByteArray)(w:Int)(q:b3):FG h l x w q:=⟨Yt h l,fun _=>⟨Yu ar x,fun _=>YF _ _ _ _⟩⟩
theorem FH(l:List bA)(x:ByteArray):hq l x=match cB (fun i=>decide ((l.getD i (aE .bA)).cr=x)) l.length with
 |some i=>((i:Int),true)
 |none=>match cB (fun i=>cC .gtr (l.getD i (aE .bA)).cr x) l.length with
  |some j=>((j:Int),false)
  |none=>((l.length:Int),false):=by
 unfold hq
 dsimp only
 rw[toNat_cast,ib (p:=fun i=>decide ((l.getD i (aE .bA)).cr=x)) (F:=fun i=>((i:Int),true)) (fun i u=>by
  simp only[nW,toNat_cast]
  rw[decide_eq_true (show(i:Int)≥0 by omega),cond_true])]
 cases cB (fun i=>decide ((l.getD i (aE .bA)).cr=x)) l.length with
 |some i=>rfl
 |none=>
  dsimp only
  rw[decide_eq_false (show ¬(-1:Int)≥0 by omega),cond_false,ib (p:=fun i=>cC .gtr (l.getD i (aE .bA)).cr x) (F:=fun i=>((i:Int),false)) (fun i u=>by
   simp only[toNat_cast]
   rw[decide_eq_false (show ¬(i:Int)<0 by omega),cond_false])]
  cases cB (fun i=>cC .gtr (l.getD i (aE .bA)).cr x) l.length<;>rfl
theorem YH(l:List bA)(x:ByteArray):(0≤(hq l x).1∧(hq l x).1≤(l.length:Int))∧((hq l x).2=true→(hq l x).1<(l.length:Int)):=by
 rw[FH]
 cases hf:cB (fun i=>decide ((l.getD i (aE .bA)).cr=x)) l.length with
 |some i=>
  have:=(lO hf).1
  dsimp only;exact⟨⟨by omega,by omega⟩,fun _=>by omega⟩
 |none=>
  dsimp only
  cases ah:cB (fun i=>cC .gtr (l.getD i (aE .bA)).cr x) l.length with
  |some j=>
   have:=(lO ah).1
   dsimp only;exact⟨⟨by omega,by omega⟩,fun h=>by cases h⟩
  |none=>
   dsimp only;exact⟨⟨by omega,Int.le_refl _⟩,fun h=>by cases h⟩
theorem FI{w:dA}(h:tl w=0): -1≤w.top∧w.top≤1099511627776:=by
 unfold tl at h
 simp only[cond_eq_ite]at h
 split at h
 ·rename_i aa
  simp only[Bool.and_eq_true,beq_iff_eq]at aa;omega
 ·split at h
  ·cases h
  ·rename_i ae
   simp only[Bool.or_eq_true,decide_eq_true_eq,not_or]at ae;omega
theorem YI(w:dA):FJ w:=by
 intro _ ae v10 v11 av
 have av:=of_decide_eq_true av
 simp only[Bool.or_eq_false_iff,decide_eq_false_iff_not]at ae
 show 0≤IntKind.wrap .i64 (w.top+1)
 rw[kg (by omega) (by omega)]
 omega
theorem Oq(w:dA)(n:Int):FK w n:=by
 refine⟨YI w,fun h=>?_⟩
 simp only[Bool.or_eq_false_iff,decide_eq_false_iff_not]at h
 obtain⟨⟨⟨aa,ae⟩,av⟩,_⟩:=h
 obtain⟨t1,t2⟩:=FI (lI aa)
 refine⟨fun bL _=>?_,fun bL=>?_⟩
 ·have bL:=of_decide_eq_true bL
  show 0≤IntKind.wrap .i64 (n-w.top);rw[kg (by omega) (by omega)]
  omega
 ·have bL:=of_decide_eq_false bL
  show 0≤IntKind.wrap .i64 (w.top-n);rw[kg (by omega) (by omega)]
  omega
theorem s4{c:Config}{ms:List cg}{ws:List bA}{au:List Int}{a:fx}{now dD:Int}(hm:yf ms)(hw:ws.length≤1000000)(aH:nU a.token):pD c ms ws au a now dD:=by
 obtain⟨dF,eQ⟩:=YH ws (eI c.key a.token now au).1.cr
 unfold pD
 extract_lets bD b4 de aL dG bN
 have J: ∀z,bN z:=by
  intro z _;refine⟨fun ak=>⟨⟨dF.1,eQ ak⟩,⟨dF.1,eQ ak⟩,Oq _ _,fun _=>⟨fun _=>⟨⟨dF.1,eQ ak⟩,dF.1,eQ ak⟩,fun hf=>?_⟩⟩,fun ak=>⟨Oq _ _,fun _=>⟨fun hf=>?_,fun _=>⟨vm dF.1 dF.2,⟨Int.le_refl _,?_⟩,?_⟩⟩⟩⟩
  ·rw[ak]at hf;cases hf
  ·rw[ak]at hf;cases hf
  ·show(0:Int)<1
   decide
  ·show ws.length+1≤maxLen∧(ws.length+1)*32≤140737488355328
   unfold maxLen;omega
 refine⟨⟨?_,?_⟩,Yo _ aH _ _,fun _=>⟨X6 _ _,fun _=>J _,fun _=>⟨YG _ hm _ _ _,fun _=>J _,fun _=>J _⟩⟩,fun _=>J _⟩
 ·show 0+ws.length≤maxLen
  unfold maxLen;omega
 ·show(0+ws.length)*32≤140737488355328
  omega
end Go.aK
namespace Go.aK
open Go Go.eO
noncomputable def rL(ws:List bA)(name:ByteArray):dA:=bif(hq ws name).2 then(ws.getD (Int.toNat (hq ws name).1) (aE .bA)).hN else⟨-1,0⟩
noncomputable def jM(ws:List bA)(name:ByteArray)(w:dA):List bA:=bif(hq ws name).2 then List.set ws (Int.toNat (hq ws name).1) ⟨(ws.getD (Int.toNat (hq ws name).1) (aE .bA)).cr,w⟩else(ws.take (Int.toNat (hq ws name).1)++[⟨name,w⟩])++ws.drop (Int.toNat (hq ws name).1)
noncomputable def u0(ws:List bA)(name:ByteArray)(n:Int):ByteArray × List bA × Int:=bif !(k6 (rL ws name) n).2 then(⟨#[]⟩,ws,18)else(name,jM ws name (k6 (rL ws name) n).1,0)
theorem AL(c:Config)(ms:List cg)(ws:List bA)(au:List Int)(a:fx)(now dD:Int):fj c ms ws au a now dD=
 bif(eI c.key a.token now au).2 != 0 then(⟨#[]⟩,ws,(eI c.key a.token now au).2)else bif(pd c.home a.request) != 0 then(⟨#[]⟩,ws,pd c.home a.request)else
 bif(pe c.home ms (eI c.key a.token now au).1.cr dD a.request) != 0 then(⟨#[]⟩,ws,pe c.home ms (eI c.key a.token now au).1.cr dD a.request)else u0 ws (eI c.key a.token now au).1.cr a.request.dS:=by
 unfold fj u0 rL jM
 dsimp only
 generalize eI c.key a.token now au=v
 generalize pd c.home a.request=x
 generalize pe c.home ms v.1.cr dD a.request=y
 have aw:(v.2 != 0)= !(v.2==0):=rfl
 cases aa:v.2==0 with
 |false=>
  rw[aw,aa];simp only[cond_false,cond_true,Bool.not_false,aw,aa]
 |true=>
  rw[aw,aa];simp only[cond_true,Bool.not_true,cond_false]
  cases ae:(x != 0)with
  |true=>simp only[cond_true,ae]
  |false=>
   simp only[cond_false]
   cases av:(y != 0)with
   |true=>simp only[cond_true,av]
   |false=>
    simp only[cond_false,show((0:Int) != 0)=false from rfl]
    cases (hq ws v.1.cr).2<;>rfl
theorem YJ(ws:List bA)(name:ByteArray)(w:dA):(jM ws name w).length≤ws.length+1:=by
 unfold jM
 cases (hq ws name).2 with
 |true=>
  simp only[cond_true,List.length_set];omega
 |false=>
  simp only[cond_false,List.length_append,List.length_take,List.length_drop,List.length_cons,List.length_nil];omega
theorem AP(c:Config)(ms:List cg)(ws:List bA)(au:List Int)(a:fx)(now dD:Int):(fj c ms ws au a now dD).2.1.length≤ws.length+1:=by
 rw[AL]
 generalize ((eI c.key a.token now au).2 != 0)=A
 generalize (pd c.home a.request != 0)=B
 generalize (pe c.home ms (eI c.key a.token now au).1.cr dD a.request != 0)=C
 unfold u0
 generalize (k6 (rL ws (eI c.key a.token now au).1.cr) a.request.dS).2=D
 have:=YJ ws (eI c.key a.token now au).1.cr (k6 (rL ws (eI c.key a.token now au).1.cr) a.request.dS).1
 cases A<;>cases B<;>cases C<;>cases D<;>first|exact this|exact Nat.le_succ _
def vy:eK:=⟨⟨#[97,110,110]⟩,1,0,100⟩
theorem Ot:(decide ((yg (7:Int) vy).1.size≤30000)&&(decide ((yh vy).size≤2000000)&&decide ((Bt (7:Int) (yh vy)).size≤1000000)))=true:=by kernel_rfl
theorem yi{n:Int}(aa: -1000000≤n)(ae:n≤1000000):ie n:=⟨by omega,by omega⟩
theorem YK:Bu vy:=by
 have ai:fz (⟨#[97,110,110]⟩:ByteArray):=by unfold fz;decide
 have aa:=yi (n:=1) (by decide) (by decide)
 have aP:=yi (n:=0) (by decide) (by decide)
 have ae:=yi (n:=100) (by decide) (by decide)
 have cb:=u6 ai
 have a2:=lK aa
 have a3:=lK aP
 have a4:=lK ae
 unfold Bu
 simp only[vv]
 show AX ⟨#[97,110,110]⟩∧pn 1∧(qt ⟨#[97,110,110]⟩).size+(jN 1).size≤_∧pn 0∧(qt ⟨#[97,110,110]⟩).size+(jN 1).size+(jN 0).size≤_∧pn 100∧(qt ⟨#[97,110,110]⟩).size+(jN 1).size+(jN 0).size+(jN 100).size≤_
 rw[WM ai,E0 aa,E0 aP,E0 ae]
 exact⟨WL ai,AW aa,by omega,AW aP,by omega,AW ae,by omega⟩
theorem YL:FL (7:Int) vy:=by
 have h:=Ot
 simp only[Bool.and_eq_true,decide_eq_true_eq]at h
 exact⟨W4 _,fun _=>⟨YK,Yr _ h.2.1,Yi h.2.2⟩⟩
theorem FM:nU (yg (7:Int) vy).1:=by
 have h:=Ot
 simp only[Bool.and_eq_true,decide_eq_true_eq]at h
 exact h.1
def YM:b3:=⟨1,4,⟨1,⟨#[111,110,111,102,102]⟩,⟨#[111,110]⟩⟩,⟨#[]⟩,⟨0,0,⟨#[]⟩⟩,⟨#[]⟩⟩
theorem Nz:qC=true:=by kernel_rfl
theorem FN:yf Bv.2:=fun m hm=>by
 have hm:m∈([⟨⟨#[97,110,110]⟩,4,[],[],false⟩]:List cg):=hm
 rw[List.mem_singleton]at hm
 subst hm
 exact⟨by decide,by decide⟩
theorem qo:pE:=by
 unfold pE
 extract_lets v0 v3 v6 v10 cU dw cF iz
 have zh6:v6.2.1.length≤1:=AP _ _ _ _ _ _ _
 have aJ:A3 YM:=by
  constructor<;>first|exact yi (by decide) (by decide)|(unfold fz;decide)|(constructor<;>first|exact yi (by decide) (by decide)|(unfold fz;decide))
 refine⟨trivial,YL,s4 FN (by decide) FM,s4 FN (by omega) FM,s4 FN (by omega) FM,Xc aJ,W1 (Xa aJ),fun h=>⟨Int.le_refl _,?_⟩⟩
 have h:((v3.2==0&&cC .eql v6.1 (⟨#[97,110,110]⟩:ByteArray))&&v6.2.2==0&&(List.length v6.2.1:Int)==1)=true:=h
 simp only[Bool.and_eq_true,beq_iff_eq]at h
 omega
end Go.aK
namespace Go.aK
open Go Go.eO
theorem Ny{x:Case}(h:x.members.length≤9223372036854775807):Bw x:=by
 intro _
 show 0≤(x.members.length:Int)∧(x.members.length:Int)<9223372036854775808
 omega
theorem EN{x:Case}(h:nV x=false):(x.c.home.bH.length≤100∧x.c.home.bw.length≤30)∧yf x.members∧x.gk.length≤60∧nU x.a.token∧x.a.request.text.size≤25000∧x.members.length≤30:=by
 unfold nV at h
 dsimp only at h
 rw[toNat_cast,ib (p:=fun i=>(decide ((List.length ((List.getD x.members i (aE .cg)).k9):Int)>300))||(decide ((List.length ((List.getD x.members i (aE .cg)).fN):Int)>300))) (F:=fun _=>true) (fun i u=>by simp only[toNat_cast])]at h
 generalize c8:(((((((decide ((List.length x.c.home.bH:Int)>100))||(decide ((List.length x.c.home.bw:Int)>30)))||(decide ((x.members.length:Int)>30)))||(decide ((List.length x.gk:Int)>60)))||(decide ((List.length x.gS:Int)>100)))||(decide ((ByteArray.size x.a.token:Int)>1000)))||(decide ((ByteArray.size x.a.request.text:Int)>25000)))=A at h
 cases A with
 |true=>cases h
 |false=>
  simp only[Bool.or_eq_false_iff,decide_eq_false_iff_not]at c8;obtain⟨⟨⟨⟨⟨⟨cb,a2⟩,a3⟩,a4⟩,a5⟩,zh7⟩,zh8⟩:=c8;refine⟨⟨by omega,by omega⟩,fun m hm=>?_,by omega,by unfold nU;omega,by omega,by omega⟩
  obtain⟨j,af,rfl⟩:=List.mem_iff_getElem.1 hm
  cases hf:cB (fun i=>(decide ((List.length ((List.getD x.members i (aE .cg)).k9):Int)>300))||(decide ((List.length ((List.getD x.members i (aE .cg)).fN):Int)>300))) x.members.length with
  |some i=>rw[hf]at h;cases h
  |none=>
   have:=pv hf j af
   rw[m3 (List.getElem?_eq_getElem af)]at this
   simp only[Bool.or_eq_false_iff,decide_eq_false_iff_not]at this;omega
def iP(l:List bA)(x:ByteArray):dA:=match l.find? (fun g=>decide (g.cr=x))with
 |some g=>g.hN
 |none=>⟨-1,0⟩
theorem Np{α:Type}(l:List α)(d:α)(p:α→Bool):l.find? p=(cB (fun i=>p (l.getD i d)) l.length).map fun i=>l.getD i d:=by
 cases hf:cB (fun i=>p (l.getD i d)) l.length with
 |none=>
  have hf:=pv hf
  refine List.find?_eq_none.2 fun a a6=>?_
  obtain⟨j,af,rfl⟩:=List.mem_iff_getElem.1 a6
  have:=hf j af
  rw[m3 (List.getElem?_eq_getElem af)]at this
  simp[this]
 |some i=>
  obtain⟨aa,ae,av⟩:=lO hf;rw[Option.map_some];refine List.find?_eq_some_iff_getElem.2 ⟨ae,i,aa,?_,fun j af=>?_⟩
  ·rw[m3 (List.getElem?_eq_getElem aa)]
  ·have:=av j af
   rw[m3 (List.getElem?_eq_getElem (show j<l.length by omega))]at this
   simp[this]
theorem ND(l:List bA)(x:ByteArray):tm l x=iP l x:=by
 unfold tm iP
 dsimp only
 rw[toNat_cast,ib (p:=fun i=>decide ((l.getD i (aE .bA)).cr=x)) (F:=fun i=>(l.getD i (aE .bA)).hN) (fun i u=>by simp only[nW,toNat_cast]),Np l (aE .bA)]
 all_goals cases cB (fun i=>decide ((l.getD i (aE .bA)).cr=x)) l.length<;>rfl
theorem EK{l:List bA}{x:ByteArray}(h:(hq l x).2=true): ∃i:Nat,hq l x=((i:Int),true)∧i<l.length∧(l.getD i (aE .bA)).cr=x∧∀j,j<i→(l.getD j (aE .bA)).cr≠x:=by
 rw[FH]at h⊢
 cases hf:cB (fun i=>decide ((l.getD i (aE .bA)).cr=x)) l.length with
 |some i=>
  obtain⟨aa,ae,av⟩:=lO hf;exact⟨i,rfl,aa,of_decide_eq_true ae,fun j af=>of_decide_eq_false (av j af)⟩
 |none=>
  rw[hf]at h;dsimp only at h
  cases ah:cB (fun i=>cC .gtr (l.getD i (aE .bA)).cr x) l.length with
  |some j=>rw[ah]at h;cases h
  |none=>rw[ah]at h;cases h
theorem EL{l:List bA}{x:ByteArray}(h:(hq l x).2=false): ∃i:Nat,hq l x=((i:Int),false)∧i≤l.length∧∀g∈l,g.cr≠x:=by
 rw[FH]at h⊢
 cases hf:cB (fun i=>decide ((l.getD i (aE .bA)).cr=x)) l.length with
 |some i=>rw[hf]at h;cases h
 |none=>
  have hn: ∀g∈l,g.cr≠x:=fun g ah=>by
   obtain⟨j,af,rfl⟩:=List.mem_iff_getElem.1 ah
   have:=of_decide_eq_false (pv hf j af)
   rw[m3 (List.getElem?_eq_getElem af)]at this
   exact this
  dsimp only
  cases ah:cB (fun i=>cC .gtr (l.getD i (aE .bA)).cr x) l.length with
  |some j=>
   have:=(lO ah).1
   exact⟨j,rfl,by omega,hn⟩
  |none=>exact⟨l.length,rfl,Nat.le_refl _,hn⟩
theorem Ns{α:Type}{l:List α}{i:Nat}(h:i<l.length)(a:α):l.set i a=l.take i++a::l.drop (i+1):=by
 rw[List.set_eq_take_append_cons_drop,if_pos h]
theorem YN{α:Type}{l:List α}{i:Nat}(h:i<l.length)(d:α):l=l.take i++l.getD i d::l.drop (i+1):=by
 rw[m3 (List.getElem?_eq_getElem h)]
 have:=List.take_append_drop i l
 rw[List.drop_eq_getElem_cons h]at this
 exact this.symm
theorem FO{α:Type}{p:α→Bool}{a b:List α}{x:α}(h:p x=false):(a++x::b).find? p=(a++b).find? p:=by
 rw[List.find?_append,List.find?_append,List.find?_cons,h]
theorem Nw(ws:List bA){name other:ByteArray}(w:dA)(h:other≠name):iP (jM ws name w) other=iP ws other:=by
 unfold jM
 cases ak:(hq ws name).2 with
 |true=>
  obtain⟨i,he,hi,hm,_⟩:=EK ak;rw[he];simp only[cond_true,toNat_cast];rw[hm,Ns hi];unfold iP
  have aA:(decide (name=other))=false:=decide_eq_false fun e=>h e.symm
  rw[FO (p:=fun g:bA=>decide (g.cr=other)) (x:=⟨name,w⟩) aA]
  conv=>rhs;rw[YN hi (aE .bA)]
  rw[FO (p:=fun g:bA=>decide (g.cr=other)) (x:=ws.getD i (aE .bA)) (by rw[hm];exact aA)]
 |false=>
  obtain⟨i,he,hi,_⟩:=EL ak;rw[he];simp only[cond_false,toNat_cast];unfold iP
  have aA:(decide (name=other))=false:=decide_eq_false fun e=>h e.symm
  rw[List.append_assoc,List.singleton_append,FO (p:=fun g:bA=>decide (g.cr=other)) (x:=⟨name,w⟩) aA,List.take_append_drop]
theorem Wh(c:Config)(ms:List cg)(ws:List bA)(au:List Int)(a:fx)(now dD:Int){other:ByteArray}(h:other≠(fj c ms ws au a now dD).1):iP (fj c ms ws au a now dD).2.1 other=iP ws other:=by
 rw[AL]at h⊢
 generalize c8:((eI c.key a.token now au).2 != 0)=A at h⊢
 generalize fy:(pd c.home a.request != 0)=B at h⊢
 generalize ml:(pe c.home ms (eI c.key a.token now au).1.cr dD a.request != 0)=C at h⊢
 unfold u0 at h⊢
 generalize kf:(k6 (rL ws (eI c.key a.token now au).1.cr) a.request.dS).2=D at h⊢
 cases A<;>cases B<;>cases C<;>cases D<;>first|rfl|exact Nw ws _ h
theorem NB{x:Case}(h:pf ⟨.st .Case,x⟩):x.members.length≤9223372036854775807:=by
 have fr:k7 ⟨.li .cg,x.members⟩:=h _ (List.mem_of_getElem? (i:=7) rfl)
 cases fr
 assumption
theorem NA(x:Case)(l:List bA):fj ⟨⟨x.c.home.bH,x.c.home.bw⟩,x.c.kv,x.c.ky,⟨x.c.gj.offset,x.c.gj.changes⟩,x.c.key⟩ x.members l x.gS ⟨x.a.token,⟨x.a.request.kind,x.a.request.dS,⟨x.a.request.key.dev,x.a.request.key.dc,x.a.request.key.attr⟩,x.a.request.name,⟨x.a.request.value.kind,x.a.request.value.n,x.a.request.value.s⟩,x.a.request.text⟩⟩ x.now x.dD=fj x.c x.members l x.gS x.a x.now x.dD:=rfl
end Go.aK
namespace Go.aK
open Go Go.eO
theorem Ou{a b:Nat}(a6:a<18446744073709551616)(ad:b<18446744073709551616):bu .or .u64 (a:Int) (b:Int)=((a ||| b:Nat):Int):=u64_or_nat a b a6 ad
theorem YO{a b:Nat}(a6:a<18446744073709551616)(ad:b<18446744073709551616):bu .and .u64 (a:Int) (b:Int)=((a &&& b:Nat):Int):=u64_and_nat a b a6 ad
theorem Ov(a k:Nat)(aj:k<64):bu .shl .u64 (a:Int) (k:Int)=(((a*2^k)%2^64:Nat):Int):=by
 show IntKind.u64.wrap ((a:Int)*2^(min (Int.toNat (k:Int)) 64))=_
 rw[Int.toNat_natCast,Nat.min_eq_left (by omega),n2]
 have e:(a:Int)*2^k=((a*2^k:Nat):Int):=by simp
 rw[e]
 omega
theorem Ow{a b:Nat}(a6:a<18446744073709551616)(ad:b<18446744073709551616):a ||| b<18446744073709551616:=Nat.or_lt_two_pow (n:=64) a6 ad
def s3(w:dA):Prop:=∃B:Nat,w.bits=(B:Int)∧B<18446744073709551616
def Rec(w:dA)(n:Int):Prop:=n≤w.top-64∨∃k B:Nat,w.bits=(B:Int)∧n+k=w.top∧k<64∧B.testBit k=true
theorem Bx{k:Nat}(h:k<64):2^k<18446744073709551616:=Nat.pow_lt_pow_right (a:=2) (by decide) (m:=k) (n:=64) h
theorem Ox{k:Nat}(aj:k<64):bu .shl .u64 (1:Int) (k:Int)=((2^k:Nat):Int):=by
 have:=Ov 1 k aj
 rw[Nat.one_mul,Nat.mod_eq_of_lt (Bx aj)]at this
 exact this
theorem YP{B k:Nat}(aj:k<64)(fy:B<18446744073709551616)(h:B.testBit k=true):(bu .and .u64 (B:Int) (bu .shl .u64 (1:Int) (k:Int)) != 0)=true:=by
 rw[Ox aj,YO fy (Bx aj)]
 have:B &&& 2^k≠0:=fun aP=>by
  have aa:(B &&& 2^k).testBit k=true:=by rw[Nat.testBit_and,h,Nat.testBit_two_pow_self];rfl
  rw[aP,Nat.zero_testBit]at aa;cases aa
 simp only[bne_iff_ne]
 omega
theorem V5{w:dA}{n:Int}(hw:s3 w)(h:Rec w n):(k6 w n).2=false:=by
 unfold k6
 dsimp only
 cases ah:((((tl w != 0)||decide (n<0))||decide (n>1099511627776))||decide (n≤IntKind.wrap .i64 (w.top-64)))with
 |true=>rfl
 |false=>
  simp only[Bool.or_eq_false_iff,decide_eq_false_iff_not]at ah;obtain⟨⟨⟨aa,ae⟩,av⟩,aQ⟩:=ah;obtain⟨t1,t2⟩:=FI (lI aa);rw[kg (by omega) (by omega)]at aQ
  rcases h with h|⟨k,B,ad,aj,yj,aH⟩
  ·exact absurd h aQ
  ·obtain⟨vz,fT,fy⟩:=hw
   obtain rfl:B=vz:=by omega
   rw[decide_eq_false (show ¬n>w.top by omega),kg (n:=w.top-n) (by omega) (by omega),show w.top-n=(k:Int)by omega,ad,YP yj fy aH]
   rfl
theorem YQ(B:Nat):(B ||| 1).testBit 0=true:=by
 rw[Nat.testBit_or]
 simp
theorem acc{w dk:dA}{n:Int}(hw:s3 w)(h:k6 w n=(dk,true)):(s3 dk∧Rec dk n)∧∀m,Rec w m→Rec dk m:=by
 unfold k6 at h
 dsimp only at h
 obtain⟨B,ad,fy⟩:=hw
 cases ah:((((tl w != 0)||decide (n<0))||decide (n>1099511627776))||decide (n≤IntKind.wrap .i64 (w.top-64)))with
 |true=>rw[ah]at h;cases h
 |false=>
  rw[ah]at h;simp only[Bool.or_eq_false_iff,decide_eq_false_iff_not]at ah;obtain⟨⟨⟨aa,ae⟩,av⟩,aQ⟩:=ah;obtain⟨t1,t2⟩:=FI (lI aa);rw[kg (by omega) (by omega)]at aQ
  simp only[cond_false]at h
  by_cases hn:n>w.top
  ·rw[decide_eq_true hn,cond_true,kg (n:=n-w.top) (by omega) (by omega)]at h
   by_cases hd:n-w.top<64
   ·rw[decide_eq_true hd,cond_true,ad]at h
    obtain⟨d,hdd⟩: ∃d:Nat,n-w.top=(d:Int):=⟨_,(Int.toNat_of_nonneg (by omega)).symm⟩
    have vA:d<64:=by omega
    rw[hdd,Ov B d vA]at h
    have ar:B*2^d%2^64<18446744073709551616:=Nat.mod_lt _ (by decide)
    have aA:=Ou ar (show 1<18446744073709551616 by decide)
    have aA:bu .or .u64 ((B*2^d%2^64:Nat):Int) 1=((B*2^d%2^64 ||| 1:Nat):Int):=aA
    rw[aA]at h;cases h;refine⟨⟨⟨_,rfl,Ow ar (by decide)⟩,.inr ⟨0,_,rfl,by simp,by decide,YQ _⟩⟩,fun m hm=>?_⟩
    rcases hm with hm|⟨k,vz,fT,aj,yj,aH⟩
    ·exact .inl (by show m≤n-64;omega)
    ·obtain rfl:vz=B:=by omega
     by_cases gM:k+d<64
     ·refine .inr ⟨k+d,_,rfl,by show m+((k+d:Nat):Int)=n;omega,gM,?_⟩
      rw[Nat.testBit_or,Nat.testBit_mod_two_pow,Nat.testBit_mul_two_pow,decide_eq_true gM,decide_eq_true (show d≤k+d by omega),Nat.add_sub_cancel,aH]
      rfl
     ·exact .inl (by show m≤n-64;omega)
   ·rw[decide_eq_false hd,cond_false]at h
    cases h;refine⟨⟨⟨1,rfl,by decide⟩,.inr ⟨0,1,rfl,by simp,by decide,rfl⟩⟩,fun m hm=>.inl ?_⟩
    show m≤n-64
    rcases hm with hm|⟨k,vz,fT,aj,yj,aH⟩<;>omega
  ·rw[decide_eq_false hn,cond_false,kg (n:=w.top-n) (by omega) (by omega)]at h
   obtain⟨d,hdd⟩: ∃d:Nat,w.top-n=(d:Int):=⟨_,(Int.toNat_of_nonneg (by omega)).symm⟩
   have vA:d<64:=by omega
   rw[hdd,ad]at h
   cases hx:(bu .and .u64 (B:Int) (bu .shl .u64 (1:Int) (d:Int)) != 0)with
   |true=>rw[hx]at h;cases h
   |false=>
    rw[hx,cond_false,Ox vA,Ou fy (Bx vA)]at h;cases h;refine⟨⟨⟨_,rfl,Ow fy (Bx vA)⟩,.inr ⟨d,_,rfl,by show n+(d:Int)=w.top;omega,vA,?_⟩⟩,fun m hm=>?_⟩
    ·rw[Nat.testBit_or,Nat.testBit_two_pow_self,Bool.or_true]
    ·rcases hm with hm|⟨k,vz,fT,aj,yj,aH⟩
     ·exact .inl hm
     ·obtain rfl:vz=B:=by omega
      exact .inr ⟨k,_,rfl,aj,yj,by rw[Nat.testBit_or,aH];rfl⟩
end Go.aK
