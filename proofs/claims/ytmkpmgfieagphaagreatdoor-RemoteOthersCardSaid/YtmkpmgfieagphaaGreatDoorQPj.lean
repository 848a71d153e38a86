/- cluster.Standard: its contract. Conditions: none. -/
import Derived.Test.YtmkpmgfieagphaaGreatDoorQPn
namespace Go.aK
open Go Go.Proofs Go.eO
def lG:List ByteArray:=[⟨#[111,110,111,102,102]⟩,⟨#[108,101,118,101,108]⟩,⟨#[108,111,99,107]⟩,⟨#[116,104,101,114,109,111,115,116,97,116]⟩,⟨#[115,109,111,107,101]⟩,⟨#[108,101,97,107]⟩,⟨#[118,97,108,118,101]⟩,⟨#[109,101,116,101,114]⟩]
def tq:List ab:=lG.map fun s=>.cs (.string s)
def kH:Code→Code
 | .seq a _=>a
 |c=>c
def hQ:Code→Code
 | .seq _ b=>b
 |c=>c
def BB:Code→Array Oper
 | .region _ o _=>o
 |_=>#[]
def Za:Code→Nat
 | .region i _ _=>i
 |_=>0
def OB(P:Program)(N B:Nat)(T:List (Nat × bF))(inl:Nat→List ab→aq→aB)(ops:Array Oper)(S:aq):aB:=hA P N B T inl ops (ops.toList.drop 1) (S.put (some 5) (.ch tq))
noncomputable def kI:Code:=match bj.funcs[147]? with
 |some fn=>match fn.body with
  |some c=>c
  |none=>.skip
 |none=>.skip
noncomputable def BC(T:List (Nat × bF))(inl:Nat→List ab→aq→aB)(N B:Nat)(S:aq):aB:=
 iA N S (comp bj N B T inl ((jx.all bj T).L N B inl) ((jx.all bj T).D N B inl) (kH kI) 0 S) fun S=>iA N S (comp bj N B T inl ((jx.all bj T).L N B inl) ((jx.all bj T).D N B inl) (kH (hQ kI)) 0 S) fun S=>
  iA N S (iA N S (OB bj N B T inl (BB (kH (kH (hQ (hQ kI))))) S) (comp bj N B T inl ((jx.all bj T).L N B inl) ((jx.all bj T).D N B inl) (hQ (kH (hQ (hQ kI)))) 0)) (comp bj N B T inl ((jx.all bj T).L N B inl) ((jx.all bj T).D N B inl) (hQ (hQ (hQ kI))) 0)
section
variable {P:Program} {G:a8} {N B:Nat} {M:List aR} {T:List (Nat × bF)} {inl:Nat→List ab→aq→aB}
theorem Zb{e:Env}:ab.bO G e tq=(lG.map fun s=>a1.v (.string s)).map .au:=rfl
theorem Zc(bW:fP P G M inl)(kJ:G 0=some (lG.map fun s=>a1.v (.string s))){id:Nat}{ops:Array Oper}{o:Oper}{t:TypeId}(an:ops.toList=o::ops.toList.drop 1)(aa:o.op= .load t (.global 0))(hd:o.dst=some 5)(ah:o.guard=none)
 (aH:pG P t tq=some (.ch tq)):iT P G N B M (.region id ops false) (OB P N B T inl ops):=by
 intro S e ad hf ai
 have iQ:ops=ops.toList.toArray:=by simp
 rw[iQ]
 refine b2.region ?_
 rw[←iQ,an]
 have dB:cL P G o (S.den G N B e) ((ab.ch tq).den G e):=FR aa (by simp only[aI,kJ,fl,Zb]) aH
 have mq:(S.den G N B e).put o.dst ((ab.ch tq).den G e)=(S.put (some 5) (.ch tq)).den G N B e:=by rw[e9,hd]
 refine cu.step (by unfold dL;rw[ah]) (mq ▸ dB.step) ?_
 exact tr bW _ (iU ad rfl) (iV hf) ai fun ex st ak=>ak.sub rfl (bX.refl _ _) (by rw[iW];exact Nat.le_refl _)
theorem Zd:kI= .seq (kH kI) (.seq (kH (hQ kI)) (.seq (.seq (.region (Za (kH (kH (hQ (hQ kI))))) (BB (kH (kH (hQ (hQ kI))))) false) (hQ (kH (hQ (hQ kI))))) (hQ (hQ (hQ kI))))):=by kernel_rfl
theorem Ze(bW:fP bj G M inl)(kJ:G 0=some (lG.map fun s=>a1.v (.string s))):iT bj G N B M kI (BC T inl N B):=by
 have kK:=FT (P:=bj) (G:=G) (M:=M) (T:=T) inl bW N B
 rw[Zd]
 refine yl (oa bW kK.1 kK.2 _ 0) (yl (oa bW kK.1 kK.2 _ 0) (yl (yl (Zc bW kJ (o:=(BB (kH (kH (hQ (hQ kI))))).toList.headD (BB (kH (kH (hQ (hQ kI)))))[0]!) (t:=249) (by kernel_rfl) (by kernel_rfl) (by kernel_rfl) (by kernel_rfl) (by kernel_rfl)) (oa bW kK.1 kK.2 _ 0)) (oa bW kK.1 kK.2 _ 0)))
def FU(P:Program)(f0:Nat)(fn:Func)(N:Nat)(g:Nat→aq→aB)(f:Nat)(ys:List ab)(S:aq):aB:=
 match ys,Nat.beq f f0 with
 |[],true=>BD P f0 fn N (g S.n (pH [] S))
 |_,_=>.bad 1
theorem Zf{f0 N:Nat}{fn:Func}{c:Code}{g:Nat→aq→aB}(lQ:P.funcs[f0]? =some fn)(hc:fn.body=some c)(ob:([]:List ab).length+(fn.ntmps-([]:List ab).length)=N)(ah: ∀B,iT P G N B M c (g B)):fP P G M (FU P f0 fn N g):=by
 intro f ys S e ad ar hf ai
 unfold FU at ai⊢
 split at ai
 rotate_left
 ·exact ai.elim
 rename_i FV
 obtain rfl:=Nat.eq_of_beq_eq_true FV
 generalize aH:g S.n (pH [] S)=t at ai
 unfold BD at ai⊢
 split at ai
 ·rename_i ym
  obtain⟨g1,g2,g3⟩:=iX (t.rel rZ) none ai
  have tt:t.safe M e:=(kL (BE t)).1 g1
  have yn:=ah S.n (pH [] S) e (OC ad ar) hf (by rw[aH];exact tt)
  rw[aH,←ob,OD,ob]at yn;refine dE.OE (k:=fn.ntmps-([]:List ab).length) lQ hc (by rw[lR]) (b2.OF (b2.mono yn fun ex st ak=>?_))
  obtain⟨x,df,ay,aa,ae,av,aQ,bL,cT,fr⟩:=ak;refine⟨_,av,?_⟩
  obtain⟨iB,dM,bh,c1,di⟩:=iY (M:=M) (e:=e) ym;rw[aa]at c1
  cases c1
  have ag:run M (t.rel rZ) e=some (.cj,df,ay):=by
   rw[vC (BE t),aa]
   cases x<;>first|rfl|cases di
  obtain⟨oc,_⟩:=g3 df ay ag;rw[ag]at g2
  have g2:run M ((t.rel rZ).eG (tu P fn N) none) e=run M (tu P fn N df) ay:=g2
  unfold tu at oc g2
  split at oc
  ·rename_i v aw
   split at oc
   ·rename_i fB
    simp only[aw,fB]at g2;refine⟨(by cases x<;>cases ex<;>first|exact .inl rfl|exact .inr rfl|exact ae.elim|cases di),v.den G ay,cw G ay df.h,OG bL aw,fun _ _ h=>h,{df with l:=ba.put .emp 0 v},ay,g2,?_,rfl,⟨fun i x hx=>?_,aQ.h,aQ.g⟩,bL,cT,fr⟩
    ·simp only[aq.at,ba.hR,if_true]
    ·simp only[ba.hR]at hx
     split at hx
     ·cases hx;exact fB
     ·simp[ba.get]at hx
   ·exact oc.elim
  ·exact oc.elim
 ·exact ai.elim
end
def OH:Prop:=
 (0≤(8:Int)∧(8:Int)≤(8:Int)∧(8:Int)≤(maxLen:Int)∧(88:Int)*(8:Int)≤281474976710656)∧
 let aX:(List aN)→Prop:=fun bP=>
  (0≤(0:Int)∧(0:Int)<(List.length bP:Int))∧
  let v3:aN:=List.getD bP (Int.toNat (0:Int)) (aE .aN)
  let v4:List aN:=List.set bP (Int.toNat (0:Int)) ⟨v3.name,([⟨⟨#[111,110]⟩,1,0,0,[],true,false⟩]:List Attr),v3.commands,v3.events⟩
  (0≤(0:Int)∧(0:Int)<(List.length bP:Int))∧
  let bs:List Command:=([⟨⟨#[111,110]⟩,⟨⟨#[]⟩,0,0,0,[],false,false⟩,([⟨1,⟨#[111,110]⟩,1⟩]:List cS)⟩,⟨⟨#[111,102,102]⟩,⟨⟨#[]⟩,0,0,0,[],false,false⟩,([⟨1,⟨#[111,110]⟩,0⟩]:List cS)⟩,⟨⟨#[116,111,103,103,108,101]⟩,⟨⟨#[]⟩,0,0,0,[],false,false⟩,([⟨4,⟨#[111,110]⟩,0⟩]:List cS)⟩]:List Command)
  (0≤(0:Int)∧(0:Int)<(List.length v4:Int))∧
  let v9:aN:=List.getD v4 (Int.toNat (0:Int)) (aE .aN)
  let v10:List aN:=List.set v4 (Int.toNat (0:Int)) ⟨v9.name,v9.attrs,bs,v9.events⟩
  (0≤(0:Int)∧(0:Int)<(List.length v4:Int))∧
  (0≤(1:Int)∧(1:Int)<(List.length v10:Int))∧
  let v12:aN:=List.getD v10 (Int.toNat (1:Int)) (aE .aN)
  let b4:List aN:=List.set v10 (Int.toNat (1:Int)) ⟨v12.name,([⟨⟨#[108,101,118,101,108]⟩,2,0,100,[],true,false⟩]:List Attr),v12.commands,v12.events⟩
  (0≤(1:Int)∧(1:Int)<(List.length v10:Int))∧
  let de:List Command:=([⟨⟨#[109,111,118,101]⟩,⟨⟨#[116,111]⟩,2,0,100,[],false,false⟩,([⟨2,⟨#[108,101,118,101,108]⟩,0⟩]:List cS)⟩,⟨⟨#[115,116,101,112]⟩,⟨⟨#[]⟩,0,0,0,[],false,false⟩,([⟨3,⟨#[108,101,118,101,108]⟩,10⟩]:List cS)⟩]:List Command)
  (0≤(1:Int)∧(1:Int)<(List.length b4:Int))∧
  let dG:aN:=List.getD b4 (Int.toNat (1:Int)) (aE .aN)
  let dw:List aN:=List.set b4 (Int.toNat (1:Int)) ⟨dG.name,dG.attrs,de,dG.events⟩
  (0≤(1:Int)∧(1:Int)<(List.length b4:Int))∧
  (0≤(2:Int)∧(2:Int)<(List.length dw:Int))∧
  let v20:aN:=List.getD dw (Int.toNat (2:Int)) (aE .aN)
  let v21:List aN:=List.set dw (Int.toNat (2:Int)) ⟨v20.name,([⟨⟨#[108,111,99,107,101,100]⟩,1,0,0,[],true,true⟩]:List Attr),v20.commands,v20.events⟩
  (0≤(2:Int)∧(2:Int)<(List.length dw:Int))∧
  let v24:List Command:=([⟨⟨#[108,111,99,107]⟩,⟨⟨#[]⟩,0,0,0,[],false,false⟩,([⟨1,⟨#[108,111,99,107,101,100]⟩,1⟩]:List cS)⟩,⟨⟨#[117,110,108,111,99,107]⟩,⟨⟨#[]⟩,0,0,0,[],false,false⟩,([⟨1,⟨#[108,111,99,107,101,100]⟩,0⟩]:List cS)⟩]:List Command)
  (0≤(2:Int)∧(2:Int)<(List.length v21:Int))∧
  let v25:aN:=List.getD v21 (Int.toNat (2:Int)) (aE .aN)
  let v26:List aN:=List.set v21 (Int.toNat (2:Int)) ⟨v25.name,v25.attrs,v24,v25.events⟩
  (0≤(2:Int)∧(2:Int)<(List.length v21:Int))∧
  (0≤(2:Int)∧(2:Int)<(List.length v26:Int))∧
  let v28:aN:=List.getD v26 (Int.toNat (2:Int)) (aE .aN)
  let iz:List aN:=List.set v26 (Int.toNat (2:Int)) ⟨v28.name,v28.attrs,v28.commands,([⟨#[106,97,109]⟩]:List ByteArray)⟩
  (0≤(2:Int)∧(2:Int)<(List.length v26:Int))∧
  (0≤(3:Int)∧(3:Int)<(List.length iz:Int))∧
  let v31:aN:=List.getD iz (Int.toNat (3:Int)) (aE .aN)
  let BF:List aN:=List.set iz (Int.toNat (3:Int)) ⟨v31.name,([⟨⟨#[116,97,114,103,101,116]⟩,2,50,300,[],true,false⟩,⟨⟨#[116,101,109,112]⟩,2,(-500),1000,[],false,false⟩]:List Attr),v31.commands,v31.events⟩
  (0≤(3:Int)∧(3:Int)<(List.length iz:Int))∧
  (0≤(4:Int)∧(4:Int)<(List.length BF:Int))∧
  let yo:aN:=List.getD BF (Int.toNat (4:Int)) (aE .aN)
  let BG:List aN:=List.set BF (Int.toNat (4:Int)) ⟨yo.name,([⟨⟨#[97,108,97,114,109]⟩,1,0,0,[],false,true⟩]:List Attr),yo.commands,yo.events⟩
  (0≤(4:Int)∧(4:Int)<(List.length BF:Int))∧
  (0≤(4:Int)∧(4:Int)<(List.length BG:Int))∧
  let v37:aN:=List.getD BG (Int.toNat (4:Int)) (aE .aN)
  let BH:List aN:=List.set BG (Int.toNat (4:Int)) ⟨v37.name,v37.attrs,v37.commands,([⟨#[116,101,115,116]⟩]:List ByteArray)⟩
  (0≤(4:Int)∧(4:Int)<(List.length BG:Int))∧
  (0≤(5:Int)∧(5:Int)<(List.length BH:Int))∧
  let v40:aN:=List.getD BH (Int.toNat (5:Int)) (aE .aN)
  let BI:List aN:=List.set BH (Int.toNat (5:Int)) ⟨v40.name,([⟨⟨#[119,101,116]⟩,1,0,0,[],false,true⟩]:List Attr),v40.commands,v40.events⟩
  (0≤(5:Int)∧(5:Int)<(List.length BH:Int))∧
  (0≤(6:Int)∧(6:Int)<(List.length BI:Int))∧
  let FW:aN:=List.getD BI (Int.toNat (6:Int)) (aE .aN)
  let BJ:List aN:=List.set BI (Int.toNat (6:Int)) ⟨FW.name,([⟨⟨#[111,112,101,110]⟩,1,0,0,[],true,true⟩]:List Attr),FW.commands,FW.events⟩
  (0≤(6:Int)∧(6:Int)<(List.length BI:Int))∧
  let Zg:List Command:=([⟨⟨#[111,112,101,110]⟩,⟨⟨#[]⟩,0,0,0,[],false,false⟩,([⟨1,⟨#[111,112,101,110]⟩,1⟩]:List cS)⟩,⟨⟨#[99,108,111,115,101]⟩,⟨⟨#[]⟩,0,0,0,[],false,false⟩,([⟨1,⟨#[111,112,101,110]⟩,0⟩]:List cS)⟩]:List Command)
  (0≤(6:Int)∧(6:Int)<(List.length BJ:Int))∧
  let FX:aN:=List.getD BJ (Int.toNat (6:Int)) (aE .aN)
  let v49:List aN:=List.set BJ (Int.toNat (6:Int)) ⟨FX.name,FX.attrs,Zg,FX.events⟩
  (0≤(6:Int)∧(6:Int)<(List.length BJ:Int))∧
  (0≤(7:Int)∧(7:Int)<(List.length v49:Int))∧
  let v51:aN:=List.getD v49 (Int.toNat (7:Int)) (aE .aN)
  0≤(7:Int)∧(7:Int)<(List.length v49:Int)
 ∃bx:Nat→((List aN))→Prop,bx 0 (List.replicate (Int.toNat (8:Int)) (aE .aN))∧(∀(i2:Nat) (d0:(List aN)),i2<Int.toNat (8:Int)→bx i2 d0→(
  let v4:ByteArray:=FY ([⟨#[111,110,111,102,102]⟩,⟨#[108,101,118,101,108]⟩,⟨#[108,111,99,107]⟩,⟨#[116,104,101,114,109,111,115,116,97,116]⟩,⟨#[115,109,111,107,101]⟩,⟨#[108,101,97,107]⟩,⟨#[118,97,108,118,101]⟩,⟨#[109,101,116,101,114]⟩]:List ByteArray) (Int.toNat (i2:Int))
  (0≤(i2:Int)∧(i2:Int)<(List.length d0:Int))∧
  let v5:aN:=List.getD d0 (Int.toNat (i2:Int)) (aE .aN)
  (0≤(i2:Int)∧(i2:Int)<(List.length d0:Int))∧
  bx (i2+1) (List.set d0 (Int.toNat (i2:Int)) ⟨v4,v5.attrs,v5.commands,v5.events⟩)))∧∀bP,bx (Int.toNat (8:Int)) bP→aX bP
theorem Zh:OH:=by
 refine⟨by decide,fun _ d=>d.length=8,by simp,fun i d hi hd=>?_,fun c hc=>?_⟩
 ·have hi:i<8:=hi
  dsimp only;simp only[List.length_set];exact⟨by omega,by omega,hd⟩
 ·have hc:c.length=8:=hc
  dsimp only;simp only[List.length_set,hc];decide
noncomputable def i147:Nat→List ab→aq→aB:=FU bj 147 Tryz.f147 98 fun B=>BC tv (BK bj (jx.all bj tv) tv (60,108,5) [] [] [] [] 16) 98 B
noncomputable def tw:aB:=i147 147 (hr 0 []) (pI 0)
theorem Zi:i147 147 (hr 0 iZ.ps) (pI iZ.ps.length)=tw:=by kernel_rfl
theorem Zj:tw.gv.all (tx iZ.rs)=true:=by kernel_rfl
theorem Zk(x:(fa iZ.ps).den):vD [] tw (gw 0 (dv iZ.ps x))=OH:=by kernel_rfl
theorem Zl(x:(fa iZ.ps).den):vE [] tw iZ.rs (gw 0 (dv iZ.ps x))=iZ.m x:=by kernel_rfl
theorem n147:Tryz.f147.ntmps=98:=by kernel_rfl
theorem Zm:([]:List ab).length+(Tryz.f147.ntmps-([]:List ab).length)=98:=by rw[n147];rfl
theorem Zn{G:a8}(r0:tz bj G 60 108 5)(kJ:G 0=some (lG.map fun s=>a1.v (.string s))):fP bj G [] i147:=
 Zf (f0:=147) (N:=98) (fn:=Tryz.f147) (c:=kI) (by kernel_rfl) (by kernel_rfl) Zm fun B=>Ze (FZ FT (fun _ h=>by cases h) (fun _ h=>by cases h) r0 (fun _ h=>by cases h) qD.nil 16) kJ
theorem Zo: ∀x,kz iZ.pre x→vD [] tw (gw 0 (dv iZ.ps x)):=by
 intro x _
 have h:=Zk x
 with_reducible rw[h]
 exact Zh
theorem Zp: ∀x,kz iZ.pre x→vE [] tw iZ.rs (gw 0 (dv iZ.ps x))=iZ.m x:=by
 intro x _
 with_reducible exact Zl x
theorem OI{G:a8}(r0:tz bj G 60 108 5)(kJ:G 0=some (lG.map fun s=>a1.v (.string s))):bE bj G 147 iZ:=by
 refine Zq (P:=bj) (G:=G) (M:=[]) (inl:=i147) (f:=147) (m:=iZ) (Zn r0 kJ) tw Zi Zj ?_ ?_
 ·with_reducible exact Zo
 ·with_reducible exact Zp
end Go.aK
