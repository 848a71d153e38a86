/- cluster.Standard: its contract. Conditions: none. -/
import Derived.Test.YtmkpmgfieagphaaGreatDoorKPn
namespace Go.aL
open Go Go.Proofs Go.eL
def l4:List ByteArray:=[⟨#[111,110,111,102,102]⟩,⟨#[108,101,118,101,108]⟩,⟨#[108,111,99,107]⟩,⟨#[116,104,101,114,109,111,115,116,97,116]⟩,⟨#[115,109,111,107,101]⟩,⟨#[108,101,97,107]⟩,⟨#[118,97,108,118,101]⟩,⟨#[109,101,116,101,114]⟩]
def uE:List ab:=l4.map fun s=>.cs (.string s)
def k3:Code→Code
 | .seq a _=>a
 |c=>c
def hZ:Code→Code
 | .seq _ b=>b
 |c=>c
def CW:Code→Array Oper
 | .region _ o _=>o
 |_=>#[]
def zaC:Code→Nat
 | .region i _ _=>i
 |_=>0
def Qk(P:Program)(N B:Nat)(T:List (Nat × bL))(inl:Nat→List ab→ao→aC)(ops:Array Oper)(S:ao):aC:=hJ P N B T inl ops (ops.toList.drop 1) (S.put (some 5) (.ch uE))
noncomputable def k4:Code:=match bj.funcs[147]? with
 |some fn=>match fn.body with
  |some c=>c
  |none=>.skip
 |none=>.skip
noncomputable def CX(T:List (Nat × bL))(inl:Nat→List ab→ao→aC)(N B:Nat)(S:ao):aC:=
 iM N S (comp bj N B T inl ((jH.all bj T).L N B inl) ((jH.all bj T).D N B inl) (k3 k4) 0 S) fun S=>iM N S (comp bj N B T inl ((jH.all bj T).L N B inl) ((jH.all bj T).D N B inl) (k3 (hZ k4)) 0 S) fun S=>
  iM N S (iM N S (Qk bj N B T inl (CW (k3 (k3 (hZ (hZ k4))))) S) (comp bj N B T inl ((jH.all bj T).L N B inl) ((jH.all bj T).D N B inl) (hZ (k3 (hZ (hZ k4)))) 0)) (comp bj N B T inl ((jH.all bj T).L N B inl) ((jH.all bj T).D N B inl) (hZ (hZ (hZ k4))) 0)
section
variable {P:Program} {G:a8} {N B:Nat} {M:List aR} {T:List (Nat × bL)} {inl:Nat→List ab→ao→aC}
theorem zaD{e:Env}:ab.bQ G e uE=(l4.map fun s=>a6.v (.string s)).map .av:=rfl
theorem zaE(bW:fP P G M inl)(k5:G 0=some (l4.map fun s=>a6.v (.string s))){id:Nat}{ops:Array Oper}{o:Oper}{t:TypeId}(an:ops.toList=o::ops.toList.drop 1)(aa:o.op= .load t (.global 0))(hd:o.dst=some 5)(ah:o.guard=none)
 (aH:qe P t uE=some (.ch uE)):jc P G N B M (.region id ops false) (Qk P N B T inl ops):=by
 intro S e ad hf ai
 have iY:ops=ops.toList.toArray:=by simp
 rw[iY]
 refine b2.region ?_
 rw[←iY,an]
 have dD:cQ P G o (S.den G N B e) ((ab.ch uE).den G e):=Hu aa (by simp only[aJ,k5,fp,zaD]) aH
 have mW:(S.den G N B e).put o.dst ((ab.ch uE).den G e)=(S.put (some 5) (.ch uE)).den G N B e:=by rw[fb,hd]
 refine cv.step (by unfold dO;rw[ah]) (mW ▸ dD.step) ?_
 exact uF bW _ (jd ad rfl) (je hf) ai fun ex st ak=>ak.sub rfl (bX.refl _ _) (by rw[jf];exact Nat.le_refl _)
theorem zaF:k4= .seq (k3 k4) (.seq (k3 (hZ k4)) (.seq (.seq (.region (zaC (k3 (k3 (hZ (hZ k4))))) (CW (k3 (k3 (hZ (hZ k4))))) false) (hZ (k3 (hZ (hZ k4))))) (hZ (hZ (hZ k4))))):=by kernel_rfl
theorem zaG(bW:fP bj G M inl)(k5:G 0=some (l4.map fun s=>a6.v (.string s))):jc bj G N B M k4 (CX T inl N B):=by
 have k6:=Hv (P:=bj) (G:=G) (M:=M) (T:=T) inl bW N B
 rw[zaF]
 refine zt (oR bW k6.1 k6.2 _ 0) (zt (oR bW k6.1 k6.2 _ 0) (zt (zt (zaE bW k5 (o:=(CW (k3 (k3 (hZ (hZ k4))))).toList.headD (CW (k3 (k3 (hZ (hZ k4)))))[0]!) (t:=249) (by kernel_rfl) (by kernel_rfl) (by kernel_rfl) (by kernel_rfl) (by kernel_rfl)) (oR bW k6.1 k6.2 _ 0)) (oR bW k6.1 k6.2 _ 0)))
def Hw(P:Program)(f0:Nat)(fn:Func)(N:Nat)(g:Nat→ao→aC)(f:Nat)(ys:List ab)(S:ao):aC:=
 match ys,Nat.beq f f0 with
 |[],true=>CY P f0 fn N (g S.n (qf [] S))
 |_,_=>.bad 1
theorem zaH{f0 N:Nat}{fn:Func}{c:Code}{g:Nat→ao→aC}(mc:P.funcs[f0]? =some fn)(hc:fn.body=some c)(gU:([]:List ab).length+(fn.ntmps-([]:List ab).length)=N)(ah: ∀B,jc P G N B M c (g B)):fP P G M (Hw P f0 fn N g):=by
 intro f ys S e ad aq hf ai
 unfold Hw at ai⊢
 split at ai
 rotate_left
 ·exact ai.elim
 rename_i Hy
 obtain rfl:=Nat.eq_of_beq_eq_true Hy
 generalize aH:g S.n (qf [] S)=t at ai
 unfold CY at ai⊢
 split at ai
 ·rename_i zu
  obtain⟨g1,g2,g3⟩:=jg (t.rel sN) none ai
  have uG:t.safe M e:=(k7 (CZ t)).1 g1
  have zv:=ah S.n (qf [] S) e (Ql ad aq) hf (by rw[aH];exact uG)
  rw[aH,←gU,Qm,gU]at zv;refine dG.Qn (k:=fn.ntmps-([]:List ab).length) mc hc (by rw[me]) (b2.Qo (b2.mono zv fun ex st ak=>?_))
  obtain⟨x,dc,ay,aa,ae,au,aQ,bF,cG,ea⟩:=ak;refine⟨_,au,?_⟩
  obtain⟨iN,dP,bf,c1,dg⟩:=jh (M:=M) (e:=e) zu;rw[aa]at c1
  cases c1
  have ag:run M (t.rel sN) e=some (.cj,dc,ay):=by
   rw[wI (CZ t),aa]
   cases x<;>first|rfl|cases dg
  obtain⟨oS,_⟩:=g3 dc ay ag;rw[ag]at g2
  have g2:run M ((t.rel sN).eJ (uH P fn N) none) e=run M (uH P fn N dc) ay:=g2
  unfold uH at oS g2
  split at oS
  ·rename_i v aw
   split at oS
   ·rename_i fD
    simp only[aw,fD]at g2;refine⟨(by cases x<;>cases ex<;>first|exact .inl rfl|exact .inr rfl|exact ae.elim|cases dg),v.den G ay,cy G ay dc.h,Qp bF aw,fun _ _ h=>h,{dc with l:=ba.put .emp 0 v},ay,g2,?_,rfl,⟨fun i x hx=>?_,aQ.h,aQ.g⟩,bF,cG,ea⟩
    ·simp only[ao.at,ba.h0,if_true]
    ·simp only[ba.h0]at hx
     split at hx
     ·cases hx;exact fD
     ·simp[ba.get]at hx
   ·exact oS.elim
  ·exact oS.elim
 ·exact ai.elim
end
def Qq:Prop:=
 (0≤(8:Int)∧(8:Int)≤(8:Int)∧(8:Int)≤(maxLen:Int)∧(88:Int)*(8:Int)≤281474976710656)∧
 let aX:(List aK)→Prop:=fun bS=>
  (0≤(0:Int)∧(0:Int)<(List.length bS:Int))∧
  let v3:aK:=List.getD bS (Int.toNat (0:Int)) (aA .aK)
  let v4:List aK:=List.set bS (Int.toNat (0:Int)) ⟨v3.name,([⟨⟨#[111,110]⟩,1,0,0,[],true,false⟩]:List Attr),v3.commands,v3.events⟩
  (0≤(0:Int)∧(0:Int)<(List.length bS:Int))∧
  let bz:List Command:=([⟨⟨#[111,110]⟩,⟨⟨#[]⟩,0,0,0,[],false,false⟩,([⟨1,⟨#[111,110]⟩,1⟩]:List cP)⟩,⟨⟨#[111,102,102]⟩,⟨⟨#[]⟩,0,0,0,[],false,false⟩,([⟨1,⟨#[111,110]⟩,0⟩]:List cP)⟩,⟨⟨#[116,111,103,103,108,101]⟩,⟨⟨#[]⟩,0,0,0,[],false,false⟩,([⟨4,⟨#[111,110]⟩,0⟩]:List cP)⟩]:List Command)
  (0≤(0:Int)∧(0:Int)<(List.length v4:Int))∧
  let v9:aK:=List.getD v4 (Int.toNat (0:Int)) (aA .aK)
  let v10:List aK:=List.set v4 (Int.toNat (0:Int)) ⟨v9.name,v9.attrs,bz,v9.events⟩
  (0≤(0:Int)∧(0:Int)<(List.length v4:Int))∧
  (0≤(1:Int)∧(1:Int)<(List.length v10:Int))∧
  let v12:aK:=List.getD v10 (Int.toNat (1:Int)) (aA .aK)
  let bU:List aK:=List.set v10 (Int.toNat (1:Int)) ⟨v12.name,([⟨⟨#[108,101,118,101,108]⟩,2,0,100,[],true,false⟩]:List Attr),v12.commands,v12.events⟩
  (0≤(1:Int)∧(1:Int)<(List.length v10:Int))∧
  let c9:List Command:=([⟨⟨#[109,111,118,101]⟩,⟨⟨#[116,111]⟩,2,0,100,[],false,false⟩,([⟨2,⟨#[108,101,118,101,108]⟩,0⟩]:List cP)⟩,⟨⟨#[115,116,101,112]⟩,⟨⟨#[]⟩,0,0,0,[],false,false⟩,([⟨3,⟨#[108,101,118,101,108]⟩,10⟩]:List cP)⟩]:List Command)
  (0≤(1:Int)∧(1:Int)<(List.length bU:Int))∧
  let dN:aK:=List.getD bU (Int.toNat (1:Int)) (aA .aK)
  let eb:List aK:=List.set bU (Int.toNat (1:Int)) ⟨dN.name,dN.attrs,c9,dN.events⟩
  (0≤(1:Int)∧(1:Int)<(List.length bU:Int))∧
  (0≤(2:Int)∧(2:Int)<(List.length eb:Int))∧
  let v20:aK:=List.getD eb (Int.toNat (2:Int)) (aA .aK)
  let v21:List aK:=List.set eb (Int.toNat (2:Int)) ⟨v20.name,([⟨⟨#[108,111,99,107,101,100]⟩,1,0,0,[],true,true⟩]:List Attr),v20.commands,v20.events⟩
  (0≤(2:Int)∧(2:Int)<(List.length eb:Int))∧
  let v24:List Command:=([⟨⟨#[108,111,99,107]⟩,⟨⟨#[]⟩,0,0,0,[],false,false⟩,([⟨1,⟨#[108,111,99,107,101,100]⟩,1⟩]:List cP)⟩,⟨⟨#[117,110,108,111,99,107]⟩,⟨⟨#[]⟩,0,0,0,[],false,false⟩,([⟨1,⟨#[108,111,99,107,101,100]⟩,0⟩]:List cP)⟩]:List Command)
  (0≤(2:Int)∧(2:Int)<(List.length v21:Int))∧
  let v25:aK:=List.getD v21 (Int.toNat (2:Int)) (aA .aK)
  let v26:List aK:=List.set v21 (Int.toNat (2:Int)) ⟨v25.name,v25.attrs,v24,v25.events⟩
  (0≤(2:Int)∧(2:Int)<(List.length v21:Int))∧
  (0≤(2:Int)∧(2:Int)<(List.length v26:Int))∧
  let v28:aK:=List.getD v26 (Int.toNat (2:Int)) (aA .aK)
  let iv:List aK:=List.set v26 (Int.toNat (2:Int)) ⟨v28.name,v28.attrs,v28.commands,([⟨#[106,97,109]⟩]:List ByteArray)⟩
  (0≤(2:Int)∧(2:Int)<(List.length v26:Int))∧
  (0≤(3:Int)∧(3:Int)<(List.length iv:Int))∧
  let v31:aK:=List.getD iv (Int.toNat (3:Int)) (aA .aK)
  let wJ:List aK:=List.set iv (Int.toNat (3:Int)) ⟨v31.name,([⟨⟨#[116,97,114,103,101,116]⟩,2,50,300,[],true,false⟩,⟨⟨#[116,101,109,112]⟩,2,(-500),1000,[],false,false⟩]:List Attr),v31.commands,v31.events⟩
  (0≤(3:Int)∧(3:Int)<(List.length iv:Int))∧
  (0≤(4:Int)∧(4:Int)<(List.length wJ:Int))∧
  let zw:aK:=List.getD wJ (Int.toNat (4:Int)) (aA .aK)
  let C0:List aK:=List.set wJ (Int.toNat (4:Int)) ⟨zw.name,([⟨⟨#[97,108,97,114,109]⟩,1,0,0,[],false,true⟩]:List Attr),zw.commands,zw.events⟩
  (0≤(4:Int)∧(4:Int)<(List.length wJ:Int))∧
  (0≤(4:Int)∧(4:Int)<(List.length C0:Int))∧
  let v37:aK:=List.getD C0 (Int.toNat (4:Int)) (aA .aK)
  let C1:List aK:=List.set C0 (Int.toNat (4:Int)) ⟨v37.name,v37.attrs,v37.commands,([⟨#[116,101,115,116]⟩]:List ByteArray)⟩
  (0≤(4:Int)∧(4:Int)<(List.length C0:Int))∧
  (0≤(5:Int)∧(5:Int)<(List.length C1:Int))∧
  let v40:aK:=List.getD C1 (Int.toNat (5:Int)) (aA .aK)
  let C2:List aK:=List.set C1 (Int.toNat (5:Int)) ⟨v40.name,([⟨⟨#[119,101,116]⟩,1,0,0,[],false,true⟩]:List Attr),v40.commands,v40.events⟩
  (0≤(5:Int)∧(5:Int)<(List.length C1:Int))∧
  (0≤(6:Int)∧(6:Int)<(List.length C2:Int))∧
  let Hz:aK:=List.getD C2 (Int.toNat (6:Int)) (aA .aK)
  let C3:List aK:=List.set C2 (Int.toNat (6:Int)) ⟨Hz.name,([⟨⟨#[111,112,101,110]⟩,1,0,0,[],true,true⟩]:List Attr),Hz.commands,Hz.events⟩
  (0≤(6:Int)∧(6:Int)<(List.length C2:Int))∧
  let zaI:List Command:=([⟨⟨#[111,112,101,110]⟩,⟨⟨#[]⟩,0,0,0,[],false,false⟩,([⟨1,⟨#[111,112,101,110]⟩,1⟩]:List cP)⟩,⟨⟨#[99,108,111,115,101]⟩,⟨⟨#[]⟩,0,0,0,[],false,false⟩,([⟨1,⟨#[111,112,101,110]⟩,0⟩]:List cP)⟩]:List Command)
  (0≤(6:Int)∧(6:Int)<(List.length C3:Int))∧
  let HA:aK:=List.getD C3 (Int.toNat (6:Int)) (aA .aK)
  let v49:List aK:=List.set C3 (Int.toNat (6:Int)) ⟨HA.name,HA.attrs,zaI,HA.events⟩
  (0≤(6:Int)∧(6:Int)<(List.length C3:Int))∧
  (0≤(7:Int)∧(7:Int)<(List.length v49:Int))∧
  let v51:aK:=List.getD v49 (Int.toNat (7:Int)) (aA .aK)
  0≤(7:Int)∧(7:Int)<(List.length v49:Int)
 ∃bC:Nat→((List aK))→Prop,bC 0 (List.replicate (Int.toNat (8:Int)) (aA .aK))∧(∀(i2:Nat) (d0:(List aK)),i2<Int.toNat (8:Int)→bC i2 d0→(
  let v4:ByteArray:=HB ([⟨#[111,110,111,102,102]⟩,⟨#[108,101,118,101,108]⟩,⟨#[108,111,99,107]⟩,⟨#[116,104,101,114,109,111,115,116,97,116]⟩,⟨#[115,109,111,107,101]⟩,⟨#[108,101,97,107]⟩,⟨#[118,97,108,118,101]⟩,⟨#[109,101,116,101,114]⟩]:List ByteArray) (Int.toNat (i2:Int))
  (0≤(i2:Int)∧(i2:Int)<(List.length d0:Int))∧
  let v5:aK:=List.getD d0 (Int.toNat (i2:Int)) (aA .aK)
  (0≤(i2:Int)∧(i2:Int)<(List.length d0:Int))∧
  bC (i2+1) (List.set d0 (Int.toNat (i2:Int)) ⟨v4,v5.attrs,v5.commands,v5.events⟩)))∧∀bS,bC (Int.toNat (8:Int)) bS→aX bS
theorem zaJ:Qq:=by
 refine⟨by decide,fun _ d=>d.length=8,by simp,fun i d hi hd=>?_,fun c hc=>?_⟩
 ·have hi:i<8:=hi
  dsimp only;simp only[List.length_set];exact⟨by omega,by omega,hd⟩
 ·have hc:c.length=8:=hc
  dsimp only;simp only[List.length_set,hc];decide
noncomputable def i147:Nat→List ab→ao→aC:=Hw bj 147 Tryz.f147 98 fun B=>CX uI (C4 bj (jH.all bj uI) uI (60,108,5) [] [] [] [] 16) 98 B
noncomputable def uJ:aC:=i147 147 (hA 0 []) (qg 0)
theorem zaK:i147 147 (hA 0 ji.ps) (qg ji.ps.length)=uJ:=by kernel_rfl
theorem zaL:uJ.gw.all (uK ji.rs)=true:=by kernel_rfl
theorem zaM(x:(fc ji.ps).den):wK [] uJ (gx 0 (dy ji.ps x))=Qq:=by kernel_rfl
theorem zaN(x:(fc ji.ps).den):wL [] uJ ji.rs (gx 0 (dy ji.ps x))=ji.m x:=by kernel_rfl
theorem n147:Tryz.f147.ntmps=98:=by kernel_rfl
theorem zaO:([]:List ab).length+(Tryz.f147.ntmps-([]:List ab).length)=98:=by rw[n147];rfl
theorem zaP{G:a8}(sO:uL bj G 60 108 5)(k5:G 0=some (l4.map fun s=>a6.v (.string s))):fP bj G [] i147:=
 zaH (f0:=147) (N:=98) (fn:=Tryz.f147) (c:=k4) (by kernel_rfl) (by kernel_rfl) zaO fun B=>zaG (HC Hv (fun _ h=>by cases h) (fun _ h=>by cases h) sO (fun _ h=>by cases h) rp.nil 16) k5
theorem zaQ: ∀x,kP ji.pre x→wK [] uJ (gx 0 (dy ji.ps x)):=by
 intro x _
 have h:=zaM x
 with_reducible rw[h]
 exact zaJ
theorem zaR: ∀x,kP ji.pre x→wL [] uJ ji.rs (gx 0 (dy ji.ps x))=ji.m x:=by
 intro x _
 with_reducible exact zaN x
theorem Qr{G:a8}(sO:uL bj G 60 108 5)(k5:G 0=some (l4.map fun s=>a6.v (.string s))):bJ bj G 147 ji:=by
 refine zaS (P:=bj) (G:=G) (M:=[]) (inl:=i147) (f:=147) (m:=ji) (zaP sO k5) uJ zaK zaL ?_ ?_
 ·with_reducible exact zaQ
 ·with_reducible exact zaR
end Go.aL
