/- cluster.Standard: its contract. Conditions: none. -/
import Derived.Test.YtmkpmgfieagphaaGreatDoorHPn
namespace Go.aN
open Go Go.Proofs Go.eg
def l6:List ByteArray:=[⟨#[111,110,111,102,102]⟩,⟨#[108,101,118,101,108]⟩,⟨#[108,111,99,107]⟩,⟨#[116,104,101,114,109,111,115,116,97,116]⟩,⟨#[115,109,111,107,101]⟩,⟨#[108,101,97,107]⟩,⟨#[118,97,108,118,101]⟩,⟨#[109,101,116,101,114]⟩]
def uM:List ab:=l6.map fun s=>.cs (.string s)
def k1:Code→Code
 | .seq a _=>a
 |c=>c
def h4:Code→Code
 | .seq _ b=>b
 |c=>c
def DO:Code→Array Oper
 | .region _ o _=>o
 |_=>#[]
def zcq:Code→Nat
 | .region i _ _=>i
 |_=>0
def RR(P:Program)(N B:Nat)(T:List (Nat × bR))(inl:Nat→List ab→ar→aC)(ops:Array Oper)(S:ar):aC:=hN P N B T inl ops (ops.toList.drop 1) (S.put (some 5) (.cr uM))
noncomputable def k2:Code:=match bf.funcs[147]? with
 |some fn=>match fn.body with
  |some c=>c
  |none=>.skip
 |none=>.skip
noncomputable def DQ(T:List (Nat × bR))(inl:Nat→List ab→ar→aC)(N B:Nat)(S:ar):aC:=
 iO N S (comp bf N B T inl ((jM.all bf T).L N B inl) ((jM.all bf T).D N B inl) (k1 k2) 0 S) fun S=>iO N S (comp bf N B T inl ((jM.all bf T).L N B inl) ((jM.all bf T).D N B inl) (k1 (h4 k2)) 0 S) fun S=>
  iO N S (iO N S (RR bf N B T inl (DO (k1 (k1 (h4 (h4 k2))))) S) (comp bf N B T inl ((jM.all bf T).L N B inl) ((jM.all bf T).D N B inl) (h4 (k1 (h4 (h4 k2)))) 0)) (comp bf N B T inl ((jM.all bf T).L N B inl) ((jM.all bf T).D N B inl) (h4 (h4 (h4 k2))) 0)
section
variable {P:Program} {G:bc} {N B:Nat} {M:List aS} {T:List (Nat × bR)} {inl:Nat→List ab→ar→aC}
theorem zcr{e:Env}:ab.bX G e uM=(l6.map fun s=>ba.v (.string s)).map .av:=rfl
theorem zcs(b1:fT P G M inl)(k3:G 0=some (l6.map fun s=>ba.v (.string s))){id:Nat}{ops:Array Oper}{o:Oper}{t:TypeId}(ao:ops.toList=o::ops.toList.drop 1)(aa:o.op= .load t (.global 0))(hd:o.dst=some 5)(ah:o.guard=none)
 (aH:qc P t uM=some (.cr uM)):jg P G N B M (.region id ops false) (RR P N B T inl ops):=by
 intro S e ad hf ai
 have h0:ops=ops.toList.toArray:=by simp
 rw[h0]
 refine b7.region ?_
 rw[←h0,ao]
 have dJ:cY P G o (S.den G N B e) ((ab.cr uM).den G e):=IE aa (by simp only[aL,k3,fu,zcr]) aH
 have m4:(S.den G N B e).put o.dst ((ab.cr uM).den G e)=(S.put (some 5) (.cr uM)).den G N B e:=by rw[ff,hd]
 refine cD.step (by unfold dV;rw[ah]) (m4 ▸ dJ.step) ?_
 exact uN b1 _ (jh ad rfl) (ji hf) ai fun ex st ak=>ak.sub rfl (b2.refl _ _) (by rw[jj];exact Nat.le_refl _)
theorem zct:k2= .seq (k1 k2) (.seq (k1 (h4 k2)) (.seq (.seq (.region (zcq (k1 (k1 (h4 (h4 k2))))) (DO (k1 (k1 (h4 (h4 k2))))) false) (h4 (k1 (h4 (h4 k2))))) (h4 (h4 (h4 k2))))):=by kernel_rfl
theorem zcu(b1:fT bf G M inl)(k3:G 0=some (l6.map fun s=>ba.v (.string s))):jg bf G N B M k2 (DQ T inl N B):=by
 have k4:=IF (P:=bf) (G:=G) (M:=M) (T:=T) inl b1 N B
 rw[zct]
 refine Am (oZ b1 k4.1 k4.2 _ 0) (Am (oZ b1 k4.1 k4.2 _ 0) (Am (Am (zcs b1 k3 (o:=(DO (k1 (k1 (h4 (h4 k2))))).toList.headD (DO (k1 (k1 (h4 (h4 k2)))))[0]!) (t:=249) (by kernel_rfl) (by kernel_rfl) (by kernel_rfl) (by kernel_rfl) (by kernel_rfl)) (oZ b1 k4.1 k4.2 _ 0)) (oZ b1 k4.1 k4.2 _ 0)))
def IG(P:Program)(f0:Nat)(fn:Func)(N:Nat)(g:Nat→ar→aC)(f:Nat)(ys:List ab)(S:ar):aC:=
 match ys,Nat.beq f f0 with
 |[],true=>DR P f0 fn N (g S.n (qd [] S))
 |_,_=>.bad 1
theorem zcv{f0 N:Nat}{fn:Func}{c:Code}{g:Nat→ar→aC}(nV:P.funcs[f0]? =some fn)(hc:fn.body=some c)(mV:([]:List ab).length+(fn.ntmps-([]:List ab).length)=N)(ah: ∀B,jg P G N B M c (g B)):fT P G M (IG P f0 fn N g):=by
 intro f ys S e ad aq hf ai
 unfold IG at ai⊢
 split at ai
 rotate_left
 ·exact ai.elim
 rename_i IH
 obtain rfl:=Nat.eq_of_beq_eq_true IH
 generalize aH:g S.n (qd [] S)=t at ai
 unfold DR at ai⊢
 split at ai
 ·rename_i An
  obtain⟨g1,g2,g3⟩:=jk (t.rel sO) none ai
  have uO:t.safe M e:=(k5 (DS t)).1 g1
  have Ao:=ah S.n (qd [] S) e (RS ad aq) hf (by rw[aH];exact uO)
  rw[aH,←mV,RT,mV]at Ao;refine dN.RU (k:=fn.ntmps-([]:List ab).length) nV hc (by rw[ml]) (b7.RV (b7.mono Ao fun ex st ak=>?_))
  obtain⟨x,dq,az,aa,ae,au,aR,bN,cL,eH⟩:=ak;refine⟨_,au,?_⟩
  obtain⟨iP,dW,bl,cR,c7⟩:=jl (M:=M) (e:=e) An;rw[aa]at cR
  cases cR
  have ag:run M (t.rel sO) e=some (.ct,dq,az):=by
   rw[w4 (DS t),aa]
   cases x<;>first|rfl|cases c7
  obtain⟨o0,_⟩:=g3 dq az ag;rw[ag]at g2
  have g2:run M ((t.rel sO).eP (uP P fn N) none) e=run M (uP P fn N dq) az:=g2
  unfold uP at o0 g2
  split at o0
  ·rename_i v ax
   split at o0
   ·rename_i fH
    simp only[ax,fH]at g2;refine⟨(by cases x<;>cases ex<;>first|exact .inl rfl|exact .inr rfl|exact ae.elim|cases c7),v.den G az,cF G az dq.h,RX bN ax,fun _ _ h=>h,{dq with l:=bd.put .emp 0 v},az,g2,?_,rfl,⟨fun i x hx=>?_,aR.h,aR.g⟩,bN,cL,eH⟩
    ·simp only[ar.at,bd.h5,if_true]
    ·simp only[bd.h5]at hx
     split at hx
     ·cases hx;exact fH
     ·simp[bd.get]at hx
   ·exact o0.elim
  ·exact o0.elim
 ·exact ai.elim
end
def RY:Prop:=
 (0≤(8:Int)∧(8:Int)≤(8:Int)∧(8:Int)≤(maxLen:Int)∧(88:Int)*(8:Int)≤281474976710656)∧
 let a1:(List aO)→Prop:=fun bD=>
  (0≤(0:Int)∧(0:Int)<(List.length bD:Int))∧
  let v3:aO:=List.getD bD (Int.toNat (0:Int)) (aw .aO)
  let v4:List aO:=List.set bD (Int.toNat (0:Int)) ⟨v3.name,([⟨⟨#[111,110]⟩,1,0,0,[],true,false⟩]:List Attr),v3.commands,v3.events⟩
  (0≤(0:Int)∧(0:Int)<(List.length bD:Int))∧
  let bx:List Command:=([⟨⟨#[111,110]⟩,⟨⟨#[]⟩,0,0,0,[],false,false⟩,([⟨1,⟨#[111,110]⟩,1⟩]:List cX)⟩,⟨⟨#[111,102,102]⟩,⟨⟨#[]⟩,0,0,0,[],false,false⟩,([⟨1,⟨#[111,110]⟩,0⟩]:List cX)⟩,⟨⟨#[116,111,103,103,108,101]⟩,⟨⟨#[]⟩,0,0,0,[],false,false⟩,([⟨4,⟨#[111,110]⟩,0⟩]:List cX)⟩]:List Command)
  (0≤(0:Int)∧(0:Int)<(List.length v4:Int))∧
  let v9:aO:=List.getD v4 (Int.toNat (0:Int)) (aw .aO)
  let v10:List aO:=List.set v4 (Int.toNat (0:Int)) ⟨v9.name,v9.attrs,bx,v9.events⟩
  (0≤(0:Int)∧(0:Int)<(List.length v4:Int))∧
  (0≤(1:Int)∧(1:Int)<(List.length v10:Int))∧
  let v12:aO:=List.getD v10 (Int.toNat (1:Int)) (aw .aO)
  let bS:List aO:=List.set v10 (Int.toNat (1:Int)) ⟨v12.name,([⟨⟨#[108,101,118,101,108]⟩,2,0,100,[],true,false⟩]:List Attr),v12.commands,v12.events⟩
  (0≤(1:Int)∧(1:Int)<(List.length v10:Int))∧
  let cT:List Command:=([⟨⟨#[109,111,118,101]⟩,⟨⟨#[116,111]⟩,2,0,100,[],false,false⟩,([⟨2,⟨#[108,101,118,101,108]⟩,0⟩]:List cX)⟩,⟨⟨#[115,116,101,112]⟩,⟨⟨#[]⟩,0,0,0,[],false,false⟩,([⟨3,⟨#[108,101,118,101,108]⟩,10⟩]:List cX)⟩]:List Command)
  (0≤(1:Int)∧(1:Int)<(List.length bS:Int))∧
  let dD:aO:=List.getD bS (Int.toNat (1:Int)) (aw .aO)
  let dQ:List aO:=List.set bS (Int.toNat (1:Int)) ⟨dD.name,dD.attrs,cT,dD.events⟩
  (0≤(1:Int)∧(1:Int)<(List.length bS:Int))∧
  (0≤(2:Int)∧(2:Int)<(List.length dQ:Int))∧
  let v20:aO:=List.getD dQ (Int.toNat (2:Int)) (aw .aO)
  let v21:List aO:=List.set dQ (Int.toNat (2:Int)) ⟨v20.name,([⟨⟨#[108,111,99,107,101,100]⟩,1,0,0,[],true,true⟩]:List Attr),v20.commands,v20.events⟩
  (0≤(2:Int)∧(2:Int)<(List.length dQ:Int))∧
  let v24:List Command:=([⟨⟨#[108,111,99,107]⟩,⟨⟨#[]⟩,0,0,0,[],false,false⟩,([⟨1,⟨#[108,111,99,107,101,100]⟩,1⟩]:List cX)⟩,⟨⟨#[117,110,108,111,99,107]⟩,⟨⟨#[]⟩,0,0,0,[],false,false⟩,([⟨1,⟨#[108,111,99,107,101,100]⟩,0⟩]:List cX)⟩]:List Command)
  (0≤(2:Int)∧(2:Int)<(List.length v21:Int))∧
  let v25:aO:=List.getD v21 (Int.toNat (2:Int)) (aw .aO)
  let v26:List aO:=List.set v21 (Int.toNat (2:Int)) ⟨v25.name,v25.attrs,v24,v25.events⟩
  (0≤(2:Int)∧(2:Int)<(List.length v21:Int))∧
  (0≤(2:Int)∧(2:Int)<(List.length v26:Int))∧
  let v28:aO:=List.getD v26 (Int.toNat (2:Int)) (aw .aO)
  let h3:List aO:=List.set v26 (Int.toNat (2:Int)) ⟨v28.name,v28.attrs,v28.commands,([⟨#[106,97,109]⟩]:List ByteArray)⟩
  (0≤(2:Int)∧(2:Int)<(List.length v26:Int))∧
  (0≤(3:Int)∧(3:Int)<(List.length h3:Int))∧
  let v31:aO:=List.getD h3 (Int.toNat (3:Int)) (aw .aO)
  let DT:List aO:=List.set h3 (Int.toNat (3:Int)) ⟨v31.name,([⟨⟨#[116,97,114,103,101,116]⟩,2,50,300,[],true,false⟩,⟨⟨#[116,101,109,112]⟩,2,(-500),1000,[],false,false⟩]:List Attr),v31.commands,v31.events⟩
  (0≤(3:Int)∧(3:Int)<(List.length h3:Int))∧
  (0≤(4:Int)∧(4:Int)<(List.length DT:Int))∧
  let Ap:aO:=List.getD DT (Int.toNat (4:Int)) (aw .aO)
  let DU:List aO:=List.set DT (Int.toNat (4:Int)) ⟨Ap.name,([⟨⟨#[97,108,97,114,109]⟩,1,0,0,[],false,true⟩]:List Attr),Ap.commands,Ap.events⟩
  (0≤(4:Int)∧(4:Int)<(List.length DT:Int))∧
  (0≤(4:Int)∧(4:Int)<(List.length DU:Int))∧
  let v37:aO:=List.getD DU (Int.toNat (4:Int)) (aw .aO)
  let DV:List aO:=List.set DU (Int.toNat (4:Int)) ⟨v37.name,v37.attrs,v37.commands,([⟨#[116,101,115,116]⟩]:List ByteArray)⟩
  (0≤(4:Int)∧(4:Int)<(List.length DU:Int))∧
  (0≤(5:Int)∧(5:Int)<(List.length DV:Int))∧
  let v40:aO:=List.getD DV (Int.toNat (5:Int)) (aw .aO)
  let DW:List aO:=List.set DV (Int.toNat (5:Int)) ⟨v40.name,([⟨⟨#[119,101,116]⟩,1,0,0,[],false,true⟩]:List Attr),v40.commands,v40.events⟩
  (0≤(5:Int)∧(5:Int)<(List.length DV:Int))∧
  (0≤(6:Int)∧(6:Int)<(List.length DW:Int))∧
  let II:aO:=List.getD DW (Int.toNat (6:Int)) (aw .aO)
  let DX:List aO:=List.set DW (Int.toNat (6:Int)) ⟨II.name,([⟨⟨#[111,112,101,110]⟩,1,0,0,[],true,true⟩]:List Attr),II.commands,II.events⟩
  (0≤(6:Int)∧(6:Int)<(List.length DW:Int))∧
  let zcw:List Command:=([⟨⟨#[111,112,101,110]⟩,⟨⟨#[]⟩,0,0,0,[],false,false⟩,([⟨1,⟨#[111,112,101,110]⟩,1⟩]:List cX)⟩,⟨⟨#[99,108,111,115,101]⟩,⟨⟨#[]⟩,0,0,0,[],false,false⟩,([⟨1,⟨#[111,112,101,110]⟩,0⟩]:List cX)⟩]:List Command)
  (0≤(6:Int)∧(6:Int)<(List.length DX:Int))∧
  let IJ:aO:=List.getD DX (Int.toNat (6:Int)) (aw .aO)
  let v49:List aO:=List.set DX (Int.toNat (6:Int)) ⟨IJ.name,IJ.attrs,zcw,IJ.events⟩
  (0≤(6:Int)∧(6:Int)<(List.length DX:Int))∧
  (0≤(7:Int)∧(7:Int)<(List.length v49:Int))∧
  let v51:aO:=List.getD v49 (Int.toNat (7:Int)) (aw .aO)
  0≤(7:Int)∧(7:Int)<(List.length v49:Int)
 ∃bp:Nat→((List aO))→Prop,bp 0 (List.replicate (Int.toNat (8:Int)) (aw .aO))∧(∀(i2:Nat) (d0:(List aO)),i2<Int.toNat (8:Int)→bp i2 d0→(
  let v4:ByteArray:=IK ([⟨#[111,110,111,102,102]⟩,⟨#[108,101,118,101,108]⟩,⟨#[108,111,99,107]⟩,⟨#[116,104,101,114,109,111,115,116,97,116]⟩,⟨#[115,109,111,107,101]⟩,⟨#[108,101,97,107]⟩,⟨#[118,97,108,118,101]⟩,⟨#[109,101,116,101,114]⟩]:List ByteArray) (Int.toNat (i2:Int))
  (0≤(i2:Int)∧(i2:Int)<(List.length d0:Int))∧
  let v5:aO:=List.getD d0 (Int.toNat (i2:Int)) (aw .aO)
  (0≤(i2:Int)∧(i2:Int)<(List.length d0:Int))∧
  bp (i2+1) (List.set d0 (Int.toNat (i2:Int)) ⟨v4,v5.attrs,v5.commands,v5.events⟩)))∧∀bD,bp (Int.toNat (8:Int)) bD→a1 bD
theorem zcx:RY:=by
 refine⟨by decide,fun _ d=>d.length=8,by simp,fun i d hi hd=>?_,fun c hc=>?_⟩
 ·have hi:i<8:=hi
  dsimp only;simp only[List.length_set];exact⟨by omega,by omega,hd⟩
 ·have hc:c.length=8:=hc
  dsimp only;simp only[List.length_set,hc];decide
noncomputable def i147:Nat→List ab→ar→aC:=IG bf 147 Tryz.f147 98 fun B=>DQ w5 (DY bf (jM.all bf w5) w5 (60,108,5) [] [] [] [] 16) 98 B
noncomputable def uQ:aC:=i147 147 (hE 0 []) (qe 0)
theorem zcy:i147 147 (hE 0 jm.ps) (qe jm.ps.length)=uQ:=by kernel_rfl
theorem zcz:uQ.gB.all (uR jm.rs)=true:=by kernel_rfl
theorem zcA(x:(fg jm.ps).den):w6 [] uQ (gC 0 (dE jm.ps x))=RY:=by kernel_rfl
theorem zcB(x:(fg jm.ps).den):w7 [] uQ jm.rs (gC 0 (dE jm.ps x))=jm.m x:=by kernel_rfl
theorem n147:Tryz.f147.ntmps=98:=by kernel_rfl
theorem zcC:([]:List ab).length+(Tryz.f147.ntmps-([]:List ab).length)=98:=by rw[n147];rfl
theorem zcD{G:bc}(sP:uS bf G 60 108 5)(k3:G 0=some (l6.map fun s=>ba.v (.string s))):fT bf G [] i147:=
 zcv (f0:=147) (N:=98) (fn:=Tryz.f147) (c:=k2) (by kernel_rfl) (by kernel_rfl) zcC fun B=>zcu (IL IF (fun _ h=>by cases h) (fun _ h=>by cases h) sP (fun _ h=>by cases h) rk.nil 16) k3
theorem zcE: ∀x,lz jm.pre x→w6 [] uQ (gC 0 (dE jm.ps x)):=by
 intro x _
 have h:=zcA x
 with_reducible rw[h]
 exact zcx
theorem zcF: ∀x,lz jm.pre x→w7 [] uQ jm.rs (gC 0 (dE jm.ps x))=jm.m x:=by
 intro x _
 with_reducible exact zcB x
theorem zcG{G:bc}(sP:uS bf G 60 108 5)(k3:G 0=some (l6.map fun s=>ba.v (.string s))):bE bf G 147 jm:=by
 refine zcH (P:=bf) (G:=G) (M:=[]) (inl:=i147) (f:=147) (m:=jm) (zcD sP k3) uQ zcy zcz ?_ ?_
 ·with_reducible exact zcE
 ·with_reducible exact zcF
end Go.aN
