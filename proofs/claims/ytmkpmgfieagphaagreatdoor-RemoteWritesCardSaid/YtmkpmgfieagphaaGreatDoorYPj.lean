/- cluster.Standard: its contract. Conditions: none. -/
import Derived.Test.YtmkpmgfieagphaaGreatDoorYPn
namespace Go.aO
open Go Go.Proofs Go.eK
def lN:List ByteArray:=[⟨#[111,110,111,102,102]⟩,⟨#[108,101,118,101,108]⟩,⟨#[108,111,99,107]⟩,⟨#[116,104,101,114,109,111,115,116,97,116]⟩,⟨#[115,109,111,107,101]⟩,⟨#[108,101,97,107]⟩,⟨#[118,97,108,118,101]⟩,⟨#[109,101,116,101,114]⟩]
def tR:List ab:=lN.map fun s=>.cs (.string s)
def kJ:Code→Code
 | .seq a _=>a
 |c=>c
def hU:Code→Code
 | .seq _ b=>b
 |c=>c
def CC:Code→Array Oper
 | .region _ o _=>o
 |_=>#[]
def zah:Code→Nat
 | .region i _ _=>i
 |_=>0
def Qi(P:Program)(N B:Nat)(T:List (Nat × bJ))(inl:Nat→List ab→aq→aD)(ops:Array Oper)(S:aq):aD:=hE P N B T inl ops (ops.toList.drop 1) (S.put (some 5) (.bO tR))
noncomputable def kK:Code:=match bj.funcs[147]? with
 |some fn=>match fn.body with
  |some c=>c
  |none=>.skip
 |none=>.skip
noncomputable def CD(T:List (Nat × bJ))(inl:Nat→List ab→aq→aD)(N B:Nat)(S:aq):aD:=
 iN N S (comp bj N B T inl ((h5.all bj T).L N B inl) ((h5.all bj T).D N B inl) (kJ kK) 0 S) fun S=>iN N S (comp bj N B T inl ((h5.all bj T).L N B inl) ((h5.all bj T).D N B inl) (kJ (hU kK)) 0 S) fun S=>
  iN N S (iN N S (Qi bj N B T inl (CC (kJ (kJ (hU (hU kK))))) S) (comp bj N B T inl ((h5.all bj T).L N B inl) ((h5.all bj T).D N B inl) (hU (kJ (hU (hU kK)))) 0)) (comp bj N B T inl ((h5.all bj T).L N B inl) ((h5.all bj T).D N B inl) (hU (hU (hU kK))) 0)
section
variable {P:Program} {G:bd} {N B:Nat} {M:List aV} {T:List (Nat × bJ)} {inl:Nat→List ab→aq→aD}
theorem zai{e:Env}:ab.bX G e tR=(lN.map fun s=>bb.v (.string s)).map .aw:=rfl
theorem zaj(b2:fE P G M inl)(kL:G 0=some (lN.map fun s=>bb.v (.string s))){id:Nat}{ops:Array Oper}{o:Oper}{t:TypeId}(ao:ops.toList=o::ops.toList.drop 1)(aa:o.op= .load t (.global 0))(hd:o.dst=some 5)(ah:o.guard=none)
 (aK:pL P t tR=some (.bO tR)):iO P G N B M (.region id ops false) (Qi P N B T inl ops):=by
 intro S e ad hf ai
 have il:ops=ops.toList.toArray:=by simp
 rw[il]
 refine b6.region ?_
 rw[←il,ao]
 have dH:cX P G o (S.den G N B e) ((ab.bO tR).den G e):=Hr aa (by simp only[aM,kL,fr,zai]) aK
 have mF:(S.den G N B e).put o.dst ((ab.bO tR).den G e)=(S.put (some 5) (.bO tR)).den G N B e:=by rw[ff,hd]
 refine cE.step (by unfold dO;rw[ah]) (mF ▸ dH.step) ?_
 exact tS b2 _ (je ad rfl) (jf hf) ai fun ex st ak=>ak.sub rfl (b3.refl _ _) (by rw[jg];exact Nat.le_refl _)
theorem zak:kK= .seq (kJ kK) (.seq (kJ (hU kK)) (.seq (.seq (.region (zah (kJ (kJ (hU (hU kK))))) (CC (kJ (kJ (hU (hU kK))))) false) (hU (kJ (hU (hU kK))))) (hU (hU (hU kK))))):=by kernel_rfl
theorem zal(b2:fE bj G M inl)(kL:G 0=some (lN.map fun s=>bb.v (.string s))):iO bj G N B M kK (CD T inl N B):=by
 have kM:=Hs (P:=bj) (G:=G) (M:=M) (T:=T) inl b2 N B
 rw[zak]
 refine y3 (ot b2 kM.1 kM.2 _ 0) (y3 (ot b2 kM.1 kM.2 _ 0) (y3 (y3 (zaj b2 kL (o:=(CC (kJ (kJ (hU (hU kK))))).toList.headD (CC (kJ (kJ (hU (hU kK)))))[0]!) (t:=249) (by kernel_rfl) (by kernel_rfl) (by kernel_rfl) (by kernel_rfl) (by kernel_rfl)) (ot b2 kM.1 kM.2 _ 0)) (ot b2 kM.1 kM.2 _ 0)))
def Ht(P:Program)(f0:Nat)(fn:Func)(N:Nat)(g:Nat→aq→aD)(f:Nat)(ys:List ab)(S:aq):aD:=
 match ys,Nat.beq f f0 with
 |[],true=>CE P f0 fn N (g S.n (pM [] S))
 |_,_=>.bad 1
theorem zam{f0 N:Nat}{fn:Func}{c:Code}{g:Nat→aq→aD}(nt:P.funcs[f0]? =some fn)(hc:fn.body=some c)(ou:([]:List ab).length+(fn.ntmps-([]:List ab).length)=N)(ah: ∀B,iO P G N B M c (g B)):fE P G M (Ht P f0 fn N g):=by
 intro f ys S e ad ar hf ai
 unfold Ht at ai⊢
 split at ai
 rotate_left
 ·exact ai.elim
 rename_i Hu
 obtain rfl:=Nat.eq_of_beq_eq_true Hu
 generalize aK:g S.n (pM [] S)=t at ai
 unfold CE at ai⊢
 split at ai
 ·rename_i y4
  obtain⟨g1,g2,g3⟩:=jh (t.rel se) none ai
  have tT:t.safe M e:=(kN (CF t)).1 g1
  have y5:=ah S.n (pM [] S) e (Qj ad ar) hf (by rw[aK];exact tT)
  rw[aK,←ou,Qk,ou]at y5;refine dJ.Ql (k:=fn.ntmps-([]:List ab).length) nt hc (by rw[lZ]) (b6.Qm (b6.mono y5 fun ex st ak=>?_))
  obtain⟨x,dn,aB,aa,ae,au,aW,bN,c5,eD⟩:=ak;refine⟨_,au,?_⟩
  obtain⟨iP,dP,bo,da,dm⟩:=ji (M:=M) (e:=e) y4;rw[aa]at da
  cases da
  have ag:run M (t.rel se) e=some (.cp,dn,aB):=by
   rw[vW (CF t),aa]
   cases x<;>first|rfl|cases dm
  obtain⟨ov,_⟩:=g3 dn aB ag;rw[ag]at g2
  have g2:run M ((t.rel se).eL (tU P fn N) none) e=run M (tU P fn N dn) aB:=g2
  unfold tU at ov g2
  split at ov
  ·rename_i v ax
   split at ov
   ·rename_i fF
    simp only[ax,fF]at g2;refine⟨(by cases x<;>cases ex<;>first|exact .inl rfl|exact .inr rfl|exact ae.elim|cases dm),v.den G aB,cH G aB dn.h,Qn bN ax,fun _ _ h=>h,{dn with l:=bg.put .emp 0 v},aB,g2,?_,rfl,⟨fun i x hx=>?_,aW.h,aW.g⟩,bN,c5,eD⟩
    ·simp only[aq.at,bg.hV,if_true]
    ·simp only[bg.hV]at hx
     split at hx
     ·cases hx;exact fF
     ·simp[bg.get]at hx
   ·exact ov.elim
  ·exact ov.elim
 ·exact ai.elim
end
def Qo:Prop:=
 (0≤(8:Int)∧(8:Int)≤(8:Int)∧(8:Int)≤(maxLen:Int)∧(88:Int)*(8:Int)≤281474976710656)∧
 let a1:(List aA)→Prop:=fun bl=>
  (0≤(0:Int)∧(0:Int)<(List.length bl:Int))∧
  let v3:aA:=List.getD bl (Int.toNat (0:Int)) (av .aA)
  let v4:List aA:=List.set bl (Int.toNat (0:Int)) ⟨v3.name,([⟨⟨#[111,110]⟩,1,0,0,[],true,false⟩]:List Attr),v3.commands,v3.events⟩
  (0≤(0:Int)∧(0:Int)<(List.length bl:Int))∧
  let br:List Command:=([⟨⟨#[111,110]⟩,⟨⟨#[]⟩,0,0,0,[],false,false⟩,([⟨1,⟨#[111,110]⟩,1⟩]:List bV)⟩,⟨⟨#[111,102,102]⟩,⟨⟨#[]⟩,0,0,0,[],false,false⟩,([⟨1,⟨#[111,110]⟩,0⟩]:List bV)⟩,⟨⟨#[116,111,103,103,108,101]⟩,⟨⟨#[]⟩,0,0,0,[],false,false⟩,([⟨4,⟨#[111,110]⟩,0⟩]:List bV)⟩]:List Command)
  (0≤(0:Int)∧(0:Int)<(List.length v4:Int))∧
  let v9:aA:=List.getD v4 (Int.toNat (0:Int)) (av .aA)
  let v10:List aA:=List.set v4 (Int.toNat (0:Int)) ⟨v9.name,v9.attrs,br,v9.events⟩
  (0≤(0:Int)∧(0:Int)<(List.length v4:Int))∧
  (0≤(1:Int)∧(1:Int)<(List.length v10:Int))∧
  let v12:aA:=List.getD v10 (Int.toNat (1:Int)) (av .aA)
  let bS:List aA:=List.set v10 (Int.toNat (1:Int)) ⟨v12.name,([⟨⟨#[108,101,118,101,108]⟩,2,0,100,[],true,false⟩]:List Attr),v12.commands,v12.events⟩
  (0≤(1:Int)∧(1:Int)<(List.length v10:Int))∧
  let cJ:List Command:=([⟨⟨#[109,111,118,101]⟩,⟨⟨#[116,111]⟩,2,0,100,[],false,false⟩,([⟨2,⟨#[108,101,118,101,108]⟩,0⟩]:List bV)⟩,⟨⟨#[115,116,101,112]⟩,⟨⟨#[]⟩,0,0,0,[],false,false⟩,([⟨3,⟨#[108,101,118,101,108]⟩,10⟩]:List bV)⟩]:List Command)
  (0≤(1:Int)∧(1:Int)<(List.length bS:Int))∧
  let cP:aA:=List.getD bS (Int.toNat (1:Int)) (av .aA)
  let dv:List aA:=List.set bS (Int.toNat (1:Int)) ⟨cP.name,cP.attrs,cJ,cP.events⟩
  (0≤(1:Int)∧(1:Int)<(List.length bS:Int))∧
  (0≤(2:Int)∧(2:Int)<(List.length dv:Int))∧
  let v20:aA:=List.getD dv (Int.toNat (2:Int)) (av .aA)
  let v21:List aA:=List.set dv (Int.toNat (2:Int)) ⟨v20.name,([⟨⟨#[108,111,99,107,101,100]⟩,1,0,0,[],true,true⟩]:List Attr),v20.commands,v20.events⟩
  (0≤(2:Int)∧(2:Int)<(List.length dv:Int))∧
  let v24:List Command:=([⟨⟨#[108,111,99,107]⟩,⟨⟨#[]⟩,0,0,0,[],false,false⟩,([⟨1,⟨#[108,111,99,107,101,100]⟩,1⟩]:List bV)⟩,⟨⟨#[117,110,108,111,99,107]⟩,⟨⟨#[]⟩,0,0,0,[],false,false⟩,([⟨1,⟨#[108,111,99,107,101,100]⟩,0⟩]:List bV)⟩]:List Command)
  (0≤(2:Int)∧(2:Int)<(List.length v21:Int))∧
  let v25:aA:=List.getD v21 (Int.toNat (2:Int)) (av .aA)
  let v26:List aA:=List.set v21 (Int.toNat (2:Int)) ⟨v25.name,v25.attrs,v24,v25.events⟩
  (0≤(2:Int)∧(2:Int)<(List.length v21:Int))∧
  (0≤(2:Int)∧(2:Int)<(List.length v26:Int))∧
  let v28:aA:=List.getD v26 (Int.toNat (2:Int)) (av .aA)
  let hs:List aA:=List.set v26 (Int.toNat (2:Int)) ⟨v28.name,v28.attrs,v28.commands,([⟨#[106,97,109]⟩]:List ByteArray)⟩
  (0≤(2:Int)∧(2:Int)<(List.length v26:Int))∧
  (0≤(3:Int)∧(3:Int)<(List.length hs:Int))∧
  let v31:aA:=List.getD hs (Int.toNat (3:Int)) (av .aA)
  let CG:List aA:=List.set hs (Int.toNat (3:Int)) ⟨v31.name,([⟨⟨#[116,97,114,103,101,116]⟩,2,50,300,[],true,false⟩,⟨⟨#[116,101,109,112]⟩,2,(-500),1000,[],false,false⟩]:List Attr),v31.commands,v31.events⟩
  (0≤(3:Int)∧(3:Int)<(List.length hs:Int))∧
  (0≤(4:Int)∧(4:Int)<(List.length CG:Int))∧
  let y6:aA:=List.getD CG (Int.toNat (4:Int)) (av .aA)
  let CH:List aA:=List.set CG (Int.toNat (4:Int)) ⟨y6.name,([⟨⟨#[97,108,97,114,109]⟩,1,0,0,[],false,true⟩]:List Attr),y6.commands,y6.events⟩
  (0≤(4:Int)∧(4:Int)<(List.length CG:Int))∧
  (0≤(4:Int)∧(4:Int)<(List.length CH:Int))∧
  let v37:aA:=List.getD CH (Int.toNat (4:Int)) (av .aA)
  let CI:List aA:=List.set CH (Int.toNat (4:Int)) ⟨v37.name,v37.attrs,v37.commands,([⟨#[116,101,115,116]⟩]:List ByteArray)⟩
  (0≤(4:Int)∧(4:Int)<(List.length CH:Int))∧
  (0≤(5:Int)∧(5:Int)<(List.length CI:Int))∧
  let v40:aA:=List.getD CI (Int.toNat (5:Int)) (av .aA)
  let CJ:List aA:=List.set CI (Int.toNat (5:Int)) ⟨v40.name,([⟨⟨#[119,101,116]⟩,1,0,0,[],false,true⟩]:List Attr),v40.commands,v40.events⟩
  (0≤(5:Int)∧(5:Int)<(List.length CI:Int))∧
  (0≤(6:Int)∧(6:Int)<(List.length CJ:Int))∧
  let Hv:aA:=List.getD CJ (Int.toNat (6:Int)) (av .aA)
  let CK:List aA:=List.set CJ (Int.toNat (6:Int)) ⟨Hv.name,([⟨⟨#[111,112,101,110]⟩,1,0,0,[],true,true⟩]:List Attr),Hv.commands,Hv.events⟩
  (0≤(6:Int)∧(6:Int)<(List.length CJ:Int))∧
  let zan:List Command:=([⟨⟨#[111,112,101,110]⟩,⟨⟨#[]⟩,0,0,0,[],false,false⟩,([⟨1,⟨#[111,112,101,110]⟩,1⟩]:List bV)⟩,⟨⟨#[99,108,111,115,101]⟩,⟨⟨#[]⟩,0,0,0,[],false,false⟩,([⟨1,⟨#[111,112,101,110]⟩,0⟩]:List bV)⟩]:List Command)
  (0≤(6:Int)∧(6:Int)<(List.length CK:Int))∧
  let Hw:aA:=List.getD CK (Int.toNat (6:Int)) (av .aA)
  let v49:List aA:=List.set CK (Int.toNat (6:Int)) ⟨Hw.name,Hw.attrs,zan,Hw.events⟩
  (0≤(6:Int)∧(6:Int)<(List.length CK:Int))∧
  (0≤(7:Int)∧(7:Int)<(List.length v49:Int))∧
  let v51:aA:=List.getD v49 (Int.toNat (7:Int)) (av .aA)
  0≤(7:Int)∧(7:Int)<(List.length v49:Int)
 ∃bA:Nat→((List aA))→Prop,bA 0 (List.replicate (Int.toNat (8:Int)) (av .aA))∧(∀(i2:Nat) (d0:(List aA)),i2<Int.toNat (8:Int)→bA i2 d0→(
  let v4:ByteArray:=Hy ([⟨#[111,110,111,102,102]⟩,⟨#[108,101,118,101,108]⟩,⟨#[108,111,99,107]⟩,⟨#[116,104,101,114,109,111,115,116,97,116]⟩,⟨#[115,109,111,107,101]⟩,⟨#[108,101,97,107]⟩,⟨#[118,97,108,118,101]⟩,⟨#[109,101,116,101,114]⟩]:List ByteArray) (Int.toNat (i2:Int))
  (0≤(i2:Int)∧(i2:Int)<(List.length d0:Int))∧
  let v5:aA:=List.getD d0 (Int.toNat (i2:Int)) (av .aA)
  (0≤(i2:Int)∧(i2:Int)<(List.length d0:Int))∧
  bA (i2+1) (List.set d0 (Int.toNat (i2:Int)) ⟨v4,v5.attrs,v5.commands,v5.events⟩)))∧∀bl,bA (Int.toNat (8:Int)) bl→a1 bl
theorem zao:Qo:=by
 refine⟨by decide,fun _ d=>d.length=8,by simp,fun i d hi hd=>?_,fun c hc=>?_⟩
 ·have hi:i<8:=hi
  dsimp only;simp only[List.length_set];exact⟨by omega,by omega,hd⟩
 ·have hc:c.length=8:=hc
  dsimp only;simp only[List.length_set,hc];decide
noncomputable def i147:Nat→List ab→aq→aD:=Ht bj 147 Tryz.f147 98 fun B=>CD sf (y7 bj (h5.all bj sf) sf (60,108,5) [] [] [] [] 16) 98 B
noncomputable def tV:aD:=i147 147 (ht 0 []) (pN 0)
theorem zap:i147 147 (ht 0 jj.ps) (pN jj.ps.length)=tV:=by kernel_rfl
theorem zaq:tV.gA.all (tW jj.rs)=true:=by kernel_rfl
theorem zar(x:(fg jj.ps).den):vX [] tV (gB 0 (dB jj.ps x))=Qo:=by kernel_rfl
theorem zas(x:(fg jj.ps).den):vY [] tV jj.rs (gB 0 (dB jj.ps x))=jj.m x:=by kernel_rfl
theorem n147:Tryz.f147.ntmps=98:=by kernel_rfl
theorem zat:([]:List ab).length+(Tryz.f147.ntmps-([]:List ab).length)=98:=by rw[n147];rfl
theorem zau{G:bd}(sg:tX bj G 60 108 5)(kL:G 0=some (lN.map fun s=>bb.v (.string s))):fE bj G [] i147:=
 zam (f0:=147) (N:=98) (fn:=Tryz.f147) (c:=kK) (by kernel_rfl) (by kernel_rfl) zat fun B=>zal (CL Hs (fun _ h=>by cases h) (fun _ h=>by cases h) sg (fun _ h=>by cases h) qL.nil 16) kL
theorem zav: ∀x,k8 jj.pre x→vX [] tV (gB 0 (dB jj.ps x)):=by
 intro x _
 have h:=zar x
 with_reducible rw[h]
 exact zao
theorem zaw: ∀x,k8 jj.pre x→vY [] tV jj.rs (gB 0 (dB jj.ps x))=jj.m x:=by
 intro x _
 with_reducible exact zas x
theorem zax{G:bd}(sg:tX bj G 60 108 5)(kL:G 0=some (lN.map fun s=>bb.v (.string s))):bG bj G 147 jj:=by
 refine zay (P:=bj) (G:=G) (M:=[]) (inl:=i147) (f:=147) (m:=jj) (zau sg kL) tV zap zaq ?_ ?_
 ·with_reducible exact zav
 ·with_reducible exact zaw
end Go.aO
