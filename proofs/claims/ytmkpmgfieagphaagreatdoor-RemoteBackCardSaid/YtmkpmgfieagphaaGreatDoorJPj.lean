/- cluster.Standard: its contract. Conditions: none. -/
import Derived.Test.YtmkpmgfieagphaaGreatDoorJPn
namespace Go.aM
open Go Go.Proofs Go.eQ
def l0:List ByteArray:=[⟨#[111,110,111,102,102]⟩,⟨#[108,101,118,101,108]⟩,⟨#[108,111,99,107]⟩,⟨#[116,104,101,114,109,111,115,116,97,116]⟩,⟨#[115,109,111,107,101]⟩,⟨#[108,101,97,107]⟩,⟨#[118,97,108,118,101]⟩,⟨#[109,101,116,101,114]⟩]
def um:List ab:=l0.map fun s=>.cs (.string s)
def kU:Code→Code
 | .seq a _=>a
 |c=>c
def hZ:Code→Code
 | .seq _ b=>b
 |c=>c
def Cw:Code→Array Oper
 | .region _ o _=>o
 |_=>#[]
def Zx:Code→Nat
 | .region i _ _=>i
 |_=>0
def PM(P:Program)(N B:Nat)(T:List (Nat × bL))(inl:Nat→List ab→aq→aB)(ops:Array Oper)(S:aq):aB:=hH P N B T inl ops (ops.toList.drop 1) (S.put (some 5) (.ch um))
noncomputable def kV:Code:=match bj.funcs[147]? with
 |some fn=>match fn.body with
  |some c=>c
  |none=>.skip
 |none=>.skip
noncomputable def Cx(T:List (Nat × bL))(inl:Nat→List ab→aq→aB)(N B:Nat)(S:aq):aB:=
 iH N S (comp bj N B T inl ((jK.all bj T).L N B inl) ((jK.all bj T).D N B inl) (kU kV) 0 S) fun S=>iH N S (comp bj N B T inl ((jK.all bj T).L N B inl) ((jK.all bj T).D N B inl) (kU (hZ kV)) 0 S) fun S=>
  iH N S (iH N S (PM bj N B T inl (Cw (kU (kU (hZ (hZ kV))))) S) (comp bj N B T inl ((jK.all bj T).L N B inl) ((jK.all bj T).D N B inl) (hZ (kU (hZ (hZ kV)))) 0)) (comp bj N B T inl ((jK.all bj T).L N B inl) ((jK.all bj T).D N B inl) (hZ (hZ (hZ kV))) 0)
section
variable {P:Program} {G:a8} {N B:Nat} {M:List aS} {T:List (Nat × bL)} {inl:Nat→List ab→aq→aB}
theorem Zy{e:Env}:ab.bQ G e um=(l0.map fun s=>a6.v (.string s)).map .av:=rfl
theorem Zz(bU:fK P G M inl)(kW:G 0=some (l0.map fun s=>a6.v (.string s))){id:Nat}{ops:Array Oper}{o:Oper}{t:TypeId}(an:ops.toList=o::ops.toList.drop 1)(aa:o.op= .load t (.global 0))(hd:o.dst=some 5)(ah:o.guard=none)
 (aI:p9 P t um=some (.ch um)):jc P G N B M (.region id ops false) (PM P N B T inl ops):=by
 intro S e ad hf ai
 have iX:ops=ops.toList.toArray:=by simp
 rw[iX]
 refine b2.region ?_
 rw[←iX,an]
 have dD:cN P G o (S.den G N B e) ((ab.ch um).den G e):=G1 aa (by simp only[aL,kW,fl,Zy]) aI
 have mX:(S.den G N B e).put o.dst ((ab.ch um).den G e)=(S.put (some 5) (.ch um)).den G N B e:=by rw[fa,hd]
 refine cv.step (by unfold dN;rw[ah]) (mX ▸ dD.step) ?_
 exact uo bU _ (jd ad rfl) (je hf) ai fun ex st ak=>ak.sub rfl (bX.refl _ _) (by rw[jf];exact Nat.le_refl _)
theorem ZA:kV= .seq (kU kV) (.seq (kU (hZ kV)) (.seq (.seq (.region (Zx (kU (kU (hZ (hZ kV))))) (Cw (kU (kU (hZ (hZ kV))))) false) (hZ (kU (hZ (hZ kV))))) (hZ (hZ (hZ kV))))):=by kernel_rfl
theorem ZB(bU:fK bj G M inl)(kW:G 0=some (l0.map fun s=>a6.v (.string s))):jc bj G N B M kV (Cx T inl N B):=by
 have kX:=G2 (P:=bj) (G:=G) (M:=M) (T:=T) inl bU N B
 rw[ZA]
 refine y3 (oN bU kX.1 kX.2 _ 0) (y3 (oN bU kX.1 kX.2 _ 0) (y3 (y3 (Zz bU kW (o:=(Cw (kU (kU (hZ (hZ kV))))).toList.headD (Cw (kU (kU (hZ (hZ kV)))))[0]!) (t:=249) (by kernel_rfl) (by kernel_rfl) (by kernel_rfl) (by kernel_rfl) (by kernel_rfl)) (oN bU kX.1 kX.2 _ 0)) (oN bU kX.1 kX.2 _ 0)))
def G3(P:Program)(f0:Nat)(fn:Func)(N:Nat)(g:Nat→aq→aB)(f:Nat)(ys:List ab)(S:aq):aB:=
 match ys,Nat.beq f f0 with
 |[],true=>Cy P f0 fn N (g S.n (qa [] S))
 |_,_=>.bad 1
theorem ZC{f0 N:Nat}{fn:Func}{c:Code}{g:Nat→aq→aB}(nM:P.funcs[f0]? =some fn)(hc:fn.body=some c)(iZ:([]:List ab).length+(fn.ntmps-([]:List ab).length)=N)(ah: ∀B,jc P G N B M c (g B)):fK P G M (G3 P f0 fn N g):=by
 intro f ys S e ad ar hf ai
 unfold G3 at ai⊢
 split at ai
 rotate_left
 ·exact ai.elim
 rename_i G4
 obtain rfl:=Nat.eq_of_beq_eq_true G4
 generalize aI:g S.n (qa [] S)=t at ai
 unfold Cy at ai⊢
 split at ai
 ·rename_i y4
  obtain⟨g1,g2,g3⟩:=jg (t.rel sE) none ai
  have uq:t.safe M e:=(kY (Cz t)).1 g1
  have y5:=ah S.n (qa [] S) e (PN ad ar) hf (by rw[aI];exact uq)
  rw[aI,←iZ,PO,iZ]at y5;refine dF.PQ (k:=fn.ntmps-([]:List ab).length) nM hc (by rw[me]) (b2.PR (b2.mono y5 fun ex st ak=>?_))
  obtain⟨x,dg,ay,aa,ae,au,aR,bA,cB,dM⟩:=ak;refine⟨_,au,?_⟩
  obtain⟨iI,dO,bf,c3,dj⟩:=jh (M:=M) (e:=e) y4;rw[aa]at c3
  cases c3
  have af:run M (t.rel sE) e=some (.cj,dg,ay):=by
   rw[wh (Cz t),aa]
   cases x<;>first|rfl|cases dj
  obtain⟨oO,_⟩:=g3 dg ay af;rw[af]at g2
  have g2:run M ((t.rel sE).eK (ur P fn N) none) e=run M (ur P fn N dg) ay:=g2
  unfold ur at oO g2
  split at oO
  ·rename_i v aw
   split at oO
   ·rename_i fy
    simp only[aw,fy]at g2;refine⟨(by cases x<;>cases ex<;>first|exact .inl rfl|exact .inr rfl|exact ae.elim|cases dj),v.den G ay,cx G ay dg.h,PS bA aw,fun _ _ h=>h,{dg with l:=ba.put .emp 0 v},ay,g2,?_,rfl,⟨fun i x hx=>?_,aR.h,aR.g⟩,bA,cB,dM⟩
    ·simp only[aq.at,ba.h0,if_true]
    ·simp only[ba.h0]at hx
     split at hx
     ·cases hx;exact fy
     ·simp[ba.get]at hx
   ·exact oO.elim
  ·exact oO.elim
 ·exact ai.elim
end
def PT:Prop:=
 (0≤(8:Int)∧(8:Int)≤(8:Int)∧(8:Int)≤(maxLen:Int)∧(88:Int)*(8:Int)≤281474976710656)∧
 let aX:(List aK)→Prop:=fun bR=>
  (0≤(0:Int)∧(0:Int)<(List.length bR:Int))∧
  let v3:aK:=List.getD bR (Int.toNat (0:Int)) (az .aK)
  let v4:List aK:=List.set bR (Int.toNat (0:Int)) ⟨v3.name,([⟨⟨#[111,110]⟩,1,0,0,[],true,false⟩]:List Attr),v3.commands,v3.events⟩
  (0≤(0:Int)∧(0:Int)<(List.length bR:Int))∧
  let bw:List Command:=([⟨⟨#[111,110]⟩,⟨⟨#[]⟩,0,0,0,[],false,false⟩,([⟨1,⟨#[111,110]⟩,1⟩]:List cM)⟩,⟨⟨#[111,102,102]⟩,⟨⟨#[]⟩,0,0,0,[],false,false⟩,([⟨1,⟨#[111,110]⟩,0⟩]:List cM)⟩,⟨⟨#[116,111,103,103,108,101]⟩,⟨⟨#[]⟩,0,0,0,[],false,false⟩,([⟨4,⟨#[111,110]⟩,0⟩]:List cM)⟩]:List Command)
  (0≤(0:Int)∧(0:Int)<(List.length v4:Int))∧
  let v9:aK:=List.getD v4 (Int.toNat (0:Int)) (az .aK)
  let v10:List aK:=List.set v4 (Int.toNat (0:Int)) ⟨v9.name,v9.attrs,bw,v9.events⟩
  (0≤(0:Int)∧(0:Int)<(List.length v4:Int))∧
  (0≤(1:Int)∧(1:Int)<(List.length v10:Int))∧
  let v12:aK:=List.getD v10 (Int.toNat (1:Int)) (az .aK)
  let b3:List aK:=List.set v10 (Int.toNat (1:Int)) ⟨v12.name,([⟨⟨#[108,101,118,101,108]⟩,2,0,100,[],true,false⟩]:List Attr),v12.commands,v12.events⟩
  (0≤(1:Int)∧(1:Int)<(List.length v10:Int))∧
  let df:List Command:=([⟨⟨#[109,111,118,101]⟩,⟨⟨#[116,111]⟩,2,0,100,[],false,false⟩,([⟨2,⟨#[108,101,118,101,108]⟩,0⟩]:List cM)⟩,⟨⟨#[115,116,101,112]⟩,⟨⟨#[]⟩,0,0,0,[],false,false⟩,([⟨3,⟨#[108,101,118,101,108]⟩,10⟩]:List cM)⟩]:List Command)
  (0≤(1:Int)∧(1:Int)<(List.length b3:Int))∧
  let dH:aK:=List.getD b3 (Int.toNat (1:Int)) (az .aK)
  let dy:List aK:=List.set b3 (Int.toNat (1:Int)) ⟨dH.name,dH.attrs,df,dH.events⟩
  (0≤(1:Int)∧(1:Int)<(List.length b3:Int))∧
  (0≤(2:Int)∧(2:Int)<(List.length dy:Int))∧
  let v20:aK:=List.getD dy (Int.toNat (2:Int)) (az .aK)
  let v21:List aK:=List.set dy (Int.toNat (2:Int)) ⟨v20.name,([⟨⟨#[108,111,99,107,101,100]⟩,1,0,0,[],true,true⟩]:List Attr),v20.commands,v20.events⟩
  (0≤(2:Int)∧(2:Int)<(List.length dy:Int))∧
  let v24:List Command:=([⟨⟨#[108,111,99,107]⟩,⟨⟨#[]⟩,0,0,0,[],false,false⟩,([⟨1,⟨#[108,111,99,107,101,100]⟩,1⟩]:List cM)⟩,⟨⟨#[117,110,108,111,99,107]⟩,⟨⟨#[]⟩,0,0,0,[],false,false⟩,([⟨1,⟨#[108,111,99,107,101,100]⟩,0⟩]:List cM)⟩]:List Command)
  (0≤(2:Int)∧(2:Int)<(List.length v21:Int))∧
  let v25:aK:=List.getD v21 (Int.toNat (2:Int)) (az .aK)
  let v26:List aK:=List.set v21 (Int.toNat (2:Int)) ⟨v25.name,v25.attrs,v24,v25.events⟩
  (0≤(2:Int)∧(2:Int)<(List.length v21:Int))∧
  (0≤(2:Int)∧(2:Int)<(List.length v26:Int))∧
  let v28:aK:=List.getD v26 (Int.toNat (2:Int)) (az .aK)
  let iG:List aK:=List.set v26 (Int.toNat (2:Int)) ⟨v28.name,v28.attrs,v28.commands,([⟨#[106,97,109]⟩]:List ByteArray)⟩
  (0≤(2:Int)∧(2:Int)<(List.length v26:Int))∧
  (0≤(3:Int)∧(3:Int)<(List.length iG:Int))∧
  let v31:aK:=List.getD iG (Int.toNat (3:Int)) (az .aK)
  let CA:List aK:=List.set iG (Int.toNat (3:Int)) ⟨v31.name,([⟨⟨#[116,97,114,103,101,116]⟩,2,50,300,[],true,false⟩,⟨⟨#[116,101,109,112]⟩,2,(-500),1000,[],false,false⟩]:List Attr),v31.commands,v31.events⟩
  (0≤(3:Int)∧(3:Int)<(List.length iG:Int))∧
  (0≤(4:Int)∧(4:Int)<(List.length CA:Int))∧
  let y6:aK:=List.getD CA (Int.toNat (4:Int)) (az .aK)
  let CB:List aK:=List.set CA (Int.toNat (4:Int)) ⟨y6.name,([⟨⟨#[97,108,97,114,109]⟩,1,0,0,[],false,true⟩]:List Attr),y6.commands,y6.events⟩
  (0≤(4:Int)∧(4:Int)<(List.length CA:Int))∧
  (0≤(4:Int)∧(4:Int)<(List.length CB:Int))∧
  let v37:aK:=List.getD CB (Int.toNat (4:Int)) (az .aK)
  let CC:List aK:=List.set CB (Int.toNat (4:Int)) ⟨v37.name,v37.attrs,v37.commands,([⟨#[116,101,115,116]⟩]:List ByteArray)⟩
  (0≤(4:Int)∧(4:Int)<(List.length CB:Int))∧
  (0≤(5:Int)∧(5:Int)<(List.length CC:Int))∧
  let v40:aK:=List.getD CC (Int.toNat (5:Int)) (az .aK)
  let CD:List aK:=List.set CC (Int.toNat (5:Int)) ⟨v40.name,([⟨⟨#[119,101,116]⟩,1,0,0,[],false,true⟩]:List Attr),v40.commands,v40.events⟩
  (0≤(5:Int)∧(5:Int)<(List.length CC:Int))∧
  (0≤(6:Int)∧(6:Int)<(List.length CD:Int))∧
  let G5:aK:=List.getD CD (Int.toNat (6:Int)) (az .aK)
  let CE:List aK:=List.set CD (Int.toNat (6:Int)) ⟨G5.name,([⟨⟨#[111,112,101,110]⟩,1,0,0,[],true,true⟩]:List Attr),G5.commands,G5.events⟩
  (0≤(6:Int)∧(6:Int)<(List.length CD:Int))∧
  let ZD:List Command:=([⟨⟨#[111,112,101,110]⟩,⟨⟨#[]⟩,0,0,0,[],false,false⟩,([⟨1,⟨#[111,112,101,110]⟩,1⟩]:List cM)⟩,⟨⟨#[99,108,111,115,101]⟩,⟨⟨#[]⟩,0,0,0,[],false,false⟩,([⟨1,⟨#[111,112,101,110]⟩,0⟩]:List cM)⟩]:List Command)
  (0≤(6:Int)∧(6:Int)<(List.length CE:Int))∧
  let G6:aK:=List.getD CE (Int.toNat (6:Int)) (az .aK)
  let v49:List aK:=List.set CE (Int.toNat (6:Int)) ⟨G6.name,G6.attrs,ZD,G6.events⟩
  (0≤(6:Int)∧(6:Int)<(List.length CE:Int))∧
  (0≤(7:Int)∧(7:Int)<(List.length v49:Int))∧
  let v51:aK:=List.getD v49 (Int.toNat (7:Int)) (az .aK)
  0≤(7:Int)∧(7:Int)<(List.length v49:Int)
 ∃bx:Nat→((List aK))→Prop,bx 0 (List.replicate (Int.toNat (8:Int)) (az .aK))∧(∀(i2:Nat) (d0:(List aK)),i2<Int.toNat (8:Int)→bx i2 d0→(
  let v4:ByteArray:=G7 ([⟨#[111,110,111,102,102]⟩,⟨#[108,101,118,101,108]⟩,⟨#[108,111,99,107]⟩,⟨#[116,104,101,114,109,111,115,116,97,116]⟩,⟨#[115,109,111,107,101]⟩,⟨#[108,101,97,107]⟩,⟨#[118,97,108,118,101]⟩,⟨#[109,101,116,101,114]⟩]:List ByteArray) (Int.toNat (i2:Int))
  (0≤(i2:Int)∧(i2:Int)<(List.length d0:Int))∧
  let v5:aK:=List.getD d0 (Int.toNat (i2:Int)) (az .aK)
  (0≤(i2:Int)∧(i2:Int)<(List.length d0:Int))∧
  bx (i2+1) (List.set d0 (Int.toNat (i2:Int)) ⟨v4,v5.attrs,v5.commands,v5.events⟩)))∧∀bR,bx (Int.toNat (8:Int)) bR→aX bR
theorem ZE:PT:=by
 refine⟨by decide,fun _ d=>d.length=8,by simp,fun i d hi hd=>?_,fun c hc=>?_⟩
 ·have hi:i<8:=hi
  dsimp only;simp only[List.length_set];exact⟨by omega,by omega,hd⟩
 ·have hc:c.length=8:=hc
  dsimp only;simp only[List.length_set,hc];decide
noncomputable def i147:Nat→List ab→aq→aB:=G3 bj 147 Tryz.f147 98 fun B=>Cx wi (CF bj (jK.all bj wi) wi (60,108,5) [] [] [] [] 16) 98 B
noncomputable def uu:aB:=i147 147 (hz 0 []) (qb 0)
theorem ZF:i147 147 (hz 0 ji.ps) (qb ji.ps.length)=uu:=by kernel_rfl
theorem ZG:uu.gx.all (uv ji.rs)=true:=by kernel_rfl
theorem ZH(x:(fb ji.ps).den):wj [] uu (gy 0 (dz ji.ps x))=PT:=by kernel_rfl
theorem ZI(x:(fb ji.ps).den):wk [] uu ji.rs (gy 0 (dz ji.ps x))=ji.m x:=by kernel_rfl
theorem n147:Tryz.f147.ntmps=98:=by kernel_rfl
theorem ZJ:([]:List ab).length+(Tryz.f147.ntmps-([]:List ab).length)=98:=by rw[n147];rfl
theorem ZK{G:a8}(sF:uw bj G 60 108 5)(kW:G 0=some (l0.map fun s=>a6.v (.string s))):fK bj G [] i147:=
 ZC (f0:=147) (N:=98) (fn:=Tryz.f147) (c:=kV) (by kernel_rfl) (by kernel_rfl) ZJ fun B=>ZB (G8 G2 (fun _ h=>by cases h) (fun _ h=>by cases h) sF (fun _ h=>by cases h) ra.nil 16) kW
theorem ZL: ∀x,lp ji.pre x→wj [] uu (gy 0 (dz ji.ps x)):=by
 intro x _
 have h:=ZH x
 with_reducible rw[h]
 exact ZE
theorem ZM: ∀x,lp ji.pre x→wk [] uu ji.rs (gy 0 (dz ji.ps x))=ji.m x:=by
 intro x _
 with_reducible exact ZI x
theorem ZN{G:a8}(sF:uw bj G 60 108 5)(kW:G 0=some (l0.map fun s=>a6.v (.string s))):bG bj G 147 ji:=by
 refine ZO (P:=bj) (G:=G) (M:=[]) (inl:=i147) (f:=147) (m:=ji) (ZK sF kW) uu ZF ZG ?_ ?_
 ·with_reducible exact ZL
 ·with_reducible exact ZM
end Go.aM
