/- cluster.Standard: its contract. Conditions: none. -/
import Derived.Test.YtmkpmgfieagphaaGreatDoorKPn
namespace Go.aK
open Go Go.Proofs Go.eK
def l3:List ByteArray:=[⟨#[111,110,111,102,102]⟩,⟨#[108,101,118,101,108]⟩,⟨#[108,111,99,107]⟩,⟨#[116,104,101,114,109,111,115,116,97,116]⟩,⟨#[115,109,111,107,101]⟩,⟨#[108,101,97,107]⟩,⟨#[118,97,108,118,101]⟩,⟨#[109,101,116,101,114]⟩]
def uD:List ab:=l3.map fun s=>.cs (.string s)
def k2:Code→Code
 | .seq a _=>a
 |c=>c
def hY:Code→Code
 | .seq _ b=>b
 |c=>c
def CV:Code→Array Oper
 | .region _ o _=>o
 |_=>#[]
def zaC:Code→Nat
 | .region i _ _=>i
 |_=>0
def Qj(P:Program)(N B:Nat)(T:List (Nat × bK))(inl:Nat→List ab→ao→aC)(ops:Array Oper)(S:ao):aC:=hI P N B T inl ops (ops.toList.drop 1) (S.put (some 5) (.cg uD))
noncomputable def k3:Code:=match bh.funcs[147]? with
 |some fn=>match fn.body with
  |some c=>c
  |none=>.skip
 |none=>.skip
noncomputable def CW(T:List (Nat × bK))(inl:Nat→List ab→ao→aC)(N B:Nat)(S:ao):aC:=
 iL N S (comp bh N B T inl ((jG.all bh T).L N B inl) ((jG.all bh T).D N B inl) (k2 k3) 0 S) fun S=>iL N S (comp bh N B T inl ((jG.all bh T).L N B inl) ((jG.all bh T).D N B inl) (k2 (hY k3)) 0 S) fun S=>
  iL N S (iL N S (Qj bh N B T inl (CV (k2 (k2 (hY (hY k3))))) S) (comp bh N B T inl ((jG.all bh T).L N B inl) ((jG.all bh T).D N B inl) (hY (k2 (hY (hY k3)))) 0)) (comp bh N B T inl ((jG.all bh T).L N B inl) ((jG.all bh T).D N B inl) (hY (hY (hY k3))) 0)
section
variable {P:Program} {G:a7} {N B:Nat} {M:List aQ} {T:List (Nat × bK)} {inl:Nat→List ab→ao→aC}
theorem zaD{e:Env}:ab.bP G e uD=(l3.map fun s=>a1.v (.string s)).map .av:=rfl
theorem zaE(bV:fO P G M inl)(k4:G 0=some (l3.map fun s=>a1.v (.string s))){id:Nat}{ops:Array Oper}{o:Oper}{t:TypeId}(an:ops.toList=o::ops.toList.drop 1)(aa:o.op= .load t (.global 0))(hd:o.dst=some 5)(ah:o.guard=none)
 (aG:qd P t uD=some (.cg uD)):jb P G N B M (.region id ops false) (Qj P N B T inl ops):=by
 intro S e ad hf ai
 have iX:ops=ops.toList.toArray:=by simp
 rw[iX]
 refine b1.region ?_
 rw[←iX,an]
 have dC:cP P G o (S.den G N B e) ((ab.cg uD).den G e):=Ht aa (by simp only[aI,k4,fo,zaD]) aG
 have mV:(S.den G N B e).put o.dst ((ab.cg uD).den G e)=(S.put (some 5) (.cg uD)).den G N B e:=by rw[fa,hd]
 refine cu.step (by unfold dN;rw[ah]) (mV ▸ dC.step) ?_
 exact uE bV _ (jc ad rfl) (jd hf) ai fun ex st ak=>ak.sub rfl (bW.refl _ _) (by rw[je];exact Nat.le_refl _)
theorem zaF:k3= .seq (k2 k3) (.seq (k2 (hY k3)) (.seq (.seq (.region (zaC (k2 (k2 (hY (hY k3))))) (CV (k2 (k2 (hY (hY k3))))) false) (hY (k2 (hY (hY k3))))) (hY (hY (hY k3))))):=by kernel_rfl
theorem zaG(bV:fO bh G M inl)(k4:G 0=some (l3.map fun s=>a1.v (.string s))):jb bh G N B M k3 (CW T inl N B):=by
 have k5:=Hu (P:=bh) (G:=G) (M:=M) (T:=T) inl bV N B
 rw[zaF]
 refine zr (oQ bV k5.1 k5.2 _ 0) (zr (oQ bV k5.1 k5.2 _ 0) (zr (zr (zaE bV k4 (o:=(CV (k2 (k2 (hY (hY k3))))).toList.headD (CV (k2 (k2 (hY (hY k3)))))[0]!) (t:=249) (by kernel_rfl) (by kernel_rfl) (by kernel_rfl) (by kernel_rfl) (by kernel_rfl)) (oQ bV k5.1 k5.2 _ 0)) (oQ bV k5.1 k5.2 _ 0)))
def Hv(P:Program)(f0:Nat)(fn:Func)(N:Nat)(g:Nat→ao→aC)(f:Nat)(ys:List ab)(S:ao):aC:=
 match ys,Nat.beq f f0 with
 |[],true=>CX P f0 fn N (g S.n (qe [] S))
 |_,_=>.bad 1
theorem zaH{f0 N:Nat}{fn:Func}{c:Code}{g:Nat→ao→aC}(mb:P.funcs[f0]? =some fn)(hc:fn.body=some c)(gT:([]:List ab).length+(fn.ntmps-([]:List ab).length)=N)(ah: ∀B,jb P G N B M c (g B)):fO P G M (Hv P f0 fn N g):=by
 intro f ys S e ad aq hf ai
 unfold Hv at ai⊢
 split at ai
 rotate_left
 ·exact ai.elim
 rename_i Hw
 obtain rfl:=Nat.eq_of_beq_eq_true Hw
 generalize aG:g S.n (qe [] S)=t at ai
 unfold CX at ai⊢
 split at ai
 ·rename_i zt
  obtain⟨g1,g2,g3⟩:=jf (t.rel sM) none ai
  have uF:t.safe M e:=(k6 (CY t)).1 g1
  have zu:=ah S.n (qe [] S) e (Qk ad aq) hf (by rw[aG];exact uF)
  rw[aG,←gT,Ql,gT]at zu;refine dF.Qm (k:=fn.ntmps-([]:List ab).length) mb hc (by rw[mc]) (b1.Qn (b1.mono zu fun ex st ak=>?_))
  obtain⟨x,db,ay,aa,ae,au,aP,bE,cF,dZ⟩:=ak;refine⟨_,au,?_⟩
  obtain⟨iM,dO,bd,c0,df⟩:=jg (M:=M) (e:=e) zt;rw[aa]at c0
  cases c0
  have ag:run M (t.rel sM) e=some (.ch,db,ay):=by
   rw[wH (CY t),aa]
   cases x<;>first|rfl|cases df
  obtain⟨oR,_⟩:=g3 db ay ag;rw[ag]at g2
  have g2:run M ((t.rel sM).eI (uG P fn N) none) e=run M (uG P fn N db) ay:=g2
  unfold uG at oR g2
  split at oR
  ·rename_i v aw
   split at oR
   ·rename_i fC
    simp only[aw,fC]at g2;refine⟨(by cases x<;>cases ex<;>first|exact .inl rfl|exact .inr rfl|exact ae.elim|cases df),v.den G ay,cx G ay db.h,Qo bE aw,fun _ _ h=>h,{db with l:=a8.put .emp 0 v},ay,g2,?_,rfl,⟨fun i x hx=>?_,aP.h,aP.g⟩,bE,cF,dZ⟩
    ·simp only[ao.at,a8.hZ,if_true]
    ·simp only[a8.hZ]at hx
     split at hx
     ·cases hx;exact fC
     ·simp[a8.get]at hx
   ·exact oR.elim
  ·exact oR.elim
 ·exact ai.elim
end
def Qp:Prop:=
 (0≤(8:Int)∧(8:Int)≤(8:Int)∧(8:Int)≤(maxLen:Int)∧(88:Int)*(8:Int)≤281474976710656)∧
 let aW:(List aJ)→Prop:=fun bR=>
  (0≤(0:Int)∧(0:Int)<(List.length bR:Int))∧
  let v3:aJ:=List.getD bR (Int.toNat (0:Int)) (aA .aJ)
  let v4:List aJ:=List.set bR (Int.toNat (0:Int)) ⟨v3.name,([⟨⟨#[111,110]⟩,1,0,0,[],true,false⟩]:List Attr),v3.commands,v3.events⟩
  (0≤(0:Int)∧(0:Int)<(List.length bR:Int))∧
  let bx:List Command:=([⟨⟨#[111,110]⟩,⟨⟨#[]⟩,0,0,0,[],false,false⟩,([⟨1,⟨#[111,110]⟩,1⟩]:List cO)⟩,⟨⟨#[111,102,102]⟩,⟨⟨#[]⟩,0,0,0,[],false,false⟩,([⟨1,⟨#[111,110]⟩,0⟩]:List cO)⟩,⟨⟨#[116,111,103,103,108,101]⟩,⟨⟨#[]⟩,0,0,0,[],false,false⟩,([⟨4,⟨#[111,110]⟩,0⟩]:List cO)⟩]:List Command)
  (0≤(0:Int)∧(0:Int)<(List.length v4:Int))∧
  let v9:aJ:=List.getD v4 (Int.toNat (0:Int)) (aA .aJ)
  let v10:List aJ:=List.set v4 (Int.toNat (0:Int)) ⟨v9.name,v9.attrs,bx,v9.events⟩
  (0≤(0:Int)∧(0:Int)<(List.length v4:Int))∧
  (0≤(1:Int)∧(1:Int)<(List.length v10:Int))∧
  let v12:aJ:=List.getD v10 (Int.toNat (1:Int)) (aA .aJ)
  let bT:List aJ:=List.set v10 (Int.toNat (1:Int)) ⟨v12.name,([⟨⟨#[108,101,118,101,108]⟩,2,0,100,[],true,false⟩]:List Attr),v12.commands,v12.events⟩
  (0≤(1:Int)∧(1:Int)<(List.length v10:Int))∧
  let c8:List Command:=([⟨⟨#[109,111,118,101]⟩,⟨⟨#[116,111]⟩,2,0,100,[],false,false⟩,([⟨2,⟨#[108,101,118,101,108]⟩,0⟩]:List cO)⟩,⟨⟨#[115,116,101,112]⟩,⟨⟨#[]⟩,0,0,0,[],false,false⟩,([⟨3,⟨#[108,101,118,101,108]⟩,10⟩]:List cO)⟩]:List Command)
  (0≤(1:Int)∧(1:Int)<(List.length bT:Int))∧
  let dM:aJ:=List.getD bT (Int.toNat (1:Int)) (aA .aJ)
  let ea:List aJ:=List.set bT (Int.toNat (1:Int)) ⟨dM.name,dM.attrs,c8,dM.events⟩
  (0≤(1:Int)∧(1:Int)<(List.length bT:Int))∧
  (0≤(2:Int)∧(2:Int)<(List.length ea:Int))∧
  let v20:aJ:=List.getD ea (Int.toNat (2:Int)) (aA .aJ)
  let v21:List aJ:=List.set ea (Int.toNat (2:Int)) ⟨v20.name,([⟨⟨#[108,111,99,107,101,100]⟩,1,0,0,[],true,true⟩]:List Attr),v20.commands,v20.events⟩
  (0≤(2:Int)∧(2:Int)<(List.length ea:Int))∧
  let v24:List Command:=([⟨⟨#[108,111,99,107]⟩,⟨⟨#[]⟩,0,0,0,[],false,false⟩,([⟨1,⟨#[108,111,99,107,101,100]⟩,1⟩]:List cO)⟩,⟨⟨#[117,110,108,111,99,107]⟩,⟨⟨#[]⟩,0,0,0,[],false,false⟩,([⟨1,⟨#[108,111,99,107,101,100]⟩,0⟩]:List cO)⟩]:List Command)
  (0≤(2:Int)∧(2:Int)<(List.length v21:Int))∧
  let v25:aJ:=List.getD v21 (Int.toNat (2:Int)) (aA .aJ)
  let v26:List aJ:=List.set v21 (Int.toNat (2:Int)) ⟨v25.name,v25.attrs,v24,v25.events⟩
  (0≤(2:Int)∧(2:Int)<(List.length v21:Int))∧
  (0≤(2:Int)∧(2:Int)<(List.length v26:Int))∧
  let v28:aJ:=List.getD v26 (Int.toNat (2:Int)) (aA .aJ)
  let iu:List aJ:=List.set v26 (Int.toNat (2:Int)) ⟨v28.name,v28.attrs,v28.commands,([⟨#[106,97,109]⟩]:List ByteArray)⟩
  (0≤(2:Int)∧(2:Int)<(List.length v26:Int))∧
  (0≤(3:Int)∧(3:Int)<(List.length iu:Int))∧
  let v31:aJ:=List.getD iu (Int.toNat (3:Int)) (aA .aJ)
  let wI:List aJ:=List.set iu (Int.toNat (3:Int)) ⟨v31.name,([⟨⟨#[116,97,114,103,101,116]⟩,2,50,300,[],true,false⟩,⟨⟨#[116,101,109,112]⟩,2,(-500),1000,[],false,false⟩]:List Attr),v31.commands,v31.events⟩
  (0≤(3:Int)∧(3:Int)<(List.length iu:Int))∧
  (0≤(4:Int)∧(4:Int)<(List.length wI:Int))∧
  let zv:aJ:=List.getD wI (Int.toNat (4:Int)) (aA .aJ)
  let CZ:List aJ:=List.set wI (Int.toNat (4:Int)) ⟨zv.name,([⟨⟨#[97,108,97,114,109]⟩,1,0,0,[],false,true⟩]:List Attr),zv.commands,zv.events⟩
  (0≤(4:Int)∧(4:Int)<(List.length wI:Int))∧
  (0≤(4:Int)∧(4:Int)<(List.length CZ:Int))∧
  let v37:aJ:=List.getD CZ (Int.toNat (4:Int)) (aA .aJ)
  let C0:List aJ:=List.set CZ (Int.toNat (4:Int)) ⟨v37.name,v37.attrs,v37.commands,([⟨#[116,101,115,116]⟩]:List ByteArray)⟩
  (0≤(4:Int)∧(4:Int)<(List.length CZ:Int))∧
  (0≤(5:Int)∧(5:Int)<(List.length C0:Int))∧
  let v40:aJ:=List.getD C0 (Int.toNat (5:Int)) (aA .aJ)
  let C1:List aJ:=List.set C0 (Int.toNat (5:Int)) ⟨v40.name,([⟨⟨#[119,101,116]⟩,1,0,0,[],false,true⟩]:List Attr),v40.commands,v40.events⟩
  (0≤(5:Int)∧(5:Int)<(List.length C0:Int))∧
  (0≤(6:Int)∧(6:Int)<(List.length C1:Int))∧
  let Hy:aJ:=List.getD C1 (Int.toNat (6:Int)) (aA .aJ)
  let C2:List aJ:=List.set C1 (Int.toNat (6:Int)) ⟨Hy.name,([⟨⟨#[111,112,101,110]⟩,1,0,0,[],true,true⟩]:List Attr),Hy.commands,Hy.events⟩
  (0≤(6:Int)∧(6:Int)<(List.length C1:Int))∧
  let zaI:List Command:=([⟨⟨#[111,112,101,110]⟩,⟨⟨#[]⟩,0,0,0,[],false,false⟩,([⟨1,⟨#[111,112,101,110]⟩,1⟩]:List cO)⟩,⟨⟨#[99,108,111,115,101]⟩,⟨⟨#[]⟩,0,0,0,[],false,false⟩,([⟨1,⟨#[111,112,101,110]⟩,0⟩]:List cO)⟩]:List Command)
  (0≤(6:Int)∧(6:Int)<(List.length C2:Int))∧
  let Hz:aJ:=List.getD C2 (Int.toNat (6:Int)) (aA .aJ)
  let v49:List aJ:=List.set C2 (Int.toNat (6:Int)) ⟨Hz.name,Hz.attrs,zaI,Hz.events⟩
  (0≤(6:Int)∧(6:Int)<(List.length C2:Int))∧
  (0≤(7:Int)∧(7:Int)<(List.length v49:Int))∧
  let v51:aJ:=List.getD v49 (Int.toNat (7:Int)) (aA .aJ)
  0≤(7:Int)∧(7:Int)<(List.length v49:Int)
 ∃bB:Nat→((List aJ))→Prop,bB 0 (List.replicate (Int.toNat (8:Int)) (aA .aJ))∧(∀(i2:Nat) (d0:(List aJ)),i2<Int.toNat (8:Int)→bB i2 d0→(
  let v4:ByteArray:=HA ([⟨#[111,110,111,102,102]⟩,⟨#[108,101,118,101,108]⟩,⟨#[108,111,99,107]⟩,⟨#[116,104,101,114,109,111,115,116,97,116]⟩,⟨#[115,109,111,107,101]⟩,⟨#[108,101,97,107]⟩,⟨#[118,97,108,118,101]⟩,⟨#[109,101,116,101,114]⟩]:List ByteArray) (Int.toNat (i2:Int))
  (0≤(i2:Int)∧(i2:Int)<(List.length d0:Int))∧
  let v5:aJ:=List.getD d0 (Int.toNat (i2:Int)) (aA .aJ)
  (0≤(i2:Int)∧(i2:Int)<(List.length d0:Int))∧
  bB (i2+1) (List.set d0 (Int.toNat (i2:Int)) ⟨v4,v5.attrs,v5.commands,v5.events⟩)))∧∀bR,bB (Int.toNat (8:Int)) bR→aW bR
theorem zaJ:Qp:=by
 refine⟨by decide,fun _ d=>d.length=8,by simp,fun i d hi hd=>?_,fun c hc=>?_⟩
 ·have hi:i<8:=hi
  dsimp only;simp only[List.length_set];exact⟨by omega,by omega,hd⟩
 ·have hc:c.length=8:=hc
  dsimp only;simp only[List.length_set,hc];decide
noncomputable def i147:Nat→List ab→ao→aC:=Hv bh 147 Tryz.f147 98 fun B=>CW uH (C3 bh (jG.all bh uH) uH (60,108,5) [] [] [] [] 16) 98 B
noncomputable def uI:aC:=i147 147 (hz 0 []) (qf 0)
theorem zaK:i147 147 (hz 0 jh.ps) (qf jh.ps.length)=uI:=by kernel_rfl
theorem zaL:uI.gv.all (uJ jh.rs)=true:=by kernel_rfl
theorem zaM(x:(fb jh.ps).den):wJ [] uI (gw 0 (dx jh.ps x))=Qp:=by kernel_rfl
theorem zaN(x:(fb jh.ps).den):wK [] uI jh.rs (gw 0 (dx jh.ps x))=jh.m x:=by kernel_rfl
theorem n147:Tryz.f147.ntmps=98:=by kernel_rfl
theorem zaO:([]:List ab).length+(Tryz.f147.ntmps-([]:List ab).length)=98:=by rw[n147];rfl
theorem zaP{G:a7}(sN:uK bh G 60 108 5)(k4:G 0=some (l3.map fun s=>a1.v (.string s))):fO bh G [] i147:=
 zaH (f0:=147) (N:=98) (fn:=Tryz.f147) (c:=k3) (by kernel_rfl) (by kernel_rfl) zaO fun B=>zaG (HB Hu (fun _ h=>by cases h) (fun _ h=>by cases h) sN (fun _ h=>by cases h) rn.nil 16) k4
theorem zaQ: ∀x,kO jh.pre x→wJ [] uI (gw 0 (dx jh.ps x)):=by
 intro x _
 have h:=zaM x
 with_reducible rw[h]
 exact zaJ
theorem zaR: ∀x,kO jh.pre x→wK [] uI jh.rs (gw 0 (dx jh.ps x))=jh.m x:=by
 intro x _
 with_reducible exact zaN x
theorem Qq{G:a7}(sN:uK bh G 60 108 5)(k4:G 0=some (l3.map fun s=>a1.v (.string s))):bI bh G 147 jh:=by
 refine zaS (P:=bh) (G:=G) (M:=[]) (inl:=i147) (f:=147) (m:=jh) (zaP sN k4) uI zaK zaL ?_ ?_
 ·with_reducible exact zaQ
 ·with_reducible exact zaR
end Go.aK
