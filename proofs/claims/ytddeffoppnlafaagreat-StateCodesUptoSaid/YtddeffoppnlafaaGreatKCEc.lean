/- CE, part C: these values are right. Conditions: none. -/
import Derived.Test.YtddeffoppnlafaaGreatKCEb
namespace Go.aK
open Go
section
variable {P:Program} {G:aR} {o:Oper} {s:aQ} {S:bD}
theorem Zb{t:TypeId}{x:Operand}{lo hi:Option Operand}{v:aC}(au:o.op= .slice t x lo hi none)(h:IJ P (aP G s) t x lo hi=some v):cY P G o s v:=by
 unfold IJ at h
 split at h
 ·rename_i n es hx
  split at h
  ·rename_i m l k hm av an
   split at h
   ·rename_i hc
    simp only[Bool.and_eq_true]at hc;cases h
    have:=eI hc.1
    subst this;exact Zc t x lo hi au hm hx (D8 av) (D8 an) (Nat.le_of_ble_eq_true hc.2.1) (Nat.le_of_ble_eq_true hc.2.2) rfl
   ·cases h
  ·cases h
 ·rename_i b hx
  split at h
  ·rename_i l k hm av an
   split at h
   ·rename_i hc
    simp only[Bool.and_eq_true]at hc;cases h;exact AP t x lo hi au (sE hm) hx (D8 av) (D8 an) (Nat.le_of_ble_eq_true hc.1) (Nat.le_of_ble_eq_true hc.2)
   ·cases h
  ·cases h
 ·cases h
theorem Zd{src dst:TypeId}{x:Operand}{v:aC}(au:o.op= .convert src dst x)(h:IL P s.heap src dst (aP G s x)=some v):cY P G o s v:=by
 unfold IL at h
 split at h
 ·rename_i e ao hd
  split at h
  ·rename_i es he AQ
   split at h
   ·rename_i l av
    cases h;exact I0 src dst e x au ao he hd (by rw[AQ,IK av])
   ·cases h
  ·cases h
 ·rename_i t ao hd
  split at h
  ·rename_i id off hx
   split at h
   ·rename_i bt l ai aT
    split at h
    ·rename_i bE
     cases h;intro E a w β ro ah;obtain⟨b,ag,he⟩:=ob ah hx ai;obtain⟨arr,v,_,_,hc⟩:=Ee (off:=off) ah ai ag (e9 bE);refine⟨.pointer (some ⟨b,off,none⟩),?_,by have:=ah.eval x;rw[he]at this;exact this⟩
     simp only[execOp,au,he,Sem.run_bind,run_convert_to_unsafe ao hd aT hc,Result.andThen_ok,Sem.run_pure]
    ·cases h
   ·cases h
  ·cases h
 ·rename_i u ao hd
  split at h
  ·rename_i id off hx
   split at h
   ·rename_i bt l ai
    split at h
    ·rename_i hc
     simp only[Bool.and_eq_true]at hc;cases h;intro E a w β ro ah;obtain⟨b,ag,he⟩:=ob ah hx ai;obtain⟨arr,v,fx,bT,h2⟩:=Ee (off:=off) ah ai ag (e9 hc.2);refine⟨.pointer (some ⟨b,off,none⟩),?_,by have:=ah.eval x;rw[he]at this;exact this⟩
     have AR:w.shape? b=some (bt,l.length):=by simp[World.shape?,fx,bT]
     have I1:(convert src dst (.pointer (some ⟨b,off,none⟩))).run P w= .ok (.pointer (some ⟨b,off,none⟩)) w:=by
      obtain⟨i,hi⟩:=Option.isSome_iff_exists.1 hc.1.2
      have sF:=hc.1.1
      by_cases aT:i.size=0
      ·simp[convert,Conv.unsafePointer,Conv.seenAt,viewAt,variablesAt,sizeOf,typeInfo,run_underlying ao,run_underlying hd,hi,aT,AR,sF,Result.andThen]
      ·simp[convert,Conv.unsafePointer,Conv.seenAt,viewAt,variablesAt,sizeOf,typeInfo,run_underlying ao,run_underlying hd,hi,aT,AR,sF,Result.andThen]
     simp only[execOp,au,he,Sem.run_bind,I1,Result.andThen_ok,Sem.run_pure]
    ·cases h
   ·cases h
  ·cases h
 ·cases h
theorem Ze{t:TypeId}{x:Operand}{v:aC}(au:o.op= .makeInterface t x)(h:IM P t (aP G s x)=some v):cY P G o s v:=by
 unfold IM at h
 have cy:vR P t=false→∀(v:Value) (w:World),(Instr.makeInterface t v).run P w= .ok (.iface t v) w:=fun hi v w=>by
  obtain⟨d,hd,eE⟩:=AS hi;unfold Instr.makeInterface
  cases d<;>first|exact absurd rfl (eE _)|simp[run_underlying hd,Result.andThen]
 split at h
 ·rename_i cs hi hx
  split at h
  ·rename_i l av
   cases h;intro E a w β ro ah
   have c5:=ah.eval x
   rw[hx,xS av]at c5;exact⟨_,by simp[execOp,au,cy hi],.ad _ _ (QS c5)⟩
  ·cases h
 ·rename_i y hi hx
  cases h;intro E a w β ro ah
  have c5:=ah.eval x
  rw[hx]at c5;refine⟨_,by simp[execOp,au,cy hi];rfl,?_⟩
  cases c5 with
  |ad _ _ q=>
   refine .ad _ _ (.ei t false _ _ (fun _=>a.eval x) ⟨rfl,rfl⟩ fun i y aA=>?_)
   cases i with
   |zero=>
    simp only[List.getElem?_cons_zero,Option.some.injEq]at aA
    subst aA;exact q
   |succ i=>simp at aA
 ·cases h
theorem Zf{x:Operand}{nu t:TypeId}{c:Bool}{v:aC}(au:o.op= .typeAssert x nu t c)(h:IN P t (aP G s x) c=some v):cY P G o s v:=by
 unfold IN at h
 split at h
 ·rename_i u cA l hi hx
  obtain⟨d,hd,eE⟩:=AS hi
  have aE: ∀{E:Entry} {a:Act} {w:World} {β:Nat→Value} {ro:Nat→Prop},dn E G s a w β ro→∃v,a.eval x= .iface u v∧de w ro (.ei u cA l) (.iface u v):=fun {E a w β ro} ah=>by
   have c5:=ah.eval x
   rw[hx]at c5;generalize hc:a.eval x=p5 at c5
   cases c5 with
   |ad _ _ q=>
    cases q with
    |ei _ _ _ v p ab ae=>exact⟨v,rfl,.ei _ _ _ v p ab ae⟩
  split at h
  ·rename_i y ag aA
   have p6:=eI ag
   have p7: ∀{w:World} {β:Nat→Value} {ro:Nat→Prop} {v:Value},de w ro (.ei u cA l) (.iface u v)→bA w ro s.heap β s.next y v:=fun {w β ro v} q=>by
    unfold D9 at aA
    split at aA
    ·cases aA;exact Ef q
    ·rename_i a7
     cases aA
     cases q with
     |ei _ _ _ _ p g1 g2=>
      obtain⟨_,rfl⟩:=g1;exact .ad _ _ (g2 0 _ rfl)
    ·cases aA
   have AT: ∀(v:Value) (w:World),(Instr.typeAssert (.iface u v) nu t c).run P w= .ok (match c with|true=>.tuple #[v,.bool true]|false=>v) w:=fun v w=>by
    unfold Instr.typeAssert
    cases d<;>first|exact absurd rfl (eE _)|(cases c<;>simp[run_underlying hd,Result.andThen,p6])
   split at h
   ·cases h
    intro E a w β ro ah;obtain⟨v,c5,q⟩:=aE ah;refine⟨.tuple #[v,.bool true],by simp[execOp,au,c5,AT v w],.tuple _ _ rfl fun j z aj=>?_⟩
    match j,aj with
    |0,aj=>simp at aj;subst aj;exact p7 q
    |1,aj=>simp at aj;subst aj;exact .e3 rfl
    |j+2,aj=>simp at aj
   ·cases h
    intro E a w β ro ah;obtain⟨v,c5,q⟩:=aE ah;exact⟨v,by simp[execOp,au,c5,AT v w],p7 q⟩
  ·rename_i ag
   have p6:=ug ag
   split at h
   ·rename_i z aT
    split at h
    ·rename_i kT
     cases h;intro E a w β ro ah;obtain⟨v,c5,q⟩:=aE ah
     have uk:(zeroValue t).run P w= .ok z w:=by
      cases hi:P.info? t with
      |none=>rw[hi]at aT;cases aT
      |some i=>
       rw[hi]at aT
       have lP:i.zero=some z:=aT
       simp[zeroValue,typeInfo,hi,lP]
     refine⟨.tuple #[z,.bool false],?_,.tuple _ _ rfl fun j y aj=>?_⟩
     ·have:(Instr.typeAssert (.iface u v) nu t true).run P w= .ok (.tuple #[z,.bool false]) w:=by
       unfold Instr.typeAssert
       cases d<;>first|exact absurd rfl (eE _)|simp[run_underlying hd,Result.andThen,p6,uk]
      simp[execOp,au,c5,this]
     ·match j,aj with
      |0,aj=>simp at aj;subst aj;exact AU kT
      |1,aj=>simp at aj;subst aj;exact .e3 rfl
      |j+2,aj=>simp at aj
    ·cases h
   ·cases h
  ·cases h
 ·rename_i hi hx
  obtain⟨d,hd,eE⟩:=AS hi
  split at h
  ·rename_i z aT
   split at h
   ·rename_i kT
    cases h;intro E a w β ro ah
    have c5:=ah.dR hx
    have uk:(zeroValue t).run P w= .ok z w:=by
     cases hi:P.info? t with
     |none=>rw[hi]at aT;cases aT
     |some i=>
      rw[hi]at aT
      have lP:i.zero=some z:=aT
      simp[zeroValue,typeInfo,hi,lP]
    refine⟨.tuple #[z,.bool false],?_,.tuple _ _ rfl fun j y aj=>?_⟩
    ·have:(Instr.typeAssert .nilIface nu t true).run P w= .ok (.tuple #[z,.bool false]) w:=by
      unfold Instr.typeAssert
      cases d<;>first|exact absurd rfl (eE _)|simp[run_underlying hd,Result.andThen,uk]
     simp[execOp,au,c5,this]
    ·match j,aj with
     |0,aj=>simp at aj;subst aj;exact AU kT
     |1,aj=>simp at aj;subst aj;exact .e3 rfl
     |j+2,aj=>simp at aj
   ·cases h
  ·cases h
 ·cases h
theorem QT{m:Operand}{a:Bool}{l:List (Value × List aU)}(h:IW S (aP G S.den m)=some (a,l)):mP G S.den m a l:=by
 unfold IW at h
 split at h
 ·rename_i id hm
  split at h
  ·rename_i bb er ai
   cases h;exact mP.own hm (by show aE (cX S.h) id=_;rw[sC,ai];rfl)
  ·cases h
 ·cases h
theorem Zg{t:TypeId}{m x:Operand}{c:Bool}{v:aC}(au:o.op= .lookup t m x c)(h:IX P S t (aP G S.den m) (aP G S.den x) c=some v):cY P G o S.den v:=by
 unfold IX at h
 split at h
 ·rename_i a l k fl e1 hm hx aJ
  split at h
  ·rename_i d hd
   split at h
   ·rename_i hc
    simp only[Bool.and_eq_true]at hc
    have an:=IQ hc.1
    have j1:=IT hc.2
    split at h
    ·rename_i i hi
     obtain⟨_,cs,fj⟩:=IV an j1 hi;rw[Nat.sub_zero]at fj;rw[fj]at h;cases h;exact QU c m x au aJ hd (QT hm) hx an j1 fj
    ·rename_i hi
     split at h
     ·rename_i z aT
      split at h
      ·rename_i kT
       cases h;exact QV c m x au aJ hd (QT hm) hx an j1 (IU j1 hi) aT kT
      ·cases h
     ·cases h
   ·cases h
  ·cases h
 ·cases h
theorem QW{id:Nat}(h:Eb s.heap id=true): ∃t cs,aE s.heap id=some (.box t cs):=by
 unfold Eb at h
 split at h
 ·exact⟨_,_,by assumption⟩
 ·cases h
theorem Zh{op:BinOp}{cJ ty:TypeId}{x y:Operand}{v:aC}(au:o.op= .binOp op cJ x y ty)(h:IY P s.heap op cJ (aP G s x) (aP G s y)=some v):cY P G o s v:=by
 unfold IY at h
 split at h
 rotate_left
 ·cases h
 rename_i b aJ ag
 split at h
 ·rename_i ab ae
  cases h
  have:=vV (G:=G) (s:=s) (c:=true) au aJ ag fun E a w β ro ah=>⟨none,none,um ah ab,um ah ae,.inl ⟨rfl,rfl⟩⟩
  cases b<;>exact this
 ·rename_i i q j iF ab ae
  split at h
  ·rename_i hc
   cases h;simp only[Bool.and_eq_true]at hc;obtain⟨⟨aB,bU⟩,b7⟩:=hc
   have aB:=eI aB
   have bU:=eI bU
   subst aB bU;obtain⟨bt,cs,ai⟩:=QW b7
   have:=vV (G:=G) (s:=s) (c:=true) au aJ ag fun E a w β ro ah=>by
    obtain⟨fV,g1,g2⟩:=ob ah ab ai;obtain⟨h3,g3,g4⟩:=ob ah ae ai;rw[g1]at g3
    cases g3
    exact⟨_,_,g2,g4,.inr (.inr ⟨_,rfl,rfl,rfl⟩)⟩
   cases b<;>exact this
  ·cases h
 ·rename_i i q ab ae
  split at h
  ·rename_i hc
   cases h;obtain⟨bt,cs,ai⟩:=QW hc
   have:=vV (G:=G) (s:=s) (c:=false) au aJ ag fun E a w β ro ah=>by
    obtain⟨fV,g1,g2⟩:=ob ah ab ai;exact⟨_,_,g2,um ah ae,.inl ⟨rfl,rfl⟩⟩
   cases b<;>exact this
  ·cases h
 ·cases h
theorem Zi{f:Operand}{args:Array Operand}{ts:Array TypeId}{v:aC}(au:o.op= .call {callee:=.value f,args:=args,argTypes:=ts})(h:IZ P (aP G s f) (args.toList.map (aP G s))=some v):cY P G o s v:=by
 unfold IZ at h
 split at h
 rotate_left
 ·cases h
 rename_i Eg uo
 have start: ∀{ev:Array Value→Sem Value} {fn:Func},P.funcs[Eg]? =some fn→fn.body.isNone=true→(fn.name== "runtime.NumGoroutine")=false→Extern.findNext fn=none→Extern.find fn=some ev→∀E a w β ro,dn E G s a w β ro→(execOp a.eval o).run P w=((ev (args.map a.eval)).run P w).andThen fun v w'=>.ok (.value v) w':=fun {ev fn} ab ae aw aM bn E a w β ro ah=>by
  have hc:=ah.eval f
  rw[uo]at hc;generalize he:a.eval f=Eh at hc
  cases hc with
  |fn _ _ _ c d g1 g2 _ _=>
   have hQ:c= #[]:=by simpa using g1
   have p8:d= #[]:=by simpa using g2
   subst hQ p8;simp only[execOp,au,resolve,he,Deferred.ofValue,Sem.run_bind,Sem.run_pure,Result.andThen_ok,invoke,Array.empty_append,Array.append_empty];exact run_callFunc_extern ab aw ae aM bn _ w
 split at h
 ·rename_i x an av
  cases h;unfold xQ at an
  split at an
  rotate_left
  ·cases an
  rename_i fn o5
  split at an
  ·rename_i _ p9 rp
   simp only[Bool.and_eq_true]at p9;obtain⟨ag,fM⟩:=p9
   have hn:=uq rp
   have fM:=uq fM
   obtain⟨y,aA⟩: ∃y,args.toList=[y]:=by
    match aG:args.toList with
    |[y]=>exact⟨y,rfl⟩
    |[]=>rw[aG]at av;simp at av
    |_::_::_=>rw[aG]at av;simp at av
   rw[aA]at av;simp only[List.map_cons,List.map_nil,List.cons.injEq,and_true]at av
   have jc:args= #[y]:=by rw[←Array.toList_inj];exact aA
   intro E a w β ro ah;refine⟨a.eval y,?_,by have:=ah.eval y;rw[av]at this;exact this⟩
   rw[start (ev:=Extern.AbiNoEscape.same) o5 ag (by rw[hn];rfl) (by unfold Extern.findNext;simp only[hn,fM]<;>rfl) (by unfold Extern.find;simp only[hn,fM]<;>rfl) E a w β ro ah,jc]
   have hm:(#[y]:Array Operand).map a.eval= #[a.eval y]:=by simp
   rw[hm];rfl
  ·cases an
  ·cases an
 ·rename_i b c an av
  cases h;unfold xQ at an
  split at an
  rotate_left
  ·cases an
  rename_i fn o5
  split at an
  ·cases an
  ·rename_i p9 _ rp
   simp only[Bool.and_eq_true]at p9;obtain⟨ag,fM⟩:=p9
   have hn:=uq rp
   have fM:=uq fM
   obtain⟨y,u,QX⟩: ∃y u,args.toList=[y,u]:=by
    match aG:args.toList with
    |[y,u]=>exact⟨y,u,rfl⟩
    |[]=>rw[aG]at av;simp at av
    |[_]=>rw[aG]at av;simp at av
    |_::_::_::_=>rw[aG]at av;simp at av
   rw[QX]at av;simp only[List.map_cons,List.map_nil,List.cons.injEq,and_true]at av
   have jc:args= #[y,u]:=by rw[←Array.toList_inj];exact QX
   intro E a w β ro ah;refine⟨.int .i64 (xR b c),?_,.e3 rfl⟩
   rw[start (ev:=Extern.BytealgIndexByte.indexByte) o5 ag (by rw[hn];rfl) (by unfold Extern.findNext;simp only[hn,fM]<;>rfl) (by unfold Extern.find;simp only[hn,fM]<;>rfl) E a w β ro ah,jc]
   have hm:(#[y,u]:Array Operand).map a.eval= #[.string b,.int .u8 c]:=by simp[ah.dR av.1,ah.dR av.2]
   rw[hm];rw[QY];rfl
  ·cases an
 ·cases h
theorem I2{v:aC}(h:Ed P G o S=some v):cY P G o S.den v:=by
 unfold Ed at h
 rw[ui]at h
 split at h
 ·rename_i bu az
  cases h;exact Ei az
 ·split at h
  ·rename_i op t x y ty au
   split at h
   ·rename_i k a a8 b hx aA
    split at h
    ·rename_i c hc
     cases h
     exact fun _ bb w β ro ah=>by
      obtain⟨ab,ae,aw⟩:=I3 (P:=P) hc t x y w;exact⟨c,by simp[execOp,au,ah.dR hx,ah.dR aA,ab,ae],.e3 aw⟩
    ·cases h
   ·exact Zh au h
  ·rename_i t x au
   split at h
   ·rename_i k a hx
    cases h;exact fun _ bb w β ro ah=>⟨_,by simp[execOp,au,ah.dR hx,Op.unary,Op.intBits,aK.iO],.e3 rfl⟩
   ·cases h
  ·rename_i t x lo hi au
   exact Zb au h
  ·rename_i src dst x au
   exact Zd au h
  ·rename_i f p q au
   cases h;exact QZ au
  ·rename_i t x au
   exact Ze au h
  ·rename_i x nu t c au
   exact Zf au h
  ·rename_i t m x c au
   exact Zg au h
  ·rename_i t x i au
   split at h
   ·rename_i j cs len e aj hx aJ
    obtain⟨k,an⟩:=D7 aj
    split at h
    ·rename_i bu az hc
     cases h;simp only[Bool.and_eq_true,decide_eq_true_eq]at hc;intro E a w β ro ah
     have c5:=ah.eval x
     rw[hx]at c5;generalize he:a.eval x=c at c5
     cases c5 with
     |agg _ c ao h2=>
      have bE:j<c.size:=by have:=(List.getElem?_eq_some_iff.1 az).1;omega
      have aj:=e9 hc.2
      have vW:(sizeOf e).run P w= .ok 1 w:=by
       cases hi:P.info? e with
       |none=>simp[hi]at hc
       |some i=>simp[hi]at hc;simp[sizeOf,typeInfo,hi,hc]
      refine⟨c[j],?_,by simpa[bE]using h2 _ v az⟩
      simp[execOp,au,he,ah.dR an,Instr.index,asIntOf,run_underlying aJ,vW,part,xT hc.1.1,bE,aj]
    ·cases h
   ·cases h
  ·rename_i c au
   split at h
   ·rename_i f sG
    obtain⟨callee,args,ts⟩:=c;simp only at sG;subst sG;exact Zi au h
   ·cases h
  ·cases h
end
end Go.aK
