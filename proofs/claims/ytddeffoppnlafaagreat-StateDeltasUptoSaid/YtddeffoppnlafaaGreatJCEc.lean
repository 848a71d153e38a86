/- Conditions: none. -/
import Derived.Test.YtddeffoppnlafaaGreatJCEb
open Bool renaming and_eq_true->zZr
open Nat renaming le_of_ble_eq_true->zZq
namespace Go.aH
open Go
section
variable {P:Program} {G:aV} {o:Oper} {s:aS} {S:bS}
theorem zdg{t:TypeId}{x:Operand}{lo hi:Option Operand}{v:aC}(av:o.op= .slice t x lo hi none)(h:L0 P (aR G s) t x lo hi=some v):c8 P G o s v:=by
 unfold L0 at h
 split at h
 ·rename_i n es hx
  split at h
  ·rename_i m l k hm au an
   split at h
   ·rename_i hc
    simp only[zZr]at hc;cases h;have:=e9 hc.1;subst this;exact zdh t x lo hi av hm hx (G3 au) (G3 an) (zZq hc.2.1) (zZq hc.2.2) rfl
   ·cases h
  ·cases h
 ·rename_i b hx
  split at h
  ·rename_i l k hm au an
   split at h
   ·rename_i hc
    simp only[zZr]at hc;cases h;exact Dm t x lo hi av (uP hm) hx (G3 au) (G3 an) (zZq hc.1) (zZq hc.2)
   ·cases h
  ·cases h
 ·cases h
theorem zdi{src dst:TypeId}{x:Operand}{v:aC}(av:o.op= .convert src dst x)(h:L2 P s.heap src dst (aR G s x)=some v):c8 P G o s v:=by
 unfold L2 at h
 split at h
 ·rename_i e ao hd
  split at h
  ·rename_i es he Dn
   split at h
   ·rename_i l au
    cases h;exact Mf src dst e x av ao he hd (by rw[Dn,L1 au])
   ·cases h
  ·cases h
 ·rename_i t ao hd
  split at h
  ·rename_i id off hx
   split at h
   ·rename_i bt l ai aW
    split at h
    ·rename_i bR
     cases h;intro E a w β ro ah;obtain⟨b,af,he⟩:=pU ah hx ai;obtain⟨arr,v,_,_,hc⟩:=G9 (off:=off) ah ai af (fz bR);refine⟨.pointer (some ⟨b,off,none⟩),?_,by have:=ah.eval x;rw[he]at this;exact this⟩
     simp only[execOp,av,he,Sem.run_bind,run_convert_to_unsafe ao hd aW hc,Result.andThen_ok,Sem.run_pure]
    ·cases h
   ·cases h
  ·cases h
 ·rename_i u ao hd
  split at h
  ·rename_i id off hx
   split at h
   ·rename_i bt l ai
    split at h
    ·rename_i hc
     simp only[zZr]at hc;cases h;intro E a w β ro ah;obtain⟨b,af,he⟩:=pU ah hx ai;obtain⟨arr,v,fW,b4,hJ⟩:=G9 (off:=off) ah ai af (fz hc.2);refine⟨.pointer (some ⟨b,off,none⟩),?_,by have:=ah.eval x;rw[he]at this;exact this⟩
     have Dp:w.shape? b=some (bt,l.length):=by simp[World.shape?,fW,b4]
     have Mg:(convert src dst (.pointer (some ⟨b,off,none⟩))).run P w= .ok (.pointer (some ⟨b,off,none⟩)) w:=by
      obtain⟨i,hi⟩:=Option.isSome_iff_exists.1 hc.1.2;have uQ:=hc.1.1
      by_cases aW:i.size=0
      ·simp[convert,Conv.unsafePointer,Conv.seenAt,viewAt,variablesAt,sizeOf,typeInfo,run_underlying ao,run_underlying hd,hi,aW,Dp,uQ,Result.andThen]
      ·simp[convert,Conv.unsafePointer,Conv.seenAt,viewAt,variablesAt,sizeOf,typeInfo,run_underlying ao,run_underlying hd,hi,aW,Dp,uQ,Result.andThen]
     simp only[execOp,av,he,Sem.run_bind,Mg,Result.andThen_ok,Sem.run_pure]
    ·cases h
   ·cases h
  ·cases h
 ·cases h
theorem zdj{t:TypeId}{x:Operand}{v:aC}(av:o.op= .makeInterface t x)(h:L3 P t (aR G s x)=some v):c8 P G o s v:=by
 unfold L3 at h
 have cE:yc P t=false->∀(v:Value) (w:World),(Instr.makeInterface t v).run P w= .ok (.iface t v) w:=λhi v w=>by
  obtain⟨d,hd,e3⟩:=Dq hi;unfold Instr.makeInterface
  cases d<;>first|exact absurd rfl (e3 _)|simp[run_underlying hd,Result.andThen]
 split at h
 ·rename_i cs hi hx
  split at h
  ·rename_i l au
   cases h;intro E a w β ro ah
   have dh:=ah.eval x;rw[hx,AA au]at dh;exact⟨_,by simp[execOp,av,cE hi],.ad _ _ (Ty dh)⟩
  ·cases h
 ·rename_i y hi hx
  cases h;intro E a w β ro ah
  have dh:=ah.eval x;rw[hx]at dh;refine⟨_,by simp[execOp,av,cE hi];rfl,?_⟩
  cases dh with
  |ad _ _ q=>
   refine .ad _ _ (.eE t false _ _ (λ_=>a.eval x) ⟨rfl,rfl⟩ λi y aA=>?_)
   cases i with
   |zero=>
    simp only[List.getElem?_cons_zero,Option.some.injEq]at aA;subst aA;exact q
   |succ i=>simp at aA
 ·cases h
theorem zdk{x:Operand}{o8 t:TypeId}{c:Bool}{v:aC}(av:o.op= .typeAssert x o8 t c)(h:L4 P t (aR G s x) c=some v):c8 P G o s v:=by
 unfold L4 at h
 split at h
 ·rename_i u cH l hi hx
  obtain⟨d,hd,e3⟩:=Dq hi
  have aF: ∀{E:Entry} {a:Act} {w:World} {β:Nat->Value} {ro:Nat->Prop},dy E G s a w β ro->∃v,a.eval x= .iface u v/\dq w ro (.eE u cH l) (.iface u v):=λ{E a w β ro} ah=>by
   have dh:=ah.eval x;rw[hx]at dh;generalize hc:a.eval x=rR at dh
   cases dh with
   |ad _ _ q=>
    cases q with
    |eE _ _ _ v p aa ae=>exact⟨v,rfl,.eE _ _ _ v p aa ae⟩
  split at h
  ·rename_i y af aA
   have rS:=e9 af
   have rT: ∀{w:World} {β:Nat->Value} {ro:Nat->Prop} {v:Value},dq w ro (.eE u cH l) (.iface u v)->bN w ro s.heap β s.next y v:=λ{w β ro v} q=>by
    unfold G4 at aA
    split at aA
    ·cases aA;exact Ha q
    ·rename_i aU
     cases aA
     cases q with
     |eE _ _ _ _ p g1 g2=>
      obtain⟨_,rfl⟩:=g1;exact .ad _ _ (g2 0 _ rfl)
    ·cases aA
   have Dr: ∀(v:Value) (w:World),(Instr.typeAssert (.iface u v) o8 t c).run P w= .ok (match c with|true=>.tuple #[v,.bool true]|false=>v) w:=λv w=>by
    unfold Instr.typeAssert
    cases d<;>first|exact absurd rfl (e3 _)|(cases c<;>simp[run_underlying hd,Result.andThen,rS])
   split at h
   ·cases h
    intro E a w β ro ah;obtain⟨v,dh,q⟩:=aF ah;refine⟨.tuple #[v,.bool true],by simp[execOp,av,dh,Dr v w],.tuple _ _ rfl λj z aj=>?_⟩
    match j,aj with
    |0,aj=>simp at aj;subst aj;exact rT q|1,aj=>simp at aj;subst aj;exact .fu rfl|j+2,aj=>simp at aj
   ·cases h
    intro E a w β ro ah;obtain⟨v,dh,q⟩:=aF ah;exact⟨v,by simp[execOp,av,dh,Dr v w],rT q⟩
  ·rename_i af
   have rS:=wy af
   split at h
   ·rename_i z aW
    split at h
    ·rename_i lZ
     cases h;intro E a w β ro ah;obtain⟨v,dh,q⟩:=aF ah
     have wC:(zeroValue t).run P w= .ok z w:=by
      cases hi:P.info? t with
      |none=>rw[hi]at aW;cases aW
      |some i=>
       rw[hi]at aW;have m7:i.zero=some z:=aW;simp[zeroValue,typeInfo,hi,m7]
     refine⟨.tuple #[z,.bool false],?_,.tuple _ _ rfl λj y aj=>?_⟩
     ·have:(Instr.typeAssert (.iface u v) o8 t true).run P w= .ok (.tuple #[z,.bool false]) w:=by
       unfold Instr.typeAssert
       cases d<;>first|exact absurd rfl (e3 _)|simp[run_underlying hd,Result.andThen,rS,wC]
      simp[execOp,av,dh,this]
     ·match j,aj with
      |0,aj=>simp at aj;subst aj;exact Ds lZ|1,aj=>simp at aj;subst aj;exact .fu rfl|j+2,aj=>simp at aj
    ·cases h
   ·cases h
  ·cases h
 ·rename_i hi hx
  obtain⟨d,hd,e3⟩:=Dq hi
  split at h
  ·rename_i z aW
   split at h
   ·rename_i lZ
    cases h;intro E a w β ro ah
    have dh:=ah.ef hx
    have wC:(zeroValue t).run P w= .ok z w:=by
     cases hi:P.info? t with
     |none=>rw[hi]at aW;cases aW
     |some i=>
      rw[hi]at aW;have m7:i.zero=some z:=aW;simp[zeroValue,typeInfo,hi,m7]
    refine⟨.tuple #[z,.bool false],?_,.tuple _ _ rfl λj y aj=>?_⟩
    ·have:(Instr.typeAssert .nilIface o8 t true).run P w= .ok (.tuple #[z,.bool false]) w:=by
      unfold Instr.typeAssert
      cases d<;>first|exact absurd rfl (e3 _)|simp[run_underlying hd,Result.andThen,wC]
     simp[execOp,av,dh,this]
    ·match j,aj with
     |0,aj=>simp at aj;subst aj;exact Ds lZ|1,aj=>simp at aj;subst aj;exact .fu rfl|j+2,aj=>simp at aj
   ·cases h
  ·cases h
 ·cases h
theorem Tz{m:Operand}{a:Bool}{l:List (Value × List a7)}(h:Mb S (aR G S.den m)=some (a,l)):ou G S.den m a l:=by
 unfold Mb at h
 split at h
 ·rename_i id hm
  split at h
  ·rename_i bo dF ai
   cases h;exact ou.own hm (by show aF (c7 S.h) id=_;rw[uN,ai];rfl)
  ·cases h
 ·cases h
theorem zdl{t:TypeId}{m x:Operand}{c:Bool}{v:aC}(av:o.op= .lookup t m x c)(h:Mc P S t (aR G S.den m) (aR G S.den x) c=some v):c8 P G o S.den v:=by
 unfold Mc at h
 split at h
 ·rename_i a l k fK fr hm hx aJ
  split at h
  ·rename_i d hd
   split at h
   ·rename_i hc
    simp only[zZr]at hc;have an:=L6 hc.1;have kV:=L8 hc.2
    split at h
    ·rename_i i hi
     obtain⟨_,cs,fH⟩:=Ma an kV hi;rw[Nat.sub_zero]at fH;rw[fH]at h;cases h;exact TA c m x av aJ hd (Tz hm) hx an kV fH
    ·rename_i hi
     split at h
     ·rename_i z aW
      split at h
      ·rename_i lZ
       cases h;exact TB c m x av aJ hd (Tz hm) hx an kV (L9 kV hi) aW lZ
      ·cases h
     ·cases h
   ·cases h
  ·cases h
 ·cases h
theorem TC{id:Nat}(h:G6 s.heap id=true): ∃t cs,aF s.heap id=some (.box t cs):=by
 unfold G6 at h
 split at h
 ·exact⟨_,_,by assumption⟩
 ·cases h
theorem zdm{op:BinOp}{cR ty:TypeId}{x y:Operand}{v:aC}(av:o.op= .binOp op cR x y ty)(h:Md P s.heap op cR (aR G s x) (aR G s y)=some v):c8 P G o s v:=by
 unfold Md at h
 split at h
 rotate_left
 ·cases h
 rename_i b aJ af
 split at h
 ·rename_i aa ae
  cases h
  have:=yg (G:=G) (s:=s) (c:=true) av aJ af λE a w β ro ah=>⟨none,none,wD ah aa,wD ah ae,.inl ⟨rfl,rfl⟩⟩
  cases b<;>exact this
 ·rename_i i q j jA aa ae
  split at h
  ·rename_i hc
   cases h;simp only[zZr]at hc;obtain⟨⟨aO,bz⟩,bd⟩:=hc
   have aO:=e9 aO;have bz:=e9 bz;subst aO bz;obtain⟨bt,cs,ai⟩:=TC bd
   have:=yg (G:=G) (s:=s) (c:=true) av aJ af λE a w β ro ah=>by
    obtain⟨e6,g1,g2⟩:=pU ah aa ai;obtain⟨gl,g3,g4⟩:=pU ah ae ai;rw[g1]at g3
    cases g3
    exact⟨_,_,g2,g4,.inr (.inr ⟨_,rfl,rfl,rfl⟩)⟩
   cases b<;>exact this
  ·cases h
 ·rename_i i q aa ae
  split at h
  ·rename_i hc
   cases h;obtain⟨bt,cs,ai⟩:=TC hc
   have:=yg (G:=G) (s:=s) (c:=false) av aJ af λE a w β ro ah=>by
    obtain⟨e6,g1,g2⟩:=pU ah aa ai;exact⟨_,_,g2,wD ah ae,.inl ⟨rfl,rfl⟩⟩
   cases b<;>exact this
  ·cases h
 ·cases h
theorem zdn{f:Operand}{args:Array Operand}{ts:Array TypeId}{v:aC}(av:o.op= .call {callee:=.value f,args:=args,argTypes:=ts})(h:Me P (aR G s f) (args.toList.map (aR G s))=some v):c8 P G o s v:=by
 unfold Me at h
 split at h
 rotate_left
 ·cases h
 rename_i Hb wE
 have start: ∀{ev:Array Value->Sem Value} {fn:Func},P.funcs[Hb]? =some fn->fn.body.isNone=true->(fn.name== "runtime.NumGoroutine")=false->Extern.findNext fn=none->Extern.find fn=some ev->∀E a w β ro,dy E G s a w β ro->(execOp a.eval o).run P w=((ev (args.map a.eval)).run P w).andThen λv w'=>.ok (.value v) w':=λ{ev fn} aa ae aw aN bx E a w β ro ah=>by
  have hc:=ah.eval f;rw[wE]at hc;generalize he:a.eval f=Hc at hc
  cases hc with
  |fn _ _ _ c d g1 g2 _ _=>
   have iD:c= #[]:=by simpa using g1
   have rU:d= #[]:=by simpa using g2
   subst iD rU;simp only[execOp,av,resolve,he,Deferred.ofValue,Sem.run_bind,Sem.run_pure,Result.andThen_ok,invoke,Array.empty_append,Array.append_empty];exact run_callFunc_extern aa aw ae aN bx _ w
 split at h
 ·rename_i x an au
  cases h;unfold Ay at an
  split at an
  rotate_left
  ·cases an
  rename_i fn qJ
  split at an
  ·rename_i _ rV tn
   simp only[zZr]at rV;obtain⟨af,gw⟩:=rV;have hn:=wF tn;have gw:=wF gw
   obtain⟨y,aA⟩: ∃y,args.toList=[y]:=by
    match aB:args.toList with
    |[y]=>exact⟨y,rfl⟩|[]=>rw[aB]at au;simp at au|_::_::_=>rw[aB]at au;simp at au
   rw[aA]at au;simp only[List.map_cons,List.map_nil,List.cons.injEq,and_true]at au;have jV:args= #[y]:=by rw[<-Array.toList_inj];exact aA
   intro E a w β ro ah;refine⟨a.eval y,?_,by have:=ah.eval y;rw[au]at this;exact this⟩
   rw[start (ev:=Extern.AbiNoEscape.same) qJ af (by rw[hn];rfl) (by unfold Extern.findNext;simp only[hn,gw]<;>rfl) (by unfold Extern.find;simp only[hn,gw]<;>rfl) E a w β ro ah,jV]
   have hm:(#[y]:Array Operand).map a.eval= #[a.eval y]:=by simp
   rw[hm];rfl
  ·cases an
  ·cases an
 ·rename_i b c an au
  cases h;unfold Ay at an
  split at an
  rotate_left
  ·cases an
  rename_i fn qJ
  split at an
  ·cases an
  ·rename_i rV _ tn
   simp only[zZr]at rV;obtain⟨af,gw⟩:=rV;have hn:=wF tn;have gw:=wF gw
   obtain⟨y,u,TD⟩: ∃y u,args.toList=[y,u]:=by
    match aB:args.toList with
    |[y,u]=>exact⟨y,u,rfl⟩|[]=>rw[aB]at au;simp at au|[_]=>rw[aB]at au;simp at au|_::_::_::_=>rw[aB]at au;simp at au
   rw[TD]at au;simp only[List.map_cons,List.map_nil,List.cons.injEq,and_true]at au;have jV:args= #[y,u]:=by rw[<-Array.toList_inj];exact TD
   intro E a w β ro ah;refine⟨.int .i64 (Az b c),?_,.fu rfl⟩;rw[start (ev:=Extern.BytealgIndexByte.indexByte) qJ af (by rw[hn];rfl) (by unfold Extern.findNext;simp only[hn,gw]<;>rfl) (by unfold Extern.find;simp only[hn,gw]<;>rfl) E a w β ro ah,jV]
   have hm:(#[y,u]:Array Operand).map a.eval= #[.string b,.int .u8 c]:=by simp[ah.ef au.1,ah.ef au.2]
   rw[hm];rw[TE];rfl
  ·cases an
 ·cases h
theorem Mh{v:aC}(h:G8 P G o S=some v):c8 P G o S.den v:=by
 unfold G8 at h;rw[wA]at h
 split at h
 ·rename_i bC az
  cases h;exact Hd az
 ·split at h
  ·rename_i op t x y ty av
   split at h
   ·rename_i k a bl b hx aA
    split at h
    ·rename_i c hc
     cases h
     exact λ_ bo w β ro ah=>by
      obtain⟨aa,ae,aw⟩:=Mi (P:=P) hc t x y w;exact⟨c,by simp[execOp,av,ah.ef hx,ah.ef aA,aa,ae],.fu aw⟩
    ·cases h
   ·exact zdm av h
  ·rename_i t x av
   split at h
   ·rename_i k a hx
    cases h;exact λ_ bo w β ro ah=>⟨_,by simp[execOp,av,ah.ef hx,Op.unary,Op.intBits,aH.jK],.fu rfl⟩
   ·cases h
  ·rename_i t x lo hi av
   exact zdg av h
  ·rename_i src dst x av
   exact zdi av h
  ·rename_i f p q av
   cases h;exact TF av
  ·rename_i t x av
   exact zdj av h
  ·rename_i x o8 t c av
   exact zdk av h
  ·rename_i t m x c av
   exact zdl av h
  ·rename_i t x i av
   split at h
   ·rename_i j cs len e aj hx aJ
    obtain⟨k,an⟩:=G2 aj
    split at h
    ·rename_i bC az hc
     cases h;simp only[zZr,decide_eq_true_eq]at hc;intro E a w β ro ah
     have dh:=ah.eval x;rw[hx]at dh;generalize he:a.eval x=c at dh
     cases dh with
     |agg _ c ao hJ=>
      have bR:j<c.size:=by have:=(List.getElem?_eq_some_iff.1 az).1;omega
      have aj:=fz hc.2
      have yh:(sizeOf e).run P w= .ok 1 w:=by
       cases hi:P.info? e with
       |none=>simp[hi]at hc|some i=>simp[hi]at hc;simp[sizeOf,typeInfo,hi,hc]
      refine⟨c[j],?_,by simpa[bR]using hJ _ v az⟩
      simp[execOp,av,he,ah.ef an,Instr.index,asIntOf,run_underlying aJ,yh,part,AB hc.1.1,bR,aj]
    ·cases h
   ·cases h
  ·rename_i c av
   split at h
   ·rename_i f uR
    obtain⟨callee,args,ts⟩:=c;simp only at uR;subst uR;exact zdn av h
   ·cases h
  ·cases h
end
end Go.aH
