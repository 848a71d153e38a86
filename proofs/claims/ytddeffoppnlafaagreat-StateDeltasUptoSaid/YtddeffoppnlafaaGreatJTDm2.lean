/- Conditions: none. -/
import Derived.Test.YtddeffoppnlafaaGreatJTDm1
open Bool renaming and_eq_true->zZr
open List renaming all_eq_true->zZ2,all_map->zVo,append->zYz,cons_append->zVl,drop_drop->zW5,flatten_cons->zYs,length->zZ5,length_cons->zVi,length_map->zXe,map->zVn,map_append->zVr,map_congr_left->zW9,map_cons->zXq,map_drop->zWc,map_map->zWq,map_nil->zXp,map_replicate->zVp,map_take->zWe,mem_append->zVs,mem_cons->zZf,mem_cons_of_mem->zVj,mem_map->zXs,mem_singleton->zW0,replicate->zZz
open Nat renaming beq->zZu,ble->zZt,ble_eq_true_of_le->zVk,blt->zZs,eq_of_beq_eq_true->zWi,le_add_right->zY8,le_of_ble_eq_true->zZq,le_refl->zZv,lt_or_ge->zYm,lt_succ_self->zYi,mul_one->zVm,ne_of_beq_eq_false->zVq,zero_add->zZ0
open Option renaming map_some->zXh
open Option.some renaming injEq->zYt
namespace Go.aH
open Go
def sI:List (Nat × bZ)->Nat->Option bZ
 |[],_=>none|(i,c)::r,t=>match zZu i t with
  |true=>some c|false=>sI r t
def FE(c:bZ):List (List ag)->Bool
 |[]=>true|x::r=>js (fR c) x&&FE c r
def Pz(P:Program)(N:Nat)(T:List (Nat × bZ))(S:ax)(t:TypeId)(len:Nat)(ps:List (Nat × Operand)):Option dZ:=
 match wu P t with
 |some (e,n,zs)=>match sI T e with
  |some c=>match zZu n (dE c)with
   |true=>match zZu len 0 with
    |true=>match ps.isEmpty with
     |true=>some ⟨[.ri c []],[],none,S.h,S.n,.bE (.li c) S.k⟩|false=>none
    |false=>match zZt (len*n) 16777216&&(ps.map λp=>(p.1,S.bj N p.2)).all λp=>p.2.cells.all (nv S.h)with
     |true=>match vC (λi=>some (i*n,n)) ((zZz len (zs.map ag.cs)).flatten) (ps.map λp=>(p.1,S.bj N p.2))with
      |some ds=>match ds.all ag.FB&&FE c (chunk n len ds)with
       |true=>some ⟨[.ri c ((chunk n len ds).map .cH)],[],none,S.h,S.n,.bE (.li c) S.k⟩|false=>none
      |none=>none
     |false=>none
   |false=>none
  |none=>none
 |none=>none
def PA(P:Program)(N B:Nat)(T:List (Nat × bZ))(S:ax)(t:TypeId)(len:Nat)(ps:List (Nat × Operand)):Option dZ:=
 match wu P t with
 |some (e,n,zs)=>match sI T e,zZu len 0 with
  |some .u8,false=>match(zZu n 1&&zZt B S.n)&&(zZt (len*n) 16777216&&(ps.map λp=>(p.1,S.bj N p.2)).all λp=>p.2.cells.all (nv S.h))with
   |true=>match vC (λi=>some (i*n,n)) ((zZz len (zs.map ag.cs)).flatten) (ps.map λp=>(p.1,S.bj N p.2))with
    |some ds=>match ds.all ag.FB&&FE .u8 (chunk n len ds)with
     |true=>some ⟨[.ri .u8 ((chunk n len ds).map .cH)],[],none,(S.n,.rw e .u8 (.bE (.li .u8) S.k))::S.h,S.n+1,.aq S.n⟩|false=>none
    |none=>none
   |false=>none
  |_,_=>none
 |none=>none
def PB(P:Program)(B:Nat)(T:List (Nat × bZ))(S:ax)(t:TypeId)(len:Nat)(ps:List (Nat × Operand)):Option dZ:=
 match wu P t with
 |some (e,n,_)=>match sI T e with
  |some c=>match(zZu n (dE c)&&zZt B S.n)&&(zZu len 0&&ps.isEmpty)with
   |true=>some ⟨[.ri c []],[],none,(S.n,.rw e c (.bE (.li c) S.k))::S.h,S.n+1,.aq S.n⟩|false=>none
  |none=>none
 |none=>none
def PC(P:Program)(N B:Nat)(S:ax)(t:TypeId)(len:Nat)(ps:List (Nat × Operand)):Option dZ:=
 match wu P t with
 |some (e,n,zs)=>match(zZt B S.n&&zZs 0 len)&&(zZt (len*n) 16777216&&(ps.map λp=>(p.1,S.bj N p.2)).all λp=>p.2.cells.all (nv S.h))with
  |true=>match vC (λi=>some (i*n,n)) ((zZz len (zs.map ag.cs)).flatten) (ps.map λp=>(p.1,S.bj N p.2))with
   |some ds=>some ⟨[],[],none,(S.n,.dQ e ds)::S.h,S.n+1,.cM S.n len⟩|none=>none
  |false=>none
 |none=>none
def PD(P:Program)(B:Nat)(T:List (Nat × bZ))(S:ax)(t:TypeId)(x y:ag):Option dZ:=
 match rW P t,x.rt,y.rt with
 |some (e,n,bytes),some (.int .i64),some (.int .i64)=>match zeroCells P e,sI T e with
  |some zs,some c=>match(zZu n (dE c)&&sD (fR c) zs)&&(zs.all Value.oneCell'&&zZt B S.n)with
   |true=>some ⟨[.cD c x],[.mk bytes x y],none,(S.n,.rw e c (.bE (.li c) S.k))::S.h,S.n+1,.aq S.n⟩|false=>none
  |_,_=>none
 |_,_,_=>none
def PE(S:ax)(y:ag):Option ag:=
 match y with
 | .cs (.slice none 0 0)=>some y| .aq id=>match dG S.h id with
  |some (.rw _ _ z)=>some z|_=>none
 |y=>match zA y with
  |some _=>some y|none=>none
def FF(S:ax)(y:ag):Option bZ:=
 match y with
 | .aq id=>match dG S.h id with
  |some (.rw _ c _)=>some c|_=>none
 |y=>zA y
def j2(id:Nat):List (Nat × b1)->List (Nat × b1)
 |[]=>[]|(k,.dQ t l)::r=>match zZu k id with
  |true=>j2 id r|false=>(k,.dQ t (ag.ff id l))::j2 id r
 |(k,.rw t c x)::r=>match zZu k id with
  |true=>j2 id r|false=>(k,.rw t c x)::j2 id r
 |(k,.it q x p)::r=>match zZu k id with
  |true=>j2 id r|false=>(k,.it q x p)::j2 id r
mutual
theorem J0{G:aV}{e:Env}(id:Nat): ∀(x:ag),(x.kill id).den G e=eV id (x.den G e):=λx=>by
 cases x with
 |cH l=>simp only[ag.kill,ag.den,eV,zF id l]|tp l=>simp only[ag.kill,ag.den,eV,zF id l]|fi k o=>simp only[ag.kill,ag.den,eV];by_cases h:k=id<;>simp[h,ag.den]
 |iM k x o=>simp only[ag.kill,ag.den,eV];by_cases h:k=id<;>simp[h,ag.den]
 |iY k o x n=>simp only[ag.kill,ag.den,eV];by_cases h:k=id<;>simp[h,ag.den]
 |cM k n=>simp only[ag.kill,ag.den,eV];by_cases h:k=id<;>simp[h,ag.den]
 |gC g i o=>
  cases i with
  |none=>simp only[ag.kill,ag.den];cases g.aL e .bool<;>rfl
  |some k=>
   simp only[ag.kill]
   by_cases h:k=id
   ·simp only[h,decide_true,ag.den];cases g.aL e .bool<;>simp[eV]
   ·simp only[h,decide_false,ag.den];cases g.aL e .bool<;>simp[eV,h]
 |aq k=>simp only[ag.kill,ag.den,eV];by_cases h:k=id<;>simp[h,ag.den]
 |fn f a b=>simp only[ag.kill,ag.den,eV,zF id a,zF id b]|jb k=>simp only[ag.kill,ag.den,eV];by_cases h:k=id<;>simp[h,ag.den]
 |hg g b x=>
  simp only[ag.kill,ag.den,J0 id x]
  cases g.aL e .bool<;>cases b<;>rfl
 |mo g o=>simp only[ag.kill,ag.den];cases G g<;>rfl
 |_=>rfl
theorem zF{G:aV}{e:Env}(id:Nat): ∀(l:List ag),ag.cc G e (ag.ff id l)=ff id (ag.cc G e l):=λl=>by
 match l with
 |[]=>rfl|x::r=>simp only[ag.ff,ag.cc,ff,J0 id x,zF id r]
end
theorem uh{G:aV}{e:Env}(id:Nat): ∀(h:List (Nat × b1)),di G e (j2 id h)=eD id (di G e h)
 |[]=>rfl|(k,.dQ t l)::r=>by
  simp only[j2,di,b1.den,eD,tY]
  by_cases h:k=id<;>simp[h,di,b1.den,uh id r,zF]
 |(k,.rw t c x)::r=>by
  simp only[j2,di,b1.den,eD,tY]
  by_cases h:k=id<;>simp[h,di,b1.den,uh id r]
 |(k,.it q x p)::r=>by
  simp only[j2,di,b1.den,eD,tY]
  by_cases h:k=id<;>simp[h,di,b1.den,uh id r]
theorem Cb{G:aV}{e:Env}{N:Nat}(id:Nat)(l:bn ag):lb G e (l.map (ag.kill id)) 0 N=ff id (lb G e l 0 N):=by
 have an: ∀m:List aC,ff id m=m.map (eV id):=λm=>by induction m with
  |nil=>rfl|cons x r bb=>simp[ff,bb]
 rw[an];apply List.ext_getElem?;intro j;rw[List.getElem?_map,rn,rn,bn.get_map]
 by_cases aj:j<N
 ·simp only[aj,if_true,zXh,zYt]
  cases l.get (0+j)with
  |none=>rfl|some x=>exact J0 id x
 ·simp[aj]
def PF(P:Program)(B:Nat)(S:ax)(t:TypeId)(x y:ag):Option dZ:=
 match rW P t,PE S y with
 |some (e,n,bytes),some z=>match x with
  | .cs (.slice none 0 0)=>match FF S y with
   |some c=>match zZu n (dE c)&&(z.fN (.li c)&&zZt B S.n)with
    |true=>some ⟨[],[.f2 bytes (.ap c) (.cs (.slice none 0 0)) z],none,(S.n,.rw e c z)::S.h,S.n+1,.aq S.n⟩|false=>none
   |none=>none
  | .aq id=>match dG S.h id with
   |some (.rw br c ft)=>match(zZu br e&&zZu n (dE c))&&(z.fN (.li c)&&(match FF S y with|some d=>decide (d=c)|none=>true))with
    |true=>match zZt B id&&zZs id S.n with
     |true=>some ⟨[.f2 (.ap c) ft z],[.f2 bytes (.ap c) ft z],some id,(id,.rw e c (.bE (.li c) S.k))::j2 id S.h,S.n,.aq id⟩|false=>match zZt B S.n with
      |true=>some ⟨[.f2 (.ap c) ft z],[.f2 bytes (.ap c) ft z],some id,(S.n,.rw e c (.bE (.li c) S.k))::j2 id S.h,S.n+1,.aq S.n⟩|false=>none
    |false=>none
   |_=>none
  |_=>none
 |_,_=>none
def PG(P:Program)(B:Nat)(S:ax)(t u:TypeId)(x y:ag):Option dZ:=
 match yi P t u,y.rt with
 |some e,some .str=>match x with
  | .cs (.slice none 0 0)=>match zZt B S.n with
   |true=>some ⟨[.f1 .da y],[.f2 1 (.ap .u8) (.cs (.slice none 0 0)) (.bE (.li .u8) S.k)],none,(S.n,.rw e .u8 (.bE (.li .u8) S.k))::S.h,S.n+1,.aq S.n⟩|false=>none
  | .aq id=>match dG S.h id with
   |some (.rw br .u8 ft)=>match zZu br e&&ft.fN (.li .u8)with
    |true=>match zZt B id&&zZs id S.n with
     |true=>some ⟨[.f1 .da y,.f2 (.ap .u8) ft (.bE (.li .u8) S.k)],[.f2 1 (.ap .u8) ft (.bE (.li .u8) S.k)],some id,(id,.rw e .u8 (.bE (.li .u8) (S.k+1)))::j2 id S.h,S.n,.aq id⟩|false=>match zZt B S.n with
      |true=>some ⟨[.f1 .da y,.f2 (.ap .u8) ft (.bE (.li .u8) S.k)],[.f2 1 (.ap .u8) ft (.bE (.li .u8) S.k)],some id,(S.n,.rw e .u8 (.bE (.li .u8) (S.k+1)))::j2 id S.h,S.n+1,.aq S.n⟩|false=>none
    |false=>none
   |_=>none
  |_=>none
 |_,_=>none
section
variable {P:Program} {G:aV} {o:Oper} {N B:Nat} {S:ax} {M:List bs}
theorem PH{e:Env}{c:bZ}(n:Nat): ∀(k:Nat) (ds:List ag) (rs:List a7),ag.cc G e ds=rs.map .ad->FE c (chunk n k ds)=true->
 im (chunk n k rs).flatten ((pA e c ((chunk n k ds).map .cH)).map (dr c)).flatten/\(pA e c ((chunk n k ds).map .cH)).length=k
 |0,_,_,_,_=>⟨.nil,rfl⟩|k+1,ds,rs,hd,ba=>by
  simp only[chunk,FE,zZr]at ba;have aa:ag.cc G e (ds.drop n)=(rs.drop n).map .ad:=by rw[gh,zWc,<-gh,hd,zWc]
  have ae:ag.cc G e (ds.take n)=(rs.take n).map .ad:=by rw[gh,zWe,<-gh,hd,zWe]
  obtain⟨i1,i2⟩:=PH n k (ds.drop n) (rs.drop n) aa ba.2;have aw:=Fa (G:=G) (e:=e) ba.1;rw[ae]at aw;refine⟨?_,by simp[chunk,pA,i2]⟩
  simp only[chunk,zYs,zXq,pA,ag.get,ag.cells];exact(Po aw).append i1
theorem Yl{c:bZ}{es:List (List a7)}{l:List (hY c)}(au:es.length=l.length)(ao:im es.flatten (l.map (dr c)).flatten):oQ (.aq (dE c) es) (.li c l):=by
 intro w ro v hc
 cases hc with
 |aq _ _ b cap f g1 g2 g3 g4 g5=>
  refine .li _ _ _ ?_;have e:es.length=(l.map (dr c)).length:=by simp[au]
  rw[e];rw[e]at g1 g4;refine .aq _ _ b cap f g1 g2 (λq aB=>?_) g4 (λj x aj=>?_)
  ·obtain⟨y,_,rfl⟩:=zXs.1 aB
   exact Jn c y
  ·obtain⟨y,aA,ao⟩:=ao.at.2 j x aj
   exact ao _ _ _ (g5 j y aA)
theorem PI(e:Env): ∀(ls:List (List ag)),ag.cc G e ls.flatten=(ls.map (ag.cc G e)).flatten
 |[]=>rfl|x::r=>by
  simp only[zYs,zXq,<-PI e r];rw[gh,gh,gh,zVr]
theorem zjy{T:List (Nat × bZ)}{t:TypeId}{len:Nat}{ps:Array (Nat × Operand)}{r:dZ}(av:o.op= .buildSlice t len ps)(h:Pz P N T S t len ps.toList=some r):pE P G N B M o S r:=λe hf hx hn=>by
 unfold Pz at h
 split at h
 ·rename_i fr n zs ob
  split at h
  ·rename_i c _
   split at h
   ·rename_i af
    have af:=zWi af
    split at h
    ·rename_i aP
     have aP:=zWi aP
     split at h
     ·rename_i ar
      cases h
      have ea:tV P G (S.den G N B e) t len ps.toList=some (fr,n,[]):=by
       unfold tV;rw[ob];simp only[aP,if_true,ar]
      have:=eL.N9 (Dz av ea);refine this.B9 ?_;rw[dZ.st,gu];refine Yf ?_;have aa:Env.at e S.k=_:=hx 0 _ rfl;simp only[ag.den,aa,cf.den,df,hb,mP,pA];rw[af];exact(Yl (c:=c) (es:=[]) (l:=[]) rfl .nil).cI
     ·cases h
    ·rename_i aP
     have aP:=zVq aP
     split at h
     ·rename_i hc
      simp only[zZr]at hc
      split at h
      ·rename_i ds hd
       split at h
       ·rename_i ba
        cases h;simp only[zZr]at ba;obtain⟨rs,ji,mg⟩:=JZ (G:=G) (e:=e) ba.1
        have aa:=JM (G:=G) (e:=e) hc.2 hd
        have ae:ag.cc G e (zZz len (zs.map ag.cs)).flatten=((zZz len (zs.map λz=>aC.ad (.v z))).flatten):=by
         rw[PI,zVp]
         congr 2
         rw[gh,zWq];rfl
        rw[ae]at aa
        have aw:(ps.toList.map λp=>(p.1,aR G (S.den G N B e) p.2))=(ps.toList.map λp=>(p.1,S.bj N p.2)).map λp=>(p.1,p.2.den G e):=by
         rw[zWq];exact zW9 λp _=>by simp[b3 hf]
        have fE:(ps.toList.map λp=>(p.1,aR G (S.den G N B e) p.2)).all (λp=>(dc p.2).all (fp (S.den G N B e).heap))=true:=by
         rw[aw,zVo];refine zZ2.2 λp ar=>?_;have:=zZ2.1 hc.2 p ar;simp only[Function.comp];rw[zx this];exact B3 this
        have ea:tV P G (S.den G N B e) t len ps.toList=some (fr,n,chunk n len rs):=by
         unfold tV;rw[ob];simp only[aP,if_false];rw[if_pos ⟨zZq hc.1,fE⟩,aw,aa];simp only[ji]
        have:=eL.N9 (Dz av ea);refine this.B9 ?_;rw[dZ.st,gu];refine Yf ?_;have aN:Env.at e S.k=_:=hx 0 _ rfl;obtain⟨s1,s2⟩:=PH (G:=G) (e:=e) (c:=c) n len ds rs mg ba.2;simp only[ag.den,aN,cf.den,df,hb,mP];rw[af]at s1 s2⊢;exact(Yl (by rw[ES,s2]) s1).cI
       ·cases h
      ·cases h
     ·cases h
   ·cases h
  ·cases h
 ·cases h
theorem Ym{t:TypeId}{len n:Nat}{zs:List Value}{ps:List (Nat × Operand)}{ds:List ag}{e:Env}(hf: ∀c∈S.g,c.ok e)(hc:((ps.map λp=>(p.1,S.bj N p.2)).all λp=>p.2.cells.all (nv S.h))=true)
 (hd:vC (λi=>some (i*n,n)) ((zZz len (zs.map ag.cs)).flatten) (ps.map λp=>(p.1,S.bj N p.2))=some ds):
 ((ps.map λp=>(p.1,aR G (S.den G N B e) p.2)).all (λp=>(dc p.2).all (fp (S.den G N B e).heap))=true)/\
 lr (λi=>some (i*n,n)) ((zZz len (zs.map λz=>aC.ad (.v z))).flatten) (ps.map λp=>(p.1,aR G (S.den G N B e) p.2))=some (ag.cc G e ds):=by
 have aa:=JM (G:=G) (e:=e) hc hd
 have ae:ag.cc G e (zZz len (zs.map ag.cs)).flatten=((zZz len (zs.map λz=>aC.ad (.v z))).flatten):=by
  rw[PI,zVp]
  congr 2
  rw[gh,zWq];rfl
 rw[ae]at aa
 have aw:(ps.map λp=>(p.1,aR G (S.den G N B e) p.2))=(ps.map λp=>(p.1,S.bj N p.2)).map λp=>(p.1,p.2.den G e):=by
  rw[zWq];exact zW9 λp _=>by simp[b3 hf]
 refine⟨?_,by rw[aw,aa]⟩
 rw[aw,zVo];refine zZ2.2 λp ar=>?_;have:=zZ2.1 hc p ar;simp only[Function.comp];rw[zx this];exact B3 this
theorem zjz{s:aS}{dst:Option Nat}{e:TypeId}{n:Nat}{es fs:List (List a7)}(aa:es.length=fs.length)(ae: ∀x∈fs,x.length=n)(aw:im es.flatten fs.flatten):
 b5 (({s with heap:=(s.next,.row false e n es)::s.heap,next:=s.next+1}:aS).put dst (.aq s.next)) (({s with heap:=(s.next,.row false e n fs)::s.heap,next:=s.next+1}:aS).put dst (.aq s.next)):=by
 refine Yg (s:={s with heap:=(s.next,.row false e n es)::s.heap,next:=s.next+1}) λid o ai=>?_
 simp only[aF]at ai⊢
 split at ai
 ·rename_i bq
  cases ai;exact⟨_,by rw[if_pos bq],.row e n aa ae aw⟩
 ·rename_i bq
  exact⟨o,by rw[if_neg bq];exact ai,.same o⟩
theorem zjA{T:List (Nat × bZ)}{t:TypeId}{len:Nat}{ps:Array (Nat × Operand)}{r:dZ}(av:o.op= .buildSlice t len ps)(h:PB P B T S t len ps.toList=some r):pE P G N B M o S r:=λe hf hx hn=>by
 unfold PB at h
 split at h
 ·rename_i fr n zs ob
  split at h
  ·rename_i c _
   split at h
   ·rename_i hc
    cases h;simp only[zZr]at hc;obtain⟨⟨aO,bz⟩,bd,dV⟩:=hc
    have aP:=zWi bd;have af:=zWi aO
    have ea:tV P G (S.den G N B e) t len ps.toList=some (fr,n,[]):=by
     unfold tV;rw[ob];simp only[aP,if_true,dV]
    have:=eL.newRow (zZq bz) (Dz av ea);have aN:Env.at e S.k=_:=hx 0 _ rfl
    have ah:(ag.bE (.li c) S.k).aL e (.li c)=[]:=by
     simp only[ag.aL,ag.hh,ag.dyn,aN,cf.den,df];rfl
    rw[dZ.st,gu];simp only[ax.den,di,b1.den,ah,ag.den,dZ.l,zXp,<-af];exact this
   ·cases h
  ·cases h
 ·cases h
theorem zjB{T:List (Nat × bZ)}{t:TypeId}{len:Nat}{ps:Array (Nat × Operand)}{r:dZ}(av:o.op= .buildSlice t len ps)(h:PA P N B T S t len ps.toList=some r):pE P G N B M o S r:=λe hf hx hn=>by
 unfold PA at h
 split at h
 ·rename_i fr n zs ob
  split at h
  ·rename_i _ aP
   have aP:=zVq aP
   split at h
   ·rename_i hc
    simp only[zZr]at hc;have af:=zWi hc.1.1;subst af
    split at h
    ·rename_i ds hd
     split at h
     ·rename_i ba
      cases h;simp only[zZr]at ba;obtain⟨rs,ji,mg⟩:=JZ (G:=G) (e:=e) ba.1;obtain⟨dp,dP⟩:=Ym (G:=G) (B:=B) (t:=t) hf hc.2.2 hd
      have ea:tV P G (S.den G N B e) t len ps.toList=some (fr,1,chunk 1 len rs):=by
       unfold tV;rw[ob];simp only[aP,if_false];rw[if_pos ⟨zZq hc.2.1,dp⟩,dP];simp only[ji]
      have:=eL.newRow (zZq hc.1.2) (Dz av ea);obtain⟨s1,s2⟩:=PH (G:=G) (e:=e) (c:=.u8) 1 len ds rs mg ba.2;have aN:Env.at e S.k=_:=hx 0 _ rfl;refine(this.B9 (zjz (fs:=(pA e .u8 ((chunk 1 len ds).map .cH)).map (dr .u8)) (by rw[ES,zXe,s2]) (λx hx=>?_) s1)).B9 ?_
      ·obtain⟨y,_,rfl⟩:=zXs.1 hx
       exact Jn _ _
      ·rw[dZ.st,gu]
       have ah:(ag.bE (.li .u8) S.k).aL e (.li .u8)=pA e .u8 ((chunk 1 len ds).map .cH):=by
        simp only[ag.aL,ag.hh,ag.dyn,aN,cf.den,df]
       simp only[ax.den,di,b1.den,ah,ag.den,dZ.l];exact b5.refl _
     ·cases h
    ·cases h
   ·cases h
  ·cases h
 ·cases h
theorem zjC{t:TypeId}{len:Nat}{ps:Array (Nat × Operand)}{r:dZ}(av:o.op= .buildSlice t len ps)(h:PC P N B S t len ps.toList=some r):pE P G N B M o S r:=λe hf hx hn=>by
 unfold PC at h
 split at h
 ·rename_i fr n zs ob
  split at h
  ·rename_i hc
   simp only[zZr]at hc
   split at h
   ·rename_i ds hd
    cases h;obtain⟨dp,dP⟩:=Ym (G:=G) (B:=B) (t:=t) hf hc.2.2 hd;unfold wu at ob
    split at ob
    ·rename_i bc hu
     split at ob
     ·rename_i i zhx hi aW
      split at ob
      ·rename_i PJ
       simp only[zYt,Prod.mk.injEq]at ob;obtain⟨rfl,rfl,rfl⟩:=ob;have:=zjn (G:=G) (s:=S.den G N B e) t len ps av hu (by simp[hi]) aW PJ.1 PJ.2.1 ⟨Nat.mul_pos (fz hc.1.2) PJ.2.2,zZq hc.2.1⟩ rfl dp dP (zZq hc.1.1)
       rw[dZ.st,gu];exact this
      ·cases ob
     ·cases ob
    ·cases ob
   ·cases h
  ·cases h
 ·cases h
theorem zjD{T:List (Nat × bZ)}{t:TypeId}{x y:Operand}{r:dZ}(av:o.op= .makeSlice t x y)(h:PD P B T S t (S.bj N x) (S.bj N y)=some r):pE P G N B M o S r:=λe hf hx hn=>by
 unfold PD at h
 split at h
 ·rename_i fr n bytes zjE aa ae
  split at h
  ·rename_i zs c aW _
   split at h
   ·rename_i hc
    cases h;simp only[zZr]at hc
    have af:=zWi hc.1.1;have mN:aR G (S.den G N B e) x= .ad (.v (.int .i64 ((S.bj N x).aL e (.int .i64)))):=(b3 hf x).trans (mr aa);have ud:aR G (S.den G N B e) y= .ad (.v (.int .i64 ((S.bj N y).aL e (.int .i64)))):=(b3 hf y).trans (mr ae);have e3:=hn _ (zW0.2 rfl);have aN:Env.at e S.k=_:=hx 0 _ rfl;simp only[hj.ok]at e3;simp only[cf.den]at aN;generalize ik:(S.bj N x).aL e (.int .i64)=X at mN e3 aN;generalize sh:(S.bj N y).aL e (.int .i64)=Y at ud e3;have e3:0<=(show Int from X)/\(show Int from X)<=(show Int from Y)/\(show Int from Y)<=(maxLen:Int)/\(bytes:Int)*(show Int from Y)<=281474976710656:=e3
    obtain⟨m,hm⟩: ∃m:Nat,(show Int from X)=(m:Int):=⟨(show Int from X).toNat,(Int.toNat_of_nonneg e3.1).symm⟩
    obtain⟨k,an⟩: ∃k:Nat,(show Int from Y)=(k:Int):=⟨(show Int from Y).toNat,(Int.toNat_of_nonneg (Int.le_trans e3.1 e3.2.1)).symm⟩
    have zjF:X=(m:Int):=hm;have fI:Y=(k:Int):=an;rw[hm]at e3;rw[an]at e3;rw[zjF]at mN aN;rw[fI]at ud;have:=eL.newRow (zZq hc.2.2) (zhB (G:=G) (s:=S.den G N B e) (dr c) (aZ c) m k av zjE aW hc.2.1 (by rw[B5 hc.1.2,XY,zWq];rfl) mN ud ⟨by omega,by omega,by omega⟩)
    have ah:(ag.bE (.li c) S.k).aL e (.li c)=zZz m (aZ c):=by
     simp only[ag.aL,ag.hh,ag.dyn,aN,df,Int.toNat_natCast]
    refine this.B9 ?_;rw[dZ.st,gu,af];simp only[ax.den,di,b1.den,ah,ag.den,dZ.l];exact b5.refl _
   ·cases h
  ·cases h
 ·cases h
theorem Yn{e:Env}{y z:ag}{c:bZ}(h:PE S y=some z)(aW:z.fN (.li c)=true)(hc: ∀d,FF S y=some d->d=c):iQ (S.den G N B e).heap (dE c) (y.den G e)=some (zVn (dr c) (z.aL e (.li c))):=by
 unfold PE at h
 split at h
 ·cases h
  simp only[ag.den,iQ,ag.aL,ag.hh,df,zXp]
 ·rename_i id
  split at h
  ·rename_i t d h5 ai
   cases h
   have:=hc d (by simp only[FF,ai])
   subst this;simp only[ag.den,iQ,ax.den,fx,ai,zXh,b1.den,if_true]
  ·cases h
 ·split at h
  ·rename_i d hd
   cases h;obtain⟨aa,ae⟩:=Pk (G:=G) (e:=e) hd
   have:d=c:=hc d (by unfold FF;split<;>first|exact hd|simp_all[zA,ag.rt])
   subst this;rw[aa];simp only[iQ,if_true]
  ·cases h
theorem zjG{t:TypeId}{x y:Operand}{r:dZ}(av:o.op= .call {callee:=.builtin .append,args:=#[x,y],argTypes:=#[t,t]})(h:PF P B S t (S.bj N x) (S.bj N y)=some r):pE P G N B M o S r:=λe hf hx hn=>by
 unfold PF at h
 split at h
 ·rename_i fr n bytes z aJ aW
  split at h
  ·rename_i ar
   split at h
   ·rename_i c hc
    split at h
    ·rename_i af
     cases h;simp only[zZr]at af
     have Pl:=zWi af.1;rw[Pl]at aJ;have B6:=Yn (G:=G) (N:=N) (B:=B) (e:=e) aW af.2.1 (λd hd=>by rw[hc]at hd;cases hd;rfl)
     have iO:(ag.cs (.slice none 0 0)).aL e (.li c)=([]:List (hY c)):=by simp only[ag.aL,ag.hh,df]
     have e3:=hn _ (zW0.2 rfl);simp only[hj.ok,gy.BR,gy.a,gy.b,iO]at e3;simp only[List.length_nil,zZ0]at e3;have:=TO (P:=P) (G:=G) (s:=S.den G N B e) x y t av aJ (by rw[b3 hf,ar];rfl) (zZq af.2.2) (fs:=zVn (dr c) (z.aL e (.li c))) (by rw[b3 hf];exact B6) (by rw[zXe];exact e3)
     rw[dZ.st,gu];exact this
    ·cases h
   ·cases h
  ·rename_i id ar
   split at h
   ·rename_i br c ft ai
    split at h
    ·rename_i af
     simp only[zZr]at af;obtain⟨⟨e6,gl⟩,iB,Yo⟩:=af;have e6:=zWi e6;have gl:=zWi gl;subst e6;rw[gl]at aJ;have B6:=Yn (G:=G) (N:=N) (B:=B) (e:=e) aW iB (λd hd=>by rw[hd]at Yo;exact of_decide_eq_true Yo)
     split at h
     ·rename_i gO
      simp only[zZr]at gO;obtain⟨sG,Ca⟩:=gO;cases h;have e3:zZ5 (ft.aL e (.li c))+zZ5 (z.aL e (.li c))<=maxLen/\(zZ5 (ft.aL e (.li c))+zZ5 (z.aL e (.li c)))*bytes<=140737488355328:=hn _ (zW0.2 rfl)
      have:=zho (P:=P) (G:=G) (s:=S.den G N B e) x y t av aJ (id:=id) (by rw[b3 hf,ar];rfl) (es:=zVn (dr c) (ft.aL e (.li c))) (by simp only[ax.den,fx,ai,zXh,b1.den]) (zZq sG) (fz Ca)
       (fs:=zVn (dr c) (z.aL e (.li c))) (by rw[b3 hf];exact B6) (by rw[zXe,zXe];exact e3)
      rw[dZ.st,gu];have aP:Env.at e S.k=_:=hx 0 _ rfl
      have aa:(ag.bE (.li c) S.k).aL e (.li c)=zYz (ft.aL e (.li c)) (z.aL e (.li c)):=by
       simp only[ag.aL,ag.hh,ag.dyn,df,aP,cf.den];rfl
      have ae:zVn (dr c) (zYz (ft.aL e (.li c)) (z.aL e (.li c)))=zVn (dr c) (ft.aL e (.li c))++zVn (dr c) (z.aL e (.li c)):=zVr;simp only[ax.den,di,b1.den,uh,Cb,ag.den,dZ.l,aa,ae]at this⊢;exact this
     ·split at h
      ·rename_i FC
       cases h
       have e3:zZ5 (ft.aL e (.li c))+zZ5 (z.aL e (.li c))<=maxLen/\(zZ5 (ft.aL e (.li c))+zZ5 (z.aL e (.li c)))*bytes<=140737488355328:=hn _ (zW0.2 rfl)
       have:=TN (P:=P) (G:=G) (s:=S.den G N B e) x y t av aJ (id:=id) (by rw[b3 hf,ar];rfl) (es:=zVn (dr c) (ft.aL e (.li c))) (by simp only[ax.den,fx,ai,zXh,b1.den]) (zZq FC)
        (fs:=zVn (dr c) (z.aL e (.li c))) (by rw[b3 hf];exact B6) (by rw[zXe,zXe];exact e3)
       rw[dZ.st,gu];have aP:Env.at e S.k=_:=hx 0 _ rfl
       have aa:(ag.bE (.li c) S.k).aL e (.li c)=zYz (ft.aL e (.li c)) (z.aL e (.li c)):=by
        simp only[ag.aL,ag.hh,ag.dyn,df,aP,cf.den];rfl
       have ae:zVn (dr c) (zYz (ft.aL e (.li c)) (z.aL e (.li c)))=zVn (dr c) (ft.aL e (.li c))++zVn (dr c) (z.aL e (.li c)):=zVr;simp only[ax.den,di,b1.den,uh,Cb,ag.den,dZ.l,aa,ae]at this⊢;exact this
      ·cases h
    ·cases h
   ·cases h
  ·cases h
 ·cases h
theorem Yp{e:Env}{i:Nat}{r:a6}{x:r.den}(h:Env.at e i=⟨r,x⟩):(ag.bE r i).aL e r=x:=by simp only[ag.aL,ag.hh,ag.dyn,h,df]
theorem zjH{t u:TypeId}{x y:Operand}{r:dZ}(av:o.op= .call {callee:=.builtin .append,args:=#[x,y],argTypes:=#[t,u]})(h:PG P B S t u (S.bj N x) (S.bj N y)=some r):pE P G N B M o S r:=λe hf hx hn=>by
 unfold PG at h
 split at h
 ·rename_i fr aJ pq
  have ud:aR G (S.den G N B e) y= .ad (.v (.string ((S.bj N y).aL e .str))):=(b3 hf y).trans (hH pq);have PK:zZ5 (fC ((S.bj N y).aL e .str))=ByteArray.size ((S.bj N y).aL e .str):=by unfold fC;rw[zXe,Array.length_toList];rfl
  split at h
  ·rename_i ar
   split at h
   ·rename_i af
    cases h
    have aP:Env.at e S.k=_:=hx 0 _ rfl
    have aa:(ag.bE (.li .u8) S.k).aL e (.li .u8)=fC ((S.bj N y).aL e .str):=by
     simp only[ag.aL,ag.hh,ag.dyn,df,aP,cf.den];rfl
    have iO:(ag.cs (.slice none 0 0)).aL e (.li .u8)=([]:List (hY .u8)):=by simp only[ag.aL,ag.hh,df]
    have e3:=hn _ (zW0.2 rfl);simp only[hj.ok,gy.BR,gy.a,gy.b,iO,aa]at e3;have e3:0+zZ5 (fC ((S.bj N y).aL e .str))<=maxLen/\(0+zZ5 (fC ((S.bj N y).aL e .str)))*1<=140737488355328:=e3;rw[PK,zZ0,zVm]at e3;have:=TM (P:=P) (G:=G) (s:=S.den G N B e) x y t u av aJ (by rw[b3 hf,ar];rfl) (zZq af) ud e3
    rw[dZ.st,gu];simp only[ax.den,di,b1.den,ag.den,dZ.l,aa]at this⊢;exact this
   ·cases h
  ·rename_i id ar
   split at h
   ·rename_i br ft ai
    split at h
    ·rename_i af
     simp only[zZr]at af;obtain⟨e6,iB⟩:=af;have e6:=zWi e6;subst e6
     split at h
     ·rename_i gO
      simp only[zZr]at gO;obtain⟨sG,Ca⟩:=gO;cases h;have aP:Env.at e S.k=_:=hx 0 _ rfl;have PL:Env.at e (S.k+1)=_:=hx 1 _ rfl
      have aa:(ag.bE (.li .u8) S.k).aL e (.li .u8)=fC ((S.bj N y).aL e .str):=by
       simp only[ag.aL,ag.hh,ag.dyn,df,aP,cf.den];rfl
      have e3:=hn _ (zW0.2 rfl);simp only[hj.ok,gy.BR,gy.a,gy.b,aa]at e3;have e3:zZ5 (ft.aL e (.li .u8))+zZ5 (fC ((S.bj N y).aL e .str))<=maxLen/\(zZ5 (ft.aL e (.li .u8))+zZ5 (fC ((S.bj N y).aL e .str)))*1<=140737488355328:=e3;rw[PK,zVm]at e3
      have:=zjs (P:=P) (G:=G) (s:=S.den G N B e) x y t u av aJ (id:=id) (by rw[b3 hf,ar];rfl) (es:=zVn (dr .u8) (ft.aL e (.li .u8))) (by simp only[ax.den,fx,ai,zXh,b1.den]<;>rfl) (zZq sG) (fz Ca)
       ud (by rw[zXe];exact e3)
      rw[dZ.st,gu]
      have ae:(ag.bE (.li .u8) (S.k+1)).aL e (.li .u8)=zYz (ft.aL e (.li .u8)) (fC ((S.bj N y).aL e .str)):=by
       have bx:Env.at e (S.k+1)=⟨.li .u8,zYz (ft.aL e (.li .u8)) ((ag.bE (.li .u8) S.k).aL e (.li .u8))⟩:=PL;rw[aa]at bx;exact Yp bx
      have aw:zVn (dr .u8) (zYz (ft.aL e (.li .u8)) (fC ((S.bj N y).aL e .str)))=zVn (dr .u8) (ft.aL e (.li .u8))++(fC ((S.bj N y).aL e .str)).map (dr .u8):=zVr;simp only[ax.den,di,b1.den,uh,Cb,ag.den,dZ.l,ae,aw]at this⊢;exact this
     ·split at h
      ·rename_i FC
       cases h
       have aP:Env.at e S.k=_:=hx 0 _ rfl;have PL:Env.at e (S.k+1)=_:=hx 1 _ rfl
       have aa:(ag.bE (.li .u8) S.k).aL e (.li .u8)=fC ((S.bj N y).aL e .str):=by
        simp only[ag.aL,ag.hh,ag.dyn,df,aP,cf.den];rfl
       have e3:=hn _ (zW0.2 rfl);simp only[hj.ok,gy.BR,gy.a,gy.b,aa]at e3;have e3:zZ5 (ft.aL e (.li .u8))+zZ5 (fC ((S.bj N y).aL e .str))<=maxLen/\(zZ5 (ft.aL e (.li .u8))+zZ5 (fC ((S.bj N y).aL e .str)))*1<=140737488355328:=e3;rw[PK,zVm]at e3
       have:=TL (P:=P) (G:=G) (s:=S.den G N B e) x y t u av aJ (id:=id) (by rw[b3 hf,ar];rfl) (es:=zVn (dr .u8) (ft.aL e (.li .u8))) (by simp only[ax.den,fx,ai,zXh,b1.den]<;>rfl) (zZq FC)
        ud (by rw[zXe];exact e3)
       rw[dZ.st,gu]
       have ae:(ag.bE (.li .u8) (S.k+1)).aL e (.li .u8)=zYz (ft.aL e (.li .u8)) (fC ((S.bj N y).aL e .str)):=by
        have bx:Env.at e (S.k+1)=⟨.li .u8,zYz (ft.aL e (.li .u8)) ((ag.bE (.li .u8) S.k).aL e (.li .u8))⟩:=PL;rw[aa]at bx;exact Yp bx
       have aw:zVn (dr .u8) (zYz (ft.aL e (.li .u8)) (fC ((S.bj N y).aL e .str)))=zVn (dr .u8) (ft.aL e (.li .u8))++(fC ((S.bj N y).aL e .str)).map (dr .u8):=zVr;simp only[ax.den,di,b1.den,uh,Cb,ag.den,dZ.l,ae,aw]at this⊢;exact this
      ·cases h
    ·cases h
   ·cases h
  ·cases h
 ·cases h
end
def J1:List hj->aG->aG
 |[],t=>t|n::r,t=>.fF n (J1 r t)
def emit(k:Nat):List cf->List hj->aG->aG
 |[],ns,t=>J1 ns t|x::xs,ns,t=>.lt k x (emit (k+1) xs ns t)
def ed(M:List bs)(e:Env)(k:Nat):List cf->Env
 |[]=>e|x::xs=>ed M (bn.put e k (x.den M e)) (k+1) xs
def jt(k:Nat):List cf->Bool
 |[]=>true|x::xs=>x.lt k&&jt (k+1) xs
section
variable {M:List bs}
theorem Yq{e:Env}: ∀{ns:List hj} {t:aG},(J1 ns t).safe M e->(∀n∈ns,n.ok M e)/\t.safe M e
 |[],_,h=>⟨by simp,h⟩|n::r,t,h=>by
  obtain⟨aa,ae⟩:=Yq (ns:=r) h.2;exact⟨λm hm=>by rcases zZf.1 hm with rfl|hm;exact h.1;exact aa m hm,ae⟩
theorem Yr{e:Env}: ∀{ns:List hj} {t:aG},run M (J1 ns t) e=run M t e
 |[],_=>rfl|_::r,t=>Yr (ns:=r)
theorem pF: ∀{xs:List cf} {k:Nat} {ns:List hj} {t:aG} {e:Env},(emit k xs ns t).safe M e->(∀n∈ns,n.ok M (ed M e k xs))/\t.safe M (ed M e k xs)
 |[],_,_,_,_,h=>Yq h|x::xs,k,ns,t,e,h=>pF (xs:=xs) (k:=k+1) (e:=bn.put e k (x.den M e)) h
theorem oU: ∀{xs:List cf} {k:Nat} {ns:List hj} {t:aG} {e:Env},run M (emit k xs ns t) e=run M t (ed M e k xs)
 |[],_,_,_,_=>Yr|x::xs,k,ns,t,e=>oU (xs:=xs) (k:=k+1) (e:=bn.put e k (x.den M e))
theorem mv: ∀{xs:List cf} {k m:Nat} {e:Env},m<=k->cy m e (ed M e k xs)
 |[],_,_,_,_=>cy.refl _ _|x::xs,k,m,e,h=>cy.trans (cy.put h) (mv (xs:=xs) (k:=k+1) (m:=m) (by omega)) (zZv _)
theorem lO: ∀{xs:List cf} {k:Nat} {e:Env},jt k xs=true->∀(j:Nat) (x:cf),xs[j]? =some x->Env.at (ed M e k xs) (k+j)=x.den M (ed M e k xs)
 |[],_,_,_,j,x,h=>by simp at h|y::xs,k,e,au,j,x,h=>by
  simp only[jt,zZr]at au;simp only[ed]
  cases j with
  |zero=>
   simp only[List.getElem?_cons_zero,zYt]at h;subst h;have aa:cy (k+1) (bn.put e k (y.den M e)) (ed M (bn.put e k (y.den M e)) (k+1) xs):=mv (zZv _);show Env.at _ k=_;rw[aa k (zYi k),Env.mn,if_pos rfl];have ae:cy k e (ed M (bn.put e k (y.den M e)) (k+1) xs):=cy.trans (cy.put (zZv k)) aa (Nat.le_succ k);rw[ziv M ae au.1]
  |succ j=>
   simp only[List.getElem?_cons_succ]at h;have:=lO (xs:=xs) (k:=k+1) (e:=bn.put e k (y.den M e)) au.2 j x h;rw[show k+(j+1)=k+1+j by omega]
   exact this
end
end Go.aH
namespace Go.aH
open Go
def PM:Value->Value->Bool
 | .int k x,.int bl y=>decide (k=bl)&&decide (x=y)| .bool x,.bool y=>x==y| .string x,.string y=>decide (x=y)| .slice none 0 0,.slice none 0 0=>true| .pointer none,.pointer none=>true| .map none,.map none=>true|_,_=>false
theorem zjI{x y:Value}(h:PM x y=true):x=y:=by
 unfold PM at h
 split at h
 ·simp only[zZr,decide_eq_true_eq]at h
  rw[h.1,h.2]
 ·rw[eq_of_beq h]
 ·rw[of_decide_eq_true h]
 ·rfl
 ·rfl
 ·rfl
 ·cases h
def Ht:Fn->Fn->Bool
 | .func f,.func g=>zZu f g|_,_=>false
theorem T0{f g:Fn}(h:Ht f g=true):f=g:=by
 unfold Ht at h
 split at h
 ·rw[zWi h]
 ·cases h
mutual
def eF:ag->ag->Bool
 | .bE r i,.bE q j=>zZu i j&&jO r q| .fd c i k r,.fd d j m q=>(zZu i j&&zZu k m)&&(decide (c=d)&&jO r q)| .cs x,.cs y=>PM x y| .ip c i k,.ip d j m=>(zZu i j&&zZu k m)&&decide (c=d)| .cH l,.cH m=>pG l m| .tp l,.tp m=>pG l m| .fi i o,.fi j q=>zZu i j&&zZu o q| .iM i x o,.iM j y q=>(zZu i j&&zZu o q)&&eF x y| .aq i,.aq j=>zZu i j| .fn f a b,.fn g c d=>Ht f g&&(pG a c&&pG b d)| .jb i,.jb j=>zZu i j| .hg g b x,.hg h c y=>(eF g h&&eF x y)&&decide (b=c)| .mo i o,.mo j q=>zZu i j&&zZu o q| .cM i n,.cM j m=>zZu i j&&zZu n m| .gC g i o,.gC h j q=>eF g h&&(decide (i=j)&&zZu o q)| .eE t a rs l,.eE u b qs m=>(zZu t u&&decide (a=b))&&(decide (rs=qs)&&pG l m)| .top,.top=>true|_,_=>false
def pG:List ag->List ag->Bool
 |[],[]=>true|x::l,y::m=>eF x y&&pG l m|_,_=>false
end
mutual
theorem eQ: ∀{x y:ag},eF x y=true->x=y:=λ{x y} h=>by
 unfold eF at h
 split at h
 ·simp only[zZr]at h
  rw[zWi h.1,jr h.2]
 ·simp only[zZr,decide_eq_true_eq]at h
  rw[zWi h.1.1,zWi h.1.2,h.2.1,jr h.2.2]
 ·rw[zjI h]
 ·simp only[zZr,decide_eq_true_eq]at h
  rw[zWi h.1.1,zWi h.1.2,h.2]
 ·rename_i l m;rw[sJ (l:=l) (m:=m) h]
 ·rename_i l m;rw[sJ (l:=l) (m:=m) h]
 ·simp only[zZr]at h
  rw[zWi h.1,zWi h.2]
 ·rename_i x _ _ y _
  simp only[zZr]at h;rw[zWi h.1.1,zWi h.1.2,eQ h.2]
 ·rw[zWi h]
 ·simp only[zZr]at h
  rw[T0 h.1,sJ h.2.1,sJ h.2.2]
 ·rw[zWi h]
 ·rename_i g b x h' c y
  simp only[zZr,decide_eq_true_eq]at h;rw[eQ h.1.1,eQ h.1.2,h.2]
 ·simp only[zZr]at h
  rw[zWi h.1,zWi h.2]
 ·simp only[zZr]at h
  rw[zWi h.1,zWi h.2]
 ·simp only[zZr,decide_eq_true_eq]at h
  rw[eQ h.1,h.2.1,zWi h.2.2]
 ·rename_i l _ _ _ m
  simp only[zZr,decide_eq_true_eq]at h;rw[zWi h.1.1,h.1.2,h.2.1,sJ (l:=l) (m:=m) h.2.2]
 ·rfl
 ·cases h
theorem sJ: ∀{l m:List ag},pG l m=true->l=m:=λ{l m} h=>by
 match l,m with
 |[],[]=>rfl|x::l,y::m=>
  simp only[pG,zZr]at h;rw[eQ h.1,sJ h.2]
 |[],_::_=>cases h
 |_::_,[]=>cases h
end
def rq:e8->e8->Bool
 | .slot i p,.slot j q=>zZu i j&&FG p q| .box i o p,.box j u q=>(zZu i j&&zZu o u)&&FG p q| .row i,.row j=>zZu i j| .nt p,.nt q=>rq p q|_,_=>false
 where FG:List Nat->List Nat->Bool
 |[],[]=>true|x::l,y::m=>zZu x y&&FG l m|_,_=>false
theorem PN: ∀{l m:List Nat},rq.FG l m=true->l=m
 |[],[],_=>rfl|x::l,y::m,h=>by
  simp only[rq.FG,zZr]at h;rw[zWi h.1,PN h.2]
 |[],_::_,h=>by cases h
 |_::_,[],h=>by cases h
theorem J2: ∀{p q:e8},rq p q=true->p=q
 | .slot i p,q,h=>by
  cases q<;>first|(cases h;done)|skip
  simp only[rq,zZr]at h;rw[zWi h.1,PN h.2]
 | .box i o p,q,h=>by
  cases q<;>first|(cases h;done)|skip
  simp only[rq,zZr]at h;rw[zWi h.1.1,zWi h.1.2,PN h.2]
 | .row i,q,h=>by
  cases q<;>first|(cases h;done)|skip
  simp only[rq]at h;rw[zWi h]
 | .nt p,q,h=>by
  cases q<;>first|(cases h;done)|skip
  simp only[rq]at h;rw[J2 h]
abbrev hl:=List (Nat × a6 × e8)
def lf(ps:hl)(i:Nat):Option (a6 × e8):=
 match ps with
 |[]=>none|(j,r,p)::l=>match zZu j i with
  |true=>some (r,p)|false=>lf l i
def kk(k:Nat):hl->Bool
 |[]=>true|(j,r,_)::l=>zZu j k&&(r.one&&kk (k+1) l)
def zG(p:e8)(i:Nat):e8:=
 match p with
 | .slot j q=>.slot j (q++[i])| .box j o q=>.box j o (q++[i])| .row j=>.row j| .nt p=>.nt p
def Ys(id off:Nat):ag->Bool
 | .fi i o=>zZu i id&&zZu o off| .cs (.pointer none)=>true| .gC (.bE .bool _) (some i) o=>zZu i id&&zZu o off|_=>false
mutual
def vF(ps:hl)(aX:Nat)(p:e8)(v:ag):ag->Bool
 | .top=>true| .bE r i=>match zZt aX i with
  |true=>match lf ps i with
   |some (q,ha)=>jO q r&&(rq ha p&&(v.fN r&&r.one))|none=>false
  |false=>eF v (.bE r i)
 | .cH l=>match v with
  | .cH m=>Cc ps aX p 0 m l|_=>false
 | .tp l=>match v with
  | .tp m=>Cc ps aX p 0 m l|_=>false
 | .gC (.bE r i) (some id) off=>match zZt aX i with
  |true=>match lf ps i with
   |some (q,ha)=>(jO q .bool&&jO r .bool)&&(rq ha (.nt p)&&Ys id off v)|none=>false
  |false=>eF v (.gC (.bE r i) (some id) off)&&(ag.gC (.bE r i) (some id) off).lt aX
 |w=>eF v w&&w.lt aX
def Cc(ps:hl)(aX:Nat)(p:e8):Nat->List ag->List ag->Bool
 |_,vs,[]=>vs.isEmpty|i,vs,w::ws=>match vs with
  |[]=>false|v::vs=>vF ps aX (zG p i) v w&&Cc ps aX p (i+1) vs ws
end
theorem J3: ∀(x:ag) (q:List Nat) (i:Nat),x.sub (q++[i])=(x.sub q).sub [i]
 |x,[],i=>by simp[ag.sub]| .cH l,j::q,i=>by simp only[zVl,ag.sub];exact J3 _ q i| .tp l,j::q,i=>by simp only[zVl,ag.sub];exact J3 _ q i| .bE _ _,_::_,_=>by simp[ag.sub]| .fd _ _ _ _,_::_,_=>by simp[ag.sub]| .cs _,_::_,_=>by simp[ag.sub]| .ip _ _ _,_::_,_=>by simp[ag.sub]| .fi _ _,_::_,_=>by simp[ag.sub]| .iM _ _ _,_::_,_=>by simp[ag.sub]| .aq _,_::_,_=>by simp[ag.sub]| .fn _ _ _,_::_,_=>by simp[ag.sub]| .jb _,_::_,_=>by simp[ag.sub]| .hg _ _ _,_::_,_=>by simp[ag.sub]| .mo _ _,_::_,_=>by simp[ag.sub]| .iY _ _ _ _,_::_,_=>by simp[ag.sub]| .cM _ _,_::_,_=>by simp[ag.sub]| .gC _ _ _,_::_,_=>by simp[ag.sub]| .eE _ _ _ _,_::_,_=>by simp[ag.sub]| .top,_::_,_=>by simp[ag.sub]
theorem zjJ{S:ax}{p:e8}{l:List ag}{i:Nat}(h:p.dR S= .cH l\/p.dR S= .tp l)(ah: ∀j,p≠ .row j):(zG p i).dR S=fQ .top l i:=by
 cases p with
 |slot j q=>
  simp only[zG,e8.dR,J3]at h⊢
  rcases h with h|h<;>rw[h]<;>rfl
 |box j o q=>
  simp only[zG,e8.dR]at h⊢
  split at h
  ·rename_i t m ai
   rcases h with h|h<;>simp only[J3,h]<;>rfl
  ·rcases h with h|h<;>cases h
 |row j=>exact absurd rfl (ah j)|nt p=>
  have b6: ∀x:ag,x.nt≠ .cH l/\x.nt≠ .tp l:=λx=>by
   unfold ag.nt
   split<;>simp
  rcases h with h|h
  ·exact absurd h (b6 _).1
  ·exact absurd h (b6 _).2
theorem zjK{p:e8}{i:Nat}(ah: ∀j,p≠ .row j): ∀j,zG p i≠ .row j:=λj=>by
 cases p with
 |row j=>exact absurd rfl (ah j)|_=>simp[zG]
section
variable {G:aV} {N B:Nat} {ps:hl} {aX:Nat} {aE em:Env} {aM:ax}
theorem Yt{l:List ag}{i:Nat}{v:ag}{vs:List ag}(h:l.drop i=v::vs):fQ .top l i=v:=by
 induction l generalizing i with
 |nil=>simp at h|cons x r bb=>
  cases i with
  |zero=>simp at h;simp[fQ,h.1]|succ i=>
   have af:zZu (i+1) 0=false:=rfl;simp only[fQ,af];exact bb (by simpa using h)
mutual
theorem mw(ej: ∀i r q,lf ps i=some (r,q)->Env.at em i=⟨r,(q.dR aM).get aE r⟩)(ck:cy aX aE em): ∀{p:e8} {v w:ag},(∀j,p≠ .row j)->p.dR aM=v->vF ps aX p v w=true->Sub (v.den G aE) (w.den G em):=λ{p v w} ah ar h=>by
 cases w with
 |top=>exact Sub.top _|bE r i=>
  simp only[vF]at h
  split at h
  ·split at h
   ·rename_i q ha aB
    simp only[zZr]at h;have aa:=jr h.1;subst aa;have ae:=J2 h.2.1;subst ae;have aw:=ej i q ha aB;rw[ar]at aw;have vi:=h.2.2.2;have:=zo (G:=G) (e:=aE) h.2.2.1;simp only[ag.den,aw,df,JT vi];exact this
   ·cases h
  ·rename_i hi
   have:=eQ h;subst this
   have bR:i<aX:=by
    rcases zYm i aX with q|q
    ·exact q
    ·rw[zVk q]at hi;cases hi
   rw[xj (x:=.bE r i) ck (nq bR)];exact Sub.refl _
 |cH l=>
  unfold vF at h
  split at h
  ·rename_i m
   refine h1.agg ?_;have:=PO ej ck (p:=p) (i:=0) (m:=m) (ws:=l) ah (.inl ar) h;simpa using this
  ·cases h
 |tp l=>
  unfold vF at h
  split at h
  ·rename_i m
   refine h1.tuple ?_;have:=PO ej ck (p:=p) (i:=0) (m:=m) (ws:=l) ah (.inr ar) h;simpa using this
  ·cases h
 |gC g id off=>
  unfold vF at h
  split at h
  ·rename_i a8;cases a8
  ·rename_i a8;cases a8
  ·rename_i a8;cases a8
  ·rename_i a8;cases a8
  ·rename_i r i jn zoZ a8
   cases a8
   split at h
   ·split at h
    ·rename_i q ha aB
     simp only[zZr]at h;have aa:=jr h.1.1;have ae:=jr h.1.2;have aw:=J2 h.2.1;subst aa ae aw;have aN:=ej i _ _ aB;have bx:(e8.nt p).dR aM=v.nt:=by rw[<-ar];rfl
     rw[bx]at aN;have cB:(ag.bE .bool i).aL em .bool=v.nt.get aE .bool:=by simp only[ag.aL,ag.hh,ag.dyn,aN,df]
     have ai:=h.2.2;unfold Ys at ai
     split at ai
     ·simp only[zZr]at ai
      simp only[ag.den,cB];rw[zWi ai.1,zWi ai.2];exact Sub.refl _
     ·simp only[ag.den,cB]
      exact Sub.refl _
     ·rename_i j i2 H3
      simp only[zZr]at ai;have eN:(ag.bE .bool i).aL em .bool=(ag.bE .bool j).aL aE .bool:=cB;simp only[ag.den,eN];rw[zWi ai.1,zWi ai.2];exact Sub.refl _
     ·cases ai
    ·cases h
   ·rw[zZr]at h
    have aa:=eQ h.1;subst aa;rw[xj ck h.2];exact Sub.refl _
  ·rw[zZr]at h
   have aa:=eQ h.1;subst aa;rw[xj ck h.2];exact Sub.refl _
 |_=>
  unfold vF at h;rw[zZr]at h;have aa:=eQ h.1;subst aa;rw[xj ck h.2];exact Sub.refl _
theorem PO(ej: ∀i r q,lf ps i=some (r,q)->Env.at em i=⟨r,(q.dR aM).get aE r⟩)(ck:cy aX aE em): ∀{p:e8} {i:Nat} {m ws:List ag},(∀j,p≠ .row j)->(p.dR aM= .cH m\/p.dR aM= .tp m)->Cc ps aX p i (m.drop i) ws=true->h1 (ag.cc G aE (m.drop i)) (ag.cc G em ws):=λ{p i m ws} ah ar h=>by
 match ws with
 |[]=>
  unfold Cc at h;rw[List.isEmpty_iff.1 h];exact .nil
 |w::ws=>
  unfold Cc at h
  split at h
  ·cases h
  ·rename_i v vs hd
   simp only[zZr]at h
   have aa:vs=m.drop (i+1):=by
    rw[<-zW5,hd];rfl
   rw[hd];simp only[ag.cc];refine .cons (mw ej ck (zjK ah) ((zjJ ar ah).trans (Yt hd)) h.1) ?_;rw[aa]at h⊢;exact PO ej ck (i:=i+1) ah ar h.2
end
end
end Go.aH
namespace Go.aH
open Go
def aG.gV:aG->List ax
 | .db .cp S=>[S]| .db _ _=>[]| .lt _ _ t=>t.gV| .fF _ t=>t.gV| .it _ a b=>a.gV++b.gV| .eB _ a _ k=>a.gV++k.gV| .fc _ _ _ _ _ a k=>a.gV++k.gV| .fG _ _ _ a k=>a.gV++k.gV| .bad _=>[]
theorem PQ{R A:Type}{b:Nat->A->Step R A}{r:R}: ∀{m k:Nat} {a:A},bI b k m a= .inl r->∃i v,b i v= .ret r
 |0,_,_,h=>by cases h
 |m+1,k,a,h=>by
  simp only[bI]at h
  cases af:b k a with
  |ret q=>rw[af]at h;cases h;exact⟨k,a,af⟩
  |c4 v=>rw[af]at h;cases h
  |bJ v=>rw[af]at h;exact PQ h
theorem PR{R A:Type}{b:A->Step R A}{r:R}: ∀{m:Nat} {a:A},dk b m a= .inl r->∃v,b v= .ret r
 |0,_,h=>by cases h
 |m+1,a,h=>by
  simp only[dk]at h
  cases af:b a with
  |ret q=>rw[af]at h;cases h;exact⟨a,af⟩
  |c4 v=>rw[af]at h;cases h
  |bJ v=>rw[af]at h;exact PR h
section
variable {M:List bs}
theorem J4{m xid:Nat}{ca:List jG}{a:aG}{e:Env}{v:cd ca}{x:cm}{S:ax}{aD:Env}(h:dN M m xid ca a e v= .ret (some (x,S,aD))):run M a e=some (x,S,aD):=by
 unfold dN at h
 split at h
 ·rename_i y bV E7 ah
  cases hx:y.b9 m with
  |true=>rw[rk hx]at h;cases h
  |false=>
   cases aA:y.dw xid with
   |true=>rw[rm hx aA]at h;cases h
   |false=>rw[mS hx aA]at h;cases h;exact ah
 ·cases h
theorem J5{m xid cn:Nat}{dM:cf}{ca:List jG}{a k:aG}{e:Env}:run M (.fc m xid dM cn ca a k) e=Sum.elim (λr=>r) (λv=>run M k (bD e ca v)) (bI (λi (v:cd ca)=>dN M m xid ca a (bD (bn.put e cn ⟨.int .i64,(i:Int)⟩) ca v) v) 0 (cQ (dM.den M e)).toNat (cr _ (ew e ca))):=by
 unfold run;rw[BW];simp only[BV]
theorem J6{m xid:Nat}{ca:List jG}{a k:aG}{e:Env}:run M (.fG m xid ca a k) e=Sum.elim (λr=>r) (λv=>run M k (bD e ca v)) (dk (λ(v:cd ca)=>dN M m xid ca a (bD e ca v) v) c5 (cr _ (ew e ca))):=by
 simp only[run,aG.fold,BV]
theorem qu: ∀{t:aG} {e aD:Env} {S:ax},run M t e=some (.cp,S,aD)->S∈t.gV
 | .db x S0,e,aD,S,h=>by
  simp only[run,aG.fold]at h;cases h;simp[aG.gV]
 | .lt _ _ t,_,_,_,h=>qu (t:=t) h| .fF _ t,_,_,_,h=>qu (t:=t) h| .it c a b,e,aD,S,h=>by
  simp only[run,aG.fold]at h;simp only[aG.gV,zVs]
  cases hc:c.aL e .bool with
  |true=>rw[hc]at h;exact .inl (qu (t:=a) h)|false=>rw[hc]at h;exact .inr (qu (t:=b) h)
 | .eB n a ps k,e,aD,S,h=>by
  simp only[aG.gV,zVs]
  cases ah:run M a e with
  |none=>unfold run at h;rw[xo ah]at h;cases h
  |some l=>
   obtain⟨x,aM,aE⟩:=l
   cases hx:x.b9 n with
   |true=>
    unfold run at h;rw[tZ ah hx]at h;exact .inr (qu (t:=k) h)
   |false=>
    unfold run at h;rw[qm ah hx]at h;cases h;exact .inl (qu (t:=a) ah)
 | .fc m xid dM cn ca a k,e,aD,S,h=>by
  rw[J5]at h;simp only[aG.gV,zVs]
  cases au:bI (λi (v:cd ca)=>dN M m xid ca a (bD (bn.put e cn ⟨.int .i64,(i:Int)⟩) ca v) v) 0 (cQ (dM.den M e)).toNat (cr _ (ew e ca))with
  |inl r=>
   rw[au]at h;have h:r=some (.cp,S,aD):=h;subst h;obtain⟨i,v,af⟩:=PQ au;exact .inl (qu (t:=a) (J4 af))
  |inr v=>rw[au]at h;exact .inr (qu (t:=k) h)
 | .fG m xid ca a k,e,aD,S,h=>by
  rw[J6]at h;simp only[aG.gV,zVs]
  cases au:dk (λ(v:cd ca)=>dN M m xid ca a (bD e ca v) v) c5 (cr _ (ew e ca))with
  |inl r=>
   rw[au]at h;have h:r=some (.cp,S,aD):=h;subst h;obtain⟨v,af⟩:=PR au;exact .inl (qu (t:=a) (J4 af))
  |inr v=>rw[au]at h;exact .inr (qu (t:=k) h)
 | .bad _,_,_,_,h=>by cases h
end
def gE:List (Nat × ag)->bn ag
 |[]=>.emp|(i,x)::r=>(gE r).put i x
theorem sK: ∀{l:List (Nat × ag)} {i:Nat} {x:ag},(gE l).get i=some x->(i,x)∈l
 |[],_,_,h=>by cases h
 |(j,y)::r,i,x,h=>by
  simp only[gE,bn.lu]at h
  by_cases aj:j=i
  ·rw[if_pos aj]at h;cases h;simp[aj]
  ·rw[if_neg aj]at h;exact zVj _ (sK h)
structure h3 where
 l:List (Nat × ag)
 h:List (Nat × b1)
 n:Nat
 ps:hl
def h3.S(J:h3)(aX:Nat)(g:List cv):ax:=⟨gE J.l,J.h,J.n,aX+J.ps.length,g⟩
def J7:ag->Bool
 | .tp []=>true|_=>false
def FH(g:List cv)(ps:hl)(aX:Nat)(p:e8)(v:ag):ag->Bool
 | .hg h b w=>(eF v (.hg h b w)&&(ag.hg h b w).lt aX)||(h.lt aX&&(match n9 h g with
  |some c=>match decide (c=b)with
   |true=>FH g ps aX p v w|false=>J7 v
  |none=>false))
 |w=>vF ps aX p v w
def J8(ps:hl)(aX:Nat)(aM:ax):List (Nat × ag)->Bool
 |[]=>true|(i,w)::r=>FH aM.g ps aX (.slot i []) (aM.at i) w&&J8 ps aX aM r
def J9(ps:hl)(aX id:Nat):Nat->List ag->List ag->Bool
 |_,[],[]=>true|j,v::vs,w::ws=>vF ps aX (.box id j []) v w&&J9 ps aX id (j+1) vs ws|_,_,_=>false
def Ka(ps:hl)(aX id:Nat)(t:a6)(y1:ag):ag->Bool
 | .bE r i=>match zZt aX i with
  |true=>match lf ps i with
   |some (q,p)=>(jO q t&&jO r t)&&(rq p (.row id)&&(y1.fN t&&t.one))|none=>false
  |false=>eF y1 (.bE r i)
 |w=>eF y1 w&&w.lt aX
def Kb(ps:hl)(aX:Nat)(aM:ax):List (Nat × b1)->Bool
 |[]=>true
 |(id,o)::r=>(match dG aM.h id,o with
  |some (.dQ br DT),.dQ t l=>zZu br t&&J9 ps aX id 0 DT l|some (.rw br rf y1),.rw t c y=>zZu br t&&(decide (rf=c)&&Ka ps aX id (.li c) y1 y)|some (.it dp aU vG),.it q x p=>decide (dp=q)&&((eF aU x&&x.lt aX)&&Ka ps aX id q.rt vG p)
  |_,_=>false)&&Kb ps aX aM r
def lP(J:h3)(aX:Nat)(aM:ax):Bool:=(J8 J.ps aX aM J.l&&Kb J.ps aX aM J.h)&&zZt aM.n J.n
def Kc(J:h3)(aX:Nat):List ax->Bool
 |[]=>true|S::r=>lP J aX S&&Kc J aX r
def vH(k:Nat):List (Nat × ag)->Bool
 |[]=>true|(_,x)::r=>x.lt k&&vH k r
section
variable {G:aV} {N B:Nat} {J:h3} {aX:Nat} {aM:ax} {e aE:Env}
theorem Yu: ∀{ps:hl} {k:Nat},kk k ps=true->∀{i:Nat} {r:a6} {p:e8},lf ps i=some (r,p)->k<=i/\i<k+ps.length/\r.one=true
 |(j,e5,ha)::l,k,h,i,r,p,ar=>by
  simp only[kk,zZr]at h;have aj:=zWi h.1;simp only[lf]at ar
  split at ar
  ·rename_i af
   cases ar
   have:=zWi af;simp only[zVi];exact⟨by omega,by omega,h.2.1⟩
  ·have:=Yu h.2.2 ar
   simp only[zVi];exact⟨by omega,by omega,this.2.2⟩
theorem FI{f:a6->e8->aK}: ∀{ps:hl} {k:Nat} {e:Env},kk k ps=true->∀i,i<k->Env.at (gN e f ps) i=Env.at e i
 |[],_,_,_,_,_=>rfl|(j,r,p)::l,k,e,h,i,hi=>by
  simp only[kk,zZr]at h;have aj:=zWi h.1;simp only[gN];rw[FI (ps:=l) (k:=k+1) h.2.2 i (by omega),Env.mn,if_neg (by omega)]
theorem PS{f:a6->e8->aK}: ∀{ps:hl} {k:Nat} {e:Env},kk k ps=true->∀{i:Nat} {r:a6} {p:e8},lf ps i=some (r,p)->Env.at (gN e f ps) i=f r p
 |(j,e5,ha)::l,k,e,h,i,r,p,ar=>by
  simp only[kk,zZr]at h;have aj:=zWi h.1;simp only[lf]at ar;simp only[gN]
  split at ar
  ·rename_i af
   cases ar
   have:=zWi af;rw[FI (ps:=l) (k:=k+1) h.2.2 i (by omega),Env.mn,if_pos this]
  ·exact PS h.2.2 ar
theorem Yv: ∀{l:List (Nat × ag)} {ps:hl},J8 ps aX aM l=true->∀{i:Nat} {w:ag},(i,w)∈l->FH aM.g ps aX (.slot i []) (aM.at i) w=true
 |(j,x)::r,ps,h,i,w,hm=>by
  simp only[J8,zZr]at h
  rcases zZf.1 hm with q|q
  ·cases q;exact h.1
  ·exact Yv h.2 q
theorem Yw{ps:hl}{em:Env}(ej: ∀i r q,lf ps i=some (r,q)->Env.at em i=⟨r,(q.dR aM).get aE r⟩)(ck:cy aX aE em){id:Nat}{t:TypeId}{L:List ag}(ai:dG aM.h id=some (.dQ t L)): ∀{j:Nat} {vs ws:List ag},L.drop j=vs->J9 ps aX id j vs ws=true->h1 (ag.cc G aE vs) (ag.cc G em ws)
 |_,[],[],_,_=>.nil|j,v::vs,w::ws,hd,h=>by
  simp only[J9,zZr]at h
  have az:(e8.box id j []).dR aM=v:=by
   simp only[e8.dR,ai,ag.sub];exact Yt hd
  refine .cons (mw ej ck (by simp) az h.1) (Yw ej ck ai (j:=j+1) ?_ h.2)
  rw[<-zW5,hd];rfl
 |_,[],_::_,_,h=>by cases h
 |_,_::_,[],_,h=>by cases h
theorem Yx{ps:hl}{em:Env}(ej: ∀i r q,lf ps i=some (r,q)->Env.at em i=⟨r,(q.dR aM).get aE r⟩)(ck:cy aX aE em)(hf: ∀c∈aM.g,c.ok aE){p:e8}{v:ag}(ah: ∀j,p≠ .row j)(ar:p.dR aM=v): ∀{w:ag},FH aM.g ps aX p v w=true->Sub (v.den G aE) (w.den G em)
 | .hg h b w,ao=>by
  simp only[FH,Bool.or_eq_true,zZr]at ao
  rcases ao with⟨aa,ae⟩|⟨aa,ae⟩
  ·rw[eQ aa,xj ck ae]
   exact Sub.refl _
  split at ae
  ·rename_i c an
   have a8:h.aL em .bool=c:=(fY ck aa).trans (ua an hf)
   split at ae
   ·rename_i hd
    have hd:=of_decide_eq_true hd;have bb:=Yx ej ck hf ah ar (w:=w) ae
    have:(ag.hg h b w).den G em=w.den G em:=by
     simp only[ag.den,a8,hd];cases b<;>rfl
    rw[this];exact bb
   ·rename_i hd
    have hd:=of_decide_eq_false hd
    have aw:(ag.hg h b w).den G em= .tuple []:=by
     simp only[ag.den,a8]
     cases c<;>cases b<;>first|rfl|exact absurd rfl hd
    rw[aw];unfold J7 at ae
    split at ae
    ·exact Sub.refl _
    ·cases ae
  ·cases ae
 | .bE r i,ao=>mw ej ck ah ar (w:=.bE r i) ao| .fd c i k r,ao=>mw ej ck ah ar (w:=.fd c i k r) ao| .cs x,ao=>mw ej ck ah ar (w:=.cs x) ao| .ip c i k,ao=>mw ej ck ah ar (w:=.ip c i k) ao| .cH l,ao=>mw ej ck ah ar (w:=.cH l) ao| .tp l,ao=>mw ej ck ah ar (w:=.tp l) ao| .fi i o,ao=>mw ej ck ah ar (w:=.fi i o) ao| .iM i x o,ao=>mw ej ck ah ar (w:=.iM i x o) ao| .aq i,ao=>mw ej ck ah ar (w:=.aq i) ao| .fn f a b,ao=>mw ej ck ah ar (w:=.fn f a b) ao| .jb i,ao=>mw ej ck ah ar (w:=.jb i) ao| .mo g o,ao=>mw ej ck ah ar (w:=.mo g o) ao| .iY i o x n,ao=>mw ej ck ah ar (w:=.iY i o x n) ao| .cM i n,ao=>mw ej ck ah ar (w:=.cM i n) ao| .gC g i o,ao=>mw ej ck ah ar (w:=.gC g i o) ao| .eE t a rs l,ao=>mw ej ck ah ar (w:=.eE t a rs l) ao| .top,ao=>mw ej ck ah ar (w:=.top) ao
theorem zjL{em:Env}{r:a6}{i:Nat}:(ag.bE r i).aL em r=(Env.at em i).aI r:=by
 simp only[ag.aL,ag.hh,ag.dyn,df]
theorem Yy{ps:hl}{em:Env}(ej: ∀i r q,lf ps i=some (r,q)->Env.at em i=⟨r,(q.dR aM).get aE r⟩)(ck:cy aX aE em){id:Nat}{t:a6}{y1 y:ag}(ao:(e8.row id).dR aM=y1)(iB:Ka ps aX id t y1 y=true):y1.aL aE t=y.aL em t:=by
 unfold Ka at iB
 split at iB
 ·rename_i e5 i
  split at iB
  ·split at iB
   ·rename_i q p aB
    simp only[zZr]at iB;have aO:=jr iB.1.1;have bz:=jr iB.1.2;have bd:=J2 iB.2.1;subst aO;subst bz;subst bd;have aw:=ej i _ _ aB;rw[ao]at aw;rw[zjL,aw,df,JT iB.2.2.2]
   ·cases iB
  ·rename_i hi
   have:=eQ iB;subst this
   have bR:i<aX:=by
    rcases zYm i aX with q|q
    ·exact q
    ·rw[zVk q]at hi;cases hi
   exact(fY (x:=.bE e5 i) ck (nq bR)).symm
 ·simp only[zZr]at iB
  have:=eQ iB.1;subst this;exact(fY ck iB.2).symm
theorem PT(ar:kk aX J.ps=true)(hf: ∀c∈aM.g,c.ok aE)(h:lP J aX aM=true){g:List cv}(ck:cy aX e aE):
 ug (aM.den G N B aE) ((J.S aX g).den G N B (gN e (λr p=>⟨r,(p.dR aM).get aE r⟩) J.ps)):=by
 simp only[lP,zZr]at h;have ej: ∀i r q,lf J.ps i=some (r,q)->Env.at (gN e (λr p=>⟨r,(p.dR aM).get aE r⟩) J.ps) i=⟨r,(q.dR aM).get aE r⟩:=λi r q aB=>PS ar aB;have an:cy aX aE (gN e (λr p=>⟨r,(p.dR aM).get aE r⟩) J.ps):=λi hi=>by rw[FI ar i hi];exact(ck i hi).symm
 refine ug.of rfl (zZq h.2) (by simp[ax.den,JD]) (λi v az=>?_) λid o av=>?_
 ·rw[zr]at az
  by_cases hi:i<N
  ·rw[if_pos hi]at az
   cases az;refine⟨(aM.at i).den G aE,by rw[zr,if_pos hi],?_⟩
   unfold ax.at h3.S;simp only
   cases ai:(gE J.l).get i with
   |none=>exact Sub.top _|some w=>exact Yx ej an hf (p:=.slot i []) (by simp) (by simp[e8.dR,ag.sub,ax.at]) (Yv h.1.1 (sK ai))
  ·rw[if_neg hi]at az;cases az
 ·have key: ∀{l:List (Nat × b1)},Kb J.ps aX aM l=true->aF (di G (gN e (λr p=>⟨r,(p.dR aM).get aE r⟩) J.ps) l) id=some o->∃ct,aF (aM.den G N B aE).heap id=some ct/\zE ct o:=by
   intro l
   induction l with
   |nil=>intro _ ai;cases ai
   |cons q r bb=>
    obtain⟨j,sL⟩:=q;intro au ai;simp only[Kb,zZr]at au;simp only[di,aF]at ai
    by_cases aj:j=id
    ·subst aj
     rw[if_pos rfl]at ai;cases ai;have aa:=au.1
     cases ao:dG aM.h j with
     |none=>rw[ao]at aa;cases aa
     |some p0=>
      rw[ao]at aa;refine⟨p0.den G aE,by simp only[ax.den,fx,ao,zXh],?_⟩
      cases p0 with
      |dQ br DT=>
       cases sL with
       |dQ t l=>
        simp only[zZr]at aa;rw[zWi aa.1]at ao⊢;exact .box t (Yw ej an ao (j:=0) (by simp) aa.2)
       |rw t c y=>cases aa
       |it q x p=>cases aa
      |rw br rf y1=>
       cases sL with
       |dQ t l=>cases aa
       |rw t c y=>
        simp only[zZr,decide_eq_true_eq]at aa;obtain⟨e6,gl,iB⟩:=aa;have e6:=zWi e6;subst e6;subst gl;have:=Yy (t:=.li rf) ej an (id:=j) (y1:=y1) (by simp only[e8.dR,ao]) iB
        simp only[b1.den];rw[this];exact .same _
       |it q x p=>cases aa
      |it dp aU vG=>
       cases sL with
       |dQ t l=>cases aa
       |rw t c y=>cases aa
       |it q x p=>
        simp only[zZr,decide_eq_true_eq]at aa;obtain⟨aT,⟨aO,bz⟩,bd⟩:=aa;have aO:=eQ aO;subst aT;subst aO;have:=Yy (t:=dp.rt) ej an (id:=j) (y1:=vG) (by simp only[e8.dR,ao]) bd
        simp only[b1.den];rw[this,fY an bz];exact .same _
    ·rw[if_neg aj]at ai
     exact bb au.2 ai
  exact key h.1.2 av
theorem Kd(ar:kk aX J.ps=true)(hf: ∀c∈aM.g,c.ok aE)(h:lP J aX aM=true){g:List cv}(ck:cy aX e aE):
 b5 (aM.den G N B aE) ((J.S aX g).den G N B (gN e (λr p=>⟨r,(p.dR aM).get aE r⟩) J.ps)):=(PT ar hf h ck).le
end
end Go.aH
namespace Go.aH
open Go
def allEq(v:ag):List ag->Bool
 |[]=>true|x::r=>eF x v&&allEq v r
def typeOf:List ag->Option a6
 |[]=>none|x::r=>match x.rt with
  |some t=>some t|none=>typeOf r
def Ke(r:a6):List ag->Bool
 |[]=>true|x::l=>x.fN r&&Ke r l
def Yz(n:Nat):List ag->Bool
 |[]=>true| .cH l::r=>zZu l.length n&&Yz n r|_::_=>false
def YA(n:Nat):List ag->Bool
 |[]=>true| .tp l::r=>zZu l.length n&&YA n r|_::_=>false
def ag.parts:ag->List ag
 | .tp l=>l| .cH l=>l|x=>[x]
def PU:List (List ag)->List ag
 |[]=>[]|l::r=>fQ .top l 0::PU r
def PV:List (List ag)->List (List ag)
 |[]=>[]|l::r=>l.tail::PV r
def Cd(r:Option (Nat × Nat)):List ag->Option (Nat × Nat)
 |[]=>r| .fi i o::l=>match r with
  |none=>Cd (some (i,o)) l|some (j,q)=>match zZu i j&&zZu o q with
   |true=>Cd r l|false=>none
 | .gC _ (some i) o::l=>match r with
  |none=>Cd (some (i,o)) l|some (j,q)=>match zZu i j&&zZu o q with
   |true=>Cd r l|false=>none
 | .cs (.pointer none)::l=>Cd r l|_::_=>none
mutual
def PW(aX:Nat)(p:e8)(rest:List ag)(k:Nat):ag->ag × hl
 | .cH l=>match Yz l.length rest with
  |true=>match PX aX p 0 (rest.map ag.cells) k l with
   |(ws,ps)=>(.cH ws,ps)
  |false=>(.top,[])
 | .tp l=>match YA l.length rest with
  |true=>match PX aX p 0 (rest.map ag.parts) k l with
   |(ws,ps)=>(.tp ws,ps)
  |false=>(.top,[])
 |v=>match allEq v rest&&v.lt aX with
  |true=>(v,[])|false=>match typeOf (v::rest)with
   |some r=>match Ke r (v::rest)with
    |true=>(.bE r k,[(k,r,p)])|false=>(.top,[])
   |none=>match Cd none (v::rest)with
    |some (id,off)=>(.gC (.bE .bool k) (some id) off,[(k,.bool,.nt p)])|none=>(.top,[])
def PX(aX:Nat)(p:e8):Nat->List (List ag)->Nat->List ag->List ag × hl
 |_,_,_,[]=>([],[])|i,rs,k,v::l=>match PW aX (zG p i) (PU rs) k v with
  |(w,ps)=>match PX aX p (i+1) (PV rs) (k+ps.length) l with
   |(ws,qs)=>(w::ws,ps++qs)
end
def YB:ag->Bool
 | .top=>true|_=>false
def slotsOf(i:Nat):List ax->List ag
 |[]=>[]|S::r=>S.at i::slotsOf i r
def PY(aX:Nat)(s:ax)(e4:List ax):Nat->Nat->Nat->List (Nat × ag) × hl
 |0,_,_=>([],[])|n+1,i,k=>match YB (s.at i)with
  |true=>PY aX s e4 n (i+1) k|false=>match PW aX (.slot i []) (slotsOf i e4) k (s.at i)with
   |(w,ps)=>match PY aX s e4 n (i+1) (k+ps.length)with
    |(l,qs)=>match YB w with
     |true=>(l,ps++qs)|false=>((i,w)::l,ps++qs)
def cellsOf(id:Nat):List ax->Option (List (List ag))
 |[]=>some []|S::r=>match dG S.h id,cellsOf id r with
  |some (.dQ _ l),some m=>some (l::m)|_,_=>none
def rowsOf(id:Nat)(c:bZ):List ax->Option (List ag)
 |[]=>some []|S::r=>match dG S.h id,rowsOf id c r with
  |some (.rw _ d x),some m=>match decide (d=c)with
   |true=>some (x::m)|false=>none
  |_,_=>none
def YC(id:Nat)(q:xn)(x:ag):List ax->Option (List ag)
 |[]=>some []|S::r=>match dG S.h id,YC id q x r with
  |some (.it jA y p),some m=>match decide (jA=q)&&eF y x with
   |true=>some (p::m)|false=>none
  |_,_=>none
def YD(aX id:Nat):Nat->List (List ag)->Nat->List ag->List ag × hl
 |_,_,_,[]=>([],[])|j,rs,k,v::l=>match PW aX (.box id j []) (PU rs) k v with
  |(w,ps)=>match YD aX id (j+1) (PV rs) (k+ps.length) l with
   |(ws,qs)=>(w::ws,ps++qs)
def sM(aX:Nat)(e4:List ax):List (Nat × b1)->Nat->List (Nat × b1) × hl
 |[],_=>([],[])|(id,.dQ t l)::r,k=>match cellsOf id e4 with
  |some rs=>match YD aX id 0 rs k l with
   |(ws,ps)=>match sM aX e4 r (k+ps.length)with
    |(h,qs)=>((id,.dQ t ws)::h,ps++qs)
  |none=>sM aX e4 r k
 |(id,.rw t c x)::r,k=>match rowsOf id c e4 with
  |some xs=>match allEq x xs&&x.lt aX with
   |true=>match sM aX e4 r k with
    |(h,qs)=>((id,.rw t c x)::h,qs)
   |false=>match Ke (.li c) (x::xs)with
    |true=>match sM aX e4 r (k+1)with
     |(h,qs)=>((id,.rw t c (.bE (.li c) k))::h,(k,.li c,.row id)::qs)
    |false=>sM aX e4 r k
  |none=>sM aX e4 r k
 |(id,.it q x p)::r,k=>match YC id q x e4 with
  |some xs=>match allEq p xs&&p.lt aX with
   |true=>match sM aX e4 r k with
    |(h,qs)=>((id,.it q x p)::h,qs)
   |false=>match Ke q.rt (p::xs)with
    |true=>match sM aX e4 r (k+1)with
     |(h,qs)=>((id,.it q x (.bE q.rt k))::h,(k,q.rt,.row id)::qs)
    |false=>sM aX e4 r k
  |none=>sM aX e4 r k
def Kf(n:Nat):List ax->Nat
 |[]=>n|S::r=>Nat.max S.n (Kf n r)
def FJ(N aX:Nat)(s:ax)(e4:List ax):h3:=
 match PY aX s e4 N 0 aX with
 |(l,ps)=>match sM aX e4 s.h (aX+ps.length)with
  |(h,qs)=>⟨l,h,Kf s.n e4,ps++qs⟩
def zH(S0:ax)(t:aG)(J:h3)(e4:List ax)(f:ax->aG):aG:=
 match kk S0.k J.ps&&((vH (S0.k+J.ps.length) J.l&&fT (S0.k+J.ps.length) J.h)&&Kc J S0.k e4)with
 |true=>.eB (t.lvl+1) (t.rel (hk (t.lvl+1))) J.ps (f (J.S S0.k S0.g))|false=>.bad 8
def YE:cv->Bool
 | .fb (.cs (.bool true)) true=>true|_=>false
def YF:List cv->Bool
 |[]=>false|c::r=>YE c||YF r
def zI:List cv->List cv
 |[]=>[]|c::r=>match YE c with
  |true=>zI r|false=>c::zI r
def ax.Kg(S:ax):ax:={S with g:=.fb (.cs (.bool true)) true::S.g}
def ax.FK(S:ax):ax:={S with g:=zI S.g}
def PZ:List ax->Bool
 |[]=>true|S::r=>YF S.g&&PZ r
def YG(s:ax)(e4:List ax):Nat->Nat->Bool
 |0,_=>false
 |n+1,i=>(match s.at i with
  | .eE t a rs l=>!(allEq (.eE t a rs l) (slotsOf i e4))
  |_=>false)||YG s e4 n (i+1)
def P0(c:bZ):List bZ->Bool
 |[]=>false|d::r=>decide (d=c)||P0 c r
def YH(S:ax)(x:ag):Bool:=
 match x with
 | .aq id=>match dG S.h id with
  |some (.rw _ c _)=>P0 c Oq|_=>false
 |_=>false
def P1(S bV:ax):List ag->List ag->Bool
 |x::l,y::m=>xor (YH S x) (YH bV y)||P1 S bV l m
 |_,_=>false
def P2(S bV:ax):List (Nat × b1)->Bool
 |[]=>false
 |(id,.dQ _ l)::r=>(match dG bV.h id with
  |some (.dQ _ m)=>P1 S bV l m
  |_=>false)||P2 S bV r
 |_::r=>P2 S bV r
def YI(s:ax):List ax->Bool
 |[]=>false|S::r=>P2 s S s.h||YI s r
def YJ(N:Nat)(s:ax)(e4:List ax):Bool:=YG s e4 N 0||match Oq with
 |[]=>false|_=>YI s e4
def nw(N:Nat)(S0:ax)(t:aG)(f:ax->aG):aG:=
 match t.gV with
 |[]=>t|[_]=>t.fe f none|s::e4=>match PZ (s::e4)||YJ N s e4 with
  |true=>t.fe (λS=>f S.FK) none
  |false=>zH S0 t (FJ N S0.k s e4) (s::e4) f
def mU:List (ag × Bool)->ag->ag
 |[],v=>v|(g,b)::r,v=>.hg g b (mU r v)
def P3(d:Nat)(gs:List (ag × Bool)):List (Nat × ag)->List (Nat × ag)
 |[]=>[]|(i,x)::r=>match zZu i d with
  |true=>(i,mU gs x)::P3 d gs r|false=>(i,x)::P3 d gs r
def P4(d:Nat)(v:ag):List ax->List ax
 |[]=>[]|S::r=>match J7 (S.at d)with
  |true=>S.put (some d) v::P4 d v r|false=>S::P4 d v r
def YK(d:Nat):List ax->ag
 |[]=>.top|S::r=>match J7 (S.at d)with
  |true=>YK d r|false=>S.at d
def zjM(N aX d:Nat)(gs:List (ag × Bool))(e4:List ax):h3:=
 match P4 d (YK d e4) e4 with
 |s'::zjN=>match FJ N aX s' zjN with
  |J=>⟨P3 d gs J.l,J.h,J.n,J.ps⟩
 |[]=>⟨[],[],0,[]⟩
def ui(N:Nat)(S0:ax)(dst:Option Nat)(gs:List (ag × Bool))(t:aG)(f:ax->aG):aG:=
 match dst,gs,t.gV with
 |some d,_::_,s::s2::e4=>zH S0 t (zjM N S0.k d gs (s::s2::e4)) (s::s2::e4) f|_,_,_=>nw N S0 t f
section
variable {M:List bs} {G:aV} {N B:Nat}
def ax.cV(S:ax)(e:Env):Prop:=∀c∈S.g,c.ok e
theorem YL{J:h3}{aX:Nat}: ∀{e4:List ax},Kc J aX e4=true->∀S∈e4,lP J aX S=true
 |_::r,h,S,hm=>by
  simp only[Kc,zZr]at h
  rcases zZf.1 hm with rfl|q
  ·exact h.1
  ·exact YL h.2 S q
theorem xy{k:Nat}: ∀{l:List (Nat × ag)},vH k l=true->∀{i:Nat} {x:ag},(i,x)∈l->x.lt k=true
 |(j,y)::r,h,i,x,hm=>by
  simp only[vH,zZr]at h
  rcases zZf.1 hm with q|q
  ·cases q;exact h.1
  ·exact xy h.2 q
theorem YM{S0:ax}{t:aG}{J:h3}{e4:List ax}{f:ax->aG}{e:Env}(hn:t.gV=e4)(af:S0.cU)(hf:S0.cV e)(ao:(zH S0 t J e4 f).safe M e):
 t.safe M e/\(∀x aM aE,run M t e=some (x,aM,aE)->x≠ .cp->(∀n,x.b9 n=false)->run M (zH S0 t J e4 f) e=some (x,aM,aE))/\
 ∀aM aE,run M t e=some (.cp,aM,aE)->aM.cU->aM.cV aE->cy S0.k e aE->S0.k<=aM.k->
  ∃dC bc,b5 (aM.den G N B aE) (dC.den G N B bc)/\dC.cU/\dC.cV bc/\cy S0.k e bc/\S0.k<=dC.k/\(f dC).safe M bc/\run M (zH S0 t J e4 f) e=run M (f dC) bc:=by
 unfold zH at ao⊢
 split at ao
 ·rename_i hc
  simp only[zZr]at hc;obtain⟨aO,⟨bz,bd⟩,dV⟩:=hc;have rr:t.kJ (hk (t.lvl+1)):=OJ (zYi _);have uj:=Fl (M:=M) rr e;refine⟨(oR rr).1 ao.1,λx aM aE h hx aj=>?_,λaM aE h aa ae aw aN=>?_⟩
  ·rw[h]at uj
   have uj:run M _ e=some (hk (t.lvl+1) x,aM,aE):=uj
   have hm:hk (t.lvl+1) x=x:=by
    cases x with
    |cp=>exact absurd rfl hx|_=>rfl
   rw[hm]at uj;unfold run;rw[qm uj (aj _)]
  ·rw[h]at uj
   have uj:run M _ e=some (.n8 (t.lvl+1),aM,aE):=uj;have aj:cm.b9 (t.lvl+1) (.n8 (t.lvl+1))=true:=Nat.beq_refl _;have zjO:=XH ao uj aj;have hle:=Kd (G:=G) (N:=N) (B:=B) aO ae (YL dV aM (by have:=qu h;rw[hn]at this;exact this)) (g:=S0.g) aw
   have ck:cy S0.k e (gN e (λr p=>⟨r,(p.dR aM).get aE r⟩) J.ps):=λi hi=>FI aO i hi;refine⟨J.S S0.k S0.g,_,hle,⟨λi x hx=>xy bz (sK hx),bd,sz (zY8 _ _) af.g⟩,kL ck af.g hf,ck,zY8 _ _,zjO,?_⟩;show(aG.eB _ _ _ _).fold M e _ none=_;rw[tZ uj aj];rfl
 ·exact ao.elim
theorem P5: ∀{g:List cv} {c:cv},c∈zI g->c∈g
 |[],_,h=>h|d::r,c,h=>by
  unfold zI at h
  split at h
  ·exact zVj _ (P5 h)
  ·rcases zZf.1 h with rfl|h
   ·exact List.mem_cons_self ..
   ·exact zVj _ (P5 h)
theorem P6{k:Nat}: ∀{g:List cv},gD k g=true->gD k (zI g)=true
 |[],_=>rfl|d::r,h=>by
  simp only[gD,zZr]at h;unfold zI
  split
  ·exact P6 h.2
  ·simp only[gD,zZr];exact⟨h.1,P6 h.2⟩
theorem zjP{S:ax}(h:S.cU):S.FK.cU:=⟨h.l,h.h,P6 h.g⟩
theorem zjQ{S:ax}{e:Env}(h:S.cV e):S.FK.cV e:=λc hc=>h c (P5 hc)
theorem YN{S:ax}(h:S.cU):S.Kg.cU:=⟨h.l,h.h,by show(true&&gD S.k S.g)=true;rw[Bool.true_and];exact h.g⟩
theorem YO{S:ax}{e:Env}(h:S.cV e):S.Kg.cV e:=λc hc=>by
 rcases zZf.1 hc with rfl|hc
 ·rfl
 ·exact h c hc
theorem Kh{S0:ax}{t:aG}{f:ax->aG}{e:Env}(af:S0.cU)(hf:S0.cV e)(ao:(nw N S0 t f).safe M e):
 t.safe M e/\(∀x aM aE,run M t e=some (x,aM,aE)->x≠ .cp->(∀n,x.b9 n=false)->run M (nw N S0 t f) e=some (x,aM,aE))/\
 ∀aM aE,run M t e=some (.cp,aM,aE)->aM.cU->aM.cV aE->cy S0.k e aE->S0.k<=aM.k->
  ∃dC bc,b5 (aM.den G N B aE) (dC.den G N B bc)/\dC.cU/\dC.cV bc/\cy S0.k e bc/\S0.k<=dC.k/\(f dC).safe M bc/\run M (nw N S0 t f) e=run M (f dC) bc:=by
 have gr:=ao;unfold nw at ao
 split at ao
 ·rename_i hn
  have dt:nw N S0 t f=t:=by unfold nw;rw[hn]
  rw[dt];refine⟨ao,λx aM aE h _ _=>h,λaM aE h=>?_⟩;have:=qu h;rw[hn]at this
  cases this
 ·rename_i hn
  have dt:nw N S0 t f=t.fe f none:=by unfold nw;rw[hn]
  rw[dt];obtain⟨g1,g2,g3⟩:=kK t none ao;refine⟨g1,λx aM aE h hx _=>by rw[g2,h,Fo hx],λaM aE h aa ae aw aN=>?_⟩
  exact⟨aM,aE,b5.refl _,aa,ae,aw,aN,(g3 aM aE h).1,by rw[g2,h];rfl⟩
 ·rename_i s e4 b6 YP
  have dt:nw N S0 t f=match PZ (s::e4)||YJ N s e4 with
   |true=>t.fe (λS=>f S.FK) none
   |false=>zH S0 t (FJ N S0.k s e4) (s::e4) f:=by
   unfold nw;rw[YP]
   cases e4 with
   |nil=>exact absurd rfl b6|cons q r=>rfl
  rw[dt]
  split at ao
  ·obtain⟨g1,g2,g3⟩:=kK t none ao
   refine⟨g1,λx aM aE h hx _=>by rw[g2,h,Fo hx],λaM aE h aa ae aw aN=>?_⟩
   exact⟨aM.FK,aE,b5.refl _,zjP aa,zjQ ae,aw,aN,(g3 aM aE h).1,by rw[g2,h];rfl⟩
  ·exact YM YP af hf ao
theorem P7{S0:ax}{dst:Option Nat}{gs:List (ag × Bool)}{t:aG}{f:ax->aG}{e:Env}(af:S0.cU)(hf:S0.cV e)(ao:(ui N S0 dst gs t f).safe M e):
 t.safe M e/\(∀x aM aE,run M t e=some (x,aM,aE)->x≠ .cp->(∀n,x.b9 n=false)->run M (ui N S0 dst gs t f) e=some (x,aM,aE))/\
 ∀aM aE,run M t e=some (.cp,aM,aE)->aM.cU->aM.cV aE->cy S0.k e aE->S0.k<=aM.k->
  ∃dC bc,b5 (aM.den G N B aE) (dC.den G N B bc)/\dC.cU/\dC.cV bc/\cy S0.k e bc/\S0.k<=dC.k/\(f dC).safe M bc/\run M (ui N S0 dst gs t f) e=run M (f dC) bc:=by
 unfold ui at ao⊢
 split at ao
 ·rename_i hn
  exact YM hn af hf ao
 ·exact Kh af hf ao
end
end Go.aH
namespace Go.aH
open Go
def Ki(P:Program)(T:List (Nat × bZ))(t:TypeId):Option (TypeId × TypeId × a6 × a6):=
 match P.underlying t with
 |some (.map fK fr)=>match P.underlying fK,P.underlying fr with
  |some d,some e=>match zz d,e with
   |some k,.bool=>some (fK,fr,k,.bool)|some k,.int j=>some (fK,fr,k,.int j)|some k,.string=>some (fK,fr,k,.str)|some k,.struct _=>match sI T fr with
    |some c=>some (fK,fr,k,.st c)|none=>none
   |_,_=>none
  |_,_=>none
 |_=>none
def Kj:List a6->List ag->Bool
 |r::rs,x::xs=>(!x.isNil&&(match r with
  | .mp _ _=>false
  |_=>true))&&Kj rs xs
 |_,_=>true
def P8(v:a6)(y:ag):Bool:=
 match v with
 | .st c=>match y with
  | .cH l=>js (fR c) l&&Kj (fR c) l|_=>false
 | .bool=>y.fN .bool| .int k=>y.fN (.int k)| .str=>y.fN .str|_=>false
def P9(P:Program)(B:Nat)(T:List (Nat × bZ))(S:ax)(t:TypeId):Option dZ:=
 match Ki P T t,zZt B S.n with
 |some (_,_,k,v),true=>some ⟨[.Jz k v],[],none,(S.n,.it (.mp k v) .top (.bE (.mp k v) S.k))::S.h,S.n+1,.jb S.n⟩|_,_=>none
def Qa(P:Program)(T:List (Nat × bZ))(S:ax)(t:TypeId)(m x y:ag):Option dZ:=
 match m,Ki P T t with
 | .jb id,some (_,_,k,v)=>match dG S.h id with
  |some (.it (.mp bl bC) z p)=>match(jO bl k&&jO bC v)&&(x.fN k&&P8 v y)with
   |true=>some ⟨[.JA k v p x y],[],none,lL S.h id (.it (.mp k v) z (.bE (.mp k v) S.k)),S.n,.top⟩|false=>none
  |_=>none
 |_,_=>none
section
variable {P:Program} {G:aV} {N B:Nat} {M:List bs} {T:List (Nat × bZ)} {S:ax} {o:Oper}
theorem zjR{t fK fr:TypeId}{k v:a6}(h:Ki P T t=some (fK,fr,k,v)):P.underlying t=some (.map fK fr)/\∃d,P.underlying fK=some d/\((k= .str/\d= .string)\/∃j,k= .int j/\d= .int j):=by
 unfold Ki at h
 split at h
 ·rename_i zo0 zo1 hu
  split at h
  ·rename_i d e hd he
   have key:zz d=some k->(k= .str/\d= .string)\/∃j,k= .int j/\d= .int j:=λan=>by
    unfold zz at an
    split at an
    ·cases an;exact .inl ⟨rfl,rfl⟩
    ·cases an;exact .inr ⟨_,rfl,rfl⟩
    ·cases an
   split at h
   ·rename_i an;cases h;exact⟨hu,d,hd,key an⟩
   ·rename_i an;cases h;exact⟨hu,d,hd,key an⟩
   ·rename_i an;cases h;exact⟨hu,d,hd,key an⟩
   ·rename_i an
    split at h
    ·cases h;exact⟨hu,d,hd,key an⟩
    ·cases h
   ·cases h
  ·cases h
 ·cases h
theorem YQ{e:Env}: ∀{rs:List a6} {l:List ag},js rs l=true->Kj rs l=true->ag.cc G e l=((hG e rs l).map λd=>mP d.r d.v).map aC.ad
 |[],[],_,_=>rfl|[],_::_,h,_=>by cases h
 |_::_,[],h,_=>by cases h
 |r::rs,x::xs,h,hn=>by
  simp only[js,zZr]at h;simp only[Kj,zZr,Bool.not_eq_true']at hn;have:=Jv (G:=G) (e:=e) h.1 hn.1.1;simp only[ag.cc,hG,zXq,YQ h.2 hn.2,this,List.cons.injEq,and_true]
  cases r<;>first|rfl|cases hn.1.2
theorem zjS{v:a6}{y:ag}{e:Env}(h:P8 v y=true):tr v.agg (kI v (y.get e v)) (y.den G e):=by
 unfold P8 at h
 split at h
 ·rename_i c
  split at h
  ·rename_i l
   simp only[zZr]at h;simp only[a6.agg,tr,kI,ag.get,ag.cells,ag.den];rw[YQ h.1 h.2,Jp c _ (E9 G e h.1).1]
  ·cases h
 ·exact⟨_,rfl,BN h rfl⟩
 ·exact⟨_,rfl,BN h rfl⟩
 ·exact⟨_,rfl,BN h rfl⟩
 ·cases h
theorem zjT{t:TypeId}{r:dZ}(av:o.op= .makeMap t none)(h:P9 P B T S t=some r):pE P G N B M o S r:=λe hf hx hn=>by
 unfold P9 at h
 split at h
 ·rename_i k v an gO
  cases h
  have:=TU (P:=P) (G:=G) (s:=S.den G N B e) v.agg t av (zZq gO);have aP:=XZ (hx 0 _ rfl);unfold dZ.st;rw[gu];have hd:((ag.bE (.mp k v) S.k).aL e (.mp k v))=([]:List (k.den × v.den)):=aP
  have he:(b1.it (.mp k v) .top (.bE (.mp k v) S.k)).den G e= .bW (lz v.agg []):=by
   show ey.bW (xn.den (.mp k v) _ ((ag.bE (.mp k v) S.k).aL e (.mp k v)))=_;rw[hd];rfl
  simp only[ax.den,di,he];exact this
 ·cases h
theorem zjU{t:TypeId}{m x y:Operand}{r:dZ}(av:o.op= .mapUpdate t m x y)(h:Qa P T S t (S.bj N m) (S.bj N x) (S.bj N y)=some r):pE P G N B M o S r:=λe hf hx hn=>by
 unfold Qa at h
 split at h
 ·rename_i id fK fr k v hm an
  split at h
  ·rename_i bl bC z p ai
   split at h
   ·rename_i hc
    cases h;simp only[zZr]at hc;obtain⟨⟨aO,bz⟩,bd,dV⟩:=hc
    cases jr aO
    cases jr bz
    obtain⟨hu,d,hd,jP⟩:=zjR an;have aP:(ag.bE (.mp k v) S.k).aL e (.mp k v)=JB k (p.aL e (.mp k v)) ((S.bj N x).aL e k) ((S.bj N y).get e v):=XZ (hx 0 _ rfl);have JQ:aR G (S.den G N B e) m= .ref id:=by rw[b3 hf,hm];rfl
    have bq:aF (S.den G N B e).heap id=some (.bW (lz v.agg (h0 (n6 k) (kI v) (p.aL e (.mp k v))))):=by
     simp only[ax.den,fx,ai,zXh];rfl
    have az:=zjS (G:=G) (e:=e) dV;rw[<-b3 (N:=N) (B:=B) hf]at az
    have he:(b1.it (.mp k v) z (.bE (.mp k v) S.k)).den G e= .bW (lz v.agg (h0 (n6 k) (kI v) (JB k (p.aL e (.mp k v)) ((S.bj N x).aL e k) ((S.bj N y).get e v)))):=by
     show ey.bW (xn.den (.mp k v) _ ((ag.bE (.mp k v) S.k).aL e (.mp k v)))=_;rw[aP];rfl
    unfold dZ.st;rw[gu]
    have a8:({S with l:=S.l,h:=lL S.h id (.it (.mp k v) z (.bE (.mp k v) S.k)),n:=S.n}:ax).den G N B e={S.den G N B e with heap:=eX (S.den G N B e).heap id (.bW (lz v.agg (h0 (n6 k) (kI v) (JB k (p.aL e (.mp k v)) ((S.bj N x).aL e k) ((S.bj N y).get e v)))))}:=by
     simp only[ax.den,xr,he]
    show eL P G o _ (({S with l:=S.l,h:=lL S.h id (.it (.mp k v) z (.bE (.mp k v) S.k)),n:=S.n}:ax).den G N B e |>.put o.dst .top)
    rw[a8]
    rcases jP with⟨rfl,rfl⟩|⟨j,rfl,rfl⟩
    ·have lN:aR G (S.den G N B e) x= .ad (.v (n6 .str ((S.bj N x).aL e .str))):=by rw[b3 hf];exact OG bd
     exact Xp (K:=ByteArray) Oz (kI v) v.agg _ _ _ id av hu hd JQ bq lN az
    ·have lN:aR G (S.den G N B e) x= .ad (.v (n6 (.int j) ((S.bj N x).aL e (.int j)))):=by rw[b3 hf];exact Jw bd
     exact Xp (K:=Int) (OA j) (kI v) v.agg _ _ _ id av hu hd JQ bq lN az
   ·cases h
  ·cases h
 ·cases h
end
end Go.aH
