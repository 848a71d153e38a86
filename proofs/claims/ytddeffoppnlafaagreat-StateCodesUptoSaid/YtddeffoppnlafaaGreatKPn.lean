/- Contracts: data. Conditions: none. -/
import Derived.Test.YtddeffoppnlafaaGreatKPm
import Derived.Test.YtddeffoppnlafaaGreatKTEs
import Derived.Test.YtddeffoppnlafaaGreatProg
open Go Go.aK Go.fb
namespace Go.aK
def Ke:List (Nat × bX):=[(2,.i64),(3,.i64),(4,.bool),(5,.u8),(6,.u8),(9,.str),(10,.str),(11,.str),(29,.bG),(32,.i64),(44,.bS),(47,.bC),(49,.ch),(53,.Home),(57,.oy),(60,.Config),(64,.mv),(66,.dz),(68,.bk),(95,.oz),(97,.cm),(111,.Attr),(115,.kz),(117,.kA),(130,.Rd),(143,.bm),(167,.pf),(178,.iU),(180,.mw),(200,.pg),(209,.cG),(223,.Change),(246,.ph),(258,.oA),(260,.my),(264,.mz),(292,.Command),(295,.mA),(360,.u8),(361,.u8)]
noncomputable def Kf:bo:=⟨[.li .bk],[.bool],none,fun x=>oo x⟩
noncomputable def Kg:bo:=⟨[.st .bG],[.bool],some fun x=>sQ x,fun x=>wm x⟩
noncomputable def D4:bo:=⟨[],[.bool],some fun x=>J7,fun x=>J6⟩
noncomputable def Kh:bo:=⟨[.st .Rd],[.st .Rd,.int .i64],none,fun x=>fp x⟩
noncomputable def Ki:bo:=⟨[.str],[.int .u64,.int .i64,.int .i64],some fun x=>J8 x,fun x=>Bo x⟩
noncomputable def Kj:bo:=⟨[.st .Rd],[.st .Rd,.int .i64],some fun x=>iR x,fun x=>eg x⟩
noncomputable def Kk:bo:=⟨[.st .Rd,.int .i64],[.st .Rd,.int .i64],some fun x=>m2 (x.1) (x.2),fun x=>gi (x.1) (x.2)⟩
noncomputable def Kl:bo:=⟨[.st .Rd,.int .i64],[.st .Rd,.str],some fun x=>Bp (x.1) (x.2),fun x=>pc (x.1) (x.2)⟩
noncomputable def Km:bo:=⟨[.st .Rd],[.st .Rd,.str],some fun x=>rG x,fun x=>jL x⟩
noncomputable def Kn:bo:=⟨[.st .Rd,.int .i64],[.st .Rd],none,fun x=>Fg (x.1) (x.2)⟩
noncomputable def Ko:bo:=⟨[.int .i64],[.bool],none,fun x=>J9 x⟩
noncomputable def Kp:bo:=⟨[.st .dz],[.int .i64],none,fun x=>wv x⟩
noncomputable def Kq:bo:=⟨[.st .Rd],[.st .Rd,.st .dz],some fun x=>Fh x,fun x=>Bq x⟩
noncomputable def Kr:bo:=⟨[.st .Rd],[.st .Rd,.st .bk],some fun x=>yq x,fun x=>sS x⟩
noncomputable def Ks:bo:=⟨[.st .Rd],[.st .Rd,.st .bS],some fun x=>Br x,fun x=>yr x⟩
noncomputable def Kt:bo:=⟨[.st .Rd],[.st .Rd,.st .cG],some fun x=>Fi x,fun x=>Bs x⟩
noncomputable def Ku:bo:=⟨[.st .Rd],[.st .Rd,.bool],some fun x=>Fj x,fun x=>yt x⟩
noncomputable def Kv:bo:=⟨[.st .Rd],[.st .Rd,.st .bC],some fun x=>Fk x,fun x=>Bt x⟩
noncomputable def Kw:bo:=⟨[.st .Rd],[.st .Rd,.st .cm],some fun x=>Fl x,fun x=>Bu x⟩
noncomputable def Kx:bo:=⟨[.st .Rd],[.st .Rd,.st .ch],some fun x=>Fm x,fun x=>Bv x⟩
noncomputable def Ky:bo:=⟨[.st .Rd],[.st .Rd,.int .i64],none,fun x=>wx x⟩
noncomputable def Kz:bo:=⟨[.st .Rd,.int .i64],[.st .Rd,.li .i64],some fun x=>Bw (x.1) (x.2),fun x=>rH (x.1) (x.2)⟩
noncomputable def KA:bo:=⟨[.st .Rd],[.st .Rd,.int .i64],none,fun x=>Bx x⟩
noncomputable def KB:bo:=⟨[.str],[.st .bG,.int .i64],some fun x=>Fo x,fun x=>sT x⟩
noncomputable def KC:bo:=⟨[.st .bm],[.st .bm,.int .i64],none,fun x=>gk x⟩
noncomputable def KD:bo:=⟨[.st .bm],[.st .bm,.int .i64],some fun x=>hO x,fun x=>eb x⟩
noncomputable def KE:bo:=⟨[.st .bm,.int .i64],[.st .bm,.int .i64],some fun x=>qm (x.1) (x.2),fun x=>gT (x.1) (x.2)⟩
noncomputable def KF:bo:=⟨[.st .bm,.int .i64],[.st .bm,.str],some fun x=>lT (x.1) (x.2),fun x=>gq (x.1) (x.2)⟩
noncomputable def KG:bo:=⟨[.st .bm,.int .i64],[.st .bm],none,fun x=>Fq (x.1) (x.2)⟩
noncomputable def KH:bo:=⟨[.st .dz],[.int .i64],none,fun x=>wy x⟩
noncomputable def KI:bo:=⟨[.st .bm],[.st .bm,.st .dz],some fun x=>By x,fun x=>wz x⟩
noncomputable def KJ:bo:=⟨[.st .bm],[.st .bm,.li .bk],some fun x=>wA x,fun x=>qn x⟩
noncomputable def KK:bo:=⟨[.st .bm],[.st .bm,.st .bS],some fun x=>Bz x,fun x=>uI x⟩
noncomputable def KL:bo:=⟨[.st .bm],[.st .bm,.li .str],some fun x=>yw x,fun x=>qo x⟩
noncomputable def KM:bo:=⟨[.st .bm],[.st .bm,.bool],some fun x=>BA x,fun x=>wB x⟩
noncomputable def KN:bo:=⟨[.st .bm],[.st .bm,.st .bC],some fun x=>BB x,fun x=>uJ x⟩
noncomputable def KO:bo:=⟨[.st .bm,.int .i64],[.st .bm,.li .i64],some fun x=>BC (x.1) (x.2),fun x=>wC (x.1) (x.2)⟩
noncomputable def KP:bo:=⟨[.st .bm],[.st .bm,.int .i64],none,fun x=>uK x⟩
noncomputable def KQ:bo:=⟨[.str],[.st .bG,.int .i64],some fun x=>Fs x,fun x=>yx x⟩
noncomputable def KR:bo:=⟨[.int .i64],[.str],some fun x=>fP x,fun x=>dh x⟩
noncomputable def KS:bo:=⟨[.str],[.str],some fun x=>nH x,fun x=>jv x⟩
noncomputable def KT:bo:=⟨[.st .dz],[.str],some fun x=>Fu x,fun x=>wE x⟩
noncomputable def KU:bo:=⟨[.st .bk],[.str],some fun x=>yB x,fun x=>sW x⟩
noncomputable def KV:bo:=⟨[.st .bS],[.str],some fun x=>Fv x,fun x=>BD x⟩
noncomputable def KW:bo:=⟨[.st .cG],[.str],some fun x=>Fw x,fun x=>BE x⟩
noncomputable def KX:bo:=⟨[.bool],[.str],none,fun x=>BF x⟩
noncomputable def KY:bo:=⟨[.st .bC],[.str],some fun x=>Fx x,fun x=>BG x⟩
noncomputable def KZ:bo:=⟨[.st .cm],[.str],some fun x=>Fy x,fun x=>BH x⟩
noncomputable def K0:bo:=⟨[.st .ch],[.str],some fun x=>Fz x,fun x=>BI x⟩
noncomputable def K1:bo:=⟨[.li .i64],[.str],some fun x=>FB x,fun x=>FA x⟩
noncomputable def K2:bo:=⟨[.st .bG,.int .i64],[.str],some fun x=>FC (x.1) (x.2),fun x=>BJ (x.1) (x.2)⟩
noncomputable def K3:bo:=⟨[.st .bG],[.str],some fun x=>FD x,fun x=>yC x⟩
noncomputable def K4:bo:=⟨[.int .i64],[.str],some fun x=>fZ x,fun x=>dx x⟩
noncomputable def K5:bo:=⟨[.str],[.str],some fun x=>ox x,fun x=>jw x⟩
noncomputable def K6:bo:=⟨[.st .dz],[.str],some fun x=>FE x,fun x=>wG x⟩
noncomputable def K7:bo:=⟨[.li .bk],[.str],some fun x=>yD x,fun x=>sX x⟩
noncomputable def K8:bo:=⟨[.st .bS],[.str],some fun x=>FF x,fun x=>BK x⟩
noncomputable def K9:bo:=⟨[.li .str],[.str],some fun x=>BL x,fun x=>yE x⟩
noncomputable def La:bo:=⟨[.bool],[.str],none,fun x=>BM x⟩
noncomputable def Lb:bo:=⟨[.st .bC],[.str],some fun x=>FG x,fun x=>BN x⟩
noncomputable def Lc:bo:=⟨[.li .i64],[.str],some fun x=>FI x,fun x=>FH x⟩
noncomputable def Ld:bo:=⟨[.st .bG,.int .i64],[.str],some fun x=>FK (x.1) (x.2),fun x=>FJ (x.1) (x.2)⟩
noncomputable def Le:bo:=⟨[.st .bG],[.str],some fun x=>FL x,fun x=>yF x⟩
noncomputable def Lf:bo:=⟨[.li .str,.li .str],[.bool],some fun x=>FM (x.1) (x.2),fun x=>m32 (x.1) (x.2)⟩
noncomputable def Lg:bo:=⟨[.li .cG,.li .cG],[.bool],some fun x=>Kb (x.1) (x.2),fun x=>BO (x.1) (x.2)⟩
noncomputable def Lh:bo:=⟨[.st .bC,.st .bC],[.bool],some fun x=>FN (x.1) (x.2),fun x=>BP (x.1) (x.2)⟩
noncomputable def Li:bo:=⟨[.li .bC,.li .bC],[.bool],some fun x=>Kc (x.1) (x.2),fun x=>BQ (x.1) (x.2)⟩
noncomputable def Lj:bo:=⟨[.li .i64,.li .i64],[.bool],some fun x=>Kd (x.1) (x.2),fun x=>BR (x.1) (x.2)⟩
noncomputable def Lk:bo:=⟨[.li .bk,.li .bk],[.bool],some fun x=>BS (x.1) (x.2),fun x=>uL (x.1) (x.2)⟩
noncomputable def Ll:bo:=⟨[.st .bS,.st .bS],[.bool],some fun x=>FO (x.1) (x.2),fun x=>BT (x.1) (x.2)⟩
noncomputable def Lm:bo:=⟨[.st .bG,.st .bG],[.bool],some fun x=>FP (x.1) (x.2),fun x=>BU (x.1) (x.2)⟩
noncomputable def rF:bo:=⟨[.st .bG,.str],[.bool],some fun x=>yp (x.1) (x.2),fun x=>Ff (x.1) (x.2)⟩
noncomputable def wH:List bo:=[Kf,Kg,D4,Kh,Ki,Kj,Kk,Kl,Km,Kn,Ko,Kp,Kq,Kr,Ks,Kt,Ku,Kv,Kw,Kx,Ky,Kz,KA,KB,KC,KD,KE,KF,KG,KH,KI,KJ,KK,KL,KM,KN,KO,KP,KQ,KR,KS,KT,KU,KV,KW,KX,KY,KZ,K0,K1,K2,K3,K4,K5,K6,K7,K8,K9,La,Lb,Lc,Ld,Le,Lf,Lg,Lh,Li,Lj,Lk,Ll,Lm,rF]
def AC:List jM:=[⟨16,0,[.li .bk],[.bool],true⟩,⟨5,1,[.st .bG],[.bool],false⟩,⟨6,2,[],[.bool],false⟩,⟨97,4,[.str],[.int .u64,.int .i64,.int .i64],false⟩,⟨218,10,[.int .i64],[.bool],true⟩,⟨183,11,[.st .dz],[.int .i64],true⟩,⟨7,23,[.str],[.st .bG,.int .i64],false⟩,⟨182,29,[.st .dz],[.int .i64],true⟩,⟨8,38,[.str],[.st .bG,.int .i64],false⟩,⟨46,39,[.int .i64],[.str],false⟩,⟨80,40,[.str],[.str],false⟩,⟨141,41,[.st .dz],[.str],false⟩,⟨102,42,[.st .bk],[.str],false⟩,⟨45,43,[.st .bS],[.str],false⟩,⟨136,44,[.st .cG],[.str],false⟩,⟨137,45,[.bool],[.str],true⟩,⟨84,46,[.st .bC],[.str],false⟩,⟨86,47,[.st .cm],[.str],false⟩,⟨88,48,[.st .ch],[.str],false⟩,⟨89,49,[.li .i64],[.str],false⟩,⟨28,50,[.st .bG,.int .i64],[.str],false⟩,⟨9,51,[.st .bG],[.str],false⟩,⟨48,52,[.int .i64],[.str],false⟩,⟨90,53,[.str],[.str],false⟩,⟨139,54,[.st .dz],[.str],false⟩,⟨94,55,[.li .bk],[.str],false⟩,⟨91,56,[.st .bS],[.str],false⟩,⟨92,57,[.li .str],[.str],false⟩,⟨138,58,[.bool],[.str],true⟩,⟨93,59,[.st .bC],[.str],false⟩,⟨95,60,[.li .i64],[.str],false⟩,⟨30,61,[.st .bG,.int .i64],[.str],false⟩,⟨10,62,[.st .bG],[.str],false⟩,⟨32,63,[.li .str,.li .str],[.bool],false⟩,⟨140,64,[.li .cG,.li .cG],[.bool],false⟩,⟨96,65,[.st .bC,.st .bC],[.bool],false⟩,⟨31,66,[.li .bC,.li .bC],[.bool],false⟩,⟨33,67,[.li .i64,.li .i64],[.bool],false⟩,⟨35,68,[.li .bk,.li .bk],[.bool],false⟩,⟨34,69,[.st .bS,.st .bS],[.bool],false⟩,⟨11,70,[.st .bG,.st .bG],[.bool],false⟩,⟨3,71,[.st .bG,.str],[.bool],false⟩]
def Ln:List lq:=[⟨37,3,130,.Rd,[],[.int .i64],true⟩,⟨36,5,130,.Rd,[],[.int .i64],false⟩,⟨99,6,130,.Rd,[.int .i64],[.int .i64],false⟩,⟨69,7,130,.Rd,[.int .i64],[.str],false⟩,⟨61,8,130,.Rd,[],[.str],false⟩,⟨100,9,130,.Rd,[.int .i64],[],true⟩,⟨181,12,130,.Rd,[],[.st .dz],false⟩,⟨127,13,130,.Rd,[],[.st .bk],false⟩,⟨63,14,130,.Rd,[],[.st .bS],false⟩,⟨129,15,130,.Rd,[],[.st .cG],false⟩,⟨130,16,130,.Rd,[],[.bool],false⟩,⟨66,17,130,.Rd,[],[.st .bC],false⟩,⟨68,18,130,.Rd,[],[.st .cm],false⟩,⟨71,19,130,.Rd,[],[.st .ch],false⟩,⟨73,20,130,.Rd,[],[.int .i64],true⟩,⟨72,21,130,.Rd,[.int .i64],[.li .i64],false⟩,⟨23,22,130,.Rd,[],[.int .i64],true⟩,⟨41,24,143,.bm,[],[.int .i64],true⟩,⟨40,25,143,.bm,[],[.int .i64],false⟩,⟨43,26,143,.bm,[.int .i64],[.int .i64],false⟩,⟨74,27,143,.bm,[.int .i64],[.str],false⟩,⟨42,28,143,.bm,[.int .i64],[],true⟩,⟨133,30,143,.bm,[],[.st .dz],false⟩,⟨77,31,143,.bm,[],[.li .bk],false⟩,⟨44,32,143,.bm,[],[.st .bS],false⟩,⟨75,33,143,.bm,[],[.li .str],false⟩,⟨132,34,143,.bm,[],[.bool],false⟩,⟨76,35,143,.bm,[],[.st .bC],false⟩,⟨78,36,143,.bm,[.int .i64],[.li .i64],false⟩,⟨26,37,143,.bm,[],[.int .i64],true⟩]
@[reducible] noncomputable def cZ:Program:=Go.Proofs.Tryz.prog
@[reducible] noncomputable def Si(k j:Nat):Nat→List af→ay→aH:=Lo cZ (rI.all cZ Ke) Ke (29,83,5) zbt (Ln.take j) (AC.take k) 16
structure c0 (G:aR) (k j:Nat):Prop where
 z:x7 cZ G 29 83 5
 c:uM cZ G wH (AC.take k)
 b:Lp cZ G wH (Ln.take j)
theorem Sj{α:Type}{l:List α}{k:Nat}{c:α}(h:l[k]? =some c){d:α}(hd:d∈l.take (k+1)):d∈l.take k∨d=c:=by
 rw[List.take_add_one,h,Option.toList_some,List.mem_append,List.mem_singleton]at hd
 exact hd
section
variable {G:aR}
theorem c0.i{k j:Nat}(h:c0 G k j):gV cZ G wH (Si k j):=Sk (Z:=(29,83,5)) zbu (fun q=>q) h.z h.b h.c 16
theorem c0.hk{k j:Nat}(h:c0 G k j):gV cZ G wH (Sl (Si k j)):=Sm h.i
theorem c0.cs{k j:Nat}(h:c0 G k j)(c:jM)(m:bo)(an:AC[k]? =some c)(hm:fD bo.d wH c.j=m)(ar:m.ps=c.ps)(ah:m.rs=c.rs)(au:eF cZ G c.f m)(hc:c.bZ=true→m.pre=none):c0 G (k+1) j:=
 ⟨h.z,fun d hd=>(Sj an hd).elim (h.c d) (fun e=>e ▸ (by subst hm;exact⟨ar,ah,au,hc⟩)),h.b⟩
theorem c0.cE{k j:Nat}(h:c0 G k j)(c:lq)(m:bo)(an:Ln[j]? =some c)(hm:fD bo.d wH c.j=m)(ar:m.ps= .st c.c::c.ps)(ah:m.rs= .st c.c::c.rs)(au:gC cZ G c.f c.t m)(hc:c.bZ=true→m.pre=none):c0 G k (j+1):=
 ⟨h.z,h.c,fun d hd=>(Sj an hd).elim (h.b d) (fun e=>e ▸ (by subst hm;exact⟨ar,ah,au,hc⟩))⟩
end
end Go.aK
