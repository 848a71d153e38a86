/- Contracts: data. Conditions: none. -/
import Derived.Test.YtmkpmgfieagphaaGreatDoorPPm
import Derived.Test.YtmkpmgfieagphaaGreatDoorProg
open Go Go.Av Go.Hh
namespace Go.Av
def Ty_ : List (Nat × TC) := [(2, .i64), (3, .i64), (4, .bool), (5, .u8), (6, .u8), (9, .str), (10, .str), (11, .str), (23, .KeyV), (25, .Val), (27, .EventV), (29, .Req), (31, .AskedV), (33, .ActV), (34, .i64), (51, .Home), (62, .Zone), (65, .Config), (70, .Case), (78, .Window), (83, .Cause), (130, .Session), (132, .Guest), (142, .Member), (155, .WriteV), (159, .Cluster), (164, .ItemV), (168, .Attr), (189, .Dev), (198, .Command), (206, .Rd), (212, .Rd2), (236, .Effect), (261, .SpanV), (340, .u8), (341, .u8), (349, .ExprV), (351, .LockV), (353, .Change)]
noncomputable def md93 : Md := ⟨[.int .i64], [.str], some fun x => p93 x, fun x => m93 x⟩
noncomputable def md94 : Md := ⟨[.str], [.str], some fun x => p94 x, fun x => m94 x⟩
noncomputable def md193 : Md := ⟨[.int .i64], [.bool], none, fun x => m193 x⟩
noncomputable def md119 : Md := ⟨[.st .Val], [.int .i64], none, fun x => m119 x⟩
noncomputable def md95 : Md := ⟨[.st .Val], [.str], some fun x => p95 x, fun x => m95 x⟩
noncomputable def md28 : Md := ⟨[.st .Req], [.str], some fun x => p28 x, fun x => m28 x⟩
noncomputable def md38 : Md := ⟨[.st .ActV], [.st .ActV], none, fun x => m38 x⟩
noncomputable def md39 : Md := ⟨[.st .ActV], [.int .i64], none, fun x => m39 x⟩
noncomputable def md151 : Md := ⟨[.st .Rd], [.st .Rd, .int .i64], none, fun x => m151 x⟩
noncomputable def md152 : Md := ⟨[.str], [.int .u64, .int .i64, .int .i64], some fun x => p152 x, fun x => m152 x⟩
noncomputable def md82 : Md := ⟨[.st .Rd], [.st .Rd, .int .i64], some fun x => p82 x, fun x => m82 x⟩
noncomputable def md153 : Md := ⟨[.st .Rd, .int .i64], [.st .Rd, .int .i64], some fun x => p153 (x.1) (x.2), fun x => m153 (x.1) (x.2)⟩
noncomputable def md83 : Md := ⟨[.st .Rd, .int .i64], [.st .Rd, .str], some fun x => p83 (x.1) (x.2), fun x => m83 (x.1) (x.2)⟩
noncomputable def md154 : Md := ⟨[.st .Rd, .int .i64], [.st .Rd], none, fun x => m154 (x.1) (x.2)⟩
noncomputable def md84 : Md := ⟨[.st .Rd], [.st .Rd, .st .Val], some fun x => p84 x, fun x => m84 x⟩
noncomputable def md155 : Md := ⟨[.st .Rd], [.st .Rd, .int .i64], none, fun x => m155 x⟩
noncomputable def md85 : Md := ⟨[.st .Rd], [.st .Rd, .int .i64], none, fun x => m85 x⟩
noncomputable def md67 : Md := ⟨[.st .Req], [.int .i64], none, fun x => m67 x⟩
noncomputable def md69 : Md := ⟨[.st .Req], [.int .i64], none, fun x => m69 x⟩
noncomputable def md26 : Md := ⟨[.str], [.st .Req, .int .i64], some fun x => p26 x, fun x => m26 x⟩
noncomputable def md192 : Md := ⟨[.int .i32], [.bool], none, fun x => m192 x⟩
noncomputable def md118 : Md := ⟨[.str], [.bool], some fun x => p118 x, fun x => m118 x⟩
noncomputable def md120 : Md := ⟨[.str], [.bool], some fun x => p120 x, fun x => m120 x⟩
noncomputable def md40 : Md := ⟨[.st .ActV], [.int .i64], some fun x => p40 x, fun x => m40 x⟩
noncomputable def md123 : Md := ⟨[.int .i64], [.str], some fun x => p123 x, fun x => m123 x⟩
noncomputable def md46 : Md := ⟨[.int .i64], [.str], some fun x => p46 x, fun x => m46 x⟩
noncomputable def md44 : Md := ⟨[.int .i64, .str, .str], [.str], some fun x => p44 (x.1) (x.2.1) (x.2.2), fun x => m44 (x.1) (x.2.1) (x.2.2)⟩
noncomputable def md42 : Md := ⟨[.st .KeyV], [.str], some fun x => p42 x, fun x => m42 x⟩
noncomputable def md194 : Md := ⟨[.int .u8], [.str], some fun x => p194 x, fun x => m194 x⟩
noncomputable def md121 : Md := ⟨[.str], [.str], some fun x => p121 x, fun x => m121 x⟩
noncomputable def md43 : Md := ⟨[.st .Val], [.str], some fun x => p43 x, fun x => m43 x⟩
noncomputable def md45 : Md := ⟨[.str], [.str], some fun x => p45 x, fun x => m45 x⟩
noncomputable def md13 : Md := ⟨[.st .ActV], [.str, .int .i64], some fun x => p13 x, fun x => m13 x⟩
noncomputable def md156 : Md := ⟨[.st .Rd2], [.st .Rd2, .int .i64], none, fun x => m156 x⟩
noncomputable def md89 : Md := ⟨[.st .Rd2], [.st .Rd2, .int .i64], some fun x => p89 x, fun x => m89 x⟩
noncomputable def md157 : Md := ⟨[.st .Rd2, .int .i64], [.st .Rd2, .int .i64], some fun x => p157 (x.1) (x.2), fun x => m157 (x.1) (x.2)⟩
noncomputable def md90 : Md := ⟨[.st .Rd2, .int .i64], [.st .Rd2, .str], some fun x => p90 (x.1) (x.2), fun x => m90 (x.1) (x.2)⟩
noncomputable def md50 : Md := ⟨[.st .Val], [.int .i64], none, fun x => m50 x⟩
noncomputable def md158 : Md := ⟨[.st .Rd2, .int .i64], [.st .Rd2], none, fun x => m158 (x.1) (x.2)⟩
noncomputable def md91 : Md := ⟨[.st .Rd2], [.st .Rd2, .st .Val], some fun x => p91 x, fun x => m91 x⟩
noncomputable def md92 : Md := ⟨[.st .Rd2], [.st .Rd2, .int .i64], none, fun x => m92 x⟩
noncomputable def md27 : Md := ⟨[.str], [.st .Req, .int .i64], some fun x => p27 x, fun x => m27 x⟩
noncomputable def md96 : Md := ⟨[.int .i64], [.str], some fun x => p96 x, fun x => m96 x⟩
noncomputable def md97 : Md := ⟨[.str], [.str], some fun x => p97 x, fun x => m97 x⟩
noncomputable def md98 : Md := ⟨[.st .Val], [.str], some fun x => p98 x, fun x => m98 x⟩
noncomputable def md29 : Md := ⟨[.st .Req], [.str], some fun x => p29 x, fun x => m29 x⟩
noncomputable def md47 : Md := ⟨[.st .ActV], [.st .ActV], none, fun x => m47 x⟩
noncomputable def md48 : Md := ⟨[], [.li .str], none, fun x => m48⟩
noncomputable def md52 : Md := ⟨[.int .i64], [.str], some fun x => p52 x, fun x => m52 x⟩
noncomputable def md78 : Md := ⟨[.str], [.bool], some fun x => p78 x, fun x => m78 x⟩
noncomputable def md49 : Md := ⟨[.int .i64, .str, .str], [.str, .int .i64], some fun x => p49 (x.1) (x.2.1) (x.2.2), fun x => m49 (x.1) (x.2.1) (x.2.2)⟩
noncomputable def md196 : Md := ⟨[.int .u8], [.int .u8], some fun x => p196 x, fun x => m196 x⟩
noncomputable def md124 : Md := ⟨[.str], [.str], some fun x => p124 x, fun x => m124 x⟩
noncomputable def md51 : Md := ⟨[.st .Val], [.str], some fun x => p51 x, fun x => m51 x⟩
noncomputable def md53 : Md := ⟨[.str], [.bool], some fun x => p53 x, fun x => m53 x⟩
noncomputable def md54 : Md := ⟨[.str], [.str], some fun x => p54 x, fun x => m54 x⟩
noncomputable def md14 : Md := ⟨[.st .ActV], [.str, .int .i64], some fun x => p14 x, fun x => m14 x⟩
noncomputable def md204 : Md := ⟨[.str, .int .u8], [.int .i64], none, fun x => m204 (x.1) (x.2)⟩
noncomputable def md200 : Md := ⟨[.int .i64], [.int .i64], none, fun x => m200 x⟩
noncomputable def md129 : Md := ⟨[.str], [.int .i64, .bool], some fun x => p129 x, fun x => m129 x⟩
noncomputable def md135 : Md := ⟨[.str, .int .u8], [.int .i64], none, fun x => m135 (x.1) (x.2)⟩
noncomputable def md309 : Md := ⟨[.int .u8], [.int .i64], none, fun x => m309 x⟩
noncomputable def md290 : Md := ⟨[.str], [.int .u8, .int .i64], some fun x => p290 x, fun x => m290 x⟩
noncomputable def md254 : Md := ⟨[.str], [.str, .int .i64], some fun x => p254 x, fun x => m254 x⟩
noncomputable def md198 : Md := ⟨[.str], [.str, .int .i64], some fun x => p198 x, fun x => m198 x⟩
noncomputable def md126 : Md := ⟨[.str], [.st .Val, .int .i64], some fun x => p126 x, fun x => m126 x⟩
noncomputable def md127 : Md := ⟨[.str], [.int .i64, .str, .str, .bool], some fun x => p127 x, fun x => m127 x⟩
noncomputable def md199 : Md := ⟨[.int .u8], [.int .i64], some fun x => p199 x, fun x => m199 x⟩
noncomputable def md128 : Md := ⟨[.str], [.str, .int .i64], some fun x => p128 x, fun x => m128 x⟩
noncomputable def md56 : Md := ⟨[.int .i64, .str], [.st .ActV, .bool], some fun x => p56 (x.1) (x.2), fun x => m56 (x.1) (x.2)⟩
noncomputable def md16 : Md := ⟨[.str], [.st .ActV, .int .i64], some fun x => p16 x, fun x => m16 x⟩
noncomputable def md20 : Md := ⟨[.str], [.li .ActV, .int .i64, .int .i64], some fun x => p20 x, fun x => m20 x⟩
noncomputable def md15 : Md := ⟨[], [.bool], some fun x => p15, fun x => m15⟩
noncomputable def md3 : Md := ⟨[.st .ActV], [.bool], some fun x => p3 x, fun x => m3 x⟩
noncomputable def M_ : List Md := [md93, md94, md193, md119, md95, md28, md38, md39, md151, md152, md82, md153, md83, md154, md84, md155, md85, md67, md69, md26, md192, md118, md120, md40, md123, md46, md44, md42, md194, md121, md43, md45, md13, md156, md89, md157, md90, md50, md158, md91, md92, md27, md96, md97, md98, md29, md47, md48, md52, md78, md49, md196, md124, md51, md53, md54, md14, md204, md200, md129, md135, md309, md290, md254, md198, md126, md127, md199, md128, md56, md16, md20, md15, md3]
def AC : List Cn := [⟨93, 0, [.int .i64], [.str], false⟩, ⟨94, 1, [.str], [.str], false⟩, ⟨193, 2, [.int .i64], [.bool], true⟩, ⟨119, 3, [.st .Val], [.int .i64], true⟩, ⟨95, 4, [.st .Val], [.str], false⟩, ⟨28, 5, [.st .Req], [.str], false⟩, ⟨38, 6, [.st .ActV], [.st .ActV], true⟩, ⟨39, 7, [.st .ActV], [.int .i64], true⟩, ⟨152, 9, [.str], [.int .u64, .int .i64, .int .i64], false⟩, ⟨67, 17, [.st .Req], [.int .i64], true⟩, ⟨69, 18, [.st .Req], [.int .i64], true⟩, ⟨26, 19, [.str], [.st .Req, .int .i64], false⟩, ⟨192, 20, [.int .i32], [.bool], true⟩, ⟨118, 21, [.str], [.bool], false⟩, ⟨120, 22, [.str], [.bool], false⟩, ⟨40, 23, [.st .ActV], [.int .i64], false⟩, ⟨123, 24, [.int .i64], [.str], false⟩, ⟨46, 25, [.int .i64], [.str], false⟩, ⟨44, 26, [.int .i64, .str, .str], [.str], false⟩, ⟨42, 27, [.st .KeyV], [.str], false⟩, ⟨194, 28, [.int .u8], [.str], false⟩, ⟨121, 29, [.str], [.str], false⟩, ⟨43, 30, [.st .Val], [.str], false⟩, ⟨45, 31, [.str], [.str], false⟩, ⟨13, 32, [.st .ActV], [.str, .int .i64], false⟩, ⟨50, 37, [.st .Val], [.int .i64], true⟩, ⟨27, 41, [.str], [.st .Req, .int .i64], false⟩, ⟨96, 42, [.int .i64], [.str], false⟩, ⟨97, 43, [.str], [.str], false⟩, ⟨98, 44, [.st .Val], [.str], false⟩, ⟨29, 45, [.st .Req], [.str], false⟩, ⟨47, 46, [.st .ActV], [.st .ActV], true⟩, ⟨48, 47, [], [.li .str], true⟩, ⟨52, 48, [.int .i64], [.str], false⟩, ⟨78, 49, [.str], [.bool], false⟩, ⟨49, 50, [.int .i64, .str, .str], [.str, .int .i64], false⟩, ⟨196, 51, [.int .u8], [.int .u8], false⟩, ⟨124, 52, [.str], [.str], false⟩, ⟨51, 53, [.st .Val], [.str], false⟩, ⟨53, 54, [.str], [.bool], false⟩, ⟨54, 55, [.str], [.str], false⟩, ⟨14, 56, [.st .ActV], [.str, .int .i64], false⟩, ⟨204, 57, [.str, .int .u8], [.int .i64], true⟩, ⟨200, 58, [.int .i64], [.int .i64], true⟩, ⟨129, 59, [.str], [.int .i64, .bool], false⟩, ⟨135, 60, [.str, .int .u8], [.int .i64], true⟩, ⟨309, 61, [.int .u8], [.int .i64], true⟩, ⟨290, 62, [.str], [.int .u8, .int .i64], false⟩, ⟨254, 63, [.str], [.str, .int .i64], false⟩, ⟨198, 64, [.str], [.str, .int .i64], false⟩, ⟨126, 65, [.str], [.st .Val, .int .i64], false⟩, ⟨127, 66, [.str], [.int .i64, .str, .str, .bool], false⟩, ⟨199, 67, [.int .u8], [.int .i64], false⟩, ⟨128, 68, [.str], [.str, .int .i64], false⟩, ⟨56, 69, [.int .i64, .str], [.st .ActV, .bool], false⟩, ⟨16, 70, [.str], [.st .ActV, .int .i64], false⟩, ⟨20, 71, [.str], [.li .ActV, .int .i64, .int .i64], false⟩, ⟨15, 72, [], [.bool], false⟩, ⟨3, 73, [.st .ActV], [.bool], false⟩]
def AB : List Cb := [⟨151, 8, 206, .Rd, [], [.int .i64], true⟩, ⟨82, 10, 206, .Rd, [], [.int .i64], false⟩, ⟨153, 11, 206, .Rd, [.int .i64], [.int .i64], false⟩, ⟨83, 12, 206, .Rd, [.int .i64], [.str], false⟩, ⟨154, 13, 206, .Rd, [.int .i64], [], true⟩, ⟨84, 14, 206, .Rd, [], [.st .Val], false⟩, ⟨155, 15, 206, .Rd, [], [.int .i64], true⟩, ⟨85, 16, 206, .Rd, [], [.int .i64], true⟩, ⟨156, 33, 212, .Rd2, [], [.int .i64], true⟩, ⟨89, 34, 212, .Rd2, [], [.int .i64], false⟩, ⟨157, 35, 212, .Rd2, [.int .i64], [.int .i64], false⟩, ⟨90, 36, 212, .Rd2, [.int .i64], [.str], false⟩, ⟨158, 38, 212, .Rd2, [.int .i64], [], true⟩, ⟨91, 39, 212, .Rd2, [], [.st .Val], false⟩, ⟨92, 40, 212, .Rd2, [], [.int .i64], true⟩]
@[reducible] noncomputable def PG : Program := Go.Proofs.Tryz.prog
@[reducible] noncomputable def iT (k j : Nat) : Nat → List SV → SS → Tr := inlE PG (Hd.all PG Ty_) Ty_ (60, 108, 5) (AB.take j) (AC.take k) 16
structure Up (G : Glob) (k j : Nat) : Prop where
 z : ZOk PG G 60 108 5
 c : CnsOk PG G M_ (AC.take k)
 b : CbsOk PG G M_ (AB.take j)
theorem take_snoc {α : Type} {l : List α} {k : Nat} {c : α} (h : l[k]? = some c) {d : α} (hd : d ∈ l.take (k + 1)) : d ∈ l.take k ∨ d = c := by
 rw [List.take_add_one, h, Option.toList_some, List.mem_append, List.mem_singleton] at hd
 exact hd
section
variable {G : Glob}
theorem Up.i {k j : Nat} (h : Up G k j) : InlOk PG G M_ (iT k j) := inlE_ok (Z := (60, 108, 5)) all_ok h.z h.b h.c 16
theorem Up.cs {k j : Nat} (h : Up G k j) (c : Cn) (m : Md) (hk : AC[k]? = some c) (hm : getL Md.d M_ c.j = m) (hp : m.ps = c.ps) (hr : m.rs = c.rs) (ho : MdOk PG G c.f m) (hc : c.cl = true → m.pre = none) : Up G (k + 1) j :=
 ⟨h.z, fun d hd => (take_snoc hk hd).elim (h.c d) (fun e => e ▸ (by subst hm; exact ⟨hp, hr, ho, hc⟩)), h.b⟩
theorem Up.bs {k j : Nat} (h : Up G k j) (c : Cb) (m : Md) (hk : AB[j]? = some c) (hm : getL Md.d M_ c.j = m) (hp : m.ps = .st c.c :: c.ps) (hr : m.rs = .st c.c :: c.rs) (ho : MdOkB PG G c.f c.t m) (hc : c.cl = true → m.pre = none) : Up G k (j + 1) :=
 ⟨h.z, h.c, fun d hd => (take_snoc hk hd).elim (h.b d) (fun e => e ▸ (by subst hm; exact ⟨hp, hr, ho, hc⟩))⟩
end
end Go.Av
