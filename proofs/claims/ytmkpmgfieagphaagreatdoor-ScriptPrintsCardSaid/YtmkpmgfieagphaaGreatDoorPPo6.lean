/- Contracts. Conditions: none. -/
import Derived.Test.YtmkpmgfieagphaaGreatDoorPPn
open Go Go.Av Go.Hh
namespace Go.Av
section
variable {G : Glob}
theorem ok93 (h : Up G 0 0) : MdOk PG G 93 md93 := md_wq h.i _ rfl (by kernel_rfl) (fun x => by kernel_rfl) (fun x => by kernel_rfl)
theorem ok39 (h : Up G 7 0) : MdOk PG G 39 md39 := md_clean h.i _ rfl (by kernel_rfl) (fun x => by kernel_rfl)
theorem ok84 (h : Up G 9 5) : MdOkB PG G 84 206 md84 := md_wqB h.i _ rfl (by kernel_rfl) (fun x => by kernel_rfl) (fun x => by kernel_rfl)
theorem ok118 (h : Up G 13 8) : MdOk PG G 118 md118 := md_wq h.i _ rfl (by kernel_rfl) (fun x => by kernel_rfl) (fun x => by kernel_rfl)
theorem ok121 (h : Up G 21 8) : MdOk PG G 121 md121 := md_wq h.i _ rfl (by kernel_rfl) (fun x => by kernel_rfl) (fun x => by kernel_rfl)
theorem ok90 (h : Up G 25 11) : MdOkB PG G 90 212 md90 := md_wqB h.i _ rfl (by kernel_rfl) (fun x => by kernel_rfl) (fun x => by kernel_rfl)
theorem ok97 (h : Up G 28 15) : MdOk PG G 97 md97 := md_wq h.i _ rfl (by kernel_rfl) (fun x => by kernel_rfl) (fun x => by kernel_rfl)
theorem ok196 (h : Up G 36 15) : MdOk PG G 196 md196 := md_wq h.i _ rfl (by kernel_rfl) (fun x => by kernel_rfl) (fun x => by kernel_rfl)
theorem ok200 (h : Up G 43 15) : MdOk PG G 200 md200 := md_clean h.i _ rfl (by kernel_rfl) (fun x => by kernel_rfl)
theorem ok126 (h : Up G 50 15) : MdOk PG G 126 md126 := md_wq h.i _ rfl (by kernel_rfl) (fun x => by kernel_rfl) (fun x => by kernel_rfl)
theorem ok15 (h : Up G 57 15) : MdOk PG G 15 md15 := md_wq h.i _ rfl (by kernel_rfl) (fun x => by kernel_rfl) (fun x => by kernel_rfl)
end
end Go.Av
open Go Go.Av Go.Hh
namespace Go.Av
section
variable {G : Glob}
theorem ok94 (h : Up G 1 0) : MdOk PG G 94 md94 := md_wq h.i _ rfl (by kernel_rfl) (fun x => by kernel_rfl) (fun x => by kernel_rfl)
theorem ok151 (h : Up G 8 0) : MdOkB PG G 151 206 md151 := md_cleanB h.i _ rfl (by kernel_rfl) (fun x => by kernel_rfl)
theorem ok155 (h : Up G 9 6) : MdOkB PG G 155 206 md155 := md_cleanB h.i _ rfl (by kernel_rfl) (fun x => by kernel_rfl)
theorem ok120 (h : Up G 14 8) : MdOk PG G 120 md120 := md_wq h.i _ rfl (by kernel_rfl) (fun x => by kernel_rfl) (fun x => by kernel_rfl)
theorem ok43 (h : Up G 22 8) : MdOk PG G 43 md43 := md_wq h.i _ rfl (by kernel_rfl) (fun x => by kernel_rfl) (fun x => by kernel_rfl)
theorem ok50 (h : Up G 25 12) : MdOk PG G 50 md50 := md_clean h.i _ rfl (by kernel_rfl) (fun x => by kernel_rfl)
theorem ok98 (h : Up G 29 15) : MdOk PG G 98 md98 := md_wq h.i _ rfl (by kernel_rfl) (fun x => by kernel_rfl) (fun x => by kernel_rfl)
theorem ok124 (h : Up G 37 15) : MdOk PG G 124 md124 := md_wq h.i _ rfl (by kernel_rfl) (fun x => by kernel_rfl) (fun x => by kernel_rfl)
theorem ok129 (h : Up G 44 15) : MdOk PG G 129 md129 := md_wq h.i _ rfl (by kernel_rfl) (fun x => by kernel_rfl) (fun x => by kernel_rfl)
theorem ok127 (h : Up G 51 15) : MdOk PG G 127 md127 := md_wq h.i _ rfl (by kernel_rfl) (fun x => by kernel_rfl) (fun x => by kernel_rfl)
theorem ok3 (h : Up G 58 15) : MdOk PG G 3 md3 := md_wq h.i _ rfl (by kernel_rfl) (fun x => by kernel_rfl) (fun x => by kernel_rfl)
end
end Go.Av
open Go Go.Av Go.Hh
namespace Go.Av
section
variable {G : Glob}
theorem ok193 (h : Up G 2 0) : MdOk PG G 193 md193 := md_clean h.i _ rfl (by kernel_rfl) (fun x => by kernel_rfl)
theorem ok152 (h : Up G 8 1) : MdOk PG G 152 md152 := md_wq h.i _ rfl (by kernel_rfl) (fun x => by kernel_rfl) (fun x => by kernel_rfl)
theorem ok85 (h : Up G 9 7) : MdOkB PG G 85 206 md85 := md_cleanB h.i _ rfl (by kernel_rfl) (fun x => by kernel_rfl)
theorem ok40 (h : Up G 15 8) : MdOk PG G 40 md40 := md_wq h.i _ rfl (by kernel_rfl) (fun x => by kernel_rfl) (fun x => by kernel_rfl)
theorem ok45 (h : Up G 23 8) : MdOk PG G 45 md45 := md_wq h.i _ rfl (by kernel_rfl) (fun x => by kernel_rfl) (fun x => by kernel_rfl)
theorem ok158 (h : Up G 26 12) : MdOkB PG G 158 212 md158 := md_cleanB h.i _ rfl (by kernel_rfl) (fun x => by kernel_rfl)
theorem ok29 (h : Up G 30 15) : MdOk PG G 29 md29 := md_wq h.i _ rfl (by kernel_rfl) (fun x => by kernel_rfl) (fun x => by kernel_rfl)
theorem ok51 (h : Up G 38 15) : MdOk PG G 51 md51 := md_wq h.i _ rfl (by kernel_rfl) (fun x => by kernel_rfl) (fun x => by kernel_rfl)
theorem ok135 (h : Up G 45 15) : MdOk PG G 135 md135 := md_clean h.i _ rfl (by kernel_rfl) (fun x => by kernel_rfl)
theorem ok199 (h : Up G 52 15) : MdOk PG G 199 md199 := md_wq h.i _ rfl (by kernel_rfl) (fun x => by kernel_rfl) (fun x => by kernel_rfl)
end
end Go.Av
open Go Go.Av Go.Hh
namespace Go.Av
section
variable {G : Glob}
theorem ok119 (h : Up G 3 0) : MdOk PG G 119 md119 := md_clean h.i _ rfl (by kernel_rfl) (fun x => by kernel_rfl)
theorem ok82 (h : Up G 9 1) : MdOkB PG G 82 206 md82 := md_wqB h.i _ rfl (by kernel_rfl) (fun x => by kernel_rfl) (fun x => by kernel_rfl)
theorem ok67 (h : Up G 9 8) : MdOk PG G 67 md67 := md_clean h.i _ rfl (by kernel_rfl) (fun x => by kernel_rfl)
theorem ok46 (h : Up G 17 8) : MdOk PG G 46 md46 := md_wq h.i _ rfl (by kernel_rfl) (fun x => by kernel_rfl) (fun x => by kernel_rfl)
theorem ok13 (h : Up G 24 8) : MdOk PG G 13 md13 := md_wq h.i _ rfl (by kernel_rfl) (fun x => by kernel_rfl) (fun x => by kernel_rfl)
theorem ok91 (h : Up G 26 13) : MdOkB PG G 91 212 md91 := md_wqB h.i _ rfl (by kernel_rfl) (fun x => by kernel_rfl) (fun x => by kernel_rfl)
theorem ok47 (h : Up G 31 15) : MdOk PG G 47 md47 := md_clean h.i _ rfl (by kernel_rfl) (fun x => by kernel_rfl)
theorem ok53 (h : Up G 39 15) : MdOk PG G 53 md53 := md_wq h.i _ rfl (by kernel_rfl) (fun x => by kernel_rfl) (fun x => by kernel_rfl)
theorem ok309 (h : Up G 46 15) : MdOk PG G 309 md309 := md_clean h.i _ rfl (by kernel_rfl) (fun x => by kernel_rfl)
theorem ok128 (h : Up G 53 15) : MdOk PG G 128 md128 := md_wq h.i _ rfl (by kernel_rfl) (fun x => by kernel_rfl) (fun x => by kernel_rfl)
end
end Go.Av
open Go Go.Av Go.Hh
namespace Go.Av
section
variable {G : Glob}
theorem ok95 (h : Up G 4 0) : MdOk PG G 95 md95 := md_wq h.i _ rfl (by kernel_rfl) (fun x => by kernel_rfl) (fun x => by kernel_rfl)
theorem ok153 (h : Up G 9 2) : MdOkB PG G 153 206 md153 := md_wqB h.i _ rfl (by kernel_rfl) (fun x => by kernel_rfl) (fun x => by kernel_rfl)
theorem ok69 (h : Up G 10 8) : MdOk PG G 69 md69 := md_clean h.i _ rfl (by kernel_rfl) (fun x => by kernel_rfl)
theorem ok44 (h : Up G 18 8) : MdOk PG G 44 md44 := md_wq h.i _ rfl (by kernel_rfl) (fun x => by kernel_rfl) (fun x => by kernel_rfl)
theorem ok156 (h : Up G 25 8) : MdOkB PG G 156 212 md156 := md_cleanB h.i _ rfl (by kernel_rfl) (fun x => by kernel_rfl)
theorem ok92 (h : Up G 26 14) : MdOkB PG G 92 212 md92 := md_cleanB h.i _ rfl (by kernel_rfl) (fun x => by kernel_rfl)
theorem ok48 (h : Up G 32 15) : MdOk PG G 48 md48 := md_clean h.i _ rfl (by kernel_rfl) (fun x => by kernel_rfl)
theorem ok54 (h : Up G 40 15) : MdOk PG G 54 md54 := md_wq h.i _ rfl (by kernel_rfl) (fun x => by kernel_rfl) (fun x => by kernel_rfl)
theorem ok290 (h : Up G 47 15) : MdOk PG G 290 md290 := md_wq h.i _ rfl (by kernel_rfl) (fun x => by kernel_rfl) (fun x => by kernel_rfl)
theorem ok56 (h : Up G 54 15) : MdOk PG G 56 md56 := md_wq h.i _ rfl (by kernel_rfl) (fun x => by kernel_rfl) (fun x => by kernel_rfl)
end
end Go.Av
open Go Go.Av Go.Hh
namespace Go.Av
section
variable {G : Glob}
theorem ok28 (h : Up G 5 0) : MdOk PG G 28 md28 := md_wq h.i _ rfl (by kernel_rfl) (fun x => by kernel_rfl) (fun x => by kernel_rfl)
theorem ok83 (h : Up G 9 3) : MdOkB PG G 83 206 md83 := md_wqB h.i _ rfl (by kernel_rfl) (fun x => by kernel_rfl) (fun x => by kernel_rfl)
theorem ok26 (h : Up G 11 8) : MdOk PG G 26 md26 := md_wq h.i _ rfl (by kernel_rfl) (fun x => by kernel_rfl) (fun x => by kernel_rfl)
theorem ok42 (h : Up G 19 8) : MdOk PG G 42 md42 := md_wq h.i _ rfl (by kernel_rfl) (fun x => by kernel_rfl) (fun x => by kernel_rfl)
theorem ok89 (h : Up G 25 9) : MdOkB PG G 89 212 md89 := md_wqB h.i _ rfl (by kernel_rfl) (fun x => by kernel_rfl) (fun x => by kernel_rfl)
theorem ok27 (h : Up G 26 15) : MdOk PG G 27 md27 := md_wq h.i _ rfl (by kernel_rfl) (fun x => by kernel_rfl) (fun x => by kernel_rfl)
theorem ok78 (h : Up G 34 15) : MdOk PG G 78 md78 := md_wq h.i _ rfl (by kernel_rfl) (fun x => by kernel_rfl) (fun x => by kernel_rfl)
theorem ok14 (h : Up G 41 15) : MdOk PG G 14 md14 := md_wq h.i _ rfl (by kernel_rfl) (fun x => by kernel_rfl) (fun x => by kernel_rfl)
theorem ok254 (h : Up G 48 15) : MdOk PG G 254 md254 := md_wq h.i _ rfl (by kernel_rfl) (fun x => by kernel_rfl) (fun x => by kernel_rfl)
theorem ok16 (h : Up G 55 15) : MdOk PG G 16 md16 := md_wq h.i _ rfl (by kernel_rfl) (fun x => by kernel_rfl) (fun x => by kernel_rfl)
end
end Go.Av
open Go Go.Av Go.Hh
namespace Go.Av
section
variable {G : Glob}
theorem ok38 (h : Up G 6 0) : MdOk PG G 38 md38 := md_clean h.i _ rfl (by kernel_rfl) (fun x => by kernel_rfl)
theorem ok154 (h : Up G 9 4) : MdOkB PG G 154 206 md154 := md_cleanB h.i _ rfl (by kernel_rfl) (fun x => by kernel_rfl)
theorem ok192 (h : Up G 12 8) : MdOk PG G 192 md192 := md_clean h.i _ rfl (by kernel_rfl) (fun x => by kernel_rfl)
theorem ok194 (h : Up G 20 8) : MdOk PG G 194 md194 := md_wq h.i _ rfl (by kernel_rfl) (fun x => by kernel_rfl) (fun x => by kernel_rfl)
theorem ok157 (h : Up G 25 10) : MdOkB PG G 157 212 md157 := md_wqB h.i _ rfl (by kernel_rfl) (fun x => by kernel_rfl) (fun x => by kernel_rfl)
theorem ok96 (h : Up G 27 15) : MdOk PG G 96 md96 := md_wq h.i _ rfl (by kernel_rfl) (fun x => by kernel_rfl) (fun x => by kernel_rfl)
theorem ok49 (h : Up G 35 15) : MdOk PG G 49 md49 := md_wq h.i _ rfl (by kernel_rfl) (fun x => by kernel_rfl) (fun x => by kernel_rfl)
theorem ok204 (h : Up G 42 15) : MdOk PG G 204 md204 := md_clean h.i _ rfl (by kernel_rfl) (fun x => by kernel_rfl)
theorem ok198 (h : Up G 49 15) : MdOk PG G 198 md198 := md_wq h.i _ rfl (by kernel_rfl) (fun x => by kernel_rfl) (fun x => by kernel_rfl)
theorem ok20 (h : Up G 56 15) : MdOk PG G 20 md20 := md_wq h.i _ rfl (by kernel_rfl) (fun x => by kernel_rfl) (fun x => by kernel_rfl)
end
end Go.Av
