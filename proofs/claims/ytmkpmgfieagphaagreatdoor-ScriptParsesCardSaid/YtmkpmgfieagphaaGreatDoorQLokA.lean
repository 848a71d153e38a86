/- From what a card tells to what the plain laws ask. Conditions: none. -/
import Derived.Test.YtmkpmgfieagphaaGreatDoorQLl
import Derived.Test.YtmkpmgfieagphaaGreatDoorQBr
namespace Go.aL
open Go Go.ei
theorem SX{x:ByteArray}(h:mI ⟨.str,x⟩):bq x:=by
 cases h
 rename_i h
 exact h
end Go.aL
