/- Shorthands. Conditions: none. -/
import Derived.Test.YtddeffoppnlafaaGreatKCEi
namespace Go.aK
open Go
@[reducible] def aa(n:Int):aU:=.v (.int .i64 n)
@[reducible] def bB(b:Bool):aU:=.v (.bool b)
@[reducible] def ak(a:Array UInt8):aU:=.v (.string ⟨a⟩)
@[reducible] def ax:aU:=.v (.slice none 0 0)
@[reducible] def Fc:aU:=ak #[0,6,100,97,121,2,10,0,0,4,10,2,97,2,120,2,0,0,10,2,97,2,121,4,0,0,0,0,0,1,0,0,2,6,97,110,110,8,0,0,0,0,82,114,117,108,101,32,114,32,123,32,111,110,32,115,116,97,114,116,59,32,100,111,32,115,101,116,32,53,46,97,46,120,32,61,32,116,114,117,101,59,32,125,0,2,0]
@[reducible] def br:aU:=ak #[114,117,108,101,32,114,32,123,32,111,110,32,115,116,97,114,116,59,32,100,111,32,115,101,116,32,53,46,97,46,120,32,61,32,116,114,117,101,59,32,125]
@[reducible] def dV:aU:=.aq 16 [[aa (1),aa (5),ak #[97],ak #[120],ak #[],aa (1),aa (0),aa (0),ak #[],aa (1),aa (1),ak #[],aa (0),ak #[],ak #[],ax]]
@[reducible] def nE:aU:=.aq 7 [[aa (5),ak #[97],ak #[120],aa (1),aa (0),ak #[],aa (0)],[aa (5),ak #[97],ak #[121],aa (2),aa (0),ak #[],aa (0)]]
@[reducible] def J3:aU:=.aq 10 [[aa (5),aa (0),ak #[],ak #[],aa (0),ak #[],ak #[],ak #[],aa (0),aa (0)]]
end Go.aK
