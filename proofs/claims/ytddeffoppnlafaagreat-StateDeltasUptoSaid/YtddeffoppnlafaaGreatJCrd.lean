/- Conditions: none. -/
import Derived.Test.YtddeffoppnlafaaGreatJCEi
namespace Go.aH
open Go
@[reducible] def ab(n:Int):a7:=.v (.int .i64 n)
@[reducible] def bO(b:Bool):a7:=.v (.bool b)
@[reducible] def ak(a:Array UInt8):a7:=.v (.string ⟨a⟩)
@[reducible] def ay:a7:=.v (.slice none 0 0)
@[reducible] def A4:a7:=ak #[0,6,100,97,121,2,10,0,0,4,10,2,97,2,120,2,0,0,10,2,97,2,121,4,0,0,0,0,0,1,0,0,2,6,97,110,110,8,0,0,0,0,82,114,117,108,101,32,114,32,123,32,111,110,32,115,116,97,114,116,59,32,100,111,32,115,101,116,32,53,46,97,46,120,32,61,32,116,114,117,101,59,32,125,0,2,0]
@[reducible] def bA:a7:=ak #[114,117,108,101,32,114,32,123,32,111,110,32,115,116,97,114,116,59,32,100,111,32,115,101,116,32,53,46,97,46,120,32,61,32,116,114,117,101,59,32,125]
@[reducible] def ec:a7:=.aq 16 [[ab 1,ab 5,ak #[97],ak #[120],ak #[],ab 1,ab 0,ab 0,ak #[],ab 1,ab 1,ak #[],ab 0,ak #[],ak #[],ay]]
@[reducible] def mI:a7:=.aq 7 [[ab 5,ak #[97],ak #[120],ab 1,ab 0,ak #[],ab 0],[ab 5,ak #[97],ak #[121],ab 2,ab 0,ak #[],ab 0]]
@[reducible] def yy:a7:=.aq 10 [[ab 5,ab 0,ak #[],ak #[],ab 0,ak #[],ak #[],ak #[],ab 0,ab 0]]
end Go.aH
