/- The engine: the package-level variables of which it is known what they hold, cell by cell: one table of the library's. -/
import Derived.RangeFuncLeaves
import Derived.Lib.TrailingZeros
namespace Go.Eng
def oS (b o:Nat):Option Value:=if b=1∧o<64 then some (.int .u8 (Go.Lib.deBruijn64tab.getD o 0)) else none
end Go.Eng
