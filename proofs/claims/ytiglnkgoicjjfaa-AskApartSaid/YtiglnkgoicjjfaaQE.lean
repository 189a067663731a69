import Derived.Test.YtiglnkgoicjjfaaPwY
import Derived.Test.YtiglnkgoicjjfaaQD
set_option linter.all false
set_option maxRecDepth 100000
namespace Go.PW
open Go.RowKit
def Zkz(x:Zaz):Prop:=(fun n=>IntKind.min .i64<=n/\n<=IntKind.max .i64) x.Kind/\(fun n=>IntKind.min .i64<=n/\n<=IntKind.max .i64) x.A/\(fun n=>IntKind.min .i64<=n/\n<=IntKind.max .i64) x.B
def Zk0(x:Zd):Prop:=(fun n=>IntKind.min .i64<=n/\n<=IntKind.max .i64) x.Kind/\(fun n=>IntKind.min .i64<=n/\n<=IntKind.max .i64) x.Player/\(fun n=>IntKind.min .i64<=n/\n<=IntKind.max .i64) x.Source/\(fun n=>IntKind.min .i64<=n/\n<=IntKind.max .i64) x.Least/\(fun n=>IntKind.min .i64<=n/\n<=IntKind.max .i64) x.Most/\(fun n=>IntKind.min .i64<=n/\n<=IntKind.max .i64) x.N/\(OkL 24 Zkz) x.Options
end Go.PW
