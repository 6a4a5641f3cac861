/- Walk of hash.Long: the number of any text. -/
import Derived.Test.YtnlaofapjldciaaBs
import Derived.Test.YtnlaofapjldciaaHs
import Derived.WalkKit
import Derived.Lib.Hide
import Derived.Lib.ConvBytes
import Derived.WalkSpells
import Derived.WalkLawsBesides
namespace Go.Proofs.Ytnlaofapjldciaa
open Go.RowKit
end Go.Proofs.Ytnlaofapjldciaa
