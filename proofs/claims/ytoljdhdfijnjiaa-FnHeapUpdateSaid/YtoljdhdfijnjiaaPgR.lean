/- The rows' arguments of the pages' laws, opened. No condition. -/
import Derived.Test.YtoljdhdfijnjiaaOpenB
import Derived.Test.YtoljdhdfijnjiaaRdra
import Derived.Test.YtoljdhdfijnjiaaRowT
namespace Go.Proofs.Ytoljdhdfijnjiaa
namespace V
open Enc (enc)
set_option linter.unusedVariables false
set_option linter.unusedSimpArgs false
set_option maxHeartbeats 4000000
set_option maxRecDepth 100000
open Go.RowKit
attribute [local irreducible] thA inA FinA eL

open Szd (szd)
open Go.ChangeShapes Go.WideShapes Go.ChangeAt
instance : Opn Try.prog UInt8 5 := Opn.u8 Try.underlying5
instance : Opn Try.prog (List UInt8) 22 := Opn.sl Try.underlying22 (by kernel_rfl) (by decide)
end V
end Go.Proofs.Ytoljdhdfijnjiaa
