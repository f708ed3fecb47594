/- The rows' arguments of the space's laws, opened. No condition. -/
import Derived.Test.YtambkpacecjheaaOpenB
import Derived.Test.YtambkpacecjheaaRdra
import Derived.Test.YtambkpacecjheaaRowT
namespace Go.Proofs.Ytambkpacecjheaa
namespace V
open Enc (enc)
set_option linter.unusedVariables false
set_option linter.unusedSimpArgs false
set_option maxHeartbeats 4000000
set_option maxRecDepth 100000
open Go.RowKit
attribute [local irreducible] thA inA FinA eL

open Szd (szd)
open Go.ChangeShapes Go.WideShapes Go.ChangeAt
instance : Opn Try.prog UInt8 5 := Opn.u8 Try.underlying5
instance : Opn Try.prog (List UInt8) 38 := Opn.sl Try.underlying38 (by kernel_rfl) (by decide)
end V
end Go.Proofs.Ytambkpacecjheaa
