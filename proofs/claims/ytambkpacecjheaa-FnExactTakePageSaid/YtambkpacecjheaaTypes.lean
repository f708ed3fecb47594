/- The facts on the types of this translation, as instances. No condition. -/
import Derived.Test.YtambkpacecjheaaLibB
namespace Go.Proofs.Ytambkpacecjheaa
namespace V
open Go.RowKit
instance : CS Try.prog 1 1 := ⟨Try.sizeOf1⟩
instance : CA Try.prog 1 false := ⟨Try.isAgg1⟩
instance : CZ Try.prog 1 (.nilFunc) := ⟨Try.zeroValue1⟩
instance : CE Try.prog 1 1 8 := ⟨Try.t1, (.nilFunc), by kernel_rfl, by kernel_rfl, by kernel_rfl, by kernel_rfl, by kernel_rfl⟩
instance : CY Try.prog 1 8 := ⟨fun w => ⟨_, Try.typeInfo1 w, rfl⟩⟩
instance : CIn Try.prog 2 := ⟨Try.runUnderlying2⟩
instance : CS Try.prog 2 1 := ⟨Try.sizeOf2⟩
instance : CA Try.prog 2 false := ⟨Try.isAgg2⟩
instance : CZ Try.prog 2 (.int .i64 0) := ⟨Try.zeroValue2⟩
instance : CE Try.prog 2 1 8 := ⟨Try.t2, (.int .i64 0), by kernel_rfl, by kernel_rfl, by kernel_rfl, by kernel_rfl, by kernel_rfl⟩
instance : CY Try.prog 2 8 := ⟨fun w => ⟨_, Try.typeInfo2 w, rfl⟩⟩
instance : CIn Try.prog 3 := ⟨Try.runUnderlying3⟩
instance : CS Try.prog 3 1 := ⟨Try.sizeOf3⟩
instance : CA Try.prog 3 false := ⟨Try.isAgg3⟩
instance : CZ Try.prog 3 (.int .i64 0) := ⟨Try.zeroValue3⟩
instance : CE Try.prog 3 1 8 := ⟨Try.t3, (.int .i64 0), by kernel_rfl, by kernel_rfl, by kernel_rfl, by kernel_rfl, by kernel_rfl⟩
instance : CY Try.prog 3 8 := ⟨fun w => ⟨_, Try.typeInfo3 w, rfl⟩⟩
instance : CBo Try.prog 4 := ⟨Try.runUnderlying4⟩
instance : CS Try.prog 4 1 := ⟨Try.sizeOf4⟩
instance : CA Try.prog 4 false := ⟨Try.isAgg4⟩
instance : CZ Try.prog 4 (.bool false) := ⟨Try.zeroValue4⟩
instance : CE Try.prog 4 1 1 := ⟨Try.t4, (.bool false), by kernel_rfl, by kernel_rfl, by kernel_rfl, by kernel_rfl, by kernel_rfl⟩
instance : CY Try.prog 4 1 := ⟨fun w => ⟨_, Try.typeInfo4 w, rfl⟩⟩
instance : CU8 Try.prog 5 := ⟨Try.runUnderlying5⟩
instance : CS Try.prog 5 1 := ⟨Try.sizeOf5⟩
instance : CA Try.prog 5 false := ⟨Try.isAgg5⟩
instance : CZ Try.prog 5 (.int .u8 0) := ⟨Try.zeroValue5⟩
instance : CE Try.prog 5 1 1 := ⟨Try.t5, (.int .u8 0), by kernel_rfl, by kernel_rfl, by kernel_rfl, by kernel_rfl, by kernel_rfl⟩
instance : CY Try.prog 5 1 := ⟨fun w => ⟨_, Try.typeInfo5 w, rfl⟩⟩
instance : CSt Try.prog 9 := ⟨Try.runUnderlying9⟩
instance : CS Try.prog 9 1 := ⟨Try.sizeOf9⟩
instance : CA Try.prog 9 false := ⟨Try.isAgg9⟩
instance : CZ Try.prog 9 (.string ⟨#[]⟩) := ⟨Try.zeroValue9⟩
instance : CE Try.prog 9 1 16 := ⟨Try.t9, (.string ⟨#[]⟩), by kernel_rfl, by kernel_rfl, by kernel_rfl, by kernel_rfl, by kernel_rfl⟩
instance : CY Try.prog 9 16 := ⟨fun w => ⟨_, Try.typeInfo9 w, rfl⟩⟩
instance : CS Try.prog 12 1 := ⟨Try.sizeOf12⟩
instance : CA Try.prog 12 false := ⟨Try.isAgg12⟩
instance : CZ Try.prog 12 (.int .u64 0) := ⟨Try.zeroValue12⟩
instance : CE Try.prog 12 1 8 := ⟨Try.t12, (.int .u64 0), by kernel_rfl, by kernel_rfl, by kernel_rfl, by kernel_rfl, by kernel_rfl⟩
instance : CY Try.prog 12 8 := ⟨fun w => ⟨_, Try.typeInfo12 w, rfl⟩⟩
instance : CS Try.prog 15 1 := ⟨Try.sizeOf15⟩
instance : CA Try.prog 15 false := ⟨Try.isAgg15⟩
instance : CZ Try.prog 15 (.pointer none) := ⟨Try.zeroValue15⟩
instance : CE Try.prog 15 1 8 := ⟨Try.t15, (.pointer none), by kernel_rfl, by kernel_rfl, by kernel_rfl, by kernel_rfl, by kernel_rfl⟩
instance : CY Try.prog 15 8 := ⟨fun w => ⟨_, Try.typeInfo15 w, rfl⟩⟩
instance : CS Try.prog 16 1 := ⟨Try.sizeOf16⟩
instance : CA Try.prog 16 false := ⟨Try.isAgg16⟩
instance : CZ Try.prog 16 (.pointer none) := ⟨Try.zeroValue16⟩
instance : CE Try.prog 16 1 8 := ⟨Try.t16, (.pointer none), by kernel_rfl, by kernel_rfl, by kernel_rfl, by kernel_rfl, by kernel_rfl⟩
instance : CY Try.prog 16 8 := ⟨fun w => ⟨_, Try.typeInfo16 w, rfl⟩⟩
instance : CS Try.prog 21 1 := ⟨Try.sizeOf21⟩
instance : CA Try.prog 21 false := ⟨Try.isAgg21⟩
instance : CZ Try.prog 21 (.int .i32 0) := ⟨Try.zeroValue21⟩
instance : CE Try.prog 21 1 4 := ⟨Try.t21, (.int .i32 0), by kernel_rfl, by kernel_rfl, by kernel_rfl, by kernel_rfl, by kernel_rfl⟩
instance : CY Try.prog 21 4 := ⟨fun w => ⟨_, Try.typeInfo21 w, rfl⟩⟩
instance : CSl Try.prog 22 3 := ⟨Try.runUnderlying22, Try.underlying22⟩
instance : CS Try.prog 22 1 := ⟨Try.sizeOf22⟩
instance : CA Try.prog 22 false := ⟨Try.isAgg22⟩
instance : CZ Try.prog 22 (.slice none 0 0) := ⟨Try.zeroValue22⟩
instance : CE Try.prog 22 1 24 := ⟨Try.t22, (.slice none 0 0), by kernel_rfl, by kernel_rfl, by kernel_rfl, by kernel_rfl, by kernel_rfl⟩
instance : CY Try.prog 22 24 := ⟨fun w => ⟨_, Try.typeInfo22 w, rfl⟩⟩
instance : CSl Try.prog 23 74 := ⟨Try.runUnderlying23, Try.underlying23⟩
instance : CS Try.prog 23 1 := ⟨Try.sizeOf23⟩
instance : CA Try.prog 23 false := ⟨Try.isAgg23⟩
instance : CZ Try.prog 23 (.slice none 0 0) := ⟨Try.zeroValue23⟩
instance : CE Try.prog 23 1 24 := ⟨Try.t23, (.slice none 0 0), by kernel_rfl, by kernel_rfl, by kernel_rfl, by kernel_rfl, by kernel_rfl⟩
instance : CY Try.prog 23 24 := ⟨fun w => ⟨_, Try.typeInfo23 w, rfl⟩⟩
instance : CS Try.prog 24 3 := ⟨Try.sizeOf24⟩
instance : CA Try.prog 24 true := ⟨Try.isAgg24⟩
instance : CZ Try.prog 24 (.agg #[.int .i64 0, .slice none 0 0, .slice none 0 0]) := ⟨Try.zeroValue24⟩
instance : CE Try.prog 24 3 56 := ⟨Try.t24, (.agg #[.int .i64 0, .slice none 0 0, .slice none 0 0]), by kernel_rfl, by kernel_rfl, by kernel_rfl, by kernel_rfl, by kernel_rfl⟩
instance : CY Try.prog 24 56 := ⟨fun w => ⟨_, Try.typeInfo24 w, rfl⟩⟩
instance : CB Try.prog 24 [(0, 1), (1, 1), (2, 1)] := ⟨fun w => ⟨_, Try.runUnderlying24 w, by kernel_rfl⟩⟩
instance : CF Try.prog 24 0 0 := ⟨fun _ _ => by kernel_rfl⟩
instance : CF Try.prog 24 1 1 := ⟨fun _ _ => by kernel_rfl⟩
instance : CF Try.prog 24 2 2 := ⟨fun _ _ => by kernel_rfl⟩
instance : CS Try.prog 25 3 := ⟨Try.sizeOf25⟩
instance : CA Try.prog 25 true := ⟨Try.isAgg25⟩
instance : CZ Try.prog 25 (.agg #[.int .i64 0, .slice none 0 0, .slice none 0 0]) := ⟨Try.zeroValue25⟩
instance : CE Try.prog 25 3 56 := ⟨Try.t25, (.agg #[.int .i64 0, .slice none 0 0, .slice none 0 0]), by kernel_rfl, by kernel_rfl, by kernel_rfl, by kernel_rfl, by kernel_rfl⟩
instance : CY Try.prog 25 56 := ⟨fun w => ⟨_, Try.typeInfo25 w, rfl⟩⟩
instance : CB Try.prog 25 [(0, 1), (1, 1), (2, 1)] := ⟨fun w => ⟨_, Try.runUnderlying25 w, by kernel_rfl⟩⟩
instance : CF Try.prog 25 0 0 := ⟨fun _ _ => by kernel_rfl⟩
instance : CF Try.prog 25 1 1 := ⟨fun _ _ => by kernel_rfl⟩
instance : CF Try.prog 25 2 2 := ⟨fun _ _ => by kernel_rfl⟩
instance : CS Try.prog 26 1 := ⟨Try.sizeOf26⟩
instance : CA Try.prog 26 false := ⟨Try.isAgg26⟩
instance : CZ Try.prog 26 (.nilFunc) := ⟨Try.zeroValue26⟩
instance : CE Try.prog 26 1 8 := ⟨Try.t26, (.nilFunc), by kernel_rfl, by kernel_rfl, by kernel_rfl, by kernel_rfl, by kernel_rfl⟩
instance : CY Try.prog 26 8 := ⟨fun w => ⟨_, Try.typeInfo26 w, rfl⟩⟩
instance : CS Try.prog 27 1 := ⟨Try.sizeOf27⟩
instance : CA Try.prog 27 false := ⟨Try.isAgg27⟩
instance : CZ Try.prog 27 (.nilFunc) := ⟨Try.zeroValue27⟩
instance : CE Try.prog 27 1 8 := ⟨Try.t27, (.nilFunc), by kernel_rfl, by kernel_rfl, by kernel_rfl, by kernel_rfl, by kernel_rfl⟩
instance : CY Try.prog 27 8 := ⟨fun w => ⟨_, Try.typeInfo27 w, rfl⟩⟩
instance : CSl Try.prog 28 42 := ⟨Try.runUnderlying28, Try.underlying28⟩
instance : CS Try.prog 28 1 := ⟨Try.sizeOf28⟩
instance : CA Try.prog 28 false := ⟨Try.isAgg28⟩
instance : CZ Try.prog 28 (.slice none 0 0) := ⟨Try.zeroValue28⟩
instance : CE Try.prog 28 1 24 := ⟨Try.t28, (.slice none 0 0), by kernel_rfl, by kernel_rfl, by kernel_rfl, by kernel_rfl, by kernel_rfl⟩
instance : CY Try.prog 28 24 := ⟨fun w => ⟨_, Try.typeInfo28 w, rfl⟩⟩
instance : CS Try.prog 29 3 := ⟨Try.sizeOf29⟩
instance : CA Try.prog 29 true := ⟨Try.isAgg29⟩
instance : CZ Try.prog 29 (.agg #[.int .i64 0, .slice none 0 0, .slice none 0 0]) := ⟨Try.zeroValue29⟩
instance : CE Try.prog 29 3 56 := ⟨Try.t29, (.agg #[.int .i64 0, .slice none 0 0, .slice none 0 0]), by kernel_rfl, by kernel_rfl, by kernel_rfl, by kernel_rfl, by kernel_rfl⟩
instance : CY Try.prog 29 56 := ⟨fun w => ⟨_, Try.typeInfo29 w, rfl⟩⟩
instance : CB Try.prog 29 [(0, 1), (1, 1), (2, 1)] := ⟨fun w => ⟨_, Try.runUnderlying29 w, by kernel_rfl⟩⟩
instance : CF Try.prog 29 0 0 := ⟨fun _ _ => by kernel_rfl⟩
instance : CF Try.prog 29 1 1 := ⟨fun _ _ => by kernel_rfl⟩
instance : CF Try.prog 29 2 2 := ⟨fun _ _ => by kernel_rfl⟩
instance : CS Try.prog 30 3 := ⟨Try.sizeOf30⟩
instance : CA Try.prog 30 true := ⟨Try.isAgg30⟩
instance : CZ Try.prog 30 (.agg #[.int .i64 0, .slice none 0 0, .slice none 0 0]) := ⟨Try.zeroValue30⟩
instance : CE Try.prog 30 3 56 := ⟨Try.t30, (.agg #[.int .i64 0, .slice none 0 0, .slice none 0 0]), by kernel_rfl, by kernel_rfl, by kernel_rfl, by kernel_rfl, by kernel_rfl⟩
instance : CY Try.prog 30 56 := ⟨fun w => ⟨_, Try.typeInfo30 w, rfl⟩⟩
instance : CB Try.prog 30 [(0, 1), (1, 1), (2, 1)] := ⟨fun w => ⟨_, Try.runUnderlying30 w, by kernel_rfl⟩⟩
instance : CF Try.prog 30 0 0 := ⟨fun _ _ => by kernel_rfl⟩
instance : CF Try.prog 30 1 1 := ⟨fun _ _ => by kernel_rfl⟩
instance : CF Try.prog 30 2 2 := ⟨fun _ _ => by kernel_rfl⟩
instance : CS Try.prog 31 1 := ⟨Try.sizeOf31⟩
instance : CA Try.prog 31 false := ⟨Try.isAgg31⟩
instance : CZ Try.prog 31 (.nilFunc) := ⟨Try.zeroValue31⟩
instance : CE Try.prog 31 1 8 := ⟨Try.t31, (.nilFunc), by kernel_rfl, by kernel_rfl, by kernel_rfl, by kernel_rfl, by kernel_rfl⟩
instance : CY Try.prog 31 8 := ⟨fun w => ⟨_, Try.typeInfo31 w, rfl⟩⟩
instance : CS Try.prog 32 1 := ⟨Try.sizeOf32⟩
instance : CA Try.prog 32 false := ⟨Try.isAgg32⟩
instance : CZ Try.prog 32 (.nilFunc) := ⟨Try.zeroValue32⟩
instance : CE Try.prog 32 1 8 := ⟨Try.t32, (.nilFunc), by kernel_rfl, by kernel_rfl, by kernel_rfl, by kernel_rfl, by kernel_rfl⟩
instance : CY Try.prog 32 8 := ⟨fun w => ⟨_, Try.typeInfo32 w, rfl⟩⟩
instance : CS Try.prog 33 1 := ⟨Try.sizeOf33⟩
instance : CA Try.prog 33 false := ⟨Try.isAgg33⟩
instance : CZ Try.prog 33 (.nilFunc) := ⟨Try.zeroValue33⟩
instance : CE Try.prog 33 1 8 := ⟨Try.t33, (.nilFunc), by kernel_rfl, by kernel_rfl, by kernel_rfl, by kernel_rfl, by kernel_rfl⟩
instance : CY Try.prog 33 8 := ⟨fun w => ⟨_, Try.typeInfo33 w, rfl⟩⟩
instance : CS Try.prog 34 1 := ⟨Try.sizeOf34⟩
instance : CA Try.prog 34 false := ⟨Try.isAgg34⟩
instance : CZ Try.prog 34 (.nilFunc) := ⟨Try.zeroValue34⟩
instance : CE Try.prog 34 1 8 := ⟨Try.t34, (.nilFunc), by kernel_rfl, by kernel_rfl, by kernel_rfl, by kernel_rfl, by kernel_rfl⟩
instance : CY Try.prog 34 8 := ⟨fun w => ⟨_, Try.typeInfo34 w, rfl⟩⟩
instance : CS Try.prog 35 1 := ⟨Try.sizeOf35⟩
instance : CA Try.prog 35 false := ⟨Try.isAgg35⟩
instance : CZ Try.prog 35 (.nilFunc) := ⟨Try.zeroValue35⟩
instance : CE Try.prog 35 1 8 := ⟨Try.t35, (.nilFunc), by kernel_rfl, by kernel_rfl, by kernel_rfl, by kernel_rfl, by kernel_rfl⟩
instance : CY Try.prog 35 8 := ⟨fun w => ⟨_, Try.typeInfo35 w, rfl⟩⟩
instance : CS Try.prog 36 1 := ⟨Try.sizeOf36⟩
instance : CA Try.prog 36 false := ⟨Try.isAgg36⟩
instance : CZ Try.prog 36 (.nilFunc) := ⟨Try.zeroValue36⟩
instance : CE Try.prog 36 1 8 := ⟨Try.t36, (.nilFunc), by kernel_rfl, by kernel_rfl, by kernel_rfl, by kernel_rfl, by kernel_rfl⟩
instance : CY Try.prog 36 8 := ⟨fun w => ⟨_, Try.typeInfo36 w, rfl⟩⟩
instance : CS Try.prog 37 1 := ⟨Try.sizeOf37⟩
instance : CA Try.prog 37 false := ⟨Try.isAgg37⟩
instance : CZ Try.prog 37 (.nilFunc) := ⟨Try.zeroValue37⟩
instance : CE Try.prog 37 1 8 := ⟨Try.t37, (.nilFunc), by kernel_rfl, by kernel_rfl, by kernel_rfl, by kernel_rfl, by kernel_rfl⟩
instance : CY Try.prog 37 8 := ⟨fun w => ⟨_, Try.typeInfo37 w, rfl⟩⟩
instance : CSl Try.prog 38 5 := ⟨Try.runUnderlying38, Try.underlying38⟩
instance : CS Try.prog 38 1 := ⟨Try.sizeOf38⟩
instance : CA Try.prog 38 false := ⟨Try.isAgg38⟩
instance : CZ Try.prog 38 (.slice none 0 0) := ⟨Try.zeroValue38⟩
instance : CE Try.prog 38 1 24 := ⟨Try.t38, (.slice none 0 0), by kernel_rfl, by kernel_rfl, by kernel_rfl, by kernel_rfl, by kernel_rfl⟩
instance : CY Try.prog 38 24 := ⟨fun w => ⟨_, Try.typeInfo38 w, rfl⟩⟩
instance : CS Try.prog 39 1 := ⟨Try.sizeOf39⟩
instance : CA Try.prog 39 false := ⟨Try.isAgg39⟩
instance : CZ Try.prog 39 (.nilFunc) := ⟨Try.zeroValue39⟩
instance : CE Try.prog 39 1 8 := ⟨Try.t39, (.nilFunc), by kernel_rfl, by kernel_rfl, by kernel_rfl, by kernel_rfl, by kernel_rfl⟩
instance : CY Try.prog 39 8 := ⟨fun w => ⟨_, Try.typeInfo39 w, rfl⟩⟩
instance : CS Try.prog 40 1 := ⟨Try.sizeOf40⟩
instance : CA Try.prog 40 false := ⟨Try.isAgg40⟩
instance : CZ Try.prog 40 (.nilFunc) := ⟨Try.zeroValue40⟩
instance : CE Try.prog 40 1 8 := ⟨Try.t40, (.nilFunc), by kernel_rfl, by kernel_rfl, by kernel_rfl, by kernel_rfl, by kernel_rfl⟩
instance : CY Try.prog 40 8 := ⟨fun w => ⟨_, Try.typeInfo40 w, rfl⟩⟩
instance : CS Try.prog 41 2 := ⟨Try.sizeOf41⟩
instance : CA Try.prog 41 true := ⟨Try.isAgg41⟩
instance : CZ Try.prog 41 (.agg #[.int .i64 0, .int .i64 0]) := ⟨Try.zeroValue41⟩
instance : CE Try.prog 41 2 16 := ⟨Try.t41, (.agg #[.int .i64 0, .int .i64 0]), by kernel_rfl, by kernel_rfl, by kernel_rfl, by kernel_rfl, by kernel_rfl⟩
instance : CY Try.prog 41 16 := ⟨fun w => ⟨_, Try.typeInfo41 w, rfl⟩⟩
instance : CB Try.prog 41 [(0, 1), (1, 1)] := ⟨fun w => ⟨_, Try.runUnderlying41 w, by kernel_rfl⟩⟩
instance : CF Try.prog 41 0 0 := ⟨fun _ _ => by kernel_rfl⟩
instance : CF Try.prog 41 1 1 := ⟨fun _ _ => by kernel_rfl⟩
instance : CS Try.prog 42 2 := ⟨Try.sizeOf42⟩
instance : CA Try.prog 42 true := ⟨Try.isAgg42⟩
instance : CZ Try.prog 42 (.agg #[.int .i64 0, .int .i64 0]) := ⟨Try.zeroValue42⟩
instance : CE Try.prog 42 2 16 := ⟨Try.t42, (.agg #[.int .i64 0, .int .i64 0]), by kernel_rfl, by kernel_rfl, by kernel_rfl, by kernel_rfl, by kernel_rfl⟩
instance : CY Try.prog 42 16 := ⟨fun w => ⟨_, Try.typeInfo42 w, rfl⟩⟩
instance : CB Try.prog 42 [(0, 1), (1, 1)] := ⟨fun w => ⟨_, Try.runUnderlying42 w, by kernel_rfl⟩⟩
instance : CF Try.prog 42 0 0 := ⟨fun _ _ => by kernel_rfl⟩
instance : CF Try.prog 42 1 1 := ⟨fun _ _ => by kernel_rfl⟩
instance : CS Try.prog 43 1 := ⟨Try.sizeOf43⟩
instance : CA Try.prog 43 false := ⟨Try.isAgg43⟩
instance : CZ Try.prog 43 (.nilFunc) := ⟨Try.zeroValue43⟩
instance : CE Try.prog 43 1 8 := ⟨Try.t43, (.nilFunc), by kernel_rfl, by kernel_rfl, by kernel_rfl, by kernel_rfl, by kernel_rfl⟩
instance : CY Try.prog 43 8 := ⟨fun w => ⟨_, Try.typeInfo43 w, rfl⟩⟩
instance : CS Try.prog 45 1 := ⟨Try.sizeOf45⟩
instance : CA Try.prog 45 false := ⟨Try.isAgg45⟩
instance : CZ Try.prog 45 (.nilFunc) := ⟨Try.zeroValue45⟩
instance : CE Try.prog 45 1 8 := ⟨Try.t45, (.nilFunc), by kernel_rfl, by kernel_rfl, by kernel_rfl, by kernel_rfl, by kernel_rfl⟩
instance : CY Try.prog 45 8 := ⟨fun w => ⟨_, Try.typeInfo45 w, rfl⟩⟩
instance : CS Try.prog 46 1 := ⟨Try.sizeOf46⟩
instance : CA Try.prog 46 false := ⟨Try.isAgg46⟩
instance : CZ Try.prog 46 (.nilFunc) := ⟨Try.zeroValue46⟩
instance : CE Try.prog 46 1 8 := ⟨Try.t46, (.nilFunc), by kernel_rfl, by kernel_rfl, by kernel_rfl, by kernel_rfl, by kernel_rfl⟩
instance : CY Try.prog 46 8 := ⟨fun w => ⟨_, Try.typeInfo46 w, rfl⟩⟩
instance : CS Try.prog 48 1 := ⟨Try.sizeOf48⟩
instance : CA Try.prog 48 false := ⟨Try.isAgg48⟩
instance : CZ Try.prog 48 (.nilFunc) := ⟨Try.zeroValue48⟩
instance : CE Try.prog 48 1 8 := ⟨Try.t48, (.nilFunc), by kernel_rfl, by kernel_rfl, by kernel_rfl, by kernel_rfl, by kernel_rfl⟩
instance : CY Try.prog 48 8 := ⟨fun w => ⟨_, Try.typeInfo48 w, rfl⟩⟩
instance : CS Try.prog 49 1 := ⟨Try.sizeOf49⟩
instance : CA Try.prog 49 false := ⟨Try.isAgg49⟩
instance : CZ Try.prog 49 (.nilFunc) := ⟨Try.zeroValue49⟩
instance : CE Try.prog 49 1 8 := ⟨Try.t49, (.nilFunc), by kernel_rfl, by kernel_rfl, by kernel_rfl, by kernel_rfl, by kernel_rfl⟩
instance : CY Try.prog 49 8 := ⟨fun w => ⟨_, Try.typeInfo49 w, rfl⟩⟩
instance : CS Try.prog 51 1 := ⟨Try.sizeOf51⟩
instance : CA Try.prog 51 false := ⟨Try.isAgg51⟩
instance : CZ Try.prog 51 (.nilFunc) := ⟨Try.zeroValue51⟩
instance : CE Try.prog 51 1 8 := ⟨Try.t51, (.nilFunc), by kernel_rfl, by kernel_rfl, by kernel_rfl, by kernel_rfl, by kernel_rfl⟩
instance : CY Try.prog 51 8 := ⟨fun w => ⟨_, Try.typeInfo51 w, rfl⟩⟩
instance : CS Try.prog 52 1 := ⟨Try.sizeOf52⟩
instance : CA Try.prog 52 false := ⟨Try.isAgg52⟩
instance : CZ Try.prog 52 (.nilFunc) := ⟨Try.zeroValue52⟩
instance : CE Try.prog 52 1 8 := ⟨Try.t52, (.nilFunc), by kernel_rfl, by kernel_rfl, by kernel_rfl, by kernel_rfl, by kernel_rfl⟩
instance : CY Try.prog 52 8 := ⟨fun w => ⟨_, Try.typeInfo52 w, rfl⟩⟩
instance : CS Try.prog 53 1 := ⟨Try.sizeOf53⟩
instance : CA Try.prog 53 false := ⟨Try.isAgg53⟩
instance : CZ Try.prog 53 (.nilFunc) := ⟨Try.zeroValue53⟩
instance : CE Try.prog 53 1 8 := ⟨Try.t53, (.nilFunc), by kernel_rfl, by kernel_rfl, by kernel_rfl, by kernel_rfl, by kernel_rfl⟩
instance : CY Try.prog 53 8 := ⟨fun w => ⟨_, Try.typeInfo53 w, rfl⟩⟩
instance : CS Try.prog 55 1 := ⟨Try.sizeOf55⟩
instance : CA Try.prog 55 false := ⟨Try.isAgg55⟩
instance : CZ Try.prog 55 (.nilFunc) := ⟨Try.zeroValue55⟩
instance : CE Try.prog 55 1 8 := ⟨Try.t55, (.nilFunc), by kernel_rfl, by kernel_rfl, by kernel_rfl, by kernel_rfl, by kernel_rfl⟩
instance : CY Try.prog 55 8 := ⟨fun w => ⟨_, Try.typeInfo55 w, rfl⟩⟩
instance : CS Try.prog 56 1 := ⟨Try.sizeOf56⟩
instance : CA Try.prog 56 false := ⟨Try.isAgg56⟩
instance : CZ Try.prog 56 (.nilFunc) := ⟨Try.zeroValue56⟩
instance : CE Try.prog 56 1 8 := ⟨Try.t56, (.nilFunc), by kernel_rfl, by kernel_rfl, by kernel_rfl, by kernel_rfl, by kernel_rfl⟩
instance : CY Try.prog 56 8 := ⟨fun w => ⟨_, Try.typeInfo56 w, rfl⟩⟩
instance : CS Try.prog 57 1 := ⟨Try.sizeOf57⟩
instance : CA Try.prog 57 false := ⟨Try.isAgg57⟩
instance : CZ Try.prog 57 (.nilFunc) := ⟨Try.zeroValue57⟩
instance : CE Try.prog 57 1 8 := ⟨Try.t57, (.nilFunc), by kernel_rfl, by kernel_rfl, by kernel_rfl, by kernel_rfl, by kernel_rfl⟩
instance : CY Try.prog 57 8 := ⟨fun w => ⟨_, Try.typeInfo57 w, rfl⟩⟩
instance : CS Try.prog 58 1 := ⟨Try.sizeOf58⟩
instance : CA Try.prog 58 false := ⟨Try.isAgg58⟩
instance : CZ Try.prog 58 (.nilFunc) := ⟨Try.zeroValue58⟩
instance : CE Try.prog 58 1 8 := ⟨Try.t58, (.nilFunc), by kernel_rfl, by kernel_rfl, by kernel_rfl, by kernel_rfl, by kernel_rfl⟩
instance : CY Try.prog 58 8 := ⟨fun w => ⟨_, Try.typeInfo58 w, rfl⟩⟩
instance : CAr Try.prog 59 16 4 := ⟨Try.runUnderlying59⟩
instance : CS Try.prog 59 16 := ⟨Try.sizeOf59⟩
instance : CA Try.prog 59 true := ⟨Try.isAgg59⟩
instance : CZ Try.prog 59 (.agg #[.bool false, .bool false, .bool false, .bool false, .bool false, .bool false, .bool false, .bool false, .bool false, .bool false, .bool false, .bool false, .bool false, .bool false, .bool false, .bool false]) := ⟨Try.zeroValue59⟩
instance : CE Try.prog 59 16 16 := ⟨Try.t59, (.agg #[.bool false, .bool false, .bool false, .bool false, .bool false, .bool false, .bool false, .bool false, .bool false, .bool false, .bool false, .bool false, .bool false, .bool false, .bool false, .bool false]), by kernel_rfl, by kernel_rfl, by kernel_rfl, by kernel_rfl, by kernel_rfl⟩
instance : CY Try.prog 59 16 := ⟨fun w => ⟨_, Try.typeInfo59 w, rfl⟩⟩
instance : CS Try.prog 61 1 := ⟨Try.sizeOf61⟩
instance : CA Try.prog 61 false := ⟨Try.isAgg61⟩
instance : CZ Try.prog 61 (.nilFunc) := ⟨Try.zeroValue61⟩
instance : CE Try.prog 61 1 8 := ⟨Try.t61, (.nilFunc), by kernel_rfl, by kernel_rfl, by kernel_rfl, by kernel_rfl, by kernel_rfl⟩
instance : CY Try.prog 61 8 := ⟨fun w => ⟨_, Try.typeInfo61 w, rfl⟩⟩
instance : CS Try.prog 62 1 := ⟨Try.sizeOf62⟩
instance : CA Try.prog 62 false := ⟨Try.isAgg62⟩
instance : CZ Try.prog 62 (.nilFunc) := ⟨Try.zeroValue62⟩
instance : CE Try.prog 62 1 8 := ⟨Try.t62, (.nilFunc), by kernel_rfl, by kernel_rfl, by kernel_rfl, by kernel_rfl, by kernel_rfl⟩
instance : CY Try.prog 62 8 := ⟨fun w => ⟨_, Try.typeInfo62 w, rfl⟩⟩
instance : CS Try.prog 63 1 := ⟨Try.sizeOf63⟩
instance : CA Try.prog 63 false := ⟨Try.isAgg63⟩
instance : CZ Try.prog 63 (.nilFunc) := ⟨Try.zeroValue63⟩
instance : CE Try.prog 63 1 8 := ⟨Try.t63, (.nilFunc), by kernel_rfl, by kernel_rfl, by kernel_rfl, by kernel_rfl, by kernel_rfl⟩
instance : CY Try.prog 63 8 := ⟨fun w => ⟨_, Try.typeInfo63 w, rfl⟩⟩
instance : CS Try.prog 64 1 := ⟨Try.sizeOf64⟩
instance : CA Try.prog 64 false := ⟨Try.isAgg64⟩
instance : CZ Try.prog 64 (.pointer none) := ⟨Try.zeroValue64⟩
instance : CE Try.prog 64 1 8 := ⟨Try.t64, (.pointer none), by kernel_rfl, by kernel_rfl, by kernel_rfl, by kernel_rfl, by kernel_rfl⟩
instance : CY Try.prog 64 8 := ⟨fun w => ⟨_, Try.typeInfo64 w, rfl⟩⟩
instance : CS Try.prog 65 1 := ⟨Try.sizeOf65⟩
instance : CA Try.prog 65 false := ⟨Try.isAgg65⟩
instance : CZ Try.prog 65 (.nilFunc) := ⟨Try.zeroValue65⟩
instance : CE Try.prog 65 1 8 := ⟨Try.t65, (.nilFunc), by kernel_rfl, by kernel_rfl, by kernel_rfl, by kernel_rfl, by kernel_rfl⟩
instance : CY Try.prog 65 8 := ⟨fun w => ⟨_, Try.typeInfo65 w, rfl⟩⟩
instance : CS Try.prog 66 1 := ⟨Try.sizeOf66⟩
instance : CA Try.prog 66 false := ⟨Try.isAgg66⟩
instance : CZ Try.prog 66 (.nilFunc) := ⟨Try.zeroValue66⟩
instance : CE Try.prog 66 1 8 := ⟨Try.t66, (.nilFunc), by kernel_rfl, by kernel_rfl, by kernel_rfl, by kernel_rfl, by kernel_rfl⟩
instance : CY Try.prog 66 8 := ⟨fun w => ⟨_, Try.typeInfo66 w, rfl⟩⟩
instance : CS Try.prog 67 1 := ⟨Try.sizeOf67⟩
instance : CA Try.prog 67 false := ⟨Try.isAgg67⟩
instance : CZ Try.prog 67 (.nilFunc) := ⟨Try.zeroValue67⟩
instance : CE Try.prog 67 1 8 := ⟨Try.t67, (.nilFunc), by kernel_rfl, by kernel_rfl, by kernel_rfl, by kernel_rfl, by kernel_rfl⟩
instance : CY Try.prog 67 8 := ⟨fun w => ⟨_, Try.typeInfo67 w, rfl⟩⟩
instance : CS Try.prog 68 1 := ⟨Try.sizeOf68⟩
instance : CA Try.prog 68 false := ⟨Try.isAgg68⟩
instance : CZ Try.prog 68 (.nilFunc) := ⟨Try.zeroValue68⟩
instance : CE Try.prog 68 1 8 := ⟨Try.t68, (.nilFunc), by kernel_rfl, by kernel_rfl, by kernel_rfl, by kernel_rfl, by kernel_rfl⟩
instance : CY Try.prog 68 8 := ⟨fun w => ⟨_, Try.typeInfo68 w, rfl⟩⟩
instance : CS Try.prog 69 1 := ⟨Try.sizeOf69⟩
instance : CA Try.prog 69 false := ⟨Try.isAgg69⟩
instance : CZ Try.prog 69 (.nilFunc) := ⟨Try.zeroValue69⟩
instance : CE Try.prog 69 1 8 := ⟨Try.t69, (.nilFunc), by kernel_rfl, by kernel_rfl, by kernel_rfl, by kernel_rfl, by kernel_rfl⟩
instance : CY Try.prog 69 8 := ⟨fun w => ⟨_, Try.typeInfo69 w, rfl⟩⟩
instance : CS Try.prog 70 1 := ⟨Try.sizeOf70⟩
instance : CA Try.prog 70 false := ⟨Try.isAgg70⟩
instance : CZ Try.prog 70 (.nilFunc) := ⟨Try.zeroValue70⟩
instance : CE Try.prog 70 1 8 := ⟨Try.t70, (.nilFunc), by kernel_rfl, by kernel_rfl, by kernel_rfl, by kernel_rfl, by kernel_rfl⟩
instance : CY Try.prog 70 8 := ⟨fun w => ⟨_, Try.typeInfo70 w, rfl⟩⟩
instance : CS Try.prog 71 1 := ⟨Try.sizeOf71⟩
instance : CA Try.prog 71 false := ⟨Try.isAgg71⟩
instance : CZ Try.prog 71 (.nilFunc) := ⟨Try.zeroValue71⟩
instance : CE Try.prog 71 1 8 := ⟨Try.t71, (.nilFunc), by kernel_rfl, by kernel_rfl, by kernel_rfl, by kernel_rfl, by kernel_rfl⟩
instance : CY Try.prog 71 8 := ⟨fun w => ⟨_, Try.typeInfo71 w, rfl⟩⟩
instance : CS Try.prog 72 1 := ⟨Try.sizeOf72⟩
instance : CA Try.prog 72 false := ⟨Try.isAgg72⟩
instance : CZ Try.prog 72 (.nilFunc) := ⟨Try.zeroValue72⟩
instance : CE Try.prog 72 1 8 := ⟨Try.t72, (.nilFunc), by kernel_rfl, by kernel_rfl, by kernel_rfl, by kernel_rfl, by kernel_rfl⟩
instance : CY Try.prog 72 8 := ⟨fun w => ⟨_, Try.typeInfo72 w, rfl⟩⟩
instance : CS Try.prog 73 1 := ⟨Try.sizeOf73⟩
instance : CA Try.prog 73 false := ⟨Try.isAgg73⟩
instance : CZ Try.prog 73 (.nilFunc) := ⟨Try.zeroValue73⟩
instance : CE Try.prog 73 1 8 := ⟨Try.t73, (.nilFunc), by kernel_rfl, by kernel_rfl, by kernel_rfl, by kernel_rfl, by kernel_rfl⟩
instance : CY Try.prog 73 8 := ⟨fun w => ⟨_, Try.typeInfo73 w, rfl⟩⟩
instance : CS Try.prog 74 2 := ⟨Try.sizeOf74⟩
instance : CA Try.prog 74 true := ⟨Try.isAgg74⟩
instance : CZ Try.prog 74 (.agg #[.int .i64 0, .int .i64 0]) := ⟨Try.zeroValue74⟩
instance : CE Try.prog 74 2 16 := ⟨Try.t74, (.agg #[.int .i64 0, .int .i64 0]), by kernel_rfl, by kernel_rfl, by kernel_rfl, by kernel_rfl, by kernel_rfl⟩
instance : CY Try.prog 74 16 := ⟨fun w => ⟨_, Try.typeInfo74 w, rfl⟩⟩
instance : CB Try.prog 74 [(0, 1), (1, 1)] := ⟨fun w => ⟨_, Try.runUnderlying74 w, by kernel_rfl⟩⟩
instance : CF Try.prog 74 0 0 := ⟨fun _ _ => by kernel_rfl⟩
instance : CF Try.prog 74 1 1 := ⟨fun _ _ => by kernel_rfl⟩
instance : CS Try.prog 75 1 := ⟨Try.sizeOf75⟩
instance : CA Try.prog 75 false := ⟨Try.isAgg75⟩
instance : CZ Try.prog 75 (.nilFunc) := ⟨Try.zeroValue75⟩
instance : CE Try.prog 75 1 8 := ⟨Try.t75, (.nilFunc), by kernel_rfl, by kernel_rfl, by kernel_rfl, by kernel_rfl, by kernel_rfl⟩
instance : CY Try.prog 75 8 := ⟨fun w => ⟨_, Try.typeInfo75 w, rfl⟩⟩
instance : CS Try.prog 76 1 := ⟨Try.sizeOf76⟩
instance : CA Try.prog 76 false := ⟨Try.isAgg76⟩
instance : CZ Try.prog 76 (.nilFunc) := ⟨Try.zeroValue76⟩
instance : CE Try.prog 76 1 8 := ⟨Try.t76, (.nilFunc), by kernel_rfl, by kernel_rfl, by kernel_rfl, by kernel_rfl, by kernel_rfl⟩
instance : CY Try.prog 76 8 := ⟨fun w => ⟨_, Try.typeInfo76 w, rfl⟩⟩
instance : CS Try.prog 77 1 := ⟨Try.sizeOf77⟩
instance : CA Try.prog 77 false := ⟨Try.isAgg77⟩
instance : CZ Try.prog 77 (.nilFunc) := ⟨Try.zeroValue77⟩
instance : CE Try.prog 77 1 8 := ⟨Try.t77, (.nilFunc), by kernel_rfl, by kernel_rfl, by kernel_rfl, by kernel_rfl, by kernel_rfl⟩
instance : CY Try.prog 77 8 := ⟨fun w => ⟨_, Try.typeInfo77 w, rfl⟩⟩
instance : CS Try.prog 78 2 := ⟨Try.sizeOf78⟩
instance : CA Try.prog 78 true := ⟨Try.isAgg78⟩
instance : CZ Try.prog 78 (.agg #[.slice none 0 0, .int .i64 0]) := ⟨Try.zeroValue78⟩
instance : CE Try.prog 78 2 32 := ⟨Try.t78, (.agg #[.slice none 0 0, .int .i64 0]), by kernel_rfl, by kernel_rfl, by kernel_rfl, by kernel_rfl, by kernel_rfl⟩
instance : CY Try.prog 78 32 := ⟨fun w => ⟨_, Try.typeInfo78 w, rfl⟩⟩
instance : CB Try.prog 78 [(0, 1), (1, 1)] := ⟨fun w => ⟨_, Try.runUnderlying78 w, by kernel_rfl⟩⟩
instance : CF Try.prog 78 0 0 := ⟨fun _ _ => by kernel_rfl⟩
instance : CF Try.prog 78 1 1 := ⟨fun _ _ => by kernel_rfl⟩
instance : CS Try.prog 79 2 := ⟨Try.sizeOf79⟩
instance : CA Try.prog 79 true := ⟨Try.isAgg79⟩
instance : CZ Try.prog 79 (.agg #[.slice none 0 0, .int .i64 0]) := ⟨Try.zeroValue79⟩
instance : CE Try.prog 79 2 32 := ⟨Try.t79, (.agg #[.slice none 0 0, .int .i64 0]), by kernel_rfl, by kernel_rfl, by kernel_rfl, by kernel_rfl, by kernel_rfl⟩
instance : CY Try.prog 79 32 := ⟨fun w => ⟨_, Try.typeInfo79 w, rfl⟩⟩
instance : CB Try.prog 79 [(0, 1), (1, 1)] := ⟨fun w => ⟨_, Try.runUnderlying79 w, by kernel_rfl⟩⟩
instance : CF Try.prog 79 0 0 := ⟨fun _ _ => by kernel_rfl⟩
instance : CF Try.prog 79 1 1 := ⟨fun _ _ => by kernel_rfl⟩
instance : CS Try.prog 80 1 := ⟨Try.sizeOf80⟩
instance : CA Try.prog 80 false := ⟨Try.isAgg80⟩
instance : CZ Try.prog 80 (.nilFunc) := ⟨Try.zeroValue80⟩
instance : CE Try.prog 80 1 8 := ⟨Try.t80, (.nilFunc), by kernel_rfl, by kernel_rfl, by kernel_rfl, by kernel_rfl, by kernel_rfl⟩
instance : CY Try.prog 80 8 := ⟨fun w => ⟨_, Try.typeInfo80 w, rfl⟩⟩
instance : CS Try.prog 81 1 := ⟨Try.sizeOf81⟩
instance : CA Try.prog 81 false := ⟨Try.isAgg81⟩
instance : CZ Try.prog 81 (.nilFunc) := ⟨Try.zeroValue81⟩
instance : CE Try.prog 81 1 8 := ⟨Try.t81, (.nilFunc), by kernel_rfl, by kernel_rfl, by kernel_rfl, by kernel_rfl, by kernel_rfl⟩
instance : CY Try.prog 81 8 := ⟨fun w => ⟨_, Try.typeInfo81 w, rfl⟩⟩
instance : CS Try.prog 82 1 := ⟨Try.sizeOf82⟩
instance : CA Try.prog 82 false := ⟨Try.isAgg82⟩
instance : CZ Try.prog 82 (.nilFunc) := ⟨Try.zeroValue82⟩
instance : CE Try.prog 82 1 8 := ⟨Try.t82, (.nilFunc), by kernel_rfl, by kernel_rfl, by kernel_rfl, by kernel_rfl, by kernel_rfl⟩
instance : CY Try.prog 82 8 := ⟨fun w => ⟨_, Try.typeInfo82 w, rfl⟩⟩
instance : CS Try.prog 83 1 := ⟨Try.sizeOf83⟩
instance : CA Try.prog 83 false := ⟨Try.isAgg83⟩
instance : CZ Try.prog 83 (.int .u64 0) := ⟨Try.zeroValue83⟩
instance : CE Try.prog 83 1 8 := ⟨Try.t83, (.int .u64 0), by kernel_rfl, by kernel_rfl, by kernel_rfl, by kernel_rfl, by kernel_rfl⟩
instance : CY Try.prog 83 8 := ⟨fun w => ⟨_, Try.typeInfo83 w, rfl⟩⟩
instance : CS Try.prog 84 1 := ⟨Try.sizeOf84⟩
instance : CA Try.prog 84 false := ⟨Try.isAgg84⟩
instance : CZ Try.prog 84 (.nilFunc) := ⟨Try.zeroValue84⟩
instance : CE Try.prog 84 1 8 := ⟨Try.t84, (.nilFunc), by kernel_rfl, by kernel_rfl, by kernel_rfl, by kernel_rfl, by kernel_rfl⟩
instance : CY Try.prog 84 8 := ⟨fun w => ⟨_, Try.typeInfo84 w, rfl⟩⟩
instance : CIn Try.prog 85 := ⟨Try.runUnderlying85⟩
instance : CS Try.prog 85 1 := ⟨Try.sizeOf85⟩
instance : CA Try.prog 85 false := ⟨Try.isAgg85⟩
instance : CZ Try.prog 85 (.int .i64 0) := ⟨Try.zeroValue85⟩
instance : CE Try.prog 85 1 8 := ⟨Try.t85, (.int .i64 0), by kernel_rfl, by kernel_rfl, by kernel_rfl, by kernel_rfl, by kernel_rfl⟩
instance : CY Try.prog 85 8 := ⟨fun w => ⟨_, Try.typeInfo85 w, rfl⟩⟩
instance : CS Try.prog 87 1 := ⟨Try.sizeOf87⟩
instance : CA Try.prog 87 false := ⟨Try.isAgg87⟩
instance : CZ Try.prog 87 (.nilFunc) := ⟨Try.zeroValue87⟩
instance : CE Try.prog 87 1 8 := ⟨Try.t87, (.nilFunc), by kernel_rfl, by kernel_rfl, by kernel_rfl, by kernel_rfl, by kernel_rfl⟩
instance : CY Try.prog 87 8 := ⟨fun w => ⟨_, Try.typeInfo87 w, rfl⟩⟩
instance : CS Try.prog 88 1 := ⟨Try.sizeOf88⟩
instance : CA Try.prog 88 false := ⟨Try.isAgg88⟩
instance : CZ Try.prog 88 (.nilFunc) := ⟨Try.zeroValue88⟩
instance : CE Try.prog 88 1 8 := ⟨Try.t88, (.nilFunc), by kernel_rfl, by kernel_rfl, by kernel_rfl, by kernel_rfl, by kernel_rfl⟩
instance : CY Try.prog 88 8 := ⟨fun w => ⟨_, Try.typeInfo88 w, rfl⟩⟩
instance : CS Try.prog 89 1 := ⟨Try.sizeOf89⟩
instance : CA Try.prog 89 false := ⟨Try.isAgg89⟩
instance : CZ Try.prog 89 (.nilFunc) := ⟨Try.zeroValue89⟩
instance : CE Try.prog 89 1 8 := ⟨Try.t89, (.nilFunc), by kernel_rfl, by kernel_rfl, by kernel_rfl, by kernel_rfl, by kernel_rfl⟩
instance : CY Try.prog 89 8 := ⟨fun w => ⟨_, Try.typeInfo89 w, rfl⟩⟩
instance : CS Try.prog 91 1 := ⟨Try.sizeOf91⟩
instance : CA Try.prog 91 false := ⟨Try.isAgg91⟩
instance : CZ Try.prog 91 (.nilFunc) := ⟨Try.zeroValue91⟩
instance : CE Try.prog 91 1 8 := ⟨Try.t91, (.nilFunc), by kernel_rfl, by kernel_rfl, by kernel_rfl, by kernel_rfl, by kernel_rfl⟩
instance : CY Try.prog 91 8 := ⟨fun w => ⟨_, Try.typeInfo91 w, rfl⟩⟩
instance : CS Try.prog 92 1 := ⟨Try.sizeOf92⟩
instance : CA Try.prog 92 false := ⟨Try.isAgg92⟩
instance : CZ Try.prog 92 (.nilFunc) := ⟨Try.zeroValue92⟩
instance : CE Try.prog 92 1 8 := ⟨Try.t92, (.nilFunc), by kernel_rfl, by kernel_rfl, by kernel_rfl, by kernel_rfl, by kernel_rfl⟩
instance : CY Try.prog 92 8 := ⟨fun w => ⟨_, Try.typeInfo92 w, rfl⟩⟩
instance : CS Try.prog 93 1 := ⟨Try.sizeOf93⟩
instance : CA Try.prog 93 false := ⟨Try.isAgg93⟩
instance : CZ Try.prog 93 (.int .u32 0) := ⟨Try.zeroValue93⟩
instance : CE Try.prog 93 1 4 := ⟨Try.t93, (.int .u32 0), by kernel_rfl, by kernel_rfl, by kernel_rfl, by kernel_rfl, by kernel_rfl⟩
instance : CY Try.prog 93 4 := ⟨fun w => ⟨_, Try.typeInfo93 w, rfl⟩⟩
instance : CS Try.prog 94 1 := ⟨Try.sizeOf94⟩
instance : CA Try.prog 94 false := ⟨Try.isAgg94⟩
instance : CZ Try.prog 94 (.nilFunc) := ⟨Try.zeroValue94⟩
instance : CE Try.prog 94 1 8 := ⟨Try.t94, (.nilFunc), by kernel_rfl, by kernel_rfl, by kernel_rfl, by kernel_rfl, by kernel_rfl⟩
instance : CY Try.prog 94 8 := ⟨fun w => ⟨_, Try.typeInfo94 w, rfl⟩⟩
instance : CS Try.prog 95 1 := ⟨Try.sizeOf95⟩
instance : CA Try.prog 95 false := ⟨Try.isAgg95⟩
instance : CZ Try.prog 95 (.int .u64 0) := ⟨Try.zeroValue95⟩
instance : CE Try.prog 95 1 8 := ⟨Try.t95, (.int .u64 0), by kernel_rfl, by kernel_rfl, by kernel_rfl, by kernel_rfl, by kernel_rfl⟩
instance : CY Try.prog 95 8 := ⟨fun w => ⟨_, Try.typeInfo95 w, rfl⟩⟩
instance : CS Try.prog 96 1 := ⟨Try.sizeOf96⟩
instance : CA Try.prog 96 false := ⟨Try.isAgg96⟩
instance : CZ Try.prog 96 (.int .u64 0) := ⟨Try.zeroValue96⟩
instance : CE Try.prog 96 1 8 := ⟨Try.t96, (.int .u64 0), by kernel_rfl, by kernel_rfl, by kernel_rfl, by kernel_rfl, by kernel_rfl⟩
instance : CY Try.prog 96 8 := ⟨fun w => ⟨_, Try.typeInfo96 w, rfl⟩⟩
instance : CS Try.prog 97 1 := ⟨Try.sizeOf97⟩
instance : CA Try.prog 97 false := ⟨Try.isAgg97⟩
instance : CZ Try.prog 97 (.nilFunc) := ⟨Try.zeroValue97⟩
instance : CE Try.prog 97 1 8 := ⟨Try.t97, (.nilFunc), by kernel_rfl, by kernel_rfl, by kernel_rfl, by kernel_rfl, by kernel_rfl⟩
instance : CY Try.prog 97 8 := ⟨fun w => ⟨_, Try.typeInfo97 w, rfl⟩⟩
instance : CS Try.prog 98 1 := ⟨Try.sizeOf98⟩
instance : CA Try.prog 98 false := ⟨Try.isAgg98⟩
instance : CZ Try.prog 98 (.nilFunc) := ⟨Try.zeroValue98⟩
instance : CE Try.prog 98 1 8 := ⟨Try.t98, (.nilFunc), by kernel_rfl, by kernel_rfl, by kernel_rfl, by kernel_rfl, by kernel_rfl⟩
instance : CY Try.prog 98 8 := ⟨fun w => ⟨_, Try.typeInfo98 w, rfl⟩⟩
instance : CS Try.prog 99 1 := ⟨Try.sizeOf99⟩
instance : CA Try.prog 99 false := ⟨Try.isAgg99⟩
instance : CZ Try.prog 99 (.nilFunc) := ⟨Try.zeroValue99⟩
instance : CE Try.prog 99 1 8 := ⟨Try.t99, (.nilFunc), by kernel_rfl, by kernel_rfl, by kernel_rfl, by kernel_rfl, by kernel_rfl⟩
instance : CY Try.prog 99 8 := ⟨fun w => ⟨_, Try.typeInfo99 w, rfl⟩⟩
instance : CS Try.prog 100 1 := ⟨Try.sizeOf100⟩
instance : CA Try.prog 100 false := ⟨Try.isAgg100⟩
instance : CZ Try.prog 100 (.pointer none) := ⟨Try.zeroValue100⟩
instance : CE Try.prog 100 1 8 := ⟨Try.t100, (.pointer none), by kernel_rfl, by kernel_rfl, by kernel_rfl, by kernel_rfl, by kernel_rfl⟩
instance : CY Try.prog 100 8 := ⟨fun w => ⟨_, Try.typeInfo100 w, rfl⟩⟩
instance : CS Try.prog 101 1 := ⟨Try.sizeOf101⟩
instance : CA Try.prog 101 false := ⟨Try.isAgg101⟩
instance : CZ Try.prog 101 (.nilFunc) := ⟨Try.zeroValue101⟩
instance : CE Try.prog 101 1 8 := ⟨Try.t101, (.nilFunc), by kernel_rfl, by kernel_rfl, by kernel_rfl, by kernel_rfl, by kernel_rfl⟩
instance : CY Try.prog 101 8 := ⟨fun w => ⟨_, Try.typeInfo101 w, rfl⟩⟩
instance : CS Try.prog 102 1 := ⟨Try.sizeOf102⟩
instance : CA Try.prog 102 false := ⟨Try.isAgg102⟩
instance : CZ Try.prog 102 (.nilFunc) := ⟨Try.zeroValue102⟩
instance : CE Try.prog 102 1 8 := ⟨Try.t102, (.nilFunc), by kernel_rfl, by kernel_rfl, by kernel_rfl, by kernel_rfl, by kernel_rfl⟩
instance : CY Try.prog 102 8 := ⟨fun w => ⟨_, Try.typeInfo102 w, rfl⟩⟩
instance : CS Try.prog 103 1 := ⟨Try.sizeOf103⟩
instance : CA Try.prog 103 false := ⟨Try.isAgg103⟩
instance : CZ Try.prog 103 (.pointer none) := ⟨Try.zeroValue103⟩
instance : CE Try.prog 103 1 8 := ⟨Try.t103, (.pointer none), by kernel_rfl, by kernel_rfl, by kernel_rfl, by kernel_rfl, by kernel_rfl⟩
instance : CY Try.prog 103 8 := ⟨fun w => ⟨_, Try.typeInfo103 w, rfl⟩⟩
instance : CS Try.prog 105 1 := ⟨Try.sizeOf105⟩
instance : CA Try.prog 105 false := ⟨Try.isAgg105⟩
instance : CZ Try.prog 105 (.nilFunc) := ⟨Try.zeroValue105⟩
instance : CE Try.prog 105 1 8 := ⟨Try.t105, (.nilFunc), by kernel_rfl, by kernel_rfl, by kernel_rfl, by kernel_rfl, by kernel_rfl⟩
instance : CY Try.prog 105 8 := ⟨fun w => ⟨_, Try.typeInfo105 w, rfl⟩⟩
instance : CS Try.prog 106 1 := ⟨Try.sizeOf106⟩
instance : CA Try.prog 106 false := ⟨Try.isAgg106⟩
instance : CZ Try.prog 106 (.nilFunc) := ⟨Try.zeroValue106⟩
instance : CE Try.prog 106 1 8 := ⟨Try.t106, (.nilFunc), by kernel_rfl, by kernel_rfl, by kernel_rfl, by kernel_rfl, by kernel_rfl⟩
instance : CY Try.prog 106 8 := ⟨fun w => ⟨_, Try.typeInfo106 w, rfl⟩⟩
instance : CAr Try.prog 109 0 16 := ⟨Try.runUnderlying109⟩
instance : CS Try.prog 109 0 := ⟨Try.sizeOf109⟩
instance : CA Try.prog 109 true := ⟨Try.isAgg109⟩
instance : CZ Try.prog 109 (.agg #[]) := ⟨Try.zeroValue109⟩
instance : CE Try.prog 109 0 0 := ⟨Try.t109, (.agg #[]), by kernel_rfl, by kernel_rfl, by kernel_rfl, by kernel_rfl, by kernel_rfl⟩
instance : CY Try.prog 109 0 := ⟨fun w => ⟨_, Try.typeInfo109 w, rfl⟩⟩
instance : CS Try.prog 112 1 := ⟨Try.sizeOf112⟩
instance : CA Try.prog 112 false := ⟨Try.isAgg112⟩
instance : CZ Try.prog 112 (.nilFunc) := ⟨Try.zeroValue112⟩
instance : CE Try.prog 112 1 8 := ⟨Try.t112, (.nilFunc), by kernel_rfl, by kernel_rfl, by kernel_rfl, by kernel_rfl, by kernel_rfl⟩
instance : CY Try.prog 112 8 := ⟨fun w => ⟨_, Try.typeInfo112 w, rfl⟩⟩
instance : CS Try.prog 115 1 := ⟨Try.sizeOf115⟩
instance : CA Try.prog 115 false := ⟨Try.isAgg115⟩
instance : CZ Try.prog 115 (.nilFunc) := ⟨Try.zeroValue115⟩
instance : CE Try.prog 115 1 8 := ⟨Try.t115, (.nilFunc), by kernel_rfl, by kernel_rfl, by kernel_rfl, by kernel_rfl, by kernel_rfl⟩
instance : CY Try.prog 115 8 := ⟨fun w => ⟨_, Try.typeInfo115 w, rfl⟩⟩
instance : CS Try.prog 116 1 := ⟨Try.sizeOf116⟩
instance : CA Try.prog 116 false := ⟨Try.isAgg116⟩
instance : CZ Try.prog 116 (.pointer none) := ⟨Try.zeroValue116⟩
instance : CE Try.prog 116 1 8 := ⟨Try.t116, (.pointer none), by kernel_rfl, by kernel_rfl, by kernel_rfl, by kernel_rfl, by kernel_rfl⟩
instance : CY Try.prog 116 8 := ⟨fun w => ⟨_, Try.typeInfo116 w, rfl⟩⟩
end V
end Go.Proofs.Ytambkpacecjheaa
