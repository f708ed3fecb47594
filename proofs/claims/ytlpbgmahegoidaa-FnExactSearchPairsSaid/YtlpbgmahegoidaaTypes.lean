/- The facts on the types of this translation, as instances. No condition. -/
import Derived.Test.YtlpbgmahegoidaaLibB
namespace Go.Proofs.Ytlpbgmahegoidaa
namespace V
open Go.RowKit
instance : CS Try.prog 1 1 := ⟨Try.sizeOf1⟩
instance : CA Try.prog 1 false := ⟨Try.isAgg1⟩
instance : CZ Try.prog 1 (.nilFunc) := ⟨Try.zeroValue1⟩
instance : CE Try.prog 1 1 8 := ⟨Try.t1, (.nilFunc), by kernel_rfl, by kernel_rfl, by kernel_rfl, by kernel_rfl, by kernel_rfl⟩
instance : CY Try.prog 1 8 := ⟨fun w => ⟨_, Try.typeInfo1 w, rfl⟩⟩
instance : CIn Try.prog 2 := ⟨Try.runUnderlying2⟩
instance : CS Try.prog 2 1 := ⟨Try.sizeOf2⟩
instance : CA Try.prog 2 false := ⟨Try.isAgg2⟩
instance : CZ Try.prog 2 (.int .i64 0) := ⟨Try.zeroValue2⟩
instance : CE Try.prog 2 1 8 := ⟨Try.t2, (.int .i64 0), by kernel_rfl, by kernel_rfl, by kernel_rfl, by kernel_rfl, by kernel_rfl⟩
instance : CY Try.prog 2 8 := ⟨fun w => ⟨_, Try.typeInfo2 w, rfl⟩⟩
instance : CIn Try.prog 3 := ⟨Try.runUnderlying3⟩
instance : CS Try.prog 3 1 := ⟨Try.sizeOf3⟩
instance : CA Try.prog 3 false := ⟨Try.isAgg3⟩
instance : CZ Try.prog 3 (.int .i64 0) := ⟨Try.zeroValue3⟩
instance : CE Try.prog 3 1 8 := ⟨Try.t3, (.int .i64 0), by kernel_rfl, by kernel_rfl, by kernel_rfl, by kernel_rfl, by kernel_rfl⟩
instance : CY Try.prog 3 8 := ⟨fun w => ⟨_, Try.typeInfo3 w, rfl⟩⟩
instance : CBo Try.prog 4 := ⟨Try.runUnderlying4⟩
instance : CS Try.prog 4 1 := ⟨Try.sizeOf4⟩
instance : CA Try.prog 4 false := ⟨Try.isAgg4⟩
instance : CZ Try.prog 4 (.bool false) := ⟨Try.zeroValue4⟩
instance : CE Try.prog 4 1 1 := ⟨Try.t4, (.bool false), by kernel_rfl, by kernel_rfl, by kernel_rfl, by kernel_rfl, by kernel_rfl⟩
instance : CY Try.prog 4 1 := ⟨fun w => ⟨_, Try.typeInfo4 w, rfl⟩⟩
instance : CU8 Try.prog 5 := ⟨Try.runUnderlying5⟩
instance : CS Try.prog 5 1 := ⟨Try.sizeOf5⟩
instance : CA Try.prog 5 false := ⟨Try.isAgg5⟩
instance : CZ Try.prog 5 (.int .u8 0) := ⟨Try.zeroValue5⟩
instance : CE Try.prog 5 1 1 := ⟨Try.t5, (.int .u8 0), by kernel_rfl, by kernel_rfl, by kernel_rfl, by kernel_rfl, by kernel_rfl⟩
instance : CY Try.prog 5 1 := ⟨fun w => ⟨_, Try.typeInfo5 w, rfl⟩⟩
instance : CSt Try.prog 9 := ⟨Try.runUnderlying9⟩
instance : CS Try.prog 9 1 := ⟨Try.sizeOf9⟩
instance : CA Try.prog 9 false := ⟨Try.isAgg9⟩
instance : CZ Try.prog 9 (.string ⟨#[]⟩) := ⟨Try.zeroValue9⟩
instance : CE Try.prog 9 1 16 := ⟨Try.t9, (.string ⟨#[]⟩), by kernel_rfl, by kernel_rfl, by kernel_rfl, by kernel_rfl, by kernel_rfl⟩
instance : CY Try.prog 9 16 := ⟨fun w => ⟨_, Try.typeInfo9 w, rfl⟩⟩
instance : CS Try.prog 12 1 := ⟨Try.sizeOf12⟩
instance : CA Try.prog 12 false := ⟨Try.isAgg12⟩
instance : CZ Try.prog 12 (.int .u64 0) := ⟨Try.zeroValue12⟩
instance : CE Try.prog 12 1 8 := ⟨Try.t12, (.int .u64 0), by kernel_rfl, by kernel_rfl, by kernel_rfl, by kernel_rfl, by kernel_rfl⟩
instance : CY Try.prog 12 8 := ⟨fun w => ⟨_, Try.typeInfo12 w, rfl⟩⟩
instance : CS Try.prog 15 1 := ⟨Try.sizeOf15⟩
instance : CA Try.prog 15 false := ⟨Try.isAgg15⟩
instance : CZ Try.prog 15 (.pointer none) := ⟨Try.zeroValue15⟩
instance : CE Try.prog 15 1 8 := ⟨Try.t15, (.pointer none), by kernel_rfl, by kernel_rfl, by kernel_rfl, by kernel_rfl, by kernel_rfl⟩
instance : CY Try.prog 15 8 := ⟨fun w => ⟨_, Try.typeInfo15 w, rfl⟩⟩
instance : CS Try.prog 16 1 := ⟨Try.sizeOf16⟩
instance : CA Try.prog 16 false := ⟨Try.isAgg16⟩
instance : CZ Try.prog 16 (.pointer none) := ⟨Try.zeroValue16⟩
instance : CE Try.prog 16 1 8 := ⟨Try.t16, (.pointer none), by kernel_rfl, by kernel_rfl, by kernel_rfl, by kernel_rfl, by kernel_rfl⟩
instance : CY Try.prog 16 8 := ⟨fun w => ⟨_, Try.typeInfo16 w, rfl⟩⟩
instance : CS Try.prog 21 1 := ⟨Try.sizeOf21⟩
instance : CA Try.prog 21 false := ⟨Try.isAgg21⟩
instance : CZ Try.prog 21 (.int .i32 0) := ⟨Try.zeroValue21⟩
instance : CE Try.prog 21 1 4 := ⟨Try.t21, (.int .i32 0), by kernel_rfl, by kernel_rfl, by kernel_rfl, by kernel_rfl, by kernel_rfl⟩
instance : CY Try.prog 21 4 := ⟨fun w => ⟨_, Try.typeInfo21 w, rfl⟩⟩
instance : CSl Try.prog 22 59 := ⟨Try.runUnderlying22, Try.underlying22⟩
instance : CS Try.prog 22 1 := ⟨Try.sizeOf22⟩
instance : CA Try.prog 22 false := ⟨Try.isAgg22⟩
instance : CZ Try.prog 22 (.slice none 0 0) := ⟨Try.zeroValue22⟩
instance : CE Try.prog 22 1 24 := ⟨Try.t22, (.slice none 0 0), by kernel_rfl, by kernel_rfl, by kernel_rfl, by kernel_rfl, by kernel_rfl⟩
instance : CY Try.prog 22 24 := ⟨fun w => ⟨_, Try.typeInfo22 w, rfl⟩⟩
instance : CS Try.prog 23 1 := ⟨Try.sizeOf23⟩
instance : CA Try.prog 23 false := ⟨Try.isAgg23⟩
instance : CZ Try.prog 23 (.nilFunc) := ⟨Try.zeroValue23⟩
instance : CE Try.prog 23 1 8 := ⟨Try.t23, (.nilFunc), by kernel_rfl, by kernel_rfl, by kernel_rfl, by kernel_rfl, by kernel_rfl⟩
instance : CY Try.prog 23 8 := ⟨fun w => ⟨_, Try.typeInfo23 w, rfl⟩⟩
instance : CSl Try.prog 24 9 := ⟨Try.runUnderlying24, Try.underlying24⟩
instance : CS Try.prog 24 1 := ⟨Try.sizeOf24⟩
instance : CA Try.prog 24 false := ⟨Try.isAgg24⟩
instance : CZ Try.prog 24 (.slice none 0 0) := ⟨Try.zeroValue24⟩
instance : CE Try.prog 24 1 24 := ⟨Try.t24, (.slice none 0 0), by kernel_rfl, by kernel_rfl, by kernel_rfl, by kernel_rfl, by kernel_rfl⟩
instance : CY Try.prog 24 24 := ⟨fun w => ⟨_, Try.typeInfo24 w, rfl⟩⟩
instance : CS Try.prog 25 1 := ⟨Try.sizeOf25⟩
instance : CA Try.prog 25 false := ⟨Try.isAgg25⟩
instance : CZ Try.prog 25 (.nilFunc) := ⟨Try.zeroValue25⟩
instance : CE Try.prog 25 1 8 := ⟨Try.t25, (.nilFunc), by kernel_rfl, by kernel_rfl, by kernel_rfl, by kernel_rfl, by kernel_rfl⟩
instance : CY Try.prog 25 8 := ⟨fun w => ⟨_, Try.typeInfo25 w, rfl⟩⟩
instance : CSl Try.prog 26 62 := ⟨Try.runUnderlying26, Try.underlying26⟩
instance : CS Try.prog 26 1 := ⟨Try.sizeOf26⟩
instance : CA Try.prog 26 false := ⟨Try.isAgg26⟩
instance : CZ Try.prog 26 (.slice none 0 0) := ⟨Try.zeroValue26⟩
instance : CE Try.prog 26 1 24 := ⟨Try.t26, (.slice none 0 0), by kernel_rfl, by kernel_rfl, by kernel_rfl, by kernel_rfl, by kernel_rfl⟩
instance : CY Try.prog 26 24 := ⟨fun w => ⟨_, Try.typeInfo26 w, rfl⟩⟩
instance : CS Try.prog 27 1 := ⟨Try.sizeOf27⟩
instance : CA Try.prog 27 false := ⟨Try.isAgg27⟩
instance : CZ Try.prog 27 (.nilFunc) := ⟨Try.zeroValue27⟩
instance : CE Try.prog 27 1 8 := ⟨Try.t27, (.nilFunc), by kernel_rfl, by kernel_rfl, by kernel_rfl, by kernel_rfl, by kernel_rfl⟩
instance : CY Try.prog 27 8 := ⟨fun w => ⟨_, Try.typeInfo27 w, rfl⟩⟩
instance : CS Try.prog 28 1 := ⟨Try.sizeOf28⟩
instance : CA Try.prog 28 false := ⟨Try.isAgg28⟩
instance : CZ Try.prog 28 (.nilFunc) := ⟨Try.zeroValue28⟩
instance : CE Try.prog 28 1 8 := ⟨Try.t28, (.nilFunc), by kernel_rfl, by kernel_rfl, by kernel_rfl, by kernel_rfl, by kernel_rfl⟩
instance : CY Try.prog 28 8 := ⟨fun w => ⟨_, Try.typeInfo28 w, rfl⟩⟩
instance : CS Try.prog 29 1 := ⟨Try.sizeOf29⟩
instance : CA Try.prog 29 false := ⟨Try.isAgg29⟩
instance : CZ Try.prog 29 (.nilFunc) := ⟨Try.zeroValue29⟩
instance : CE Try.prog 29 1 8 := ⟨Try.t29, (.nilFunc), by kernel_rfl, by kernel_rfl, by kernel_rfl, by kernel_rfl, by kernel_rfl⟩
instance : CY Try.prog 29 8 := ⟨fun w => ⟨_, Try.typeInfo29 w, rfl⟩⟩
instance : CS Try.prog 30 1 := ⟨Try.sizeOf30⟩
instance : CA Try.prog 30 false := ⟨Try.isAgg30⟩
instance : CZ Try.prog 30 (.nilFunc) := ⟨Try.zeroValue30⟩
instance : CE Try.prog 30 1 8 := ⟨Try.t30, (.nilFunc), by kernel_rfl, by kernel_rfl, by kernel_rfl, by kernel_rfl, by kernel_rfl⟩
instance : CY Try.prog 30 8 := ⟨fun w => ⟨_, Try.typeInfo30 w, rfl⟩⟩
instance : CS Try.prog 31 1 := ⟨Try.sizeOf31⟩
instance : CA Try.prog 31 false := ⟨Try.isAgg31⟩
instance : CZ Try.prog 31 (.nilFunc) := ⟨Try.zeroValue31⟩
instance : CE Try.prog 31 1 8 := ⟨Try.t31, (.nilFunc), by kernel_rfl, by kernel_rfl, by kernel_rfl, by kernel_rfl, by kernel_rfl⟩
instance : CY Try.prog 31 8 := ⟨fun w => ⟨_, Try.typeInfo31 w, rfl⟩⟩
instance : CS Try.prog 32 1 := ⟨Try.sizeOf32⟩
instance : CA Try.prog 32 false := ⟨Try.isAgg32⟩
instance : CZ Try.prog 32 (.nilFunc) := ⟨Try.zeroValue32⟩
instance : CE Try.prog 32 1 8 := ⟨Try.t32, (.nilFunc), by kernel_rfl, by kernel_rfl, by kernel_rfl, by kernel_rfl, by kernel_rfl⟩
instance : CY Try.prog 32 8 := ⟨fun w => ⟨_, Try.typeInfo32 w, rfl⟩⟩
instance : CSl Try.prog 33 67 := ⟨Try.runUnderlying33, Try.underlying33⟩
instance : CS Try.prog 33 1 := ⟨Try.sizeOf33⟩
instance : CA Try.prog 33 false := ⟨Try.isAgg33⟩
instance : CZ Try.prog 33 (.slice none 0 0) := ⟨Try.zeroValue33⟩
instance : CE Try.prog 33 1 24 := ⟨Try.t33, (.slice none 0 0), by kernel_rfl, by kernel_rfl, by kernel_rfl, by kernel_rfl, by kernel_rfl⟩
instance : CY Try.prog 33 24 := ⟨fun w => ⟨_, Try.typeInfo33 w, rfl⟩⟩
instance : CS Try.prog 34 3 := ⟨Try.sizeOf34⟩
instance : CA Try.prog 34 true := ⟨Try.isAgg34⟩
instance : CZ Try.prog 34 (.agg #[.int .i64 0, .int .i64 0, .string ⟨#[]⟩]) := ⟨Try.zeroValue34⟩
instance : CE Try.prog 34 3 32 := ⟨Try.t34, (.agg #[.int .i64 0, .int .i64 0, .string ⟨#[]⟩]), by kernel_rfl, by kernel_rfl, by kernel_rfl, by kernel_rfl, by kernel_rfl⟩
instance : CY Try.prog 34 32 := ⟨fun w => ⟨_, Try.typeInfo34 w, rfl⟩⟩
instance : CB Try.prog 34 [(0, 1), (1, 1), (2, 1)] := ⟨fun w => ⟨_, Try.runUnderlying34 w, by kernel_rfl⟩⟩
instance : CF Try.prog 34 0 0 := ⟨fun _ _ => by kernel_rfl⟩
instance : CF Try.prog 34 1 1 := ⟨fun _ _ => by kernel_rfl⟩
instance : CF Try.prog 34 2 2 := ⟨fun _ _ => by kernel_rfl⟩
instance : CS Try.prog 35 3 := ⟨Try.sizeOf35⟩
instance : CA Try.prog 35 true := ⟨Try.isAgg35⟩
instance : CZ Try.prog 35 (.agg #[.int .i64 0, .int .i64 0, .string ⟨#[]⟩]) := ⟨Try.zeroValue35⟩
instance : CE Try.prog 35 3 32 := ⟨Try.t35, (.agg #[.int .i64 0, .int .i64 0, .string ⟨#[]⟩]), by kernel_rfl, by kernel_rfl, by kernel_rfl, by kernel_rfl, by kernel_rfl⟩
instance : CY Try.prog 35 32 := ⟨fun w => ⟨_, Try.typeInfo35 w, rfl⟩⟩
instance : CB Try.prog 35 [(0, 1), (1, 1), (2, 1)] := ⟨fun w => ⟨_, Try.runUnderlying35 w, by kernel_rfl⟩⟩
instance : CF Try.prog 35 0 0 := ⟨fun _ _ => by kernel_rfl⟩
instance : CF Try.prog 35 1 1 := ⟨fun _ _ => by kernel_rfl⟩
instance : CF Try.prog 35 2 2 := ⟨fun _ _ => by kernel_rfl⟩
instance : CS Try.prog 36 1 := ⟨Try.sizeOf36⟩
instance : CA Try.prog 36 false := ⟨Try.isAgg36⟩
instance : CZ Try.prog 36 (.nilFunc) := ⟨Try.zeroValue36⟩
instance : CE Try.prog 36 1 8 := ⟨Try.t36, (.nilFunc), by kernel_rfl, by kernel_rfl, by kernel_rfl, by kernel_rfl, by kernel_rfl⟩
instance : CY Try.prog 36 8 := ⟨fun w => ⟨_, Try.typeInfo36 w, rfl⟩⟩
instance : CS Try.prog 37 1 := ⟨Try.sizeOf37⟩
instance : CA Try.prog 37 false := ⟨Try.isAgg37⟩
instance : CZ Try.prog 37 (.nilFunc) := ⟨Try.zeroValue37⟩
instance : CE Try.prog 37 1 8 := ⟨Try.t37, (.nilFunc), by kernel_rfl, by kernel_rfl, by kernel_rfl, by kernel_rfl, by kernel_rfl⟩
instance : CY Try.prog 37 8 := ⟨fun w => ⟨_, Try.typeInfo37 w, rfl⟩⟩
instance : CSl Try.prog 38 3 := ⟨Try.runUnderlying38, Try.underlying38⟩
instance : CS Try.prog 38 1 := ⟨Try.sizeOf38⟩
instance : CA Try.prog 38 false := ⟨Try.isAgg38⟩
instance : CZ Try.prog 38 (.slice none 0 0) := ⟨Try.zeroValue38⟩
instance : CE Try.prog 38 1 24 := ⟨Try.t38, (.slice none 0 0), by kernel_rfl, by kernel_rfl, by kernel_rfl, by kernel_rfl, by kernel_rfl⟩
instance : CY Try.prog 38 24 := ⟨fun w => ⟨_, Try.typeInfo38 w, rfl⟩⟩
instance : CS Try.prog 39 1 := ⟨Try.sizeOf39⟩
instance : CA Try.prog 39 false := ⟨Try.isAgg39⟩
instance : CZ Try.prog 39 (.nilFunc) := ⟨Try.zeroValue39⟩
instance : CE Try.prog 39 1 8 := ⟨Try.t39, (.nilFunc), by kernel_rfl, by kernel_rfl, by kernel_rfl, by kernel_rfl, by kernel_rfl⟩
instance : CY Try.prog 39 8 := ⟨fun w => ⟨_, Try.typeInfo39 w, rfl⟩⟩
instance : CSl Try.prog 40 55 := ⟨Try.runUnderlying40, Try.underlying40⟩
instance : CS Try.prog 40 1 := ⟨Try.sizeOf40⟩
instance : CA Try.prog 40 false := ⟨Try.isAgg40⟩
instance : CZ Try.prog 40 (.slice none 0 0) := ⟨Try.zeroValue40⟩
instance : CE Try.prog 40 1 24 := ⟨Try.t40, (.slice none 0 0), by kernel_rfl, by kernel_rfl, by kernel_rfl, by kernel_rfl, by kernel_rfl⟩
instance : CY Try.prog 40 24 := ⟨fun w => ⟨_, Try.typeInfo40 w, rfl⟩⟩
instance : CS Try.prog 41 1 := ⟨Try.sizeOf41⟩
instance : CA Try.prog 41 false := ⟨Try.isAgg41⟩
instance : CZ Try.prog 41 (.nilFunc) := ⟨Try.zeroValue41⟩
instance : CE Try.prog 41 1 8 := ⟨Try.t41, (.nilFunc), by kernel_rfl, by kernel_rfl, by kernel_rfl, by kernel_rfl, by kernel_rfl⟩
instance : CY Try.prog 41 8 := ⟨fun w => ⟨_, Try.typeInfo41 w, rfl⟩⟩
instance : CS Try.prog 42 3 := ⟨Try.sizeOf42⟩
instance : CA Try.prog 42 true := ⟨Try.isAgg42⟩
instance : CZ Try.prog 42 (.agg #[.int .i64 0, .int .i64 0, .string ⟨#[]⟩]) := ⟨Try.zeroValue42⟩
instance : CE Try.prog 42 3 32 := ⟨Try.t42, (.agg #[.int .i64 0, .int .i64 0, .string ⟨#[]⟩]), by kernel_rfl, by kernel_rfl, by kernel_rfl, by kernel_rfl, by kernel_rfl⟩
instance : CY Try.prog 42 32 := ⟨fun w => ⟨_, Try.typeInfo42 w, rfl⟩⟩
instance : CB Try.prog 42 [(0, 1), (1, 1), (2, 1)] := ⟨fun w => ⟨_, Try.runUnderlying42 w, by kernel_rfl⟩⟩
instance : CF Try.prog 42 0 0 := ⟨fun _ _ => by kernel_rfl⟩
instance : CF Try.prog 42 1 1 := ⟨fun _ _ => by kernel_rfl⟩
instance : CF Try.prog 42 2 2 := ⟨fun _ _ => by kernel_rfl⟩
instance : CS Try.prog 43 1 := ⟨Try.sizeOf43⟩
instance : CA Try.prog 43 false := ⟨Try.isAgg43⟩
instance : CZ Try.prog 43 (.nilFunc) := ⟨Try.zeroValue43⟩
instance : CE Try.prog 43 1 8 := ⟨Try.t43, (.nilFunc), by kernel_rfl, by kernel_rfl, by kernel_rfl, by kernel_rfl, by kernel_rfl⟩
instance : CY Try.prog 43 8 := ⟨fun w => ⟨_, Try.typeInfo43 w, rfl⟩⟩
instance : CS Try.prog 44 1 := ⟨Try.sizeOf44⟩
instance : CA Try.prog 44 false := ⟨Try.isAgg44⟩
instance : CZ Try.prog 44 (.nilFunc) := ⟨Try.zeroValue44⟩
instance : CE Try.prog 44 1 8 := ⟨Try.t44, (.nilFunc), by kernel_rfl, by kernel_rfl, by kernel_rfl, by kernel_rfl, by kernel_rfl⟩
instance : CY Try.prog 44 8 := ⟨fun w => ⟨_, Try.typeInfo44 w, rfl⟩⟩
instance : CS Try.prog 45 1 := ⟨Try.sizeOf45⟩
instance : CA Try.prog 45 false := ⟨Try.isAgg45⟩
instance : CZ Try.prog 45 (.nilFunc) := ⟨Try.zeroValue45⟩
instance : CE Try.prog 45 1 8 := ⟨Try.t45, (.nilFunc), by kernel_rfl, by kernel_rfl, by kernel_rfl, by kernel_rfl, by kernel_rfl⟩
instance : CY Try.prog 45 8 := ⟨fun w => ⟨_, Try.typeInfo45 w, rfl⟩⟩
instance : CS Try.prog 46 1 := ⟨Try.sizeOf46⟩
instance : CA Try.prog 46 false := ⟨Try.isAgg46⟩
instance : CZ Try.prog 46 (.nilFunc) := ⟨Try.zeroValue46⟩
instance : CE Try.prog 46 1 8 := ⟨Try.t46, (.nilFunc), by kernel_rfl, by kernel_rfl, by kernel_rfl, by kernel_rfl, by kernel_rfl⟩
instance : CY Try.prog 46 8 := ⟨fun w => ⟨_, Try.typeInfo46 w, rfl⟩⟩
instance : CS Try.prog 47 1 := ⟨Try.sizeOf47⟩
instance : CA Try.prog 47 false := ⟨Try.isAgg47⟩
instance : CZ Try.prog 47 (.nilFunc) := ⟨Try.zeroValue47⟩
instance : CE Try.prog 47 1 8 := ⟨Try.t47, (.nilFunc), by kernel_rfl, by kernel_rfl, by kernel_rfl, by kernel_rfl, by kernel_rfl⟩
instance : CY Try.prog 47 8 := ⟨fun w => ⟨_, Try.typeInfo47 w, rfl⟩⟩
instance : CS Try.prog 48 1 := ⟨Try.sizeOf48⟩
instance : CA Try.prog 48 false := ⟨Try.isAgg48⟩
instance : CZ Try.prog 48 (.nilFunc) := ⟨Try.zeroValue48⟩
instance : CE Try.prog 48 1 8 := ⟨Try.t48, (.nilFunc), by kernel_rfl, by kernel_rfl, by kernel_rfl, by kernel_rfl, by kernel_rfl⟩
instance : CY Try.prog 48 8 := ⟨fun w => ⟨_, Try.typeInfo48 w, rfl⟩⟩
instance : CSl Try.prog 49 5 := ⟨Try.runUnderlying49, Try.underlying49⟩
instance : CS Try.prog 49 1 := ⟨Try.sizeOf49⟩
instance : CA Try.prog 49 false := ⟨Try.isAgg49⟩
instance : CZ Try.prog 49 (.slice none 0 0) := ⟨Try.zeroValue49⟩
instance : CE Try.prog 49 1 24 := ⟨Try.t49, (.slice none 0 0), by kernel_rfl, by kernel_rfl, by kernel_rfl, by kernel_rfl, by kernel_rfl⟩
instance : CY Try.prog 49 24 := ⟨fun w => ⟨_, Try.typeInfo49 w, rfl⟩⟩
instance : CS Try.prog 51 1 := ⟨Try.sizeOf51⟩
instance : CA Try.prog 51 false := ⟨Try.isAgg51⟩
instance : CZ Try.prog 51 (.nilFunc) := ⟨Try.zeroValue51⟩
instance : CE Try.prog 51 1 8 := ⟨Try.t51, (.nilFunc), by kernel_rfl, by kernel_rfl, by kernel_rfl, by kernel_rfl, by kernel_rfl⟩
instance : CY Try.prog 51 8 := ⟨fun w => ⟨_, Try.typeInfo51 w, rfl⟩⟩
instance : CS Try.prog 52 1 := ⟨Try.sizeOf52⟩
instance : CA Try.prog 52 false := ⟨Try.isAgg52⟩
instance : CZ Try.prog 52 (.nilFunc) := ⟨Try.zeroValue52⟩
instance : CE Try.prog 52 1 8 := ⟨Try.t52, (.nilFunc), by kernel_rfl, by kernel_rfl, by kernel_rfl, by kernel_rfl, by kernel_rfl⟩
instance : CY Try.prog 52 8 := ⟨fun w => ⟨_, Try.typeInfo52 w, rfl⟩⟩
instance : CSl Try.prog 53 42 := ⟨Try.runUnderlying53, Try.underlying53⟩
instance : CS Try.prog 53 1 := ⟨Try.sizeOf53⟩
instance : CA Try.prog 53 false := ⟨Try.isAgg53⟩
instance : CZ Try.prog 53 (.slice none 0 0) := ⟨Try.zeroValue53⟩
instance : CE Try.prog 53 1 24 := ⟨Try.t53, (.slice none 0 0), by kernel_rfl, by kernel_rfl, by kernel_rfl, by kernel_rfl, by kernel_rfl⟩
instance : CY Try.prog 53 24 := ⟨fun w => ⟨_, Try.typeInfo53 w, rfl⟩⟩
instance : CS Try.prog 54 2 := ⟨Try.sizeOf54⟩
instance : CA Try.prog 54 true := ⟨Try.isAgg54⟩
instance : CZ Try.prog 54 (.agg #[.string ⟨#[]⟩, .int .i64 0]) := ⟨Try.zeroValue54⟩
instance : CE Try.prog 54 2 24 := ⟨Try.t54, (.agg #[.string ⟨#[]⟩, .int .i64 0]), by kernel_rfl, by kernel_rfl, by kernel_rfl, by kernel_rfl, by kernel_rfl⟩
instance : CY Try.prog 54 24 := ⟨fun w => ⟨_, Try.typeInfo54 w, rfl⟩⟩
instance : CB Try.prog 54 [(0, 1), (1, 1)] := ⟨fun w => ⟨_, Try.runUnderlying54 w, by kernel_rfl⟩⟩
instance : CF Try.prog 54 0 0 := ⟨fun _ _ => by kernel_rfl⟩
instance : CF Try.prog 54 1 1 := ⟨fun _ _ => by kernel_rfl⟩
instance : CS Try.prog 55 2 := ⟨Try.sizeOf55⟩
instance : CA Try.prog 55 true := ⟨Try.isAgg55⟩
instance : CZ Try.prog 55 (.agg #[.string ⟨#[]⟩, .int .i64 0]) := ⟨Try.zeroValue55⟩
instance : CE Try.prog 55 2 24 := ⟨Try.t55, (.agg #[.string ⟨#[]⟩, .int .i64 0]), by kernel_rfl, by kernel_rfl, by kernel_rfl, by kernel_rfl, by kernel_rfl⟩
instance : CY Try.prog 55 24 := ⟨fun w => ⟨_, Try.typeInfo55 w, rfl⟩⟩
instance : CB Try.prog 55 [(0, 1), (1, 1)] := ⟨fun w => ⟨_, Try.runUnderlying55 w, by kernel_rfl⟩⟩
instance : CF Try.prog 55 0 0 := ⟨fun _ _ => by kernel_rfl⟩
instance : CF Try.prog 55 1 1 := ⟨fun _ _ => by kernel_rfl⟩
instance : CS Try.prog 56 1 := ⟨Try.sizeOf56⟩
instance : CA Try.prog 56 false := ⟨Try.isAgg56⟩
instance : CZ Try.prog 56 (.nilFunc) := ⟨Try.zeroValue56⟩
instance : CE Try.prog 56 1 8 := ⟨Try.t56, (.nilFunc), by kernel_rfl, by kernel_rfl, by kernel_rfl, by kernel_rfl, by kernel_rfl⟩
instance : CY Try.prog 56 8 := ⟨fun w => ⟨_, Try.typeInfo56 w, rfl⟩⟩
instance : CS Try.prog 57 1 := ⟨Try.sizeOf57⟩
instance : CA Try.prog 57 false := ⟨Try.isAgg57⟩
instance : CZ Try.prog 57 (.nilFunc) := ⟨Try.zeroValue57⟩
instance : CE Try.prog 57 1 8 := ⟨Try.t57, (.nilFunc), by kernel_rfl, by kernel_rfl, by kernel_rfl, by kernel_rfl, by kernel_rfl⟩
instance : CY Try.prog 57 8 := ⟨fun w => ⟨_, Try.typeInfo57 w, rfl⟩⟩
instance : CS Try.prog 58 3 := ⟨Try.sizeOf58⟩
instance : CA Try.prog 58 true := ⟨Try.isAgg58⟩
instance : CZ Try.prog 58 (.agg #[.string ⟨#[]⟩, .string ⟨#[]⟩, .int .i64 0]) := ⟨Try.zeroValue58⟩
instance : CE Try.prog 58 3 40 := ⟨Try.t58, (.agg #[.string ⟨#[]⟩, .string ⟨#[]⟩, .int .i64 0]), by kernel_rfl, by kernel_rfl, by kernel_rfl, by kernel_rfl, by kernel_rfl⟩
instance : CY Try.prog 58 40 := ⟨fun w => ⟨_, Try.typeInfo58 w, rfl⟩⟩
instance : CB Try.prog 58 [(0, 1), (1, 1), (2, 1)] := ⟨fun w => ⟨_, Try.runUnderlying58 w, by kernel_rfl⟩⟩
instance : CF Try.prog 58 0 0 := ⟨fun _ _ => by kernel_rfl⟩
instance : CF Try.prog 58 1 1 := ⟨fun _ _ => by kernel_rfl⟩
instance : CF Try.prog 58 2 2 := ⟨fun _ _ => by kernel_rfl⟩
instance : CS Try.prog 59 3 := ⟨Try.sizeOf59⟩
instance : CA Try.prog 59 true := ⟨Try.isAgg59⟩
instance : CZ Try.prog 59 (.agg #[.string ⟨#[]⟩, .string ⟨#[]⟩, .int .i64 0]) := ⟨Try.zeroValue59⟩
instance : CE Try.prog 59 3 40 := ⟨Try.t59, (.agg #[.string ⟨#[]⟩, .string ⟨#[]⟩, .int .i64 0]), by kernel_rfl, by kernel_rfl, by kernel_rfl, by kernel_rfl, by kernel_rfl⟩
instance : CY Try.prog 59 40 := ⟨fun w => ⟨_, Try.typeInfo59 w, rfl⟩⟩
instance : CB Try.prog 59 [(0, 1), (1, 1), (2, 1)] := ⟨fun w => ⟨_, Try.runUnderlying59 w, by kernel_rfl⟩⟩
instance : CF Try.prog 59 0 0 := ⟨fun _ _ => by kernel_rfl⟩
instance : CF Try.prog 59 1 1 := ⟨fun _ _ => by kernel_rfl⟩
instance : CF Try.prog 59 2 2 := ⟨fun _ _ => by kernel_rfl⟩
instance : CS Try.prog 60 1 := ⟨Try.sizeOf60⟩
instance : CA Try.prog 60 false := ⟨Try.isAgg60⟩
instance : CZ Try.prog 60 (.nilFunc) := ⟨Try.zeroValue60⟩
instance : CE Try.prog 60 1 8 := ⟨Try.t60, (.nilFunc), by kernel_rfl, by kernel_rfl, by kernel_rfl, by kernel_rfl, by kernel_rfl⟩
instance : CY Try.prog 60 8 := ⟨fun w => ⟨_, Try.typeInfo60 w, rfl⟩⟩
instance : CS Try.prog 61 1 := ⟨Try.sizeOf61⟩
instance : CA Try.prog 61 false := ⟨Try.isAgg61⟩
instance : CZ Try.prog 61 (.nilFunc) := ⟨Try.zeroValue61⟩
instance : CE Try.prog 61 1 8 := ⟨Try.t61, (.nilFunc), by kernel_rfl, by kernel_rfl, by kernel_rfl, by kernel_rfl, by kernel_rfl⟩
instance : CY Try.prog 61 8 := ⟨fun w => ⟨_, Try.typeInfo61 w, rfl⟩⟩
instance : CS Try.prog 62 3 := ⟨Try.sizeOf62⟩
instance : CA Try.prog 62 true := ⟨Try.isAgg62⟩
instance : CZ Try.prog 62 (.agg #[.string ⟨#[]⟩, .string ⟨#[]⟩, .int .i64 0]) := ⟨Try.zeroValue62⟩
instance : CE Try.prog 62 3 40 := ⟨Try.t62, (.agg #[.string ⟨#[]⟩, .string ⟨#[]⟩, .int .i64 0]), by kernel_rfl, by kernel_rfl, by kernel_rfl, by kernel_rfl, by kernel_rfl⟩
instance : CY Try.prog 62 40 := ⟨fun w => ⟨_, Try.typeInfo62 w, rfl⟩⟩
instance : CB Try.prog 62 [(0, 1), (1, 1), (2, 1)] := ⟨fun w => ⟨_, Try.runUnderlying62 w, by kernel_rfl⟩⟩
instance : CF Try.prog 62 0 0 := ⟨fun _ _ => by kernel_rfl⟩
instance : CF Try.prog 62 1 1 := ⟨fun _ _ => by kernel_rfl⟩
instance : CF Try.prog 62 2 2 := ⟨fun _ _ => by kernel_rfl⟩
instance : CS Try.prog 63 1 := ⟨Try.sizeOf63⟩
instance : CA Try.prog 63 false := ⟨Try.isAgg63⟩
instance : CZ Try.prog 63 (.nilFunc) := ⟨Try.zeroValue63⟩
instance : CE Try.prog 63 1 8 := ⟨Try.t63, (.nilFunc), by kernel_rfl, by kernel_rfl, by kernel_rfl, by kernel_rfl, by kernel_rfl⟩
instance : CY Try.prog 63 8 := ⟨fun w => ⟨_, Try.typeInfo63 w, rfl⟩⟩
instance : CS Try.prog 64 1 := ⟨Try.sizeOf64⟩
instance : CA Try.prog 64 false := ⟨Try.isAgg64⟩
instance : CZ Try.prog 64 (.nilFunc) := ⟨Try.zeroValue64⟩
instance : CE Try.prog 64 1 8 := ⟨Try.t64, (.nilFunc), by kernel_rfl, by kernel_rfl, by kernel_rfl, by kernel_rfl, by kernel_rfl⟩
instance : CY Try.prog 64 8 := ⟨fun w => ⟨_, Try.typeInfo64 w, rfl⟩⟩
instance : CS Try.prog 65 1 := ⟨Try.sizeOf65⟩
instance : CA Try.prog 65 false := ⟨Try.isAgg65⟩
instance : CZ Try.prog 65 (.nilFunc) := ⟨Try.zeroValue65⟩
instance : CE Try.prog 65 1 8 := ⟨Try.t65, (.nilFunc), by kernel_rfl, by kernel_rfl, by kernel_rfl, by kernel_rfl, by kernel_rfl⟩
instance : CY Try.prog 65 8 := ⟨fun w => ⟨_, Try.typeInfo65 w, rfl⟩⟩
instance : CS Try.prog 66 1 := ⟨Try.sizeOf66⟩
instance : CA Try.prog 66 false := ⟨Try.isAgg66⟩
instance : CZ Try.prog 66 (.nilFunc) := ⟨Try.zeroValue66⟩
instance : CE Try.prog 66 1 8 := ⟨Try.t66, (.nilFunc), by kernel_rfl, by kernel_rfl, by kernel_rfl, by kernel_rfl, by kernel_rfl⟩
instance : CY Try.prog 66 8 := ⟨fun w => ⟨_, Try.typeInfo66 w, rfl⟩⟩
instance : CS Try.prog 67 2 := ⟨Try.sizeOf67⟩
instance : CA Try.prog 67 true := ⟨Try.isAgg67⟩
instance : CZ Try.prog 67 (.agg #[.string ⟨#[]⟩, .int .i64 0]) := ⟨Try.zeroValue67⟩
instance : CE Try.prog 67 2 24 := ⟨Try.t67, (.agg #[.string ⟨#[]⟩, .int .i64 0]), by kernel_rfl, by kernel_rfl, by kernel_rfl, by kernel_rfl, by kernel_rfl⟩
instance : CY Try.prog 67 24 := ⟨fun w => ⟨_, Try.typeInfo67 w, rfl⟩⟩
instance : CB Try.prog 67 [(0, 1), (1, 1)] := ⟨fun w => ⟨_, Try.runUnderlying67 w, by kernel_rfl⟩⟩
instance : CF Try.prog 67 0 0 := ⟨fun _ _ => by kernel_rfl⟩
instance : CF Try.prog 67 1 1 := ⟨fun _ _ => by kernel_rfl⟩
instance : CS Try.prog 68 1 := ⟨Try.sizeOf68⟩
instance : CA Try.prog 68 false := ⟨Try.isAgg68⟩
instance : CZ Try.prog 68 (.nilFunc) := ⟨Try.zeroValue68⟩
instance : CE Try.prog 68 1 8 := ⟨Try.t68, (.nilFunc), by kernel_rfl, by kernel_rfl, by kernel_rfl, by kernel_rfl, by kernel_rfl⟩
instance : CY Try.prog 68 8 := ⟨fun w => ⟨_, Try.typeInfo68 w, rfl⟩⟩
instance : CS Try.prog 69 1 := ⟨Try.sizeOf69⟩
instance : CA Try.prog 69 false := ⟨Try.isAgg69⟩
instance : CZ Try.prog 69 (.nilFunc) := ⟨Try.zeroValue69⟩
instance : CE Try.prog 69 1 8 := ⟨Try.t69, (.nilFunc), by kernel_rfl, by kernel_rfl, by kernel_rfl, by kernel_rfl, by kernel_rfl⟩
instance : CY Try.prog 69 8 := ⟨fun w => ⟨_, Try.typeInfo69 w, rfl⟩⟩
instance : CS Try.prog 70 1 := ⟨Try.sizeOf70⟩
instance : CA Try.prog 70 false := ⟨Try.isAgg70⟩
instance : CZ Try.prog 70 (.nilFunc) := ⟨Try.zeroValue70⟩
instance : CE Try.prog 70 1 8 := ⟨Try.t70, (.nilFunc), by kernel_rfl, by kernel_rfl, by kernel_rfl, by kernel_rfl, by kernel_rfl⟩
instance : CY Try.prog 70 8 := ⟨fun w => ⟨_, Try.typeInfo70 w, rfl⟩⟩
instance : CS Try.prog 71 1 := ⟨Try.sizeOf71⟩
instance : CA Try.prog 71 false := ⟨Try.isAgg71⟩
instance : CZ Try.prog 71 (.nilFunc) := ⟨Try.zeroValue71⟩
instance : CE Try.prog 71 1 8 := ⟨Try.t71, (.nilFunc), by kernel_rfl, by kernel_rfl, by kernel_rfl, by kernel_rfl, by kernel_rfl⟩
instance : CY Try.prog 71 8 := ⟨fun w => ⟨_, Try.typeInfo71 w, rfl⟩⟩
instance : CS Try.prog 72 1 := ⟨Try.sizeOf72⟩
instance : CA Try.prog 72 false := ⟨Try.isAgg72⟩
instance : CZ Try.prog 72 (.nilFunc) := ⟨Try.zeroValue72⟩
instance : CE Try.prog 72 1 8 := ⟨Try.t72, (.nilFunc), by kernel_rfl, by kernel_rfl, by kernel_rfl, by kernel_rfl, by kernel_rfl⟩
instance : CY Try.prog 72 8 := ⟨fun w => ⟨_, Try.typeInfo72 w, rfl⟩⟩
instance : CS Try.prog 73 1 := ⟨Try.sizeOf73⟩
instance : CA Try.prog 73 false := ⟨Try.isAgg73⟩
instance : CZ Try.prog 73 (.pointer none) := ⟨Try.zeroValue73⟩
instance : CE Try.prog 73 1 8 := ⟨Try.t73, (.pointer none), by kernel_rfl, by kernel_rfl, by kernel_rfl, by kernel_rfl, by kernel_rfl⟩
instance : CY Try.prog 73 8 := ⟨fun w => ⟨_, Try.typeInfo73 w, rfl⟩⟩
instance : CS Try.prog 74 1 := ⟨Try.sizeOf74⟩
instance : CA Try.prog 74 false := ⟨Try.isAgg74⟩
instance : CZ Try.prog 74 (.nilFunc) := ⟨Try.zeroValue74⟩
instance : CE Try.prog 74 1 8 := ⟨Try.t74, (.nilFunc), by kernel_rfl, by kernel_rfl, by kernel_rfl, by kernel_rfl, by kernel_rfl⟩
instance : CY Try.prog 74 8 := ⟨fun w => ⟨_, Try.typeInfo74 w, rfl⟩⟩
instance : CSl Try.prog 75 138 := ⟨Try.runUnderlying75, Try.underlying75⟩
instance : CS Try.prog 75 1 := ⟨Try.sizeOf75⟩
instance : CA Try.prog 75 false := ⟨Try.isAgg75⟩
instance : CZ Try.prog 75 (.slice none 0 0) := ⟨Try.zeroValue75⟩
instance : CE Try.prog 75 1 24 := ⟨Try.t75, (.slice none 0 0), by kernel_rfl, by kernel_rfl, by kernel_rfl, by kernel_rfl, by kernel_rfl⟩
instance : CY Try.prog 75 24 := ⟨fun w => ⟨_, Try.typeInfo75 w, rfl⟩⟩
instance : CSl Try.prog 76 140 := ⟨Try.runUnderlying76, Try.underlying76⟩
instance : CS Try.prog 76 1 := ⟨Try.sizeOf76⟩
instance : CA Try.prog 76 false := ⟨Try.isAgg76⟩
instance : CZ Try.prog 76 (.slice none 0 0) := ⟨Try.zeroValue76⟩
instance : CE Try.prog 76 1 24 := ⟨Try.t76, (.slice none 0 0), by kernel_rfl, by kernel_rfl, by kernel_rfl, by kernel_rfl, by kernel_rfl⟩
instance : CY Try.prog 76 24 := ⟨fun w => ⟨_, Try.typeInfo76 w, rfl⟩⟩
instance : CSl Try.prog 77 121 := ⟨Try.runUnderlying77, Try.underlying77⟩
instance : CS Try.prog 77 1 := ⟨Try.sizeOf77⟩
instance : CA Try.prog 77 false := ⟨Try.isAgg77⟩
instance : CZ Try.prog 77 (.slice none 0 0) := ⟨Try.zeroValue77⟩
instance : CE Try.prog 77 1 24 := ⟨Try.t77, (.slice none 0 0), by kernel_rfl, by kernel_rfl, by kernel_rfl, by kernel_rfl, by kernel_rfl⟩
instance : CY Try.prog 77 24 := ⟨fun w => ⟨_, Try.typeInfo77 w, rfl⟩⟩
instance : CS Try.prog 78 3 := ⟨Try.sizeOf78⟩
instance : CA Try.prog 78 true := ⟨Try.isAgg78⟩
instance : CZ Try.prog 78 (.agg #[.slice none 0 0, .slice none 0 0, .slice none 0 0]) := ⟨Try.zeroValue78⟩
instance : CE Try.prog 78 3 72 := ⟨Try.t78, (.agg #[.slice none 0 0, .slice none 0 0, .slice none 0 0]), by kernel_rfl, by kernel_rfl, by kernel_rfl, by kernel_rfl, by kernel_rfl⟩
instance : CY Try.prog 78 72 := ⟨fun w => ⟨_, Try.typeInfo78 w, rfl⟩⟩
instance : CB Try.prog 78 [(0, 1), (1, 1), (2, 1)] := ⟨fun w => ⟨_, Try.runUnderlying78 w, by kernel_rfl⟩⟩
instance : CF Try.prog 78 0 0 := ⟨fun _ _ => by kernel_rfl⟩
instance : CF Try.prog 78 1 1 := ⟨fun _ _ => by kernel_rfl⟩
instance : CF Try.prog 78 2 2 := ⟨fun _ _ => by kernel_rfl⟩
instance : CS Try.prog 79 3 := ⟨Try.sizeOf79⟩
instance : CA Try.prog 79 true := ⟨Try.isAgg79⟩
instance : CZ Try.prog 79 (.agg #[.slice none 0 0, .slice none 0 0, .slice none 0 0]) := ⟨Try.zeroValue79⟩
instance : CE Try.prog 79 3 72 := ⟨Try.t79, (.agg #[.slice none 0 0, .slice none 0 0, .slice none 0 0]), by kernel_rfl, by kernel_rfl, by kernel_rfl, by kernel_rfl, by kernel_rfl⟩
instance : CY Try.prog 79 72 := ⟨fun w => ⟨_, Try.typeInfo79 w, rfl⟩⟩
instance : CB Try.prog 79 [(0, 1), (1, 1), (2, 1)] := ⟨fun w => ⟨_, Try.runUnderlying79 w, by kernel_rfl⟩⟩
instance : CF Try.prog 79 0 0 := ⟨fun _ _ => by kernel_rfl⟩
instance : CF Try.prog 79 1 1 := ⟨fun _ _ => by kernel_rfl⟩
instance : CF Try.prog 79 2 2 := ⟨fun _ _ => by kernel_rfl⟩
instance : CS Try.prog 81 1 := ⟨Try.sizeOf81⟩
instance : CA Try.prog 81 false := ⟨Try.isAgg81⟩
instance : CZ Try.prog 81 (.nilFunc) := ⟨Try.zeroValue81⟩
instance : CE Try.prog 81 1 8 := ⟨Try.t81, (.nilFunc), by kernel_rfl, by kernel_rfl, by kernel_rfl, by kernel_rfl, by kernel_rfl⟩
instance : CY Try.prog 81 8 := ⟨fun w => ⟨_, Try.typeInfo81 w, rfl⟩⟩
instance : CS Try.prog 82 1 := ⟨Try.sizeOf82⟩
instance : CA Try.prog 82 false := ⟨Try.isAgg82⟩
instance : CZ Try.prog 82 (.nilFunc) := ⟨Try.zeroValue82⟩
instance : CE Try.prog 82 1 8 := ⟨Try.t82, (.nilFunc), by kernel_rfl, by kernel_rfl, by kernel_rfl, by kernel_rfl, by kernel_rfl⟩
instance : CY Try.prog 82 8 := ⟨fun w => ⟨_, Try.typeInfo82 w, rfl⟩⟩
instance : CS Try.prog 83 1 := ⟨Try.sizeOf83⟩
instance : CA Try.prog 83 false := ⟨Try.isAgg83⟩
instance : CZ Try.prog 83 (.nilFunc) := ⟨Try.zeroValue83⟩
instance : CE Try.prog 83 1 8 := ⟨Try.t83, (.nilFunc), by kernel_rfl, by kernel_rfl, by kernel_rfl, by kernel_rfl, by kernel_rfl⟩
instance : CY Try.prog 83 8 := ⟨fun w => ⟨_, Try.typeInfo83 w, rfl⟩⟩
instance : CS Try.prog 84 1 := ⟨Try.sizeOf84⟩
instance : CA Try.prog 84 false := ⟨Try.isAgg84⟩
instance : CZ Try.prog 84 (.nilFunc) := ⟨Try.zeroValue84⟩
instance : CE Try.prog 84 1 8 := ⟨Try.t84, (.nilFunc), by kernel_rfl, by kernel_rfl, by kernel_rfl, by kernel_rfl, by kernel_rfl⟩
instance : CY Try.prog 84 8 := ⟨fun w => ⟨_, Try.typeInfo84 w, rfl⟩⟩
instance : CS Try.prog 85 1 := ⟨Try.sizeOf85⟩
instance : CA Try.prog 85 false := ⟨Try.isAgg85⟩
instance : CZ Try.prog 85 (.nilFunc) := ⟨Try.zeroValue85⟩
instance : CE Try.prog 85 1 8 := ⟨Try.t85, (.nilFunc), by kernel_rfl, by kernel_rfl, by kernel_rfl, by kernel_rfl, by kernel_rfl⟩
instance : CY Try.prog 85 8 := ⟨fun w => ⟨_, Try.typeInfo85 w, rfl⟩⟩
instance : CS Try.prog 86 1 := ⟨Try.sizeOf86⟩
instance : CA Try.prog 86 false := ⟨Try.isAgg86⟩
instance : CZ Try.prog 86 (.nilFunc) := ⟨Try.zeroValue86⟩
instance : CE Try.prog 86 1 8 := ⟨Try.t86, (.nilFunc), by kernel_rfl, by kernel_rfl, by kernel_rfl, by kernel_rfl, by kernel_rfl⟩
instance : CY Try.prog 86 8 := ⟨fun w => ⟨_, Try.typeInfo86 w, rfl⟩⟩
instance : CS Try.prog 87 1 := ⟨Try.sizeOf87⟩
instance : CA Try.prog 87 false := ⟨Try.isAgg87⟩
instance : CZ Try.prog 87 (.nilFunc) := ⟨Try.zeroValue87⟩
instance : CE Try.prog 87 1 8 := ⟨Try.t87, (.nilFunc), by kernel_rfl, by kernel_rfl, by kernel_rfl, by kernel_rfl, by kernel_rfl⟩
instance : CY Try.prog 87 8 := ⟨fun w => ⟨_, Try.typeInfo87 w, rfl⟩⟩
instance : CS Try.prog 88 1 := ⟨Try.sizeOf88⟩
instance : CA Try.prog 88 false := ⟨Try.isAgg88⟩
instance : CZ Try.prog 88 (.nilFunc) := ⟨Try.zeroValue88⟩
instance : CE Try.prog 88 1 8 := ⟨Try.t88, (.nilFunc), by kernel_rfl, by kernel_rfl, by kernel_rfl, by kernel_rfl, by kernel_rfl⟩
instance : CY Try.prog 88 8 := ⟨fun w => ⟨_, Try.typeInfo88 w, rfl⟩⟩
instance : CS Try.prog 89 1 := ⟨Try.sizeOf89⟩
instance : CA Try.prog 89 false := ⟨Try.isAgg89⟩
instance : CZ Try.prog 89 (.nilFunc) := ⟨Try.zeroValue89⟩
instance : CE Try.prog 89 1 8 := ⟨Try.t89, (.nilFunc), by kernel_rfl, by kernel_rfl, by kernel_rfl, by kernel_rfl, by kernel_rfl⟩
instance : CY Try.prog 89 8 := ⟨fun w => ⟨_, Try.typeInfo89 w, rfl⟩⟩
instance : CS Try.prog 90 1 := ⟨Try.sizeOf90⟩
instance : CA Try.prog 90 false := ⟨Try.isAgg90⟩
instance : CZ Try.prog 90 (.nilFunc) := ⟨Try.zeroValue90⟩
instance : CE Try.prog 90 1 8 := ⟨Try.t90, (.nilFunc), by kernel_rfl, by kernel_rfl, by kernel_rfl, by kernel_rfl, by kernel_rfl⟩
instance : CY Try.prog 90 8 := ⟨fun w => ⟨_, Try.typeInfo90 w, rfl⟩⟩
instance : CS Try.prog 91 1 := ⟨Try.sizeOf91⟩
instance : CA Try.prog 91 false := ⟨Try.isAgg91⟩
instance : CZ Try.prog 91 (.int .u64 0) := ⟨Try.zeroValue91⟩
instance : CE Try.prog 91 1 8 := ⟨Try.t91, (.int .u64 0), by kernel_rfl, by kernel_rfl, by kernel_rfl, by kernel_rfl, by kernel_rfl⟩
instance : CY Try.prog 91 8 := ⟨fun w => ⟨_, Try.typeInfo91 w, rfl⟩⟩
instance : CS Try.prog 92 2 := ⟨Try.sizeOf92⟩
instance : CA Try.prog 92 true := ⟨Try.isAgg92⟩
instance : CZ Try.prog 92 (.agg #[.slice none 0 0, .int .i64 0]) := ⟨Try.zeroValue92⟩
instance : CE Try.prog 92 2 32 := ⟨Try.t92, (.agg #[.slice none 0 0, .int .i64 0]), by kernel_rfl, by kernel_rfl, by kernel_rfl, by kernel_rfl, by kernel_rfl⟩
instance : CY Try.prog 92 32 := ⟨fun w => ⟨_, Try.typeInfo92 w, rfl⟩⟩
instance : CB Try.prog 92 [(0, 1), (1, 1)] := ⟨fun w => ⟨_, Try.runUnderlying92 w, by kernel_rfl⟩⟩
instance : CF Try.prog 92 0 0 := ⟨fun _ _ => by kernel_rfl⟩
instance : CF Try.prog 92 1 1 := ⟨fun _ _ => by kernel_rfl⟩
instance : CS Try.prog 93 2 := ⟨Try.sizeOf93⟩
instance : CA Try.prog 93 true := ⟨Try.isAgg93⟩
instance : CZ Try.prog 93 (.agg #[.slice none 0 0, .int .i64 0]) := ⟨Try.zeroValue93⟩
instance : CE Try.prog 93 2 32 := ⟨Try.t93, (.agg #[.slice none 0 0, .int .i64 0]), by kernel_rfl, by kernel_rfl, by kernel_rfl, by kernel_rfl, by kernel_rfl⟩
instance : CY Try.prog 93 32 := ⟨fun w => ⟨_, Try.typeInfo93 w, rfl⟩⟩
instance : CB Try.prog 93 [(0, 1), (1, 1)] := ⟨fun w => ⟨_, Try.runUnderlying93 w, by kernel_rfl⟩⟩
instance : CF Try.prog 93 0 0 := ⟨fun _ _ => by kernel_rfl⟩
instance : CF Try.prog 93 1 1 := ⟨fun _ _ => by kernel_rfl⟩
instance : CS Try.prog 94 1 := ⟨Try.sizeOf94⟩
instance : CA Try.prog 94 false := ⟨Try.isAgg94⟩
instance : CZ Try.prog 94 (.nilFunc) := ⟨Try.zeroValue94⟩
instance : CE Try.prog 94 1 8 := ⟨Try.t94, (.nilFunc), by kernel_rfl, by kernel_rfl, by kernel_rfl, by kernel_rfl, by kernel_rfl⟩
instance : CY Try.prog 94 8 := ⟨fun w => ⟨_, Try.typeInfo94 w, rfl⟩⟩
instance : CS Try.prog 95 1 := ⟨Try.sizeOf95⟩
instance : CA Try.prog 95 false := ⟨Try.isAgg95⟩
instance : CZ Try.prog 95 (.nilFunc) := ⟨Try.zeroValue95⟩
instance : CE Try.prog 95 1 8 := ⟨Try.t95, (.nilFunc), by kernel_rfl, by kernel_rfl, by kernel_rfl, by kernel_rfl, by kernel_rfl⟩
instance : CY Try.prog 95 8 := ⟨fun w => ⟨_, Try.typeInfo95 w, rfl⟩⟩
instance : CS Try.prog 96 1 := ⟨Try.sizeOf96⟩
instance : CA Try.prog 96 false := ⟨Try.isAgg96⟩
instance : CZ Try.prog 96 (.nilFunc) := ⟨Try.zeroValue96⟩
instance : CE Try.prog 96 1 8 := ⟨Try.t96, (.nilFunc), by kernel_rfl, by kernel_rfl, by kernel_rfl, by kernel_rfl, by kernel_rfl⟩
instance : CY Try.prog 96 8 := ⟨fun w => ⟨_, Try.typeInfo96 w, rfl⟩⟩
instance : CS Try.prog 97 1 := ⟨Try.sizeOf97⟩
instance : CA Try.prog 97 false := ⟨Try.isAgg97⟩
instance : CZ Try.prog 97 (.nilFunc) := ⟨Try.zeroValue97⟩
instance : CE Try.prog 97 1 8 := ⟨Try.t97, (.nilFunc), by kernel_rfl, by kernel_rfl, by kernel_rfl, by kernel_rfl, by kernel_rfl⟩
instance : CY Try.prog 97 8 := ⟨fun w => ⟨_, Try.typeInfo97 w, rfl⟩⟩
instance : CS Try.prog 98 1 := ⟨Try.sizeOf98⟩
instance : CA Try.prog 98 false := ⟨Try.isAgg98⟩
instance : CZ Try.prog 98 (.nilFunc) := ⟨Try.zeroValue98⟩
instance : CE Try.prog 98 1 8 := ⟨Try.t98, (.nilFunc), by kernel_rfl, by kernel_rfl, by kernel_rfl, by kernel_rfl, by kernel_rfl⟩
instance : CY Try.prog 98 8 := ⟨fun w => ⟨_, Try.typeInfo98 w, rfl⟩⟩
instance : CS Try.prog 99 1 := ⟨Try.sizeOf99⟩
instance : CA Try.prog 99 false := ⟨Try.isAgg99⟩
instance : CZ Try.prog 99 (.nilFunc) := ⟨Try.zeroValue99⟩
instance : CE Try.prog 99 1 8 := ⟨Try.t99, (.nilFunc), by kernel_rfl, by kernel_rfl, by kernel_rfl, by kernel_rfl, by kernel_rfl⟩
instance : CY Try.prog 99 8 := ⟨fun w => ⟨_, Try.typeInfo99 w, rfl⟩⟩
instance : CS Try.prog 100 1 := ⟨Try.sizeOf100⟩
instance : CA Try.prog 100 false := ⟨Try.isAgg100⟩
instance : CZ Try.prog 100 (.nilFunc) := ⟨Try.zeroValue100⟩
instance : CE Try.prog 100 1 8 := ⟨Try.t100, (.nilFunc), by kernel_rfl, by kernel_rfl, by kernel_rfl, by kernel_rfl, by kernel_rfl⟩
instance : CY Try.prog 100 8 := ⟨fun w => ⟨_, Try.typeInfo100 w, rfl⟩⟩
instance : CS Try.prog 101 1 := ⟨Try.sizeOf101⟩
instance : CA Try.prog 101 false := ⟨Try.isAgg101⟩
instance : CZ Try.prog 101 (.nilFunc) := ⟨Try.zeroValue101⟩
instance : CE Try.prog 101 1 8 := ⟨Try.t101, (.nilFunc), by kernel_rfl, by kernel_rfl, by kernel_rfl, by kernel_rfl, by kernel_rfl⟩
instance : CY Try.prog 101 8 := ⟨fun w => ⟨_, Try.typeInfo101 w, rfl⟩⟩
instance : CIn Try.prog 102 := ⟨Try.runUnderlying102⟩
instance : CS Try.prog 102 1 := ⟨Try.sizeOf102⟩
instance : CA Try.prog 102 false := ⟨Try.isAgg102⟩
instance : CZ Try.prog 102 (.int .i64 0) := ⟨Try.zeroValue102⟩
instance : CE Try.prog 102 1 8 := ⟨Try.t102, (.int .i64 0), by kernel_rfl, by kernel_rfl, by kernel_rfl, by kernel_rfl, by kernel_rfl⟩
instance : CY Try.prog 102 8 := ⟨fun w => ⟨_, Try.typeInfo102 w, rfl⟩⟩
instance : CS Try.prog 104 1 := ⟨Try.sizeOf104⟩
instance : CA Try.prog 104 false := ⟨Try.isAgg104⟩
instance : CZ Try.prog 104 (.nilFunc) := ⟨Try.zeroValue104⟩
instance : CE Try.prog 104 1 8 := ⟨Try.t104, (.nilFunc), by kernel_rfl, by kernel_rfl, by kernel_rfl, by kernel_rfl, by kernel_rfl⟩
instance : CY Try.prog 104 8 := ⟨fun w => ⟨_, Try.typeInfo104 w, rfl⟩⟩
instance : CS Try.prog 105 1 := ⟨Try.sizeOf105⟩
instance : CA Try.prog 105 false := ⟨Try.isAgg105⟩
instance : CZ Try.prog 105 (.nilFunc) := ⟨Try.zeroValue105⟩
instance : CE Try.prog 105 1 8 := ⟨Try.t105, (.nilFunc), by kernel_rfl, by kernel_rfl, by kernel_rfl, by kernel_rfl, by kernel_rfl⟩
instance : CY Try.prog 105 8 := ⟨fun w => ⟨_, Try.typeInfo105 w, rfl⟩⟩
instance : CS Try.prog 106 1 := ⟨Try.sizeOf106⟩
instance : CA Try.prog 106 false := ⟨Try.isAgg106⟩
instance : CZ Try.prog 106 (.nilFunc) := ⟨Try.zeroValue106⟩
instance : CE Try.prog 106 1 8 := ⟨Try.t106, (.nilFunc), by kernel_rfl, by kernel_rfl, by kernel_rfl, by kernel_rfl, by kernel_rfl⟩
instance : CY Try.prog 106 8 := ⟨fun w => ⟨_, Try.typeInfo106 w, rfl⟩⟩
instance : CS Try.prog 107 1 := ⟨Try.sizeOf107⟩
instance : CA Try.prog 107 false := ⟨Try.isAgg107⟩
instance : CZ Try.prog 107 (.nilFunc) := ⟨Try.zeroValue107⟩
instance : CE Try.prog 107 1 8 := ⟨Try.t107, (.nilFunc), by kernel_rfl, by kernel_rfl, by kernel_rfl, by kernel_rfl, by kernel_rfl⟩
instance : CY Try.prog 107 8 := ⟨fun w => ⟨_, Try.typeInfo107 w, rfl⟩⟩
instance : CS Try.prog 109 1 := ⟨Try.sizeOf109⟩
instance : CA Try.prog 109 false := ⟨Try.isAgg109⟩
instance : CZ Try.prog 109 (.nilFunc) := ⟨Try.zeroValue109⟩
instance : CE Try.prog 109 1 8 := ⟨Try.t109, (.nilFunc), by kernel_rfl, by kernel_rfl, by kernel_rfl, by kernel_rfl, by kernel_rfl⟩
instance : CY Try.prog 109 8 := ⟨fun w => ⟨_, Try.typeInfo109 w, rfl⟩⟩
instance : CS Try.prog 110 1 := ⟨Try.sizeOf110⟩
instance : CA Try.prog 110 false := ⟨Try.isAgg110⟩
instance : CZ Try.prog 110 (.nilFunc) := ⟨Try.zeroValue110⟩
instance : CE Try.prog 110 1 8 := ⟨Try.t110, (.nilFunc), by kernel_rfl, by kernel_rfl, by kernel_rfl, by kernel_rfl, by kernel_rfl⟩
instance : CY Try.prog 110 8 := ⟨fun w => ⟨_, Try.typeInfo110 w, rfl⟩⟩
instance : CS Try.prog 111 1 := ⟨Try.sizeOf111⟩
instance : CA Try.prog 111 false := ⟨Try.isAgg111⟩
instance : CZ Try.prog 111 (.int .u32 0) := ⟨Try.zeroValue111⟩
instance : CE Try.prog 111 1 4 := ⟨Try.t111, (.int .u32 0), by kernel_rfl, by kernel_rfl, by kernel_rfl, by kernel_rfl, by kernel_rfl⟩
instance : CY Try.prog 111 4 := ⟨fun w => ⟨_, Try.typeInfo111 w, rfl⟩⟩
instance : CS Try.prog 112 1 := ⟨Try.sizeOf112⟩
instance : CA Try.prog 112 false := ⟨Try.isAgg112⟩
instance : CZ Try.prog 112 (.nilFunc) := ⟨Try.zeroValue112⟩
instance : CE Try.prog 112 1 8 := ⟨Try.t112, (.nilFunc), by kernel_rfl, by kernel_rfl, by kernel_rfl, by kernel_rfl, by kernel_rfl⟩
instance : CY Try.prog 112 8 := ⟨fun w => ⟨_, Try.typeInfo112 w, rfl⟩⟩
instance : CS Try.prog 113 1 := ⟨Try.sizeOf113⟩
instance : CA Try.prog 113 false := ⟨Try.isAgg113⟩
instance : CZ Try.prog 113 (.int .u64 0) := ⟨Try.zeroValue113⟩
instance : CE Try.prog 113 1 8 := ⟨Try.t113, (.int .u64 0), by kernel_rfl, by kernel_rfl, by kernel_rfl, by kernel_rfl, by kernel_rfl⟩
instance : CY Try.prog 113 8 := ⟨fun w => ⟨_, Try.typeInfo113 w, rfl⟩⟩
instance : CS Try.prog 115 1 := ⟨Try.sizeOf115⟩
instance : CA Try.prog 115 false := ⟨Try.isAgg115⟩
instance : CZ Try.prog 115 (.nilFunc) := ⟨Try.zeroValue115⟩
instance : CE Try.prog 115 1 8 := ⟨Try.t115, (.nilFunc), by kernel_rfl, by kernel_rfl, by kernel_rfl, by kernel_rfl, by kernel_rfl⟩
instance : CY Try.prog 115 8 := ⟨fun w => ⟨_, Try.typeInfo115 w, rfl⟩⟩
instance : CSl Try.prog 116 75 := ⟨Try.runUnderlying116, Try.underlying116⟩
instance : CS Try.prog 116 1 := ⟨Try.sizeOf116⟩
instance : CA Try.prog 116 false := ⟨Try.isAgg116⟩
instance : CZ Try.prog 116 (.slice none 0 0) := ⟨Try.zeroValue116⟩
instance : CE Try.prog 116 1 24 := ⟨Try.t116, (.slice none 0 0), by kernel_rfl, by kernel_rfl, by kernel_rfl, by kernel_rfl, by kernel_rfl⟩
instance : CY Try.prog 116 24 := ⟨fun w => ⟨_, Try.typeInfo116 w, rfl⟩⟩
instance : CS Try.prog 118 1 := ⟨Try.sizeOf118⟩
instance : CA Try.prog 118 false := ⟨Try.isAgg118⟩
instance : CZ Try.prog 118 (.nilFunc) := ⟨Try.zeroValue118⟩
instance : CE Try.prog 118 1 8 := ⟨Try.t118, (.nilFunc), by kernel_rfl, by kernel_rfl, by kernel_rfl, by kernel_rfl, by kernel_rfl⟩
instance : CY Try.prog 118 8 := ⟨fun w => ⟨_, Try.typeInfo118 w, rfl⟩⟩
instance : CS Try.prog 119 1 := ⟨Try.sizeOf119⟩
instance : CA Try.prog 119 false := ⟨Try.isAgg119⟩
instance : CZ Try.prog 119 (.nilFunc) := ⟨Try.zeroValue119⟩
instance : CE Try.prog 119 1 8 := ⟨Try.t119, (.nilFunc), by kernel_rfl, by kernel_rfl, by kernel_rfl, by kernel_rfl, by kernel_rfl⟩
instance : CY Try.prog 119 8 := ⟨fun w => ⟨_, Try.typeInfo119 w, rfl⟩⟩
instance : CS Try.prog 120 2 := ⟨Try.sizeOf120⟩
instance : CA Try.prog 120 true := ⟨Try.isAgg120⟩
instance : CZ Try.prog 120 (.agg #[.int .i64 0, .slice none 0 0]) := ⟨Try.zeroValue120⟩
instance : CE Try.prog 120 2 32 := ⟨Try.t120, (.agg #[.int .i64 0, .slice none 0 0]), by kernel_rfl, by kernel_rfl, by kernel_rfl, by kernel_rfl, by kernel_rfl⟩
instance : CY Try.prog 120 32 := ⟨fun w => ⟨_, Try.typeInfo120 w, rfl⟩⟩
instance : CB Try.prog 120 [(0, 1), (1, 1)] := ⟨fun w => ⟨_, Try.runUnderlying120 w, by kernel_rfl⟩⟩
instance : CF Try.prog 120 0 0 := ⟨fun _ _ => by kernel_rfl⟩
instance : CF Try.prog 120 1 1 := ⟨fun _ _ => by kernel_rfl⟩
instance : CS Try.prog 121 2 := ⟨Try.sizeOf121⟩
instance : CA Try.prog 121 true := ⟨Try.isAgg121⟩
instance : CZ Try.prog 121 (.agg #[.int .i64 0, .slice none 0 0]) := ⟨Try.zeroValue121⟩
instance : CE Try.prog 121 2 32 := ⟨Try.t121, (.agg #[.int .i64 0, .slice none 0 0]), by kernel_rfl, by kernel_rfl, by kernel_rfl, by kernel_rfl, by kernel_rfl⟩
instance : CY Try.prog 121 32 := ⟨fun w => ⟨_, Try.typeInfo121 w, rfl⟩⟩
instance : CB Try.prog 121 [(0, 1), (1, 1)] := ⟨fun w => ⟨_, Try.runUnderlying121 w, by kernel_rfl⟩⟩
instance : CF Try.prog 121 0 0 := ⟨fun _ _ => by kernel_rfl⟩
instance : CF Try.prog 121 1 1 := ⟨fun _ _ => by kernel_rfl⟩
instance : CS Try.prog 122 1 := ⟨Try.sizeOf122⟩
instance : CA Try.prog 122 false := ⟨Try.isAgg122⟩
instance : CZ Try.prog 122 (.nilFunc) := ⟨Try.zeroValue122⟩
instance : CE Try.prog 122 1 8 := ⟨Try.t122, (.nilFunc), by kernel_rfl, by kernel_rfl, by kernel_rfl, by kernel_rfl, by kernel_rfl⟩
instance : CY Try.prog 122 8 := ⟨fun w => ⟨_, Try.typeInfo122 w, rfl⟩⟩
instance : CS Try.prog 123 1 := ⟨Try.sizeOf123⟩
instance : CA Try.prog 123 false := ⟨Try.isAgg123⟩
instance : CZ Try.prog 123 (.nilFunc) := ⟨Try.zeroValue123⟩
instance : CE Try.prog 123 1 8 := ⟨Try.t123, (.nilFunc), by kernel_rfl, by kernel_rfl, by kernel_rfl, by kernel_rfl, by kernel_rfl⟩
instance : CY Try.prog 123 8 := ⟨fun w => ⟨_, Try.typeInfo123 w, rfl⟩⟩
instance : CS Try.prog 124 1 := ⟨Try.sizeOf124⟩
instance : CA Try.prog 124 false := ⟨Try.isAgg124⟩
instance : CZ Try.prog 124 (.nilFunc) := ⟨Try.zeroValue124⟩
instance : CE Try.prog 124 1 8 := ⟨Try.t124, (.nilFunc), by kernel_rfl, by kernel_rfl, by kernel_rfl, by kernel_rfl, by kernel_rfl⟩
instance : CY Try.prog 124 8 := ⟨fun w => ⟨_, Try.typeInfo124 w, rfl⟩⟩
instance : CS Try.prog 125 1 := ⟨Try.sizeOf125⟩
instance : CA Try.prog 125 false := ⟨Try.isAgg125⟩
instance : CZ Try.prog 125 (.nilFunc) := ⟨Try.zeroValue125⟩
instance : CE Try.prog 125 1 8 := ⟨Try.t125, (.nilFunc), by kernel_rfl, by kernel_rfl, by kernel_rfl, by kernel_rfl, by kernel_rfl⟩
instance : CY Try.prog 125 8 := ⟨fun w => ⟨_, Try.typeInfo125 w, rfl⟩⟩
instance : CS Try.prog 126 1 := ⟨Try.sizeOf126⟩
instance : CA Try.prog 126 false := ⟨Try.isAgg126⟩
instance : CZ Try.prog 126 (.nilFunc) := ⟨Try.zeroValue126⟩
instance : CE Try.prog 126 1 8 := ⟨Try.t126, (.nilFunc), by kernel_rfl, by kernel_rfl, by kernel_rfl, by kernel_rfl, by kernel_rfl⟩
instance : CY Try.prog 126 8 := ⟨fun w => ⟨_, Try.typeInfo126 w, rfl⟩⟩
instance : CSl Try.prog 127 53 := ⟨Try.runUnderlying127, Try.underlying127⟩
instance : CS Try.prog 127 1 := ⟨Try.sizeOf127⟩
instance : CA Try.prog 127 false := ⟨Try.isAgg127⟩
instance : CZ Try.prog 127 (.slice none 0 0) := ⟨Try.zeroValue127⟩
instance : CE Try.prog 127 1 24 := ⟨Try.t127, (.slice none 0 0), by kernel_rfl, by kernel_rfl, by kernel_rfl, by kernel_rfl, by kernel_rfl⟩
instance : CY Try.prog 127 24 := ⟨fun w => ⟨_, Try.typeInfo127 w, rfl⟩⟩
instance : CS Try.prog 128 1 := ⟨Try.sizeOf128⟩
instance : CA Try.prog 128 false := ⟨Try.isAgg128⟩
instance : CZ Try.prog 128 (.nilFunc) := ⟨Try.zeroValue128⟩
instance : CE Try.prog 128 1 8 := ⟨Try.t128, (.nilFunc), by kernel_rfl, by kernel_rfl, by kernel_rfl, by kernel_rfl, by kernel_rfl⟩
instance : CY Try.prog 128 8 := ⟨fun w => ⟨_, Try.typeInfo128 w, rfl⟩⟩
instance : CS Try.prog 129 1 := ⟨Try.sizeOf129⟩
instance : CA Try.prog 129 false := ⟨Try.isAgg129⟩
instance : CZ Try.prog 129 (.int .u64 0) := ⟨Try.zeroValue129⟩
instance : CE Try.prog 129 1 8 := ⟨Try.t129, (.int .u64 0), by kernel_rfl, by kernel_rfl, by kernel_rfl, by kernel_rfl, by kernel_rfl⟩
instance : CY Try.prog 129 8 := ⟨fun w => ⟨_, Try.typeInfo129 w, rfl⟩⟩
instance : CS Try.prog 130 1 := ⟨Try.sizeOf130⟩
instance : CA Try.prog 130 false := ⟨Try.isAgg130⟩
instance : CZ Try.prog 130 (.nilFunc) := ⟨Try.zeroValue130⟩
instance : CE Try.prog 130 1 8 := ⟨Try.t130, (.nilFunc), by kernel_rfl, by kernel_rfl, by kernel_rfl, by kernel_rfl, by kernel_rfl⟩
instance : CY Try.prog 130 8 := ⟨fun w => ⟨_, Try.typeInfo130 w, rfl⟩⟩
instance : CS Try.prog 131 1 := ⟨Try.sizeOf131⟩
instance : CA Try.prog 131 false := ⟨Try.isAgg131⟩
instance : CZ Try.prog 131 (.nilFunc) := ⟨Try.zeroValue131⟩
instance : CE Try.prog 131 1 8 := ⟨Try.t131, (.nilFunc), by kernel_rfl, by kernel_rfl, by kernel_rfl, by kernel_rfl, by kernel_rfl⟩
instance : CY Try.prog 131 8 := ⟨fun w => ⟨_, Try.typeInfo131 w, rfl⟩⟩
instance : CS Try.prog 132 1 := ⟨Try.sizeOf132⟩
instance : CA Try.prog 132 false := ⟨Try.isAgg132⟩
instance : CZ Try.prog 132 (.nilFunc) := ⟨Try.zeroValue132⟩
instance : CE Try.prog 132 1 8 := ⟨Try.t132, (.nilFunc), by kernel_rfl, by kernel_rfl, by kernel_rfl, by kernel_rfl, by kernel_rfl⟩
instance : CY Try.prog 132 8 := ⟨fun w => ⟨_, Try.typeInfo132 w, rfl⟩⟩
instance : CS Try.prog 133 1 := ⟨Try.sizeOf133⟩
instance : CA Try.prog 133 false := ⟨Try.isAgg133⟩
instance : CZ Try.prog 133 (.pointer none) := ⟨Try.zeroValue133⟩
instance : CE Try.prog 133 1 8 := ⟨Try.t133, (.pointer none), by kernel_rfl, by kernel_rfl, by kernel_rfl, by kernel_rfl, by kernel_rfl⟩
instance : CY Try.prog 133 8 := ⟨fun w => ⟨_, Try.typeInfo133 w, rfl⟩⟩
instance : CS Try.prog 134 1 := ⟨Try.sizeOf134⟩
instance : CA Try.prog 134 false := ⟨Try.isAgg134⟩
instance : CZ Try.prog 134 (.nilFunc) := ⟨Try.zeroValue134⟩
instance : CE Try.prog 134 1 8 := ⟨Try.t134, (.nilFunc), by kernel_rfl, by kernel_rfl, by kernel_rfl, by kernel_rfl, by kernel_rfl⟩
instance : CY Try.prog 134 8 := ⟨fun w => ⟨_, Try.typeInfo134 w, rfl⟩⟩
instance : CS Try.prog 135 1 := ⟨Try.sizeOf135⟩
instance : CA Try.prog 135 false := ⟨Try.isAgg135⟩
instance : CZ Try.prog 135 (.nilFunc) := ⟨Try.zeroValue135⟩
instance : CE Try.prog 135 1 8 := ⟨Try.t135, (.nilFunc), by kernel_rfl, by kernel_rfl, by kernel_rfl, by kernel_rfl, by kernel_rfl⟩
instance : CY Try.prog 135 8 := ⟨fun w => ⟨_, Try.typeInfo135 w, rfl⟩⟩
instance : CS Try.prog 136 1 := ⟨Try.sizeOf136⟩
instance : CA Try.prog 136 false := ⟨Try.isAgg136⟩
instance : CZ Try.prog 136 (.nilFunc) := ⟨Try.zeroValue136⟩
instance : CE Try.prog 136 1 8 := ⟨Try.t136, (.nilFunc), by kernel_rfl, by kernel_rfl, by kernel_rfl, by kernel_rfl, by kernel_rfl⟩
instance : CY Try.prog 136 8 := ⟨fun w => ⟨_, Try.typeInfo136 w, rfl⟩⟩
instance : CS Try.prog 137 4 := ⟨Try.sizeOf137⟩
instance : CA Try.prog 137 true := ⟨Try.isAgg137⟩
instance : CZ Try.prog 137 (.agg #[.int .i64 0, .int .i64 0, .int .i64 0, .string ⟨#[]⟩]) := ⟨Try.zeroValue137⟩
instance : CE Try.prog 137 4 40 := ⟨Try.t137, (.agg #[.int .i64 0, .int .i64 0, .int .i64 0, .string ⟨#[]⟩]), by kernel_rfl, by kernel_rfl, by kernel_rfl, by kernel_rfl, by kernel_rfl⟩
instance : CY Try.prog 137 40 := ⟨fun w => ⟨_, Try.typeInfo137 w, rfl⟩⟩
instance : CB Try.prog 137 [(0, 1), (1, 3)] := ⟨fun w => ⟨_, Try.runUnderlying137 w, by kernel_rfl⟩⟩
instance : CF Try.prog 137 0 0 := ⟨fun _ _ => by kernel_rfl⟩
instance : CF Try.prog 137 1 1 := ⟨fun _ _ => by kernel_rfl⟩
instance : CS Try.prog 138 4 := ⟨Try.sizeOf138⟩
instance : CA Try.prog 138 true := ⟨Try.isAgg138⟩
instance : CZ Try.prog 138 (.agg #[.int .i64 0, .int .i64 0, .int .i64 0, .string ⟨#[]⟩]) := ⟨Try.zeroValue138⟩
instance : CE Try.prog 138 4 40 := ⟨Try.t138, (.agg #[.int .i64 0, .int .i64 0, .int .i64 0, .string ⟨#[]⟩]), by kernel_rfl, by kernel_rfl, by kernel_rfl, by kernel_rfl, by kernel_rfl⟩
instance : CY Try.prog 138 40 := ⟨fun w => ⟨_, Try.typeInfo138 w, rfl⟩⟩
instance : CB Try.prog 138 [(0, 1), (1, 3)] := ⟨fun w => ⟨_, Try.runUnderlying138 w, by kernel_rfl⟩⟩
instance : CF Try.prog 138 0 0 := ⟨fun _ _ => by kernel_rfl⟩
instance : CF Try.prog 138 1 1 := ⟨fun _ _ => by kernel_rfl⟩
instance : CS Try.prog 139 6 := ⟨Try.sizeOf139⟩
instance : CA Try.prog 139 true := ⟨Try.isAgg139⟩
instance : CZ Try.prog 139 (.agg #[.int .i64 0, .int .i64 0, .int .i64 0, .int .i64 0, .int .i64 0, .string ⟨#[]⟩]) := ⟨Try.zeroValue139⟩
instance : CE Try.prog 139 6 56 := ⟨Try.t139, (.agg #[.int .i64 0, .int .i64 0, .int .i64 0, .int .i64 0, .int .i64 0, .string ⟨#[]⟩]), by kernel_rfl, by kernel_rfl, by kernel_rfl, by kernel_rfl, by kernel_rfl⟩
instance : CY Try.prog 139 56 := ⟨fun w => ⟨_, Try.typeInfo139 w, rfl⟩⟩
instance : CB Try.prog 139 [(0, 1), (1, 1), (2, 4)] := ⟨fun w => ⟨_, Try.runUnderlying139 w, by kernel_rfl⟩⟩
instance : CF Try.prog 139 0 0 := ⟨fun _ _ => by kernel_rfl⟩
instance : CF Try.prog 139 1 1 := ⟨fun _ _ => by kernel_rfl⟩
instance : CF Try.prog 139 2 2 := ⟨fun _ _ => by kernel_rfl⟩
instance : CS Try.prog 140 6 := ⟨Try.sizeOf140⟩
instance : CA Try.prog 140 true := ⟨Try.isAgg140⟩
instance : CZ Try.prog 140 (.agg #[.int .i64 0, .int .i64 0, .int .i64 0, .int .i64 0, .int .i64 0, .string ⟨#[]⟩]) := ⟨Try.zeroValue140⟩
instance : CE Try.prog 140 6 56 := ⟨Try.t140, (.agg #[.int .i64 0, .int .i64 0, .int .i64 0, .int .i64 0, .int .i64 0, .string ⟨#[]⟩]), by kernel_rfl, by kernel_rfl, by kernel_rfl, by kernel_rfl, by kernel_rfl⟩
instance : CY Try.prog 140 56 := ⟨fun w => ⟨_, Try.typeInfo140 w, rfl⟩⟩
instance : CB Try.prog 140 [(0, 1), (1, 1), (2, 4)] := ⟨fun w => ⟨_, Try.runUnderlying140 w, by kernel_rfl⟩⟩
instance : CF Try.prog 140 0 0 := ⟨fun _ _ => by kernel_rfl⟩
instance : CF Try.prog 140 1 1 := ⟨fun _ _ => by kernel_rfl⟩
instance : CF Try.prog 140 2 2 := ⟨fun _ _ => by kernel_rfl⟩
instance : CS Try.prog 141 1 := ⟨Try.sizeOf141⟩
instance : CA Try.prog 141 false := ⟨Try.isAgg141⟩
instance : CZ Try.prog 141 (.nilFunc) := ⟨Try.zeroValue141⟩
instance : CE Try.prog 141 1 8 := ⟨Try.t141, (.nilFunc), by kernel_rfl, by kernel_rfl, by kernel_rfl, by kernel_rfl, by kernel_rfl⟩
instance : CY Try.prog 141 8 := ⟨fun w => ⟨_, Try.typeInfo141 w, rfl⟩⟩
instance : CS Try.prog 143 1 := ⟨Try.sizeOf143⟩
instance : CA Try.prog 143 false := ⟨Try.isAgg143⟩
instance : CZ Try.prog 143 (.nilFunc) := ⟨Try.zeroValue143⟩
instance : CE Try.prog 143 1 8 := ⟨Try.t143, (.nilFunc), by kernel_rfl, by kernel_rfl, by kernel_rfl, by kernel_rfl, by kernel_rfl⟩
instance : CY Try.prog 143 8 := ⟨fun w => ⟨_, Try.typeInfo143 w, rfl⟩⟩
instance : CS Try.prog 144 1 := ⟨Try.sizeOf144⟩
instance : CA Try.prog 144 false := ⟨Try.isAgg144⟩
instance : CZ Try.prog 144 (.nilFunc) := ⟨Try.zeroValue144⟩
instance : CE Try.prog 144 1 8 := ⟨Try.t144, (.nilFunc), by kernel_rfl, by kernel_rfl, by kernel_rfl, by kernel_rfl, by kernel_rfl⟩
instance : CY Try.prog 144 8 := ⟨fun w => ⟨_, Try.typeInfo144 w, rfl⟩⟩
instance : CS Try.prog 145 1 := ⟨Try.sizeOf145⟩
instance : CA Try.prog 145 false := ⟨Try.isAgg145⟩
instance : CZ Try.prog 145 (.nilFunc) := ⟨Try.zeroValue145⟩
instance : CE Try.prog 145 1 8 := ⟨Try.t145, (.nilFunc), by kernel_rfl, by kernel_rfl, by kernel_rfl, by kernel_rfl, by kernel_rfl⟩
instance : CY Try.prog 145 8 := ⟨fun w => ⟨_, Try.typeInfo145 w, rfl⟩⟩
instance : CS Try.prog 146 1 := ⟨Try.sizeOf146⟩
instance : CA Try.prog 146 false := ⟨Try.isAgg146⟩
instance : CZ Try.prog 146 (.nilFunc) := ⟨Try.zeroValue146⟩
instance : CE Try.prog 146 1 8 := ⟨Try.t146, (.nilFunc), by kernel_rfl, by kernel_rfl, by kernel_rfl, by kernel_rfl, by kernel_rfl⟩
instance : CY Try.prog 146 8 := ⟨fun w => ⟨_, Try.typeInfo146 w, rfl⟩⟩
instance : CS Try.prog 147 1 := ⟨Try.sizeOf147⟩
instance : CA Try.prog 147 false := ⟨Try.isAgg147⟩
instance : CZ Try.prog 147 (.pointer none) := ⟨Try.zeroValue147⟩
instance : CE Try.prog 147 1 8 := ⟨Try.t147, (.pointer none), by kernel_rfl, by kernel_rfl, by kernel_rfl, by kernel_rfl, by kernel_rfl⟩
instance : CY Try.prog 147 8 := ⟨fun w => ⟨_, Try.typeInfo147 w, rfl⟩⟩
instance : CS Try.prog 149 1 := ⟨Try.sizeOf149⟩
instance : CA Try.prog 149 false := ⟨Try.isAgg149⟩
instance : CZ Try.prog 149 (.nilFunc) := ⟨Try.zeroValue149⟩
instance : CE Try.prog 149 1 8 := ⟨Try.t149, (.nilFunc), by kernel_rfl, by kernel_rfl, by kernel_rfl, by kernel_rfl, by kernel_rfl⟩
instance : CY Try.prog 149 8 := ⟨fun w => ⟨_, Try.typeInfo149 w, rfl⟩⟩
instance : CS Try.prog 150 1 := ⟨Try.sizeOf150⟩
instance : CA Try.prog 150 false := ⟨Try.isAgg150⟩
instance : CZ Try.prog 150 (.nilFunc) := ⟨Try.zeroValue150⟩
instance : CE Try.prog 150 1 8 := ⟨Try.t150, (.nilFunc), by kernel_rfl, by kernel_rfl, by kernel_rfl, by kernel_rfl, by kernel_rfl⟩
instance : CY Try.prog 150 8 := ⟨fun w => ⟨_, Try.typeInfo150 w, rfl⟩⟩
instance : CS Try.prog 151 1 := ⟨Try.sizeOf151⟩
instance : CA Try.prog 151 false := ⟨Try.isAgg151⟩
instance : CZ Try.prog 151 (.nilFunc) := ⟨Try.zeroValue151⟩
instance : CE Try.prog 151 1 8 := ⟨Try.t151, (.nilFunc), by kernel_rfl, by kernel_rfl, by kernel_rfl, by kernel_rfl, by kernel_rfl⟩
instance : CY Try.prog 151 8 := ⟨fun w => ⟨_, Try.typeInfo151 w, rfl⟩⟩
instance : CS Try.prog 152 1 := ⟨Try.sizeOf152⟩
instance : CA Try.prog 152 false := ⟨Try.isAgg152⟩
instance : CZ Try.prog 152 (.nilFunc) := ⟨Try.zeroValue152⟩
instance : CE Try.prog 152 1 8 := ⟨Try.t152, (.nilFunc), by kernel_rfl, by kernel_rfl, by kernel_rfl, by kernel_rfl, by kernel_rfl⟩
instance : CY Try.prog 152 8 := ⟨fun w => ⟨_, Try.typeInfo152 w, rfl⟩⟩
instance : CS Try.prog 153 1 := ⟨Try.sizeOf153⟩
instance : CA Try.prog 153 false := ⟨Try.isAgg153⟩
instance : CZ Try.prog 153 (.nilFunc) := ⟨Try.zeroValue153⟩
instance : CE Try.prog 153 1 8 := ⟨Try.t153, (.nilFunc), by kernel_rfl, by kernel_rfl, by kernel_rfl, by kernel_rfl, by kernel_rfl⟩
instance : CY Try.prog 153 8 := ⟨fun w => ⟨_, Try.typeInfo153 w, rfl⟩⟩
instance : CS Try.prog 154 1 := ⟨Try.sizeOf154⟩
instance : CA Try.prog 154 false := ⟨Try.isAgg154⟩
instance : CZ Try.prog 154 (.nilFunc) := ⟨Try.zeroValue154⟩
instance : CE Try.prog 154 1 8 := ⟨Try.t154, (.nilFunc), by kernel_rfl, by kernel_rfl, by kernel_rfl, by kernel_rfl, by kernel_rfl⟩
instance : CY Try.prog 154 8 := ⟨fun w => ⟨_, Try.typeInfo154 w, rfl⟩⟩
instance : CAr Try.prog 157 0 16 := ⟨Try.runUnderlying157⟩
instance : CS Try.prog 157 0 := ⟨Try.sizeOf157⟩
instance : CA Try.prog 157 true := ⟨Try.isAgg157⟩
instance : CZ Try.prog 157 (.agg #[]) := ⟨Try.zeroValue157⟩
instance : CE Try.prog 157 0 0 := ⟨Try.t157, (.agg #[]), by kernel_rfl, by kernel_rfl, by kernel_rfl, by kernel_rfl, by kernel_rfl⟩
instance : CY Try.prog 157 0 := ⟨fun w => ⟨_, Try.typeInfo157 w, rfl⟩⟩
instance : CS Try.prog 160 1 := ⟨Try.sizeOf160⟩
instance : CA Try.prog 160 false := ⟨Try.isAgg160⟩
instance : CZ Try.prog 160 (.nilFunc) := ⟨Try.zeroValue160⟩
instance : CE Try.prog 160 1 8 := ⟨Try.t160, (.nilFunc), by kernel_rfl, by kernel_rfl, by kernel_rfl, by kernel_rfl, by kernel_rfl⟩
instance : CY Try.prog 160 8 := ⟨fun w => ⟨_, Try.typeInfo160 w, rfl⟩⟩
instance : CS Try.prog 163 1 := ⟨Try.sizeOf163⟩
instance : CA Try.prog 163 false := ⟨Try.isAgg163⟩
instance : CZ Try.prog 163 (.nilFunc) := ⟨Try.zeroValue163⟩
instance : CE Try.prog 163 1 8 := ⟨Try.t163, (.nilFunc), by kernel_rfl, by kernel_rfl, by kernel_rfl, by kernel_rfl, by kernel_rfl⟩
instance : CY Try.prog 163 8 := ⟨fun w => ⟨_, Try.typeInfo163 w, rfl⟩⟩
instance : CS Try.prog 164 1 := ⟨Try.sizeOf164⟩
instance : CA Try.prog 164 false := ⟨Try.isAgg164⟩
instance : CZ Try.prog 164 (.pointer none) := ⟨Try.zeroValue164⟩
instance : CE Try.prog 164 1 8 := ⟨Try.t164, (.pointer none), by kernel_rfl, by kernel_rfl, by kernel_rfl, by kernel_rfl, by kernel_rfl⟩
instance : CY Try.prog 164 8 := ⟨fun w => ⟨_, Try.typeInfo164 w, rfl⟩⟩
end V
end Go.Proofs.Ytlpbgmahegoidaa
