/- The facts on the types of this translation, as instances. No condition. -/
import Derived.Test.YtifcacahgiihoaaLibB
namespace Go.Proofs.Ytifcacahgiihoaa
namespace V
open Go.RowKit
instance : CS Try.prog 1 1 := ⟨Try.sizeOf1⟩
instance : CA Try.prog 1 false := ⟨Try.isAgg1⟩
instance : CZ Try.prog 1 (.nilFunc) := ⟨Try.zeroValue1⟩
instance : CE Try.prog 1 1 8 := ⟨Try.t1, (.nilFunc), by kernel_rfl, by kernel_rfl, by kernel_rfl, by kernel_rfl, by kernel_rfl⟩
instance : CY Try.prog 1 8 := ⟨fun w => ⟨_, Try.typeInfo1 w, rfl⟩⟩
instance : CIn Try.prog 2 := ⟨Try.runUnderlying2⟩
instance : CS Try.prog 2 1 := ⟨Try.sizeOf2⟩
instance : CA Try.prog 2 false := ⟨Try.isAgg2⟩
instance : CZ Try.prog 2 (.int .i64 0) := ⟨Try.zeroValue2⟩
instance : CE Try.prog 2 1 8 := ⟨Try.t2, (.int .i64 0), by kernel_rfl, by kernel_rfl, by kernel_rfl, by kernel_rfl, by kernel_rfl⟩
instance : CY Try.prog 2 8 := ⟨fun w => ⟨_, Try.typeInfo2 w, rfl⟩⟩
instance : CIn Try.prog 3 := ⟨Try.runUnderlying3⟩
instance : CS Try.prog 3 1 := ⟨Try.sizeOf3⟩
instance : CA Try.prog 3 false := ⟨Try.isAgg3⟩
instance : CZ Try.prog 3 (.int .i64 0) := ⟨Try.zeroValue3⟩
instance : CE Try.prog 3 1 8 := ⟨Try.t3, (.int .i64 0), by kernel_rfl, by kernel_rfl, by kernel_rfl, by kernel_rfl, by kernel_rfl⟩
instance : CY Try.prog 3 8 := ⟨fun w => ⟨_, Try.typeInfo3 w, rfl⟩⟩
instance : CBo Try.prog 4 := ⟨Try.runUnderlying4⟩
instance : CS Try.prog 4 1 := ⟨Try.sizeOf4⟩
instance : CA Try.prog 4 false := ⟨Try.isAgg4⟩
instance : CZ Try.prog 4 (.bool false) := ⟨Try.zeroValue4⟩
instance : CE Try.prog 4 1 1 := ⟨Try.t4, (.bool false), by kernel_rfl, by kernel_rfl, by kernel_rfl, by kernel_rfl, by kernel_rfl⟩
instance : CY Try.prog 4 1 := ⟨fun w => ⟨_, Try.typeInfo4 w, rfl⟩⟩
instance : CU8 Try.prog 5 := ⟨Try.runUnderlying5⟩
instance : CS Try.prog 5 1 := ⟨Try.sizeOf5⟩
instance : CA Try.prog 5 false := ⟨Try.isAgg5⟩
instance : CZ Try.prog 5 (.int .u8 0) := ⟨Try.zeroValue5⟩
instance : CE Try.prog 5 1 1 := ⟨Try.t5, (.int .u8 0), by kernel_rfl, by kernel_rfl, by kernel_rfl, by kernel_rfl, by kernel_rfl⟩
instance : CY Try.prog 5 1 := ⟨fun w => ⟨_, Try.typeInfo5 w, rfl⟩⟩
instance : CSt Try.prog 9 := ⟨Try.runUnderlying9⟩
instance : CS Try.prog 9 1 := ⟨Try.sizeOf9⟩
instance : CA Try.prog 9 false := ⟨Try.isAgg9⟩
instance : CZ Try.prog 9 (.string ⟨#[]⟩) := ⟨Try.zeroValue9⟩
instance : CE Try.prog 9 1 16 := ⟨Try.t9, (.string ⟨#[]⟩), by kernel_rfl, by kernel_rfl, by kernel_rfl, by kernel_rfl, by kernel_rfl⟩
instance : CY Try.prog 9 16 := ⟨fun w => ⟨_, Try.typeInfo9 w, rfl⟩⟩
instance : CS Try.prog 12 1 := ⟨Try.sizeOf12⟩
instance : CA Try.prog 12 false := ⟨Try.isAgg12⟩
instance : CZ Try.prog 12 (.int .u64 0) := ⟨Try.zeroValue12⟩
instance : CE Try.prog 12 1 8 := ⟨Try.t12, (.int .u64 0), by kernel_rfl, by kernel_rfl, by kernel_rfl, by kernel_rfl, by kernel_rfl⟩
instance : CY Try.prog 12 8 := ⟨fun w => ⟨_, Try.typeInfo12 w, rfl⟩⟩
instance : CS Try.prog 15 1 := ⟨Try.sizeOf15⟩
instance : CA Try.prog 15 false := ⟨Try.isAgg15⟩
instance : CZ Try.prog 15 (.pointer none) := ⟨Try.zeroValue15⟩
instance : CE Try.prog 15 1 8 := ⟨Try.t15, (.pointer none), by kernel_rfl, by kernel_rfl, by kernel_rfl, by kernel_rfl, by kernel_rfl⟩
instance : CY Try.prog 15 8 := ⟨fun w => ⟨_, Try.typeInfo15 w, rfl⟩⟩
instance : CS Try.prog 16 1 := ⟨Try.sizeOf16⟩
instance : CA Try.prog 16 false := ⟨Try.isAgg16⟩
instance : CZ Try.prog 16 (.pointer none) := ⟨Try.zeroValue16⟩
instance : CE Try.prog 16 1 8 := ⟨Try.t16, (.pointer none), by kernel_rfl, by kernel_rfl, by kernel_rfl, by kernel_rfl, by kernel_rfl⟩
instance : CY Try.prog 16 8 := ⟨fun w => ⟨_, Try.typeInfo16 w, rfl⟩⟩
instance : CS Try.prog 21 1 := ⟨Try.sizeOf21⟩
instance : CA Try.prog 21 false := ⟨Try.isAgg21⟩
instance : CZ Try.prog 21 (.int .i32 0) := ⟨Try.zeroValue21⟩
instance : CE Try.prog 21 1 4 := ⟨Try.t21, (.int .i32 0), by kernel_rfl, by kernel_rfl, by kernel_rfl, by kernel_rfl, by kernel_rfl⟩
instance : CY Try.prog 21 4 := ⟨fun w => ⟨_, Try.typeInfo21 w, rfl⟩⟩
instance : CSl Try.prog 22 64 := ⟨Try.runUnderlying22, Try.underlying22⟩
instance : CS Try.prog 22 1 := ⟨Try.sizeOf22⟩
instance : CA Try.prog 22 false := ⟨Try.isAgg22⟩
instance : CZ Try.prog 22 (.slice none 0 0) := ⟨Try.zeroValue22⟩
instance : CE Try.prog 22 1 24 := ⟨Try.t22, (.slice none 0 0), by kernel_rfl, by kernel_rfl, by kernel_rfl, by kernel_rfl, by kernel_rfl⟩
instance : CY Try.prog 22 24 := ⟨fun w => ⟨_, Try.typeInfo22 w, rfl⟩⟩
instance : CS Try.prog 23 2 := ⟨Try.sizeOf23⟩
instance : CA Try.prog 23 true := ⟨Try.isAgg23⟩
instance : CZ Try.prog 23 (.agg #[.slice none 0 0, .int .i64 0]) := ⟨Try.zeroValue23⟩
instance : CE Try.prog 23 2 32 := ⟨Try.t23, (.agg #[.slice none 0 0, .int .i64 0]), by kernel_rfl, by kernel_rfl, by kernel_rfl, by kernel_rfl, by kernel_rfl⟩
instance : CY Try.prog 23 32 := ⟨fun w => ⟨_, Try.typeInfo23 w, rfl⟩⟩
instance : CB Try.prog 23 [(0, 1), (1, 1)] := ⟨fun w => ⟨_, Try.runUnderlying23 w, by kernel_rfl⟩⟩
instance : CF Try.prog 23 0 0 := ⟨fun _ _ => by kernel_rfl⟩
instance : CF Try.prog 23 1 1 := ⟨fun _ _ => by kernel_rfl⟩
instance : CS Try.prog 24 2 := ⟨Try.sizeOf24⟩
instance : CA Try.prog 24 true := ⟨Try.isAgg24⟩
instance : CZ Try.prog 24 (.agg #[.slice none 0 0, .int .i64 0]) := ⟨Try.zeroValue24⟩
instance : CE Try.prog 24 2 32 := ⟨Try.t24, (.agg #[.slice none 0 0, .int .i64 0]), by kernel_rfl, by kernel_rfl, by kernel_rfl, by kernel_rfl, by kernel_rfl⟩
instance : CY Try.prog 24 32 := ⟨fun w => ⟨_, Try.typeInfo24 w, rfl⟩⟩
instance : CB Try.prog 24 [(0, 1), (1, 1)] := ⟨fun w => ⟨_, Try.runUnderlying24 w, by kernel_rfl⟩⟩
instance : CF Try.prog 24 0 0 := ⟨fun _ _ => by kernel_rfl⟩
instance : CF Try.prog 24 1 1 := ⟨fun _ _ => by kernel_rfl⟩
instance : CS Try.prog 25 1 := ⟨Try.sizeOf25⟩
instance : CA Try.prog 25 false := ⟨Try.isAgg25⟩
instance : CZ Try.prog 25 (.nilFunc) := ⟨Try.zeroValue25⟩
instance : CE Try.prog 25 1 8 := ⟨Try.t25, (.nilFunc), by kernel_rfl, by kernel_rfl, by kernel_rfl, by kernel_rfl, by kernel_rfl⟩
instance : CY Try.prog 25 8 := ⟨fun w => ⟨_, Try.typeInfo25 w, rfl⟩⟩
instance : CSl Try.prog 26 59 := ⟨Try.runUnderlying26, Try.underlying26⟩
instance : CS Try.prog 26 1 := ⟨Try.sizeOf26⟩
instance : CA Try.prog 26 false := ⟨Try.isAgg26⟩
instance : CZ Try.prog 26 (.slice none 0 0) := ⟨Try.zeroValue26⟩
instance : CE Try.prog 26 1 24 := ⟨Try.t26, (.slice none 0 0), by kernel_rfl, by kernel_rfl, by kernel_rfl, by kernel_rfl, by kernel_rfl⟩
instance : CY Try.prog 26 24 := ⟨fun w => ⟨_, Try.typeInfo26 w, rfl⟩⟩
instance : CS Try.prog 27 2 := ⟨Try.sizeOf27⟩
instance : CA Try.prog 27 true := ⟨Try.isAgg27⟩
instance : CZ Try.prog 27 (.agg #[.slice none 0 0, .int .i64 0]) := ⟨Try.zeroValue27⟩
instance : CE Try.prog 27 2 32 := ⟨Try.t27, (.agg #[.slice none 0 0, .int .i64 0]), by kernel_rfl, by kernel_rfl, by kernel_rfl, by kernel_rfl, by kernel_rfl⟩
instance : CY Try.prog 27 32 := ⟨fun w => ⟨_, Try.typeInfo27 w, rfl⟩⟩
instance : CB Try.prog 27 [(0, 1), (1, 1)] := ⟨fun w => ⟨_, Try.runUnderlying27 w, by kernel_rfl⟩⟩
instance : CF Try.prog 27 0 0 := ⟨fun _ _ => by kernel_rfl⟩
instance : CF Try.prog 27 1 1 := ⟨fun _ _ => by kernel_rfl⟩
instance : CS Try.prog 28 2 := ⟨Try.sizeOf28⟩
instance : CA Try.prog 28 true := ⟨Try.isAgg28⟩
instance : CZ Try.prog 28 (.agg #[.slice none 0 0, .int .i64 0]) := ⟨Try.zeroValue28⟩
instance : CE Try.prog 28 2 32 := ⟨Try.t28, (.agg #[.slice none 0 0, .int .i64 0]), by kernel_rfl, by kernel_rfl, by kernel_rfl, by kernel_rfl, by kernel_rfl⟩
instance : CY Try.prog 28 32 := ⟨fun w => ⟨_, Try.typeInfo28 w, rfl⟩⟩
instance : CB Try.prog 28 [(0, 1), (1, 1)] := ⟨fun w => ⟨_, Try.runUnderlying28 w, by kernel_rfl⟩⟩
instance : CF Try.prog 28 0 0 := ⟨fun _ _ => by kernel_rfl⟩
instance : CF Try.prog 28 1 1 := ⟨fun _ _ => by kernel_rfl⟩
instance : CS Try.prog 29 1 := ⟨Try.sizeOf29⟩
instance : CA Try.prog 29 false := ⟨Try.isAgg29⟩
instance : CZ Try.prog 29 (.nilFunc) := ⟨Try.zeroValue29⟩
instance : CE Try.prog 29 1 8 := ⟨Try.t29, (.nilFunc), by kernel_rfl, by kernel_rfl, by kernel_rfl, by kernel_rfl, by kernel_rfl⟩
instance : CY Try.prog 29 8 := ⟨fun w => ⟨_, Try.typeInfo29 w, rfl⟩⟩
instance : CS Try.prog 30 1 := ⟨Try.sizeOf30⟩
instance : CA Try.prog 30 false := ⟨Try.isAgg30⟩
instance : CZ Try.prog 30 (.nilFunc) := ⟨Try.zeroValue30⟩
instance : CE Try.prog 30 1 8 := ⟨Try.t30, (.nilFunc), by kernel_rfl, by kernel_rfl, by kernel_rfl, by kernel_rfl, by kernel_rfl⟩
instance : CY Try.prog 30 8 := ⟨fun w => ⟨_, Try.typeInfo30 w, rfl⟩⟩
instance : CS Try.prog 31 1 := ⟨Try.sizeOf31⟩
instance : CA Try.prog 31 false := ⟨Try.isAgg31⟩
instance : CZ Try.prog 31 (.nilFunc) := ⟨Try.zeroValue31⟩
instance : CE Try.prog 31 1 8 := ⟨Try.t31, (.nilFunc), by kernel_rfl, by kernel_rfl, by kernel_rfl, by kernel_rfl, by kernel_rfl⟩
instance : CY Try.prog 31 8 := ⟨fun w => ⟨_, Try.typeInfo31 w, rfl⟩⟩
instance : CS Try.prog 32 1 := ⟨Try.sizeOf32⟩
instance : CA Try.prog 32 false := ⟨Try.isAgg32⟩
instance : CZ Try.prog 32 (.nilFunc) := ⟨Try.zeroValue32⟩
instance : CE Try.prog 32 1 8 := ⟨Try.t32, (.nilFunc), by kernel_rfl, by kernel_rfl, by kernel_rfl, by kernel_rfl, by kernel_rfl⟩
instance : CY Try.prog 32 8 := ⟨fun w => ⟨_, Try.typeInfo32 w, rfl⟩⟩
instance : CS Try.prog 33 1 := ⟨Try.sizeOf33⟩
instance : CA Try.prog 33 false := ⟨Try.isAgg33⟩
instance : CZ Try.prog 33 (.nilFunc) := ⟨Try.zeroValue33⟩
instance : CE Try.prog 33 1 8 := ⟨Try.t33, (.nilFunc), by kernel_rfl, by kernel_rfl, by kernel_rfl, by kernel_rfl, by kernel_rfl⟩
instance : CY Try.prog 33 8 := ⟨fun w => ⟨_, Try.typeInfo33 w, rfl⟩⟩
instance : CSl Try.prog 34 5 := ⟨Try.runUnderlying34, Try.underlying34⟩
instance : CS Try.prog 34 1 := ⟨Try.sizeOf34⟩
instance : CA Try.prog 34 false := ⟨Try.isAgg34⟩
instance : CZ Try.prog 34 (.slice none 0 0) := ⟨Try.zeroValue34⟩
instance : CE Try.prog 34 1 24 := ⟨Try.t34, (.slice none 0 0), by kernel_rfl, by kernel_rfl, by kernel_rfl, by kernel_rfl, by kernel_rfl⟩
instance : CY Try.prog 34 24 := ⟨fun w => ⟨_, Try.typeInfo34 w, rfl⟩⟩
instance : CS Try.prog 36 1 := ⟨Try.sizeOf36⟩
instance : CA Try.prog 36 false := ⟨Try.isAgg36⟩
instance : CZ Try.prog 36 (.nilFunc) := ⟨Try.zeroValue36⟩
instance : CE Try.prog 36 1 8 := ⟨Try.t36, (.nilFunc), by kernel_rfl, by kernel_rfl, by kernel_rfl, by kernel_rfl, by kernel_rfl⟩
instance : CY Try.prog 36 8 := ⟨fun w => ⟨_, Try.typeInfo36 w, rfl⟩⟩
instance : CS Try.prog 37 1 := ⟨Try.sizeOf37⟩
instance : CA Try.prog 37 false := ⟨Try.isAgg37⟩
instance : CZ Try.prog 37 (.nilFunc) := ⟨Try.zeroValue37⟩
instance : CE Try.prog 37 1 8 := ⟨Try.t37, (.nilFunc), by kernel_rfl, by kernel_rfl, by kernel_rfl, by kernel_rfl, by kernel_rfl⟩
instance : CY Try.prog 37 8 := ⟨fun w => ⟨_, Try.typeInfo37 w, rfl⟩⟩
instance : CS Try.prog 38 1 := ⟨Try.sizeOf38⟩
instance : CA Try.prog 38 false := ⟨Try.isAgg38⟩
instance : CZ Try.prog 38 (.nilFunc) := ⟨Try.zeroValue38⟩
instance : CE Try.prog 38 1 8 := ⟨Try.t38, (.nilFunc), by kernel_rfl, by kernel_rfl, by kernel_rfl, by kernel_rfl, by kernel_rfl⟩
instance : CY Try.prog 38 8 := ⟨fun w => ⟨_, Try.typeInfo38 w, rfl⟩⟩
instance : CS Try.prog 39 1 := ⟨Try.sizeOf39⟩
instance : CA Try.prog 39 false := ⟨Try.isAgg39⟩
instance : CZ Try.prog 39 (.nilFunc) := ⟨Try.zeroValue39⟩
instance : CE Try.prog 39 1 8 := ⟨Try.t39, (.nilFunc), by kernel_rfl, by kernel_rfl, by kernel_rfl, by kernel_rfl, by kernel_rfl⟩
instance : CY Try.prog 39 8 := ⟨fun w => ⟨_, Try.typeInfo39 w, rfl⟩⟩
instance : CS Try.prog 41 1 := ⟨Try.sizeOf41⟩
instance : CA Try.prog 41 false := ⟨Try.isAgg41⟩
instance : CZ Try.prog 41 (.nilFunc) := ⟨Try.zeroValue41⟩
instance : CE Try.prog 41 1 8 := ⟨Try.t41, (.nilFunc), by kernel_rfl, by kernel_rfl, by kernel_rfl, by kernel_rfl, by kernel_rfl⟩
instance : CY Try.prog 41 8 := ⟨fun w => ⟨_, Try.typeInfo41 w, rfl⟩⟩
instance : CS Try.prog 43 1 := ⟨Try.sizeOf43⟩
instance : CA Try.prog 43 false := ⟨Try.isAgg43⟩
instance : CZ Try.prog 43 (.nilFunc) := ⟨Try.zeroValue43⟩
instance : CE Try.prog 43 1 8 := ⟨Try.t43, (.nilFunc), by kernel_rfl, by kernel_rfl, by kernel_rfl, by kernel_rfl, by kernel_rfl⟩
instance : CY Try.prog 43 8 := ⟨fun w => ⟨_, Try.typeInfo43 w, rfl⟩⟩
instance : CS Try.prog 44 1 := ⟨Try.sizeOf44⟩
instance : CA Try.prog 44 false := ⟨Try.isAgg44⟩
instance : CZ Try.prog 44 (.nilFunc) := ⟨Try.zeroValue44⟩
instance : CE Try.prog 44 1 8 := ⟨Try.t44, (.nilFunc), by kernel_rfl, by kernel_rfl, by kernel_rfl, by kernel_rfl, by kernel_rfl⟩
instance : CY Try.prog 44 8 := ⟨fun w => ⟨_, Try.typeInfo44 w, rfl⟩⟩
instance : CS Try.prog 45 1 := ⟨Try.sizeOf45⟩
instance : CA Try.prog 45 false := ⟨Try.isAgg45⟩
instance : CZ Try.prog 45 (.nilFunc) := ⟨Try.zeroValue45⟩
instance : CE Try.prog 45 1 8 := ⟨Try.t45, (.nilFunc), by kernel_rfl, by kernel_rfl, by kernel_rfl, by kernel_rfl, by kernel_rfl⟩
instance : CY Try.prog 45 8 := ⟨fun w => ⟨_, Try.typeInfo45 w, rfl⟩⟩
instance : CS Try.prog 46 1 := ⟨Try.sizeOf46⟩
instance : CA Try.prog 46 false := ⟨Try.isAgg46⟩
instance : CZ Try.prog 46 (.nilFunc) := ⟨Try.zeroValue46⟩
instance : CE Try.prog 46 1 8 := ⟨Try.t46, (.nilFunc), by kernel_rfl, by kernel_rfl, by kernel_rfl, by kernel_rfl, by kernel_rfl⟩
instance : CY Try.prog 46 8 := ⟨fun w => ⟨_, Try.typeInfo46 w, rfl⟩⟩
instance : CS Try.prog 47 1 := ⟨Try.sizeOf47⟩
instance : CA Try.prog 47 false := ⟨Try.isAgg47⟩
instance : CZ Try.prog 47 (.nilFunc) := ⟨Try.zeroValue47⟩
instance : CE Try.prog 47 1 8 := ⟨Try.t47, (.nilFunc), by kernel_rfl, by kernel_rfl, by kernel_rfl, by kernel_rfl, by kernel_rfl⟩
instance : CY Try.prog 47 8 := ⟨fun w => ⟨_, Try.typeInfo47 w, rfl⟩⟩
instance : CS Try.prog 48 1 := ⟨Try.sizeOf48⟩
instance : CA Try.prog 48 false := ⟨Try.isAgg48⟩
instance : CZ Try.prog 48 (.nilFunc) := ⟨Try.zeroValue48⟩
instance : CE Try.prog 48 1 8 := ⟨Try.t48, (.nilFunc), by kernel_rfl, by kernel_rfl, by kernel_rfl, by kernel_rfl, by kernel_rfl⟩
instance : CY Try.prog 48 8 := ⟨fun w => ⟨_, Try.typeInfo48 w, rfl⟩⟩
instance : CS Try.prog 49 1 := ⟨Try.sizeOf49⟩
instance : CA Try.prog 49 false := ⟨Try.isAgg49⟩
instance : CZ Try.prog 49 (.nilFunc) := ⟨Try.zeroValue49⟩
instance : CE Try.prog 49 1 8 := ⟨Try.t49, (.nilFunc), by kernel_rfl, by kernel_rfl, by kernel_rfl, by kernel_rfl, by kernel_rfl⟩
instance : CY Try.prog 49 8 := ⟨fun w => ⟨_, Try.typeInfo49 w, rfl⟩⟩
instance : CS Try.prog 50 1 := ⟨Try.sizeOf50⟩
instance : CA Try.prog 50 false := ⟨Try.isAgg50⟩
instance : CZ Try.prog 50 (.nilFunc) := ⟨Try.zeroValue50⟩
instance : CE Try.prog 50 1 8 := ⟨Try.t50, (.nilFunc), by kernel_rfl, by kernel_rfl, by kernel_rfl, by kernel_rfl, by kernel_rfl⟩
instance : CY Try.prog 50 8 := ⟨fun w => ⟨_, Try.typeInfo50 w, rfl⟩⟩
instance : CS Try.prog 51 1 := ⟨Try.sizeOf51⟩
instance : CA Try.prog 51 false := ⟨Try.isAgg51⟩
instance : CZ Try.prog 51 (.nilFunc) := ⟨Try.zeroValue51⟩
instance : CE Try.prog 51 1 8 := ⟨Try.t51, (.nilFunc), by kernel_rfl, by kernel_rfl, by kernel_rfl, by kernel_rfl, by kernel_rfl⟩
instance : CY Try.prog 51 8 := ⟨fun w => ⟨_, Try.typeInfo51 w, rfl⟩⟩
instance : CS Try.prog 52 1 := ⟨Try.sizeOf52⟩
instance : CA Try.prog 52 false := ⟨Try.isAgg52⟩
instance : CZ Try.prog 52 (.nilFunc) := ⟨Try.zeroValue52⟩
instance : CE Try.prog 52 1 8 := ⟨Try.t52, (.nilFunc), by kernel_rfl, by kernel_rfl, by kernel_rfl, by kernel_rfl, by kernel_rfl⟩
instance : CY Try.prog 52 8 := ⟨fun w => ⟨_, Try.typeInfo52 w, rfl⟩⟩
instance : CS Try.prog 53 1 := ⟨Try.sizeOf53⟩
instance : CA Try.prog 53 false := ⟨Try.isAgg53⟩
instance : CZ Try.prog 53 (.pointer none) := ⟨Try.zeroValue53⟩
instance : CE Try.prog 53 1 8 := ⟨Try.t53, (.pointer none), by kernel_rfl, by kernel_rfl, by kernel_rfl, by kernel_rfl, by kernel_rfl⟩
instance : CY Try.prog 53 8 := ⟨fun w => ⟨_, Try.typeInfo53 w, rfl⟩⟩
instance : CS Try.prog 54 1 := ⟨Try.sizeOf54⟩
instance : CA Try.prog 54 false := ⟨Try.isAgg54⟩
instance : CZ Try.prog 54 (.nilFunc) := ⟨Try.zeroValue54⟩
instance : CE Try.prog 54 1 8 := ⟨Try.t54, (.nilFunc), by kernel_rfl, by kernel_rfl, by kernel_rfl, by kernel_rfl, by kernel_rfl⟩
instance : CY Try.prog 54 8 := ⟨fun w => ⟨_, Try.typeInfo54 w, rfl⟩⟩
instance : CS Try.prog 55 1 := ⟨Try.sizeOf55⟩
instance : CA Try.prog 55 false := ⟨Try.isAgg55⟩
instance : CZ Try.prog 55 (.nilFunc) := ⟨Try.zeroValue55⟩
instance : CE Try.prog 55 1 8 := ⟨Try.t55, (.nilFunc), by kernel_rfl, by kernel_rfl, by kernel_rfl, by kernel_rfl, by kernel_rfl⟩
instance : CY Try.prog 55 8 := ⟨fun w => ⟨_, Try.typeInfo55 w, rfl⟩⟩
instance : CS Try.prog 56 1 := ⟨Try.sizeOf56⟩
instance : CA Try.prog 56 false := ⟨Try.isAgg56⟩
instance : CZ Try.prog 56 (.nilFunc) := ⟨Try.zeroValue56⟩
instance : CE Try.prog 56 1 8 := ⟨Try.t56, (.nilFunc), by kernel_rfl, by kernel_rfl, by kernel_rfl, by kernel_rfl, by kernel_rfl⟩
instance : CY Try.prog 56 8 := ⟨fun w => ⟨_, Try.typeInfo56 w, rfl⟩⟩
instance : CSl Try.prog 57 3 := ⟨Try.runUnderlying57, Try.underlying57⟩
instance : CS Try.prog 57 1 := ⟨Try.sizeOf57⟩
instance : CA Try.prog 57 false := ⟨Try.isAgg57⟩
instance : CZ Try.prog 57 (.slice none 0 0) := ⟨Try.zeroValue57⟩
instance : CE Try.prog 57 1 24 := ⟨Try.t57, (.slice none 0 0), by kernel_rfl, by kernel_rfl, by kernel_rfl, by kernel_rfl, by kernel_rfl⟩
instance : CY Try.prog 57 24 := ⟨fun w => ⟨_, Try.typeInfo57 w, rfl⟩⟩
instance : CS Try.prog 58 4 := ⟨Try.sizeOf58⟩
instance : CA Try.prog 58 true := ⟨Try.isAgg58⟩
instance : CZ Try.prog 58 (.agg #[.int .i64 0, .bool false, .int .i64 0, .int .i64 0]) := ⟨Try.zeroValue58⟩
instance : CE Try.prog 58 4 32 := ⟨Try.t58, (.agg #[.int .i64 0, .bool false, .int .i64 0, .int .i64 0]), by kernel_rfl, by kernel_rfl, by kernel_rfl, by kernel_rfl, by kernel_rfl⟩
instance : CY Try.prog 58 32 := ⟨fun w => ⟨_, Try.typeInfo58 w, rfl⟩⟩
instance : CB Try.prog 58 [(0, 1), (1, 1), (2, 1), (3, 1)] := ⟨fun w => ⟨_, Try.runUnderlying58 w, by kernel_rfl⟩⟩
instance : CF Try.prog 58 0 0 := ⟨fun _ _ => by kernel_rfl⟩
instance : CF Try.prog 58 1 1 := ⟨fun _ _ => by kernel_rfl⟩
instance : CF Try.prog 58 2 2 := ⟨fun _ _ => by kernel_rfl⟩
instance : CF Try.prog 58 3 3 := ⟨fun _ _ => by kernel_rfl⟩
instance : CS Try.prog 59 4 := ⟨Try.sizeOf59⟩
instance : CA Try.prog 59 true := ⟨Try.isAgg59⟩
instance : CZ Try.prog 59 (.agg #[.int .i64 0, .bool false, .int .i64 0, .int .i64 0]) := ⟨Try.zeroValue59⟩
instance : CE Try.prog 59 4 32 := ⟨Try.t59, (.agg #[.int .i64 0, .bool false, .int .i64 0, .int .i64 0]), by kernel_rfl, by kernel_rfl, by kernel_rfl, by kernel_rfl, by kernel_rfl⟩
instance : CY Try.prog 59 32 := ⟨fun w => ⟨_, Try.typeInfo59 w, rfl⟩⟩
instance : CB Try.prog 59 [(0, 1), (1, 1), (2, 1), (3, 1)] := ⟨fun w => ⟨_, Try.runUnderlying59 w, by kernel_rfl⟩⟩
instance : CF Try.prog 59 0 0 := ⟨fun _ _ => by kernel_rfl⟩
instance : CF Try.prog 59 1 1 := ⟨fun _ _ => by kernel_rfl⟩
instance : CF Try.prog 59 2 2 := ⟨fun _ _ => by kernel_rfl⟩
instance : CF Try.prog 59 3 3 := ⟨fun _ _ => by kernel_rfl⟩
instance : CS Try.prog 60 1 := ⟨Try.sizeOf60⟩
instance : CA Try.prog 60 false := ⟨Try.isAgg60⟩
instance : CZ Try.prog 60 (.nilFunc) := ⟨Try.zeroValue60⟩
instance : CE Try.prog 60 1 8 := ⟨Try.t60, (.nilFunc), by kernel_rfl, by kernel_rfl, by kernel_rfl, by kernel_rfl, by kernel_rfl⟩
instance : CY Try.prog 60 8 := ⟨fun w => ⟨_, Try.typeInfo60 w, rfl⟩⟩
instance : CS Try.prog 61 1 := ⟨Try.sizeOf61⟩
instance : CA Try.prog 61 false := ⟨Try.isAgg61⟩
instance : CZ Try.prog 61 (.pointer none) := ⟨Try.zeroValue61⟩
instance : CE Try.prog 61 1 8 := ⟨Try.t61, (.pointer none), by kernel_rfl, by kernel_rfl, by kernel_rfl, by kernel_rfl, by kernel_rfl⟩
instance : CY Try.prog 61 8 := ⟨fun w => ⟨_, Try.typeInfo61 w, rfl⟩⟩
instance : CS Try.prog 62 1 := ⟨Try.sizeOf62⟩
instance : CA Try.prog 62 false := ⟨Try.isAgg62⟩
instance : CZ Try.prog 62 (.nilFunc) := ⟨Try.zeroValue62⟩
instance : CE Try.prog 62 1 8 := ⟨Try.t62, (.nilFunc), by kernel_rfl, by kernel_rfl, by kernel_rfl, by kernel_rfl, by kernel_rfl⟩
instance : CY Try.prog 62 8 := ⟨fun w => ⟨_, Try.typeInfo62 w, rfl⟩⟩
instance : CS Try.prog 63 1 := ⟨Try.sizeOf63⟩
instance : CA Try.prog 63 false := ⟨Try.isAgg63⟩
instance : CZ Try.prog 63 (.nilFunc) := ⟨Try.zeroValue63⟩
instance : CE Try.prog 63 1 8 := ⟨Try.t63, (.nilFunc), by kernel_rfl, by kernel_rfl, by kernel_rfl, by kernel_rfl, by kernel_rfl⟩
instance : CY Try.prog 63 8 := ⟨fun w => ⟨_, Try.typeInfo63 w, rfl⟩⟩
instance : CS Try.prog 64 4 := ⟨Try.sizeOf64⟩
instance : CA Try.prog 64 true := ⟨Try.isAgg64⟩
instance : CZ Try.prog 64 (.agg #[.int .i64 0, .bool false, .int .i64 0, .int .i64 0]) := ⟨Try.zeroValue64⟩
instance : CE Try.prog 64 4 32 := ⟨Try.t64, (.agg #[.int .i64 0, .bool false, .int .i64 0, .int .i64 0]), by kernel_rfl, by kernel_rfl, by kernel_rfl, by kernel_rfl, by kernel_rfl⟩
instance : CY Try.prog 64 32 := ⟨fun w => ⟨_, Try.typeInfo64 w, rfl⟩⟩
instance : CB Try.prog 64 [(0, 1), (1, 1), (2, 1), (3, 1)] := ⟨fun w => ⟨_, Try.runUnderlying64 w, by kernel_rfl⟩⟩
instance : CF Try.prog 64 0 0 := ⟨fun _ _ => by kernel_rfl⟩
instance : CF Try.prog 64 1 1 := ⟨fun _ _ => by kernel_rfl⟩
instance : CF Try.prog 64 2 2 := ⟨fun _ _ => by kernel_rfl⟩
instance : CF Try.prog 64 3 3 := ⟨fun _ _ => by kernel_rfl⟩
instance : CS Try.prog 65 1 := ⟨Try.sizeOf65⟩
instance : CA Try.prog 65 false := ⟨Try.isAgg65⟩
instance : CZ Try.prog 65 (.nilFunc) := ⟨Try.zeroValue65⟩
instance : CE Try.prog 65 1 8 := ⟨Try.t65, (.nilFunc), by kernel_rfl, by kernel_rfl, by kernel_rfl, by kernel_rfl, by kernel_rfl⟩
instance : CY Try.prog 65 8 := ⟨fun w => ⟨_, Try.typeInfo65 w, rfl⟩⟩
instance : CS Try.prog 66 1 := ⟨Try.sizeOf66⟩
instance : CA Try.prog 66 false := ⟨Try.isAgg66⟩
instance : CZ Try.prog 66 (.nilFunc) := ⟨Try.zeroValue66⟩
instance : CE Try.prog 66 1 8 := ⟨Try.t66, (.nilFunc), by kernel_rfl, by kernel_rfl, by kernel_rfl, by kernel_rfl, by kernel_rfl⟩
instance : CY Try.prog 66 8 := ⟨fun w => ⟨_, Try.typeInfo66 w, rfl⟩⟩
instance : CS Try.prog 67 2 := ⟨Try.sizeOf67⟩
instance : CA Try.prog 67 true := ⟨Try.isAgg67⟩
instance : CZ Try.prog 67 (.agg #[.slice none 0 0, .int .i64 0]) := ⟨Try.zeroValue67⟩
instance : CE Try.prog 67 2 32 := ⟨Try.t67, (.agg #[.slice none 0 0, .int .i64 0]), by kernel_rfl, by kernel_rfl, by kernel_rfl, by kernel_rfl, by kernel_rfl⟩
instance : CY Try.prog 67 32 := ⟨fun w => ⟨_, Try.typeInfo67 w, rfl⟩⟩
instance : CB Try.prog 67 [(0, 1), (1, 1)] := ⟨fun w => ⟨_, Try.runUnderlying67 w, by kernel_rfl⟩⟩
instance : CF Try.prog 67 0 0 := ⟨fun _ _ => by kernel_rfl⟩
instance : CF Try.prog 67 1 1 := ⟨fun _ _ => by kernel_rfl⟩
instance : CS Try.prog 68 2 := ⟨Try.sizeOf68⟩
instance : CA Try.prog 68 true := ⟨Try.isAgg68⟩
instance : CZ Try.prog 68 (.agg #[.slice none 0 0, .int .i64 0]) := ⟨Try.zeroValue68⟩
instance : CE Try.prog 68 2 32 := ⟨Try.t68, (.agg #[.slice none 0 0, .int .i64 0]), by kernel_rfl, by kernel_rfl, by kernel_rfl, by kernel_rfl, by kernel_rfl⟩
instance : CY Try.prog 68 32 := ⟨fun w => ⟨_, Try.typeInfo68 w, rfl⟩⟩
instance : CB Try.prog 68 [(0, 1), (1, 1)] := ⟨fun w => ⟨_, Try.runUnderlying68 w, by kernel_rfl⟩⟩
instance : CF Try.prog 68 0 0 := ⟨fun _ _ => by kernel_rfl⟩
instance : CF Try.prog 68 1 1 := ⟨fun _ _ => by kernel_rfl⟩
instance : CS Try.prog 69 1 := ⟨Try.sizeOf69⟩
instance : CA Try.prog 69 false := ⟨Try.isAgg69⟩
instance : CZ Try.prog 69 (.nilFunc) := ⟨Try.zeroValue69⟩
instance : CE Try.prog 69 1 8 := ⟨Try.t69, (.nilFunc), by kernel_rfl, by kernel_rfl, by kernel_rfl, by kernel_rfl, by kernel_rfl⟩
instance : CY Try.prog 69 8 := ⟨fun w => ⟨_, Try.typeInfo69 w, rfl⟩⟩
instance : CS Try.prog 70 1 := ⟨Try.sizeOf70⟩
instance : CA Try.prog 70 false := ⟨Try.isAgg70⟩
instance : CZ Try.prog 70 (.nilFunc) := ⟨Try.zeroValue70⟩
instance : CE Try.prog 70 1 8 := ⟨Try.t70, (.nilFunc), by kernel_rfl, by kernel_rfl, by kernel_rfl, by kernel_rfl, by kernel_rfl⟩
instance : CY Try.prog 70 8 := ⟨fun w => ⟨_, Try.typeInfo70 w, rfl⟩⟩
instance : CS Try.prog 71 1 := ⟨Try.sizeOf71⟩
instance : CA Try.prog 71 false := ⟨Try.isAgg71⟩
instance : CZ Try.prog 71 (.nilFunc) := ⟨Try.zeroValue71⟩
instance : CE Try.prog 71 1 8 := ⟨Try.t71, (.nilFunc), by kernel_rfl, by kernel_rfl, by kernel_rfl, by kernel_rfl, by kernel_rfl⟩
instance : CY Try.prog 71 8 := ⟨fun w => ⟨_, Try.typeInfo71 w, rfl⟩⟩
instance : CAr Try.prog 74 0 16 := ⟨Try.runUnderlying74⟩
instance : CS Try.prog 74 0 := ⟨Try.sizeOf74⟩
instance : CA Try.prog 74 true := ⟨Try.isAgg74⟩
instance : CZ Try.prog 74 (.agg #[]) := ⟨Try.zeroValue74⟩
instance : CE Try.prog 74 0 0 := ⟨Try.t74, (.agg #[]), by kernel_rfl, by kernel_rfl, by kernel_rfl, by kernel_rfl, by kernel_rfl⟩
instance : CY Try.prog 74 0 := ⟨fun w => ⟨_, Try.typeInfo74 w, rfl⟩⟩
instance : CS Try.prog 77 1 := ⟨Try.sizeOf77⟩
instance : CA Try.prog 77 false := ⟨Try.isAgg77⟩
instance : CZ Try.prog 77 (.nilFunc) := ⟨Try.zeroValue77⟩
instance : CE Try.prog 77 1 8 := ⟨Try.t77, (.nilFunc), by kernel_rfl, by kernel_rfl, by kernel_rfl, by kernel_rfl, by kernel_rfl⟩
instance : CY Try.prog 77 8 := ⟨fun w => ⟨_, Try.typeInfo77 w, rfl⟩⟩
instance : CS Try.prog 78 1 := ⟨Try.sizeOf78⟩
instance : CA Try.prog 78 false := ⟨Try.isAgg78⟩
instance : CZ Try.prog 78 (.int .u32 0) := ⟨Try.zeroValue78⟩
instance : CE Try.prog 78 1 4 := ⟨Try.t78, (.int .u32 0), by kernel_rfl, by kernel_rfl, by kernel_rfl, by kernel_rfl, by kernel_rfl⟩
instance : CY Try.prog 78 4 := ⟨fun w => ⟨_, Try.typeInfo78 w, rfl⟩⟩
instance : CS Try.prog 81 1 := ⟨Try.sizeOf81⟩
instance : CA Try.prog 81 false := ⟨Try.isAgg81⟩
instance : CZ Try.prog 81 (.nilFunc) := ⟨Try.zeroValue81⟩
instance : CE Try.prog 81 1 8 := ⟨Try.t81, (.nilFunc), by kernel_rfl, by kernel_rfl, by kernel_rfl, by kernel_rfl, by kernel_rfl⟩
instance : CY Try.prog 81 8 := ⟨fun w => ⟨_, Try.typeInfo81 w, rfl⟩⟩
instance : CS Try.prog 82 1 := ⟨Try.sizeOf82⟩
instance : CA Try.prog 82 false := ⟨Try.isAgg82⟩
instance : CZ Try.prog 82 (.pointer none) := ⟨Try.zeroValue82⟩
instance : CE Try.prog 82 1 8 := ⟨Try.t82, (.pointer none), by kernel_rfl, by kernel_rfl, by kernel_rfl, by kernel_rfl, by kernel_rfl⟩
instance : CY Try.prog 82 8 := ⟨fun w => ⟨_, Try.typeInfo82 w, rfl⟩⟩
end V
end Go.Proofs.Ytifcacahgiihoaa
