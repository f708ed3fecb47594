/- The facts on the types of this translation, as instances. No condition. -/
import Derived.Test.YtaiifcnjmbpbjaaLibB
namespace Go.Proofs.Ytaiifcnjmbpbjaa
namespace V
open Go.RowKit
instance : CS Try.prog 1 1 := ⟨Try.sizeOf1⟩
instance : CA Try.prog 1 false := ⟨Try.isAgg1⟩
instance : CZ Try.prog 1 (.nilFunc) := ⟨Try.zeroValue1⟩
instance : CE Try.prog 1 1 8 := ⟨Try.t1, (.nilFunc), by kernel_rfl, by kernel_rfl, by kernel_rfl, by kernel_rfl, by kernel_rfl⟩
instance : CY Try.prog 1 8 := ⟨fun w => ⟨_, Try.typeInfo1 w, rfl⟩⟩
instance : CIn Try.prog 2 := ⟨Try.runUnderlying2⟩
instance : CS Try.prog 2 1 := ⟨Try.sizeOf2⟩
instance : CA Try.prog 2 false := ⟨Try.isAgg2⟩
instance : CZ Try.prog 2 (.int .i64 0) := ⟨Try.zeroValue2⟩
instance : CE Try.prog 2 1 8 := ⟨Try.t2, (.int .i64 0), by kernel_rfl, by kernel_rfl, by kernel_rfl, by kernel_rfl, by kernel_rfl⟩
instance : CY Try.prog 2 8 := ⟨fun w => ⟨_, Try.typeInfo2 w, rfl⟩⟩
instance : CIn Try.prog 3 := ⟨Try.runUnderlying3⟩
instance : CS Try.prog 3 1 := ⟨Try.sizeOf3⟩
instance : CA Try.prog 3 false := ⟨Try.isAgg3⟩
instance : CZ Try.prog 3 (.int .i64 0) := ⟨Try.zeroValue3⟩
instance : CE Try.prog 3 1 8 := ⟨Try.t3, (.int .i64 0), by kernel_rfl, by kernel_rfl, by kernel_rfl, by kernel_rfl, by kernel_rfl⟩
instance : CY Try.prog 3 8 := ⟨fun w => ⟨_, Try.typeInfo3 w, rfl⟩⟩
instance : CBo Try.prog 4 := ⟨Try.runUnderlying4⟩
instance : CS Try.prog 4 1 := ⟨Try.sizeOf4⟩
instance : CA Try.prog 4 false := ⟨Try.isAgg4⟩
instance : CZ Try.prog 4 (.bool false) := ⟨Try.zeroValue4⟩
instance : CE Try.prog 4 1 1 := ⟨Try.t4, (.bool false), by kernel_rfl, by kernel_rfl, by kernel_rfl, by kernel_rfl, by kernel_rfl⟩
instance : CY Try.prog 4 1 := ⟨fun w => ⟨_, Try.typeInfo4 w, rfl⟩⟩
instance : CU8 Try.prog 5 := ⟨Try.runUnderlying5⟩
instance : CS Try.prog 5 1 := ⟨Try.sizeOf5⟩
instance : CA Try.prog 5 false := ⟨Try.isAgg5⟩
instance : CZ Try.prog 5 (.int .u8 0) := ⟨Try.zeroValue5⟩
instance : CE Try.prog 5 1 1 := ⟨Try.t5, (.int .u8 0), by kernel_rfl, by kernel_rfl, by kernel_rfl, by kernel_rfl, by kernel_rfl⟩
instance : CY Try.prog 5 1 := ⟨fun w => ⟨_, Try.typeInfo5 w, rfl⟩⟩
instance : CSt Try.prog 9 := ⟨Try.runUnderlying9⟩
instance : CS Try.prog 9 1 := ⟨Try.sizeOf9⟩
instance : CA Try.prog 9 false := ⟨Try.isAgg9⟩
instance : CZ Try.prog 9 (.string ⟨#[]⟩) := ⟨Try.zeroValue9⟩
instance : CE Try.prog 9 1 16 := ⟨Try.t9, (.string ⟨#[]⟩), by kernel_rfl, by kernel_rfl, by kernel_rfl, by kernel_rfl, by kernel_rfl⟩
instance : CY Try.prog 9 16 := ⟨fun w => ⟨_, Try.typeInfo9 w, rfl⟩⟩
instance : CS Try.prog 12 1 := ⟨Try.sizeOf12⟩
instance : CA Try.prog 12 false := ⟨Try.isAgg12⟩
instance : CZ Try.prog 12 (.int .u64 0) := ⟨Try.zeroValue12⟩
instance : CE Try.prog 12 1 8 := ⟨Try.t12, (.int .u64 0), by kernel_rfl, by kernel_rfl, by kernel_rfl, by kernel_rfl, by kernel_rfl⟩
instance : CY Try.prog 12 8 := ⟨fun w => ⟨_, Try.typeInfo12 w, rfl⟩⟩
instance : CS Try.prog 15 1 := ⟨Try.sizeOf15⟩
instance : CA Try.prog 15 false := ⟨Try.isAgg15⟩
instance : CZ Try.prog 15 (.pointer none) := ⟨Try.zeroValue15⟩
instance : CE Try.prog 15 1 8 := ⟨Try.t15, (.pointer none), by kernel_rfl, by kernel_rfl, by kernel_rfl, by kernel_rfl, by kernel_rfl⟩
instance : CY Try.prog 15 8 := ⟨fun w => ⟨_, Try.typeInfo15 w, rfl⟩⟩
instance : CS Try.prog 16 1 := ⟨Try.sizeOf16⟩
instance : CA Try.prog 16 false := ⟨Try.isAgg16⟩
instance : CZ Try.prog 16 (.pointer none) := ⟨Try.zeroValue16⟩
instance : CE Try.prog 16 1 8 := ⟨Try.t16, (.pointer none), by kernel_rfl, by kernel_rfl, by kernel_rfl, by kernel_rfl, by kernel_rfl⟩
instance : CY Try.prog 16 8 := ⟨fun w => ⟨_, Try.typeInfo16 w, rfl⟩⟩
instance : CS Try.prog 21 1 := ⟨Try.sizeOf21⟩
instance : CA Try.prog 21 false := ⟨Try.isAgg21⟩
instance : CZ Try.prog 21 (.int .i32 0) := ⟨Try.zeroValue21⟩
instance : CE Try.prog 21 1 4 := ⟨Try.t21, (.int .i32 0), by kernel_rfl, by kernel_rfl, by kernel_rfl, by kernel_rfl, by kernel_rfl⟩
instance : CY Try.prog 21 4 := ⟨fun w => ⟨_, Try.typeInfo21 w, rfl⟩⟩
instance : CSl Try.prog 22 3 := ⟨Try.runUnderlying22, Try.underlying22⟩
instance : CS Try.prog 22 1 := ⟨Try.sizeOf22⟩
instance : CA Try.prog 22 false := ⟨Try.isAgg22⟩
instance : CZ Try.prog 22 (.slice none 0 0) := ⟨Try.zeroValue22⟩
instance : CE Try.prog 22 1 24 := ⟨Try.t22, (.slice none 0 0), by kernel_rfl, by kernel_rfl, by kernel_rfl, by kernel_rfl, by kernel_rfl⟩
instance : CY Try.prog 22 24 := ⟨fun w => ⟨_, Try.typeInfo22 w, rfl⟩⟩
instance : CSl Try.prog 23 40 := ⟨Try.runUnderlying23, Try.underlying23⟩
instance : CS Try.prog 23 1 := ⟨Try.sizeOf23⟩
instance : CA Try.prog 23 false := ⟨Try.isAgg23⟩
instance : CZ Try.prog 23 (.slice none 0 0) := ⟨Try.zeroValue23⟩
instance : CE Try.prog 23 1 24 := ⟨Try.t23, (.slice none 0 0), by kernel_rfl, by kernel_rfl, by kernel_rfl, by kernel_rfl, by kernel_rfl⟩
instance : CY Try.prog 23 24 := ⟨fun w => ⟨_, Try.typeInfo23 w, rfl⟩⟩
instance : CS Try.prog 24 1 := ⟨Try.sizeOf24⟩
instance : CA Try.prog 24 false := ⟨Try.isAgg24⟩
instance : CZ Try.prog 24 (.nilFunc) := ⟨Try.zeroValue24⟩
instance : CE Try.prog 24 1 8 := ⟨Try.t24, (.nilFunc), by kernel_rfl, by kernel_rfl, by kernel_rfl, by kernel_rfl, by kernel_rfl⟩
instance : CY Try.prog 24 8 := ⟨fun w => ⟨_, Try.typeInfo24 w, rfl⟩⟩
instance : CS Try.prog 26 1 := ⟨Try.sizeOf26⟩
instance : CA Try.prog 26 false := ⟨Try.isAgg26⟩
instance : CZ Try.prog 26 (.nilFunc) := ⟨Try.zeroValue26⟩
instance : CE Try.prog 26 1 8 := ⟨Try.t26, (.nilFunc), by kernel_rfl, by kernel_rfl, by kernel_rfl, by kernel_rfl, by kernel_rfl⟩
instance : CY Try.prog 26 8 := ⟨fun w => ⟨_, Try.typeInfo26 w, rfl⟩⟩
instance : CS Try.prog 27 1 := ⟨Try.sizeOf27⟩
instance : CA Try.prog 27 false := ⟨Try.isAgg27⟩
instance : CZ Try.prog 27 (.nilFunc) := ⟨Try.zeroValue27⟩
instance : CE Try.prog 27 1 8 := ⟨Try.t27, (.nilFunc), by kernel_rfl, by kernel_rfl, by kernel_rfl, by kernel_rfl, by kernel_rfl⟩
instance : CY Try.prog 27 8 := ⟨fun w => ⟨_, Try.typeInfo27 w, rfl⟩⟩
instance : CSl Try.prog 28 38 := ⟨Try.runUnderlying28, Try.underlying28⟩
instance : CS Try.prog 28 1 := ⟨Try.sizeOf28⟩
instance : CA Try.prog 28 false := ⟨Try.isAgg28⟩
instance : CZ Try.prog 28 (.slice none 0 0) := ⟨Try.zeroValue28⟩
instance : CE Try.prog 28 1 24 := ⟨Try.t28, (.slice none 0 0), by kernel_rfl, by kernel_rfl, by kernel_rfl, by kernel_rfl, by kernel_rfl⟩
instance : CY Try.prog 28 24 := ⟨fun w => ⟨_, Try.typeInfo28 w, rfl⟩⟩
instance : CS Try.prog 29 1 := ⟨Try.sizeOf29⟩
instance : CA Try.prog 29 false := ⟨Try.isAgg29⟩
instance : CZ Try.prog 29 (.nilFunc) := ⟨Try.zeroValue29⟩
instance : CE Try.prog 29 1 8 := ⟨Try.t29, (.nilFunc), by kernel_rfl, by kernel_rfl, by kernel_rfl, by kernel_rfl, by kernel_rfl⟩
instance : CY Try.prog 29 8 := ⟨fun w => ⟨_, Try.typeInfo29 w, rfl⟩⟩
instance : CS Try.prog 30 1 := ⟨Try.sizeOf30⟩
instance : CA Try.prog 30 false := ⟨Try.isAgg30⟩
instance : CZ Try.prog 30 (.nilFunc) := ⟨Try.zeroValue30⟩
instance : CE Try.prog 30 1 8 := ⟨Try.t30, (.nilFunc), by kernel_rfl, by kernel_rfl, by kernel_rfl, by kernel_rfl, by kernel_rfl⟩
instance : CY Try.prog 30 8 := ⟨fun w => ⟨_, Try.typeInfo30 w, rfl⟩⟩
instance : CS Try.prog 31 1 := ⟨Try.sizeOf31⟩
instance : CA Try.prog 31 false := ⟨Try.isAgg31⟩
instance : CZ Try.prog 31 (.nilFunc) := ⟨Try.zeroValue31⟩
instance : CE Try.prog 31 1 8 := ⟨Try.t31, (.nilFunc), by kernel_rfl, by kernel_rfl, by kernel_rfl, by kernel_rfl, by kernel_rfl⟩
instance : CY Try.prog 31 8 := ⟨fun w => ⟨_, Try.typeInfo31 w, rfl⟩⟩
instance : CS Try.prog 32 1 := ⟨Try.sizeOf32⟩
instance : CA Try.prog 32 false := ⟨Try.isAgg32⟩
instance : CZ Try.prog 32 (.nilFunc) := ⟨Try.zeroValue32⟩
instance : CE Try.prog 32 1 8 := ⟨Try.t32, (.nilFunc), by kernel_rfl, by kernel_rfl, by kernel_rfl, by kernel_rfl, by kernel_rfl⟩
instance : CY Try.prog 32 8 := ⟨fun w => ⟨_, Try.typeInfo32 w, rfl⟩⟩
instance : CS Try.prog 33 1 := ⟨Try.sizeOf33⟩
instance : CA Try.prog 33 false := ⟨Try.isAgg33⟩
instance : CZ Try.prog 33 (.nilFunc) := ⟨Try.zeroValue33⟩
instance : CE Try.prog 33 1 8 := ⟨Try.t33, (.nilFunc), by kernel_rfl, by kernel_rfl, by kernel_rfl, by kernel_rfl, by kernel_rfl⟩
instance : CY Try.prog 33 8 := ⟨fun w => ⟨_, Try.typeInfo33 w, rfl⟩⟩
instance : CS Try.prog 34 1 := ⟨Try.sizeOf34⟩
instance : CA Try.prog 34 false := ⟨Try.isAgg34⟩
instance : CZ Try.prog 34 (.nilFunc) := ⟨Try.zeroValue34⟩
instance : CE Try.prog 34 1 8 := ⟨Try.t34, (.nilFunc), by kernel_rfl, by kernel_rfl, by kernel_rfl, by kernel_rfl, by kernel_rfl⟩
instance : CY Try.prog 34 8 := ⟨fun w => ⟨_, Try.typeInfo34 w, rfl⟩⟩
instance : CS Try.prog 35 1 := ⟨Try.sizeOf35⟩
instance : CA Try.prog 35 false := ⟨Try.isAgg35⟩
instance : CZ Try.prog 35 (.nilFunc) := ⟨Try.zeroValue35⟩
instance : CE Try.prog 35 1 8 := ⟨Try.t35, (.nilFunc), by kernel_rfl, by kernel_rfl, by kernel_rfl, by kernel_rfl, by kernel_rfl⟩
instance : CY Try.prog 35 8 := ⟨fun w => ⟨_, Try.typeInfo35 w, rfl⟩⟩
instance : CS Try.prog 36 1 := ⟨Try.sizeOf36⟩
instance : CA Try.prog 36 false := ⟨Try.isAgg36⟩
instance : CZ Try.prog 36 (.nilFunc) := ⟨Try.zeroValue36⟩
instance : CE Try.prog 36 1 8 := ⟨Try.t36, (.nilFunc), by kernel_rfl, by kernel_rfl, by kernel_rfl, by kernel_rfl, by kernel_rfl⟩
instance : CY Try.prog 36 8 := ⟨fun w => ⟨_, Try.typeInfo36 w, rfl⟩⟩
instance : CS Try.prog 37 4 := ⟨Try.sizeOf37⟩
instance : CA Try.prog 37 true := ⟨Try.isAgg37⟩
instance : CZ Try.prog 37 (.agg #[.int .i64 0, .int .i64 0, .int .i64 0, .int .i64 0]) := ⟨Try.zeroValue37⟩
instance : CE Try.prog 37 4 32 := ⟨Try.t37, (.agg #[.int .i64 0, .int .i64 0, .int .i64 0, .int .i64 0]), by kernel_rfl, by kernel_rfl, by kernel_rfl, by kernel_rfl, by kernel_rfl⟩
instance : CY Try.prog 37 32 := ⟨fun w => ⟨_, Try.typeInfo37 w, rfl⟩⟩
instance : CB Try.prog 37 [(0, 1), (1, 1), (2, 1), (3, 1)] := ⟨fun w => ⟨_, Try.runUnderlying37 w, by kernel_rfl⟩⟩
instance : CF Try.prog 37 0 0 := ⟨fun _ _ => by kernel_rfl⟩
instance : CF Try.prog 37 1 1 := ⟨fun _ _ => by kernel_rfl⟩
instance : CF Try.prog 37 2 2 := ⟨fun _ _ => by kernel_rfl⟩
instance : CF Try.prog 37 3 3 := ⟨fun _ _ => by kernel_rfl⟩
instance : CS Try.prog 38 4 := ⟨Try.sizeOf38⟩
instance : CA Try.prog 38 true := ⟨Try.isAgg38⟩
instance : CZ Try.prog 38 (.agg #[.int .i64 0, .int .i64 0, .int .i64 0, .int .i64 0]) := ⟨Try.zeroValue38⟩
instance : CE Try.prog 38 4 32 := ⟨Try.t38, (.agg #[.int .i64 0, .int .i64 0, .int .i64 0, .int .i64 0]), by kernel_rfl, by kernel_rfl, by kernel_rfl, by kernel_rfl, by kernel_rfl⟩
instance : CY Try.prog 38 32 := ⟨fun w => ⟨_, Try.typeInfo38 w, rfl⟩⟩
instance : CB Try.prog 38 [(0, 1), (1, 1), (2, 1), (3, 1)] := ⟨fun w => ⟨_, Try.runUnderlying38 w, by kernel_rfl⟩⟩
instance : CF Try.prog 38 0 0 := ⟨fun _ _ => by kernel_rfl⟩
instance : CF Try.prog 38 1 1 := ⟨fun _ _ => by kernel_rfl⟩
instance : CF Try.prog 38 2 2 := ⟨fun _ _ => by kernel_rfl⟩
instance : CF Try.prog 38 3 3 := ⟨fun _ _ => by kernel_rfl⟩
instance : CS Try.prog 39 1 := ⟨Try.sizeOf39⟩
instance : CA Try.prog 39 false := ⟨Try.isAgg39⟩
instance : CZ Try.prog 39 (.nilFunc) := ⟨Try.zeroValue39⟩
instance : CE Try.prog 39 1 8 := ⟨Try.t39, (.nilFunc), by kernel_rfl, by kernel_rfl, by kernel_rfl, by kernel_rfl, by kernel_rfl⟩
instance : CY Try.prog 39 8 := ⟨fun w => ⟨_, Try.typeInfo39 w, rfl⟩⟩
instance : CS Try.prog 40 4 := ⟨Try.sizeOf40⟩
instance : CA Try.prog 40 true := ⟨Try.isAgg40⟩
instance : CZ Try.prog 40 (.agg #[.int .i64 0, .int .i64 0, .int .i64 0, .int .i64 0]) := ⟨Try.zeroValue40⟩
instance : CE Try.prog 40 4 32 := ⟨Try.t40, (.agg #[.int .i64 0, .int .i64 0, .int .i64 0, .int .i64 0]), by kernel_rfl, by kernel_rfl, by kernel_rfl, by kernel_rfl, by kernel_rfl⟩
instance : CY Try.prog 40 32 := ⟨fun w => ⟨_, Try.typeInfo40 w, rfl⟩⟩
instance : CB Try.prog 40 [(0, 1), (1, 1), (2, 1), (3, 1)] := ⟨fun w => ⟨_, Try.runUnderlying40 w, by kernel_rfl⟩⟩
instance : CF Try.prog 40 0 0 := ⟨fun _ _ => by kernel_rfl⟩
instance : CF Try.prog 40 1 1 := ⟨fun _ _ => by kernel_rfl⟩
instance : CF Try.prog 40 2 2 := ⟨fun _ _ => by kernel_rfl⟩
instance : CF Try.prog 40 3 3 := ⟨fun _ _ => by kernel_rfl⟩
instance : CS Try.prog 41 1 := ⟨Try.sizeOf41⟩
instance : CA Try.prog 41 false := ⟨Try.isAgg41⟩
instance : CZ Try.prog 41 (.nilFunc) := ⟨Try.zeroValue41⟩
instance : CE Try.prog 41 1 8 := ⟨Try.t41, (.nilFunc), by kernel_rfl, by kernel_rfl, by kernel_rfl, by kernel_rfl, by kernel_rfl⟩
instance : CY Try.prog 41 8 := ⟨fun w => ⟨_, Try.typeInfo41 w, rfl⟩⟩
instance : CS Try.prog 42 1 := ⟨Try.sizeOf42⟩
instance : CA Try.prog 42 false := ⟨Try.isAgg42⟩
instance : CZ Try.prog 42 (.nilFunc) := ⟨Try.zeroValue42⟩
instance : CE Try.prog 42 1 8 := ⟨Try.t42, (.nilFunc), by kernel_rfl, by kernel_rfl, by kernel_rfl, by kernel_rfl, by kernel_rfl⟩
instance : CY Try.prog 42 8 := ⟨fun w => ⟨_, Try.typeInfo42 w, rfl⟩⟩
instance : CS Try.prog 43 1 := ⟨Try.sizeOf43⟩
instance : CA Try.prog 43 false := ⟨Try.isAgg43⟩
instance : CZ Try.prog 43 (.nilFunc) := ⟨Try.zeroValue43⟩
instance : CE Try.prog 43 1 8 := ⟨Try.t43, (.nilFunc), by kernel_rfl, by kernel_rfl, by kernel_rfl, by kernel_rfl, by kernel_rfl⟩
instance : CY Try.prog 43 8 := ⟨fun w => ⟨_, Try.typeInfo43 w, rfl⟩⟩
instance : CS Try.prog 44 1 := ⟨Try.sizeOf44⟩
instance : CA Try.prog 44 false := ⟨Try.isAgg44⟩
instance : CZ Try.prog 44 (.nilFunc) := ⟨Try.zeroValue44⟩
instance : CE Try.prog 44 1 8 := ⟨Try.t44, (.nilFunc), by kernel_rfl, by kernel_rfl, by kernel_rfl, by kernel_rfl, by kernel_rfl⟩
instance : CY Try.prog 44 8 := ⟨fun w => ⟨_, Try.typeInfo44 w, rfl⟩⟩
instance : CS Try.prog 45 1 := ⟨Try.sizeOf45⟩
instance : CA Try.prog 45 false := ⟨Try.isAgg45⟩
instance : CZ Try.prog 45 (.nilFunc) := ⟨Try.zeroValue45⟩
instance : CE Try.prog 45 1 8 := ⟨Try.t45, (.nilFunc), by kernel_rfl, by kernel_rfl, by kernel_rfl, by kernel_rfl, by kernel_rfl⟩
instance : CY Try.prog 45 8 := ⟨fun w => ⟨_, Try.typeInfo45 w, rfl⟩⟩
instance : CS Try.prog 46 1 := ⟨Try.sizeOf46⟩
instance : CA Try.prog 46 false := ⟨Try.isAgg46⟩
instance : CZ Try.prog 46 (.nilFunc) := ⟨Try.zeroValue46⟩
instance : CE Try.prog 46 1 8 := ⟨Try.t46, (.nilFunc), by kernel_rfl, by kernel_rfl, by kernel_rfl, by kernel_rfl, by kernel_rfl⟩
instance : CY Try.prog 46 8 := ⟨fun w => ⟨_, Try.typeInfo46 w, rfl⟩⟩
instance : CS Try.prog 47 1 := ⟨Try.sizeOf47⟩
instance : CA Try.prog 47 false := ⟨Try.isAgg47⟩
instance : CZ Try.prog 47 (.nilFunc) := ⟨Try.zeroValue47⟩
instance : CE Try.prog 47 1 8 := ⟨Try.t47, (.nilFunc), by kernel_rfl, by kernel_rfl, by kernel_rfl, by kernel_rfl, by kernel_rfl⟩
instance : CY Try.prog 47 8 := ⟨fun w => ⟨_, Try.typeInfo47 w, rfl⟩⟩
instance : CAr Try.prog 50 0 16 := ⟨Try.runUnderlying50⟩
instance : CS Try.prog 50 0 := ⟨Try.sizeOf50⟩
instance : CA Try.prog 50 true := ⟨Try.isAgg50⟩
instance : CZ Try.prog 50 (.agg #[]) := ⟨Try.zeroValue50⟩
instance : CE Try.prog 50 0 0 := ⟨Try.t50, (.agg #[]), by kernel_rfl, by kernel_rfl, by kernel_rfl, by kernel_rfl, by kernel_rfl⟩
instance : CY Try.prog 50 0 := ⟨fun w => ⟨_, Try.typeInfo50 w, rfl⟩⟩
instance : CS Try.prog 53 1 := ⟨Try.sizeOf53⟩
instance : CA Try.prog 53 false := ⟨Try.isAgg53⟩
instance : CZ Try.prog 53 (.nilFunc) := ⟨Try.zeroValue53⟩
instance : CE Try.prog 53 1 8 := ⟨Try.t53, (.nilFunc), by kernel_rfl, by kernel_rfl, by kernel_rfl, by kernel_rfl, by kernel_rfl⟩
instance : CY Try.prog 53 8 := ⟨fun w => ⟨_, Try.typeInfo53 w, rfl⟩⟩
instance : CS Try.prog 54 1 := ⟨Try.sizeOf54⟩
instance : CA Try.prog 54 false := ⟨Try.isAgg54⟩
instance : CZ Try.prog 54 (.int .u32 0) := ⟨Try.zeroValue54⟩
instance : CE Try.prog 54 1 4 := ⟨Try.t54, (.int .u32 0), by kernel_rfl, by kernel_rfl, by kernel_rfl, by kernel_rfl, by kernel_rfl⟩
instance : CY Try.prog 54 4 := ⟨fun w => ⟨_, Try.typeInfo54 w, rfl⟩⟩
instance : CS Try.prog 57 1 := ⟨Try.sizeOf57⟩
instance : CA Try.prog 57 false := ⟨Try.isAgg57⟩
instance : CZ Try.prog 57 (.nilFunc) := ⟨Try.zeroValue57⟩
instance : CE Try.prog 57 1 8 := ⟨Try.t57, (.nilFunc), by kernel_rfl, by kernel_rfl, by kernel_rfl, by kernel_rfl, by kernel_rfl⟩
instance : CY Try.prog 57 8 := ⟨fun w => ⟨_, Try.typeInfo57 w, rfl⟩⟩
instance : CS Try.prog 58 1 := ⟨Try.sizeOf58⟩
instance : CA Try.prog 58 false := ⟨Try.isAgg58⟩
instance : CZ Try.prog 58 (.pointer none) := ⟨Try.zeroValue58⟩
instance : CE Try.prog 58 1 8 := ⟨Try.t58, (.pointer none), by kernel_rfl, by kernel_rfl, by kernel_rfl, by kernel_rfl, by kernel_rfl⟩
instance : CY Try.prog 58 8 := ⟨fun w => ⟨_, Try.typeInfo58 w, rfl⟩⟩
end V
end Go.Proofs.Ytaiifcnjmbpbjaa
