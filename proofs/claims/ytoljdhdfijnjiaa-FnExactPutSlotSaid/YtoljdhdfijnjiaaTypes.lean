/- The facts on the types of this translation, as instances. No condition. -/
import Derived.Test.YtoljdhdfijnjiaaLibB
namespace Go.Proofs.Ytoljdhdfijnjiaa
namespace V
open Go.RowKit
instance : CS Try.prog 1 1 := ⟨Try.sizeOf1⟩
instance : CA Try.prog 1 false := ⟨Try.isAgg1⟩
instance : CZ Try.prog 1 (.nilFunc) := ⟨Try.zeroValue1⟩
instance : CE Try.prog 1 1 8 := ⟨Try.t1, (.nilFunc), by kernel_rfl, by kernel_rfl, by kernel_rfl, by kernel_rfl, by kernel_rfl⟩
instance : CY Try.prog 1 8 := ⟨fun w => ⟨_, Try.typeInfo1 w, rfl⟩⟩
instance : CIn Try.prog 2 := ⟨Try.runUnderlying2⟩
instance : CS Try.prog 2 1 := ⟨Try.sizeOf2⟩
instance : CA Try.prog 2 false := ⟨Try.isAgg2⟩
instance : CZ Try.prog 2 (.int .i64 0) := ⟨Try.zeroValue2⟩
instance : CE Try.prog 2 1 8 := ⟨Try.t2, (.int .i64 0), by kernel_rfl, by kernel_rfl, by kernel_rfl, by kernel_rfl, by kernel_rfl⟩
instance : CY Try.prog 2 8 := ⟨fun w => ⟨_, Try.typeInfo2 w, rfl⟩⟩
instance : CIn Try.prog 3 := ⟨Try.runUnderlying3⟩
instance : CS Try.prog 3 1 := ⟨Try.sizeOf3⟩
instance : CA Try.prog 3 false := ⟨Try.isAgg3⟩
instance : CZ Try.prog 3 (.int .i64 0) := ⟨Try.zeroValue3⟩
instance : CE Try.prog 3 1 8 := ⟨Try.t3, (.int .i64 0), by kernel_rfl, by kernel_rfl, by kernel_rfl, by kernel_rfl, by kernel_rfl⟩
instance : CY Try.prog 3 8 := ⟨fun w => ⟨_, Try.typeInfo3 w, rfl⟩⟩
instance : CBo Try.prog 4 := ⟨Try.runUnderlying4⟩
instance : CS Try.prog 4 1 := ⟨Try.sizeOf4⟩
instance : CA Try.prog 4 false := ⟨Try.isAgg4⟩
instance : CZ Try.prog 4 (.bool false) := ⟨Try.zeroValue4⟩
instance : CE Try.prog 4 1 1 := ⟨Try.t4, (.bool false), by kernel_rfl, by kernel_rfl, by kernel_rfl, by kernel_rfl, by kernel_rfl⟩
instance : CY Try.prog 4 1 := ⟨fun w => ⟨_, Try.typeInfo4 w, rfl⟩⟩
instance : CU8 Try.prog 5 := ⟨Try.runUnderlying5⟩
instance : CS Try.prog 5 1 := ⟨Try.sizeOf5⟩
instance : CA Try.prog 5 false := ⟨Try.isAgg5⟩
instance : CZ Try.prog 5 (.int .u8 0) := ⟨Try.zeroValue5⟩
instance : CE Try.prog 5 1 1 := ⟨Try.t5, (.int .u8 0), by kernel_rfl, by kernel_rfl, by kernel_rfl, by kernel_rfl, by kernel_rfl⟩
instance : CY Try.prog 5 1 := ⟨fun w => ⟨_, Try.typeInfo5 w, rfl⟩⟩
instance : CSt Try.prog 9 := ⟨Try.runUnderlying9⟩
instance : CS Try.prog 9 1 := ⟨Try.sizeOf9⟩
instance : CA Try.prog 9 false := ⟨Try.isAgg9⟩
instance : CZ Try.prog 9 (.string ⟨#[]⟩) := ⟨Try.zeroValue9⟩
instance : CE Try.prog 9 1 16 := ⟨Try.t9, (.string ⟨#[]⟩), by kernel_rfl, by kernel_rfl, by kernel_rfl, by kernel_rfl, by kernel_rfl⟩
instance : CY Try.prog 9 16 := ⟨fun w => ⟨_, Try.typeInfo9 w, rfl⟩⟩
instance : CS Try.prog 12 1 := ⟨Try.sizeOf12⟩
instance : CA Try.prog 12 false := ⟨Try.isAgg12⟩
instance : CZ Try.prog 12 (.int .u64 0) := ⟨Try.zeroValue12⟩
instance : CE Try.prog 12 1 8 := ⟨Try.t12, (.int .u64 0), by kernel_rfl, by kernel_rfl, by kernel_rfl, by kernel_rfl, by kernel_rfl⟩
instance : CY Try.prog 12 8 := ⟨fun w => ⟨_, Try.typeInfo12 w, rfl⟩⟩
instance : CS Try.prog 15 1 := ⟨Try.sizeOf15⟩
instance : CA Try.prog 15 false := ⟨Try.isAgg15⟩
instance : CZ Try.prog 15 (.pointer none) := ⟨Try.zeroValue15⟩
instance : CE Try.prog 15 1 8 := ⟨Try.t15, (.pointer none), by kernel_rfl, by kernel_rfl, by kernel_rfl, by kernel_rfl, by kernel_rfl⟩
instance : CY Try.prog 15 8 := ⟨fun w => ⟨_, Try.typeInfo15 w, rfl⟩⟩
instance : CS Try.prog 16 1 := ⟨Try.sizeOf16⟩
instance : CA Try.prog 16 false := ⟨Try.isAgg16⟩
instance : CZ Try.prog 16 (.pointer none) := ⟨Try.zeroValue16⟩
instance : CE Try.prog 16 1 8 := ⟨Try.t16, (.pointer none), by kernel_rfl, by kernel_rfl, by kernel_rfl, by kernel_rfl, by kernel_rfl⟩
instance : CY Try.prog 16 8 := ⟨fun w => ⟨_, Try.typeInfo16 w, rfl⟩⟩
instance : CS Try.prog 21 1 := ⟨Try.sizeOf21⟩
instance : CA Try.prog 21 false := ⟨Try.isAgg21⟩
instance : CZ Try.prog 21 (.int .i32 0) := ⟨Try.zeroValue21⟩
instance : CE Try.prog 21 1 4 := ⟨Try.t21, (.int .i32 0), by kernel_rfl, by kernel_rfl, by kernel_rfl, by kernel_rfl, by kernel_rfl⟩
instance : CY Try.prog 21 4 := ⟨fun w => ⟨_, Try.typeInfo21 w, rfl⟩⟩
instance : CSl Try.prog 22 5 := ⟨Try.runUnderlying22, Try.underlying22⟩
instance : CS Try.prog 22 1 := ⟨Try.sizeOf22⟩
instance : CA Try.prog 22 false := ⟨Try.isAgg22⟩
instance : CZ Try.prog 22 (.slice none 0 0) := ⟨Try.zeroValue22⟩
instance : CE Try.prog 22 1 24 := ⟨Try.t22, (.slice none 0 0), by kernel_rfl, by kernel_rfl, by kernel_rfl, by kernel_rfl, by kernel_rfl⟩
instance : CY Try.prog 22 24 := ⟨fun w => ⟨_, Try.typeInfo22 w, rfl⟩⟩
instance : CSl Try.prog 23 35 := ⟨Try.runUnderlying23, Try.underlying23⟩
instance : CS Try.prog 23 1 := ⟨Try.sizeOf23⟩
instance : CA Try.prog 23 false := ⟨Try.isAgg23⟩
instance : CZ Try.prog 23 (.slice none 0 0) := ⟨Try.zeroValue23⟩
instance : CE Try.prog 23 1 24 := ⟨Try.t23, (.slice none 0 0), by kernel_rfl, by kernel_rfl, by kernel_rfl, by kernel_rfl, by kernel_rfl⟩
instance : CY Try.prog 23 24 := ⟨fun w => ⟨_, Try.typeInfo23 w, rfl⟩⟩
instance : CS Try.prog 24 1 := ⟨Try.sizeOf24⟩
instance : CA Try.prog 24 true := ⟨Try.isAgg24⟩
instance : CZ Try.prog 24 (.agg #[.slice none 0 0]) := ⟨Try.zeroValue24⟩
instance : CE Try.prog 24 1 24 := ⟨Try.t24, (.agg #[.slice none 0 0]), by kernel_rfl, by kernel_rfl, by kernel_rfl, by kernel_rfl, by kernel_rfl⟩
instance : CY Try.prog 24 24 := ⟨fun w => ⟨_, Try.typeInfo24 w, rfl⟩⟩
instance : CB Try.prog 24 [(0, 1)] := ⟨fun w => ⟨_, Try.runUnderlying24 w, by kernel_rfl⟩⟩
instance : CF Try.prog 24 0 0 := ⟨fun _ _ => by kernel_rfl⟩
instance : CS Try.prog 25 1 := ⟨Try.sizeOf25⟩
instance : CA Try.prog 25 true := ⟨Try.isAgg25⟩
instance : CZ Try.prog 25 (.agg #[.slice none 0 0]) := ⟨Try.zeroValue25⟩
instance : CE Try.prog 25 1 24 := ⟨Try.t25, (.agg #[.slice none 0 0]), by kernel_rfl, by kernel_rfl, by kernel_rfl, by kernel_rfl, by kernel_rfl⟩
instance : CY Try.prog 25 24 := ⟨fun w => ⟨_, Try.typeInfo25 w, rfl⟩⟩
instance : CB Try.prog 25 [(0, 1)] := ⟨fun w => ⟨_, Try.runUnderlying25 w, by kernel_rfl⟩⟩
instance : CF Try.prog 25 0 0 := ⟨fun _ _ => by kernel_rfl⟩
instance : CS Try.prog 26 1 := ⟨Try.sizeOf26⟩
instance : CA Try.prog 26 false := ⟨Try.isAgg26⟩
instance : CZ Try.prog 26 (.nilFunc) := ⟨Try.zeroValue26⟩
instance : CE Try.prog 26 1 8 := ⟨Try.t26, (.nilFunc), by kernel_rfl, by kernel_rfl, by kernel_rfl, by kernel_rfl, by kernel_rfl⟩
instance : CY Try.prog 26 8 := ⟨fun w => ⟨_, Try.typeInfo26 w, rfl⟩⟩
instance : CS Try.prog 27 1 := ⟨Try.sizeOf27⟩
instance : CA Try.prog 27 false := ⟨Try.isAgg27⟩
instance : CZ Try.prog 27 (.nilFunc) := ⟨Try.zeroValue27⟩
instance : CE Try.prog 27 1 8 := ⟨Try.t27, (.nilFunc), by kernel_rfl, by kernel_rfl, by kernel_rfl, by kernel_rfl, by kernel_rfl⟩
instance : CY Try.prog 27 8 := ⟨fun w => ⟨_, Try.typeInfo27 w, rfl⟩⟩
instance : CS Try.prog 29 1 := ⟨Try.sizeOf29⟩
instance : CA Try.prog 29 false := ⟨Try.isAgg29⟩
instance : CZ Try.prog 29 (.nilFunc) := ⟨Try.zeroValue29⟩
instance : CE Try.prog 29 1 8 := ⟨Try.t29, (.nilFunc), by kernel_rfl, by kernel_rfl, by kernel_rfl, by kernel_rfl, by kernel_rfl⟩
instance : CY Try.prog 29 8 := ⟨fun w => ⟨_, Try.typeInfo29 w, rfl⟩⟩
instance : CS Try.prog 30 1 := ⟨Try.sizeOf30⟩
instance : CA Try.prog 30 false := ⟨Try.isAgg30⟩
instance : CZ Try.prog 30 (.nilFunc) := ⟨Try.zeroValue30⟩
instance : CE Try.prog 30 1 8 := ⟨Try.t30, (.nilFunc), by kernel_rfl, by kernel_rfl, by kernel_rfl, by kernel_rfl, by kernel_rfl⟩
instance : CY Try.prog 30 8 := ⟨fun w => ⟨_, Try.typeInfo30 w, rfl⟩⟩
instance : CS Try.prog 32 1 := ⟨Try.sizeOf32⟩
instance : CA Try.prog 32 false := ⟨Try.isAgg32⟩
instance : CZ Try.prog 32 (.nilFunc) := ⟨Try.zeroValue32⟩
instance : CE Try.prog 32 1 8 := ⟨Try.t32, (.nilFunc), by kernel_rfl, by kernel_rfl, by kernel_rfl, by kernel_rfl, by kernel_rfl⟩
instance : CY Try.prog 32 8 := ⟨fun w => ⟨_, Try.typeInfo32 w, rfl⟩⟩
instance : CS Try.prog 33 1 := ⟨Try.sizeOf33⟩
instance : CA Try.prog 33 false := ⟨Try.isAgg33⟩
instance : CZ Try.prog 33 (.nilFunc) := ⟨Try.zeroValue33⟩
instance : CE Try.prog 33 1 8 := ⟨Try.t33, (.nilFunc), by kernel_rfl, by kernel_rfl, by kernel_rfl, by kernel_rfl, by kernel_rfl⟩
instance : CY Try.prog 33 8 := ⟨fun w => ⟨_, Try.typeInfo33 w, rfl⟩⟩
instance : CS Try.prog 34 2 := ⟨Try.sizeOf34⟩
instance : CA Try.prog 34 true := ⟨Try.isAgg34⟩
instance : CZ Try.prog 34 (.agg #[.bool false, .string ⟨#[]⟩]) := ⟨Try.zeroValue34⟩
instance : CE Try.prog 34 2 24 := ⟨Try.t34, (.agg #[.bool false, .string ⟨#[]⟩]), by kernel_rfl, by kernel_rfl, by kernel_rfl, by kernel_rfl, by kernel_rfl⟩
instance : CY Try.prog 34 24 := ⟨fun w => ⟨_, Try.typeInfo34 w, rfl⟩⟩
instance : CB Try.prog 34 [(0, 1), (1, 1)] := ⟨fun w => ⟨_, Try.runUnderlying34 w, by kernel_rfl⟩⟩
instance : CF Try.prog 34 0 0 := ⟨fun _ _ => by kernel_rfl⟩
instance : CF Try.prog 34 1 1 := ⟨fun _ _ => by kernel_rfl⟩
instance : CS Try.prog 35 2 := ⟨Try.sizeOf35⟩
instance : CA Try.prog 35 true := ⟨Try.isAgg35⟩
instance : CZ Try.prog 35 (.agg #[.bool false, .string ⟨#[]⟩]) := ⟨Try.zeroValue35⟩
instance : CE Try.prog 35 2 24 := ⟨Try.t35, (.agg #[.bool false, .string ⟨#[]⟩]), by kernel_rfl, by kernel_rfl, by kernel_rfl, by kernel_rfl, by kernel_rfl⟩
instance : CY Try.prog 35 24 := ⟨fun w => ⟨_, Try.typeInfo35 w, rfl⟩⟩
instance : CB Try.prog 35 [(0, 1), (1, 1)] := ⟨fun w => ⟨_, Try.runUnderlying35 w, by kernel_rfl⟩⟩
instance : CF Try.prog 35 0 0 := ⟨fun _ _ => by kernel_rfl⟩
instance : CF Try.prog 35 1 1 := ⟨fun _ _ => by kernel_rfl⟩
instance : CS Try.prog 37 1 := ⟨Try.sizeOf37⟩
instance : CA Try.prog 37 false := ⟨Try.isAgg37⟩
instance : CZ Try.prog 37 (.nilFunc) := ⟨Try.zeroValue37⟩
instance : CE Try.prog 37 1 8 := ⟨Try.t37, (.nilFunc), by kernel_rfl, by kernel_rfl, by kernel_rfl, by kernel_rfl, by kernel_rfl⟩
instance : CY Try.prog 37 8 := ⟨fun w => ⟨_, Try.typeInfo37 w, rfl⟩⟩
instance : CS Try.prog 38 1 := ⟨Try.sizeOf38⟩
instance : CA Try.prog 38 false := ⟨Try.isAgg38⟩
instance : CZ Try.prog 38 (.nilFunc) := ⟨Try.zeroValue38⟩
instance : CE Try.prog 38 1 8 := ⟨Try.t38, (.nilFunc), by kernel_rfl, by kernel_rfl, by kernel_rfl, by kernel_rfl, by kernel_rfl⟩
instance : CY Try.prog 38 8 := ⟨fun w => ⟨_, Try.typeInfo38 w, rfl⟩⟩
instance : CS Try.prog 40 1 := ⟨Try.sizeOf40⟩
instance : CA Try.prog 40 false := ⟨Try.isAgg40⟩
instance : CZ Try.prog 40 (.nilFunc) := ⟨Try.zeroValue40⟩
instance : CE Try.prog 40 1 8 := ⟨Try.t40, (.nilFunc), by kernel_rfl, by kernel_rfl, by kernel_rfl, by kernel_rfl, by kernel_rfl⟩
instance : CY Try.prog 40 8 := ⟨fun w => ⟨_, Try.typeInfo40 w, rfl⟩⟩
instance : CS Try.prog 42 1 := ⟨Try.sizeOf42⟩
instance : CA Try.prog 42 false := ⟨Try.isAgg42⟩
instance : CZ Try.prog 42 (.nilFunc) := ⟨Try.zeroValue42⟩
instance : CE Try.prog 42 1 8 := ⟨Try.t42, (.nilFunc), by kernel_rfl, by kernel_rfl, by kernel_rfl, by kernel_rfl, by kernel_rfl⟩
instance : CY Try.prog 42 8 := ⟨fun w => ⟨_, Try.typeInfo42 w, rfl⟩⟩
instance : CS Try.prog 44 1 := ⟨Try.sizeOf44⟩
instance : CA Try.prog 44 false := ⟨Try.isAgg44⟩
instance : CZ Try.prog 44 (.nilFunc) := ⟨Try.zeroValue44⟩
instance : CE Try.prog 44 1 8 := ⟨Try.t44, (.nilFunc), by kernel_rfl, by kernel_rfl, by kernel_rfl, by kernel_rfl, by kernel_rfl⟩
instance : CY Try.prog 44 8 := ⟨fun w => ⟨_, Try.typeInfo44 w, rfl⟩⟩
instance : CS Try.prog 45 1 := ⟨Try.sizeOf45⟩
instance : CA Try.prog 45 false := ⟨Try.isAgg45⟩
instance : CZ Try.prog 45 (.nilFunc) := ⟨Try.zeroValue45⟩
instance : CE Try.prog 45 1 8 := ⟨Try.t45, (.nilFunc), by kernel_rfl, by kernel_rfl, by kernel_rfl, by kernel_rfl, by kernel_rfl⟩
instance : CY Try.prog 45 8 := ⟨fun w => ⟨_, Try.typeInfo45 w, rfl⟩⟩
instance : CSl Try.prog 46 122 := ⟨Try.runUnderlying46, Try.underlying46⟩
instance : CS Try.prog 46 1 := ⟨Try.sizeOf46⟩
instance : CA Try.prog 46 false := ⟨Try.isAgg46⟩
instance : CZ Try.prog 46 (.slice none 0 0) := ⟨Try.zeroValue46⟩
instance : CE Try.prog 46 1 24 := ⟨Try.t46, (.slice none 0 0), by kernel_rfl, by kernel_rfl, by kernel_rfl, by kernel_rfl, by kernel_rfl⟩
instance : CY Try.prog 46 24 := ⟨fun w => ⟨_, Try.typeInfo46 w, rfl⟩⟩
instance : CS Try.prog 47 1 := ⟨Try.sizeOf47⟩
instance : CA Try.prog 47 true := ⟨Try.isAgg47⟩
instance : CZ Try.prog 47 (.agg #[.slice none 0 0]) := ⟨Try.zeroValue47⟩
instance : CE Try.prog 47 1 24 := ⟨Try.t47, (.agg #[.slice none 0 0]), by kernel_rfl, by kernel_rfl, by kernel_rfl, by kernel_rfl, by kernel_rfl⟩
instance : CY Try.prog 47 24 := ⟨fun w => ⟨_, Try.typeInfo47 w, rfl⟩⟩
instance : CB Try.prog 47 [(0, 1)] := ⟨fun w => ⟨_, Try.runUnderlying47 w, by kernel_rfl⟩⟩
instance : CF Try.prog 47 0 0 := ⟨fun _ _ => by kernel_rfl⟩
instance : CS Try.prog 48 1 := ⟨Try.sizeOf48⟩
instance : CA Try.prog 48 true := ⟨Try.isAgg48⟩
instance : CZ Try.prog 48 (.agg #[.slice none 0 0]) := ⟨Try.zeroValue48⟩
instance : CE Try.prog 48 1 24 := ⟨Try.t48, (.agg #[.slice none 0 0]), by kernel_rfl, by kernel_rfl, by kernel_rfl, by kernel_rfl, by kernel_rfl⟩
instance : CY Try.prog 48 24 := ⟨fun w => ⟨_, Try.typeInfo48 w, rfl⟩⟩
instance : CB Try.prog 48 [(0, 1)] := ⟨fun w => ⟨_, Try.runUnderlying48 w, by kernel_rfl⟩⟩
instance : CF Try.prog 48 0 0 := ⟨fun _ _ => by kernel_rfl⟩
instance : CS Try.prog 49 1 := ⟨Try.sizeOf49⟩
instance : CA Try.prog 49 false := ⟨Try.isAgg49⟩
instance : CZ Try.prog 49 (.nilFunc) := ⟨Try.zeroValue49⟩
instance : CE Try.prog 49 1 8 := ⟨Try.t49, (.nilFunc), by kernel_rfl, by kernel_rfl, by kernel_rfl, by kernel_rfl, by kernel_rfl⟩
instance : CY Try.prog 49 8 := ⟨fun w => ⟨_, Try.typeInfo49 w, rfl⟩⟩
instance : CS Try.prog 50 1 := ⟨Try.sizeOf50⟩
instance : CA Try.prog 50 false := ⟨Try.isAgg50⟩
instance : CZ Try.prog 50 (.nilFunc) := ⟨Try.zeroValue50⟩
instance : CE Try.prog 50 1 8 := ⟨Try.t50, (.nilFunc), by kernel_rfl, by kernel_rfl, by kernel_rfl, by kernel_rfl, by kernel_rfl⟩
instance : CY Try.prog 50 8 := ⟨fun w => ⟨_, Try.typeInfo50 w, rfl⟩⟩
instance : CS Try.prog 51 1 := ⟨Try.sizeOf51⟩
instance : CA Try.prog 51 false := ⟨Try.isAgg51⟩
instance : CZ Try.prog 51 (.nilFunc) := ⟨Try.zeroValue51⟩
instance : CE Try.prog 51 1 8 := ⟨Try.t51, (.nilFunc), by kernel_rfl, by kernel_rfl, by kernel_rfl, by kernel_rfl, by kernel_rfl⟩
instance : CY Try.prog 51 8 := ⟨fun w => ⟨_, Try.typeInfo51 w, rfl⟩⟩
instance : CS Try.prog 52 1 := ⟨Try.sizeOf52⟩
instance : CA Try.prog 52 false := ⟨Try.isAgg52⟩
instance : CZ Try.prog 52 (.nilFunc) := ⟨Try.zeroValue52⟩
instance : CE Try.prog 52 1 8 := ⟨Try.t52, (.nilFunc), by kernel_rfl, by kernel_rfl, by kernel_rfl, by kernel_rfl, by kernel_rfl⟩
instance : CY Try.prog 52 8 := ⟨fun w => ⟨_, Try.typeInfo52 w, rfl⟩⟩
instance : CS Try.prog 53 1 := ⟨Try.sizeOf53⟩
instance : CA Try.prog 53 false := ⟨Try.isAgg53⟩
instance : CZ Try.prog 53 (.nilFunc) := ⟨Try.zeroValue53⟩
instance : CE Try.prog 53 1 8 := ⟨Try.t53, (.nilFunc), by kernel_rfl, by kernel_rfl, by kernel_rfl, by kernel_rfl, by kernel_rfl⟩
instance : CY Try.prog 53 8 := ⟨fun w => ⟨_, Try.typeInfo53 w, rfl⟩⟩
instance : CS Try.prog 54 1 := ⟨Try.sizeOf54⟩
instance : CA Try.prog 54 false := ⟨Try.isAgg54⟩
instance : CZ Try.prog 54 (.nilFunc) := ⟨Try.zeroValue54⟩
instance : CE Try.prog 54 1 8 := ⟨Try.t54, (.nilFunc), by kernel_rfl, by kernel_rfl, by kernel_rfl, by kernel_rfl, by kernel_rfl⟩
instance : CY Try.prog 54 8 := ⟨fun w => ⟨_, Try.typeInfo54 w, rfl⟩⟩
instance : CS Try.prog 55 1 := ⟨Try.sizeOf55⟩
instance : CA Try.prog 55 false := ⟨Try.isAgg55⟩
instance : CZ Try.prog 55 (.nilFunc) := ⟨Try.zeroValue55⟩
instance : CE Try.prog 55 1 8 := ⟨Try.t55, (.nilFunc), by kernel_rfl, by kernel_rfl, by kernel_rfl, by kernel_rfl, by kernel_rfl⟩
instance : CY Try.prog 55 8 := ⟨fun w => ⟨_, Try.typeInfo55 w, rfl⟩⟩
instance : CSl Try.prog 56 25 := ⟨Try.runUnderlying56, Try.underlying56⟩
instance : CS Try.prog 56 1 := ⟨Try.sizeOf56⟩
instance : CA Try.prog 56 false := ⟨Try.isAgg56⟩
instance : CZ Try.prog 56 (.slice none 0 0) := ⟨Try.zeroValue56⟩
instance : CE Try.prog 56 1 24 := ⟨Try.t56, (.slice none 0 0), by kernel_rfl, by kernel_rfl, by kernel_rfl, by kernel_rfl, by kernel_rfl⟩
instance : CY Try.prog 56 24 := ⟨fun w => ⟨_, Try.typeInfo56 w, rfl⟩⟩
instance : CS Try.prog 57 1 := ⟨Try.sizeOf57⟩
instance : CA Try.prog 57 true := ⟨Try.isAgg57⟩
instance : CZ Try.prog 57 (.agg #[.slice none 0 0]) := ⟨Try.zeroValue57⟩
instance : CE Try.prog 57 1 24 := ⟨Try.t57, (.agg #[.slice none 0 0]), by kernel_rfl, by kernel_rfl, by kernel_rfl, by kernel_rfl, by kernel_rfl⟩
instance : CY Try.prog 57 24 := ⟨fun w => ⟨_, Try.typeInfo57 w, rfl⟩⟩
instance : CB Try.prog 57 [(0, 1)] := ⟨fun w => ⟨_, Try.runUnderlying57 w, by kernel_rfl⟩⟩
instance : CF Try.prog 57 0 0 := ⟨fun _ _ => by kernel_rfl⟩
instance : CS Try.prog 58 1 := ⟨Try.sizeOf58⟩
instance : CA Try.prog 58 true := ⟨Try.isAgg58⟩
instance : CZ Try.prog 58 (.agg #[.slice none 0 0]) := ⟨Try.zeroValue58⟩
instance : CE Try.prog 58 1 24 := ⟨Try.t58, (.agg #[.slice none 0 0]), by kernel_rfl, by kernel_rfl, by kernel_rfl, by kernel_rfl, by kernel_rfl⟩
instance : CY Try.prog 58 24 := ⟨fun w => ⟨_, Try.typeInfo58 w, rfl⟩⟩
instance : CB Try.prog 58 [(0, 1)] := ⟨fun w => ⟨_, Try.runUnderlying58 w, by kernel_rfl⟩⟩
instance : CF Try.prog 58 0 0 := ⟨fun _ _ => by kernel_rfl⟩
instance : CS Try.prog 60 1 := ⟨Try.sizeOf60⟩
instance : CA Try.prog 60 false := ⟨Try.isAgg60⟩
instance : CZ Try.prog 60 (.nilFunc) := ⟨Try.zeroValue60⟩
instance : CE Try.prog 60 1 8 := ⟨Try.t60, (.nilFunc), by kernel_rfl, by kernel_rfl, by kernel_rfl, by kernel_rfl, by kernel_rfl⟩
instance : CY Try.prog 60 8 := ⟨fun w => ⟨_, Try.typeInfo60 w, rfl⟩⟩
instance : CS Try.prog 61 2 := ⟨Try.sizeOf61⟩
instance : CA Try.prog 61 true := ⟨Try.isAgg61⟩
instance : CZ Try.prog 61 (.agg #[.int .i64 0, .int .i64 0]) := ⟨Try.zeroValue61⟩
instance : CE Try.prog 61 2 16 := ⟨Try.t61, (.agg #[.int .i64 0, .int .i64 0]), by kernel_rfl, by kernel_rfl, by kernel_rfl, by kernel_rfl, by kernel_rfl⟩
instance : CY Try.prog 61 16 := ⟨fun w => ⟨_, Try.typeInfo61 w, rfl⟩⟩
instance : CB Try.prog 61 [(0, 1), (1, 1)] := ⟨fun w => ⟨_, Try.runUnderlying61 w, by kernel_rfl⟩⟩
instance : CF Try.prog 61 0 0 := ⟨fun _ _ => by kernel_rfl⟩
instance : CF Try.prog 61 1 1 := ⟨fun _ _ => by kernel_rfl⟩
instance : CS Try.prog 62 2 := ⟨Try.sizeOf62⟩
instance : CA Try.prog 62 true := ⟨Try.isAgg62⟩
instance : CZ Try.prog 62 (.agg #[.int .i64 0, .int .i64 0]) := ⟨Try.zeroValue62⟩
instance : CE Try.prog 62 2 16 := ⟨Try.t62, (.agg #[.int .i64 0, .int .i64 0]), by kernel_rfl, by kernel_rfl, by kernel_rfl, by kernel_rfl, by kernel_rfl⟩
instance : CY Try.prog 62 16 := ⟨fun w => ⟨_, Try.typeInfo62 w, rfl⟩⟩
instance : CB Try.prog 62 [(0, 1), (1, 1)] := ⟨fun w => ⟨_, Try.runUnderlying62 w, by kernel_rfl⟩⟩
instance : CF Try.prog 62 0 0 := ⟨fun _ _ => by kernel_rfl⟩
instance : CF Try.prog 62 1 1 := ⟨fun _ _ => by kernel_rfl⟩
instance : CS Try.prog 64 1 := ⟨Try.sizeOf64⟩
instance : CA Try.prog 64 false := ⟨Try.isAgg64⟩
instance : CZ Try.prog 64 (.nilFunc) := ⟨Try.zeroValue64⟩
instance : CE Try.prog 64 1 8 := ⟨Try.t64, (.nilFunc), by kernel_rfl, by kernel_rfl, by kernel_rfl, by kernel_rfl, by kernel_rfl⟩
instance : CY Try.prog 64 8 := ⟨fun w => ⟨_, Try.typeInfo64 w, rfl⟩⟩
instance : CS Try.prog 65 1 := ⟨Try.sizeOf65⟩
instance : CA Try.prog 65 false := ⟨Try.isAgg65⟩
instance : CZ Try.prog 65 (.nilFunc) := ⟨Try.zeroValue65⟩
instance : CE Try.prog 65 1 8 := ⟨Try.t65, (.nilFunc), by kernel_rfl, by kernel_rfl, by kernel_rfl, by kernel_rfl, by kernel_rfl⟩
instance : CY Try.prog 65 8 := ⟨fun w => ⟨_, Try.typeInfo65 w, rfl⟩⟩
instance : CSl Try.prog 66 62 := ⟨Try.runUnderlying66, Try.underlying66⟩
instance : CS Try.prog 66 1 := ⟨Try.sizeOf66⟩
instance : CA Try.prog 66 false := ⟨Try.isAgg66⟩
instance : CZ Try.prog 66 (.slice none 0 0) := ⟨Try.zeroValue66⟩
instance : CE Try.prog 66 1 24 := ⟨Try.t66, (.slice none 0 0), by kernel_rfl, by kernel_rfl, by kernel_rfl, by kernel_rfl, by kernel_rfl⟩
instance : CY Try.prog 66 24 := ⟨fun w => ⟨_, Try.typeInfo66 w, rfl⟩⟩
instance : CS Try.prog 67 1 := ⟨Try.sizeOf67⟩
instance : CA Try.prog 67 false := ⟨Try.isAgg67⟩
instance : CZ Try.prog 67 (.nilFunc) := ⟨Try.zeroValue67⟩
instance : CE Try.prog 67 1 8 := ⟨Try.t67, (.nilFunc), by kernel_rfl, by kernel_rfl, by kernel_rfl, by kernel_rfl, by kernel_rfl⟩
instance : CY Try.prog 67 8 := ⟨fun w => ⟨_, Try.typeInfo67 w, rfl⟩⟩
instance : CS Try.prog 68 1 := ⟨Try.sizeOf68⟩
instance : CA Try.prog 68 false := ⟨Try.isAgg68⟩
instance : CZ Try.prog 68 (.nilFunc) := ⟨Try.zeroValue68⟩
instance : CE Try.prog 68 1 8 := ⟨Try.t68, (.nilFunc), by kernel_rfl, by kernel_rfl, by kernel_rfl, by kernel_rfl, by kernel_rfl⟩
instance : CY Try.prog 68 8 := ⟨fun w => ⟨_, Try.typeInfo68 w, rfl⟩⟩
instance : CS Try.prog 70 1 := ⟨Try.sizeOf70⟩
instance : CA Try.prog 70 false := ⟨Try.isAgg70⟩
instance : CZ Try.prog 70 (.nilFunc) := ⟨Try.zeroValue70⟩
instance : CE Try.prog 70 1 8 := ⟨Try.t70, (.nilFunc), by kernel_rfl, by kernel_rfl, by kernel_rfl, by kernel_rfl, by kernel_rfl⟩
instance : CY Try.prog 70 8 := ⟨fun w => ⟨_, Try.typeInfo70 w, rfl⟩⟩
instance : CS Try.prog 72 1 := ⟨Try.sizeOf72⟩
instance : CA Try.prog 72 false := ⟨Try.isAgg72⟩
instance : CZ Try.prog 72 (.nilFunc) := ⟨Try.zeroValue72⟩
instance : CE Try.prog 72 1 8 := ⟨Try.t72, (.nilFunc), by kernel_rfl, by kernel_rfl, by kernel_rfl, by kernel_rfl, by kernel_rfl⟩
instance : CY Try.prog 72 8 := ⟨fun w => ⟨_, Try.typeInfo72 w, rfl⟩⟩
instance : CSl Try.prog 73 48 := ⟨Try.runUnderlying73, Try.underlying73⟩
instance : CS Try.prog 73 1 := ⟨Try.sizeOf73⟩
instance : CA Try.prog 73 false := ⟨Try.isAgg73⟩
instance : CZ Try.prog 73 (.slice none 0 0) := ⟨Try.zeroValue73⟩
instance : CE Try.prog 73 1 24 := ⟨Try.t73, (.slice none 0 0), by kernel_rfl, by kernel_rfl, by kernel_rfl, by kernel_rfl, by kernel_rfl⟩
instance : CY Try.prog 73 24 := ⟨fun w => ⟨_, Try.typeInfo73 w, rfl⟩⟩
instance : CS Try.prog 74 1 := ⟨Try.sizeOf74⟩
instance : CA Try.prog 74 true := ⟨Try.isAgg74⟩
instance : CZ Try.prog 74 (.agg #[.slice none 0 0]) := ⟨Try.zeroValue74⟩
instance : CE Try.prog 74 1 24 := ⟨Try.t74, (.agg #[.slice none 0 0]), by kernel_rfl, by kernel_rfl, by kernel_rfl, by kernel_rfl, by kernel_rfl⟩
instance : CY Try.prog 74 24 := ⟨fun w => ⟨_, Try.typeInfo74 w, rfl⟩⟩
instance : CB Try.prog 74 [(0, 1)] := ⟨fun w => ⟨_, Try.runUnderlying74 w, by kernel_rfl⟩⟩
instance : CF Try.prog 74 0 0 := ⟨fun _ _ => by kernel_rfl⟩
instance : CS Try.prog 75 1 := ⟨Try.sizeOf75⟩
instance : CA Try.prog 75 true := ⟨Try.isAgg75⟩
instance : CZ Try.prog 75 (.agg #[.slice none 0 0]) := ⟨Try.zeroValue75⟩
instance : CE Try.prog 75 1 24 := ⟨Try.t75, (.agg #[.slice none 0 0]), by kernel_rfl, by kernel_rfl, by kernel_rfl, by kernel_rfl, by kernel_rfl⟩
instance : CY Try.prog 75 24 := ⟨fun w => ⟨_, Try.typeInfo75 w, rfl⟩⟩
instance : CB Try.prog 75 [(0, 1)] := ⟨fun w => ⟨_, Try.runUnderlying75 w, by kernel_rfl⟩⟩
instance : CF Try.prog 75 0 0 := ⟨fun _ _ => by kernel_rfl⟩
instance : CS Try.prog 76 2 := ⟨Try.sizeOf76⟩
instance : CA Try.prog 76 true := ⟨Try.isAgg76⟩
instance : CZ Try.prog 76 (.agg #[.int .i64 0, .int .i64 0]) := ⟨Try.zeroValue76⟩
instance : CE Try.prog 76 2 16 := ⟨Try.t76, (.agg #[.int .i64 0, .int .i64 0]), by kernel_rfl, by kernel_rfl, by kernel_rfl, by kernel_rfl, by kernel_rfl⟩
instance : CY Try.prog 76 16 := ⟨fun w => ⟨_, Try.typeInfo76 w, rfl⟩⟩
instance : CB Try.prog 76 [(0, 1), (1, 1)] := ⟨fun w => ⟨_, Try.runUnderlying76 w, by kernel_rfl⟩⟩
instance : CF Try.prog 76 0 0 := ⟨fun _ _ => by kernel_rfl⟩
instance : CF Try.prog 76 1 1 := ⟨fun _ _ => by kernel_rfl⟩
instance : CS Try.prog 77 1 := ⟨Try.sizeOf77⟩
instance : CA Try.prog 77 false := ⟨Try.isAgg77⟩
instance : CZ Try.prog 77 (.nilFunc) := ⟨Try.zeroValue77⟩
instance : CE Try.prog 77 1 8 := ⟨Try.t77, (.nilFunc), by kernel_rfl, by kernel_rfl, by kernel_rfl, by kernel_rfl, by kernel_rfl⟩
instance : CY Try.prog 77 8 := ⟨fun w => ⟨_, Try.typeInfo77 w, rfl⟩⟩
instance : CS Try.prog 78 1 := ⟨Try.sizeOf78⟩
instance : CA Try.prog 78 false := ⟨Try.isAgg78⟩
instance : CZ Try.prog 78 (.nilFunc) := ⟨Try.zeroValue78⟩
instance : CE Try.prog 78 1 8 := ⟨Try.t78, (.nilFunc), by kernel_rfl, by kernel_rfl, by kernel_rfl, by kernel_rfl, by kernel_rfl⟩
instance : CY Try.prog 78 8 := ⟨fun w => ⟨_, Try.typeInfo78 w, rfl⟩⟩
instance : CS Try.prog 79 1 := ⟨Try.sizeOf79⟩
instance : CA Try.prog 79 false := ⟨Try.isAgg79⟩
instance : CZ Try.prog 79 (.nilFunc) := ⟨Try.zeroValue79⟩
instance : CE Try.prog 79 1 8 := ⟨Try.t79, (.nilFunc), by kernel_rfl, by kernel_rfl, by kernel_rfl, by kernel_rfl, by kernel_rfl⟩
instance : CY Try.prog 79 8 := ⟨fun w => ⟨_, Try.typeInfo79 w, rfl⟩⟩
instance : CS Try.prog 80 1 := ⟨Try.sizeOf80⟩
instance : CA Try.prog 80 false := ⟨Try.isAgg80⟩
instance : CZ Try.prog 80 (.nilFunc) := ⟨Try.zeroValue80⟩
instance : CE Try.prog 80 1 8 := ⟨Try.t80, (.nilFunc), by kernel_rfl, by kernel_rfl, by kernel_rfl, by kernel_rfl, by kernel_rfl⟩
instance : CY Try.prog 80 8 := ⟨fun w => ⟨_, Try.typeInfo80 w, rfl⟩⟩
instance : CS Try.prog 81 1 := ⟨Try.sizeOf81⟩
instance : CA Try.prog 81 false := ⟨Try.isAgg81⟩
instance : CZ Try.prog 81 (.nilFunc) := ⟨Try.zeroValue81⟩
instance : CE Try.prog 81 1 8 := ⟨Try.t81, (.nilFunc), by kernel_rfl, by kernel_rfl, by kernel_rfl, by kernel_rfl, by kernel_rfl⟩
instance : CY Try.prog 81 8 := ⟨fun w => ⟨_, Try.typeInfo81 w, rfl⟩⟩
instance : CS Try.prog 82 1 := ⟨Try.sizeOf82⟩
instance : CA Try.prog 82 false := ⟨Try.isAgg82⟩
instance : CZ Try.prog 82 (.nilFunc) := ⟨Try.zeroValue82⟩
instance : CE Try.prog 82 1 8 := ⟨Try.t82, (.nilFunc), by kernel_rfl, by kernel_rfl, by kernel_rfl, by kernel_rfl, by kernel_rfl⟩
instance : CY Try.prog 82 8 := ⟨fun w => ⟨_, Try.typeInfo82 w, rfl⟩⟩
instance : CS Try.prog 83 1 := ⟨Try.sizeOf83⟩
instance : CA Try.prog 83 false := ⟨Try.isAgg83⟩
instance : CZ Try.prog 83 (.nilFunc) := ⟨Try.zeroValue83⟩
instance : CE Try.prog 83 1 8 := ⟨Try.t83, (.nilFunc), by kernel_rfl, by kernel_rfl, by kernel_rfl, by kernel_rfl, by kernel_rfl⟩
instance : CY Try.prog 83 8 := ⟨fun w => ⟨_, Try.typeInfo83 w, rfl⟩⟩
instance : CS Try.prog 85 1 := ⟨Try.sizeOf85⟩
instance : CA Try.prog 85 false := ⟨Try.isAgg85⟩
instance : CZ Try.prog 85 (.nilFunc) := ⟨Try.zeroValue85⟩
instance : CE Try.prog 85 1 8 := ⟨Try.t85, (.nilFunc), by kernel_rfl, by kernel_rfl, by kernel_rfl, by kernel_rfl, by kernel_rfl⟩
instance : CY Try.prog 85 8 := ⟨fun w => ⟨_, Try.typeInfo85 w, rfl⟩⟩
instance : CS Try.prog 86 1 := ⟨Try.sizeOf86⟩
instance : CA Try.prog 86 false := ⟨Try.isAgg86⟩
instance : CZ Try.prog 86 (.nilFunc) := ⟨Try.zeroValue86⟩
instance : CE Try.prog 86 1 8 := ⟨Try.t86, (.nilFunc), by kernel_rfl, by kernel_rfl, by kernel_rfl, by kernel_rfl, by kernel_rfl⟩
instance : CY Try.prog 86 8 := ⟨fun w => ⟨_, Try.typeInfo86 w, rfl⟩⟩
instance : CS Try.prog 87 1 := ⟨Try.sizeOf87⟩
instance : CA Try.prog 87 false := ⟨Try.isAgg87⟩
instance : CZ Try.prog 87 (.nilFunc) := ⟨Try.zeroValue87⟩
instance : CE Try.prog 87 1 8 := ⟨Try.t87, (.nilFunc), by kernel_rfl, by kernel_rfl, by kernel_rfl, by kernel_rfl, by kernel_rfl⟩
instance : CY Try.prog 87 8 := ⟨fun w => ⟨_, Try.typeInfo87 w, rfl⟩⟩
instance : CS Try.prog 88 1 := ⟨Try.sizeOf88⟩
instance : CA Try.prog 88 false := ⟨Try.isAgg88⟩
instance : CZ Try.prog 88 (.nilFunc) := ⟨Try.zeroValue88⟩
instance : CE Try.prog 88 1 8 := ⟨Try.t88, (.nilFunc), by kernel_rfl, by kernel_rfl, by kernel_rfl, by kernel_rfl, by kernel_rfl⟩
instance : CY Try.prog 88 8 := ⟨fun w => ⟨_, Try.typeInfo88 w, rfl⟩⟩
instance : CS Try.prog 89 1 := ⟨Try.sizeOf89⟩
instance : CA Try.prog 89 false := ⟨Try.isAgg89⟩
instance : CZ Try.prog 89 (.pointer none) := ⟨Try.zeroValue89⟩
instance : CE Try.prog 89 1 8 := ⟨Try.t89, (.pointer none), by kernel_rfl, by kernel_rfl, by kernel_rfl, by kernel_rfl, by kernel_rfl⟩
instance : CY Try.prog 89 8 := ⟨fun w => ⟨_, Try.typeInfo89 w, rfl⟩⟩
instance : CS Try.prog 90 1 := ⟨Try.sizeOf90⟩
instance : CA Try.prog 90 false := ⟨Try.isAgg90⟩
instance : CZ Try.prog 90 (.nilFunc) := ⟨Try.zeroValue90⟩
instance : CE Try.prog 90 1 8 := ⟨Try.t90, (.nilFunc), by kernel_rfl, by kernel_rfl, by kernel_rfl, by kernel_rfl, by kernel_rfl⟩
instance : CY Try.prog 90 8 := ⟨fun w => ⟨_, Try.typeInfo90 w, rfl⟩⟩
instance : CS Try.prog 91 1 := ⟨Try.sizeOf91⟩
instance : CA Try.prog 91 false := ⟨Try.isAgg91⟩
instance : CZ Try.prog 91 (.nilFunc) := ⟨Try.zeroValue91⟩
instance : CE Try.prog 91 1 8 := ⟨Try.t91, (.nilFunc), by kernel_rfl, by kernel_rfl, by kernel_rfl, by kernel_rfl, by kernel_rfl⟩
instance : CY Try.prog 91 8 := ⟨fun w => ⟨_, Try.typeInfo91 w, rfl⟩⟩
instance : CS Try.prog 92 1 := ⟨Try.sizeOf92⟩
instance : CA Try.prog 92 false := ⟨Try.isAgg92⟩
instance : CZ Try.prog 92 (.nilFunc) := ⟨Try.zeroValue92⟩
instance : CE Try.prog 92 1 8 := ⟨Try.t92, (.nilFunc), by kernel_rfl, by kernel_rfl, by kernel_rfl, by kernel_rfl, by kernel_rfl⟩
instance : CY Try.prog 92 8 := ⟨fun w => ⟨_, Try.typeInfo92 w, rfl⟩⟩
instance : CS Try.prog 93 1 := ⟨Try.sizeOf93⟩
instance : CA Try.prog 93 false := ⟨Try.isAgg93⟩
instance : CZ Try.prog 93 (.nilFunc) := ⟨Try.zeroValue93⟩
instance : CE Try.prog 93 1 8 := ⟨Try.t93, (.nilFunc), by kernel_rfl, by kernel_rfl, by kernel_rfl, by kernel_rfl, by kernel_rfl⟩
instance : CY Try.prog 93 8 := ⟨fun w => ⟨_, Try.typeInfo93 w, rfl⟩⟩
instance : CS Try.prog 94 1 := ⟨Try.sizeOf94⟩
instance : CA Try.prog 94 false := ⟨Try.isAgg94⟩
instance : CZ Try.prog 94 (.nilFunc) := ⟨Try.zeroValue94⟩
instance : CE Try.prog 94 1 8 := ⟨Try.t94, (.nilFunc), by kernel_rfl, by kernel_rfl, by kernel_rfl, by kernel_rfl, by kernel_rfl⟩
instance : CY Try.prog 94 8 := ⟨fun w => ⟨_, Try.typeInfo94 w, rfl⟩⟩
instance : CS Try.prog 95 1 := ⟨Try.sizeOf95⟩
instance : CA Try.prog 95 false := ⟨Try.isAgg95⟩
instance : CZ Try.prog 95 (.nilFunc) := ⟨Try.zeroValue95⟩
instance : CE Try.prog 95 1 8 := ⟨Try.t95, (.nilFunc), by kernel_rfl, by kernel_rfl, by kernel_rfl, by kernel_rfl, by kernel_rfl⟩
instance : CY Try.prog 95 8 := ⟨fun w => ⟨_, Try.typeInfo95 w, rfl⟩⟩
instance : CS Try.prog 96 1 := ⟨Try.sizeOf96⟩
instance : CA Try.prog 96 false := ⟨Try.isAgg96⟩
instance : CZ Try.prog 96 (.nilFunc) := ⟨Try.zeroValue96⟩
instance : CE Try.prog 96 1 8 := ⟨Try.t96, (.nilFunc), by kernel_rfl, by kernel_rfl, by kernel_rfl, by kernel_rfl, by kernel_rfl⟩
instance : CY Try.prog 96 8 := ⟨fun w => ⟨_, Try.typeInfo96 w, rfl⟩⟩
instance : CS Try.prog 97 1 := ⟨Try.sizeOf97⟩
instance : CA Try.prog 97 false := ⟨Try.isAgg97⟩
instance : CZ Try.prog 97 (.nilFunc) := ⟨Try.zeroValue97⟩
instance : CE Try.prog 97 1 8 := ⟨Try.t97, (.nilFunc), by kernel_rfl, by kernel_rfl, by kernel_rfl, by kernel_rfl, by kernel_rfl⟩
instance : CY Try.prog 97 8 := ⟨fun w => ⟨_, Try.typeInfo97 w, rfl⟩⟩
instance : CS Try.prog 98 1 := ⟨Try.sizeOf98⟩
instance : CA Try.prog 98 false := ⟨Try.isAgg98⟩
instance : CZ Try.prog 98 (.nilFunc) := ⟨Try.zeroValue98⟩
instance : CE Try.prog 98 1 8 := ⟨Try.t98, (.nilFunc), by kernel_rfl, by kernel_rfl, by kernel_rfl, by kernel_rfl, by kernel_rfl⟩
instance : CY Try.prog 98 8 := ⟨fun w => ⟨_, Try.typeInfo98 w, rfl⟩⟩
instance : CS Try.prog 99 1 := ⟨Try.sizeOf99⟩
instance : CA Try.prog 99 false := ⟨Try.isAgg99⟩
instance : CZ Try.prog 99 (.nilFunc) := ⟨Try.zeroValue99⟩
instance : CE Try.prog 99 1 8 := ⟨Try.t99, (.nilFunc), by kernel_rfl, by kernel_rfl, by kernel_rfl, by kernel_rfl, by kernel_rfl⟩
instance : CY Try.prog 99 8 := ⟨fun w => ⟨_, Try.typeInfo99 w, rfl⟩⟩
instance : CS Try.prog 100 1 := ⟨Try.sizeOf100⟩
instance : CA Try.prog 100 false := ⟨Try.isAgg100⟩
instance : CZ Try.prog 100 (.nilFunc) := ⟨Try.zeroValue100⟩
instance : CE Try.prog 100 1 8 := ⟨Try.t100, (.nilFunc), by kernel_rfl, by kernel_rfl, by kernel_rfl, by kernel_rfl, by kernel_rfl⟩
instance : CY Try.prog 100 8 := ⟨fun w => ⟨_, Try.typeInfo100 w, rfl⟩⟩
instance : CS Try.prog 101 1 := ⟨Try.sizeOf101⟩
instance : CA Try.prog 101 false := ⟨Try.isAgg101⟩
instance : CZ Try.prog 101 (.nilFunc) := ⟨Try.zeroValue101⟩
instance : CE Try.prog 101 1 8 := ⟨Try.t101, (.nilFunc), by kernel_rfl, by kernel_rfl, by kernel_rfl, by kernel_rfl, by kernel_rfl⟩
instance : CY Try.prog 101 8 := ⟨fun w => ⟨_, Try.typeInfo101 w, rfl⟩⟩
instance : CS Try.prog 102 1 := ⟨Try.sizeOf102⟩
instance : CA Try.prog 102 false := ⟨Try.isAgg102⟩
instance : CZ Try.prog 102 (.nilFunc) := ⟨Try.zeroValue102⟩
instance : CE Try.prog 102 1 8 := ⟨Try.t102, (.nilFunc), by kernel_rfl, by kernel_rfl, by kernel_rfl, by kernel_rfl, by kernel_rfl⟩
instance : CY Try.prog 102 8 := ⟨fun w => ⟨_, Try.typeInfo102 w, rfl⟩⟩
instance : CS Try.prog 103 1 := ⟨Try.sizeOf103⟩
instance : CA Try.prog 103 false := ⟨Try.isAgg103⟩
instance : CZ Try.prog 103 (.nilFunc) := ⟨Try.zeroValue103⟩
instance : CE Try.prog 103 1 8 := ⟨Try.t103, (.nilFunc), by kernel_rfl, by kernel_rfl, by kernel_rfl, by kernel_rfl, by kernel_rfl⟩
instance : CY Try.prog 103 8 := ⟨fun w => ⟨_, Try.typeInfo103 w, rfl⟩⟩
instance : CS Try.prog 104 1 := ⟨Try.sizeOf104⟩
instance : CA Try.prog 104 false := ⟨Try.isAgg104⟩
instance : CZ Try.prog 104 (.nilFunc) := ⟨Try.zeroValue104⟩
instance : CE Try.prog 104 1 8 := ⟨Try.t104, (.nilFunc), by kernel_rfl, by kernel_rfl, by kernel_rfl, by kernel_rfl, by kernel_rfl⟩
instance : CY Try.prog 104 8 := ⟨fun w => ⟨_, Try.typeInfo104 w, rfl⟩⟩
instance : CS Try.prog 105 1 := ⟨Try.sizeOf105⟩
instance : CA Try.prog 105 false := ⟨Try.isAgg105⟩
instance : CZ Try.prog 105 (.nilFunc) := ⟨Try.zeroValue105⟩
instance : CE Try.prog 105 1 8 := ⟨Try.t105, (.nilFunc), by kernel_rfl, by kernel_rfl, by kernel_rfl, by kernel_rfl, by kernel_rfl⟩
instance : CY Try.prog 105 8 := ⟨fun w => ⟨_, Try.typeInfo105 w, rfl⟩⟩
instance : CS Try.prog 106 1 := ⟨Try.sizeOf106⟩
instance : CA Try.prog 106 false := ⟨Try.isAgg106⟩
instance : CZ Try.prog 106 (.nilFunc) := ⟨Try.zeroValue106⟩
instance : CE Try.prog 106 1 8 := ⟨Try.t106, (.nilFunc), by kernel_rfl, by kernel_rfl, by kernel_rfl, by kernel_rfl, by kernel_rfl⟩
instance : CY Try.prog 106 8 := ⟨fun w => ⟨_, Try.typeInfo106 w, rfl⟩⟩
instance : CS Try.prog 107 1 := ⟨Try.sizeOf107⟩
instance : CA Try.prog 107 false := ⟨Try.isAgg107⟩
instance : CZ Try.prog 107 (.nilFunc) := ⟨Try.zeroValue107⟩
instance : CE Try.prog 107 1 8 := ⟨Try.t107, (.nilFunc), by kernel_rfl, by kernel_rfl, by kernel_rfl, by kernel_rfl, by kernel_rfl⟩
instance : CY Try.prog 107 8 := ⟨fun w => ⟨_, Try.typeInfo107 w, rfl⟩⟩
instance : CS Try.prog 108 1 := ⟨Try.sizeOf108⟩
instance : CA Try.prog 108 false := ⟨Try.isAgg108⟩
instance : CZ Try.prog 108 (.nilFunc) := ⟨Try.zeroValue108⟩
instance : CE Try.prog 108 1 8 := ⟨Try.t108, (.nilFunc), by kernel_rfl, by kernel_rfl, by kernel_rfl, by kernel_rfl, by kernel_rfl⟩
instance : CY Try.prog 108 8 := ⟨fun w => ⟨_, Try.typeInfo108 w, rfl⟩⟩
instance : CS Try.prog 109 1 := ⟨Try.sizeOf109⟩
instance : CA Try.prog 109 false := ⟨Try.isAgg109⟩
instance : CZ Try.prog 109 (.nilFunc) := ⟨Try.zeroValue109⟩
instance : CE Try.prog 109 1 8 := ⟨Try.t109, (.nilFunc), by kernel_rfl, by kernel_rfl, by kernel_rfl, by kernel_rfl, by kernel_rfl⟩
instance : CY Try.prog 109 8 := ⟨fun w => ⟨_, Try.typeInfo109 w, rfl⟩⟩
instance : CS Try.prog 110 1 := ⟨Try.sizeOf110⟩
instance : CA Try.prog 110 false := ⟨Try.isAgg110⟩
instance : CZ Try.prog 110 (.nilFunc) := ⟨Try.zeroValue110⟩
instance : CE Try.prog 110 1 8 := ⟨Try.t110, (.nilFunc), by kernel_rfl, by kernel_rfl, by kernel_rfl, by kernel_rfl, by kernel_rfl⟩
instance : CY Try.prog 110 8 := ⟨fun w => ⟨_, Try.typeInfo110 w, rfl⟩⟩
instance : CS Try.prog 111 1 := ⟨Try.sizeOf111⟩
instance : CA Try.prog 111 false := ⟨Try.isAgg111⟩
instance : CZ Try.prog 111 (.nilFunc) := ⟨Try.zeroValue111⟩
instance : CE Try.prog 111 1 8 := ⟨Try.t111, (.nilFunc), by kernel_rfl, by kernel_rfl, by kernel_rfl, by kernel_rfl, by kernel_rfl⟩
instance : CY Try.prog 111 8 := ⟨fun w => ⟨_, Try.typeInfo111 w, rfl⟩⟩
instance : CS Try.prog 112 1 := ⟨Try.sizeOf112⟩
instance : CA Try.prog 112 false := ⟨Try.isAgg112⟩
instance : CZ Try.prog 112 (.nilFunc) := ⟨Try.zeroValue112⟩
instance : CE Try.prog 112 1 8 := ⟨Try.t112, (.nilFunc), by kernel_rfl, by kernel_rfl, by kernel_rfl, by kernel_rfl, by kernel_rfl⟩
instance : CY Try.prog 112 8 := ⟨fun w => ⟨_, Try.typeInfo112 w, rfl⟩⟩
instance : CS Try.prog 113 1 := ⟨Try.sizeOf113⟩
instance : CA Try.prog 113 false := ⟨Try.isAgg113⟩
instance : CZ Try.prog 113 (.nilFunc) := ⟨Try.zeroValue113⟩
instance : CE Try.prog 113 1 8 := ⟨Try.t113, (.nilFunc), by kernel_rfl, by kernel_rfl, by kernel_rfl, by kernel_rfl, by kernel_rfl⟩
instance : CY Try.prog 113 8 := ⟨fun w => ⟨_, Try.typeInfo113 w, rfl⟩⟩
instance : CS Try.prog 114 2 := ⟨Try.sizeOf114⟩
instance : CA Try.prog 114 true := ⟨Try.isAgg114⟩
instance : CZ Try.prog 114 (.agg #[.slice none 0 0, .int .i64 0]) := ⟨Try.zeroValue114⟩
instance : CE Try.prog 114 2 32 := ⟨Try.t114, (.agg #[.slice none 0 0, .int .i64 0]), by kernel_rfl, by kernel_rfl, by kernel_rfl, by kernel_rfl, by kernel_rfl⟩
instance : CY Try.prog 114 32 := ⟨fun w => ⟨_, Try.typeInfo114 w, rfl⟩⟩
instance : CB Try.prog 114 [(0, 1), (1, 1)] := ⟨fun w => ⟨_, Try.runUnderlying114 w, by kernel_rfl⟩⟩
instance : CF Try.prog 114 0 0 := ⟨fun _ _ => by kernel_rfl⟩
instance : CF Try.prog 114 1 1 := ⟨fun _ _ => by kernel_rfl⟩
instance : CS Try.prog 115 2 := ⟨Try.sizeOf115⟩
instance : CA Try.prog 115 true := ⟨Try.isAgg115⟩
instance : CZ Try.prog 115 (.agg #[.slice none 0 0, .int .i64 0]) := ⟨Try.zeroValue115⟩
instance : CE Try.prog 115 2 32 := ⟨Try.t115, (.agg #[.slice none 0 0, .int .i64 0]), by kernel_rfl, by kernel_rfl, by kernel_rfl, by kernel_rfl, by kernel_rfl⟩
instance : CY Try.prog 115 32 := ⟨fun w => ⟨_, Try.typeInfo115 w, rfl⟩⟩
instance : CB Try.prog 115 [(0, 1), (1, 1)] := ⟨fun w => ⟨_, Try.runUnderlying115 w, by kernel_rfl⟩⟩
instance : CF Try.prog 115 0 0 := ⟨fun _ _ => by kernel_rfl⟩
instance : CF Try.prog 115 1 1 := ⟨fun _ _ => by kernel_rfl⟩
instance : CS Try.prog 116 1 := ⟨Try.sizeOf116⟩
instance : CA Try.prog 116 false := ⟨Try.isAgg116⟩
instance : CZ Try.prog 116 (.nilFunc) := ⟨Try.zeroValue116⟩
instance : CE Try.prog 116 1 8 := ⟨Try.t116, (.nilFunc), by kernel_rfl, by kernel_rfl, by kernel_rfl, by kernel_rfl, by kernel_rfl⟩
instance : CY Try.prog 116 8 := ⟨fun w => ⟨_, Try.typeInfo116 w, rfl⟩⟩
instance : CS Try.prog 117 1 := ⟨Try.sizeOf117⟩
instance : CA Try.prog 117 false := ⟨Try.isAgg117⟩
instance : CZ Try.prog 117 (.nilFunc) := ⟨Try.zeroValue117⟩
instance : CE Try.prog 117 1 8 := ⟨Try.t117, (.nilFunc), by kernel_rfl, by kernel_rfl, by kernel_rfl, by kernel_rfl, by kernel_rfl⟩
instance : CY Try.prog 117 8 := ⟨fun w => ⟨_, Try.typeInfo117 w, rfl⟩⟩
instance : CSl Try.prog 118 9 := ⟨Try.runUnderlying118, Try.underlying118⟩
instance : CS Try.prog 118 1 := ⟨Try.sizeOf118⟩
instance : CA Try.prog 118 false := ⟨Try.isAgg118⟩
instance : CZ Try.prog 118 (.slice none 0 0) := ⟨Try.zeroValue118⟩
instance : CE Try.prog 118 1 24 := ⟨Try.t118, (.slice none 0 0), by kernel_rfl, by kernel_rfl, by kernel_rfl, by kernel_rfl, by kernel_rfl⟩
instance : CY Try.prog 118 24 := ⟨fun w => ⟨_, Try.typeInfo118 w, rfl⟩⟩
instance : CS Try.prog 119 1 := ⟨Try.sizeOf119⟩
instance : CA Try.prog 119 false := ⟨Try.isAgg119⟩
instance : CZ Try.prog 119 (.nilFunc) := ⟨Try.zeroValue119⟩
instance : CE Try.prog 119 1 8 := ⟨Try.t119, (.nilFunc), by kernel_rfl, by kernel_rfl, by kernel_rfl, by kernel_rfl, by kernel_rfl⟩
instance : CY Try.prog 119 8 := ⟨fun w => ⟨_, Try.typeInfo119 w, rfl⟩⟩
instance : CSl Try.prog 120 3 := ⟨Try.runUnderlying120, Try.underlying120⟩
instance : CS Try.prog 120 1 := ⟨Try.sizeOf120⟩
instance : CA Try.prog 120 false := ⟨Try.isAgg120⟩
instance : CZ Try.prog 120 (.slice none 0 0) := ⟨Try.zeroValue120⟩
instance : CE Try.prog 120 1 24 := ⟨Try.t120, (.slice none 0 0), by kernel_rfl, by kernel_rfl, by kernel_rfl, by kernel_rfl, by kernel_rfl⟩
instance : CY Try.prog 120 24 := ⟨fun w => ⟨_, Try.typeInfo120 w, rfl⟩⟩
instance : CS Try.prog 121 1 := ⟨Try.sizeOf121⟩
instance : CA Try.prog 121 false := ⟨Try.isAgg121⟩
instance : CZ Try.prog 121 (.nilFunc) := ⟨Try.zeroValue121⟩
instance : CE Try.prog 121 1 8 := ⟨Try.t121, (.nilFunc), by kernel_rfl, by kernel_rfl, by kernel_rfl, by kernel_rfl, by kernel_rfl⟩
instance : CY Try.prog 121 8 := ⟨fun w => ⟨_, Try.typeInfo121 w, rfl⟩⟩
instance : CS Try.prog 122 2 := ⟨Try.sizeOf122⟩
instance : CA Try.prog 122 true := ⟨Try.isAgg122⟩
instance : CZ Try.prog 122 (.agg #[.bool false, .string ⟨#[]⟩]) := ⟨Try.zeroValue122⟩
instance : CE Try.prog 122 2 24 := ⟨Try.t122, (.agg #[.bool false, .string ⟨#[]⟩]), by kernel_rfl, by kernel_rfl, by kernel_rfl, by kernel_rfl, by kernel_rfl⟩
instance : CY Try.prog 122 24 := ⟨fun w => ⟨_, Try.typeInfo122 w, rfl⟩⟩
instance : CB Try.prog 122 [(0, 1), (1, 1)] := ⟨fun w => ⟨_, Try.runUnderlying122 w, by kernel_rfl⟩⟩
instance : CF Try.prog 122 0 0 := ⟨fun _ _ => by kernel_rfl⟩
instance : CF Try.prog 122 1 1 := ⟨fun _ _ => by kernel_rfl⟩
instance : CS Try.prog 123 1 := ⟨Try.sizeOf123⟩
instance : CA Try.prog 123 false := ⟨Try.isAgg123⟩
instance : CZ Try.prog 123 (.nilFunc) := ⟨Try.zeroValue123⟩
instance : CE Try.prog 123 1 8 := ⟨Try.t123, (.nilFunc), by kernel_rfl, by kernel_rfl, by kernel_rfl, by kernel_rfl, by kernel_rfl⟩
instance : CY Try.prog 123 8 := ⟨fun w => ⟨_, Try.typeInfo123 w, rfl⟩⟩
instance : CS Try.prog 124 1 := ⟨Try.sizeOf124⟩
instance : CA Try.prog 124 false := ⟨Try.isAgg124⟩
instance : CZ Try.prog 124 (.nilFunc) := ⟨Try.zeroValue124⟩
instance : CE Try.prog 124 1 8 := ⟨Try.t124, (.nilFunc), by kernel_rfl, by kernel_rfl, by kernel_rfl, by kernel_rfl, by kernel_rfl⟩
instance : CY Try.prog 124 8 := ⟨fun w => ⟨_, Try.typeInfo124 w, rfl⟩⟩
instance : CS Try.prog 125 1 := ⟨Try.sizeOf125⟩
instance : CA Try.prog 125 false := ⟨Try.isAgg125⟩
instance : CZ Try.prog 125 (.nilFunc) := ⟨Try.zeroValue125⟩
instance : CE Try.prog 125 1 8 := ⟨Try.t125, (.nilFunc), by kernel_rfl, by kernel_rfl, by kernel_rfl, by kernel_rfl, by kernel_rfl⟩
instance : CY Try.prog 125 8 := ⟨fun w => ⟨_, Try.typeInfo125 w, rfl⟩⟩
instance : CS Try.prog 126 1 := ⟨Try.sizeOf126⟩
instance : CA Try.prog 126 false := ⟨Try.isAgg126⟩
instance : CZ Try.prog 126 (.nilFunc) := ⟨Try.zeroValue126⟩
instance : CE Try.prog 126 1 8 := ⟨Try.t126, (.nilFunc), by kernel_rfl, by kernel_rfl, by kernel_rfl, by kernel_rfl, by kernel_rfl⟩
instance : CY Try.prog 126 8 := ⟨fun w => ⟨_, Try.typeInfo126 w, rfl⟩⟩
instance : CAr Try.prog 129 0 16 := ⟨Try.runUnderlying129⟩
instance : CS Try.prog 129 0 := ⟨Try.sizeOf129⟩
instance : CA Try.prog 129 true := ⟨Try.isAgg129⟩
instance : CZ Try.prog 129 (.agg #[]) := ⟨Try.zeroValue129⟩
instance : CE Try.prog 129 0 0 := ⟨Try.t129, (.agg #[]), by kernel_rfl, by kernel_rfl, by kernel_rfl, by kernel_rfl, by kernel_rfl⟩
instance : CY Try.prog 129 0 := ⟨fun w => ⟨_, Try.typeInfo129 w, rfl⟩⟩
instance : CS Try.prog 132 1 := ⟨Try.sizeOf132⟩
instance : CA Try.prog 132 false := ⟨Try.isAgg132⟩
instance : CZ Try.prog 132 (.int .u32 0) := ⟨Try.zeroValue132⟩
instance : CE Try.prog 132 1 4 := ⟨Try.t132, (.int .u32 0), by kernel_rfl, by kernel_rfl, by kernel_rfl, by kernel_rfl, by kernel_rfl⟩
instance : CY Try.prog 132 4 := ⟨fun w => ⟨_, Try.typeInfo132 w, rfl⟩⟩
instance : CS Try.prog 135 1 := ⟨Try.sizeOf135⟩
instance : CA Try.prog 135 false := ⟨Try.isAgg135⟩
instance : CZ Try.prog 135 (.nilFunc) := ⟨Try.zeroValue135⟩
instance : CE Try.prog 135 1 8 := ⟨Try.t135, (.nilFunc), by kernel_rfl, by kernel_rfl, by kernel_rfl, by kernel_rfl, by kernel_rfl⟩
instance : CY Try.prog 135 8 := ⟨fun w => ⟨_, Try.typeInfo135 w, rfl⟩⟩
instance : CS Try.prog 136 1 := ⟨Try.sizeOf136⟩
instance : CA Try.prog 136 false := ⟨Try.isAgg136⟩
instance : CZ Try.prog 136 (.pointer none) := ⟨Try.zeroValue136⟩
instance : CE Try.prog 136 1 8 := ⟨Try.t136, (.pointer none), by kernel_rfl, by kernel_rfl, by kernel_rfl, by kernel_rfl, by kernel_rfl⟩
instance : CY Try.prog 136 8 := ⟨fun w => ⟨_, Try.typeInfo136 w, rfl⟩⟩
end V
end Go.Proofs.Ytoljdhdfijnjiaa
