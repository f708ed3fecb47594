/- What the rows need, part 7. No condition. -/
import Derived.Test.YtkjnnifnmoekjaaGreatDoorRows
import Derived.ProofKit
import Derived.Deep.Slices
import Derived.LaidMore
import Derived.LaidSub
import Derived.LaidHandle
import Derived.OpenShut
import Derived.Lib.LaidTab
import Derived.Test.YtkjnnifnmoekjaaGreatDoorQIbF
namespace Go.Proofs.YtkjnnifnmoekjaaGreatDoor
namespace V
open Enc (enc)
set_option linter.unusedVariables false
set_option linter.unusedSimpArgs false
set_option maxHeartbeats 4000000
set_option maxRecDepth 100000
open Go.RowKit
attribute [local irreducible] thA inA FinA eL
structure L_Value where
  kind : Int
  num : Int
  text : ByteArray
deriving DecidableEq
instance : Enc L_Value := ⟨fun x => [.v (.int .i64 x.kind), .v (.int .i64 x.num), .v (.string x.text)], 3, fun _ => rfl⟩
structure L_Column where
  kind : Int
  default : L_Value
deriving DecidableEq
instance : Enc L_Column := ⟨fun x => [.v (.int .i64 x.kind), .v (.int .i64 x.default.kind), .v (.int .i64 x.default.num), .v (.string x.default.text)], 4, fun _ => rfl⟩
structure L_Change where
  kind : Int
  at_ : Int
  column : L_Column
deriving DecidableEq
instance : Enc L_Change := ⟨fun x => [.v (.int .i64 x.kind), .v (.int .i64 x.at_), .v (.int .i64 x.column.kind), .v (.int .i64 x.column.default.kind), .v (.int .i64 x.column.default.num), .v (.string x.column.default.text)], 6, fun _ => rfl⟩
structure L_Tagged where
  tag : Int
  row : List L_Value
deriving DecidableEq
instance : Enc L_Tagged := ⟨fun x => [.v (.int .i64 x.tag), .sl x.row.length (eL x.row)], 2, fun _ => rfl⟩
structure L_Table where
  first : List L_Column
  changes : List L_Change
  rows : List L_Tagged
deriving DecidableEq
instance : Enc L_Table := ⟨fun x => [.sl x.first.length (eL x.first), .sl x.changes.length (eL x.changes), .sl x.rows.length (eL x.rows)], 3, fun _ => rfl⟩
def m_L_equalInts_k1 (N : Nat) : Option (Bool) :=
  some true
def m_L_equalInts_b1 (N : Nat) (p_a : (List Int)) (p_b : (List Int)) (i2 : Int) : Option (Int ⊕ (Unit ⊕ Bool)) :=
  cond (decide (i2 < (p_a.length : Int)))
    ((ixI p_a i2).bind fun x17 =>
    (ixI p_b i2).bind fun x19 =>
    cond (decide (x17 = x19))
      ((chk (i2 + (1 : Int))).bind fun n22 =>
      some (.inl n22))
      (some (.inr (.inr false))))
    (some (.inr (.inl ())))
def m_L_equalInts (N : Nat) (p_a : (List Int)) (p_b : (List Int)) : Option (Bool) :=
  cond (decide ((p_a.length : Int) = (p_b.length : Int)))
    ((loopM (β := Unit ⊕ Bool) (fun s : Int => m_L_equalInts_b1 N p_a p_b s) N (0 : Int)).bind fun o => match o with
    | .inl e =>
      m_L_equalInts_k1 N 
    | .inr v =>
      some v)
    (some false)
def m_L_szValue (N : Nat) (p_a : L_Value) (p_left : Int) : Option (Int) :=
  (chk (p_left - (p_a.text.size : Int))).bind fun n1 =>
  cond (decide (n1 < (0 : Int)))
    (some (-1 : Int))
    (some n1)
theorem w_L_szValue (N : Nat) (p_a : L_Value) (p_left : Int) (r : Int) (hh0 : m_L_szValue N p_a p_left = some r) : FnX Tryz.prog 8 [] [.agg [iA p_a.kind, iA p_a.num, sA p_a.text], iA p_left] (RE (iA r) []) := by
  unfold m_L_szValue at hh0; refine FnX.mk Tryz.func8 rfl rfl ?_; intro s hs; refine PC.seq ?_; refine PC.region ?_; refine PL.ef rfl (Ef.box rfl rfl rfl) ?_; refine PL.nm (.op 0 0) [some ⟨.mx [iA p_a.kind, iA p_a.num, sA p_a.text], 28, 0⟩] rfl rfl ?_; refine PL.op rfl (Rd.asnT rfl) ?_; refine PL.nil ?_; refine thA_n ?_; refine PC.seq ?_; obtain ⟨n1, h_2, hh0⟩ := bind_some hh0; refine PC.region ?_; refine PL.op rfl (Rd.moveT rfl) ?_; refine PL.op rfl (Rd.fieldO rfl rfl) ?_; refine PL.op rfl (Rd.loadO rfl rfl rfl) ?_; refine PL.op rfl (Rd.lenSt rfl) ?_; refine PL.op rfl (Rd.subM rfl rfl h_2) ?_; refine PL.op rfl (Rd.asnT rfl) ?_; refine PL.nil ?_; refine thA_n ?_; (iterate 2 refine PC.seq ?_); refine PC.region ?_; refine PL.op rfl (Rd.moveT rfl) ?_; refine PL.op rfl (Rd.lss rfl rfl) ?_; refine PL.nil ?_; refine thA_n ?_; rcases cond_some hh0 with ⟨h_3, hh0⟩ | ⟨h_3, hh0⟩
  · refine PC.cond_true rfl h_3 ?_; refine PC.seq ?_; refine PC.region ?_; refine PL.op rfl (Rd.asnT rfl) ?_; refine PL.nil ?_; refine thA_n ?_; refine PC.ret ?_; refine thA_r ?_; obtain rfl := some_in hh0; exact FinA.mk (r := iA (-1 : Int)) (bl := []) [] (.inl rfl) rfl (rl := [.tmp 4]) (.tmp .nil) rfl rfl rfl (.t _) trivial ⟨rfl, rfl⟩
  refine PC.cond_false rfl h_3 ?_; refine PC.skip ?_; refine thA_n ?_; refine PC.seq ?_; refine PC.region ?_; refine PL.op rfl (Rd.moveT rfl) ?_; refine PL.op rfl (Rd.asnT rfl) ?_; refine PL.nil ?_; refine thA_n ?_; refine PC.ret ?_; obtain rfl := some_in hh0; exact FinA.mk (r := iA n1) (bl := []) [] (.inl rfl) rfl (rl := [.tmp 4]) (.tmp .nil) rfl rfl rfl (.t _) trivial ⟨rfl, rfl⟩
def m_L_szColumn (N : Nat) (p_a : L_Column) (p_left : Int) : Option (Int) :=
  (m_L_szValue N p_a.default p_left).bind fun r1 =>
  cond (decide (r1 < (0 : Int)))
    (some (-1 : Int))
    (some r1)
theorem w_L_szColumn (N : Nat) (p_a : L_Column) (p_left : Int) (r : Int) (hh0 : m_L_szColumn N p_a p_left = some r) : FnX Tryz.prog 71 [] [.agg [iA p_a.kind, iA p_a.default.kind, iA p_a.default.num, sA p_a.default.text], iA p_left] (RE (iA r) []) := by
  unfold m_L_szColumn at hh0; refine FnX.mk Tryz.func71 rfl rfl ?_; intro s hs; refine PC.seq ?_; refine PC.region ?_; refine PL.ef rfl (Ef.box rfl rfl rfl) ?_; refine PL.nm (.op 0 0) [some ⟨.mx [iA p_a.kind, iA p_a.default.kind, iA p_a.default.num, sA p_a.default.text], 109, 0⟩] rfl rfl ?_; refine PL.op rfl (Rd.asnT rfl) ?_; refine PL.nil ?_; refine thA_n ?_; refine PC.seq ?_; obtain ⟨r1, h_2, hh0⟩ := bind_some hh0; refine PC.region ?_; refine PL.op rfl (Rd.fieldO rfl rfl) ?_; refine PL.op rfl (Rd.loadSub rfl rfl rfl rfl) ?_; refine PL.op rfl (Rd.moveT rfl) ?_; refine PL.callM false [] (w_L_szValue N p_a.default p_left r1 h_2) rfl Tryz.call8 rfl ⟨.aggL ⟨.t _, .t _, .t _, trivial⟩, .t _, trivial⟩ rfl trivial (fun h => by cases h) ?_; refine PL.op rfl (Rd.asnT rfl) ?_; refine PL.nil ?_; refine thA_n ?_; (iterate 2 refine PC.seq ?_); refine PC.region ?_; refine PL.op rfl (Rd.moveT rfl) ?_; refine PL.op rfl (Rd.lss rfl rfl) ?_; refine PL.nil ?_; refine thA_n ?_; rcases cond_some hh0 with ⟨h_3, hh0⟩ | ⟨h_3, hh0⟩
  · refine PC.cond_true rfl h_3 ?_; refine PC.seq ?_; refine PC.region ?_; refine PL.op rfl (Rd.asnT rfl) ?_; refine PL.nil ?_; refine thA_n ?_; refine PC.ret ?_; refine thA_r ?_; obtain rfl := some_in hh0; exact FinA.mk (r := iA (-1 : Int)) (bl := []) [] (.inl rfl) rfl (rl := [.tmp 4]) (.tmp .nil) rfl rfl rfl (.t _) trivial ⟨rfl, rfl⟩
  refine PC.cond_false rfl h_3 ?_; refine PC.skip ?_; refine thA_n ?_; refine PC.seq ?_; refine PC.region ?_; refine PL.op rfl (Rd.moveT rfl) ?_; refine PL.op rfl (Rd.asnT rfl) ?_; refine PL.nil ?_; refine thA_n ?_; refine PC.ret ?_; obtain rfl := some_in hh0; exact FinA.mk (r := iA r1) (bl := []) [] (.inl rfl) rfl (rl := [.tmp 4]) (.tmp .nil) rfl rfl rfl (.t _) trivial ⟨rfl, rfl⟩
def m_L_szColumnS_k1 (N : Nat) (left14 : Int) : Option (Int) :=
  some left14
def m_L_szColumnS_b1 (N : Nat) (p_a : (List L_Column)) (left4 : Int) (i5 : Int) : Option ((Int × Int) ⊕ (Int ⊕ Int)) :=
  cond (decide (i5 < (p_a.length : Int)))
    ((ixI p_a i5).bind fun x21 =>
    (m_L_szColumn N x21 left4).bind fun r23 =>
    cond (decide (r23 < (0 : Int)))
      (some (.inr (.inr (-1 : Int))))
      ((chk (i5 + (1 : Int))).bind fun n26 =>
      some (.inl (r23, n26))))
    (some (.inr (.inl left4)))
def m_L_szColumnS (N : Nat) (p_a : (List L_Column)) (p_left : Int) : Option (Int) :=
  (chk (p_left - (p_a.length : Int))).bind fun n1 =>
  cond (decide (n1 < (0 : Int)))
    (some (-1 : Int))
    ((loopM (β := Int ⊕ Int) (fun s : Int × Int => m_L_szColumnS_b1 N p_a s.1 s.2) N (n1, (0 : Int))).bind fun o => match o with
    | .inl e =>
      m_L_szColumnS_k1 N e
    | .inr v =>
      some v)
theorem w_L_szColumnS (N : Nat) (p_a : (List L_Column)) (p_left : Int) (r : Int) (hh0 : m_L_szColumnS N p_a p_left = some r) : FnX Tryz.prog 31 [] [sL p_a, iA p_left] (RE (iA r) []) := by
  unfold m_L_szColumnS at hh0; refine FnX.mk Tryz.func31 rfl rfl ?_; intro s hs; refine PC.seq ?_; refine PC.region ?_; refine PL.op rfl (Rd.asnT rfl) ?_; refine PL.nil ?_; refine thA_n ?_; refine PC.seq ?_; obtain ⟨n1, h_2, hh0⟩ := bind_some hh0; refine PC.region ?_; (iterate 2 refine PL.op rfl (Rd.moveT rfl) ?_); refine PL.op rfl (Rd.lenT rfl) ?_; refine PL.op rfl (Rd.subM rfl rfl h_2) ?_; refine PL.op rfl (Rd.asnT rfl) ?_; refine PL.nil ?_; refine thA_n ?_; (iterate 2 refine PC.seq ?_); refine PC.region ?_; refine PL.op rfl (Rd.moveT rfl) ?_; refine PL.op rfl (Rd.lss rfl rfl) ?_; refine PL.nil ?_; refine thA_n ?_; rcases cond_some hh0 with ⟨h_3, hh0⟩ | ⟨h_3, hh0⟩
  · refine PC.cond_true rfl h_3 ?_; refine PC.seq ?_; refine PC.region ?_; refine PL.op rfl (Rd.asnT rfl) ?_; refine PL.nil ?_; refine thA_n ?_; refine PC.ret ?_; refine thA_r ?_; obtain rfl := some_in hh0; exact FinA.mk (r := iA (-1 : Int)) (bl := []) [] (.inl rfl) rfl (rl := [.tmp 4]) (.tmp .nil) rfl rfl rfl (.t _) trivial ⟨rfl, rfl⟩
  refine PC.cond_false rfl h_3 ?_; refine PC.skip ?_; refine thA_n ?_; (iterate 2 refine PC.seq ?_); refine PC.region ?_; refine PL.op rfl (Rd.asnT rfl) ?_; refine PL.nil ?_; refine thA_n ?_; obtain ⟨o15, h_16, hh0⟩ := bind_some hh0; refine PC.cutE hs (fun x : Int => [(1, iA x)]) (fun x => []) (fun x => m_L_szColumnS_k1 N x = some r) ?_ ?_
  · refine PC.block ?_; refine PC.loop hs (fun x : Nat × (Int × Int) => [(0, sL p_a), (1, iA x.2.1), (5, iA x.2.2)]) (fun x => []) (fun x => loopM (β := Int ⊕ Int) (fun s : Int × Int => m_L_szColumnS_b1 N p_a s.1 s.2) x.1 x.2 = some o15) (fun x => x.1) (N, (n1, (0 : Int))) [] ⟨rfl, rfl, trivial, ⟨.t _, .t _, .t _, trivial⟩⟩ h_16 ?_
    rintro ⟨f17_, left4, i5⟩ h_19
    obtain ⟨f17, y18, rfl, hh1, kk1⟩ := loopM_some h_19
    replace hh1 : m_L_szColumnS_b1 N p_a left4 i5 = some y18 := hh1
    unfold m_L_szColumnS_b1 at hh1; (iterate 2 refine PC.seq ?_); refine PC.region ?_; (iterate 2 refine PL.op rfl (Rd.moveT rfl) ?_); refine PL.op rfl (Rd.lenT rfl) ?_; refine PL.op rfl (Rd.lss rfl rfl) ?_; refine PL.nil ?_; refine thA_n ?_; rcases cond_some hh1 with ⟨h_20, hh1⟩ | ⟨h_20, hh1⟩; rotate_left
    · refine PC.cond_false rfl h_20 ?_; refine PC.exit ?_; (iterate 2 refine thA_e ?_); refine inA_eq rfl ?_; refine thA_n ?_; obtain rfl := some_in hh1; obtain rfl : (.inl left4 : Int ⊕ Int) = o15 := kk1; exact ⟨left4, hh0, [], ⟨rfl, rfl, trivial, ⟨.t _, trivial⟩⟩⟩
    refine PC.cond_true rfl h_20 ?_; refine PC.skip ?_; refine thA_n ?_; refine PC.seq ?_; refine PC.block ?_; refine PC.seq ?_; obtain ⟨x21, h_22, hh1⟩ := bind_some hh1; obtain ⟨r23, h_24, hh1⟩ := bind_some hh1; refine PC.region ?_; (iterate 2 refine PL.op rfl (Rd.moveT rfl) ?_); refine PL.op rfl (Rd.ixM rfl rfl h_22) ?_; refine PL.op rfl (Rd.elMR rfl h_22 rfl rfl) ?_; refine PL.op rfl (Rd.moveT rfl) ?_; refine PL.callM false [] (w_L_szColumn N x21 left4 r23 h_24) rfl Tryz.call71 rfl ⟨.aggL ⟨.t _, .t _, .t _, .t _, trivial⟩, .t _, trivial⟩ rfl trivial (fun h => by cases h) ?_; refine PL.op rfl (Rd.asnT rfl) ?_; refine PL.nil ?_; refine thA_n ?_; refine PC.seq ?_; refine PC.region ?_; refine PL.op rfl (Rd.moveT rfl) ?_; refine PL.op rfl (Rd.lss rfl rfl) ?_; refine PL.nil ?_; refine thA_n ?_; rcases cond_some hh1 with ⟨h_25, hh1⟩ | ⟨h_25, hh1⟩; rotate_left
    · refine PC.cond_false rfl h_25 ?_; refine PC.skip ?_; refine inA_n ?_; refine thA_n ?_; obtain ⟨n26, h_27, hh1⟩ := bind_some hh1; refine PC.region ?_; refine PL.op rfl (Rd.moveT rfl) ?_; refine PL.op rfl (Rd.addM rfl rfl h_27) ?_; refine PL.op rfl (Rd.asnT rfl) ?_; refine PL.nil ?_; obtain rfl := some_in hh1; refine thA_n ?_; exact ⟨(f17, (r23, n26)), Nat.lt_succ_self _, kk1, [], ⟨rfl, rfl, trivial, ⟨.t _, .t _, .t _, trivial⟩⟩⟩
    refine PC.cond_true rfl h_25 ?_; refine PC.seq ?_; refine PC.region ?_; refine PL.op rfl (Rd.asnT rfl) ?_; refine PL.nil ?_; refine thA_n ?_; refine PC.ret ?_; refine inA_r ?_; (iterate 2 refine thA_r ?_); refine inA_r ?_; refine thA_r ?_; obtain rfl := some_in hh1; obtain rfl : (.inr (-1 : Int) : Int ⊕ Int) = o15 := kk1; refine thA_r ?_; obtain rfl := some_in hh0; exact FinA.mk (r := iA (-1 : Int)) (bl := []) [] (.inl rfl) rfl (rl := [.tmp 4]) (.tmp .nil) rfl rfl rfl (.t _) trivial ⟨rfl, rfl⟩
  clear hh0
  rintro left14 hh0
  replace hh0 : m_L_szColumnS_k1 N left14 = some r := hh0
  unfold m_L_szColumnS_k1 at hh0; refine thA_n ?_; refine PC.seq ?_; refine PC.region ?_; refine PL.op rfl (Rd.moveT rfl) ?_; refine PL.op rfl (Rd.asnT rfl) ?_; refine PL.nil ?_; refine thA_n ?_; refine PC.ret ?_; obtain rfl := some_in hh0; exact FinA.mk (r := iA left14) (bl := []) [] (.inl rfl) rfl (rl := [.tmp 4]) (.tmp .nil) rfl rfl rfl (.t _) trivial ⟨rfl, rfl⟩
def m_L_szChange (N : Nat) (p_a : L_Change) (p_left : Int) : Option (Int) :=
  (m_L_szColumn N p_a.column p_left).bind fun r1 =>
  cond (decide (r1 < (0 : Int)))
    (some (-1 : Int))
    (some r1)
theorem w_L_szChange (N : Nat) (p_a : L_Change) (p_left : Int) (r : Int) (hh0 : m_L_szChange N p_a p_left = some r) : FnX Tryz.prog 72 [] [.agg [iA p_a.kind, iA p_a.at_, iA p_a.column.kind, iA p_a.column.default.kind, iA p_a.column.default.num, sA p_a.column.default.text], iA p_left] (RE (iA r) []) := by
  unfold m_L_szChange at hh0; refine FnX.mk Tryz.func72 rfl rfl ?_; intro s hs; refine PC.seq ?_; refine PC.region ?_; refine PL.ef rfl (Ef.box rfl rfl rfl) ?_; refine PL.nm (.op 0 0) [some ⟨.mx [iA p_a.kind, iA p_a.at_, iA p_a.column.kind, iA p_a.column.default.kind, iA p_a.column.default.num, sA p_a.column.default.text], 112, 0⟩] rfl rfl ?_; refine PL.op rfl (Rd.asnT rfl) ?_; refine PL.nil ?_; refine thA_n ?_; refine PC.seq ?_; obtain ⟨r1, h_2, hh0⟩ := bind_some hh0; refine PC.region ?_; refine PL.op rfl (Rd.fieldO rfl rfl) ?_; refine PL.op rfl (Rd.loadSub rfl rfl rfl rfl) ?_; refine PL.op rfl (Rd.moveT rfl) ?_; refine PL.callM false [] (w_L_szColumn N p_a.column p_left r1 h_2) rfl Tryz.call71 rfl ⟨.aggL ⟨.t _, .t _, .t _, .t _, trivial⟩, .t _, trivial⟩ rfl trivial (fun h => by cases h) ?_; refine PL.op rfl (Rd.asnT rfl) ?_; refine PL.nil ?_; refine thA_n ?_; (iterate 2 refine PC.seq ?_); refine PC.region ?_; refine PL.op rfl (Rd.moveT rfl) ?_; refine PL.op rfl (Rd.lss rfl rfl) ?_; refine PL.nil ?_; refine thA_n ?_; rcases cond_some hh0 with ⟨h_3, hh0⟩ | ⟨h_3, hh0⟩
  · refine PC.cond_true rfl h_3 ?_; refine PC.seq ?_; refine PC.region ?_; refine PL.op rfl (Rd.asnT rfl) ?_; refine PL.nil ?_; refine thA_n ?_; refine PC.ret ?_; refine thA_r ?_; obtain rfl := some_in hh0; exact FinA.mk (r := iA (-1 : Int)) (bl := []) [] (.inl rfl) rfl (rl := [.tmp 4]) (.tmp .nil) rfl rfl rfl (.t _) trivial ⟨rfl, rfl⟩
  refine PC.cond_false rfl h_3 ?_; refine PC.skip ?_; refine thA_n ?_; refine PC.seq ?_; refine PC.region ?_; refine PL.op rfl (Rd.moveT rfl) ?_; refine PL.op rfl (Rd.asnT rfl) ?_; refine PL.nil ?_; refine thA_n ?_; refine PC.ret ?_; obtain rfl := some_in hh0; exact FinA.mk (r := iA r1) (bl := []) [] (.inl rfl) rfl (rl := [.tmp 4]) (.tmp .nil) rfl rfl rfl (.t _) trivial ⟨rfl, rfl⟩
def m_L_szChangeS_k1 (N : Nat) (left14 : Int) : Option (Int) :=
  some left14
def m_L_szChangeS_b1 (N : Nat) (p_a : (List L_Change)) (left4 : Int) (i5 : Int) : Option ((Int × Int) ⊕ (Int ⊕ Int)) :=
  cond (decide (i5 < (p_a.length : Int)))
    ((ixI p_a i5).bind fun x21 =>
    (m_L_szChange N x21 left4).bind fun r23 =>
    cond (decide (r23 < (0 : Int)))
      (some (.inr (.inr (-1 : Int))))
      ((chk (i5 + (1 : Int))).bind fun n26 =>
      some (.inl (r23, n26))))
    (some (.inr (.inl left4)))
def m_L_szChangeS (N : Nat) (p_a : (List L_Change)) (p_left : Int) : Option (Int) :=
  (chk (p_left - (p_a.length : Int))).bind fun n1 =>
  cond (decide (n1 < (0 : Int)))
    (some (-1 : Int))
    ((loopM (β := Int ⊕ Int) (fun s : Int × Int => m_L_szChangeS_b1 N p_a s.1 s.2) N (n1, (0 : Int))).bind fun o => match o with
    | .inl e =>
      m_L_szChangeS_k1 N e
    | .inr v =>
      some v)
theorem w_L_szChangeS (N : Nat) (p_a : (List L_Change)) (p_left : Int) (r : Int) (hh0 : m_L_szChangeS N p_a p_left = some r) : FnX Tryz.prog 32 [] [sL p_a, iA p_left] (RE (iA r) []) := by
  unfold m_L_szChangeS at hh0; refine FnX.mk Tryz.func32 rfl rfl ?_; intro s hs; refine PC.seq ?_; refine PC.region ?_; refine PL.op rfl (Rd.asnT rfl) ?_; refine PL.nil ?_; refine thA_n ?_; refine PC.seq ?_; obtain ⟨n1, h_2, hh0⟩ := bind_some hh0; refine PC.region ?_; (iterate 2 refine PL.op rfl (Rd.moveT rfl) ?_); refine PL.op rfl (Rd.lenT rfl) ?_; refine PL.op rfl (Rd.subM rfl rfl h_2) ?_; refine PL.op rfl (Rd.asnT rfl) ?_; refine PL.nil ?_; refine thA_n ?_; (iterate 2 refine PC.seq ?_); refine PC.region ?_; refine PL.op rfl (Rd.moveT rfl) ?_; refine PL.op rfl (Rd.lss rfl rfl) ?_; refine PL.nil ?_; refine thA_n ?_; rcases cond_some hh0 with ⟨h_3, hh0⟩ | ⟨h_3, hh0⟩
  · refine PC.cond_true rfl h_3 ?_; refine PC.seq ?_; refine PC.region ?_; refine PL.op rfl (Rd.asnT rfl) ?_; refine PL.nil ?_; refine thA_n ?_; refine PC.ret ?_; refine thA_r ?_; obtain rfl := some_in hh0; exact FinA.mk (r := iA (-1 : Int)) (bl := []) [] (.inl rfl) rfl (rl := [.tmp 4]) (.tmp .nil) rfl rfl rfl (.t _) trivial ⟨rfl, rfl⟩
  refine PC.cond_false rfl h_3 ?_; refine PC.skip ?_; refine thA_n ?_; (iterate 2 refine PC.seq ?_); refine PC.region ?_; refine PL.op rfl (Rd.asnT rfl) ?_; refine PL.nil ?_; refine thA_n ?_; obtain ⟨o15, h_16, hh0⟩ := bind_some hh0; refine PC.cutE hs (fun x : Int => [(1, iA x)]) (fun x => []) (fun x => m_L_szChangeS_k1 N x = some r) ?_ ?_
  · refine PC.block ?_; refine PC.loop hs (fun x : Nat × (Int × Int) => [(0, sL p_a), (1, iA x.2.1), (5, iA x.2.2)]) (fun x => []) (fun x => loopM (β := Int ⊕ Int) (fun s : Int × Int => m_L_szChangeS_b1 N p_a s.1 s.2) x.1 x.2 = some o15) (fun x => x.1) (N, (n1, (0 : Int))) [] ⟨rfl, rfl, trivial, ⟨.t _, .t _, .t _, trivial⟩⟩ h_16 ?_
    rintro ⟨f17_, left4, i5⟩ h_19
    obtain ⟨f17, y18, rfl, hh1, kk1⟩ := loopM_some h_19
    replace hh1 : m_L_szChangeS_b1 N p_a left4 i5 = some y18 := hh1
    unfold m_L_szChangeS_b1 at hh1; (iterate 2 refine PC.seq ?_); refine PC.region ?_; (iterate 2 refine PL.op rfl (Rd.moveT rfl) ?_); refine PL.op rfl (Rd.lenT rfl) ?_; refine PL.op rfl (Rd.lss rfl rfl) ?_; refine PL.nil ?_; refine thA_n ?_; rcases cond_some hh1 with ⟨h_20, hh1⟩ | ⟨h_20, hh1⟩; rotate_left
    · refine PC.cond_false rfl h_20 ?_; refine PC.exit ?_; (iterate 2 refine thA_e ?_); refine inA_eq rfl ?_; refine thA_n ?_; obtain rfl := some_in hh1; obtain rfl : (.inl left4 : Int ⊕ Int) = o15 := kk1; exact ⟨left4, hh0, [], ⟨rfl, rfl, trivial, ⟨.t _, trivial⟩⟩⟩
    refine PC.cond_true rfl h_20 ?_; refine PC.skip ?_; refine thA_n ?_; refine PC.seq ?_; refine PC.block ?_; refine PC.seq ?_; obtain ⟨x21, h_22, hh1⟩ := bind_some hh1; obtain ⟨r23, h_24, hh1⟩ := bind_some hh1; refine PC.region ?_; (iterate 2 refine PL.op rfl (Rd.moveT rfl) ?_); refine PL.op rfl (Rd.ixM rfl rfl h_22) ?_; refine PL.op rfl (Rd.elMR rfl h_22 rfl rfl) ?_; refine PL.op rfl (Rd.moveT rfl) ?_; refine PL.callM false [] (w_L_szChange N x21 left4 r23 h_24) rfl Tryz.call72 rfl ⟨.aggL ⟨.t _, .t _, .t _, .t _, .t _, .t _, trivial⟩, .t _, trivial⟩ rfl trivial (fun h => by cases h) ?_; refine PL.op rfl (Rd.asnT rfl) ?_; refine PL.nil ?_; refine thA_n ?_; refine PC.seq ?_; refine PC.region ?_; refine PL.op rfl (Rd.moveT rfl) ?_; refine PL.op rfl (Rd.lss rfl rfl) ?_; refine PL.nil ?_; refine thA_n ?_; rcases cond_some hh1 with ⟨h_25, hh1⟩ | ⟨h_25, hh1⟩; rotate_left
    · refine PC.cond_false rfl h_25 ?_; refine PC.skip ?_; refine inA_n ?_; refine thA_n ?_; obtain ⟨n26, h_27, hh1⟩ := bind_some hh1; refine PC.region ?_; refine PL.op rfl (Rd.moveT rfl) ?_; refine PL.op rfl (Rd.addM rfl rfl h_27) ?_; refine PL.op rfl (Rd.asnT rfl) ?_; refine PL.nil ?_; obtain rfl := some_in hh1; refine thA_n ?_; exact ⟨(f17, (r23, n26)), Nat.lt_succ_self _, kk1, [], ⟨rfl, rfl, trivial, ⟨.t _, .t _, .t _, trivial⟩⟩⟩
    refine PC.cond_true rfl h_25 ?_; refine PC.seq ?_; refine PC.region ?_; refine PL.op rfl (Rd.asnT rfl) ?_; refine PL.nil ?_; refine thA_n ?_; refine PC.ret ?_; refine inA_r ?_; (iterate 2 refine thA_r ?_); refine inA_r ?_; refine thA_r ?_; obtain rfl := some_in hh1; obtain rfl : (.inr (-1 : Int) : Int ⊕ Int) = o15 := kk1; refine thA_r ?_; obtain rfl := some_in hh0; exact FinA.mk (r := iA (-1 : Int)) (bl := []) [] (.inl rfl) rfl (rl := [.tmp 4]) (.tmp .nil) rfl rfl rfl (.t _) trivial ⟨rfl, rfl⟩
  clear hh0
  rintro left14 hh0
  replace hh0 : m_L_szChangeS_k1 N left14 = some r := hh0
  unfold m_L_szChangeS_k1 at hh0; refine thA_n ?_; refine PC.seq ?_; refine PC.region ?_; refine PL.op rfl (Rd.moveT rfl) ?_; refine PL.op rfl (Rd.asnT rfl) ?_; refine PL.nil ?_; refine thA_n ?_; refine PC.ret ?_; obtain rfl := some_in hh0; exact FinA.mk (r := iA left14) (bl := []) [] (.inl rfl) rfl (rl := [.tmp 4]) (.tmp .nil) rfl rfl rfl (.t _) trivial ⟨rfl, rfl⟩
def m_L_szValueS_k1 (N : Nat) (left14 : Int) : Option (Int) :=
  some left14
def m_L_szValueS_b1 (N : Nat) (p_a : (List L_Value)) (left4 : Int) (i5 : Int) : Option ((Int × Int) ⊕ (Int ⊕ Int)) :=
  cond (decide (i5 < (p_a.length : Int)))
    ((ixI p_a i5).bind fun x21 =>
    (m_L_szValue N x21 left4).bind fun r23 =>
    cond (decide (r23 < (0 : Int)))
      (some (.inr (.inr (-1 : Int))))
      ((chk (i5 + (1 : Int))).bind fun n26 =>
      some (.inl (r23, n26))))
    (some (.inr (.inl left4)))
def m_L_szValueS (N : Nat) (p_a : (List L_Value)) (p_left : Int) : Option (Int) :=
  (chk (p_left - (p_a.length : Int))).bind fun n1 =>
  cond (decide (n1 < (0 : Int)))
    (some (-1 : Int))
    ((loopM (β := Int ⊕ Int) (fun s : Int × Int => m_L_szValueS_b1 N p_a s.1 s.2) N (n1, (0 : Int))).bind fun o => match o with
    | .inl e =>
      m_L_szValueS_k1 N e
    | .inr v =>
      some v)
theorem w_L_szValueS (N : Nat) (p_a : (List L_Value)) (p_left : Int) (r : Int) (hh0 : m_L_szValueS N p_a p_left = some r) : FnX Tryz.prog 107 [] [sL p_a, iA p_left] (RE (iA r) []) := by
  unfold m_L_szValueS at hh0; refine FnX.mk Tryz.func107 rfl rfl ?_; intro s hs; refine PC.seq ?_; refine PC.region ?_; refine PL.op rfl (Rd.asnT rfl) ?_; refine PL.nil ?_; refine thA_n ?_; refine PC.seq ?_; obtain ⟨n1, h_2, hh0⟩ := bind_some hh0; refine PC.region ?_; (iterate 2 refine PL.op rfl (Rd.moveT rfl) ?_); refine PL.op rfl (Rd.lenT rfl) ?_; refine PL.op rfl (Rd.subM rfl rfl h_2) ?_; refine PL.op rfl (Rd.asnT rfl) ?_; refine PL.nil ?_; refine thA_n ?_; (iterate 2 refine PC.seq ?_); refine PC.region ?_; refine PL.op rfl (Rd.moveT rfl) ?_; refine PL.op rfl (Rd.lss rfl rfl) ?_; refine PL.nil ?_; refine thA_n ?_; rcases cond_some hh0 with ⟨h_3, hh0⟩ | ⟨h_3, hh0⟩
  · refine PC.cond_true rfl h_3 ?_; refine PC.seq ?_; refine PC.region ?_; refine PL.op rfl (Rd.asnT rfl) ?_; refine PL.nil ?_; refine thA_n ?_; refine PC.ret ?_; refine thA_r ?_; obtain rfl := some_in hh0; exact FinA.mk (r := iA (-1 : Int)) (bl := []) [] (.inl rfl) rfl (rl := [.tmp 4]) (.tmp .nil) rfl rfl rfl (.t _) trivial ⟨rfl, rfl⟩
  refine PC.cond_false rfl h_3 ?_; refine PC.skip ?_; refine thA_n ?_; (iterate 2 refine PC.seq ?_); refine PC.region ?_; refine PL.op rfl (Rd.asnT rfl) ?_; refine PL.nil ?_; refine thA_n ?_; obtain ⟨o15, h_16, hh0⟩ := bind_some hh0; refine PC.cutE hs (fun x : Int => [(1, iA x)]) (fun x => []) (fun x => m_L_szValueS_k1 N x = some r) ?_ ?_
  · refine PC.block ?_; refine PC.loop hs (fun x : Nat × (Int × Int) => [(0, sL p_a), (1, iA x.2.1), (5, iA x.2.2)]) (fun x => []) (fun x => loopM (β := Int ⊕ Int) (fun s : Int × Int => m_L_szValueS_b1 N p_a s.1 s.2) x.1 x.2 = some o15) (fun x => x.1) (N, (n1, (0 : Int))) [] ⟨rfl, rfl, trivial, ⟨.t _, .t _, .t _, trivial⟩⟩ h_16 ?_
    rintro ⟨f17_, left4, i5⟩ h_19
    obtain ⟨f17, y18, rfl, hh1, kk1⟩ := loopM_some h_19
    replace hh1 : m_L_szValueS_b1 N p_a left4 i5 = some y18 := hh1
    unfold m_L_szValueS_b1 at hh1; (iterate 2 refine PC.seq ?_); refine PC.region ?_; (iterate 2 refine PL.op rfl (Rd.moveT rfl) ?_); refine PL.op rfl (Rd.lenT rfl) ?_; refine PL.op rfl (Rd.lss rfl rfl) ?_; refine PL.nil ?_; refine thA_n ?_; rcases cond_some hh1 with ⟨h_20, hh1⟩ | ⟨h_20, hh1⟩; rotate_left
    · refine PC.cond_false rfl h_20 ?_; refine PC.exit ?_; (iterate 2 refine thA_e ?_); refine inA_eq rfl ?_; refine thA_n ?_; obtain rfl := some_in hh1; obtain rfl : (.inl left4 : Int ⊕ Int) = o15 := kk1; exact ⟨left4, hh0, [], ⟨rfl, rfl, trivial, ⟨.t _, trivial⟩⟩⟩
    refine PC.cond_true rfl h_20 ?_; refine PC.skip ?_; refine thA_n ?_; refine PC.seq ?_; refine PC.block ?_; refine PC.seq ?_; obtain ⟨x21, h_22, hh1⟩ := bind_some hh1; obtain ⟨r23, h_24, hh1⟩ := bind_some hh1; refine PC.region ?_; (iterate 2 refine PL.op rfl (Rd.moveT rfl) ?_); refine PL.op rfl (Rd.ixM rfl rfl h_22) ?_; refine PL.op rfl (Rd.elMR rfl h_22 rfl rfl) ?_; refine PL.op rfl (Rd.moveT rfl) ?_; refine PL.callM false [] (w_L_szValue N x21 left4 r23 h_24) rfl Tryz.call8 rfl ⟨.aggL ⟨.t _, .t _, .t _, trivial⟩, .t _, trivial⟩ rfl trivial (fun h => by cases h) ?_; refine PL.op rfl (Rd.asnT rfl) ?_; refine PL.nil ?_; refine thA_n ?_; refine PC.seq ?_; refine PC.region ?_; refine PL.op rfl (Rd.moveT rfl) ?_; refine PL.op rfl (Rd.lss rfl rfl) ?_; refine PL.nil ?_; refine thA_n ?_; rcases cond_some hh1 with ⟨h_25, hh1⟩ | ⟨h_25, hh1⟩; rotate_left
    · refine PC.cond_false rfl h_25 ?_; refine PC.skip ?_; refine inA_n ?_; refine thA_n ?_; obtain ⟨n26, h_27, hh1⟩ := bind_some hh1; refine PC.region ?_; refine PL.op rfl (Rd.moveT rfl) ?_; refine PL.op rfl (Rd.addM rfl rfl h_27) ?_; refine PL.op rfl (Rd.asnT rfl) ?_; refine PL.nil ?_; obtain rfl := some_in hh1; refine thA_n ?_; exact ⟨(f17, (r23, n26)), Nat.lt_succ_self _, kk1, [], ⟨rfl, rfl, trivial, ⟨.t _, .t _, .t _, trivial⟩⟩⟩
    refine PC.cond_true rfl h_25 ?_; refine PC.seq ?_; refine PC.region ?_; refine PL.op rfl (Rd.asnT rfl) ?_; refine PL.nil ?_; refine thA_n ?_; refine PC.ret ?_; refine inA_r ?_; (iterate 2 refine thA_r ?_); refine inA_r ?_; refine thA_r ?_; obtain rfl := some_in hh1; obtain rfl : (.inr (-1 : Int) : Int ⊕ Int) = o15 := kk1; refine thA_r ?_; obtain rfl := some_in hh0; exact FinA.mk (r := iA (-1 : Int)) (bl := []) [] (.inl rfl) rfl (rl := [.tmp 4]) (.tmp .nil) rfl rfl rfl (.t _) trivial ⟨rfl, rfl⟩
  clear hh0
  rintro left14 hh0
  replace hh0 : m_L_szValueS_k1 N left14 = some r := hh0
  unfold m_L_szValueS_k1 at hh0; refine thA_n ?_; refine PC.seq ?_; refine PC.region ?_; refine PL.op rfl (Rd.moveT rfl) ?_; refine PL.op rfl (Rd.asnT rfl) ?_; refine PL.nil ?_; refine thA_n ?_; refine PC.ret ?_; obtain rfl := some_in hh0; exact FinA.mk (r := iA left14) (bl := []) [] (.inl rfl) rfl (rl := [.tmp 4]) (.tmp .nil) rfl rfl rfl (.t _) trivial ⟨rfl, rfl⟩
def m_L_szTagged (N : Nat) (p_a : L_Tagged) (p_left : Int) : Option (Int) :=
  (m_L_szValueS N p_a.row p_left).bind fun r1 =>
  cond (decide (r1 < (0 : Int)))
    (some (-1 : Int))
    (some r1)
theorem w_L_szTagged (N : Nat) (p_a : L_Tagged) (p_left : Int) (r : Int) (hh0 : m_L_szTagged N p_a p_left = some r) : FnX Tryz.prog 73 [] [.agg [iA p_a.tag, sL p_a.row], iA p_left] (RE (iA r) []) := by
  unfold m_L_szTagged at hh0; refine FnX.mk Tryz.func73 rfl rfl ?_; intro s hs; refine PC.seq ?_; refine PC.region ?_; refine PL.ef rfl (Ef.box rfl rfl rfl) ?_; refine PL.nm (.op 0 0) [some ⟨.mx [iA p_a.tag, sL p_a.row], 116, 0⟩] rfl rfl ?_; refine PL.op rfl (Rd.asnT rfl) ?_; refine PL.nil ?_; refine thA_n ?_; refine PC.seq ?_; obtain ⟨r1, h_2, hh0⟩ := bind_some hh0; refine PC.region ?_; refine PL.op rfl (Rd.fieldO rfl rfl) ?_; refine PL.op rfl (Rd.loadO rfl rfl rfl) ?_; refine PL.op rfl (Rd.moveT rfl) ?_; refine PL.callM false [] (w_L_szValueS N p_a.row p_left r1 h_2) rfl Tryz.call107 rfl ⟨.t _, .t _, trivial⟩ rfl trivial (fun h => by cases h) ?_; refine PL.op rfl (Rd.asnT rfl) ?_; refine PL.nil ?_; refine thA_n ?_; (iterate 2 refine PC.seq ?_); refine PC.region ?_; refine PL.op rfl (Rd.moveT rfl) ?_; refine PL.op rfl (Rd.lss rfl rfl) ?_; refine PL.nil ?_; refine thA_n ?_; rcases cond_some hh0 with ⟨h_3, hh0⟩ | ⟨h_3, hh0⟩
  · refine PC.cond_true rfl h_3 ?_; refine PC.seq ?_; refine PC.region ?_; refine PL.op rfl (Rd.asnT rfl) ?_; refine PL.nil ?_; refine thA_n ?_; refine PC.ret ?_; refine thA_r ?_; obtain rfl := some_in hh0; exact FinA.mk (r := iA (-1 : Int)) (bl := []) [] (.inl rfl) rfl (rl := [.tmp 4]) (.tmp .nil) rfl rfl rfl (.t _) trivial ⟨rfl, rfl⟩
  refine PC.cond_false rfl h_3 ?_; refine PC.skip ?_; refine thA_n ?_; refine PC.seq ?_; refine PC.region ?_; refine PL.op rfl (Rd.moveT rfl) ?_; refine PL.op rfl (Rd.asnT rfl) ?_; refine PL.nil ?_; refine thA_n ?_; refine PC.ret ?_; obtain rfl := some_in hh0; exact FinA.mk (r := iA r1) (bl := []) [] (.inl rfl) rfl (rl := [.tmp 4]) (.tmp .nil) rfl rfl rfl (.t _) trivial ⟨rfl, rfl⟩
def m_L_szTaggedS_k1 (N : Nat) (left14 : Int) : Option (Int) :=
  some left14
def m_L_szTaggedS_b1 (N : Nat) (p_a : (List L_Tagged)) (left4 : Int) (i5 : Int) : Option ((Int × Int) ⊕ (Int ⊕ Int)) :=
  cond (decide (i5 < (p_a.length : Int)))
    ((ixI p_a i5).bind fun x21 =>
    (m_L_szTagged N x21 left4).bind fun r23 =>
    cond (decide (r23 < (0 : Int)))
      (some (.inr (.inr (-1 : Int))))
      ((chk (i5 + (1 : Int))).bind fun n26 =>
      some (.inl (r23, n26))))
    (some (.inr (.inl left4)))
def m_L_szTaggedS (N : Nat) (p_a : (List L_Tagged)) (p_left : Int) : Option (Int) :=
  (chk (p_left - (p_a.length : Int))).bind fun n1 =>
  cond (decide (n1 < (0 : Int)))
    (some (-1 : Int))
    ((loopM (β := Int ⊕ Int) (fun s : Int × Int => m_L_szTaggedS_b1 N p_a s.1 s.2) N (n1, (0 : Int))).bind fun o => match o with
    | .inl e =>
      m_L_szTaggedS_k1 N e
    | .inr v =>
      some v)
theorem w_L_szTaggedS (N : Nat) (p_a : (List L_Tagged)) (p_left : Int) (r : Int) (hh0 : m_L_szTaggedS N p_a p_left = some r) : FnX Tryz.prog 33 [] [sL p_a, iA p_left] (RE (iA r) []) := by
  unfold m_L_szTaggedS at hh0; refine FnX.mk Tryz.func33 rfl rfl ?_; intro s hs; refine PC.seq ?_; refine PC.region ?_; refine PL.op rfl (Rd.asnT rfl) ?_; refine PL.nil ?_; refine thA_n ?_; refine PC.seq ?_; obtain ⟨n1, h_2, hh0⟩ := bind_some hh0; refine PC.region ?_; (iterate 2 refine PL.op rfl (Rd.moveT rfl) ?_); refine PL.op rfl (Rd.lenT rfl) ?_; refine PL.op rfl (Rd.subM rfl rfl h_2) ?_; refine PL.op rfl (Rd.asnT rfl) ?_; refine PL.nil ?_; refine thA_n ?_; (iterate 2 refine PC.seq ?_); refine PC.region ?_; refine PL.op rfl (Rd.moveT rfl) ?_; refine PL.op rfl (Rd.lss rfl rfl) ?_; refine PL.nil ?_; refine thA_n ?_; rcases cond_some hh0 with ⟨h_3, hh0⟩ | ⟨h_3, hh0⟩
  · refine PC.cond_true rfl h_3 ?_; refine PC.seq ?_; refine PC.region ?_; refine PL.op rfl (Rd.asnT rfl) ?_; refine PL.nil ?_; refine thA_n ?_; refine PC.ret ?_; refine thA_r ?_; obtain rfl := some_in hh0; exact FinA.mk (r := iA (-1 : Int)) (bl := []) [] (.inl rfl) rfl (rl := [.tmp 4]) (.tmp .nil) rfl rfl rfl (.t _) trivial ⟨rfl, rfl⟩
  refine PC.cond_false rfl h_3 ?_; refine PC.skip ?_; refine thA_n ?_; (iterate 2 refine PC.seq ?_); refine PC.region ?_; refine PL.op rfl (Rd.asnT rfl) ?_; refine PL.nil ?_; refine thA_n ?_; obtain ⟨o15, h_16, hh0⟩ := bind_some hh0; refine PC.cutE hs (fun x : Int => [(1, iA x)]) (fun x => []) (fun x => m_L_szTaggedS_k1 N x = some r) ?_ ?_
  · refine PC.block ?_; refine PC.loop hs (fun x : Nat × (Int × Int) => [(0, sL p_a), (1, iA x.2.1), (5, iA x.2.2)]) (fun x => []) (fun x => loopM (β := Int ⊕ Int) (fun s : Int × Int => m_L_szTaggedS_b1 N p_a s.1 s.2) x.1 x.2 = some o15) (fun x => x.1) (N, (n1, (0 : Int))) [] ⟨rfl, rfl, trivial, ⟨.t _, .t _, .t _, trivial⟩⟩ h_16 ?_
    rintro ⟨f17_, left4, i5⟩ h_19
    obtain ⟨f17, y18, rfl, hh1, kk1⟩ := loopM_some h_19
    replace hh1 : m_L_szTaggedS_b1 N p_a left4 i5 = some y18 := hh1
    unfold m_L_szTaggedS_b1 at hh1; (iterate 2 refine PC.seq ?_); refine PC.region ?_; (iterate 2 refine PL.op rfl (Rd.moveT rfl) ?_); refine PL.op rfl (Rd.lenT rfl) ?_; refine PL.op rfl (Rd.lss rfl rfl) ?_; refine PL.nil ?_; refine thA_n ?_; rcases cond_some hh1 with ⟨h_20, hh1⟩ | ⟨h_20, hh1⟩; rotate_left
    · refine PC.cond_false rfl h_20 ?_; refine PC.exit ?_; (iterate 2 refine thA_e ?_); refine inA_eq rfl ?_; refine thA_n ?_; obtain rfl := some_in hh1; obtain rfl : (.inl left4 : Int ⊕ Int) = o15 := kk1; exact ⟨left4, hh0, [], ⟨rfl, rfl, trivial, ⟨.t _, trivial⟩⟩⟩
    refine PC.cond_true rfl h_20 ?_; refine PC.skip ?_; refine thA_n ?_; refine PC.seq ?_; refine PC.block ?_; refine PC.seq ?_; obtain ⟨x21, h_22, hh1⟩ := bind_some hh1; obtain ⟨r23, h_24, hh1⟩ := bind_some hh1; refine PC.region ?_; (iterate 2 refine PL.op rfl (Rd.moveT rfl) ?_); refine PL.op rfl (Rd.ixM rfl rfl h_22) ?_; refine PL.op rfl (Rd.elMR rfl h_22 rfl rfl) ?_; refine PL.op rfl (Rd.moveT rfl) ?_; refine PL.callM false [] (w_L_szTagged N x21 left4 r23 h_24) rfl Tryz.call73 rfl ⟨.aggL ⟨.t _, .t _, trivial⟩, .t _, trivial⟩ rfl trivial (fun h => by cases h) ?_; refine PL.op rfl (Rd.asnT rfl) ?_; refine PL.nil ?_; refine thA_n ?_; refine PC.seq ?_; refine PC.region ?_; refine PL.op rfl (Rd.moveT rfl) ?_; refine PL.op rfl (Rd.lss rfl rfl) ?_; refine PL.nil ?_; refine thA_n ?_; rcases cond_some hh1 with ⟨h_25, hh1⟩ | ⟨h_25, hh1⟩; rotate_left
    · refine PC.cond_false rfl h_25 ?_; refine PC.skip ?_; refine inA_n ?_; refine thA_n ?_; obtain ⟨n26, h_27, hh1⟩ := bind_some hh1; refine PC.region ?_; refine PL.op rfl (Rd.moveT rfl) ?_; refine PL.op rfl (Rd.addM rfl rfl h_27) ?_; refine PL.op rfl (Rd.asnT rfl) ?_; refine PL.nil ?_; obtain rfl := some_in hh1; refine thA_n ?_; exact ⟨(f17, (r23, n26)), Nat.lt_succ_self _, kk1, [], ⟨rfl, rfl, trivial, ⟨.t _, .t _, .t _, trivial⟩⟩⟩
    refine PC.cond_true rfl h_25 ?_; refine PC.seq ?_; refine PC.region ?_; refine PL.op rfl (Rd.asnT rfl) ?_; refine PL.nil ?_; refine thA_n ?_; refine PC.ret ?_; refine inA_r ?_; (iterate 2 refine thA_r ?_); refine inA_r ?_; refine thA_r ?_; obtain rfl := some_in hh1; obtain rfl : (.inr (-1 : Int) : Int ⊕ Int) = o15 := kk1; refine thA_r ?_; obtain rfl := some_in hh0; exact FinA.mk (r := iA (-1 : Int)) (bl := []) [] (.inl rfl) rfl (rl := [.tmp 4]) (.tmp .nil) rfl rfl rfl (.t _) trivial ⟨rfl, rfl⟩
  clear hh0
  rintro left14 hh0
  replace hh0 : m_L_szTaggedS_k1 N left14 = some r := hh0
  unfold m_L_szTaggedS_k1 at hh0; refine thA_n ?_; refine PC.seq ?_; refine PC.region ?_; refine PL.op rfl (Rd.moveT rfl) ?_; refine PL.op rfl (Rd.asnT rfl) ?_; refine PL.nil ?_; refine thA_n ?_; refine PC.ret ?_; obtain rfl := some_in hh0; exact FinA.mk (r := iA left14) (bl := []) [] (.inl rfl) rfl (rl := [.tmp 4]) (.tmp .nil) rfl rfl rfl (.t _) trivial ⟨rfl, rfl⟩
def m_L_szTable (N : Nat) (p_a : L_Table) (p_left : Int) : Option (Int) :=
  (m_L_szColumnS N p_a.first p_left).bind fun r1 =>
  cond (decide (r1 < (0 : Int)))
    (some (-1 : Int))
    ((m_L_szChangeS N p_a.changes r1).bind fun r4 =>
    cond (decide (r4 < (0 : Int)))
      (some (-1 : Int))
      ((m_L_szTaggedS N p_a.rows r4).bind fun r7 =>
      cond (decide (r7 < (0 : Int)))
        (some (-1 : Int))
        (some r7)))
theorem w_L_szTable (N : Nat) (p_a : L_Table) (p_left : Int) (r : Int) (hh0 : m_L_szTable N p_a p_left = some r) : FnX Tryz.prog 7 [] [.agg [sL p_a.first, sL p_a.changes, sL p_a.rows], iA p_left] (RE (iA r) []) := by
  unfold m_L_szTable at hh0; refine FnX.mk Tryz.func7 rfl rfl ?_; intro s hs; refine PC.seq ?_; refine PC.region ?_; refine PL.ef rfl (Ef.box rfl rfl rfl) ?_; refine PL.nm (.op 0 0) [some ⟨.mx [sL p_a.first, sL p_a.changes, sL p_a.rows], 26, 0⟩] rfl rfl ?_; refine PL.op rfl (Rd.asnT rfl) ?_; refine PL.nil ?_; refine thA_n ?_; refine PC.seq ?_; obtain ⟨r1, h_2, hh0⟩ := bind_some hh0; refine PC.region ?_; refine PL.op rfl (Rd.fieldO rfl rfl) ?_; refine PL.op rfl (Rd.loadO rfl rfl rfl) ?_; refine PL.op rfl (Rd.moveT rfl) ?_; refine PL.callM false [] (w_L_szColumnS N p_a.first p_left r1 h_2) rfl Tryz.call31 rfl ⟨.t _, .t _, trivial⟩ rfl trivial (fun h => by cases h) ?_; refine PL.op rfl (Rd.asnT rfl) ?_; refine PL.nil ?_; refine thA_n ?_; (iterate 2 refine PC.seq ?_); refine PC.region ?_; refine PL.op rfl (Rd.moveT rfl) ?_; refine PL.op rfl (Rd.lss rfl rfl) ?_; refine PL.nil ?_; refine thA_n ?_; rcases cond_some hh0 with ⟨h_3, hh0⟩ | ⟨h_3, hh0⟩
  · refine PC.cond_true rfl h_3 ?_; refine PC.seq ?_; refine PC.region ?_; refine PL.op rfl (Rd.asnT rfl) ?_; refine PL.nil ?_; refine thA_n ?_; refine PC.ret ?_; refine thA_r ?_; obtain rfl := some_in hh0; exact FinA.mk (r := iA (-1 : Int)) (bl := []) [] (.inl rfl) rfl (rl := [.tmp 4]) (.tmp .nil) rfl rfl rfl (.t _) trivial ⟨rfl, rfl⟩
  refine PC.cond_false rfl h_3 ?_; refine PC.skip ?_; refine thA_n ?_; refine PC.seq ?_; obtain ⟨r4, h_5, hh0⟩ := bind_some hh0; refine PC.region ?_; refine PL.op rfl (Rd.fieldO rfl rfl) ?_; refine PL.op rfl (Rd.loadO rfl rfl rfl) ?_; refine PL.op rfl (Rd.moveT rfl) ?_; refine PL.callM false [] (w_L_szChangeS N p_a.changes r1 r4 h_5) rfl Tryz.call32 rfl ⟨.t _, .t _, trivial⟩ rfl trivial (fun h => by cases h) ?_; refine PL.op rfl (Rd.asnT rfl) ?_; refine PL.nil ?_; refine thA_n ?_; (iterate 2 refine PC.seq ?_); refine PC.region ?_; refine PL.op rfl (Rd.moveT rfl) ?_; refine PL.op rfl (Rd.lss rfl rfl) ?_; refine PL.nil ?_; refine thA_n ?_; rcases cond_some hh0 with ⟨h_6, hh0⟩ | ⟨h_6, hh0⟩
  · refine PC.cond_true rfl h_6 ?_; refine PC.seq ?_; refine PC.region ?_; refine PL.op rfl (Rd.asnT rfl) ?_; refine PL.nil ?_; refine thA_n ?_; refine PC.ret ?_; refine thA_r ?_; obtain rfl := some_in hh0; exact FinA.mk (r := iA (-1 : Int)) (bl := []) [] (.inl rfl) rfl (rl := [.tmp 4]) (.tmp .nil) rfl rfl rfl (.t _) trivial ⟨rfl, rfl⟩
  refine PC.cond_false rfl h_6 ?_; refine PC.skip ?_; refine thA_n ?_; refine PC.seq ?_; obtain ⟨r7, h_8, hh0⟩ := bind_some hh0; refine PC.region ?_; refine PL.op rfl (Rd.fieldO rfl rfl) ?_; refine PL.op rfl (Rd.loadO rfl rfl rfl) ?_; refine PL.op rfl (Rd.moveT rfl) ?_; refine PL.callM false [] (w_L_szTaggedS N p_a.rows r4 r7 h_8) rfl Tryz.call33 rfl ⟨.t _, .t _, trivial⟩ rfl trivial (fun h => by cases h) ?_; refine PL.op rfl (Rd.asnT rfl) ?_; refine PL.nil ?_; refine thA_n ?_; (iterate 2 refine PC.seq ?_); refine PC.region ?_; refine PL.op rfl (Rd.moveT rfl) ?_; refine PL.op rfl (Rd.lss rfl rfl) ?_; refine PL.nil ?_; refine thA_n ?_; rcases cond_some hh0 with ⟨h_9, hh0⟩ | ⟨h_9, hh0⟩
  · refine PC.cond_true rfl h_9 ?_; refine PC.seq ?_; refine PC.region ?_; refine PL.op rfl (Rd.asnT rfl) ?_; refine PL.nil ?_; refine thA_n ?_; refine PC.ret ?_; refine thA_r ?_; obtain rfl := some_in hh0; exact FinA.mk (r := iA (-1 : Int)) (bl := []) [] (.inl rfl) rfl (rl := [.tmp 4]) (.tmp .nil) rfl rfl rfl (.t _) trivial ⟨rfl, rfl⟩
  refine PC.cond_false rfl h_9 ?_; refine PC.skip ?_; refine thA_n ?_; refine PC.seq ?_; refine PC.region ?_; refine PL.op rfl (Rd.moveT rfl) ?_; refine PL.op rfl (Rd.asnT rfl) ?_; refine PL.nil ?_; refine thA_n ?_; refine PC.ret ?_; obtain rfl := some_in hh0; exact FinA.mk (r := iA r7) (bl := []) [] (.inl rfl) rfl (rl := [.tmp 4]) (.tmp .nil) rfl rfl rfl (.t _) trivial ⟨rfl, rfl⟩
def m_L_toValue (N : Nat) (p_a : L_Value) : Option (I_Value) :=
  some (I_Value.mk p_a.kind p_a.num p_a.text)
theorem w_L_toValue (N : Nat) (p_a : L_Value) (r : I_Value) (hh0 : m_L_toValue N p_a = some r) : FnX Tryz.prog 11 [] [.agg [iA p_a.kind, iA p_a.num, sA p_a.text]] (RE (.agg [iA r.kind, iA r.num, sA r.text]) []) := by
  unfold m_L_toValue at hh0; refine FnX.mk Tryz.func11 rfl rfl ?_; intro s hs; refine PC.seq ?_; refine PC.region ?_; refine PL.ef rfl (Ef.box rfl rfl rfl) ?_; refine PL.nm (.op 0 0) [some ⟨.mx [iA p_a.kind, iA p_a.num, sA p_a.text], 28, 0⟩] rfl rfl ?_; refine PL.ef rfl (Ef.alloc rfl rfl) ?_; refine PL.nm (.op 1 0) [some ⟨.mx [iA p_a.kind, iA p_a.num, sA p_a.text], 28, 0⟩, some ⟨.mx [iA (0 : Int), iA (0 : Int), sA ByteArray.empty], 39, 0⟩] rfl rfl ?_; refine PL.nil ?_; refine thA_n ?_; refine PC.seq ?_; refine PC.region ?_; refine PL.ef rfl (Ef.alloc rfl rfl) ?_; refine PL.nm (.op 2 0) [some ⟨.mx [iA p_a.kind, iA p_a.num, sA p_a.text], 28, 0⟩, some ⟨.mx [iA (0 : Int), iA (0 : Int), sA ByteArray.empty], 39, 0⟩, some ⟨.mx [iA (0 : Int), iA (0 : Int), sA ByteArray.empty], 39, 0⟩] rfl rfl ?_; refine PL.nil ?_; refine thA_n ?_; refine PC.seq ?_; refine PC.region ?_; refine PL.op rfl (Rd.fieldO rfl rfl) ?_; refine PL.op rfl (Rd.loadO rfl rfl rfl) ?_; refine PL.op rfl (Rd.fieldO rfl rfl) ?_; refine PL.store rfl rfl rfl rfl rfl rfl rfl ?_; refine PL.nO [some ⟨.mx [iA p_a.kind, iA p_a.num, sA p_a.text], 28, 0⟩, some ⟨.mx [iA (0 : Int), iA (0 : Int), sA ByteArray.empty], 39, 0⟩, some ⟨.mx [iA p_a.kind, iA (0 : Int), sA ByteArray.empty], 39, 0⟩] rfl ?_; refine PL.nil ?_; refine thA_n ?_; refine PC.seq ?_; refine PC.region ?_; refine PL.op rfl (Rd.fieldO rfl rfl) ?_; refine PL.op rfl (Rd.loadO rfl rfl rfl) ?_; refine PL.op rfl (Rd.fieldO rfl rfl) ?_; refine PL.store rfl rfl rfl rfl rfl rfl rfl ?_; refine PL.nO [some ⟨.mx [iA p_a.kind, iA p_a.num, sA p_a.text], 28, 0⟩, some ⟨.mx [iA (0 : Int), iA (0 : Int), sA ByteArray.empty], 39, 0⟩, some ⟨.mx [iA p_a.kind, iA p_a.num, sA ByteArray.empty], 39, 0⟩] rfl ?_; refine PL.nil ?_; refine thA_n ?_; refine PC.seq ?_; refine PC.region ?_; refine PL.op rfl (Rd.fieldO rfl rfl) ?_; refine PL.op rfl (Rd.loadO rfl rfl rfl) ?_; refine PL.op rfl (Rd.fieldO rfl rfl) ?_; refine PL.store rfl rfl rfl rfl rfl rfl rfl ?_; refine PL.nO [some ⟨.mx [iA p_a.kind, iA p_a.num, sA p_a.text], 28, 0⟩, some ⟨.mx [iA (0 : Int), iA (0 : Int), sA ByteArray.empty], 39, 0⟩, some ⟨.mx [iA p_a.kind, iA p_a.num, sA p_a.text], 39, 0⟩] rfl ?_; refine PL.nil ?_; refine thA_n ?_; refine PC.seq ?_; refine PC.region ?_; refine PL.op rfl (Rd.loadBox rfl rfl rfl) ?_; refine PL.store rfl rfl rfl rfl rfl rfl rfl ?_; refine PL.nO [some ⟨.mx [iA p_a.kind, iA p_a.num, sA p_a.text], 28, 0⟩, some ⟨.mx [iA p_a.kind, iA p_a.num, sA p_a.text], 39, 0⟩, some ⟨.mx [iA p_a.kind, iA p_a.num, sA p_a.text], 39, 0⟩] rfl ?_; refine PL.nil ?_; refine thA_n ?_; refine PC.ret ?_; obtain rfl := some_in hh0; exact FinA.mk (r := .agg [iA p_a.kind, iA p_a.num, sA p_a.text]) (bl := []) [] (.inl rfl) rfl (rl := [.cell 2 39]) (.cellN rfl rfl rfl rfl .nil) rfl rfl rfl (.aggL ⟨.t _, .t _, .t _, trivial⟩) trivial ⟨rfl, rfl⟩
def m_L_toColumn (N : Nat) (p_a : L_Column) : Option (I_Column) :=
  (m_L_toValue N p_a.default).bind fun r1 =>
  some (I_Column.mk p_a.kind r1)
theorem w_L_toColumn (N : Nat) (p_a : L_Column) (r : I_Column) (hh0 : m_L_toColumn N p_a = some r) : FnX Tryz.prog 80 [] [.agg [iA p_a.kind, iA p_a.default.kind, iA p_a.default.num, sA p_a.default.text]] (RE (.agg [iA r.kind, iA r.default.kind, iA r.default.num, sA r.default.text]) []) := by
  unfold m_L_toColumn at hh0; refine FnX.mk Tryz.func80 rfl rfl ?_; intro s hs; refine PC.seq ?_; refine PC.region ?_; refine PL.ef rfl (Ef.box rfl rfl rfl) ?_; refine PL.nm (.op 0 0) [some ⟨.mx [iA p_a.kind, iA p_a.default.kind, iA p_a.default.num, sA p_a.default.text], 109, 0⟩] rfl rfl ?_; refine PL.ef rfl (Ef.alloc rfl rfl) ?_; refine PL.nm (.op 1 0) [some ⟨.mx [iA p_a.kind, iA p_a.default.kind, iA p_a.default.num, sA p_a.default.text], 109, 0⟩, some ⟨.mx [iA (0 : Int), iA (0 : Int), iA (0 : Int), sA ByteArray.empty], 125, 0⟩] rfl rfl ?_; refine PL.nil ?_; refine thA_n ?_; refine PC.seq ?_; refine PC.region ?_; refine PL.ef rfl (Ef.alloc rfl rfl) ?_; refine PL.nm (.op 2 0) [some ⟨.mx [iA p_a.kind, iA p_a.default.kind, iA p_a.default.num, sA p_a.default.text], 109, 0⟩, some ⟨.mx [iA (0 : Int), iA (0 : Int), iA (0 : Int), sA ByteArray.empty], 125, 0⟩, some ⟨.mx [iA (0 : Int), iA (0 : Int), iA (0 : Int), sA ByteArray.empty], 125, 0⟩] rfl rfl ?_; refine PL.nil ?_; refine thA_n ?_; refine PC.seq ?_; refine PC.region ?_; refine PL.op rfl (Rd.fieldO rfl rfl) ?_; refine PL.op rfl (Rd.loadO rfl rfl rfl) ?_; refine PL.op rfl (Rd.fieldO rfl rfl) ?_; refine PL.store rfl rfl rfl rfl rfl rfl rfl ?_; refine PL.nO [some ⟨.mx [iA p_a.kind, iA p_a.default.kind, iA p_a.default.num, sA p_a.default.text], 109, 0⟩, some ⟨.mx [iA (0 : Int), iA (0 : Int), iA (0 : Int), sA ByteArray.empty], 125, 0⟩, some ⟨.mx [iA p_a.kind, iA (0 : Int), iA (0 : Int), sA ByteArray.empty], 125, 0⟩] rfl ?_; refine PL.nil ?_; refine thA_n ?_; refine PC.seq ?_; obtain ⟨r1, h_2, hh0⟩ := bind_some hh0; refine PC.region ?_; refine PL.op rfl (Rd.fieldO rfl rfl) ?_; refine PL.op rfl (Rd.loadSub rfl rfl rfl rfl) ?_; refine PL.callM false [] (w_L_toValue N p_a.default r1 h_2) rfl Tryz.call11 rfl ⟨.aggL ⟨.t _, .t _, .t _, trivial⟩, trivial⟩ rfl trivial (fun h => by cases h) ?_; refine PL.op rfl (Rd.fieldO rfl rfl) ?_; refine PL.store rfl rfl rfl rfl rfl rfl rfl ?_; refine PL.nO [some ⟨.mx [iA p_a.kind, iA p_a.default.kind, iA p_a.default.num, sA p_a.default.text], 109, 0⟩, some ⟨.mx [iA (0 : Int), iA (0 : Int), iA (0 : Int), sA ByteArray.empty], 125, 0⟩, some ⟨.mx [iA p_a.kind, iA r1.kind, iA r1.num, sA r1.text], 125, 0⟩] rfl ?_; refine PL.nil ?_; refine thA_n ?_; refine PC.seq ?_; refine PC.region ?_; refine PL.op rfl (Rd.loadBox rfl rfl rfl) ?_; refine PL.store rfl rfl rfl rfl rfl rfl rfl ?_; refine PL.nO [some ⟨.mx [iA p_a.kind, iA p_a.default.kind, iA p_a.default.num, sA p_a.default.text], 109, 0⟩, some ⟨.mx [iA p_a.kind, iA r1.kind, iA r1.num, sA r1.text], 125, 0⟩, some ⟨.mx [iA p_a.kind, iA r1.kind, iA r1.num, sA r1.text], 125, 0⟩] rfl ?_; refine PL.nil ?_; refine thA_n ?_; refine PC.ret ?_; obtain rfl := some_in hh0; exact FinA.mk (r := .agg [iA p_a.kind, iA r1.kind, iA r1.num, sA r1.text]) (bl := []) [] (.inl rfl) rfl (rl := [.cell 2 125]) (.cellN rfl rfl rfl rfl .nil) rfl rfl rfl (.aggL ⟨.t _, .t _, .t _, .t _, trivial⟩) trivial ⟨rfl, rfl⟩
def m_L_toColumnS_k1 (N : Nat) (v14 : (List I_Column)) : Option ((List I_Column)) :=
  some v14
def m_L_toColumnS_b1 (N : Nat) (p_a : (List L_Column)) (i3 : Int) (v4 : (List I_Column)) : Option ((Int × (List I_Column)) ⊕ (List I_Column)) :=
  cond (decide (i3 < (p_a.length : Int)))
    ((ixI p_a i3).bind fun x21 =>
    (m_L_toColumn N x21).bind fun r23 =>
    (ixI v4 i3).bind fun x25 =>
    (chk (i3 + (1 : Int))).bind fun n27 =>
    some (.inl (n27, (v4.set i3.toNat r23))))
    (some (.inr v4))
def m_L_toColumnS (N : Nat) (p_a : (List L_Column)) : Option ((List I_Column)) :=
  (mkM 40 (I_Column.mk (0 : Int) (I_Value.mk (0 : Int) (0 : Int) ByteArray.empty)) (p_a.length : Int)).bind fun xs1 =>
  (loopM (β := (List I_Column)) (fun s : Int × (List I_Column) => m_L_toColumnS_b1 N p_a s.1 s.2) N ((0 : Int), xs1)).bind fun e =>
  m_L_toColumnS_k1 N e
theorem w_L_toColumnS (N : Nat) (p_a : (List L_Column)) (r : (List I_Column)) (hh0 : m_L_toColumnS N p_a = some r) : FnX Tryz.prog 40 [] [sL p_a] (RE (.os 0 0 r.length) [⟨.tr (eL r), 125, 4⟩]) := by
  unfold m_L_toColumnS at hh0; refine FnX.mk Tryz.func40 rfl rfl ?_; intro s hs; refine PC.seq ?_; refine PC.region ?_; refine PL.op rfl (Rd.asnT rfl) ?_; refine PL.nil ?_; refine thA_n ?_; refine PC.seq ?_; obtain ⟨xs1, h_2, hh0⟩ := bind_some hh0; refine PC.region ?_; refine PL.op rfl (Rd.moveT rfl) ?_; refine PL.op rfl (Rd.lenT rfl) ?_; refine PL.ef rfl (Ef.makeM (I_Column.mk (0 : Int) (I_Value.mk (0 : Int) (0 : Int) ByteArray.empty)) rfl rfl h_2 rfl rfl rfl (by exact ⟨.inl ⟨rfl, rfl⟩, .inl ⟨rfl, rfl⟩, .inl ⟨rfl, rfl⟩, .inl ⟨rfl, rfl⟩, trivial⟩)) ?_; refine PL.nm (.os 0 0 xs1.length) [some ⟨.tr (eL xs1), 125, 4⟩] rfl rfl ?_; refine PL.op rfl (Rd.asnO rfl) ?_; refine PL.nil ?_; refine thA_n ?_; (iterate 2 refine PC.seq ?_); refine PC.region ?_; refine PL.op rfl (Rd.asnT rfl) ?_; refine PL.nil ?_; refine thA_n ?_; obtain ⟨o15, h_16, hh0⟩ := bind_some hh0; refine PC.cutE hs (fun x : (List I_Column) => [(3, .os 0 0 x.length)]) (fun x => [⟨.tr (eL x), 125, 4⟩]) (fun x => m_L_toColumnS_k1 N x = some r) ?_ ?_
  · refine PC.block ?_; refine PC.loop hs (fun x : Nat × (Int × (List I_Column)) => [(0, sL p_a), (3, .os 0 0 x.2.2.length), (4, iA x.2.1)]) (fun x => [⟨.tr (eL x.2.2), 125, 4⟩]) (fun x => loopM (β := (List I_Column)) (fun s : Int × (List I_Column) => m_L_toColumnS_b1 N p_a s.1 s.2) x.1 x.2 = some o15) (fun x => x.1) (N, ((0 : Int), xs1)) [some 0] ⟨rfl, rfl, ⟨⟨_, rfl, rfl, rfl, .tr _⟩, trivial⟩, ⟨.t _, .os rfl, .t _, trivial⟩⟩ h_16 ?_
    rintro ⟨f17_, i3, v4⟩ h_19
    obtain ⟨f17, y18, rfl, hh1, kk1⟩ := loopM_some h_19
    replace hh1 : m_L_toColumnS_b1 N p_a i3 v4 = some y18 := hh1
    unfold m_L_toColumnS_b1 at hh1; (iterate 2 refine PC.seq ?_); refine PC.region ?_; (iterate 2 refine PL.op rfl (Rd.moveT rfl) ?_); refine PL.op rfl (Rd.lenT rfl) ?_; refine PL.op rfl (Rd.lss rfl rfl) ?_; refine PL.nil ?_; refine thA_n ?_; rcases cond_some hh1 with ⟨h_20, hh1⟩ | ⟨h_20, hh1⟩; rotate_left
    · refine PC.cond_false rfl h_20 ?_; refine PC.exit ?_; (iterate 2 refine thA_e ?_); refine inA_eq rfl ?_; refine thA_n ?_; obtain rfl := some_in hh1; obtain rfl : (v4 : (List I_Column)) = o15 := kk1; exact ⟨v4, hh0, [some 0], ⟨rfl, rfl, ⟨⟨_, rfl, rfl, rfl, .tr _⟩, trivial⟩, ⟨.os rfl, trivial⟩⟩⟩
    refine PC.cond_true rfl h_20 ?_; refine PC.skip ?_; refine thA_n ?_; refine PC.seq ?_; refine PC.block ?_; obtain ⟨x21, h_22, hh1⟩ := bind_some hh1; obtain ⟨r23, h_24, hh1⟩ := bind_some hh1; obtain ⟨x25, h_26, hh1⟩ := bind_some hh1; refine PC.region ?_; refine PL.op rfl (Rd.moveO rfl) ?_; (iterate 3 refine PL.op rfl (Rd.moveT rfl) ?_); refine PL.op rfl (Rd.ixM rfl rfl h_22) ?_; refine PL.op rfl (Rd.elMR rfl h_22 rfl rfl) ?_; refine PL.callM false [] (w_L_toColumn N x21 r23 h_24) rfl Tryz.call80 rfl ⟨.aggL ⟨.t _, .t _, .t _, .t _, trivial⟩, trivial⟩ rfl trivial (fun h => by cases h) ?_; refine PL.op rfl (Rd.ixOM rfl rfl rfl (ixI_lt h_26)) ?_; refine PL.stRM r23 rfl rfl rfl rfl rfl h_26 rfl ?_; refine PL.nO [some ⟨.tr (eL (v4.set i3.toNat r23)), 125, 4⟩] rfl ?_; refine PL.nil ?_; refine inA_n ?_; refine thA_n ?_; obtain ⟨n27, h_28, hh1⟩ := bind_some hh1; refine PC.region ?_; refine PL.op rfl (Rd.moveT rfl) ?_; refine PL.op rfl (Rd.addM rfl rfl h_28) ?_; refine PL.op rfl (Rd.asnT rfl) ?_; refine PL.nil ?_; obtain rfl := some_in hh1; refine thA_n ?_; exact ⟨(f17, (n27, (v4.set i3.toNat r23))), Nat.lt_succ_self _, kk1, [some 0], ⟨rfl, rfl, ⟨⟨_, rfl, rfl, rfl, .tr _⟩, trivial⟩, ⟨.t _, .osE rfl (by simp only [List.length_set]), .t _, trivial⟩⟩⟩
  clear hh0
  rintro v14 hh0
  replace hh0 : m_L_toColumnS_k1 N v14 = some r := hh0
  unfold m_L_toColumnS_k1 at hh0; refine thA_n ?_; refine PC.seq ?_; refine PC.region ?_; refine PL.op rfl (Rd.moveO rfl) ?_; refine PL.op rfl (Rd.asnO rfl) ?_; refine PL.nil ?_; refine thA_n ?_; refine PC.ret ?_; obtain rfl := some_in hh0; exact FinA.mk (r := .os 0 0 v14.length) (bl := [⟨.tr (eL v14), 125, 4⟩]) [some 0] (.inl rfl) rfl (rl := [.tmp 2]) (.tmp .nil) rfl rfl rfl (.os rfl) ⟨⟨_, rfl, rfl, rfl, .tr _⟩, trivial⟩ ⟨rfl, rfl⟩
def m_L_toChange (N : Nat) (p_a : L_Change) : Option (I_Change) :=
  (m_L_toColumn N p_a.column).bind fun r1 =>
  some (I_Change.mk p_a.kind p_a.at_ r1)
theorem w_L_toChange (N : Nat) (p_a : L_Change) (r : I_Change) (hh0 : m_L_toChange N p_a = some r) : FnX Tryz.prog 81 [] [.agg [iA p_a.kind, iA p_a.at_, iA p_a.column.kind, iA p_a.column.default.kind, iA p_a.column.default.num, sA p_a.column.default.text]] (RE (.agg [iA r.kind, iA r.at_, iA r.column.kind, iA r.column.default.kind, iA r.column.default.num, sA r.column.default.text]) []) := by
  unfold m_L_toChange at hh0; refine FnX.mk Tryz.func81 rfl rfl ?_; intro s hs; refine PC.seq ?_; refine PC.region ?_; refine PL.ef rfl (Ef.box rfl rfl rfl) ?_; refine PL.nm (.op 0 0) [some ⟨.mx [iA p_a.kind, iA p_a.at_, iA p_a.column.kind, iA p_a.column.default.kind, iA p_a.column.default.num, sA p_a.column.default.text], 112, 0⟩] rfl rfl ?_; refine PL.ef rfl (Ef.alloc rfl rfl) ?_; refine PL.nm (.op 1 0) [some ⟨.mx [iA p_a.kind, iA p_a.at_, iA p_a.column.kind, iA p_a.column.default.kind, iA p_a.column.default.num, sA p_a.column.default.text], 112, 0⟩, some ⟨.mx [iA (0 : Int), iA (0 : Int), iA (0 : Int), iA (0 : Int), iA (0 : Int), sA ByteArray.empty], 128, 0⟩] rfl rfl ?_; refine PL.nil ?_; refine thA_n ?_; refine PC.seq ?_; refine PC.region ?_; refine PL.ef rfl (Ef.alloc rfl rfl) ?_; refine PL.nm (.op 2 0) [some ⟨.mx [iA p_a.kind, iA p_a.at_, iA p_a.column.kind, iA p_a.column.default.kind, iA p_a.column.default.num, sA p_a.column.default.text], 112, 0⟩, some ⟨.mx [iA (0 : Int), iA (0 : Int), iA (0 : Int), iA (0 : Int), iA (0 : Int), sA ByteArray.empty], 128, 0⟩, some ⟨.mx [iA (0 : Int), iA (0 : Int), iA (0 : Int), iA (0 : Int), iA (0 : Int), sA ByteArray.empty], 128, 0⟩] rfl rfl ?_; refine PL.nil ?_; refine thA_n ?_; refine PC.seq ?_; refine PC.region ?_; refine PL.op rfl (Rd.fieldO rfl rfl) ?_; refine PL.op rfl (Rd.loadO rfl rfl rfl) ?_; refine PL.op rfl (Rd.fieldO rfl rfl) ?_; refine PL.store rfl rfl rfl rfl rfl rfl rfl ?_; refine PL.nO [some ⟨.mx [iA p_a.kind, iA p_a.at_, iA p_a.column.kind, iA p_a.column.default.kind, iA p_a.column.default.num, sA p_a.column.default.text], 112, 0⟩, some ⟨.mx [iA (0 : Int), iA (0 : Int), iA (0 : Int), iA (0 : Int), iA (0 : Int), sA ByteArray.empty], 128, 0⟩, some ⟨.mx [iA p_a.kind, iA (0 : Int), iA (0 : Int), iA (0 : Int), iA (0 : Int), sA ByteArray.empty], 128, 0⟩] rfl ?_; refine PL.nil ?_; refine thA_n ?_; refine PC.seq ?_; refine PC.region ?_; refine PL.op rfl (Rd.fieldO rfl rfl) ?_; refine PL.op rfl (Rd.loadO rfl rfl rfl) ?_; refine PL.op rfl (Rd.fieldO rfl rfl) ?_; refine PL.store rfl rfl rfl rfl rfl rfl rfl ?_; refine PL.nO [some ⟨.mx [iA p_a.kind, iA p_a.at_, iA p_a.column.kind, iA p_a.column.default.kind, iA p_a.column.default.num, sA p_a.column.default.text], 112, 0⟩, some ⟨.mx [iA (0 : Int), iA (0 : Int), iA (0 : Int), iA (0 : Int), iA (0 : Int), sA ByteArray.empty], 128, 0⟩, some ⟨.mx [iA p_a.kind, iA p_a.at_, iA (0 : Int), iA (0 : Int), iA (0 : Int), sA ByteArray.empty], 128, 0⟩] rfl ?_; refine PL.nil ?_; refine thA_n ?_; refine PC.seq ?_; obtain ⟨r1, h_2, hh0⟩ := bind_some hh0; refine PC.region ?_; refine PL.op rfl (Rd.fieldO rfl rfl) ?_; refine PL.op rfl (Rd.loadSub rfl rfl rfl rfl) ?_; refine PL.callM false [] (w_L_toColumn N p_a.column r1 h_2) rfl Tryz.call80 rfl ⟨.aggL ⟨.t _, .t _, .t _, .t _, trivial⟩, trivial⟩ rfl trivial (fun h => by cases h) ?_; refine PL.op rfl (Rd.fieldO rfl rfl) ?_; refine PL.store rfl rfl rfl rfl rfl rfl rfl ?_; refine PL.nO [some ⟨.mx [iA p_a.kind, iA p_a.at_, iA p_a.column.kind, iA p_a.column.default.kind, iA p_a.column.default.num, sA p_a.column.default.text], 112, 0⟩, some ⟨.mx [iA (0 : Int), iA (0 : Int), iA (0 : Int), iA (0 : Int), iA (0 : Int), sA ByteArray.empty], 128, 0⟩, some ⟨.mx [iA p_a.kind, iA p_a.at_, iA r1.kind, iA r1.default.kind, iA r1.default.num, sA r1.default.text], 128, 0⟩] rfl ?_; refine PL.nil ?_; refine thA_n ?_; refine PC.seq ?_; refine PC.region ?_; refine PL.op rfl (Rd.loadBox rfl rfl rfl) ?_; refine PL.store rfl rfl rfl rfl rfl rfl rfl ?_; refine PL.nO [some ⟨.mx [iA p_a.kind, iA p_a.at_, iA p_a.column.kind, iA p_a.column.default.kind, iA p_a.column.default.num, sA p_a.column.default.text], 112, 0⟩, some ⟨.mx [iA p_a.kind, iA p_a.at_, iA r1.kind, iA r1.default.kind, iA r1.default.num, sA r1.default.text], 128, 0⟩, some ⟨.mx [iA p_a.kind, iA p_a.at_, iA r1.kind, iA r1.default.kind, iA r1.default.num, sA r1.default.text], 128, 0⟩] rfl ?_; refine PL.nil ?_; refine thA_n ?_; refine PC.ret ?_; obtain rfl := some_in hh0; exact FinA.mk (r := .agg [iA p_a.kind, iA p_a.at_, iA r1.kind, iA r1.default.kind, iA r1.default.num, sA r1.default.text]) (bl := []) [] (.inl rfl) rfl (rl := [.cell 2 128]) (.cellN rfl rfl rfl rfl .nil) rfl rfl rfl (.aggL ⟨.t _, .t _, .t _, .t _, .t _, .t _, trivial⟩) trivial ⟨rfl, rfl⟩
def m_L_toChangeS_k1 (N : Nat) (v14 : (List I_Change)) : Option ((List I_Change)) :=
  some v14
def m_L_toChangeS_b1 (N : Nat) (p_a : (List L_Change)) (i3 : Int) (v4 : (List I_Change)) : Option ((Int × (List I_Change)) ⊕ (List I_Change)) :=
  cond (decide (i3 < (p_a.length : Int)))
    ((ixI p_a i3).bind fun x21 =>
    (m_L_toChange N x21).bind fun r23 =>
    (ixI v4 i3).bind fun x25 =>
    (chk (i3 + (1 : Int))).bind fun n27 =>
    some (.inl (n27, (v4.set i3.toNat r23))))
    (some (.inr v4))
def m_L_toChangeS (N : Nat) (p_a : (List L_Change)) : Option ((List I_Change)) :=
  (mkM 56 (I_Change.mk (0 : Int) (0 : Int) (I_Column.mk (0 : Int) (I_Value.mk (0 : Int) (0 : Int) ByteArray.empty))) (p_a.length : Int)).bind fun xs1 =>
  (loopM (β := (List I_Change)) (fun s : Int × (List I_Change) => m_L_toChangeS_b1 N p_a s.1 s.2) N ((0 : Int), xs1)).bind fun e =>
  m_L_toChangeS_k1 N e
theorem w_L_toChangeS (N : Nat) (p_a : (List L_Change)) (r : (List I_Change)) (hh0 : m_L_toChangeS N p_a = some r) : FnX Tryz.prog 41 [] [sL p_a] (RE (.os 0 0 r.length) [⟨.tr (eL r), 128, 6⟩]) := by
  unfold m_L_toChangeS at hh0; refine FnX.mk Tryz.func41 rfl rfl ?_; intro s hs; refine PC.seq ?_; refine PC.region ?_; refine PL.op rfl (Rd.asnT rfl) ?_; refine PL.nil ?_; refine thA_n ?_; refine PC.seq ?_; obtain ⟨xs1, h_2, hh0⟩ := bind_some hh0; refine PC.region ?_; refine PL.op rfl (Rd.moveT rfl) ?_; refine PL.op rfl (Rd.lenT rfl) ?_; refine PL.ef rfl (Ef.makeM (I_Change.mk (0 : Int) (0 : Int) (I_Column.mk (0 : Int) (I_Value.mk (0 : Int) (0 : Int) ByteArray.empty))) rfl rfl h_2 rfl rfl rfl (by exact ⟨.inl ⟨rfl, rfl⟩, .inl ⟨rfl, rfl⟩, .inl ⟨rfl, rfl⟩, .inl ⟨rfl, rfl⟩, .inl ⟨rfl, rfl⟩, .inl ⟨rfl, rfl⟩, trivial⟩)) ?_; refine PL.nm (.os 0 0 xs1.length) [some ⟨.tr (eL xs1), 128, 6⟩] rfl rfl ?_; refine PL.op rfl (Rd.asnO rfl) ?_; refine PL.nil ?_; refine thA_n ?_; (iterate 2 refine PC.seq ?_); refine PC.region ?_; refine PL.op rfl (Rd.asnT rfl) ?_; refine PL.nil ?_; refine thA_n ?_; obtain ⟨o15, h_16, hh0⟩ := bind_some hh0; refine PC.cutE hs (fun x : (List I_Change) => [(3, .os 0 0 x.length)]) (fun x => [⟨.tr (eL x), 128, 6⟩]) (fun x => m_L_toChangeS_k1 N x = some r) ?_ ?_
  · refine PC.block ?_; refine PC.loop hs (fun x : Nat × (Int × (List I_Change)) => [(0, sL p_a), (3, .os 0 0 x.2.2.length), (4, iA x.2.1)]) (fun x => [⟨.tr (eL x.2.2), 128, 6⟩]) (fun x => loopM (β := (List I_Change)) (fun s : Int × (List I_Change) => m_L_toChangeS_b1 N p_a s.1 s.2) x.1 x.2 = some o15) (fun x => x.1) (N, ((0 : Int), xs1)) [some 0] ⟨rfl, rfl, ⟨⟨_, rfl, rfl, rfl, .tr _⟩, trivial⟩, ⟨.t _, .os rfl, .t _, trivial⟩⟩ h_16 ?_
    rintro ⟨f17_, i3, v4⟩ h_19
    obtain ⟨f17, y18, rfl, hh1, kk1⟩ := loopM_some h_19
    replace hh1 : m_L_toChangeS_b1 N p_a i3 v4 = some y18 := hh1
    unfold m_L_toChangeS_b1 at hh1; (iterate 2 refine PC.seq ?_); refine PC.region ?_; (iterate 2 refine PL.op rfl (Rd.moveT rfl) ?_); refine PL.op rfl (Rd.lenT rfl) ?_; refine PL.op rfl (Rd.lss rfl rfl) ?_; refine PL.nil ?_; refine thA_n ?_; rcases cond_some hh1 with ⟨h_20, hh1⟩ | ⟨h_20, hh1⟩; rotate_left
    · refine PC.cond_false rfl h_20 ?_; refine PC.exit ?_; (iterate 2 refine thA_e ?_); refine inA_eq rfl ?_; refine thA_n ?_; obtain rfl := some_in hh1; obtain rfl : (v4 : (List I_Change)) = o15 := kk1; exact ⟨v4, hh0, [some 0], ⟨rfl, rfl, ⟨⟨_, rfl, rfl, rfl, .tr _⟩, trivial⟩, ⟨.os rfl, trivial⟩⟩⟩
    refine PC.cond_true rfl h_20 ?_; refine PC.skip ?_; refine thA_n ?_; refine PC.seq ?_; refine PC.block ?_; obtain ⟨x21, h_22, hh1⟩ := bind_some hh1; obtain ⟨r23, h_24, hh1⟩ := bind_some hh1; obtain ⟨x25, h_26, hh1⟩ := bind_some hh1; refine PC.region ?_; refine PL.op rfl (Rd.moveO rfl) ?_; (iterate 3 refine PL.op rfl (Rd.moveT rfl) ?_); refine PL.op rfl (Rd.ixM rfl rfl h_22) ?_; refine PL.op rfl (Rd.elMR rfl h_22 rfl rfl) ?_; refine PL.callM false [] (w_L_toChange N x21 r23 h_24) rfl Tryz.call81 rfl ⟨.aggL ⟨.t _, .t _, .t _, .t _, .t _, .t _, trivial⟩, trivial⟩ rfl trivial (fun h => by cases h) ?_; refine PL.op rfl (Rd.ixOM rfl rfl rfl (ixI_lt h_26)) ?_; refine PL.stRM r23 rfl rfl rfl rfl rfl h_26 rfl ?_; refine PL.nO [some ⟨.tr (eL (v4.set i3.toNat r23)), 128, 6⟩] rfl ?_; refine PL.nil ?_; refine inA_n ?_; refine thA_n ?_; obtain ⟨n27, h_28, hh1⟩ := bind_some hh1; refine PC.region ?_; refine PL.op rfl (Rd.moveT rfl) ?_; refine PL.op rfl (Rd.addM rfl rfl h_28) ?_; refine PL.op rfl (Rd.asnT rfl) ?_; refine PL.nil ?_; obtain rfl := some_in hh1; refine thA_n ?_; exact ⟨(f17, (n27, (v4.set i3.toNat r23))), Nat.lt_succ_self _, kk1, [some 0], ⟨rfl, rfl, ⟨⟨_, rfl, rfl, rfl, .tr _⟩, trivial⟩, ⟨.t _, .osE rfl (by simp only [List.length_set]), .t _, trivial⟩⟩⟩
  clear hh0
  rintro v14 hh0
  replace hh0 : m_L_toChangeS_k1 N v14 = some r := hh0
  unfold m_L_toChangeS_k1 at hh0; refine thA_n ?_; refine PC.seq ?_; refine PC.region ?_; refine PL.op rfl (Rd.moveO rfl) ?_; refine PL.op rfl (Rd.asnO rfl) ?_; refine PL.nil ?_; refine thA_n ?_; refine PC.ret ?_; obtain rfl := some_in hh0; exact FinA.mk (r := .os 0 0 v14.length) (bl := [⟨.tr (eL v14), 128, 6⟩]) [some 0] (.inl rfl) rfl (rl := [.tmp 2]) (.tmp .nil) rfl rfl rfl (.os rfl) ⟨⟨_, rfl, rfl, rfl, .tr _⟩, trivial⟩ ⟨rfl, rfl⟩
def m_L_toValueS_k1 (N : Nat) (v14 : (List I_Value)) : Option ((List I_Value)) :=
  some v14
def m_L_toValueS_b1 (N : Nat) (p_a : (List L_Value)) (i3 : Int) (v4 : (List I_Value)) : Option ((Int × (List I_Value)) ⊕ (List I_Value)) :=
  cond (decide (i3 < (p_a.length : Int)))
    ((ixI p_a i3).bind fun x21 =>
    (m_L_toValue N x21).bind fun r23 =>
    (ixI v4 i3).bind fun x25 =>
    (chk (i3 + (1 : Int))).bind fun n27 =>
    some (.inl (n27, (v4.set i3.toNat r23))))
    (some (.inr v4))
def m_L_toValueS (N : Nat) (p_a : (List L_Value)) : Option ((List I_Value)) :=
  (mkM 32 (I_Value.mk (0 : Int) (0 : Int) ByteArray.empty) (p_a.length : Int)).bind fun xs1 =>
  (loopM (β := (List I_Value)) (fun s : Int × (List I_Value) => m_L_toValueS_b1 N p_a s.1 s.2) N ((0 : Int), xs1)).bind fun e =>
  m_L_toValueS_k1 N e
theorem w_L_toValueS (N : Nat) (p_a : (List L_Value)) (r : (List I_Value)) (hh0 : m_L_toValueS N p_a = some r) : FnX Tryz.prog 113 [] [sL p_a] (RE (.os 0 0 r.length) [⟨.tr (eL r), 39, 3⟩]) := by
  unfold m_L_toValueS at hh0; refine FnX.mk Tryz.func113 rfl rfl ?_; intro s hs; refine PC.seq ?_; refine PC.region ?_; refine PL.op rfl (Rd.asnT rfl) ?_; refine PL.nil ?_; refine thA_n ?_; refine PC.seq ?_; obtain ⟨xs1, h_2, hh0⟩ := bind_some hh0; refine PC.region ?_; refine PL.op rfl (Rd.moveT rfl) ?_; refine PL.op rfl (Rd.lenT rfl) ?_; refine PL.ef rfl (Ef.makeM (I_Value.mk (0 : Int) (0 : Int) ByteArray.empty) rfl rfl h_2 rfl rfl rfl (by exact ⟨.inl ⟨rfl, rfl⟩, .inl ⟨rfl, rfl⟩, .inl ⟨rfl, rfl⟩, trivial⟩)) ?_; refine PL.nm (.os 0 0 xs1.length) [some ⟨.tr (eL xs1), 39, 3⟩] rfl rfl ?_; refine PL.op rfl (Rd.asnO rfl) ?_; refine PL.nil ?_; refine thA_n ?_; (iterate 2 refine PC.seq ?_); refine PC.region ?_; refine PL.op rfl (Rd.asnT rfl) ?_; refine PL.nil ?_; refine thA_n ?_; obtain ⟨o15, h_16, hh0⟩ := bind_some hh0; refine PC.cutE hs (fun x : (List I_Value) => [(3, .os 0 0 x.length)]) (fun x => [⟨.tr (eL x), 39, 3⟩]) (fun x => m_L_toValueS_k1 N x = some r) ?_ ?_
  · refine PC.block ?_; refine PC.loop hs (fun x : Nat × (Int × (List I_Value)) => [(0, sL p_a), (3, .os 0 0 x.2.2.length), (4, iA x.2.1)]) (fun x => [⟨.tr (eL x.2.2), 39, 3⟩]) (fun x => loopM (β := (List I_Value)) (fun s : Int × (List I_Value) => m_L_toValueS_b1 N p_a s.1 s.2) x.1 x.2 = some o15) (fun x => x.1) (N, ((0 : Int), xs1)) [some 0] ⟨rfl, rfl, ⟨⟨_, rfl, rfl, rfl, .tr _⟩, trivial⟩, ⟨.t _, .os rfl, .t _, trivial⟩⟩ h_16 ?_
    rintro ⟨f17_, i3, v4⟩ h_19
    obtain ⟨f17, y18, rfl, hh1, kk1⟩ := loopM_some h_19
    replace hh1 : m_L_toValueS_b1 N p_a i3 v4 = some y18 := hh1
    unfold m_L_toValueS_b1 at hh1; (iterate 2 refine PC.seq ?_); refine PC.region ?_; (iterate 2 refine PL.op rfl (Rd.moveT rfl) ?_); refine PL.op rfl (Rd.lenT rfl) ?_; refine PL.op rfl (Rd.lss rfl rfl) ?_; refine PL.nil ?_; refine thA_n ?_; rcases cond_some hh1 with ⟨h_20, hh1⟩ | ⟨h_20, hh1⟩; rotate_left
    · refine PC.cond_false rfl h_20 ?_; refine PC.exit ?_; (iterate 2 refine thA_e ?_); refine inA_eq rfl ?_; refine thA_n ?_; obtain rfl := some_in hh1; obtain rfl : (v4 : (List I_Value)) = o15 := kk1; exact ⟨v4, hh0, [some 0], ⟨rfl, rfl, ⟨⟨_, rfl, rfl, rfl, .tr _⟩, trivial⟩, ⟨.os rfl, trivial⟩⟩⟩
    refine PC.cond_true rfl h_20 ?_; refine PC.skip ?_; refine thA_n ?_; refine PC.seq ?_; refine PC.block ?_; obtain ⟨x21, h_22, hh1⟩ := bind_some hh1; obtain ⟨r23, h_24, hh1⟩ := bind_some hh1; obtain ⟨x25, h_26, hh1⟩ := bind_some hh1; refine PC.region ?_; refine PL.op rfl (Rd.moveO rfl) ?_; (iterate 3 refine PL.op rfl (Rd.moveT rfl) ?_); refine PL.op rfl (Rd.ixM rfl rfl h_22) ?_; refine PL.op rfl (Rd.elMR rfl h_22 rfl rfl) ?_; refine PL.callM false [] (w_L_toValue N x21 r23 h_24) rfl Tryz.call11 rfl ⟨.aggL ⟨.t _, .t _, .t _, trivial⟩, trivial⟩ rfl trivial (fun h => by cases h) ?_; refine PL.op rfl (Rd.ixOM rfl rfl rfl (ixI_lt h_26)) ?_; refine PL.stRM r23 rfl rfl rfl rfl rfl h_26 rfl ?_; refine PL.nO [some ⟨.tr (eL (v4.set i3.toNat r23)), 39, 3⟩] rfl ?_; refine PL.nil ?_; refine inA_n ?_; refine thA_n ?_; obtain ⟨n27, h_28, hh1⟩ := bind_some hh1; refine PC.region ?_; refine PL.op rfl (Rd.moveT rfl) ?_; refine PL.op rfl (Rd.addM rfl rfl h_28) ?_; refine PL.op rfl (Rd.asnT rfl) ?_; refine PL.nil ?_; obtain rfl := some_in hh1; refine thA_n ?_; exact ⟨(f17, (n27, (v4.set i3.toNat r23))), Nat.lt_succ_self _, kk1, [some 0], ⟨rfl, rfl, ⟨⟨_, rfl, rfl, rfl, .tr _⟩, trivial⟩, ⟨.t _, .osE rfl (by simp only [List.length_set]), .t _, trivial⟩⟩⟩
  clear hh0
  rintro v14 hh0
  replace hh0 : m_L_toValueS_k1 N v14 = some r := hh0
  unfold m_L_toValueS_k1 at hh0; refine thA_n ?_; refine PC.seq ?_; refine PC.region ?_; refine PL.op rfl (Rd.moveO rfl) ?_; refine PL.op rfl (Rd.asnO rfl) ?_; refine PL.nil ?_; refine thA_n ?_; refine PC.ret ?_; obtain rfl := some_in hh0; exact FinA.mk (r := .os 0 0 v14.length) (bl := [⟨.tr (eL v14), 39, 3⟩]) [some 0] (.inl rfl) rfl (rl := [.tmp 2]) (.tmp .nil) rfl rfl rfl (.os rfl) ⟨⟨_, rfl, rfl, rfl, .tr _⟩, trivial⟩ ⟨rfl, rfl⟩
def m_L_toTagged (N : Nat) (p_a : L_Tagged) : Option (I_Tagged) :=
  (m_L_toValueS N p_a.row).bind fun r1 =>
  some (I_Tagged.mk p_a.tag r1)
theorem w_L_toTagged (N : Nat) (p_a : L_Tagged) (r : I_Tagged) (hh0 : m_L_toTagged N p_a = some r) : FnX Tryz.prog 82 [] [.agg [iA p_a.tag, sL p_a.row]] (RE (.agg [iA r.tag, .os 0 0 r.row.length]) [⟨.tr (eL r.row), 39, 3⟩]) := by
  unfold m_L_toTagged at hh0; refine FnX.mk Tryz.func82 rfl rfl ?_; intro s hs; refine PC.seq ?_; refine PC.region ?_; refine PL.ef rfl (Ef.box rfl rfl rfl) ?_; refine PL.nm (.op 0 0) [some ⟨.mx [iA p_a.tag, sL p_a.row], 116, 0⟩] rfl rfl ?_; refine PL.ef rfl (Ef.alloc rfl rfl) ?_; refine PL.nm (.op 1 0) [some ⟨.mx [iA p_a.tag, sL p_a.row], 116, 0⟩, some ⟨.mx [iA (0 : Int), .t (.v (.slice none 0 0))], 96, 0⟩] rfl rfl ?_; refine PL.nil ?_; refine thA_n ?_; refine PC.seq ?_; refine PC.region ?_; refine PL.ef rfl (Ef.alloc rfl rfl) ?_; refine PL.nm (.op 2 0) [some ⟨.mx [iA p_a.tag, sL p_a.row], 116, 0⟩, some ⟨.mx [iA (0 : Int), .t (.v (.slice none 0 0))], 96, 0⟩, some ⟨.mx [iA (0 : Int), .t (.v (.slice none 0 0))], 96, 0⟩] rfl rfl ?_; refine PL.nil ?_; refine thA_n ?_; refine PC.seq ?_; refine PC.region ?_; refine PL.op rfl (Rd.fieldO rfl rfl) ?_; refine PL.op rfl (Rd.loadO rfl rfl rfl) ?_; refine PL.op rfl (Rd.fieldO rfl rfl) ?_; refine PL.store rfl rfl rfl rfl rfl rfl rfl ?_; refine PL.nO [some ⟨.mx [iA p_a.tag, sL p_a.row], 116, 0⟩, some ⟨.mx [iA (0 : Int), .t (.v (.slice none 0 0))], 96, 0⟩, some ⟨.mx [iA p_a.tag, .t (.v (.slice none 0 0))], 96, 0⟩] rfl ?_; refine PL.nil ?_; refine thA_n ?_; refine PC.seq ?_; obtain ⟨r1, h_2, hh0⟩ := bind_some hh0; refine PC.region ?_; refine PL.op rfl (Rd.fieldO rfl rfl) ?_; refine PL.op rfl (Rd.loadO rfl rfl rfl) ?_; refine PL.callM false [] (w_L_toValueS N p_a.row r1 h_2) rfl Tryz.call113 rfl ⟨.t _, trivial⟩ rfl trivial (fun h => by cases h) ?_; refine PL.nm (.os 3 0 r1.length) [some ⟨.mx [iA p_a.tag, sL p_a.row], 116, 0⟩, some ⟨.mx [iA (0 : Int), .t (.v (.slice none 0 0))], 96, 0⟩, some ⟨.mx [iA p_a.tag, .t (.v (.slice none 0 0))], 96, 0⟩, some ⟨.tr (eL r1), 39, 3⟩] rfl rfl ?_; refine PL.op rfl (Rd.fieldO rfl rfl) ?_; refine PL.store rfl rfl rfl rfl rfl rfl rfl ?_; refine PL.nO [some ⟨.mx [iA p_a.tag, sL p_a.row], 116, 0⟩, some ⟨.mx [iA (0 : Int), .t (.v (.slice none 0 0))], 96, 0⟩, some ⟨.mx [iA p_a.tag, .os 3 0 r1.length], 96, 0⟩, some ⟨.tr (eL r1), 39, 3⟩] rfl ?_; refine PL.nil ?_; refine thA_n ?_; refine PC.seq ?_; refine PC.region ?_; refine PL.op rfl (Rd.loadBox rfl rfl rfl) ?_; refine PL.store rfl rfl rfl rfl rfl rfl rfl ?_; refine PL.nO [some ⟨.mx [iA p_a.tag, sL p_a.row], 116, 0⟩, some ⟨.mx [iA p_a.tag, .os 3 0 r1.length], 96, 0⟩, some ⟨.mx [iA p_a.tag, .os 3 0 r1.length], 96, 0⟩, some ⟨.tr (eL r1), 39, 3⟩] rfl ?_; refine PL.nil ?_; refine thA_n ?_; refine PC.ret ?_; obtain rfl := some_in hh0; exact FinA.mk (r := .agg [iA p_a.tag, .os 0 0 r1.length]) (bl := [⟨.tr (eL r1), 39, 3⟩]) [some 3] (.inl rfl) rfl (rl := [.cell 2 96]) (.cellN rfl rfl rfl rfl .nil) rfl rfl rfl (.aggL ⟨.t _, .os rfl, trivial⟩) ⟨⟨_, rfl, rfl, rfl, .tr _⟩, trivial⟩ ⟨rfl, rfl⟩
def m_L_toTaggedS_k1 (N : Nat) (v14 : (List I_Tagged)) : Option ((List I_Tagged)) :=
  some v14
def m_L_toTaggedS_b1 (N : Nat) (p_a : (List L_Tagged)) (i3 : Int) (v4 : (List I_Tagged)) : Option ((Int × (List I_Tagged)) ⊕ (List I_Tagged)) :=
  cond (decide (i3 < (p_a.length : Int)))
    ((ixI p_a i3).bind fun x21 =>
    (m_L_toTagged N x21).bind fun r23 =>
    (ixI v4 i3).bind fun x25 =>
    (chk (i3 + (1 : Int))).bind fun n27 =>
    some (.inl (n27, (v4.set i3.toNat r23))))
    (some (.inr v4))
def m_L_toTaggedS (N : Nat) (p_a : (List L_Tagged)) : Option ((List I_Tagged)) :=
  (mkM 32 (I_Tagged.mk (0 : Int) ([] : List I_Value)) (p_a.length : Int)).bind fun xs1 =>
  (loopM (β := (List I_Tagged)) (fun s : Int × (List I_Tagged) => m_L_toTaggedS_b1 N p_a s.1 s.2) N ((0 : Int), xs1)).bind fun e =>
  m_L_toTaggedS_k1 N e
theorem w_L_toTaggedS (N : Nat) (p_a : (List L_Tagged)) (r : (List I_Tagged)) (hh0 : m_L_toTaggedS N p_a = some r) : FnX Tryz.prog 42 [] [sL p_a] (RE (.os 0 0 r.length) [⟨.mx (dL 1 0 r), 96, 2⟩, ⟨.fm (fam r), 39, 3⟩]) := by
  unfold m_L_toTaggedS at hh0; refine FnX.mk Tryz.func42 rfl rfl ?_; intro s hs; refine PC.seq ?_; refine PC.region ?_; refine PL.op rfl (Rd.asnT rfl) ?_; refine PL.nil ?_; refine thA_n ?_; refine PC.seq ?_; obtain ⟨xs1, h_2, hh0⟩ := bind_some hh0; refine PC.region ?_; refine PL.op rfl (Rd.moveT rfl) ?_; refine PL.op rfl (Rd.lenT rfl) ?_; refine PL.ef rfl (Ef.makeD (I_Tagged.mk (0 : Int) ([] : List I_Value)) rfl rfl h_2 rfl rfl rfl rfl rfl) ?_; refine PL.fam0 (b := 0) (ity := 39) (ik := 3) (es := xs1) rfl (mkM_rows h_2 rfl) ?_; refine PL.nm (.os 0 0 xs1.length) [some ⟨.mx (dL 1 0 xs1), 96, 2⟩, some ⟨.fm (fam xs1), 39, 3⟩] rfl rfl ?_; refine PL.op rfl (Rd.asnO rfl) ?_; refine PL.nil ?_; refine thA_n ?_; (iterate 2 refine PC.seq ?_); refine PC.region ?_; refine PL.op rfl (Rd.asnT rfl) ?_; refine PL.nil ?_; refine thA_n ?_; obtain ⟨o15, h_16, hh0⟩ := bind_some hh0; refine PC.cutE hs (fun x : (List I_Tagged) => [(3, .os 0 0 x.length)]) (fun x => [⟨.mx (dL 1 0 x), 96, 2⟩, ⟨.fm (fam x), 39, 3⟩]) (fun x => m_L_toTaggedS_k1 N x = some r) ?_ ?_
  · refine PC.block ?_; refine PC.loop hs (fun x : Nat × (Int × (List I_Tagged)) => [(0, sL p_a), (3, .os 0 0 x.2.2.length), (4, iA x.2.1)]) (fun x => [⟨.mx (dL 1 0 x.2.2), 96, 2⟩, ⟨.fm (fam x.2.2), 39, 3⟩]) (fun x => loopM (β := (List I_Tagged)) (fun s : Int × (List I_Tagged) => m_L_toTaggedS_b1 N p_a s.1 s.2) x.1 x.2 = some o15) (fun x => x.1) (N, ((0 : Int), xs1)) [some 0, some 1] ⟨rfl, rfl, ⟨⟨_, rfl, rfl, rfl, .mx (sb_dL rfl 0 _)⟩, ⟨_, rfl, rfl, rfl, .fm _⟩, trivial⟩, ⟨.t _, .os rfl, .t _, trivial⟩⟩ h_16 ?_
    rintro ⟨f17_, i3, v4⟩ h_19
    obtain ⟨f17, y18, rfl, hh1, kk1⟩ := loopM_some h_19
    replace hh1 : m_L_toTaggedS_b1 N p_a i3 v4 = some y18 := hh1
    unfold m_L_toTaggedS_b1 at hh1; (iterate 2 refine PC.seq ?_); refine PC.region ?_; (iterate 2 refine PL.op rfl (Rd.moveT rfl) ?_); refine PL.op rfl (Rd.lenT rfl) ?_; refine PL.op rfl (Rd.lss rfl rfl) ?_; refine PL.nil ?_; refine thA_n ?_; rcases cond_some hh1 with ⟨h_20, hh1⟩ | ⟨h_20, hh1⟩; rotate_left
    · refine PC.cond_false rfl h_20 ?_; refine PC.exit ?_; (iterate 2 refine thA_e ?_); refine inA_eq rfl ?_; refine thA_n ?_; obtain rfl := some_in hh1; obtain rfl : (v4 : (List I_Tagged)) = o15 := kk1; exact ⟨v4, hh0, [some 0, some 1], ⟨rfl, rfl, ⟨⟨_, rfl, rfl, rfl, .mx (sb_dL rfl 0 _)⟩, ⟨_, rfl, rfl, rfl, .fm _⟩, trivial⟩, ⟨.os rfl, trivial⟩⟩⟩
    refine PC.cond_true rfl h_20 ?_; refine PC.skip ?_; refine thA_n ?_; refine PC.seq ?_; refine PC.block ?_; obtain ⟨x21, h_22, hh1⟩ := bind_some hh1; obtain ⟨r23, h_24, hh1⟩ := bind_some hh1; obtain ⟨x25, h_26, hh1⟩ := bind_some hh1; refine PC.region ?_; refine PL.op rfl (Rd.moveO rfl) ?_; (iterate 3 refine PL.op rfl (Rd.moveT rfl) ?_); refine PL.op rfl (Rd.ixM rfl rfl h_22) ?_; refine PL.op rfl (Rd.elMR rfl h_22 rfl rfl) ?_; refine PL.callM false [] (w_L_toTagged N x21 r23 h_24) rfl Tryz.call82 rfl ⟨.aggL ⟨.t _, .t _, trivial⟩, trivial⟩ rfl trivial (fun h => by cases h) ?_; refine PL.nm (.agg [iA r23.tag, .os 2 0 r23.row.length]) [some ⟨.mx (dL 1 0 v4), 96, 2⟩, some ⟨.fm (fam v4), 39, 3⟩, some ⟨.tr (eL r23.row), 39, 3⟩] rfl rfl ?_; refine PL.op rfl (Rd.ixOM rfl rfl rfl (ixI_lt h_26)) ?_; refine PL.adSM hs r23 rfl rfl rfl rfl rfl rfl rfl rfl h_26 rfl rfl rfl rfl rfl rfl rfl ?_; refine PL.nO [some ⟨.mx (dL 3 0 (v4.set i3.toNat r23)), 96, 2⟩, none, none, some ⟨.fm (fam (v4.set i3.toNat r23)), 39, 3⟩] rfl ?_; refine PL.nil ?_; refine inA_n ?_; refine thA_n ?_; obtain ⟨n27, h_28, hh1⟩ := bind_some hh1; refine PC.region ?_; refine PL.op rfl (Rd.moveT rfl) ?_; refine PL.op rfl (Rd.addM rfl rfl h_28) ?_; refine PL.op rfl (Rd.asnT rfl) ?_; refine PL.nil ?_; obtain rfl := some_in hh1; refine thA_n ?_; exact ⟨(f17, (n27, (v4.set i3.toNat r23))), Nat.lt_succ_self _, kk1, [some 0, some 3], ⟨rfl, rfl, ⟨⟨_, rfl, rfl, rfl, .mx (sb_dL rfl 0 _)⟩, ⟨_, rfl, rfl, rfl, .fm _⟩, trivial⟩, ⟨.t _, .osE rfl (by simp only [List.length_set]), .t _, trivial⟩⟩⟩
  clear hh0
  rintro v14 hh0
  replace hh0 : m_L_toTaggedS_k1 N v14 = some r := hh0
  unfold m_L_toTaggedS_k1 at hh0; refine thA_n ?_; refine PC.seq ?_; refine PC.region ?_; refine PL.op rfl (Rd.moveO rfl) ?_; refine PL.op rfl (Rd.asnO rfl) ?_; refine PL.nil ?_; refine thA_n ?_; refine PC.ret ?_; obtain rfl := some_in hh0; exact FinA.mk (r := .os 0 0 v14.length) (bl := [⟨.mx (dL 1 0 v14), 96, 2⟩, ⟨.fm (fam v14), 39, 3⟩]) [some 0, some 1] (.inl rfl) rfl (rl := [.tmp 2]) (.tmp .nil) rfl rfl rfl (.os rfl) ⟨⟨_, rfl, rfl, rfl, .mx (sb_dL rfl 0 _)⟩, ⟨_, rfl, rfl, rfl, .fm _⟩, trivial⟩ ⟨rfl, rfl⟩
def m_L_toTable (N : Nat) (p_a : L_Table) : Option (I_Table) :=
  (m_L_toColumnS N p_a.first).bind fun r1 =>
  (m_L_toChangeS N p_a.changes).bind fun r3 =>
  (m_L_toTaggedS N p_a.rows).bind fun r5 =>
  some (I_Table.mk r1 r3 r5)
theorem w_L_toTable (N : Nat) (p_a : L_Table) (r : I_Table) (hh0 : m_L_toTable N p_a = some r) : FnX Tryz.prog 10 [] [.agg [sL p_a.first, sL p_a.changes, sL p_a.rows]] (RE (.agg [.os 0 0 r.first.length, .os 1 0 r.changes.length, .os 2 0 r.rows.length]) [⟨.tr (eL r.first), 125, 4⟩, ⟨.tr (eL r.changes), 128, 6⟩, ⟨.mx (dL 3 0 r.rows), 96, 2⟩, ⟨.fm (fam r.rows), 39, 3⟩]) := by
  unfold m_L_toTable at hh0; refine FnX.mk Tryz.func10 rfl rfl ?_; intro s hs; refine PC.seq ?_; refine PC.region ?_; refine PL.ef rfl (Ef.box rfl rfl rfl) ?_; refine PL.nm (.op 0 0) [some ⟨.mx [sL p_a.first, sL p_a.changes, sL p_a.rows], 26, 0⟩] rfl rfl ?_; refine PL.ef rfl (Ef.alloc rfl rfl) ?_; refine PL.nm (.op 1 0) [some ⟨.mx [sL p_a.first, sL p_a.changes, sL p_a.rows], 26, 0⟩, some ⟨.mx [.t (.v (.slice none 0 0)), .t (.v (.slice none 0 0)), .t (.v (.slice none 0 0))], 37, 0⟩] rfl rfl ?_; refine PL.nil ?_; refine thA_n ?_; refine PC.seq ?_; refine PC.region ?_; refine PL.ef rfl (Ef.alloc rfl rfl) ?_; refine PL.nm (.op 2 0) [some ⟨.mx [sL p_a.first, sL p_a.changes, sL p_a.rows], 26, 0⟩, some ⟨.mx [.t (.v (.slice none 0 0)), .t (.v (.slice none 0 0)), .t (.v (.slice none 0 0))], 37, 0⟩, some ⟨.mx [.t (.v (.slice none 0 0)), .t (.v (.slice none 0 0)), .t (.v (.slice none 0 0))], 37, 0⟩] rfl rfl ?_; refine PL.nil ?_; refine thA_n ?_; refine PC.seq ?_; obtain ⟨r1, h_2, hh0⟩ := bind_some hh0; refine PC.region ?_; refine PL.op rfl (Rd.fieldO rfl rfl) ?_; refine PL.op rfl (Rd.loadO rfl rfl rfl) ?_; refine PL.callM false [] (w_L_toColumnS N p_a.first r1 h_2) rfl Tryz.call40 rfl ⟨.t _, trivial⟩ rfl trivial (fun h => by cases h) ?_; refine PL.nm (.os 3 0 r1.length) [some ⟨.mx [sL p_a.first, sL p_a.changes, sL p_a.rows], 26, 0⟩, some ⟨.mx [.t (.v (.slice none 0 0)), .t (.v (.slice none 0 0)), .t (.v (.slice none 0 0))], 37, 0⟩, some ⟨.mx [.t (.v (.slice none 0 0)), .t (.v (.slice none 0 0)), .t (.v (.slice none 0 0))], 37, 0⟩, some ⟨.tr (eL r1), 125, 4⟩] rfl rfl ?_; refine PL.op rfl (Rd.fieldO rfl rfl) ?_; refine PL.store rfl rfl rfl rfl rfl rfl rfl ?_; refine PL.nO [some ⟨.mx [sL p_a.first, sL p_a.changes, sL p_a.rows], 26, 0⟩, some ⟨.mx [.t (.v (.slice none 0 0)), .t (.v (.slice none 0 0)), .t (.v (.slice none 0 0))], 37, 0⟩, some ⟨.mx [.os 3 0 r1.length, .t (.v (.slice none 0 0)), .t (.v (.slice none 0 0))], 37, 0⟩, some ⟨.tr (eL r1), 125, 4⟩] rfl ?_; refine PL.nil ?_; refine thA_n ?_; refine PC.seq ?_; obtain ⟨r3, h_4, hh0⟩ := bind_some hh0; refine PC.region ?_; refine PL.op rfl (Rd.fieldO rfl rfl) ?_; refine PL.op rfl (Rd.loadO rfl rfl rfl) ?_; refine PL.callM false [] (w_L_toChangeS N p_a.changes r3 h_4) rfl Tryz.call41 rfl ⟨.t _, trivial⟩ rfl trivial (fun h => by cases h) ?_; refine PL.nm (.os 4 0 r3.length) [some ⟨.mx [sL p_a.first, sL p_a.changes, sL p_a.rows], 26, 0⟩, some ⟨.mx [.t (.v (.slice none 0 0)), .t (.v (.slice none 0 0)), .t (.v (.slice none 0 0))], 37, 0⟩, some ⟨.mx [.os 3 0 r1.length, .t (.v (.slice none 0 0)), .t (.v (.slice none 0 0))], 37, 0⟩, some ⟨.tr (eL r1), 125, 4⟩, some ⟨.tr (eL r3), 128, 6⟩] rfl rfl ?_; refine PL.op rfl (Rd.fieldO rfl rfl) ?_; refine PL.store rfl rfl rfl rfl rfl rfl rfl ?_; refine PL.nO [some ⟨.mx [sL p_a.first, sL p_a.changes, sL p_a.rows], 26, 0⟩, some ⟨.mx [.t (.v (.slice none 0 0)), .t (.v (.slice none 0 0)), .t (.v (.slice none 0 0))], 37, 0⟩, some ⟨.mx [.os 3 0 r1.length, .os 4 0 r3.length, .t (.v (.slice none 0 0))], 37, 0⟩, some ⟨.tr (eL r1), 125, 4⟩, some ⟨.tr (eL r3), 128, 6⟩] rfl ?_; refine PL.nil ?_; refine thA_n ?_; refine PC.seq ?_; obtain ⟨r5, h_6, hh0⟩ := bind_some hh0; refine PC.region ?_; refine PL.op rfl (Rd.fieldO rfl rfl) ?_; refine PL.op rfl (Rd.loadO rfl rfl rfl) ?_; refine PL.callM false [] (w_L_toTaggedS N p_a.rows r5 h_6) rfl Tryz.call42 rfl ⟨.t _, trivial⟩ rfl trivial (fun h => by cases h) ?_; refine PL.nm (.os 5 0 r5.length) [some ⟨.mx [sL p_a.first, sL p_a.changes, sL p_a.rows], 26, 0⟩, some ⟨.mx [.t (.v (.slice none 0 0)), .t (.v (.slice none 0 0)), .t (.v (.slice none 0 0))], 37, 0⟩, some ⟨.mx [.os 3 0 r1.length, .os 4 0 r3.length, .t (.v (.slice none 0 0))], 37, 0⟩, some ⟨.tr (eL r1), 125, 4⟩, some ⟨.tr (eL r3), 128, 6⟩, some ⟨.mx (dL 6 0 r5), 96, 2⟩, some ⟨.fm (fam r5), 39, 3⟩] rfl (by (conv => rhs; rw [show dL 6 0 r5 = AV.renL (thet [] 5) (dL 1 0 r5) from (dL_ren (thet [] 5) 1 0 r5).symm]); rfl) ?_; refine PL.op rfl (Rd.fieldO rfl rfl) ?_; refine PL.store rfl rfl rfl rfl rfl rfl rfl ?_; refine PL.nO [some ⟨.mx [sL p_a.first, sL p_a.changes, sL p_a.rows], 26, 0⟩, some ⟨.mx [.t (.v (.slice none 0 0)), .t (.v (.slice none 0 0)), .t (.v (.slice none 0 0))], 37, 0⟩, some ⟨.mx [.os 3 0 r1.length, .os 4 0 r3.length, .os 5 0 r5.length], 37, 0⟩, some ⟨.tr (eL r1), 125, 4⟩, some ⟨.tr (eL r3), 128, 6⟩, some ⟨.mx (dL 6 0 r5), 96, 2⟩, some ⟨.fm (fam r5), 39, 3⟩] rfl ?_; refine PL.nil ?_; refine thA_n ?_; refine PC.seq ?_; refine PC.region ?_; refine PL.op rfl (Rd.loadBox rfl rfl rfl) ?_; refine PL.store rfl rfl rfl rfl rfl rfl rfl ?_; refine PL.nO [some ⟨.mx [sL p_a.first, sL p_a.changes, sL p_a.rows], 26, 0⟩, some ⟨.mx [.os 3 0 r1.length, .os 4 0 r3.length, .os 5 0 r5.length], 37, 0⟩, some ⟨.mx [.os 3 0 r1.length, .os 4 0 r3.length, .os 5 0 r5.length], 37, 0⟩, some ⟨.tr (eL r1), 125, 4⟩, some ⟨.tr (eL r3), 128, 6⟩, some ⟨.mx (dL 6 0 r5), 96, 2⟩, some ⟨.fm (fam r5), 39, 3⟩] rfl ?_; refine PL.nil ?_; refine thA_n ?_; refine PC.ret ?_; obtain rfl := some_in hh0; exact FinA.mk (r := .agg [.os 0 0 r1.length, .os 1 0 r3.length, .os 2 0 r5.length]) (bl := [⟨.tr (eL r1), 125, 4⟩, ⟨.tr (eL r3), 128, 6⟩, ⟨.mx (dL 3 0 r5), 96, 2⟩, ⟨.fm (fam r5), 39, 3⟩]) [some 3, some 4, some 5, some 6] (.inl rfl) rfl (rl := [.cell 2 37]) (.cellN rfl rfl rfl rfl .nil) rfl rfl rfl (.aggL ⟨.os rfl, .os rfl, .os rfl, trivial⟩) ⟨⟨_, rfl, rfl, rfl, .tr _⟩, ⟨_, rfl, rfl, rfl, .tr _⟩, ⟨_, rfl, rfl, rfl, .mx (sb_dL rfl 0 _)⟩, ⟨_, rfl, rfl, rfl, .fm _⟩, trivial⟩ ⟨rfl, rfl⟩
def m_L_eqValue (N : Nat) (p_a : I_Value) (p_b : I_Value) : Option (Bool) :=
  cond (decide (p_a.kind = p_b.kind))
    (cond (decide (p_a.num = p_b.num))
      (cond (p_a.text.toList == p_b.text.toList)
        (some true)
        (some false))
      (some false))
    (some false)
theorem w_L_eqValue (N : Nat) (p_a : I_Value) (p_b : I_Value) (r : Bool) (hh0 : m_L_eqValue N p_a p_b = some r) : FnX Tryz.prog 115 [] [.agg [iA p_a.kind, iA p_a.num, sA p_a.text], .agg [iA p_b.kind, iA p_b.num, sA p_b.text]] (RE (bA r) []) := by
  unfold m_L_eqValue at hh0; refine FnX.mk Tryz.func115 rfl rfl ?_; intro s hs; refine PC.seq ?_; refine PC.region ?_; refine PL.ef rfl (Ef.box rfl rfl rfl) ?_; refine PL.nm (.op 0 0) [some ⟨.mx [iA p_a.kind, iA p_a.num, sA p_a.text], 39, 0⟩] rfl rfl ?_; refine PL.ef rfl (Ef.box rfl rfl rfl) ?_; refine PL.nm (.op 1 0) [some ⟨.mx [iA p_a.kind, iA p_a.num, sA p_a.text], 39, 0⟩, some ⟨.mx [iA p_b.kind, iA p_b.num, sA p_b.text], 39, 0⟩] rfl rfl ?_; refine PL.op rfl (Rd.asnT rfl) ?_; refine PL.nil ?_; refine thA_n ?_; (iterate 2 refine PC.seq ?_); refine PC.region ?_; refine PL.op rfl (Rd.fieldO rfl rfl) ?_; refine PL.op rfl (Rd.loadO rfl rfl rfl) ?_; refine PL.op rfl (Rd.fieldO rfl rfl) ?_; refine PL.op rfl (Rd.loadO rfl rfl rfl) ?_; refine PL.op rfl (Rd.neq rfl rfl) ?_; refine PL.nil ?_; refine thA_n ?_; rcases cond_some hh0 with ⟨h_1, hh0⟩ | ⟨h_1, hh0⟩; rotate_left
  · refine PC.cond_true rfl (not_f h_1) ?_; refine PC.seq ?_; refine PC.region ?_; refine PL.op rfl (Rd.asnT rfl) ?_; refine PL.nil ?_; refine thA_n ?_; refine PC.ret ?_; refine thA_r ?_; obtain rfl := some_in hh0; exact FinA.mk (r := bA false) (bl := []) [] (.inl rfl) rfl (rl := [.tmp 4]) (.tmp .nil) rfl rfl rfl (.t _) trivial ⟨rfl, rfl⟩
  refine PC.cond_false rfl (not_t h_1) ?_; refine PC.skip ?_; refine thA_n ?_; (iterate 2 refine PC.seq ?_); refine PC.region ?_; refine PL.op rfl (Rd.fieldO rfl rfl) ?_; refine PL.op rfl (Rd.loadO rfl rfl rfl) ?_; refine PL.op rfl (Rd.fieldO rfl rfl) ?_; refine PL.op rfl (Rd.loadO rfl rfl rfl) ?_; refine PL.op rfl (Rd.neq rfl rfl) ?_; refine PL.nil ?_; refine thA_n ?_; rcases cond_some hh0 with ⟨h_2, hh0⟩ | ⟨h_2, hh0⟩; rotate_left
  · refine PC.cond_true rfl (not_f h_2) ?_; refine PC.seq ?_; refine PC.region ?_; refine PL.op rfl (Rd.asnT rfl) ?_; refine PL.nil ?_; refine thA_n ?_; refine PC.ret ?_; refine thA_r ?_; obtain rfl := some_in hh0; exact FinA.mk (r := bA false) (bl := []) [] (.inl rfl) rfl (rl := [.tmp 4]) (.tmp .nil) rfl rfl rfl (.t _) trivial ⟨rfl, rfl⟩
  refine PC.cond_false rfl (not_t h_2) ?_; refine PC.skip ?_; refine thA_n ?_; (iterate 2 refine PC.seq ?_); refine PC.region ?_; refine PL.op rfl (Rd.fieldO rfl rfl) ?_; refine PL.op rfl (Rd.loadO rfl rfl rfl) ?_; refine PL.op rfl (Rd.fieldO rfl rfl) ?_; refine PL.op rfl (Rd.loadO rfl rfl rfl) ?_; refine PL.op rfl (Rd.neqS rfl rfl) ?_; refine PL.nil ?_; refine thA_n ?_; rcases cond_some hh0 with ⟨h_3, hh0⟩ | ⟨h_3, hh0⟩; rotate_left
  · refine PC.cond_true rfl (not_f h_3) ?_; refine PC.seq ?_; refine PC.region ?_; refine PL.op rfl (Rd.asnT rfl) ?_; refine PL.nil ?_; refine thA_n ?_; refine PC.ret ?_; refine thA_r ?_; obtain rfl := some_in hh0; exact FinA.mk (r := bA false) (bl := []) [] (.inl rfl) rfl (rl := [.tmp 4]) (.tmp .nil) rfl rfl rfl (.t _) trivial ⟨rfl, rfl⟩
  refine PC.cond_false rfl (not_t h_3) ?_; refine PC.skip ?_; refine thA_n ?_; refine PC.seq ?_; refine PC.region ?_; refine PL.op rfl (Rd.asnT rfl) ?_; refine PL.nil ?_; refine thA_n ?_; refine PC.ret ?_; obtain rfl := some_in hh0; exact FinA.mk (r := bA true) (bl := []) [] (.inl rfl) rfl (rl := [.tmp 4]) (.tmp .nil) rfl rfl rfl (.t _) trivial ⟨rfl, rfl⟩
def m_L_eqColumn (N : Nat) (p_a : I_Column) (p_b : I_Column) : Option (Bool) :=
  cond (decide (p_a.kind = p_b.kind))
    ((m_L_eqValue N p_a.default p_b.default).bind fun r2 =>
    cond r2
      (some true)
      (some false))
    (some false)
theorem w_L_eqColumn (N : Nat) (p_a : I_Column) (p_b : I_Column) (r : Bool) (hh0 : m_L_eqColumn N p_a p_b = some r) : FnX Tryz.prog 85 [] [.agg [iA p_a.kind, iA p_a.default.kind, iA p_a.default.num, sA p_a.default.text], .agg [iA p_b.kind, iA p_b.default.kind, iA p_b.default.num, sA p_b.default.text]] (RE (bA r) []) := by
  unfold m_L_eqColumn at hh0; refine FnX.mk Tryz.func85 rfl rfl ?_; intro s hs; refine PC.seq ?_; refine PC.region ?_; refine PL.ef rfl (Ef.box rfl rfl rfl) ?_; refine PL.nm (.op 0 0) [some ⟨.mx [iA p_a.kind, iA p_a.default.kind, iA p_a.default.num, sA p_a.default.text], 125, 0⟩] rfl rfl ?_; refine PL.ef rfl (Ef.box rfl rfl rfl) ?_; refine PL.nm (.op 1 0) [some ⟨.mx [iA p_a.kind, iA p_a.default.kind, iA p_a.default.num, sA p_a.default.text], 125, 0⟩, some ⟨.mx [iA p_b.kind, iA p_b.default.kind, iA p_b.default.num, sA p_b.default.text], 125, 0⟩] rfl rfl ?_; refine PL.op rfl (Rd.asnT rfl) ?_; refine PL.nil ?_; refine thA_n ?_; (iterate 2 refine PC.seq ?_); refine PC.region ?_; refine PL.op rfl (Rd.fieldO rfl rfl) ?_; refine PL.op rfl (Rd.loadO rfl rfl rfl) ?_; refine PL.op rfl (Rd.fieldO rfl rfl) ?_; refine PL.op rfl (Rd.loadO rfl rfl rfl) ?_; refine PL.op rfl (Rd.neq rfl rfl) ?_; refine PL.nil ?_; refine thA_n ?_; rcases cond_some hh0 with ⟨h_1, hh0⟩ | ⟨h_1, hh0⟩; rotate_left
  · refine PC.cond_true rfl (not_f h_1) ?_; refine PC.seq ?_; refine PC.region ?_; refine PL.op rfl (Rd.asnT rfl) ?_; refine PL.nil ?_; refine thA_n ?_; refine PC.ret ?_; refine thA_r ?_; obtain rfl := some_in hh0; exact FinA.mk (r := bA false) (bl := []) [] (.inl rfl) rfl (rl := [.tmp 4]) (.tmp .nil) rfl rfl rfl (.t _) trivial ⟨rfl, rfl⟩
  refine PC.cond_false rfl (not_t h_1) ?_; refine PC.skip ?_; refine thA_n ?_; (iterate 2 refine PC.seq ?_); obtain ⟨r2, h_3, hh0⟩ := bind_some hh0; refine PC.region ?_; refine PL.op rfl (Rd.fieldO rfl rfl) ?_; refine PL.op rfl (Rd.loadSub rfl rfl rfl rfl) ?_; refine PL.op rfl (Rd.fieldO rfl rfl) ?_; refine PL.op rfl (Rd.loadSub rfl rfl rfl rfl) ?_; refine PL.callM false [] (w_L_eqValue N p_a.default p_b.default r2 h_3) rfl Tryz.call115 rfl ⟨.aggL ⟨.t _, .t _, .t _, trivial⟩, .aggL ⟨.t _, .t _, .t _, trivial⟩, trivial⟩ rfl trivial (fun h => by cases h) ?_; refine PL.op rfl (Rd.unnot rfl) ?_; refine PL.nil ?_; refine thA_n ?_; rcases cond_some hh0 with ⟨h_4, hh0⟩ | ⟨h_4, hh0⟩; rotate_left
  · refine PC.cond_true rfl (not_f h_4) ?_; refine PC.seq ?_; refine PC.region ?_; refine PL.op rfl (Rd.asnT rfl) ?_; refine PL.nil ?_; refine thA_n ?_; refine PC.ret ?_; refine thA_r ?_; obtain rfl := some_in hh0; exact FinA.mk (r := bA false) (bl := []) [] (.inl rfl) rfl (rl := [.tmp 4]) (.tmp .nil) rfl rfl rfl (.t _) trivial ⟨rfl, rfl⟩
  refine PC.cond_false rfl (not_t h_4) ?_; refine PC.skip ?_; refine thA_n ?_; refine PC.seq ?_; refine PC.region ?_; refine PL.op rfl (Rd.asnT rfl) ?_; refine PL.nil ?_; refine thA_n ?_; refine PC.ret ?_; obtain rfl := some_in hh0; exact FinA.mk (r := bA true) (bl := []) [] (.inl rfl) rfl (rl := [.tmp 4]) (.tmp .nil) rfl rfl rfl (.t _) trivial ⟨rfl, rfl⟩
def m_L_eqColumnS_k1 (N : Nat) : Option (Bool) :=
  some true
def m_L_eqColumnS_b1 (N : Nat) (p_a : (List I_Column)) (p_b : (List I_Column)) (i2 : Int) : Option (Int ⊕ (Unit ⊕ Bool)) :=
  cond (decide (i2 < (p_a.length : Int)))
    ((ixI p_a i2).bind fun x19 =>
    (ixI p_b i2).bind fun x21 =>
    (m_L_eqColumn N x19 x21).bind fun r23 =>
    cond r23
      ((chk (i2 + (1 : Int))).bind fun n26 =>
      some (.inl n26))
      (some (.inr (.inr false))))
    (some (.inr (.inl ())))
def m_L_eqColumnS (N : Nat) (p_a : (List I_Column)) (p_b : (List I_Column)) : Option (Bool) :=
  cond (decide ((p_a.length : Int) = (p_b.length : Int)))
    ((loopM (β := Unit ⊕ Bool) (fun s : Int => m_L_eqColumnS_b1 N p_a p_b s) N (0 : Int)).bind fun o => match o with
    | .inl e =>
      m_L_eqColumnS_k1 N 
    | .inr v =>
      some v)
    (some false)
theorem w_L_eqColumnS (N : Nat) (p_a : (List I_Column)) (p_b : (List I_Column)) (r : Bool) (hh0 : m_L_eqColumnS N p_a p_b = some r) : FnX Tryz.prog 45 [] [sL p_a, sL p_b] (RE (bA r) []) := by
  unfold m_L_eqColumnS at hh0; refine FnX.mk Tryz.func45 rfl rfl ?_; intro s hs; refine PC.seq ?_; refine PC.region ?_; refine PL.op rfl (Rd.asnT rfl) ?_; refine PL.nil ?_; refine thA_n ?_; (iterate 2 refine PC.seq ?_); refine PC.region ?_; refine PL.op rfl (Rd.moveT rfl) ?_; refine PL.op rfl (Rd.lenT rfl) ?_; refine PL.op rfl (Rd.moveT rfl) ?_; refine PL.op rfl (Rd.lenT rfl) ?_; refine PL.op rfl (Rd.neq rfl rfl) ?_; refine PL.nil ?_; refine thA_n ?_; rcases cond_some hh0 with ⟨h_1, hh0⟩ | ⟨h_1, hh0⟩; rotate_left
  · refine PC.cond_true rfl (not_f h_1) ?_; refine PC.seq ?_; refine PC.region ?_; refine PL.op rfl (Rd.asnT rfl) ?_; refine PL.nil ?_; refine thA_n ?_; refine PC.ret ?_; refine thA_r ?_; obtain rfl := some_in hh0; exact FinA.mk (r := bA false) (bl := []) [] (.inl rfl) rfl (rl := [.tmp 4]) (.tmp .nil) rfl rfl rfl (.t _) trivial ⟨rfl, rfl⟩
  refine PC.cond_false rfl (not_t h_1) ?_; refine PC.skip ?_; refine thA_n ?_; (iterate 2 refine PC.seq ?_); refine PC.region ?_; refine PL.op rfl (Rd.asnT rfl) ?_; refine PL.nil ?_; refine thA_n ?_; obtain ⟨o13, h_14, hh0⟩ := bind_some hh0; refine PC.cutE hs (fun x : Unit => []) (fun x => []) (fun x => m_L_eqColumnS_k1 N  = some r) ?_ ?_
  · refine PC.block ?_; refine PC.loop hs (fun x : Nat × (Int) => [(0, sL p_a), (1, sL p_b), (5, iA x.2)]) (fun x => []) (fun x => loopM (β := Unit ⊕ Bool) (fun s : Int => m_L_eqColumnS_b1 N p_a p_b s) x.1 x.2 = some o13) (fun x => x.1) (N, (0 : Int)) [] ⟨rfl, rfl, trivial, ⟨.t _, .t _, .t _, trivial⟩⟩ h_14 ?_
    rintro ⟨f15_, i2⟩ h_17
    obtain ⟨f15, y16, rfl, hh1, kk1⟩ := loopM_some h_17
    replace hh1 : m_L_eqColumnS_b1 N p_a p_b i2 = some y16 := hh1
    unfold m_L_eqColumnS_b1 at hh1; (iterate 2 refine PC.seq ?_); refine PC.region ?_; (iterate 2 refine PL.op rfl (Rd.moveT rfl) ?_); refine PL.op rfl (Rd.lenT rfl) ?_; refine PL.op rfl (Rd.lss rfl rfl) ?_; refine PL.nil ?_; refine thA_n ?_; rcases cond_some hh1 with ⟨h_18, hh1⟩ | ⟨h_18, hh1⟩; rotate_left
    · refine PC.cond_false rfl h_18 ?_; refine PC.exit ?_; (iterate 2 refine thA_e ?_); refine inA_eq rfl ?_; refine thA_n ?_; obtain rfl := some_in hh1; obtain rfl : (.inl () : Unit ⊕ Bool) = o13 := kk1; exact ⟨(), hh0, [], ⟨rfl, rfl, trivial, trivial⟩⟩
    refine PC.cond_true rfl h_18 ?_; refine PC.skip ?_; refine thA_n ?_; refine PC.seq ?_; refine PC.block ?_; refine PC.seq ?_; obtain ⟨x19, h_20, hh1⟩ := bind_some hh1; obtain ⟨x21, h_22, hh1⟩ := bind_some hh1; obtain ⟨r23, h_24, hh1⟩ := bind_some hh1; refine PC.any (id := 6) 10 (.seg [0, 1, 2, 3, 4, 5, 6, 7, 8, 9] .done) [] rfl (by kernel_rfl) rfl ?_; refine PT.seg ?_; (iterate 2 refine PR.op rfl (Rd.moveT rfl) ?_); refine PR.op rfl (Rd.ixM rfl rfl h_20) ?_; refine PR.op rfl (Rd.elMR rfl h_20 rfl rfl) ?_; (iterate 2 refine PR.op rfl (Rd.moveT rfl) ?_); refine PR.op rfl (Rd.ixM rfl rfl h_22) ?_; refine PR.op rfl (Rd.elMR rfl h_22 rfl rfl) ?_; refine PR.callM false [] (w_L_eqColumn N x19 x21 r23 h_24) rfl Tryz.call85 rfl ⟨.aggL ⟨.t _, .t _, .t _, .t _, trivial⟩, .aggL ⟨.t _, .t _, .t _, .t _, trivial⟩, trivial⟩ rfl trivial (fun h => by cases h) rfl ?_; refine PR.op rfl (Rd.unnot rfl) ?_; refine PR.nil ?_; refine PT.done ?_; refine PL.nil ?_; refine thA_n ?_; rcases cond_some hh1 with ⟨h_25, hh1⟩ | ⟨h_25, hh1⟩
    · refine PC.cond_false rfl (not_t h_25) ?_; refine PC.skip ?_; refine inA_n ?_; refine thA_n ?_; obtain ⟨n26, h_27, hh1⟩ := bind_some hh1; refine PC.region ?_; refine PL.op rfl (Rd.moveT rfl) ?_; refine PL.op rfl (Rd.addM rfl rfl h_27) ?_; refine PL.op rfl (Rd.asnT rfl) ?_; refine PL.nil ?_; obtain rfl := some_in hh1; refine thA_n ?_; exact ⟨(f15, n26), Nat.lt_succ_self _, kk1, [], ⟨rfl, rfl, trivial, ⟨.t _, .t _, .t _, trivial⟩⟩⟩
    refine PC.cond_true rfl (not_f h_25) ?_; refine PC.seq ?_; refine PC.region ?_; refine PL.op rfl (Rd.asnT rfl) ?_; refine PL.nil ?_; refine thA_n ?_; refine PC.ret ?_; refine inA_r ?_; (iterate 2 refine thA_r ?_); refine inA_r ?_; refine thA_r ?_; obtain rfl := some_in hh1; obtain rfl : (.inr false : Unit ⊕ Bool) = o13 := kk1; refine thA_r ?_; obtain rfl := some_in hh0; exact FinA.mk (r := bA false) (bl := []) [] (.inl rfl) rfl (rl := [.tmp 4]) (.tmp .nil) rfl rfl rfl (.t _) trivial ⟨rfl, rfl⟩
  clear hh0
  rintro ⟨⟩ hh0
  replace hh0 : m_L_eqColumnS_k1 N  = some r := hh0
  unfold m_L_eqColumnS_k1 at hh0; refine thA_n ?_; refine PC.seq ?_; refine PC.region ?_; refine PL.op rfl (Rd.asnT rfl) ?_; refine PL.nil ?_; refine thA_n ?_; refine PC.ret ?_; obtain rfl := some_in hh0; exact FinA.mk (r := bA true) (bl := []) [] (.inl rfl) rfl (rl := [.tmp 4]) (.tmp .nil) rfl rfl rfl (.t _) trivial ⟨rfl, rfl⟩
def m_L_eqChange (N : Nat) (p_a : I_Change) (p_b : I_Change) : Option (Bool) :=
  cond (decide (p_a.kind = p_b.kind))
    (cond (decide (p_a.at_ = p_b.at_))
      ((m_L_eqColumn N p_a.column p_b.column).bind fun r3 =>
      cond r3
        (some true)
        (some false))
      (some false))
    (some false)
theorem w_L_eqChange (N : Nat) (p_a : I_Change) (p_b : I_Change) (r : Bool) (hh0 : m_L_eqChange N p_a p_b = some r) : FnX Tryz.prog 86 [] [.agg [iA p_a.kind, iA p_a.at_, iA p_a.column.kind, iA p_a.column.default.kind, iA p_a.column.default.num, sA p_a.column.default.text], .agg [iA p_b.kind, iA p_b.at_, iA p_b.column.kind, iA p_b.column.default.kind, iA p_b.column.default.num, sA p_b.column.default.text]] (RE (bA r) []) := by
  unfold m_L_eqChange at hh0; refine FnX.mk Tryz.func86 rfl rfl ?_; intro s hs; refine PC.seq ?_; refine PC.region ?_; refine PL.ef rfl (Ef.box rfl rfl rfl) ?_; refine PL.nm (.op 0 0) [some ⟨.mx [iA p_a.kind, iA p_a.at_, iA p_a.column.kind, iA p_a.column.default.kind, iA p_a.column.default.num, sA p_a.column.default.text], 128, 0⟩] rfl rfl ?_; refine PL.ef rfl (Ef.box rfl rfl rfl) ?_; refine PL.nm (.op 1 0) [some ⟨.mx [iA p_a.kind, iA p_a.at_, iA p_a.column.kind, iA p_a.column.default.kind, iA p_a.column.default.num, sA p_a.column.default.text], 128, 0⟩, some ⟨.mx [iA p_b.kind, iA p_b.at_, iA p_b.column.kind, iA p_b.column.default.kind, iA p_b.column.default.num, sA p_b.column.default.text], 128, 0⟩] rfl rfl ?_; refine PL.op rfl (Rd.asnT rfl) ?_; refine PL.nil ?_; refine thA_n ?_; (iterate 2 refine PC.seq ?_); refine PC.region ?_; refine PL.op rfl (Rd.fieldO rfl rfl) ?_; refine PL.op rfl (Rd.loadO rfl rfl rfl) ?_; refine PL.op rfl (Rd.fieldO rfl rfl) ?_; refine PL.op rfl (Rd.loadO rfl rfl rfl) ?_; refine PL.op rfl (Rd.neq rfl rfl) ?_; refine PL.nil ?_; refine thA_n ?_; rcases cond_some hh0 with ⟨h_1, hh0⟩ | ⟨h_1, hh0⟩; rotate_left
  · refine PC.cond_true rfl (not_f h_1) ?_; refine PC.seq ?_; refine PC.region ?_; refine PL.op rfl (Rd.asnT rfl) ?_; refine PL.nil ?_; refine thA_n ?_; refine PC.ret ?_; refine thA_r ?_; obtain rfl := some_in hh0; exact FinA.mk (r := bA false) (bl := []) [] (.inl rfl) rfl (rl := [.tmp 4]) (.tmp .nil) rfl rfl rfl (.t _) trivial ⟨rfl, rfl⟩
  refine PC.cond_false rfl (not_t h_1) ?_; refine PC.skip ?_; refine thA_n ?_; (iterate 2 refine PC.seq ?_); refine PC.region ?_; refine PL.op rfl (Rd.fieldO rfl rfl) ?_; refine PL.op rfl (Rd.loadO rfl rfl rfl) ?_; refine PL.op rfl (Rd.fieldO rfl rfl) ?_; refine PL.op rfl (Rd.loadO rfl rfl rfl) ?_; refine PL.op rfl (Rd.neq rfl rfl) ?_; refine PL.nil ?_; refine thA_n ?_; rcases cond_some hh0 with ⟨h_2, hh0⟩ | ⟨h_2, hh0⟩; rotate_left
  · refine PC.cond_true rfl (not_f h_2) ?_; refine PC.seq ?_; refine PC.region ?_; refine PL.op rfl (Rd.asnT rfl) ?_; refine PL.nil ?_; refine thA_n ?_; refine PC.ret ?_; refine thA_r ?_; obtain rfl := some_in hh0; exact FinA.mk (r := bA false) (bl := []) [] (.inl rfl) rfl (rl := [.tmp 4]) (.tmp .nil) rfl rfl rfl (.t _) trivial ⟨rfl, rfl⟩
  refine PC.cond_false rfl (not_t h_2) ?_; refine PC.skip ?_; refine thA_n ?_; (iterate 2 refine PC.seq ?_); obtain ⟨r3, h_4, hh0⟩ := bind_some hh0; refine PC.region ?_; refine PL.op rfl (Rd.fieldO rfl rfl) ?_; refine PL.op rfl (Rd.loadSub rfl rfl rfl rfl) ?_; refine PL.op rfl (Rd.fieldO rfl rfl) ?_; refine PL.op rfl (Rd.loadSub rfl rfl rfl rfl) ?_; refine PL.callM false [] (w_L_eqColumn N p_a.column p_b.column r3 h_4) rfl Tryz.call85 rfl ⟨.aggL ⟨.t _, .t _, .t _, .t _, trivial⟩, .aggL ⟨.t _, .t _, .t _, .t _, trivial⟩, trivial⟩ rfl trivial (fun h => by cases h) ?_; refine PL.op rfl (Rd.unnot rfl) ?_; refine PL.nil ?_; refine thA_n ?_; rcases cond_some hh0 with ⟨h_5, hh0⟩ | ⟨h_5, hh0⟩; rotate_left
  · refine PC.cond_true rfl (not_f h_5) ?_; refine PC.seq ?_; refine PC.region ?_; refine PL.op rfl (Rd.asnT rfl) ?_; refine PL.nil ?_; refine thA_n ?_; refine PC.ret ?_; refine thA_r ?_; obtain rfl := some_in hh0; exact FinA.mk (r := bA false) (bl := []) [] (.inl rfl) rfl (rl := [.tmp 4]) (.tmp .nil) rfl rfl rfl (.t _) trivial ⟨rfl, rfl⟩
  refine PC.cond_false rfl (not_t h_5) ?_; refine PC.skip ?_; refine thA_n ?_; refine PC.seq ?_; refine PC.region ?_; refine PL.op rfl (Rd.asnT rfl) ?_; refine PL.nil ?_; refine thA_n ?_; refine PC.ret ?_; obtain rfl := some_in hh0; exact FinA.mk (r := bA true) (bl := []) [] (.inl rfl) rfl (rl := [.tmp 4]) (.tmp .nil) rfl rfl rfl (.t _) trivial ⟨rfl, rfl⟩
def m_L_eqChangeS_k1 (N : Nat) : Option (Bool) :=
  some true
def m_L_eqChangeS_b1 (N : Nat) (p_a : (List I_Change)) (p_b : (List I_Change)) (i2 : Int) : Option (Int ⊕ (Unit ⊕ Bool)) :=
  cond (decide (i2 < (p_a.length : Int)))
    ((ixI p_a i2).bind fun x19 =>
    (ixI p_b i2).bind fun x21 =>
    (m_L_eqChange N x19 x21).bind fun r23 =>
    cond r23
      ((chk (i2 + (1 : Int))).bind fun n26 =>
      some (.inl n26))
      (some (.inr (.inr false))))
    (some (.inr (.inl ())))
def m_L_eqChangeS (N : Nat) (p_a : (List I_Change)) (p_b : (List I_Change)) : Option (Bool) :=
  cond (decide ((p_a.length : Int) = (p_b.length : Int)))
    ((loopM (β := Unit ⊕ Bool) (fun s : Int => m_L_eqChangeS_b1 N p_a p_b s) N (0 : Int)).bind fun o => match o with
    | .inl e =>
      m_L_eqChangeS_k1 N 
    | .inr v =>
      some v)
    (some false)
theorem w_L_eqChangeS (N : Nat) (p_a : (List I_Change)) (p_b : (List I_Change)) (r : Bool) (hh0 : m_L_eqChangeS N p_a p_b = some r) : FnX Tryz.prog 46 [] [sL p_a, sL p_b] (RE (bA r) []) := by
  unfold m_L_eqChangeS at hh0; refine FnX.mk Tryz.func46 rfl rfl ?_; intro s hs; refine PC.seq ?_; refine PC.region ?_; refine PL.op rfl (Rd.asnT rfl) ?_; refine PL.nil ?_; refine thA_n ?_; (iterate 2 refine PC.seq ?_); refine PC.region ?_; refine PL.op rfl (Rd.moveT rfl) ?_; refine PL.op rfl (Rd.lenT rfl) ?_; refine PL.op rfl (Rd.moveT rfl) ?_; refine PL.op rfl (Rd.lenT rfl) ?_; refine PL.op rfl (Rd.neq rfl rfl) ?_; refine PL.nil ?_; refine thA_n ?_; rcases cond_some hh0 with ⟨h_1, hh0⟩ | ⟨h_1, hh0⟩; rotate_left
  · refine PC.cond_true rfl (not_f h_1) ?_; refine PC.seq ?_; refine PC.region ?_; refine PL.op rfl (Rd.asnT rfl) ?_; refine PL.nil ?_; refine thA_n ?_; refine PC.ret ?_; refine thA_r ?_; obtain rfl := some_in hh0; exact FinA.mk (r := bA false) (bl := []) [] (.inl rfl) rfl (rl := [.tmp 4]) (.tmp .nil) rfl rfl rfl (.t _) trivial ⟨rfl, rfl⟩
  refine PC.cond_false rfl (not_t h_1) ?_; refine PC.skip ?_; refine thA_n ?_; (iterate 2 refine PC.seq ?_); refine PC.region ?_; refine PL.op rfl (Rd.asnT rfl) ?_; refine PL.nil ?_; refine thA_n ?_; obtain ⟨o13, h_14, hh0⟩ := bind_some hh0; refine PC.cutE hs (fun x : Unit => []) (fun x => []) (fun x => m_L_eqChangeS_k1 N  = some r) ?_ ?_
  · refine PC.block ?_; refine PC.loop hs (fun x : Nat × (Int) => [(0, sL p_a), (1, sL p_b), (5, iA x.2)]) (fun x => []) (fun x => loopM (β := Unit ⊕ Bool) (fun s : Int => m_L_eqChangeS_b1 N p_a p_b s) x.1 x.2 = some o13) (fun x => x.1) (N, (0 : Int)) [] ⟨rfl, rfl, trivial, ⟨.t _, .t _, .t _, trivial⟩⟩ h_14 ?_
    rintro ⟨f15_, i2⟩ h_17
    obtain ⟨f15, y16, rfl, hh1, kk1⟩ := loopM_some h_17
    replace hh1 : m_L_eqChangeS_b1 N p_a p_b i2 = some y16 := hh1
    unfold m_L_eqChangeS_b1 at hh1; (iterate 2 refine PC.seq ?_); refine PC.region ?_; (iterate 2 refine PL.op rfl (Rd.moveT rfl) ?_); refine PL.op rfl (Rd.lenT rfl) ?_; refine PL.op rfl (Rd.lss rfl rfl) ?_; refine PL.nil ?_; refine thA_n ?_; rcases cond_some hh1 with ⟨h_18, hh1⟩ | ⟨h_18, hh1⟩; rotate_left
    · refine PC.cond_false rfl h_18 ?_; refine PC.exit ?_; (iterate 2 refine thA_e ?_); refine inA_eq rfl ?_; refine thA_n ?_; obtain rfl := some_in hh1; obtain rfl : (.inl () : Unit ⊕ Bool) = o13 := kk1; exact ⟨(), hh0, [], ⟨rfl, rfl, trivial, trivial⟩⟩
    refine PC.cond_true rfl h_18 ?_; refine PC.skip ?_; refine thA_n ?_; refine PC.seq ?_; refine PC.block ?_; refine PC.seq ?_; obtain ⟨x19, h_20, hh1⟩ := bind_some hh1; obtain ⟨x21, h_22, hh1⟩ := bind_some hh1; obtain ⟨r23, h_24, hh1⟩ := bind_some hh1; refine PC.any (id := 6) 10 (.seg [0, 1, 2, 3, 4, 5, 6, 7, 8, 9] .done) [] rfl (by kernel_rfl) rfl ?_; refine PT.seg ?_; (iterate 2 refine PR.op rfl (Rd.moveT rfl) ?_); refine PR.op rfl (Rd.ixM rfl rfl h_20) ?_; refine PR.op rfl (Rd.elMR rfl h_20 rfl rfl) ?_; (iterate 2 refine PR.op rfl (Rd.moveT rfl) ?_); refine PR.op rfl (Rd.ixM rfl rfl h_22) ?_; refine PR.op rfl (Rd.elMR rfl h_22 rfl rfl) ?_; refine PR.callM false [] (w_L_eqChange N x19 x21 r23 h_24) rfl Tryz.call86 rfl ⟨.aggL ⟨.t _, .t _, .t _, .t _, .t _, .t _, trivial⟩, .aggL ⟨.t _, .t _, .t _, .t _, .t _, .t _, trivial⟩, trivial⟩ rfl trivial (fun h => by cases h) rfl ?_; refine PR.op rfl (Rd.unnot rfl) ?_; refine PR.nil ?_; refine PT.done ?_; refine PL.nil ?_; refine thA_n ?_; rcases cond_some hh1 with ⟨h_25, hh1⟩ | ⟨h_25, hh1⟩
    · refine PC.cond_false rfl (not_t h_25) ?_; refine PC.skip ?_; refine inA_n ?_; refine thA_n ?_; obtain ⟨n26, h_27, hh1⟩ := bind_some hh1; refine PC.region ?_; refine PL.op rfl (Rd.moveT rfl) ?_; refine PL.op rfl (Rd.addM rfl rfl h_27) ?_; refine PL.op rfl (Rd.asnT rfl) ?_; refine PL.nil ?_; obtain rfl := some_in hh1; refine thA_n ?_; exact ⟨(f15, n26), Nat.lt_succ_self _, kk1, [], ⟨rfl, rfl, trivial, ⟨.t _, .t _, .t _, trivial⟩⟩⟩
    refine PC.cond_true rfl (not_f h_25) ?_; refine PC.seq ?_; refine PC.region ?_; refine PL.op rfl (Rd.asnT rfl) ?_; refine PL.nil ?_; refine thA_n ?_; refine PC.ret ?_; refine inA_r ?_; (iterate 2 refine thA_r ?_); refine inA_r ?_; refine thA_r ?_; obtain rfl := some_in hh1; obtain rfl : (.inr false : Unit ⊕ Bool) = o13 := kk1; refine thA_r ?_; obtain rfl := some_in hh0; exact FinA.mk (r := bA false) (bl := []) [] (.inl rfl) rfl (rl := [.tmp 4]) (.tmp .nil) rfl rfl rfl (.t _) trivial ⟨rfl, rfl⟩
  clear hh0
  rintro ⟨⟩ hh0
  replace hh0 : m_L_eqChangeS_k1 N  = some r := hh0
  unfold m_L_eqChangeS_k1 at hh0; refine thA_n ?_; refine PC.seq ?_; refine PC.region ?_; refine PL.op rfl (Rd.asnT rfl) ?_; refine PL.nil ?_; refine thA_n ?_; refine PC.ret ?_; obtain rfl := some_in hh0; exact FinA.mk (r := bA true) (bl := []) [] (.inl rfl) rfl (rl := [.tmp 4]) (.tmp .nil) rfl rfl rfl (.t _) trivial ⟨rfl, rfl⟩
def m_L_eqValueS_k1 (N : Nat) : Option (Bool) :=
  some true
def m_L_eqValueS_b1 (N : Nat) (p_a : (List I_Value)) (p_b : (List I_Value)) (i2 : Int) : Option (Int ⊕ (Unit ⊕ Bool)) :=
  cond (decide (i2 < (p_a.length : Int)))
    ((ixI p_a i2).bind fun x19 =>
    (ixI p_b i2).bind fun x21 =>
    (m_L_eqValue N x19 x21).bind fun r23 =>
    cond r23
      ((chk (i2 + (1 : Int))).bind fun n26 =>
      some (.inl n26))
      (some (.inr (.inr false))))
    (some (.inr (.inl ())))
def m_L_eqValueS (N : Nat) (p_a : (List I_Value)) (p_b : (List I_Value)) : Option (Bool) :=
  cond (decide ((p_a.length : Int) = (p_b.length : Int)))
    ((loopM (β := Unit ⊕ Bool) (fun s : Int => m_L_eqValueS_b1 N p_a p_b s) N (0 : Int)).bind fun o => match o with
    | .inl e =>
      m_L_eqValueS_k1 N 
    | .inr v =>
      some v)
    (some false)
theorem w_L_eqValueS (N : Nat) (p_a : (List I_Value)) (p_b : (List I_Value)) (r : Bool) (hh0 : m_L_eqValueS N p_a p_b = some r) : FnX Tryz.prog 116 [] [sL p_a, sL p_b] (RE (bA r) []) := by
  unfold m_L_eqValueS at hh0; refine FnX.mk Tryz.func116 rfl rfl ?_; intro s hs; refine PC.seq ?_; refine PC.region ?_; refine PL.op rfl (Rd.asnT rfl) ?_; refine PL.nil ?_; refine thA_n ?_; (iterate 2 refine PC.seq ?_); refine PC.region ?_; refine PL.op rfl (Rd.moveT rfl) ?_; refine PL.op rfl (Rd.lenT rfl) ?_; refine PL.op rfl (Rd.moveT rfl) ?_; refine PL.op rfl (Rd.lenT rfl) ?_; refine PL.op rfl (Rd.neq rfl rfl) ?_; refine PL.nil ?_; refine thA_n ?_; rcases cond_some hh0 with ⟨h_1, hh0⟩ | ⟨h_1, hh0⟩; rotate_left
  · refine PC.cond_true rfl (not_f h_1) ?_; refine PC.seq ?_; refine PC.region ?_; refine PL.op rfl (Rd.asnT rfl) ?_; refine PL.nil ?_; refine thA_n ?_; refine PC.ret ?_; refine thA_r ?_; obtain rfl := some_in hh0; exact FinA.mk (r := bA false) (bl := []) [] (.inl rfl) rfl (rl := [.tmp 4]) (.tmp .nil) rfl rfl rfl (.t _) trivial ⟨rfl, rfl⟩
  refine PC.cond_false rfl (not_t h_1) ?_; refine PC.skip ?_; refine thA_n ?_; (iterate 2 refine PC.seq ?_); refine PC.region ?_; refine PL.op rfl (Rd.asnT rfl) ?_; refine PL.nil ?_; refine thA_n ?_; obtain ⟨o13, h_14, hh0⟩ := bind_some hh0; refine PC.cutE hs (fun x : Unit => []) (fun x => []) (fun x => m_L_eqValueS_k1 N  = some r) ?_ ?_
  · refine PC.block ?_; refine PC.loop hs (fun x : Nat × (Int) => [(0, sL p_a), (1, sL p_b), (5, iA x.2)]) (fun x => []) (fun x => loopM (β := Unit ⊕ Bool) (fun s : Int => m_L_eqValueS_b1 N p_a p_b s) x.1 x.2 = some o13) (fun x => x.1) (N, (0 : Int)) [] ⟨rfl, rfl, trivial, ⟨.t _, .t _, .t _, trivial⟩⟩ h_14 ?_
    rintro ⟨f15_, i2⟩ h_17
    obtain ⟨f15, y16, rfl, hh1, kk1⟩ := loopM_some h_17
    replace hh1 : m_L_eqValueS_b1 N p_a p_b i2 = some y16 := hh1
    unfold m_L_eqValueS_b1 at hh1; (iterate 2 refine PC.seq ?_); refine PC.region ?_; (iterate 2 refine PL.op rfl (Rd.moveT rfl) ?_); refine PL.op rfl (Rd.lenT rfl) ?_; refine PL.op rfl (Rd.lss rfl rfl) ?_; refine PL.nil ?_; refine thA_n ?_; rcases cond_some hh1 with ⟨h_18, hh1⟩ | ⟨h_18, hh1⟩; rotate_left
    · refine PC.cond_false rfl h_18 ?_; refine PC.exit ?_; (iterate 2 refine thA_e ?_); refine inA_eq rfl ?_; refine thA_n ?_; obtain rfl := some_in hh1; obtain rfl : (.inl () : Unit ⊕ Bool) = o13 := kk1; exact ⟨(), hh0, [], ⟨rfl, rfl, trivial, trivial⟩⟩
    refine PC.cond_true rfl h_18 ?_; refine PC.skip ?_; refine thA_n ?_; refine PC.seq ?_; refine PC.block ?_; refine PC.seq ?_; obtain ⟨x19, h_20, hh1⟩ := bind_some hh1; obtain ⟨x21, h_22, hh1⟩ := bind_some hh1; obtain ⟨r23, h_24, hh1⟩ := bind_some hh1; refine PC.any (id := 6) 10 (.seg [0, 1, 2, 3, 4, 5, 6, 7, 8, 9] .done) [] rfl (by kernel_rfl) rfl ?_; refine PT.seg ?_; (iterate 2 refine PR.op rfl (Rd.moveT rfl) ?_); refine PR.op rfl (Rd.ixM rfl rfl h_20) ?_; refine PR.op rfl (Rd.elMR rfl h_20 rfl rfl) ?_; (iterate 2 refine PR.op rfl (Rd.moveT rfl) ?_); refine PR.op rfl (Rd.ixM rfl rfl h_22) ?_; refine PR.op rfl (Rd.elMR rfl h_22 rfl rfl) ?_; refine PR.callM false [] (w_L_eqValue N x19 x21 r23 h_24) rfl Tryz.call115 rfl ⟨.aggL ⟨.t _, .t _, .t _, trivial⟩, .aggL ⟨.t _, .t _, .t _, trivial⟩, trivial⟩ rfl trivial (fun h => by cases h) rfl ?_; refine PR.op rfl (Rd.unnot rfl) ?_; refine PR.nil ?_; refine PT.done ?_; refine PL.nil ?_; refine thA_n ?_; rcases cond_some hh1 with ⟨h_25, hh1⟩ | ⟨h_25, hh1⟩
    · refine PC.cond_false rfl (not_t h_25) ?_; refine PC.skip ?_; refine inA_n ?_; refine thA_n ?_; obtain ⟨n26, h_27, hh1⟩ := bind_some hh1; refine PC.region ?_; refine PL.op rfl (Rd.moveT rfl) ?_; refine PL.op rfl (Rd.addM rfl rfl h_27) ?_; refine PL.op rfl (Rd.asnT rfl) ?_; refine PL.nil ?_; obtain rfl := some_in hh1; refine thA_n ?_; exact ⟨(f15, n26), Nat.lt_succ_self _, kk1, [], ⟨rfl, rfl, trivial, ⟨.t _, .t _, .t _, trivial⟩⟩⟩
    refine PC.cond_true rfl (not_f h_25) ?_; refine PC.seq ?_; refine PC.region ?_; refine PL.op rfl (Rd.asnT rfl) ?_; refine PL.nil ?_; refine thA_n ?_; refine PC.ret ?_; refine inA_r ?_; (iterate 2 refine thA_r ?_); refine inA_r ?_; refine thA_r ?_; obtain rfl := some_in hh1; obtain rfl : (.inr false : Unit ⊕ Bool) = o13 := kk1; refine thA_r ?_; obtain rfl := some_in hh0; exact FinA.mk (r := bA false) (bl := []) [] (.inl rfl) rfl (rl := [.tmp 4]) (.tmp .nil) rfl rfl rfl (.t _) trivial ⟨rfl, rfl⟩
  clear hh0
  rintro ⟨⟩ hh0
  replace hh0 : m_L_eqValueS_k1 N  = some r := hh0
  unfold m_L_eqValueS_k1 at hh0; refine thA_n ?_; refine PC.seq ?_; refine PC.region ?_; refine PL.op rfl (Rd.asnT rfl) ?_; refine PL.nil ?_; refine thA_n ?_; refine PC.ret ?_; obtain rfl := some_in hh0; exact FinA.mk (r := bA true) (bl := []) [] (.inl rfl) rfl (rl := [.tmp 4]) (.tmp .nil) rfl rfl rfl (.t _) trivial ⟨rfl, rfl⟩
def m_L_eqTagged (N : Nat) (p_a : I_Tagged) (p_b : I_Tagged) : Option (Bool) :=
  cond (decide (p_a.tag = p_b.tag))
    ((m_L_eqValueS N p_a.row p_b.row).bind fun r2 =>
    cond r2
      (some true)
      (some false))
    (some false)
theorem w_L_eqTagged (N : Nat) (p_a : I_Tagged) (p_b : I_Tagged) (r : Bool) (hh0 : m_L_eqTagged N p_a p_b = some r) : FnX Tryz.prog 87 [] [.agg [iA p_a.tag, sL p_a.row], .agg [iA p_b.tag, sL p_b.row]] (RE (bA r) []) := by
  unfold m_L_eqTagged at hh0; refine FnX.mk Tryz.func87 rfl rfl ?_; intro s hs; refine PC.seq ?_; refine PC.region ?_; refine PL.ef rfl (Ef.box rfl rfl rfl) ?_; refine PL.nm (.op 0 0) [some ⟨.mx [iA p_a.tag, sL p_a.row], 96, 0⟩] rfl rfl ?_; refine PL.ef rfl (Ef.box rfl rfl rfl) ?_; refine PL.nm (.op 1 0) [some ⟨.mx [iA p_a.tag, sL p_a.row], 96, 0⟩, some ⟨.mx [iA p_b.tag, sL p_b.row], 96, 0⟩] rfl rfl ?_; refine PL.op rfl (Rd.asnT rfl) ?_; refine PL.nil ?_; refine thA_n ?_; (iterate 2 refine PC.seq ?_); refine PC.region ?_; refine PL.op rfl (Rd.fieldO rfl rfl) ?_; refine PL.op rfl (Rd.loadO rfl rfl rfl) ?_; refine PL.op rfl (Rd.fieldO rfl rfl) ?_; refine PL.op rfl (Rd.loadO rfl rfl rfl) ?_; refine PL.op rfl (Rd.neq rfl rfl) ?_; refine PL.nil ?_; refine thA_n ?_; rcases cond_some hh0 with ⟨h_1, hh0⟩ | ⟨h_1, hh0⟩; rotate_left
  · refine PC.cond_true rfl (not_f h_1) ?_; refine PC.seq ?_; refine PC.region ?_; refine PL.op rfl (Rd.asnT rfl) ?_; refine PL.nil ?_; refine thA_n ?_; refine PC.ret ?_; refine thA_r ?_; obtain rfl := some_in hh0; exact FinA.mk (r := bA false) (bl := []) [] (.inl rfl) rfl (rl := [.tmp 4]) (.tmp .nil) rfl rfl rfl (.t _) trivial ⟨rfl, rfl⟩
  refine PC.cond_false rfl (not_t h_1) ?_; refine PC.skip ?_; refine thA_n ?_; (iterate 2 refine PC.seq ?_); obtain ⟨r2, h_3, hh0⟩ := bind_some hh0; refine PC.region ?_; refine PL.op rfl (Rd.fieldO rfl rfl) ?_; refine PL.op rfl (Rd.loadO rfl rfl rfl) ?_; refine PL.op rfl (Rd.fieldO rfl rfl) ?_; refine PL.op rfl (Rd.loadO rfl rfl rfl) ?_; refine PL.callM false [] (w_L_eqValueS N p_a.row p_b.row r2 h_3) rfl Tryz.call116 rfl ⟨.t _, .t _, trivial⟩ rfl trivial (fun h => by cases h) ?_; refine PL.op rfl (Rd.unnot rfl) ?_; refine PL.nil ?_; refine thA_n ?_; rcases cond_some hh0 with ⟨h_4, hh0⟩ | ⟨h_4, hh0⟩; rotate_left
  · refine PC.cond_true rfl (not_f h_4) ?_; refine PC.seq ?_; refine PC.region ?_; refine PL.op rfl (Rd.asnT rfl) ?_; refine PL.nil ?_; refine thA_n ?_; refine PC.ret ?_; refine thA_r ?_; obtain rfl := some_in hh0; exact FinA.mk (r := bA false) (bl := []) [] (.inl rfl) rfl (rl := [.tmp 4]) (.tmp .nil) rfl rfl rfl (.t _) trivial ⟨rfl, rfl⟩
  refine PC.cond_false rfl (not_t h_4) ?_; refine PC.skip ?_; refine thA_n ?_; refine PC.seq ?_; refine PC.region ?_; refine PL.op rfl (Rd.asnT rfl) ?_; refine PL.nil ?_; refine thA_n ?_; refine PC.ret ?_; obtain rfl := some_in hh0; exact FinA.mk (r := bA true) (bl := []) [] (.inl rfl) rfl (rl := [.tmp 4]) (.tmp .nil) rfl rfl rfl (.t _) trivial ⟨rfl, rfl⟩
def m_L_eqTaggedS_k1 (N : Nat) : Option (Bool) :=
  some true
def m_L_eqTaggedS_b1 (N : Nat) (p_a : (List I_Tagged)) (p_b : (List I_Tagged)) (i2 : Int) : Option (Int ⊕ (Unit ⊕ Bool)) :=
  cond (decide (i2 < (p_a.length : Int)))
    ((ixI p_a i2).bind fun x19 =>
    (ixI p_b i2).bind fun x21 =>
    (m_L_eqTagged N x19 x21).bind fun r23 =>
    cond r23
      ((chk (i2 + (1 : Int))).bind fun n26 =>
      some (.inl n26))
      (some (.inr (.inr false))))
    (some (.inr (.inl ())))
def m_L_eqTaggedS (N : Nat) (p_a : (List I_Tagged)) (p_b : (List I_Tagged)) : Option (Bool) :=
  cond (decide ((p_a.length : Int) = (p_b.length : Int)))
    ((loopM (β := Unit ⊕ Bool) (fun s : Int => m_L_eqTaggedS_b1 N p_a p_b s) N (0 : Int)).bind fun o => match o with
    | .inl e =>
      m_L_eqTaggedS_k1 N 
    | .inr v =>
      some v)
    (some false)
theorem w_L_eqTaggedS (N : Nat) (p_a : (List I_Tagged)) (p_b : (List I_Tagged)) (r : Bool) (hh0 : m_L_eqTaggedS N p_a p_b = some r) : FnX Tryz.prog 47 [] [sL p_a, sL p_b] (RE (bA r) []) := by
  unfold m_L_eqTaggedS at hh0; refine FnX.mk Tryz.func47 rfl rfl ?_; intro s hs; refine PC.seq ?_; refine PC.region ?_; refine PL.op rfl (Rd.asnT rfl) ?_; refine PL.nil ?_; refine thA_n ?_; (iterate 2 refine PC.seq ?_); refine PC.region ?_; refine PL.op rfl (Rd.moveT rfl) ?_; refine PL.op rfl (Rd.lenT rfl) ?_; refine PL.op rfl (Rd.moveT rfl) ?_; refine PL.op rfl (Rd.lenT rfl) ?_; refine PL.op rfl (Rd.neq rfl rfl) ?_; refine PL.nil ?_; refine thA_n ?_; rcases cond_some hh0 with ⟨h_1, hh0⟩ | ⟨h_1, hh0⟩; rotate_left
  · refine PC.cond_true rfl (not_f h_1) ?_; refine PC.seq ?_; refine PC.region ?_; refine PL.op rfl (Rd.asnT rfl) ?_; refine PL.nil ?_; refine thA_n ?_; refine PC.ret ?_; refine thA_r ?_; obtain rfl := some_in hh0; exact FinA.mk (r := bA false) (bl := []) [] (.inl rfl) rfl (rl := [.tmp 4]) (.tmp .nil) rfl rfl rfl (.t _) trivial ⟨rfl, rfl⟩
  refine PC.cond_false rfl (not_t h_1) ?_; refine PC.skip ?_; refine thA_n ?_; (iterate 2 refine PC.seq ?_); refine PC.region ?_; refine PL.op rfl (Rd.asnT rfl) ?_; refine PL.nil ?_; refine thA_n ?_; obtain ⟨o13, h_14, hh0⟩ := bind_some hh0; refine PC.cutE hs (fun x : Unit => []) (fun x => []) (fun x => m_L_eqTaggedS_k1 N  = some r) ?_ ?_
  · refine PC.block ?_; refine PC.loop hs (fun x : Nat × (Int) => [(0, sL p_a), (1, sL p_b), (5, iA x.2)]) (fun x => []) (fun x => loopM (β := Unit ⊕ Bool) (fun s : Int => m_L_eqTaggedS_b1 N p_a p_b s) x.1 x.2 = some o13) (fun x => x.1) (N, (0 : Int)) [] ⟨rfl, rfl, trivial, ⟨.t _, .t _, .t _, trivial⟩⟩ h_14 ?_
    rintro ⟨f15_, i2⟩ h_17
    obtain ⟨f15, y16, rfl, hh1, kk1⟩ := loopM_some h_17
    replace hh1 : m_L_eqTaggedS_b1 N p_a p_b i2 = some y16 := hh1
    unfold m_L_eqTaggedS_b1 at hh1; (iterate 2 refine PC.seq ?_); refine PC.region ?_; (iterate 2 refine PL.op rfl (Rd.moveT rfl) ?_); refine PL.op rfl (Rd.lenT rfl) ?_; refine PL.op rfl (Rd.lss rfl rfl) ?_; refine PL.nil ?_; refine thA_n ?_; rcases cond_some hh1 with ⟨h_18, hh1⟩ | ⟨h_18, hh1⟩; rotate_left
    · refine PC.cond_false rfl h_18 ?_; refine PC.exit ?_; (iterate 2 refine thA_e ?_); refine inA_eq rfl ?_; refine thA_n ?_; obtain rfl := some_in hh1; obtain rfl : (.inl () : Unit ⊕ Bool) = o13 := kk1; exact ⟨(), hh0, [], ⟨rfl, rfl, trivial, trivial⟩⟩
    refine PC.cond_true rfl h_18 ?_; refine PC.skip ?_; refine thA_n ?_; refine PC.seq ?_; refine PC.block ?_; refine PC.seq ?_; obtain ⟨x19, h_20, hh1⟩ := bind_some hh1; obtain ⟨x21, h_22, hh1⟩ := bind_some hh1; obtain ⟨r23, h_24, hh1⟩ := bind_some hh1; refine PC.any (id := 6) 10 (.seg [0, 1, 2, 3, 4, 5, 6, 7, 8, 9] .done) [] rfl (by kernel_rfl) rfl ?_; refine PT.seg ?_; (iterate 2 refine PR.op rfl (Rd.moveT rfl) ?_); refine PR.op rfl (Rd.ixM rfl rfl h_20) ?_; refine PR.op rfl (Rd.elMR rfl h_20 rfl rfl) ?_; (iterate 2 refine PR.op rfl (Rd.moveT rfl) ?_); refine PR.op rfl (Rd.ixM rfl rfl h_22) ?_; refine PR.op rfl (Rd.elMR rfl h_22 rfl rfl) ?_; refine PR.callM false [] (w_L_eqTagged N x19 x21 r23 h_24) rfl Tryz.call87 rfl ⟨.aggL ⟨.t _, .t _, trivial⟩, .aggL ⟨.t _, .t _, trivial⟩, trivial⟩ rfl trivial (fun h => by cases h) rfl ?_; refine PR.op rfl (Rd.unnot rfl) ?_; refine PR.nil ?_; refine PT.done ?_; refine PL.nil ?_; refine thA_n ?_; rcases cond_some hh1 with ⟨h_25, hh1⟩ | ⟨h_25, hh1⟩
    · refine PC.cond_false rfl (not_t h_25) ?_; refine PC.skip ?_; refine inA_n ?_; refine thA_n ?_; obtain ⟨n26, h_27, hh1⟩ := bind_some hh1; refine PC.region ?_; refine PL.op rfl (Rd.moveT rfl) ?_; refine PL.op rfl (Rd.addM rfl rfl h_27) ?_; refine PL.op rfl (Rd.asnT rfl) ?_; refine PL.nil ?_; obtain rfl := some_in hh1; refine thA_n ?_; exact ⟨(f15, n26), Nat.lt_succ_self _, kk1, [], ⟨rfl, rfl, trivial, ⟨.t _, .t _, .t _, trivial⟩⟩⟩
    refine PC.cond_true rfl (not_f h_25) ?_; refine PC.seq ?_; refine PC.region ?_; refine PL.op rfl (Rd.asnT rfl) ?_; refine PL.nil ?_; refine thA_n ?_; refine PC.ret ?_; refine inA_r ?_; (iterate 2 refine thA_r ?_); refine inA_r ?_; refine thA_r ?_; obtain rfl := some_in hh1; obtain rfl : (.inr false : Unit ⊕ Bool) = o13 := kk1; refine thA_r ?_; obtain rfl := some_in hh0; exact FinA.mk (r := bA false) (bl := []) [] (.inl rfl) rfl (rl := [.tmp 4]) (.tmp .nil) rfl rfl rfl (.t _) trivial ⟨rfl, rfl⟩
  clear hh0
  rintro ⟨⟩ hh0
  replace hh0 : m_L_eqTaggedS_k1 N  = some r := hh0
  unfold m_L_eqTaggedS_k1 at hh0; refine thA_n ?_; refine PC.seq ?_; refine PC.region ?_; refine PL.op rfl (Rd.asnT rfl) ?_; refine PL.nil ?_; refine thA_n ?_; refine PC.ret ?_; obtain rfl := some_in hh0; exact FinA.mk (r := bA true) (bl := []) [] (.inl rfl) rfl (rl := [.tmp 4]) (.tmp .nil) rfl rfl rfl (.t _) trivial ⟨rfl, rfl⟩
def m_L_eqTable (N : Nat) (p_a : I_Table) (p_b : I_Table) : Option (Bool) :=
  (m_L_eqColumnS N p_a.first p_b.first).bind fun r1 =>
  cond r1
    ((m_L_eqChangeS N p_a.changes p_b.changes).bind fun r4 =>
    cond r4
      ((m_L_eqTaggedS N p_a.rows p_b.rows).bind fun r7 =>
      cond r7
        (some true)
        (some false))
      (some false))
    (some false)
theorem w_L_eqTable (N : Nat) (p_a : I_Table) (p_b : I_Table) (r : Bool) (hh0 : m_L_eqTable N p_a p_b = some r) : FnX Tryz.prog 14 [] [.agg [sL p_a.first, sL p_a.changes, sL p_a.rows], .agg [sL p_b.first, sL p_b.changes, sL p_b.rows]] (RE (bA r) []) := by
  unfold m_L_eqTable at hh0; refine FnX.mk Tryz.func14 rfl rfl ?_; intro s hs; refine PC.seq ?_; refine PC.region ?_; refine PL.ef rfl (Ef.box rfl rfl rfl) ?_; refine PL.nm (.op 0 0) [some ⟨.mx [sL p_a.first, sL p_a.changes, sL p_a.rows], 37, 0⟩] rfl rfl ?_; refine PL.ef rfl (Ef.box rfl rfl rfl) ?_; refine PL.nm (.op 1 0) [some ⟨.mx [sL p_a.first, sL p_a.changes, sL p_a.rows], 37, 0⟩, some ⟨.mx [sL p_b.first, sL p_b.changes, sL p_b.rows], 37, 0⟩] rfl rfl ?_; refine PL.op rfl (Rd.asnT rfl) ?_; refine PL.nil ?_; refine thA_n ?_; (iterate 2 refine PC.seq ?_); obtain ⟨r1, h_2, hh0⟩ := bind_some hh0; refine PC.region ?_; refine PL.op rfl (Rd.fieldO rfl rfl) ?_; refine PL.op rfl (Rd.loadO rfl rfl rfl) ?_; refine PL.op rfl (Rd.fieldO rfl rfl) ?_; refine PL.op rfl (Rd.loadO rfl rfl rfl) ?_; refine PL.callM false [] (w_L_eqColumnS N p_a.first p_b.first r1 h_2) rfl Tryz.call45 rfl ⟨.t _, .t _, trivial⟩ rfl trivial (fun h => by cases h) ?_; refine PL.op rfl (Rd.unnot rfl) ?_; refine PL.nil ?_; refine thA_n ?_; rcases cond_some hh0 with ⟨h_3, hh0⟩ | ⟨h_3, hh0⟩; rotate_left
  · refine PC.cond_true rfl (not_f h_3) ?_; refine PC.seq ?_; refine PC.region ?_; refine PL.op rfl (Rd.asnT rfl) ?_; refine PL.nil ?_; refine thA_n ?_; refine PC.ret ?_; refine thA_r ?_; obtain rfl := some_in hh0; exact FinA.mk (r := bA false) (bl := []) [] (.inl rfl) rfl (rl := [.tmp 4]) (.tmp .nil) rfl rfl rfl (.t _) trivial ⟨rfl, rfl⟩
  refine PC.cond_false rfl (not_t h_3) ?_; refine PC.skip ?_; refine thA_n ?_; (iterate 2 refine PC.seq ?_); obtain ⟨r4, h_5, hh0⟩ := bind_some hh0; refine PC.region ?_; refine PL.op rfl (Rd.fieldO rfl rfl) ?_; refine PL.op rfl (Rd.loadO rfl rfl rfl) ?_; refine PL.op rfl (Rd.fieldO rfl rfl) ?_; refine PL.op rfl (Rd.loadO rfl rfl rfl) ?_; refine PL.callM false [] (w_L_eqChangeS N p_a.changes p_b.changes r4 h_5) rfl Tryz.call46 rfl ⟨.t _, .t _, trivial⟩ rfl trivial (fun h => by cases h) ?_; refine PL.op rfl (Rd.unnot rfl) ?_; refine PL.nil ?_; refine thA_n ?_; rcases cond_some hh0 with ⟨h_6, hh0⟩ | ⟨h_6, hh0⟩; rotate_left
  · refine PC.cond_true rfl (not_f h_6) ?_; refine PC.seq ?_; refine PC.region ?_; refine PL.op rfl (Rd.asnT rfl) ?_; refine PL.nil ?_; refine thA_n ?_; refine PC.ret ?_; refine thA_r ?_; obtain rfl := some_in hh0; exact FinA.mk (r := bA false) (bl := []) [] (.inl rfl) rfl (rl := [.tmp 4]) (.tmp .nil) rfl rfl rfl (.t _) trivial ⟨rfl, rfl⟩
  refine PC.cond_false rfl (not_t h_6) ?_; refine PC.skip ?_; refine thA_n ?_; (iterate 2 refine PC.seq ?_); obtain ⟨r7, h_8, hh0⟩ := bind_some hh0; refine PC.region ?_; refine PL.op rfl (Rd.fieldO rfl rfl) ?_; refine PL.op rfl (Rd.loadO rfl rfl rfl) ?_; refine PL.op rfl (Rd.fieldO rfl rfl) ?_; refine PL.op rfl (Rd.loadO rfl rfl rfl) ?_; refine PL.callM false [] (w_L_eqTaggedS N p_a.rows p_b.rows r7 h_8) rfl Tryz.call47 rfl ⟨.t _, .t _, trivial⟩ rfl trivial (fun h => by cases h) ?_; refine PL.op rfl (Rd.unnot rfl) ?_; refine PL.nil ?_; refine thA_n ?_; rcases cond_some hh0 with ⟨h_9, hh0⟩ | ⟨h_9, hh0⟩; rotate_left
  · refine PC.cond_true rfl (not_f h_9) ?_; refine PC.seq ?_; refine PC.region ?_; refine PL.op rfl (Rd.asnT rfl) ?_; refine PL.nil ?_; refine thA_n ?_; refine PC.ret ?_; refine thA_r ?_; obtain rfl := some_in hh0; exact FinA.mk (r := bA false) (bl := []) [] (.inl rfl) rfl (rl := [.tmp 4]) (.tmp .nil) rfl rfl rfl (.t _) trivial ⟨rfl, rfl⟩
  refine PC.cond_false rfl (not_t h_9) ?_; refine PC.skip ?_; refine thA_n ?_; refine PC.seq ?_; refine PC.region ?_; refine PL.op rfl (Rd.asnT rfl) ?_; refine PL.nil ?_; refine thA_n ?_; refine PC.ret ?_; obtain rfl := some_in hh0; exact FinA.mk (r := bA true) (bl := []) [] (.inl rfl) rfl (rl := [.tmp 4]) (.tmp .nil) rfl rfl rfl (.t _) trivial ⟨rfl, rfl⟩
def m_L_eqIntS_k1 (N : Nat) : Option (Bool) :=
  some true
def m_L_eqIntS_b1 (N : Nat) (p_a : (List Int)) (p_b : (List Int)) (i2 : Int) : Option (Int ⊕ (Unit ⊕ Bool)) :=
  cond (decide (i2 < (p_a.length : Int)))
    ((ixI p_a i2).bind fun x17 =>
    (ixI p_b i2).bind fun x19 =>
    cond (decide (x17 = x19))
      ((chk (i2 + (1 : Int))).bind fun n22 =>
      some (.inl n22))
      (some (.inr (.inr false))))
    (some (.inr (.inl ())))
def m_L_eqIntS (N : Nat) (p_a : (List Int)) (p_b : (List Int)) : Option (Bool) :=
  cond (decide ((p_a.length : Int) = (p_b.length : Int)))
    ((loopM (β := Unit ⊕ Bool) (fun s : Int => m_L_eqIntS_b1 N p_a p_b s) N (0 : Int)).bind fun o => match o with
    | .inl e =>
      m_L_eqIntS_k1 N 
    | .inr v =>
      some v)
    (some false)
theorem w_L_eqIntS (N : Nat) (p_a : (List Int)) (p_b : (List Int)) (r : Bool) (hh0 : m_L_eqIntS N p_a p_b = some r) : FnX Tryz.prog 13 [] [sL p_a, sL p_b] (RE (bA r) []) := by
  unfold m_L_eqIntS at hh0; refine FnX.mk Tryz.func13 rfl rfl ?_; intro s hs; refine PC.seq ?_; refine PC.region ?_; refine PL.op rfl (Rd.asnT rfl) ?_; refine PL.nil ?_; refine thA_n ?_; (iterate 2 refine PC.seq ?_); refine PC.region ?_; refine PL.op rfl (Rd.moveT rfl) ?_; refine PL.op rfl (Rd.lenT rfl) ?_; refine PL.op rfl (Rd.moveT rfl) ?_; refine PL.op rfl (Rd.lenT rfl) ?_; refine PL.op rfl (Rd.neq rfl rfl) ?_; refine PL.nil ?_; refine thA_n ?_; rcases cond_some hh0 with ⟨h_1, hh0⟩ | ⟨h_1, hh0⟩; rotate_left
  · refine PC.cond_true rfl (not_f h_1) ?_; refine PC.seq ?_; refine PC.region ?_; refine PL.op rfl (Rd.asnT rfl) ?_; refine PL.nil ?_; refine thA_n ?_; refine PC.ret ?_; refine thA_r ?_; obtain rfl := some_in hh0; exact FinA.mk (r := bA false) (bl := []) [] (.inl rfl) rfl (rl := [.tmp 4]) (.tmp .nil) rfl rfl rfl (.t _) trivial ⟨rfl, rfl⟩
  refine PC.cond_false rfl (not_t h_1) ?_; refine PC.skip ?_; refine thA_n ?_; (iterate 2 refine PC.seq ?_); refine PC.region ?_; refine PL.op rfl (Rd.asnT rfl) ?_; refine PL.nil ?_; refine thA_n ?_; obtain ⟨o11, h_12, hh0⟩ := bind_some hh0; refine PC.cutE hs (fun x : Unit => []) (fun x => []) (fun x => m_L_eqIntS_k1 N  = some r) ?_ ?_
  · refine PC.block ?_; refine PC.loop hs (fun x : Nat × (Int) => [(0, sL p_a), (1, sL p_b), (5, iA x.2)]) (fun x => []) (fun x => loopM (β := Unit ⊕ Bool) (fun s : Int => m_L_eqIntS_b1 N p_a p_b s) x.1 x.2 = some o11) (fun x => x.1) (N, (0 : Int)) [] ⟨rfl, rfl, trivial, ⟨.t _, .t _, .t _, trivial⟩⟩ h_12 ?_
    rintro ⟨f13_, i2⟩ h_15
    obtain ⟨f13, y14, rfl, hh1, kk1⟩ := loopM_some h_15
    replace hh1 : m_L_eqIntS_b1 N p_a p_b i2 = some y14 := hh1
    unfold m_L_eqIntS_b1 at hh1; (iterate 2 refine PC.seq ?_); refine PC.region ?_; (iterate 2 refine PL.op rfl (Rd.moveT rfl) ?_); refine PL.op rfl (Rd.lenT rfl) ?_; refine PL.op rfl (Rd.lss rfl rfl) ?_; refine PL.nil ?_; refine thA_n ?_; rcases cond_some hh1 with ⟨h_16, hh1⟩ | ⟨h_16, hh1⟩; rotate_left
    · refine PC.cond_false rfl h_16 ?_; refine PC.exit ?_; (iterate 2 refine thA_e ?_); refine inA_eq rfl ?_; refine thA_n ?_; obtain rfl := some_in hh1; obtain rfl : (.inl () : Unit ⊕ Bool) = o11 := kk1; exact ⟨(), hh0, [], ⟨rfl, rfl, trivial, trivial⟩⟩
    refine PC.cond_true rfl h_16 ?_; refine PC.skip ?_; refine thA_n ?_; refine PC.seq ?_; refine PC.block ?_; refine PC.seq ?_; obtain ⟨x17, h_18, hh1⟩ := bind_some hh1; obtain ⟨x19, h_20, hh1⟩ := bind_some hh1; refine PC.any (id := 6) 9 (.seg [0, 1, 2, 3, 4, 5, 6, 7, 8] .done) [] rfl (by kernel_rfl) rfl ?_; refine PT.seg ?_; (iterate 2 refine PR.op rfl (Rd.moveT rfl) ?_); refine PR.op rfl (Rd.ixM rfl rfl h_18) ?_; refine PR.op rfl (Rd.elM1 rfl h_18 rfl rfl) ?_; (iterate 2 refine PR.op rfl (Rd.moveT rfl) ?_); refine PR.op rfl (Rd.ixM rfl rfl h_20) ?_; refine PR.op rfl (Rd.elM1 rfl h_20 rfl rfl) ?_; refine PR.op rfl (Rd.neq rfl rfl) ?_; refine PR.nil ?_; refine PT.done ?_; refine PL.nil ?_; refine thA_n ?_; rcases cond_some hh1 with ⟨h_21, hh1⟩ | ⟨h_21, hh1⟩
    · refine PC.cond_false rfl (not_t h_21) ?_; refine PC.skip ?_; refine inA_n ?_; refine thA_n ?_; obtain ⟨n22, h_23, hh1⟩ := bind_some hh1; refine PC.region ?_; refine PL.op rfl (Rd.moveT rfl) ?_; refine PL.op rfl (Rd.addM rfl rfl h_23) ?_; refine PL.op rfl (Rd.asnT rfl) ?_; refine PL.nil ?_; obtain rfl := some_in hh1; refine thA_n ?_; exact ⟨(f13, n22), Nat.lt_succ_self _, kk1, [], ⟨rfl, rfl, trivial, ⟨.t _, .t _, .t _, trivial⟩⟩⟩
    refine PC.cond_true rfl (not_f h_21) ?_; refine PC.seq ?_; refine PC.region ?_; refine PL.op rfl (Rd.asnT rfl) ?_; refine PL.nil ?_; refine thA_n ?_; refine PC.ret ?_; refine inA_r ?_; (iterate 2 refine thA_r ?_); refine inA_r ?_; refine thA_r ?_; obtain rfl := some_in hh1; obtain rfl : (.inr false : Unit ⊕ Bool) = o11 := kk1; refine thA_r ?_; obtain rfl := some_in hh0; exact FinA.mk (r := bA false) (bl := []) [] (.inl rfl) rfl (rl := [.tmp 4]) (.tmp .nil) rfl rfl rfl (.t _) trivial ⟨rfl, rfl⟩
  clear hh0
  rintro ⟨⟩ hh0
  replace hh0 : m_L_eqIntS_k1 N  = some r := hh0
  unfold m_L_eqIntS_k1 at hh0; refine thA_n ?_; refine PC.seq ?_; refine PC.region ?_; refine PL.op rfl (Rd.asnT rfl) ?_; refine PL.nil ?_; refine thA_n ?_; refine PC.ret ?_; obtain rfl := some_in hh0; exact FinA.mk (r := bA true) (bl := []) [] (.inl rfl) rfl (rl := [.tmp 4]) (.tmp .nil) rfl rfl rfl (.t _) trivial ⟨rfl, rfl⟩
def m_L_eqPair (N : Nat) (p_a : I_Pair) (p_b : I_Pair) : Option (Bool) :=
  cond (p_a.key.toList == p_b.key.toList)
    (cond (decide (p_a.row = p_b.row))
      (some true)
      (some false))
    (some false)
theorem w_L_eqPair (N : Nat) (p_a : I_Pair) (p_b : I_Pair) (r : Bool) (hh0 : m_L_eqPair N p_a p_b = some r) : FnX Tryz.prog 64 [] [.agg [sA p_a.key, iA p_a.row], .agg [sA p_b.key, iA p_b.row]] (RE (bA r) []) := by
  unfold m_L_eqPair at hh0; refine FnX.mk Tryz.func64 rfl rfl ?_; intro s hs; refine PC.seq ?_; refine PC.region ?_; refine PL.ef rfl (Ef.box rfl rfl rfl) ?_; refine PL.nm (.op 0 0) [some ⟨.mx [sA p_a.key, iA p_a.row], 53, 0⟩] rfl rfl ?_; refine PL.ef rfl (Ef.box rfl rfl rfl) ?_; refine PL.nm (.op 1 0) [some ⟨.mx [sA p_a.key, iA p_a.row], 53, 0⟩, some ⟨.mx [sA p_b.key, iA p_b.row], 53, 0⟩] rfl rfl ?_; refine PL.op rfl (Rd.asnT rfl) ?_; refine PL.nil ?_; refine thA_n ?_; (iterate 2 refine PC.seq ?_); refine PC.region ?_; refine PL.op rfl (Rd.fieldO rfl rfl) ?_; refine PL.op rfl (Rd.loadO rfl rfl rfl) ?_; refine PL.op rfl (Rd.fieldO rfl rfl) ?_; refine PL.op rfl (Rd.loadO rfl rfl rfl) ?_; refine PL.op rfl (Rd.neqS rfl rfl) ?_; refine PL.nil ?_; refine thA_n ?_; rcases cond_some hh0 with ⟨h_1, hh0⟩ | ⟨h_1, hh0⟩; rotate_left
  · refine PC.cond_true rfl (not_f h_1) ?_; refine PC.seq ?_; refine PC.region ?_; refine PL.op rfl (Rd.asnT rfl) ?_; refine PL.nil ?_; refine thA_n ?_; refine PC.ret ?_; refine thA_r ?_; obtain rfl := some_in hh0; exact FinA.mk (r := bA false) (bl := []) [] (.inl rfl) rfl (rl := [.tmp 4]) (.tmp .nil) rfl rfl rfl (.t _) trivial ⟨rfl, rfl⟩
  refine PC.cond_false rfl (not_t h_1) ?_; refine PC.skip ?_; refine thA_n ?_; (iterate 2 refine PC.seq ?_); refine PC.region ?_; refine PL.op rfl (Rd.fieldO rfl rfl) ?_; refine PL.op rfl (Rd.loadO rfl rfl rfl) ?_; refine PL.op rfl (Rd.fieldO rfl rfl) ?_; refine PL.op rfl (Rd.loadO rfl rfl rfl) ?_; refine PL.op rfl (Rd.neq rfl rfl) ?_; refine PL.nil ?_; refine thA_n ?_; rcases cond_some hh0 with ⟨h_2, hh0⟩ | ⟨h_2, hh0⟩; rotate_left
  · refine PC.cond_true rfl (not_f h_2) ?_; refine PC.seq ?_; refine PC.region ?_; refine PL.op rfl (Rd.asnT rfl) ?_; refine PL.nil ?_; refine thA_n ?_; refine PC.ret ?_; refine thA_r ?_; obtain rfl := some_in hh0; exact FinA.mk (r := bA false) (bl := []) [] (.inl rfl) rfl (rl := [.tmp 4]) (.tmp .nil) rfl rfl rfl (.t _) trivial ⟨rfl, rfl⟩
  refine PC.cond_false rfl (not_t h_2) ?_; refine PC.skip ?_; refine thA_n ?_; refine PC.seq ?_; refine PC.region ?_; refine PL.op rfl (Rd.asnT rfl) ?_; refine PL.nil ?_; refine thA_n ?_; refine PC.ret ?_; obtain rfl := some_in hh0; exact FinA.mk (r := bA true) (bl := []) [] (.inl rfl) rfl (rl := [.tmp 4]) (.tmp .nil) rfl rfl rfl (.t _) trivial ⟨rfl, rfl⟩
def m_L_eqPairS_k1 (N : Nat) : Option (Bool) :=
  some true
def m_L_eqPairS_b1 (N : Nat) (p_a : (List I_Pair)) (p_b : (List I_Pair)) (i2 : Int) : Option (Int ⊕ (Unit ⊕ Bool)) :=
  cond (decide (i2 < (p_a.length : Int)))
    ((ixI p_a i2).bind fun x19 =>
    (ixI p_b i2).bind fun x21 =>
    (m_L_eqPair N x19 x21).bind fun r23 =>
    cond r23
      ((chk (i2 + (1 : Int))).bind fun n26 =>
      some (.inl n26))
      (some (.inr (.inr false))))
    (some (.inr (.inl ())))
def m_L_eqPairS (N : Nat) (p_a : (List I_Pair)) (p_b : (List I_Pair)) : Option (Bool) :=
  cond (decide ((p_a.length : Int) = (p_b.length : Int)))
    ((loopM (β := Unit ⊕ Bool) (fun s : Int => m_L_eqPairS_b1 N p_a p_b s) N (0 : Int)).bind fun o => match o with
    | .inl e =>
      m_L_eqPairS_k1 N 
    | .inr v =>
      some v)
    (some false)
theorem w_L_eqPairS (N : Nat) (p_a : (List I_Pair)) (p_b : (List I_Pair)) (r : Bool) (hh0 : m_L_eqPairS N p_a p_b = some r) : FnX Tryz.prog 23 [] [sL p_a, sL p_b] (RE (bA r) []) := by
  unfold m_L_eqPairS at hh0; refine FnX.mk Tryz.func23 rfl rfl ?_; intro s hs; refine PC.seq ?_; refine PC.region ?_; refine PL.op rfl (Rd.asnT rfl) ?_; refine PL.nil ?_; refine thA_n ?_; (iterate 2 refine PC.seq ?_); refine PC.region ?_; refine PL.op rfl (Rd.moveT rfl) ?_; refine PL.op rfl (Rd.lenT rfl) ?_; refine PL.op rfl (Rd.moveT rfl) ?_; refine PL.op rfl (Rd.lenT rfl) ?_; refine PL.op rfl (Rd.neq rfl rfl) ?_; refine PL.nil ?_; refine thA_n ?_; rcases cond_some hh0 with ⟨h_1, hh0⟩ | ⟨h_1, hh0⟩; rotate_left
  · refine PC.cond_true rfl (not_f h_1) ?_; refine PC.seq ?_; refine PC.region ?_; refine PL.op rfl (Rd.asnT rfl) ?_; refine PL.nil ?_; refine thA_n ?_; refine PC.ret ?_; refine thA_r ?_; obtain rfl := some_in hh0; exact FinA.mk (r := bA false) (bl := []) [] (.inl rfl) rfl (rl := [.tmp 4]) (.tmp .nil) rfl rfl rfl (.t _) trivial ⟨rfl, rfl⟩
  refine PC.cond_false rfl (not_t h_1) ?_; refine PC.skip ?_; refine thA_n ?_; (iterate 2 refine PC.seq ?_); refine PC.region ?_; refine PL.op rfl (Rd.asnT rfl) ?_; refine PL.nil ?_; refine thA_n ?_; obtain ⟨o13, h_14, hh0⟩ := bind_some hh0; refine PC.cutE hs (fun x : Unit => []) (fun x => []) (fun x => m_L_eqPairS_k1 N  = some r) ?_ ?_
  · refine PC.block ?_; refine PC.loop hs (fun x : Nat × (Int) => [(0, sL p_a), (1, sL p_b), (5, iA x.2)]) (fun x => []) (fun x => loopM (β := Unit ⊕ Bool) (fun s : Int => m_L_eqPairS_b1 N p_a p_b s) x.1 x.2 = some o13) (fun x => x.1) (N, (0 : Int)) [] ⟨rfl, rfl, trivial, ⟨.t _, .t _, .t _, trivial⟩⟩ h_14 ?_
    rintro ⟨f15_, i2⟩ h_17
    obtain ⟨f15, y16, rfl, hh1, kk1⟩ := loopM_some h_17
    replace hh1 : m_L_eqPairS_b1 N p_a p_b i2 = some y16 := hh1
    unfold m_L_eqPairS_b1 at hh1; (iterate 2 refine PC.seq ?_); refine PC.region ?_; (iterate 2 refine PL.op rfl (Rd.moveT rfl) ?_); refine PL.op rfl (Rd.lenT rfl) ?_; refine PL.op rfl (Rd.lss rfl rfl) ?_; refine PL.nil ?_; refine thA_n ?_; rcases cond_some hh1 with ⟨h_18, hh1⟩ | ⟨h_18, hh1⟩; rotate_left
    · refine PC.cond_false rfl h_18 ?_; refine PC.exit ?_; (iterate 2 refine thA_e ?_); refine inA_eq rfl ?_; refine thA_n ?_; obtain rfl := some_in hh1; obtain rfl : (.inl () : Unit ⊕ Bool) = o13 := kk1; exact ⟨(), hh0, [], ⟨rfl, rfl, trivial, trivial⟩⟩
    refine PC.cond_true rfl h_18 ?_; refine PC.skip ?_; refine thA_n ?_; refine PC.seq ?_; refine PC.block ?_; obtain ⟨x19, h_20, hh1⟩ := bind_some hh1; obtain ⟨x21, h_22, hh1⟩ := bind_some hh1; obtain ⟨r23, h_24, hh1⟩ := bind_some hh1; refine PC.cut hs (fun _ : Unit => [(0, sL p_a), (1, sL p_b), (5, iA i2), (26, bA (!r23))]) (fun _ => []) (fun _ => True) ?_ ?_
    · refine PC.any (id := 6) 10 (.seg [0, 1, 2, 4, 5, 6] (.fork (.seg [3, 7, 8, 9] .done) (.seg [7, 3, 8, 9] .done))) [] rfl (by kernel_rfl) rfl ?_; refine PT.seg ?_; (iterate 2 refine PR.op rfl (Rd.moveT rfl) ?_); refine PR.op rfl (Rd.ixM rfl rfl h_20) ?_; (iterate 2 refine PR.op rfl (Rd.moveT rfl) ?_); refine PR.op rfl (Rd.ixM rfl rfl h_22) ?_; refine PR.nil ?_; refine PT.fork ?_ ?_
      · refine PT.seg ?_; refine PR.rdE rfl rfl (Rd.elMR rfl h_20 rfl rfl) ?_; refine PR.rdE rfl rfl (Rd.elMR rfl h_22 rfl rfl) ?_; refine PR.callM false [] (w_L_eqPair N x19 x21 r23 h_24) rfl Tryz.call64 rfl ⟨.aggL ⟨.t _, .t _, trivial⟩, .aggL ⟨.t _, .t _, trivial⟩, trivial⟩ rfl trivial (fun h => by cases h) rfl ?_; refine PR.op rfl (Rd.unnot rfl) ?_; refine PR.nil ?_; refine PT.done ?_; refine PL.nil ?_; refine thA_n ?_; exact ⟨(), trivial, [], ⟨rfl, rfl, trivial, ⟨.t _, .t _, .t _, .t _, trivial⟩⟩⟩
      refine PT.seg ?_; refine PR.rdE rfl rfl (Rd.elMR rfl h_22 rfl rfl) ?_; refine PR.rdE rfl rfl (Rd.elMR rfl h_20 rfl rfl) ?_; refine PR.callM false [] (w_L_eqPair N x19 x21 r23 h_24) rfl Tryz.call64 rfl ⟨.aggL ⟨.t _, .t _, trivial⟩, .aggL ⟨.t _, .t _, trivial⟩, trivial⟩ rfl trivial (fun h => by cases h) rfl ?_; refine PR.op rfl (Rd.unnot rfl) ?_; refine PR.nil ?_; refine PT.done ?_; refine PL.nil ?_; refine thA_n ?_; exact ⟨(), trivial, [], ⟨rfl, rfl, trivial, ⟨.t _, .t _, .t _, .t _, trivial⟩⟩⟩
    rintro ⟨⟩ -
    rcases cond_some hh1 with ⟨h_25, hh1⟩ | ⟨h_25, hh1⟩
    · refine PC.cond_false rfl (not_t h_25) ?_; refine PC.skip ?_; refine inA_n ?_; refine thA_n ?_; obtain ⟨n26, h_27, hh1⟩ := bind_some hh1; refine PC.region ?_; refine PL.op rfl (Rd.moveT rfl) ?_; refine PL.op rfl (Rd.addM rfl rfl h_27) ?_; refine PL.op rfl (Rd.asnT rfl) ?_; refine PL.nil ?_; obtain rfl := some_in hh1; refine thA_n ?_; exact ⟨(f15, n26), Nat.lt_succ_self _, kk1, [], ⟨rfl, rfl, trivial, ⟨.t _, .t _, .t _, trivial⟩⟩⟩
    refine PC.cond_true rfl (not_f h_25) ?_; refine PC.seq ?_; refine PC.region ?_; refine PL.op rfl (Rd.asnT rfl) ?_; refine PL.nil ?_; refine thA_n ?_; refine PC.ret ?_; refine inA_r ?_; (iterate 2 refine thA_r ?_); refine inA_r ?_; refine thA_r ?_; obtain rfl := some_in hh1; obtain rfl : (.inr false : Unit ⊕ Bool) = o13 := kk1; refine thA_r ?_; obtain rfl := some_in hh0; exact FinA.mk (r := bA false) (bl := []) [] (.inl rfl) rfl (rl := [.tmp 4]) (.tmp .nil) rfl rfl rfl (.t _) trivial ⟨rfl, rfl⟩
  clear hh0
  rintro ⟨⟩ hh0
  replace hh0 : m_L_eqPairS_k1 N  = some r := hh0
  unfold m_L_eqPairS_k1 at hh0; refine thA_n ?_; refine PC.seq ?_; refine PC.region ?_; refine PL.op rfl (Rd.asnT rfl) ?_; refine PL.nil ?_; refine thA_n ?_; refine PC.ret ?_; obtain rfl := some_in hh0; exact FinA.mk (r := bA true) (bl := []) [] (.inl rfl) rfl (rl := [.tmp 4]) (.tmp .nil) rfl rfl rfl (.t _) trivial ⟨rfl, rfl⟩
end V
end Go.Proofs.YtkjnnifnmoekjaaGreatDoor
namespace Go.Proofs.YtkjnnifnmoekjaaGreatDoor
namespace V
open Enc (enc)
set_option linter.unusedVariables false
set_option linter.unusedSimpArgs false
set_option maxHeartbeats 4000000
set_option maxRecDepth 100000
open Go.RowKit
attribute [local irreducible] thA inA FinA eL
def m_L_markColumnS_k1 (N : Nat) (k19 : Int) (v20 : (List I_Column)) : Option (Int × (List I_Column)) :=
  some (k19, v20)
def m_L_markColumnS_b1 (N : Nat) (k1 : Int) (i2 : Int) (v3 : (List I_Column)) : Option ((Int × Int × (List I_Column)) ⊕ (Int × (List I_Column))) :=
  cond (decide (i2 < (v3.length : Int)))
    ((ixI v3 i2).bind fun x27 =>
    (chk (k1 + (1 : Int))).bind fun n29 =>
    (chk (n29 + (1 : Int))).bind fun n31 =>
    (chk (n31 + (1 : Int))).bind fun n33 =>
    (m_L_markText N n33).bind fun r35 =>
    (chk (n33 + (1 : Int))).bind fun n37 =>
    (chk (i2 + (1 : Int))).bind fun n39 =>
    some (.inl (n37, n39, ((((v3.set i2.toNat (I_Column.mk k1 x27.default)).set i2.toNat (I_Column.mk k1 (I_Value.mk n29 x27.default.num x27.default.text))).set i2.toNat (I_Column.mk k1 (I_Value.mk n29 n31 x27.default.text))).set i2.toNat (I_Column.mk k1 (I_Value.mk n29 n31 r35))))))
    (some (.inr (k1, v3)))
def m_L_markColumnS (N : Nat) (p_a : (List I_Column)) (p_k : Int) : Option (Int × (List I_Column)) :=
  (loopM (β := Int × (List I_Column)) (fun s : Int × Int × (List I_Column) => m_L_markColumnS_b1 N s.1 s.2.1 s.2.2) N (p_k, (0 : Int), p_a)).bind fun e =>
  m_L_markColumnS_k1 N e.1 e.2
theorem w_L_markColumnS (N : Nat) (p_a : (List I_Column)) (p_k : Int) (r : Int × (List I_Column)) (hh0 : m_L_markColumnS N p_a p_k = some r) : FnX Tryz.prog 48 [⟨.tr (eL p_a), 125, 4⟩] [.os 0 0 p_a.length, iA p_k] (RE (iA r.1) [⟨.tr (eL r.2), 125, 4⟩]) := by
  unfold m_L_markColumnS at hh0; refine FnX.mk Tryz.func48 rfl rfl ?_; intro s hs; refine PC.seq ?_; refine PC.region ?_; refine PL.op rfl (Rd.asnT rfl) ?_; refine PL.nil ?_; refine thA_n ?_; (iterate 2 refine PC.seq ?_); refine PC.region ?_; refine PL.op rfl (Rd.asnT rfl) ?_; refine PL.nil ?_; refine thA_n ?_; obtain ⟨o21, h_22, hh0⟩ := bind_some hh0; refine PC.cutE hs (fun x : Int × (List I_Column) => [(1, iA x.1)]) (fun x => [⟨.tr (eL x.2), 125, 4⟩]) (fun x => m_L_markColumnS_k1 N x.1 x.2 = some r) ?_ ?_
  · refine PC.block ?_; refine PC.loop hs (fun x : Nat × (Int × Int × (List I_Column)) => [(0, .os 0 0 x.2.2.2.length), (1, iA x.2.1), (5, iA x.2.2.1)]) (fun x => [⟨.tr (eL x.2.2.2), 125, 4⟩]) (fun x => loopM (β := Int × (List I_Column)) (fun s : Int × Int × (List I_Column) => m_L_markColumnS_b1 N s.1 s.2.1 s.2.2) x.1 x.2 = some o21) (fun x => x.1) (N, (p_k, (0 : Int), p_a)) [some 0] ⟨rfl, rfl, ⟨⟨_, rfl, rfl, rfl, .tr _⟩, trivial⟩, ⟨.os rfl, .t _, .t _, trivial⟩⟩ h_22 ?_
    rintro ⟨f23_, k1, i2, v3⟩ h_25
    obtain ⟨f23, y24, rfl, hh1, kk1⟩ := loopM_some h_25
    replace hh1 : m_L_markColumnS_b1 N k1 i2 v3 = some y24 := hh1
    unfold m_L_markColumnS_b1 at hh1; (iterate 2 refine PC.seq ?_); refine PC.region ?_; refine PL.op rfl (Rd.moveT rfl) ?_; refine PL.op rfl (Rd.moveO rfl) ?_; refine PL.op rfl (Rd.lenO rfl rfl) ?_; refine PL.op rfl (Rd.lss rfl rfl) ?_; refine PL.nil ?_; refine thA_n ?_; rcases cond_some hh1 with ⟨h_26, hh1⟩ | ⟨h_26, hh1⟩; rotate_left
    · refine PC.cond_false rfl h_26 ?_; refine PC.exit ?_; (iterate 2 refine thA_e ?_); refine inA_eq rfl ?_; refine thA_n ?_; obtain rfl := some_in hh1; obtain rfl : ((k1, v3) : Int × (List I_Column)) = o21 := kk1; exact ⟨(k1, v3), hh0, [some 0], ⟨rfl, rfl, ⟨⟨_, rfl, rfl, rfl, .tr _⟩, trivial⟩, ⟨.t _, trivial⟩⟩⟩
    refine PC.cond_true rfl h_26 ?_; refine PC.skip ?_; refine thA_n ?_; refine PC.seq ?_; refine PC.block ?_; refine PC.seq ?_; obtain ⟨x27, h_28, hh1⟩ := bind_some hh1; refine PC.region ?_; refine PL.op rfl (Rd.moveO rfl) ?_; (iterate 2 refine PL.op rfl (Rd.moveT rfl) ?_); refine PL.op rfl (Rd.ixOM rfl rfl rfl (ixI_lt h_28)) ?_; refine PL.op rfl (Rd.fieldO rfl rfl) ?_; refine PL.stFM (f := 0) (I_Column.mk k1 x27.default) rfl rfl rfl rfl h_28 rfl rfl ?_; refine PL.nO [some ⟨.tr (eL (v3.set i2.toNat (I_Column.mk k1 x27.default))), 125, 4⟩] rfl ?_; refine PL.nil ?_; refine thA_n ?_; refine PC.seq ?_; obtain ⟨n29, h_30, hh1⟩ := bind_some hh1; refine PC.region ?_; refine PL.op rfl (Rd.moveT rfl) ?_; refine PL.op rfl (Rd.addM rfl rfl h_30) ?_; refine PL.op rfl (Rd.asnT rfl) ?_; refine PL.nil ?_; refine thA_n ?_; refine PC.seq ?_; refine PC.region ?_; refine PL.op rfl (Rd.moveO rfl) ?_; (iterate 2 refine PL.op rfl (Rd.moveT rfl) ?_); refine PL.op rfl (Rd.ixOM rfl rfl rfl (by have hq := ixI_lt (ixI_set (y := (I_Column.mk k1 x27.default)) h_28); simp only [List.length_set] at hq ⊢; exact hq)) ?_; (iterate 2 refine PL.op rfl (Rd.fieldO rfl rfl) ?_); refine PL.stFM (f := 1) (I_Column.mk k1 (I_Value.mk n29 x27.default.num x27.default.text)) rfl rfl rfl rfl (ixI_set (y := (I_Column.mk k1 x27.default)) h_28) rfl rfl ?_; refine PL.nO [some ⟨.tr (eL ((v3.set i2.toNat (I_Column.mk k1 x27.default)).set i2.toNat (I_Column.mk k1 (I_Value.mk n29 x27.default.num x27.default.text)))), 125, 4⟩] rfl ?_; refine PL.nil ?_; refine thA_n ?_; refine PC.seq ?_; obtain ⟨n31, h_32, hh1⟩ := bind_some hh1; refine PC.region ?_; refine PL.op rfl (Rd.moveT rfl) ?_; refine PL.op rfl (Rd.addM rfl rfl h_32) ?_; refine PL.op rfl (Rd.asnT rfl) ?_; refine PL.nil ?_; refine thA_n ?_; refine PC.seq ?_; refine PC.region ?_; refine PL.op rfl (Rd.moveO rfl) ?_; (iterate 2 refine PL.op rfl (Rd.moveT rfl) ?_); refine PL.op rfl (Rd.ixOM rfl rfl rfl (by have hq := ixI_lt (ixI_set (y := (I_Column.mk k1 (I_Value.mk n29 x27.default.num x27.default.text))) (ixI_set (y := (I_Column.mk k1 x27.default)) h_28)); simp only [List.length_set] at hq ⊢; exact hq)) ?_; (iterate 2 refine PL.op rfl (Rd.fieldO rfl rfl) ?_); refine PL.stFM (f := 2) (I_Column.mk k1 (I_Value.mk n29 n31 x27.default.text)) rfl rfl rfl rfl (ixI_set (y := (I_Column.mk k1 (I_Value.mk n29 x27.default.num x27.default.text))) (ixI_set (y := (I_Column.mk k1 x27.default)) h_28)) rfl rfl ?_; refine PL.nO [some ⟨.tr (eL (((v3.set i2.toNat (I_Column.mk k1 x27.default)).set i2.toNat (I_Column.mk k1 (I_Value.mk n29 x27.default.num x27.default.text))).set i2.toNat (I_Column.mk k1 (I_Value.mk n29 n31 x27.default.text)))), 125, 4⟩] rfl ?_; refine PL.nil ?_; refine thA_n ?_; refine PC.seq ?_; obtain ⟨n33, h_34, hh1⟩ := bind_some hh1; refine PC.region ?_; refine PL.op rfl (Rd.moveT rfl) ?_; refine PL.op rfl (Rd.addM rfl rfl h_34) ?_; refine PL.op rfl (Rd.asnT rfl) ?_; refine PL.nil ?_; refine thA_n ?_; refine PC.seq ?_; obtain ⟨r35, h_36, hh1⟩ := bind_some hh1; refine PC.region ?_; refine PL.op rfl (Rd.moveO rfl) ?_; (iterate 2 refine PL.op rfl (Rd.moveT rfl) ?_); refine PL.callM false [] (w_L_markText N n33 r35 h_36) rfl Tryz.call65 rfl ⟨.t _, trivial⟩ rfl trivial (fun h => by cases h) ?_; refine PL.op rfl (Rd.ixOM rfl rfl rfl (by have hq := ixI_lt (ixI_set (y := (I_Column.mk k1 (I_Value.mk n29 n31 x27.default.text))) (ixI_set (y := (I_Column.mk k1 (I_Value.mk n29 x27.default.num x27.default.text))) (ixI_set (y := (I_Column.mk k1 x27.default)) h_28))); simp only [List.length_set] at hq ⊢; exact hq)) ?_; (iterate 2 refine PL.op rfl (Rd.fieldO rfl rfl) ?_); refine PL.stFM (f := 3) (I_Column.mk k1 (I_Value.mk n29 n31 r35)) rfl rfl rfl rfl (ixI_set (y := (I_Column.mk k1 (I_Value.mk n29 n31 x27.default.text))) (ixI_set (y := (I_Column.mk k1 (I_Value.mk n29 x27.default.num x27.default.text))) (ixI_set (y := (I_Column.mk k1 x27.default)) h_28))) rfl rfl ?_; refine PL.nO [some ⟨.tr (eL ((((v3.set i2.toNat (I_Column.mk k1 x27.default)).set i2.toNat (I_Column.mk k1 (I_Value.mk n29 x27.default.num x27.default.text))).set i2.toNat (I_Column.mk k1 (I_Value.mk n29 n31 x27.default.text))).set i2.toNat (I_Column.mk k1 (I_Value.mk n29 n31 r35)))), 125, 4⟩] rfl ?_; refine PL.nil ?_; refine thA_n ?_; obtain ⟨n37, h_38, hh1⟩ := bind_some hh1; refine PC.region ?_; refine PL.op rfl (Rd.moveT rfl) ?_; refine PL.op rfl (Rd.addM rfl rfl h_38) ?_; refine PL.op rfl (Rd.asnT rfl) ?_; refine PL.nil ?_; refine inA_n ?_; refine thA_n ?_; obtain ⟨n39, h_40, hh1⟩ := bind_some hh1; refine PC.region ?_; refine PL.op rfl (Rd.moveT rfl) ?_; refine PL.op rfl (Rd.addM rfl rfl h_40) ?_; refine PL.op rfl (Rd.asnT rfl) ?_; refine PL.nil ?_; obtain rfl := some_in hh1; refine thA_n ?_; exact ⟨(f23, (n37, n39, ((((v3.set i2.toNat (I_Column.mk k1 x27.default)).set i2.toNat (I_Column.mk k1 (I_Value.mk n29 x27.default.num x27.default.text))).set i2.toNat (I_Column.mk k1 (I_Value.mk n29 n31 x27.default.text))).set i2.toNat (I_Column.mk k1 (I_Value.mk n29 n31 r35))))), Nat.lt_succ_self _, kk1, [some 0], ⟨rfl, rfl, ⟨⟨_, rfl, rfl, rfl, .tr _⟩, trivial⟩, ⟨.osE rfl (by simp only [List.length_set]), .t _, .t _, trivial⟩⟩⟩
  clear hh0
  rintro ⟨k19, v20⟩ hh0
  replace hh0 : m_L_markColumnS_k1 N k19 v20 = some r := hh0
  unfold m_L_markColumnS_k1 at hh0; refine thA_n ?_; refine PC.seq ?_; refine PC.region ?_; refine PL.op rfl (Rd.moveT rfl) ?_; refine PL.op rfl (Rd.asnT rfl) ?_; refine PL.nil ?_; refine thA_n ?_; refine PC.ret ?_; obtain rfl := some_in hh0; exact FinA.mk (r := iA ((k19, v20).1)) (bl := [⟨.tr (eL ((k19, v20).2)), 125, 4⟩]) [some 0] (.inl rfl) rfl (rl := [.tmp 4]) (.tmp .nil) rfl rfl rfl (.t _) ⟨⟨_, rfl, rfl, rfl, .tr _⟩, trivial⟩ ⟨rfl, rfl⟩
def m_L_markChangeS_k1 (N : Nat) (k23 : Int) (v24 : (List I_Change)) : Option (Int × (List I_Change)) :=
  some (k23, v24)
def m_L_markChangeS_b1 (N : Nat) (k1 : Int) (i2 : Int) (v3 : (List I_Change)) : Option ((Int × Int × (List I_Change)) ⊕ (Int × (List I_Change))) :=
  cond (decide (i2 < (v3.length : Int)))
    ((ixI v3 i2).bind fun x31 =>
    (chk (k1 + (1 : Int))).bind fun n33 =>
    (chk (n33 + (1 : Int))).bind fun n35 =>
    (chk (n35 + (1 : Int))).bind fun n37 =>
    (chk (n37 + (1 : Int))).bind fun n39 =>
    (chk (n39 + (1 : Int))).bind fun n41 =>
    (m_L_markText N n41).bind fun r43 =>
    (chk (n41 + (1 : Int))).bind fun n45 =>
    (chk (i2 + (1 : Int))).bind fun n47 =>
    some (.inl (n45, n47, ((((((v3.set i2.toNat (I_Change.mk k1 x31.at_ x31.column)).set i2.toNat (I_Change.mk k1 n33 x31.column)).set i2.toNat (I_Change.mk k1 n33 (I_Column.mk n35 x31.column.default))).set i2.toNat (I_Change.mk k1 n33 (I_Column.mk n35 (I_Value.mk n37 x31.column.default.num x31.column.default.text)))).set i2.toNat (I_Change.mk k1 n33 (I_Column.mk n35 (I_Value.mk n37 n39 x31.column.default.text)))).set i2.toNat (I_Change.mk k1 n33 (I_Column.mk n35 (I_Value.mk n37 n39 r43)))))))
    (some (.inr (k1, v3)))
def m_L_markChangeS (N : Nat) (p_a : (List I_Change)) (p_k : Int) : Option (Int × (List I_Change)) :=
  (loopM (β := Int × (List I_Change)) (fun s : Int × Int × (List I_Change) => m_L_markChangeS_b1 N s.1 s.2.1 s.2.2) N (p_k, (0 : Int), p_a)).bind fun e =>
  m_L_markChangeS_k1 N e.1 e.2
theorem w_L_markChangeS (N : Nat) (p_a : (List I_Change)) (p_k : Int) (r : Int × (List I_Change)) (hh0 : m_L_markChangeS N p_a p_k = some r) : FnX Tryz.prog 49 [⟨.tr (eL p_a), 128, 6⟩] [.os 0 0 p_a.length, iA p_k] (RE (iA r.1) [⟨.tr (eL r.2), 128, 6⟩]) := by
  unfold m_L_markChangeS at hh0; refine FnX.mk Tryz.func49 rfl rfl ?_; intro s hs; refine PC.seq ?_; refine PC.region ?_; refine PL.op rfl (Rd.asnT rfl) ?_; refine PL.nil ?_; refine thA_n ?_; (iterate 2 refine PC.seq ?_); refine PC.region ?_; refine PL.op rfl (Rd.asnT rfl) ?_; refine PL.nil ?_; refine thA_n ?_; obtain ⟨o25, h_26, hh0⟩ := bind_some hh0; refine PC.cutE hs (fun x : Int × (List I_Change) => [(1, iA x.1)]) (fun x => [⟨.tr (eL x.2), 128, 6⟩]) (fun x => m_L_markChangeS_k1 N x.1 x.2 = some r) ?_ ?_
  · refine PC.block ?_; refine PC.loop hs (fun x : Nat × (Int × Int × (List I_Change)) => [(0, .os 0 0 x.2.2.2.length), (1, iA x.2.1), (5, iA x.2.2.1)]) (fun x => [⟨.tr (eL x.2.2.2), 128, 6⟩]) (fun x => loopM (β := Int × (List I_Change)) (fun s : Int × Int × (List I_Change) => m_L_markChangeS_b1 N s.1 s.2.1 s.2.2) x.1 x.2 = some o25) (fun x => x.1) (N, (p_k, (0 : Int), p_a)) [some 0] ⟨rfl, rfl, ⟨⟨_, rfl, rfl, rfl, .tr _⟩, trivial⟩, ⟨.os rfl, .t _, .t _, trivial⟩⟩ h_26 ?_
    rintro ⟨f27_, k1, i2, v3⟩ h_29
    obtain ⟨f27, y28, rfl, hh1, kk1⟩ := loopM_some h_29
    replace hh1 : m_L_markChangeS_b1 N k1 i2 v3 = some y28 := hh1
    unfold m_L_markChangeS_b1 at hh1; (iterate 2 refine PC.seq ?_); refine PC.region ?_; refine PL.op rfl (Rd.moveT rfl) ?_; refine PL.op rfl (Rd.moveO rfl) ?_; refine PL.op rfl (Rd.lenO rfl rfl) ?_; refine PL.op rfl (Rd.lss rfl rfl) ?_; refine PL.nil ?_; refine thA_n ?_; rcases cond_some hh1 with ⟨h_30, hh1⟩ | ⟨h_30, hh1⟩; rotate_left
    · refine PC.cond_false rfl h_30 ?_; refine PC.exit ?_; (iterate 2 refine thA_e ?_); refine inA_eq rfl ?_; refine thA_n ?_; obtain rfl := some_in hh1; obtain rfl : ((k1, v3) : Int × (List I_Change)) = o25 := kk1; exact ⟨(k1, v3), hh0, [some 0], ⟨rfl, rfl, ⟨⟨_, rfl, rfl, rfl, .tr _⟩, trivial⟩, ⟨.t _, trivial⟩⟩⟩
    refine PC.cond_true rfl h_30 ?_; refine PC.skip ?_; refine thA_n ?_; refine PC.seq ?_; refine PC.block ?_; refine PC.seq ?_; obtain ⟨x31, h_32, hh1⟩ := bind_some hh1; refine PC.region ?_; refine PL.op rfl (Rd.moveO rfl) ?_; (iterate 2 refine PL.op rfl (Rd.moveT rfl) ?_); refine PL.op rfl (Rd.ixOM rfl rfl rfl (ixI_lt h_32)) ?_; refine PL.op rfl (Rd.fieldO rfl rfl) ?_; refine PL.stFM (f := 0) (I_Change.mk k1 x31.at_ x31.column) rfl rfl rfl rfl h_32 rfl rfl ?_; refine PL.nO [some ⟨.tr (eL (v3.set i2.toNat (I_Change.mk k1 x31.at_ x31.column))), 128, 6⟩] rfl ?_; refine PL.nil ?_; refine thA_n ?_; refine PC.seq ?_; obtain ⟨n33, h_34, hh1⟩ := bind_some hh1; refine PC.region ?_; refine PL.op rfl (Rd.moveT rfl) ?_; refine PL.op rfl (Rd.addM rfl rfl h_34) ?_; refine PL.op rfl (Rd.asnT rfl) ?_; refine PL.nil ?_; refine thA_n ?_; refine PC.seq ?_; refine PC.region ?_; refine PL.op rfl (Rd.moveO rfl) ?_; (iterate 2 refine PL.op rfl (Rd.moveT rfl) ?_); refine PL.op rfl (Rd.ixOM rfl rfl rfl (by have hq := ixI_lt (ixI_set (y := (I_Change.mk k1 x31.at_ x31.column)) h_32); simp only [List.length_set] at hq ⊢; exact hq)) ?_; refine PL.op rfl (Rd.fieldO rfl rfl) ?_; refine PL.stFM (f := 1) (I_Change.mk k1 n33 x31.column) rfl rfl rfl rfl (ixI_set (y := (I_Change.mk k1 x31.at_ x31.column)) h_32) rfl rfl ?_; refine PL.nO [some ⟨.tr (eL ((v3.set i2.toNat (I_Change.mk k1 x31.at_ x31.column)).set i2.toNat (I_Change.mk k1 n33 x31.column))), 128, 6⟩] rfl ?_; refine PL.nil ?_; refine thA_n ?_; refine PC.seq ?_; obtain ⟨n35, h_36, hh1⟩ := bind_some hh1; refine PC.region ?_; refine PL.op rfl (Rd.moveT rfl) ?_; refine PL.op rfl (Rd.addM rfl rfl h_36) ?_; refine PL.op rfl (Rd.asnT rfl) ?_; refine PL.nil ?_; refine thA_n ?_; refine PC.seq ?_; refine PC.region ?_; refine PL.op rfl (Rd.moveO rfl) ?_; (iterate 2 refine PL.op rfl (Rd.moveT rfl) ?_); refine PL.op rfl (Rd.ixOM rfl rfl rfl (by have hq := ixI_lt (ixI_set (y := (I_Change.mk k1 n33 x31.column)) (ixI_set (y := (I_Change.mk k1 x31.at_ x31.column)) h_32)); simp only [List.length_set] at hq ⊢; exact hq)) ?_; (iterate 2 refine PL.op rfl (Rd.fieldO rfl rfl) ?_); refine PL.stFM (f := 2) (I_Change.mk k1 n33 (I_Column.mk n35 x31.column.default)) rfl rfl rfl rfl (ixI_set (y := (I_Change.mk k1 n33 x31.column)) (ixI_set (y := (I_Change.mk k1 x31.at_ x31.column)) h_32)) rfl rfl ?_; refine PL.nO [some ⟨.tr (eL (((v3.set i2.toNat (I_Change.mk k1 x31.at_ x31.column)).set i2.toNat (I_Change.mk k1 n33 x31.column)).set i2.toNat (I_Change.mk k1 n33 (I_Column.mk n35 x31.column.default)))), 128, 6⟩] rfl ?_; refine PL.nil ?_; refine thA_n ?_; refine PC.seq ?_; obtain ⟨n37, h_38, hh1⟩ := bind_some hh1; refine PC.region ?_; refine PL.op rfl (Rd.moveT rfl) ?_; refine PL.op rfl (Rd.addM rfl rfl h_38) ?_; refine PL.op rfl (Rd.asnT rfl) ?_; refine PL.nil ?_; refine thA_n ?_; refine PC.seq ?_; refine PC.region ?_; refine PL.op rfl (Rd.moveO rfl) ?_; (iterate 2 refine PL.op rfl (Rd.moveT rfl) ?_); refine PL.op rfl (Rd.ixOM rfl rfl rfl (by have hq := ixI_lt (ixI_set (y := (I_Change.mk k1 n33 (I_Column.mk n35 x31.column.default))) (ixI_set (y := (I_Change.mk k1 n33 x31.column)) (ixI_set (y := (I_Change.mk k1 x31.at_ x31.column)) h_32))); simp only [List.length_set] at hq ⊢; exact hq)) ?_; (iterate 3 refine PL.op rfl (Rd.fieldO rfl rfl) ?_); refine PL.stFM (f := 3) (I_Change.mk k1 n33 (I_Column.mk n35 (I_Value.mk n37 x31.column.default.num x31.column.default.text))) rfl rfl rfl rfl (ixI_set (y := (I_Change.mk k1 n33 (I_Column.mk n35 x31.column.default))) (ixI_set (y := (I_Change.mk k1 n33 x31.column)) (ixI_set (y := (I_Change.mk k1 x31.at_ x31.column)) h_32))) rfl rfl ?_; refine PL.nO [some ⟨.tr (eL ((((v3.set i2.toNat (I_Change.mk k1 x31.at_ x31.column)).set i2.toNat (I_Change.mk k1 n33 x31.column)).set i2.toNat (I_Change.mk k1 n33 (I_Column.mk n35 x31.column.default))).set i2.toNat (I_Change.mk k1 n33 (I_Column.mk n35 (I_Value.mk n37 x31.column.default.num x31.column.default.text))))), 128, 6⟩] rfl ?_; refine PL.nil ?_; refine thA_n ?_; refine PC.seq ?_; obtain ⟨n39, h_40, hh1⟩ := bind_some hh1; refine PC.region ?_; refine PL.op rfl (Rd.moveT rfl) ?_; refine PL.op rfl (Rd.addM rfl rfl h_40) ?_; refine PL.op rfl (Rd.asnT rfl) ?_; refine PL.nil ?_; refine thA_n ?_; refine PC.seq ?_; refine PC.region ?_; refine PL.op rfl (Rd.moveO rfl) ?_; (iterate 2 refine PL.op rfl (Rd.moveT rfl) ?_); refine PL.op rfl (Rd.ixOM rfl rfl rfl (by have hq := ixI_lt (ixI_set (y := (I_Change.mk k1 n33 (I_Column.mk n35 (I_Value.mk n37 x31.column.default.num x31.column.default.text)))) (ixI_set (y := (I_Change.mk k1 n33 (I_Column.mk n35 x31.column.default))) (ixI_set (y := (I_Change.mk k1 n33 x31.column)) (ixI_set (y := (I_Change.mk k1 x31.at_ x31.column)) h_32)))); simp only [List.length_set] at hq ⊢; exact hq)) ?_; (iterate 3 refine PL.op rfl (Rd.fieldO rfl rfl) ?_); refine PL.stFM (f := 4) (I_Change.mk k1 n33 (I_Column.mk n35 (I_Value.mk n37 n39 x31.column.default.text))) rfl rfl rfl rfl (ixI_set (y := (I_Change.mk k1 n33 (I_Column.mk n35 (I_Value.mk n37 x31.column.default.num x31.column.default.text)))) (ixI_set (y := (I_Change.mk k1 n33 (I_Column.mk n35 x31.column.default))) (ixI_set (y := (I_Change.mk k1 n33 x31.column)) (ixI_set (y := (I_Change.mk k1 x31.at_ x31.column)) h_32)))) rfl rfl ?_; refine PL.nO [some ⟨.tr (eL (((((v3.set i2.toNat (I_Change.mk k1 x31.at_ x31.column)).set i2.toNat (I_Change.mk k1 n33 x31.column)).set i2.toNat (I_Change.mk k1 n33 (I_Column.mk n35 x31.column.default))).set i2.toNat (I_Change.mk k1 n33 (I_Column.mk n35 (I_Value.mk n37 x31.column.default.num x31.column.default.text)))).set i2.toNat (I_Change.mk k1 n33 (I_Column.mk n35 (I_Value.mk n37 n39 x31.column.default.text))))), 128, 6⟩] rfl ?_; refine PL.nil ?_; refine thA_n ?_; refine PC.seq ?_; obtain ⟨n41, h_42, hh1⟩ := bind_some hh1; refine PC.region ?_; refine PL.op rfl (Rd.moveT rfl) ?_; refine PL.op rfl (Rd.addM rfl rfl h_42) ?_; refine PL.op rfl (Rd.asnT rfl) ?_; refine PL.nil ?_; refine thA_n ?_; refine PC.seq ?_; obtain ⟨r43, h_44, hh1⟩ := bind_some hh1; refine PC.region ?_; refine PL.op rfl (Rd.moveO rfl) ?_; (iterate 2 refine PL.op rfl (Rd.moveT rfl) ?_); refine PL.callM false [] (w_L_markText N n41 r43 h_44) rfl Tryz.call65 rfl ⟨.t _, trivial⟩ rfl trivial (fun h => by cases h) ?_; refine PL.op rfl (Rd.ixOM rfl rfl rfl (by have hq := ixI_lt (ixI_set (y := (I_Change.mk k1 n33 (I_Column.mk n35 (I_Value.mk n37 n39 x31.column.default.text)))) (ixI_set (y := (I_Change.mk k1 n33 (I_Column.mk n35 (I_Value.mk n37 x31.column.default.num x31.column.default.text)))) (ixI_set (y := (I_Change.mk k1 n33 (I_Column.mk n35 x31.column.default))) (ixI_set (y := (I_Change.mk k1 n33 x31.column)) (ixI_set (y := (I_Change.mk k1 x31.at_ x31.column)) h_32))))); simp only [List.length_set] at hq ⊢; exact hq)) ?_; (iterate 3 refine PL.op rfl (Rd.fieldO rfl rfl) ?_); refine PL.stFM (f := 5) (I_Change.mk k1 n33 (I_Column.mk n35 (I_Value.mk n37 n39 r43))) rfl rfl rfl rfl (ixI_set (y := (I_Change.mk k1 n33 (I_Column.mk n35 (I_Value.mk n37 n39 x31.column.default.text)))) (ixI_set (y := (I_Change.mk k1 n33 (I_Column.mk n35 (I_Value.mk n37 x31.column.default.num x31.column.default.text)))) (ixI_set (y := (I_Change.mk k1 n33 (I_Column.mk n35 x31.column.default))) (ixI_set (y := (I_Change.mk k1 n33 x31.column)) (ixI_set (y := (I_Change.mk k1 x31.at_ x31.column)) h_32))))) rfl rfl ?_; refine PL.nO [some ⟨.tr (eL ((((((v3.set i2.toNat (I_Change.mk k1 x31.at_ x31.column)).set i2.toNat (I_Change.mk k1 n33 x31.column)).set i2.toNat (I_Change.mk k1 n33 (I_Column.mk n35 x31.column.default))).set i2.toNat (I_Change.mk k1 n33 (I_Column.mk n35 (I_Value.mk n37 x31.column.default.num x31.column.default.text)))).set i2.toNat (I_Change.mk k1 n33 (I_Column.mk n35 (I_Value.mk n37 n39 x31.column.default.text)))).set i2.toNat (I_Change.mk k1 n33 (I_Column.mk n35 (I_Value.mk n37 n39 r43))))), 128, 6⟩] rfl ?_; refine PL.nil ?_; refine thA_n ?_; obtain ⟨n45, h_46, hh1⟩ := bind_some hh1; refine PC.region ?_; refine PL.op rfl (Rd.moveT rfl) ?_; refine PL.op rfl (Rd.addM rfl rfl h_46) ?_; refine PL.op rfl (Rd.asnT rfl) ?_; refine PL.nil ?_; refine inA_n ?_; refine thA_n ?_; obtain ⟨n47, h_48, hh1⟩ := bind_some hh1; refine PC.region ?_; refine PL.op rfl (Rd.moveT rfl) ?_; refine PL.op rfl (Rd.addM rfl rfl h_48) ?_; refine PL.op rfl (Rd.asnT rfl) ?_; refine PL.nil ?_; obtain rfl := some_in hh1; refine thA_n ?_; exact ⟨(f27, (n45, n47, ((((((v3.set i2.toNat (I_Change.mk k1 x31.at_ x31.column)).set i2.toNat (I_Change.mk k1 n33 x31.column)).set i2.toNat (I_Change.mk k1 n33 (I_Column.mk n35 x31.column.default))).set i2.toNat (I_Change.mk k1 n33 (I_Column.mk n35 (I_Value.mk n37 x31.column.default.num x31.column.default.text)))).set i2.toNat (I_Change.mk k1 n33 (I_Column.mk n35 (I_Value.mk n37 n39 x31.column.default.text)))).set i2.toNat (I_Change.mk k1 n33 (I_Column.mk n35 (I_Value.mk n37 n39 r43)))))), Nat.lt_succ_self _, kk1, [some 0], ⟨rfl, rfl, ⟨⟨_, rfl, rfl, rfl, .tr _⟩, trivial⟩, ⟨.osE rfl (by simp only [List.length_set]), .t _, .t _, trivial⟩⟩⟩
  clear hh0
  rintro ⟨k23, v24⟩ hh0
  replace hh0 : m_L_markChangeS_k1 N k23 v24 = some r := hh0
  unfold m_L_markChangeS_k1 at hh0; refine thA_n ?_; refine PC.seq ?_; refine PC.region ?_; refine PL.op rfl (Rd.moveT rfl) ?_; refine PL.op rfl (Rd.asnT rfl) ?_; refine PL.nil ?_; refine thA_n ?_; refine PC.ret ?_; obtain rfl := some_in hh0; exact FinA.mk (r := iA ((k23, v24).1)) (bl := [⟨.tr (eL ((k23, v24).2)), 128, 6⟩]) [some 0] (.inl rfl) rfl (rl := [.tmp 4]) (.tmp .nil) rfl rfl rfl (.t _) ⟨⟨_, rfl, rfl, rfl, .tr _⟩, trivial⟩ ⟨rfl, rfl⟩
def m_L_markValueS_k1 (N : Nat) (k17 : Int) (v18 : (List I_Value)) : Option (Int × (List I_Value)) :=
  some (k17, v18)
def m_L_markValueS_b1 (N : Nat) (k1 : Int) (i2 : Int) (v3 : (List I_Value)) : Option ((Int × Int × (List I_Value)) ⊕ (Int × (List I_Value))) :=
  cond (decide (i2 < (v3.length : Int)))
    ((ixI v3 i2).bind fun x25 =>
    (chk (k1 + (1 : Int))).bind fun n27 =>
    (chk (n27 + (1 : Int))).bind fun n29 =>
    (m_L_markText N n29).bind fun r31 =>
    (chk (n29 + (1 : Int))).bind fun n33 =>
    (chk (i2 + (1 : Int))).bind fun n35 =>
    some (.inl (n33, n35, (((v3.set i2.toNat (I_Value.mk k1 x25.num x25.text)).set i2.toNat (I_Value.mk k1 n27 x25.text)).set i2.toNat (I_Value.mk k1 n27 r31)))))
    (some (.inr (k1, v3)))
def m_L_markValueS (N : Nat) (p_a : (List I_Value)) (p_k : Int) : Option (Int × (List I_Value)) :=
  (loopM (β := Int × (List I_Value)) (fun s : Int × Int × (List I_Value) => m_L_markValueS_b1 N s.1 s.2.1 s.2.2) N (p_k, (0 : Int), p_a)).bind fun e =>
  m_L_markValueS_k1 N e.1 e.2
theorem w_L_markValueS (N : Nat) (p_a : (List I_Value)) (p_k : Int) (r : Int × (List I_Value)) (hh0 : m_L_markValueS N p_a p_k = some r) : FnX Tryz.prog 88 [⟨.tr (eL p_a), 39, 3⟩] [.os 0 0 p_a.length, iA p_k] (RE (iA r.1) [⟨.tr (eL r.2), 39, 3⟩]) := by
  unfold m_L_markValueS at hh0; refine FnX.mk Tryz.func88 rfl rfl ?_; intro s hs; refine PC.seq ?_; refine PC.region ?_; refine PL.op rfl (Rd.asnT rfl) ?_; refine PL.nil ?_; refine thA_n ?_; (iterate 2 refine PC.seq ?_); refine PC.region ?_; refine PL.op rfl (Rd.asnT rfl) ?_; refine PL.nil ?_; refine thA_n ?_; obtain ⟨o19, h_20, hh0⟩ := bind_some hh0; refine PC.cutE hs (fun x : Int × (List I_Value) => [(1, iA x.1)]) (fun x => [⟨.tr (eL x.2), 39, 3⟩]) (fun x => m_L_markValueS_k1 N x.1 x.2 = some r) ?_ ?_
  · refine PC.block ?_; refine PC.loop hs (fun x : Nat × (Int × Int × (List I_Value)) => [(0, .os 0 0 x.2.2.2.length), (1, iA x.2.1), (5, iA x.2.2.1)]) (fun x => [⟨.tr (eL x.2.2.2), 39, 3⟩]) (fun x => loopM (β := Int × (List I_Value)) (fun s : Int × Int × (List I_Value) => m_L_markValueS_b1 N s.1 s.2.1 s.2.2) x.1 x.2 = some o19) (fun x => x.1) (N, (p_k, (0 : Int), p_a)) [some 0] ⟨rfl, rfl, ⟨⟨_, rfl, rfl, rfl, .tr _⟩, trivial⟩, ⟨.os rfl, .t _, .t _, trivial⟩⟩ h_20 ?_
    rintro ⟨f21_, k1, i2, v3⟩ h_23
    obtain ⟨f21, y22, rfl, hh1, kk1⟩ := loopM_some h_23
    replace hh1 : m_L_markValueS_b1 N k1 i2 v3 = some y22 := hh1
    unfold m_L_markValueS_b1 at hh1; (iterate 2 refine PC.seq ?_); refine PC.region ?_; refine PL.op rfl (Rd.moveT rfl) ?_; refine PL.op rfl (Rd.moveO rfl) ?_; refine PL.op rfl (Rd.lenO rfl rfl) ?_; refine PL.op rfl (Rd.lss rfl rfl) ?_; refine PL.nil ?_; refine thA_n ?_; rcases cond_some hh1 with ⟨h_24, hh1⟩ | ⟨h_24, hh1⟩; rotate_left
    · refine PC.cond_false rfl h_24 ?_; refine PC.exit ?_; (iterate 2 refine thA_e ?_); refine inA_eq rfl ?_; refine thA_n ?_; obtain rfl := some_in hh1; obtain rfl : ((k1, v3) : Int × (List I_Value)) = o19 := kk1; exact ⟨(k1, v3), hh0, [some 0], ⟨rfl, rfl, ⟨⟨_, rfl, rfl, rfl, .tr _⟩, trivial⟩, ⟨.t _, trivial⟩⟩⟩
    refine PC.cond_true rfl h_24 ?_; refine PC.skip ?_; refine thA_n ?_; refine PC.seq ?_; refine PC.block ?_; refine PC.seq ?_; obtain ⟨x25, h_26, hh1⟩ := bind_some hh1; refine PC.region ?_; refine PL.op rfl (Rd.moveO rfl) ?_; (iterate 2 refine PL.op rfl (Rd.moveT rfl) ?_); refine PL.op rfl (Rd.ixOM rfl rfl rfl (ixI_lt h_26)) ?_; refine PL.op rfl (Rd.fieldO rfl rfl) ?_; refine PL.stFM (f := 0) (I_Value.mk k1 x25.num x25.text) rfl rfl rfl rfl h_26 rfl rfl ?_; refine PL.nO [some ⟨.tr (eL (v3.set i2.toNat (I_Value.mk k1 x25.num x25.text))), 39, 3⟩] rfl ?_; refine PL.nil ?_; refine thA_n ?_; refine PC.seq ?_; obtain ⟨n27, h_28, hh1⟩ := bind_some hh1; refine PC.region ?_; refine PL.op rfl (Rd.moveT rfl) ?_; refine PL.op rfl (Rd.addM rfl rfl h_28) ?_; refine PL.op rfl (Rd.asnT rfl) ?_; refine PL.nil ?_; refine thA_n ?_; refine PC.seq ?_; refine PC.region ?_; refine PL.op rfl (Rd.moveO rfl) ?_; (iterate 2 refine PL.op rfl (Rd.moveT rfl) ?_); refine PL.op rfl (Rd.ixOM rfl rfl rfl (by have hq := ixI_lt (ixI_set (y := (I_Value.mk k1 x25.num x25.text)) h_26); simp only [List.length_set] at hq ⊢; exact hq)) ?_; refine PL.op rfl (Rd.fieldO rfl rfl) ?_; refine PL.stFM (f := 1) (I_Value.mk k1 n27 x25.text) rfl rfl rfl rfl (ixI_set (y := (I_Value.mk k1 x25.num x25.text)) h_26) rfl rfl ?_; refine PL.nO [some ⟨.tr (eL ((v3.set i2.toNat (I_Value.mk k1 x25.num x25.text)).set i2.toNat (I_Value.mk k1 n27 x25.text))), 39, 3⟩] rfl ?_; refine PL.nil ?_; refine thA_n ?_; refine PC.seq ?_; obtain ⟨n29, h_30, hh1⟩ := bind_some hh1; refine PC.region ?_; refine PL.op rfl (Rd.moveT rfl) ?_; refine PL.op rfl (Rd.addM rfl rfl h_30) ?_; refine PL.op rfl (Rd.asnT rfl) ?_; refine PL.nil ?_; refine thA_n ?_; refine PC.seq ?_; obtain ⟨r31, h_32, hh1⟩ := bind_some hh1; refine PC.region ?_; refine PL.op rfl (Rd.moveO rfl) ?_; (iterate 2 refine PL.op rfl (Rd.moveT rfl) ?_); refine PL.callM false [] (w_L_markText N n29 r31 h_32) rfl Tryz.call65 rfl ⟨.t _, trivial⟩ rfl trivial (fun h => by cases h) ?_; refine PL.op rfl (Rd.ixOM rfl rfl rfl (by have hq := ixI_lt (ixI_set (y := (I_Value.mk k1 n27 x25.text)) (ixI_set (y := (I_Value.mk k1 x25.num x25.text)) h_26)); simp only [List.length_set] at hq ⊢; exact hq)) ?_; refine PL.op rfl (Rd.fieldO rfl rfl) ?_; refine PL.stFM (f := 2) (I_Value.mk k1 n27 r31) rfl rfl rfl rfl (ixI_set (y := (I_Value.mk k1 n27 x25.text)) (ixI_set (y := (I_Value.mk k1 x25.num x25.text)) h_26)) rfl rfl ?_; refine PL.nO [some ⟨.tr (eL (((v3.set i2.toNat (I_Value.mk k1 x25.num x25.text)).set i2.toNat (I_Value.mk k1 n27 x25.text)).set i2.toNat (I_Value.mk k1 n27 r31))), 39, 3⟩] rfl ?_; refine PL.nil ?_; refine thA_n ?_; obtain ⟨n33, h_34, hh1⟩ := bind_some hh1; refine PC.region ?_; refine PL.op rfl (Rd.moveT rfl) ?_; refine PL.op rfl (Rd.addM rfl rfl h_34) ?_; refine PL.op rfl (Rd.asnT rfl) ?_; refine PL.nil ?_; refine inA_n ?_; refine thA_n ?_; obtain ⟨n35, h_36, hh1⟩ := bind_some hh1; refine PC.region ?_; refine PL.op rfl (Rd.moveT rfl) ?_; refine PL.op rfl (Rd.addM rfl rfl h_36) ?_; refine PL.op rfl (Rd.asnT rfl) ?_; refine PL.nil ?_; obtain rfl := some_in hh1; refine thA_n ?_; exact ⟨(f21, (n33, n35, (((v3.set i2.toNat (I_Value.mk k1 x25.num x25.text)).set i2.toNat (I_Value.mk k1 n27 x25.text)).set i2.toNat (I_Value.mk k1 n27 r31)))), Nat.lt_succ_self _, kk1, [some 0], ⟨rfl, rfl, ⟨⟨_, rfl, rfl, rfl, .tr _⟩, trivial⟩, ⟨.osE rfl (by simp only [List.length_set]), .t _, .t _, trivial⟩⟩⟩
  clear hh0
  rintro ⟨k17, v18⟩ hh0
  replace hh0 : m_L_markValueS_k1 N k17 v18 = some r := hh0
  unfold m_L_markValueS_k1 at hh0; refine thA_n ?_; refine PC.seq ?_; refine PC.region ?_; refine PL.op rfl (Rd.moveT rfl) ?_; refine PL.op rfl (Rd.asnT rfl) ?_; refine PL.nil ?_; refine thA_n ?_; refine PC.ret ?_; obtain rfl := some_in hh0; exact FinA.mk (r := iA ((k17, v18).1)) (bl := [⟨.tr (eL ((k17, v18).2)), 39, 3⟩]) [some 0] (.inl rfl) rfl (rl := [.tmp 4]) (.tmp .nil) rfl rfl rfl (.t _) ⟨⟨_, rfl, rfl, rfl, .tr _⟩, trivial⟩ ⟨rfl, rfl⟩
theorem len_L_markValueS (N : Nat) (a : (List I_Value)) (k : Int) (r : Int × (List I_Value)) (h : m_L_markValueS N a k = some r) : r.2.length = a.length := by
  unfold m_L_markValueS at h; obtain ⟨o, h1, h2⟩ := bind_some h; unfold m_L_markValueS_k1 at h2; cases h2; refine al.loop (fun s => s.2.2.length = a.length) (fun b => b.2.length = a.length) ?_ N _ rfl _ h1
  rintro ⟨k, i, v⟩ hv
  show al (m_L_markValueS_b1 N k i v) _
  unfold m_L_markValueS_b1
  repeat' (first | exact al.some hv | (refine al.cond (fun _ => ?_) (fun _ => ?_)) | (refine al.bind (fun _ _ => ?_)) | (refine al.some ?_; simpa only [List.length_set] using hv))
def m_L_markTaggedS_k1 (N : Nat) (k13 : Int) (v14 : (List I_Tagged)) : Option (Int × (List I_Tagged)) :=
  some (k13, v14)
def m_L_markTaggedS_b1 (N : Nat) (k1 : Int) (i2 : Int) (v3 : (List I_Tagged)) : Option ((Int × Int × (List I_Tagged)) ⊕ (Int × (List I_Tagged))) :=
  cond (decide (i2 < (v3.length : Int)))
    ((ixI v3 i2).bind fun x21 =>
    (chk (k1 + (1 : Int))).bind fun n23 =>
    (m_L_markValueS N x21.row n23).bind fun r25 =>
    (chk (i2 + (1 : Int))).bind fun n27 =>
    some (.inl (r25.1, n27, ((v3.set i2.toNat (I_Tagged.mk k1 x21.row)).set i2.toNat (I_Tagged.mk k1 r25.2)))))
    (some (.inr (k1, v3)))
def m_L_markTaggedS (N : Nat) (p_a : (List I_Tagged)) (p_k : Int) : Option (Int × (List I_Tagged)) :=
  (loopM (β := Int × (List I_Tagged)) (fun s : Int × Int × (List I_Tagged) => m_L_markTaggedS_b1 N s.1 s.2.1 s.2.2) N (p_k, (0 : Int), p_a)).bind fun e =>
  m_L_markTaggedS_k1 N e.1 e.2
theorem w_L_markTaggedS (N : Nat) (p_a : (List I_Tagged)) (p_k : Int) (r : Int × (List I_Tagged)) (hh0 : m_L_markTaggedS N p_a p_k = some r) : FnX Tryz.prog 50 [⟨.mx (dL 1 0 p_a), 96, 2⟩, ⟨.fm (fam p_a), 39, 3⟩] [.os 0 0 p_a.length, iA p_k] (RE (iA r.1) [⟨.mx (dL 1 0 r.2), 96, 2⟩, ⟨.fm (fam r.2), 39, 3⟩]) := by
  unfold m_L_markTaggedS at hh0; refine FnX.mk Tryz.func50 rfl rfl ?_; intro s hs; refine PC.seq ?_; refine PC.region ?_; refine PL.op rfl (Rd.asnT rfl) ?_; refine PL.nil ?_; refine thA_n ?_; (iterate 2 refine PC.seq ?_); refine PC.region ?_; refine PL.op rfl (Rd.asnT rfl) ?_; refine PL.nil ?_; refine thA_n ?_; obtain ⟨o15, h_16, hh0⟩ := bind_some hh0; refine PC.cutE hs (fun x : Int × (List I_Tagged) => [(1, iA x.1)]) (fun x => [⟨.mx (dL 1 0 x.2), 96, 2⟩, ⟨.fm (fam x.2), 39, 3⟩]) (fun x => m_L_markTaggedS_k1 N x.1 x.2 = some r) ?_ ?_
  · refine PC.block ?_; refine PC.loop hs (fun x : Nat × (Int × Int × (List I_Tagged)) => [(0, .os 0 0 x.2.2.2.length), (1, iA x.2.1), (5, iA x.2.2.1)]) (fun x => [⟨.mx (dL 1 0 x.2.2.2), 96, 2⟩, ⟨.fm (fam x.2.2.2), 39, 3⟩]) (fun x => loopM (β := Int × (List I_Tagged)) (fun s : Int × Int × (List I_Tagged) => m_L_markTaggedS_b1 N s.1 s.2.1 s.2.2) x.1 x.2 = some o15) (fun x => x.1) (N, (p_k, (0 : Int), p_a)) [some 0, some 1] ⟨rfl, rfl, ⟨⟨_, rfl, rfl, rfl, .mx (sb_dL rfl 0 _)⟩, ⟨_, rfl, rfl, rfl, .fm _⟩, trivial⟩, ⟨.os rfl, .t _, .t _, trivial⟩⟩ h_16 ?_
    rintro ⟨f17_, k1, i2, v3⟩ h_19
    obtain ⟨f17, y18, rfl, hh1, kk1⟩ := loopM_some h_19
    replace hh1 : m_L_markTaggedS_b1 N k1 i2 v3 = some y18 := hh1
    unfold m_L_markTaggedS_b1 at hh1; (iterate 2 refine PC.seq ?_); refine PC.region ?_; refine PL.op rfl (Rd.moveT rfl) ?_; refine PL.op rfl (Rd.moveO rfl) ?_; refine PL.op rfl (Rd.lenO rfl rfl) ?_; refine PL.op rfl (Rd.lss rfl rfl) ?_; refine PL.nil ?_; refine thA_n ?_; rcases cond_some hh1 with ⟨h_20, hh1⟩ | ⟨h_20, hh1⟩; rotate_left
    · refine PC.cond_false rfl h_20 ?_; refine PC.exit ?_; (iterate 2 refine thA_e ?_); refine inA_eq rfl ?_; refine thA_n ?_; obtain rfl := some_in hh1; obtain rfl : ((k1, v3) : Int × (List I_Tagged)) = o15 := kk1; exact ⟨(k1, v3), hh0, [some 0, some 1], ⟨rfl, rfl, ⟨⟨_, rfl, rfl, rfl, .mx (sb_dL rfl 0 _)⟩, ⟨_, rfl, rfl, rfl, .fm _⟩, trivial⟩, ⟨.t _, trivial⟩⟩⟩
    refine PC.cond_true rfl h_20 ?_; refine PC.skip ?_; refine thA_n ?_; refine PC.seq ?_; refine PC.block ?_; refine PC.seq ?_; obtain ⟨x21, h_22, hh1⟩ := bind_some hh1; refine PC.region ?_; refine PL.op rfl (Rd.moveO rfl) ?_; (iterate 2 refine PL.op rfl (Rd.moveT rfl) ?_); refine PL.op rfl (Rd.ixOM rfl rfl rfl (ixI_lt h_22)) ?_; refine PL.op rfl (Rd.fieldO rfl rfl) ?_; refine PL.dpSFM (q := 0) (I_Tagged.mk k1 x21.row) rfl rfl rfl rfl rfl rfl h_22 rfl rfl rfl ?_; refine PL.nO [some ⟨.mx (dL 1 0 (v3.set i2.toNat (I_Tagged.mk k1 x21.row))), 96, 2⟩, some ⟨.fm (fam (v3.set i2.toNat (I_Tagged.mk k1 x21.row))), 39, 3⟩] rfl ?_; refine PL.nil ?_; refine thA_n ?_; refine PC.seq ?_; obtain ⟨n23, h_24, hh1⟩ := bind_some hh1; refine PC.region ?_; refine PL.op rfl (Rd.moveT rfl) ?_; refine PL.op rfl (Rd.addM rfl rfl h_24) ?_; refine PL.op rfl (Rd.asnT rfl) ?_; refine PL.nil ?_; refine thA_n ?_; obtain ⟨r25, h_26, hh1⟩ := bind_some hh1; refine PC.region ?_; refine PL.op rfl (Rd.moveO rfl) ?_; refine PL.op rfl (Rd.moveT rfl) ?_; refine PL.op rfl (Rd.ixOM rfl rfl rfl (by have hq := ixI_lt (ixI_set (y := (I_Tagged.mk k1 x21.row)) h_22); simp only [List.length_set] at hq ⊢; exact hq)) ?_; refine PL.op rfl (Rd.fieldO rfl rfl) ?_; refine PL.op rfl (Rd.dpFM (q := 1) rfl rfl rfl (ixI_set (y := (I_Tagged.mk k1 x21.row)) h_22) rfl rfl) ?_; refine PL.op rfl (Rd.moveT rfl) ?_; refine PL.callOIM (b := 0) (I_Tagged.mk k1 r25.2) (ixI_set (y := (I_Tagged.mk k1 x21.row)) h_22) (w_L_markValueS N x21.row n23 r25 h_26) rfl Tryz.call88 rfl rfl rfl rfl rfl rfl rfl rfl (len_L_markValueS N _ _  _ h_26) ?_; refine PL.nm (iA r25.1) [some ⟨.mx (dL 1 0 ((v3.set i2.toNat (I_Tagged.mk k1 x21.row)).set i2.toNat (I_Tagged.mk k1 r25.2))), 96, 2⟩, some ⟨.fm (fam ((v3.set i2.toNat (I_Tagged.mk k1 x21.row)).set i2.toNat (I_Tagged.mk k1 r25.2))), 39, 3⟩] rfl rfl ?_; refine PL.op rfl (Rd.asnT rfl) ?_; refine PL.nil ?_; refine inA_n ?_; refine thA_n ?_; obtain ⟨n27, h_28, hh1⟩ := bind_some hh1; refine PC.region ?_; refine PL.op rfl (Rd.moveT rfl) ?_; refine PL.op rfl (Rd.addM rfl rfl h_28) ?_; refine PL.op rfl (Rd.asnT rfl) ?_; refine PL.nil ?_; obtain rfl := some_in hh1; refine thA_n ?_; exact ⟨(f17, (r25.1, n27, ((v3.set i2.toNat (I_Tagged.mk k1 x21.row)).set i2.toNat (I_Tagged.mk k1 r25.2)))), Nat.lt_succ_self _, kk1, [some 0, some 1], ⟨rfl, rfl, ⟨⟨_, rfl, rfl, rfl, .mx (sb_dL rfl 0 _)⟩, ⟨_, rfl, rfl, rfl, .fm _⟩, trivial⟩, ⟨.osE rfl (by simp only [List.length_set]), .t _, .t _, trivial⟩⟩⟩
  clear hh0
  rintro ⟨k13, v14⟩ hh0
  replace hh0 : m_L_markTaggedS_k1 N k13 v14 = some r := hh0
  unfold m_L_markTaggedS_k1 at hh0; refine thA_n ?_; refine PC.seq ?_; refine PC.region ?_; refine PL.op rfl (Rd.moveT rfl) ?_; refine PL.op rfl (Rd.asnT rfl) ?_; refine PL.nil ?_; refine thA_n ?_; refine PC.ret ?_; obtain rfl := some_in hh0; exact FinA.mk (r := iA ((k13, v14).1)) (bl := [⟨.mx (dL 1 0 ((k13, v14).2)), 96, 2⟩, ⟨.fm (fam ((k13, v14).2)), 39, 3⟩]) [some 0, some 1] (.inl rfl) rfl (rl := [.tmp 4]) (.tmp .nil) rfl rfl rfl (.t _) ⟨⟨_, rfl, rfl, rfl, .mx (sb_dL rfl 0 _)⟩, ⟨_, rfl, rfl, rfl, .fm _⟩, trivial⟩ ⟨rfl, rfl⟩
def m_L_markTable (N : Nat) (p_a : I_Table) (p_k : Int) : Option (Int × (List I_Column) × (List I_Change) × (List I_Tagged)) :=
  (m_L_markColumnS N p_a.first p_k).bind fun r1 =>
  (m_L_markChangeS N p_a.changes r1.1).bind fun r3 =>
  (m_L_markTaggedS N p_a.rows r3.1).bind fun r5 =>
  some (r5.1, r1.2, r3.2, r5.2)
theorem w_L_markTable (N : Nat) (p_a : I_Table) (p_k : Int) (r : Int × (List I_Column) × (List I_Change) × (List I_Tagged)) (hh0 : m_L_markTable N p_a p_k = some r) : FnX Tryz.prog 15 [⟨.tr (eL p_a.first), 125, 4⟩, ⟨.tr (eL p_a.changes), 128, 6⟩, ⟨.mx (dL 3 0 p_a.rows), 96, 2⟩, ⟨.fm (fam p_a.rows), 39, 3⟩] [.agg [.os 0 0 p_a.first.length, .os 1 0 p_a.changes.length, .os 2 0 p_a.rows.length], iA p_k] (RE (iA r.1) [⟨.tr (eL r.2.1), 125, 4⟩, ⟨.tr (eL r.2.2.1), 128, 6⟩, ⟨.mx (dL 3 0 r.2.2.2), 96, 2⟩, ⟨.fm (fam r.2.2.2), 39, 3⟩]) := by
  unfold m_L_markTable at hh0; refine FnX.mk Tryz.func15 rfl rfl ?_; intro s hs; refine PC.seq ?_; refine PC.region ?_; refine PL.ef rfl (Ef.box rfl rfl rfl) ?_; refine PL.nm (.op 4 0) [some ⟨.tr (eL p_a.first), 125, 4⟩, some ⟨.tr (eL p_a.changes), 128, 6⟩, some ⟨.mx (dL 3 0 p_a.rows), 96, 2⟩, some ⟨.fm (fam p_a.rows), 39, 3⟩, some ⟨.mx [.os 0 0 p_a.first.length, .os 1 0 p_a.changes.length, .os 2 0 p_a.rows.length], 37, 0⟩] rfl rfl ?_; refine PL.op rfl (Rd.asnT rfl) ?_; refine PL.nil ?_; refine thA_n ?_; refine PC.seq ?_; obtain ⟨r1, h_2, hh0⟩ := bind_some hh0; refine PC.region ?_; refine PL.op rfl (Rd.fieldO rfl rfl) ?_; refine PL.op rfl (Rd.loadO rfl rfl rfl) ?_; refine PL.op rfl (Rd.moveT rfl) ?_; refine PL.callM false [0] (w_L_markColumnS N p_a.first p_k r1 h_2) rfl Tryz.call48 rfl ⟨.os rfl, .t _, trivial⟩ rfl ⟨⟨_, rfl, rfl, rfl, .tr _⟩, trivial⟩ (fun h => by cases h) ?_; refine PL.nm (iA r1.1) [some ⟨.tr (eL r1.2), 125, 4⟩, some ⟨.tr (eL p_a.changes), 128, 6⟩, some ⟨.mx (dL 3 0 p_a.rows), 96, 2⟩, some ⟨.fm (fam p_a.rows), 39, 3⟩, some ⟨.mx [.os 0 0 p_a.first.length, .os 1 0 p_a.changes.length, .os 2 0 p_a.rows.length], 37, 0⟩] rfl rfl ?_; refine PL.op rfl (Rd.asnT rfl) ?_; refine PL.nil ?_; refine thA_n ?_; refine PC.seq ?_; obtain ⟨r3, h_4, hh0⟩ := bind_some hh0; refine PC.region ?_; refine PL.op rfl (Rd.fieldO rfl rfl) ?_; refine PL.op rfl (Rd.loadO rfl rfl rfl) ?_; refine PL.op rfl (Rd.moveT rfl) ?_; refine PL.callM false [1] (w_L_markChangeS N p_a.changes r1.1 r3 h_4) rfl Tryz.call49 rfl ⟨.os rfl, .t _, trivial⟩ rfl ⟨⟨_, rfl, rfl, rfl, .tr _⟩, trivial⟩ (fun h => by cases h) ?_; refine PL.nm (iA r3.1) [some ⟨.tr (eL r1.2), 125, 4⟩, some ⟨.tr (eL r3.2), 128, 6⟩, some ⟨.mx (dL 3 0 p_a.rows), 96, 2⟩, some ⟨.fm (fam p_a.rows), 39, 3⟩, some ⟨.mx [.os 0 0 p_a.first.length, .os 1 0 p_a.changes.length, .os 2 0 p_a.rows.length], 37, 0⟩] rfl rfl ?_; refine PL.op rfl (Rd.asnT rfl) ?_; refine PL.nil ?_; refine thA_n ?_; refine PC.seq ?_; obtain ⟨r5, h_6, hh0⟩ := bind_some hh0; refine PC.region ?_; refine PL.op rfl (Rd.fieldO rfl rfl) ?_; refine PL.op rfl (Rd.loadO rfl rfl rfl) ?_; refine PL.op rfl (Rd.moveT rfl) ?_; refine PL.callM false [2, 3] (w_L_markTaggedS N p_a.rows r3.1 r5 h_6) rfl Tryz.call50 rfl ⟨.os rfl, .t _, trivial⟩ rfl ⟨⟨_, rfl, rfl, rfl, .mx (sb_dL rfl 0 _)⟩, ⟨_, rfl, rfl, rfl, .fm _⟩, trivial⟩ (fun h => by cases h) ?_; refine PL.nm (iA r5.1) [some ⟨.tr (eL r1.2), 125, 4⟩, some ⟨.tr (eL r3.2), 128, 6⟩, some ⟨.mx (dL 3 0 r5.2), 96, 2⟩, some ⟨.fm (fam r5.2), 39, 3⟩, some ⟨.mx [.os 0 0 p_a.first.length, .os 1 0 p_a.changes.length, .os 2 0 p_a.rows.length], 37, 0⟩] rfl (by (conv => rhs; rw [show dL 3 0 r5.2 = AV.renL (thet [2, 3] 5) (dL 1 0 r5.2) from (dL_ren (thet [2, 3] 5) 1 0 r5.2).symm]); rfl) ?_; refine PL.op rfl (Rd.asnT rfl) ?_; refine PL.nil ?_; refine thA_n ?_; refine PC.seq ?_; refine PC.region ?_; refine PL.op rfl (Rd.moveT rfl) ?_; refine PL.op rfl (Rd.asnT rfl) ?_; refine PL.nil ?_; refine thA_n ?_; refine PC.ret ?_; obtain rfl := some_in hh0; exact FinA.mk (r := iA ((r5.1, r1.2, r3.2, r5.2).1)) (bl := [⟨.tr (eL ((r5.1, r1.2, r3.2, r5.2).2.1)), 125, 4⟩, ⟨.tr (eL ((r5.1, r1.2, r3.2, r5.2).2.2.1)), 128, 6⟩, ⟨.mx (dL 3 0 ((r5.1, r1.2, r3.2, r5.2).2.2.2)), 96, 2⟩, ⟨.fm (fam ((r5.1, r1.2, r3.2, r5.2).2.2.2)), 39, 3⟩]) [some 0, some 1, some 2, some 3] (.inl rfl) rfl (rl := [.tmp 4]) (.tmp .nil) rfl rfl rfl (.t _) ⟨⟨_, rfl, rfl, rfl, .tr _⟩, ⟨_, rfl, rfl, rfl, .tr _⟩, ⟨_, rfl, rfl, rfl, .mx (sb_dL rfl 0 _)⟩, ⟨_, rfl, rfl, rfl, .fm _⟩, trivial⟩ ⟨rfl, rfl⟩
def m_L_markIntS_k1 (N : Nat) (k11 : Int) (v12 : (List Int)) : Option (Int × (List Int)) :=
  some (k11, v12)
def m_L_markIntS_b1 (N : Nat) (k1 : Int) (i2 : Int) (v3 : (List Int)) : Option ((Int × Int × (List Int)) ⊕ (Int × (List Int))) :=
  cond (decide (i2 < (v3.length : Int)))
    ((ixI v3 i2).bind fun x19 =>
    (chk (k1 + (1 : Int))).bind fun n21 =>
    (chk (i2 + (1 : Int))).bind fun n23 =>
    some (.inl (n21, n23, (v3.set i2.toNat k1))))
    (some (.inr (k1, v3)))
def m_L_markIntS (N : Nat) (p_a : (List Int)) (p_k : Int) : Option (Int × (List Int)) :=
  (loopM (β := Int × (List Int)) (fun s : Int × Int × (List Int) => m_L_markIntS_b1 N s.1 s.2.1 s.2.2) N (p_k, (0 : Int), p_a)).bind fun e =>
  m_L_markIntS_k1 N e.1 e.2
theorem w_L_markIntS (N : Nat) (p_a : (List Int)) (p_k : Int) (r : Int × (List Int)) (hh0 : m_L_markIntS N p_a p_k = some r) : FnX Tryz.prog 16 [⟨.tr (eL p_a), 3, 1⟩] [.os 0 0 p_a.length, iA p_k] (RE (iA r.1) [⟨.tr (eL r.2), 3, 1⟩]) := by
  unfold m_L_markIntS at hh0; refine FnX.mk Tryz.func16 rfl rfl ?_; intro s hs; refine PC.seq ?_; refine PC.region ?_; refine PL.op rfl (Rd.asnT rfl) ?_; refine PL.nil ?_; refine thA_n ?_; (iterate 2 refine PC.seq ?_); refine PC.region ?_; refine PL.op rfl (Rd.asnT rfl) ?_; refine PL.nil ?_; refine thA_n ?_; obtain ⟨o13, h_14, hh0⟩ := bind_some hh0; refine PC.cutE hs (fun x : Int × (List Int) => [(1, iA x.1)]) (fun x => [⟨.tr (eL x.2), 3, 1⟩]) (fun x => m_L_markIntS_k1 N x.1 x.2 = some r) ?_ ?_
  · refine PC.block ?_; refine PC.loop hs (fun x : Nat × (Int × Int × (List Int)) => [(0, .os 0 0 x.2.2.2.length), (1, iA x.2.1), (5, iA x.2.2.1)]) (fun x => [⟨.tr (eL x.2.2.2), 3, 1⟩]) (fun x => loopM (β := Int × (List Int)) (fun s : Int × Int × (List Int) => m_L_markIntS_b1 N s.1 s.2.1 s.2.2) x.1 x.2 = some o13) (fun x => x.1) (N, (p_k, (0 : Int), p_a)) [some 0] ⟨rfl, rfl, ⟨⟨_, rfl, rfl, rfl, .tr _⟩, trivial⟩, ⟨.os rfl, .t _, .t _, trivial⟩⟩ h_14 ?_
    rintro ⟨f15_, k1, i2, v3⟩ h_17
    obtain ⟨f15, y16, rfl, hh1, kk1⟩ := loopM_some h_17
    replace hh1 : m_L_markIntS_b1 N k1 i2 v3 = some y16 := hh1
    unfold m_L_markIntS_b1 at hh1; (iterate 2 refine PC.seq ?_); refine PC.region ?_; refine PL.op rfl (Rd.moveT rfl) ?_; refine PL.op rfl (Rd.moveO rfl) ?_; refine PL.op rfl (Rd.lenO rfl rfl) ?_; refine PL.op rfl (Rd.lss rfl rfl) ?_; refine PL.nil ?_; refine thA_n ?_; rcases cond_some hh1 with ⟨h_18, hh1⟩ | ⟨h_18, hh1⟩; rotate_left
    · refine PC.cond_false rfl h_18 ?_; refine PC.exit ?_; (iterate 2 refine thA_e ?_); refine inA_eq rfl ?_; refine thA_n ?_; obtain rfl := some_in hh1; obtain rfl : ((k1, v3) : Int × (List Int)) = o13 := kk1; exact ⟨(k1, v3), hh0, [some 0], ⟨rfl, rfl, ⟨⟨_, rfl, rfl, rfl, .tr _⟩, trivial⟩, ⟨.t _, trivial⟩⟩⟩
    refine PC.cond_true rfl h_18 ?_; refine PC.skip ?_; refine thA_n ?_; refine PC.seq ?_; refine PC.block ?_; refine PC.seq ?_; obtain ⟨x19, h_20, hh1⟩ := bind_some hh1; refine PC.region ?_; refine PL.op rfl (Rd.moveO rfl) ?_; (iterate 2 refine PL.op rfl (Rd.moveT rfl) ?_); refine PL.op rfl (Rd.ixOM rfl rfl rfl (ixI_lt h_20)) ?_; refine PL.stRM k1 rfl rfl rfl rfl rfl h_20 rfl ?_; refine PL.nO [some ⟨.tr (eL (v3.set i2.toNat k1)), 3, 1⟩] rfl ?_; refine PL.nil ?_; refine thA_n ?_; obtain ⟨n21, h_22, hh1⟩ := bind_some hh1; refine PC.region ?_; refine PL.op rfl (Rd.moveT rfl) ?_; refine PL.op rfl (Rd.addM rfl rfl h_22) ?_; refine PL.op rfl (Rd.asnT rfl) ?_; refine PL.nil ?_; refine inA_n ?_; refine thA_n ?_; obtain ⟨n23, h_24, hh1⟩ := bind_some hh1; refine PC.region ?_; refine PL.op rfl (Rd.moveT rfl) ?_; refine PL.op rfl (Rd.addM rfl rfl h_24) ?_; refine PL.op rfl (Rd.asnT rfl) ?_; refine PL.nil ?_; obtain rfl := some_in hh1; refine thA_n ?_; exact ⟨(f15, (n21, n23, (v3.set i2.toNat k1))), Nat.lt_succ_self _, kk1, [some 0], ⟨rfl, rfl, ⟨⟨_, rfl, rfl, rfl, .tr _⟩, trivial⟩, ⟨.osE rfl (by simp only [List.length_set]), .t _, .t _, trivial⟩⟩⟩
  clear hh0
  rintro ⟨k11, v12⟩ hh0
  replace hh0 : m_L_markIntS_k1 N k11 v12 = some r := hh0
  unfold m_L_markIntS_k1 at hh0; refine thA_n ?_; refine PC.seq ?_; refine PC.region ?_; refine PL.op rfl (Rd.moveT rfl) ?_; refine PL.op rfl (Rd.asnT rfl) ?_; refine PL.nil ?_; refine thA_n ?_; refine PC.ret ?_; obtain rfl := some_in hh0; exact FinA.mk (r := iA ((k11, v12).1)) (bl := [⟨.tr (eL ((k11, v12).2)), 3, 1⟩]) [some 0] (.inl rfl) rfl (rl := [.tmp 4]) (.tmp .nil) rfl rfl rfl (.t _) ⟨⟨_, rfl, rfl, rfl, .tr _⟩, trivial⟩ ⟨rfl, rfl⟩
theorem len_L_markIntS (N : Nat) (a : (List Int)) (k : Int) (r : Int × (List Int)) (h : m_L_markIntS N a k = some r) : r.2.length = a.length := by
  unfold m_L_markIntS at h; obtain ⟨o, h1, h2⟩ := bind_some h; unfold m_L_markIntS_k1 at h2; cases h2; refine al.loop (fun s => s.2.2.length = a.length) (fun b => b.2.length = a.length) ?_ N _ rfl _ h1
  rintro ⟨k, i, v⟩ hv
  show al (m_L_markIntS_b1 N k i v) _
  unfold m_L_markIntS_b1
  repeat' (first | exact al.some hv | (refine al.cond (fun _ => ?_) (fun _ => ?_)) | (refine al.bind (fun _ _ => ?_)) | (refine al.some ?_; simpa only [List.length_set] using hv))
def m_L_heldIntS_k1 (N : Nat) (k11 : Int) : Option (Int) :=
  some k11
def m_L_heldIntS_b1 (N : Nat) (p_a : (List Int)) (k1 : Int) (i2 : Int) : Option ((Int × Int) ⊕ (Int ⊕ Int)) :=
  cond (decide (i2 < (p_a.length : Int)))
    ((ixI p_a i2).bind fun x18 =>
    cond (decide (x18 = k1))
      ((chk (k1 + (1 : Int))).bind fun n21 =>
      (chk (i2 + (1 : Int))).bind fun n23 =>
      some (.inl (n21, n23)))
      (some (.inr (.inr (-1 : Int)))))
    (some (.inr (.inl k1)))
def m_L_heldIntS (N : Nat) (p_a : (List Int)) (p_k : Int) : Option (Int) :=
  (loopM (β := Int ⊕ Int) (fun s : Int × Int => m_L_heldIntS_b1 N p_a s.1 s.2) N (p_k, (0 : Int))).bind fun o => match o with
  | .inl e =>
    m_L_heldIntS_k1 N e
  | .inr v =>
    some v
theorem w_L_heldIntS (N : Nat) (p_a : (List Int)) (p_k : Int) (r : Int) (hh0 : m_L_heldIntS N p_a p_k = some r) : FnX Tryz.prog 17 [] [sL p_a, iA p_k] (RE (iA r) []) := by
  unfold m_L_heldIntS at hh0; refine FnX.mk Tryz.func17 rfl rfl ?_; intro s hs; refine PC.seq ?_; refine PC.region ?_; refine PL.op rfl (Rd.asnT rfl) ?_; refine PL.nil ?_; refine thA_n ?_; (iterate 2 refine PC.seq ?_); refine PC.region ?_; refine PL.op rfl (Rd.asnT rfl) ?_; refine PL.nil ?_; refine thA_n ?_; obtain ⟨o12, h_13, hh0⟩ := bind_some hh0; refine PC.cutE hs (fun x : Int => [(1, iA x)]) (fun x => []) (fun x => m_L_heldIntS_k1 N x = some r) ?_ ?_
  · refine PC.block ?_; refine PC.loop hs (fun x : Nat × (Int × Int) => [(0, sL p_a), (1, iA x.2.1), (5, iA x.2.2)]) (fun x => []) (fun x => loopM (β := Int ⊕ Int) (fun s : Int × Int => m_L_heldIntS_b1 N p_a s.1 s.2) x.1 x.2 = some o12) (fun x => x.1) (N, (p_k, (0 : Int))) [] ⟨rfl, rfl, trivial, ⟨.t _, .t _, .t _, trivial⟩⟩ h_13 ?_
    rintro ⟨f14_, k1, i2⟩ h_16
    obtain ⟨f14, y15, rfl, hh1, kk1⟩ := loopM_some h_16
    replace hh1 : m_L_heldIntS_b1 N p_a k1 i2 = some y15 := hh1
    unfold m_L_heldIntS_b1 at hh1; (iterate 2 refine PC.seq ?_); refine PC.region ?_; (iterate 2 refine PL.op rfl (Rd.moveT rfl) ?_); refine PL.op rfl (Rd.lenT rfl) ?_; refine PL.op rfl (Rd.lss rfl rfl) ?_; refine PL.nil ?_; refine thA_n ?_; rcases cond_some hh1 with ⟨h_17, hh1⟩ | ⟨h_17, hh1⟩; rotate_left
    · refine PC.cond_false rfl h_17 ?_; refine PC.exit ?_; (iterate 2 refine thA_e ?_); refine inA_eq rfl ?_; refine thA_n ?_; obtain rfl := some_in hh1; obtain rfl : (.inl k1 : Int ⊕ Int) = o12 := kk1; exact ⟨k1, hh0, [], ⟨rfl, rfl, trivial, ⟨.t _, trivial⟩⟩⟩
    refine PC.cond_true rfl h_17 ?_; refine PC.skip ?_; refine thA_n ?_; refine PC.seq ?_; refine PC.block ?_; (iterate 2 refine PC.seq ?_); obtain ⟨x18, h_19, hh1⟩ := bind_some hh1; refine PC.region ?_; (iterate 2 refine PL.op rfl (Rd.moveT rfl) ?_); refine PL.op rfl (Rd.ixM rfl rfl h_19) ?_; refine PL.op rfl (Rd.elM1 rfl h_19 rfl rfl) ?_; refine PL.op rfl (Rd.moveT rfl) ?_; refine PL.op rfl (Rd.neq rfl rfl) ?_; refine PL.nil ?_; refine thA_n ?_; rcases cond_some hh1 with ⟨h_20, hh1⟩ | ⟨h_20, hh1⟩; rotate_left
    · refine PC.cond_true rfl (not_f h_20) ?_; refine PC.seq ?_; refine PC.region ?_; refine PL.op rfl (Rd.asnT rfl) ?_; refine PL.nil ?_; refine thA_n ?_; refine PC.ret ?_; refine thA_r ?_; refine inA_r ?_; (iterate 2 refine thA_r ?_); refine inA_r ?_; refine thA_r ?_; obtain rfl := some_in hh1; obtain rfl : (.inr (-1 : Int) : Int ⊕ Int) = o12 := kk1; refine thA_r ?_; obtain rfl := some_in hh0; exact FinA.mk (r := iA (-1 : Int)) (bl := []) [] (.inl rfl) rfl (rl := [.tmp 4]) (.tmp .nil) rfl rfl rfl (.t _) trivial ⟨rfl, rfl⟩
    refine PC.cond_false rfl (not_t h_20) ?_; refine PC.skip ?_; refine thA_n ?_; obtain ⟨n21, h_22, hh1⟩ := bind_some hh1; refine PC.region ?_; refine PL.op rfl (Rd.moveT rfl) ?_; refine PL.op rfl (Rd.addM rfl rfl h_22) ?_; refine PL.op rfl (Rd.asnT rfl) ?_; refine PL.nil ?_; refine inA_n ?_; refine thA_n ?_; obtain ⟨n23, h_24, hh1⟩ := bind_some hh1; refine PC.region ?_; refine PL.op rfl (Rd.moveT rfl) ?_; refine PL.op rfl (Rd.addM rfl rfl h_24) ?_; refine PL.op rfl (Rd.asnT rfl) ?_; refine PL.nil ?_; obtain rfl := some_in hh1; refine thA_n ?_; exact ⟨(f14, (n21, n23)), Nat.lt_succ_self _, kk1, [], ⟨rfl, rfl, trivial, ⟨.t _, .t _, .t _, trivial⟩⟩⟩
  clear hh0
  rintro k11 hh0
  replace hh0 : m_L_heldIntS_k1 N k11 = some r := hh0
  unfold m_L_heldIntS_k1 at hh0; refine thA_n ?_; refine PC.seq ?_; refine PC.region ?_; refine PL.op rfl (Rd.moveT rfl) ?_; refine PL.op rfl (Rd.asnT rfl) ?_; refine PL.nil ?_; refine thA_n ?_; refine PC.ret ?_; obtain rfl := some_in hh0; exact FinA.mk (r := iA k11) (bl := []) [] (.inl rfl) rfl (rl := [.tmp 4]) (.tmp .nil) rfl rfl rfl (.t _) trivial ⟨rfl, rfl⟩
def m_L_markPairS_k1 (N : Nat) (k15 : Int) (v16 : (List I_Pair)) : Option (Int × (List I_Pair)) :=
  some (k15, v16)
def m_L_markPairS_b1 (N : Nat) (k1 : Int) (i2 : Int) (v3 : (List I_Pair)) : Option ((Int × Int × (List I_Pair)) ⊕ (Int × (List I_Pair))) :=
  cond (decide (i2 < (v3.length : Int)))
    ((m_L_markText N k1).bind fun r23 =>
    (ixI v3 i2).bind fun x25 =>
    (chk (k1 + (1 : Int))).bind fun n27 =>
    (chk (n27 + (1 : Int))).bind fun n29 =>
    (chk (i2 + (1 : Int))).bind fun n31 =>
    some (.inl (n29, n31, ((v3.set i2.toNat (I_Pair.mk r23 x25.row)).set i2.toNat (I_Pair.mk r23 n27)))))
    (some (.inr (k1, v3)))
def m_L_markPairS (N : Nat) (p_a : (List I_Pair)) (p_k : Int) : Option (Int × (List I_Pair)) :=
  (loopM (β := Int × (List I_Pair)) (fun s : Int × Int × (List I_Pair) => m_L_markPairS_b1 N s.1 s.2.1 s.2.2) N (p_k, (0 : Int), p_a)).bind fun e =>
  m_L_markPairS_k1 N e.1 e.2
theorem w_L_markPairS (N : Nat) (p_a : (List I_Pair)) (p_k : Int) (r : Int × (List I_Pair)) (hh0 : m_L_markPairS N p_a p_k = some r) : FnX Tryz.prog 24 [⟨.tr (eL p_a), 53, 2⟩] [.os 0 0 p_a.length, iA p_k] (RE (iA r.1) [⟨.tr (eL r.2), 53, 2⟩]) := by
  unfold m_L_markPairS at hh0; refine FnX.mk Tryz.func24 rfl rfl ?_; intro s hs; refine PC.seq ?_; refine PC.region ?_; refine PL.op rfl (Rd.asnT rfl) ?_; refine PL.nil ?_; refine thA_n ?_; (iterate 2 refine PC.seq ?_); refine PC.region ?_; refine PL.op rfl (Rd.asnT rfl) ?_; refine PL.nil ?_; refine thA_n ?_; obtain ⟨o17, h_18, hh0⟩ := bind_some hh0; refine PC.cutE hs (fun x : Int × (List I_Pair) => [(1, iA x.1)]) (fun x => [⟨.tr (eL x.2), 53, 2⟩]) (fun x => m_L_markPairS_k1 N x.1 x.2 = some r) ?_ ?_
  · refine PC.block ?_; refine PC.loop hs (fun x : Nat × (Int × Int × (List I_Pair)) => [(0, .os 0 0 x.2.2.2.length), (1, iA x.2.1), (5, iA x.2.2.1)]) (fun x => [⟨.tr (eL x.2.2.2), 53, 2⟩]) (fun x => loopM (β := Int × (List I_Pair)) (fun s : Int × Int × (List I_Pair) => m_L_markPairS_b1 N s.1 s.2.1 s.2.2) x.1 x.2 = some o17) (fun x => x.1) (N, (p_k, (0 : Int), p_a)) [some 0] ⟨rfl, rfl, ⟨⟨_, rfl, rfl, rfl, .tr _⟩, trivial⟩, ⟨.os rfl, .t _, .t _, trivial⟩⟩ h_18 ?_
    rintro ⟨f19_, k1, i2, v3⟩ h_21
    obtain ⟨f19, y20, rfl, hh1, kk1⟩ := loopM_some h_21
    replace hh1 : m_L_markPairS_b1 N k1 i2 v3 = some y20 := hh1
    unfold m_L_markPairS_b1 at hh1; (iterate 2 refine PC.seq ?_); refine PC.region ?_; refine PL.op rfl (Rd.moveT rfl) ?_; refine PL.op rfl (Rd.moveO rfl) ?_; refine PL.op rfl (Rd.lenO rfl rfl) ?_; refine PL.op rfl (Rd.lss rfl rfl) ?_; refine PL.nil ?_; refine thA_n ?_; rcases cond_some hh1 with ⟨h_22, hh1⟩ | ⟨h_22, hh1⟩; rotate_left
    · refine PC.cond_false rfl h_22 ?_; refine PC.exit ?_; (iterate 2 refine thA_e ?_); refine inA_eq rfl ?_; refine thA_n ?_; obtain rfl := some_in hh1; obtain rfl : ((k1, v3) : Int × (List I_Pair)) = o17 := kk1; exact ⟨(k1, v3), hh0, [some 0], ⟨rfl, rfl, ⟨⟨_, rfl, rfl, rfl, .tr _⟩, trivial⟩, ⟨.t _, trivial⟩⟩⟩
    refine PC.cond_true rfl h_22 ?_; refine PC.skip ?_; refine thA_n ?_; refine PC.seq ?_; refine PC.block ?_; refine PC.seq ?_; obtain ⟨r23, h_24, hh1⟩ := bind_some hh1; obtain ⟨x25, h_26, hh1⟩ := bind_some hh1; refine PC.region ?_; refine PL.op rfl (Rd.moveO rfl) ?_; (iterate 2 refine PL.op rfl (Rd.moveT rfl) ?_); refine PL.callM false [] (w_L_markText N k1 r23 h_24) rfl Tryz.call65 rfl ⟨.t _, trivial⟩ rfl trivial (fun h => by cases h) ?_; refine PL.op rfl (Rd.ixOM rfl rfl rfl (ixI_lt h_26)) ?_; refine PL.op rfl (Rd.fieldO rfl rfl) ?_; refine PL.stFM (f := 0) (I_Pair.mk r23 x25.row) rfl rfl rfl rfl h_26 rfl rfl ?_; refine PL.nO [some ⟨.tr (eL (v3.set i2.toNat (I_Pair.mk r23 x25.row))), 53, 2⟩] rfl ?_; refine PL.nil ?_; refine thA_n ?_; refine PC.seq ?_; obtain ⟨n27, h_28, hh1⟩ := bind_some hh1; refine PC.region ?_; refine PL.op rfl (Rd.moveT rfl) ?_; refine PL.op rfl (Rd.addM rfl rfl h_28) ?_; refine PL.op rfl (Rd.asnT rfl) ?_; refine PL.nil ?_; refine thA_n ?_; refine PC.seq ?_; refine PC.region ?_; refine PL.op rfl (Rd.moveO rfl) ?_; (iterate 2 refine PL.op rfl (Rd.moveT rfl) ?_); refine PL.op rfl (Rd.ixOM rfl rfl rfl (by have hq := ixI_lt (ixI_set (y := (I_Pair.mk r23 x25.row)) h_26); simp only [List.length_set] at hq ⊢; exact hq)) ?_; refine PL.op rfl (Rd.fieldO rfl rfl) ?_; refine PL.stFM (f := 1) (I_Pair.mk r23 n27) rfl rfl rfl rfl (ixI_set (y := (I_Pair.mk r23 x25.row)) h_26) rfl rfl ?_; refine PL.nO [some ⟨.tr (eL ((v3.set i2.toNat (I_Pair.mk r23 x25.row)).set i2.toNat (I_Pair.mk r23 n27))), 53, 2⟩] rfl ?_; refine PL.nil ?_; refine thA_n ?_; obtain ⟨n29, h_30, hh1⟩ := bind_some hh1; refine PC.region ?_; refine PL.op rfl (Rd.moveT rfl) ?_; refine PL.op rfl (Rd.addM rfl rfl h_30) ?_; refine PL.op rfl (Rd.asnT rfl) ?_; refine PL.nil ?_; refine inA_n ?_; refine thA_n ?_; obtain ⟨n31, h_32, hh1⟩ := bind_some hh1; refine PC.region ?_; refine PL.op rfl (Rd.moveT rfl) ?_; refine PL.op rfl (Rd.addM rfl rfl h_32) ?_; refine PL.op rfl (Rd.asnT rfl) ?_; refine PL.nil ?_; obtain rfl := some_in hh1; refine thA_n ?_; exact ⟨(f19, (n29, n31, ((v3.set i2.toNat (I_Pair.mk r23 x25.row)).set i2.toNat (I_Pair.mk r23 n27)))), Nat.lt_succ_self _, kk1, [some 0], ⟨rfl, rfl, ⟨⟨_, rfl, rfl, rfl, .tr _⟩, trivial⟩, ⟨.osE rfl (by simp only [List.length_set]), .t _, .t _, trivial⟩⟩⟩
  clear hh0
  rintro ⟨k15, v16⟩ hh0
  replace hh0 : m_L_markPairS_k1 N k15 v16 = some r := hh0
  unfold m_L_markPairS_k1 at hh0; refine thA_n ?_; refine PC.seq ?_; refine PC.region ?_; refine PL.op rfl (Rd.moveT rfl) ?_; refine PL.op rfl (Rd.asnT rfl) ?_; refine PL.nil ?_; refine thA_n ?_; refine PC.ret ?_; obtain rfl := some_in hh0; exact FinA.mk (r := iA ((k15, v16).1)) (bl := [⟨.tr (eL ((k15, v16).2)), 53, 2⟩]) [some 0] (.inl rfl) rfl (rl := [.tmp 4]) (.tmp .nil) rfl rfl rfl (.t _) ⟨⟨_, rfl, rfl, rfl, .tr _⟩, trivial⟩ ⟨rfl, rfl⟩
theorem len_L_markPairS (N : Nat) (a : (List I_Pair)) (k : Int) (r : Int × (List I_Pair)) (h : m_L_markPairS N a k = some r) : r.2.length = a.length := by
  unfold m_L_markPairS at h; obtain ⟨o, h1, h2⟩ := bind_some h; unfold m_L_markPairS_k1 at h2; cases h2; refine al.loop (fun s => s.2.2.length = a.length) (fun b => b.2.length = a.length) ?_ N _ rfl _ h1
  rintro ⟨k, i, v⟩ hv
  show al (m_L_markPairS_b1 N k i v) _
  unfold m_L_markPairS_b1
  repeat' (first | exact al.some hv | (refine al.cond (fun _ => ?_) (fun _ => ?_)) | (refine al.bind (fun _ _ => ?_)) | (refine al.some ?_; simpa only [List.length_set] using hv))
def m_L_heldPairS_k1 (N : Nat) (k18 : Int) : Option (Int) :=
  some k18
def m_L_heldPairS_b1 (N : Nat) (p_a : (List I_Pair)) (k1 : Int) (i2 : Int) : Option ((Int × Int) ⊕ (Int ⊕ Int)) :=
  cond (decide (i2 < (p_a.length : Int)))
    ((ixI p_a i2).bind fun x25 =>
    (m_L_markText N k1).bind fun r27 =>
    cond (x25.key.toList == r27.toList)
      ((chk (k1 + (1 : Int))).bind fun n30 =>
      (ixI p_a i2).bind fun x32 =>
      cond (decide (x32.row = n30))
        ((chk (n30 + (1 : Int))).bind fun n35 =>
        (chk (i2 + (1 : Int))).bind fun n37 =>
        some (.inl (n35, n37)))
        (some (.inr (.inr (-1 : Int)))))
      (some (.inr (.inr (-1 : Int)))))
    (some (.inr (.inl k1)))
def m_L_heldPairS (N : Nat) (p_a : (List I_Pair)) (p_k : Int) : Option (Int) :=
  (loopM (β := Int ⊕ Int) (fun s : Int × Int => m_L_heldPairS_b1 N p_a s.1 s.2) N (p_k, (0 : Int))).bind fun o => match o with
  | .inl e =>
    m_L_heldPairS_k1 N e
  | .inr v =>
    some v
theorem w_L_heldPairS (N : Nat) (p_a : (List I_Pair)) (p_k : Int) (r : Int) (hh0 : m_L_heldPairS N p_a p_k = some r) : FnX Tryz.prog 25 [] [sL p_a, iA p_k] (RE (iA r) []) := by
  unfold m_L_heldPairS at hh0; refine FnX.mk Tryz.func25 rfl rfl ?_; intro s hs; refine PC.seq ?_; refine PC.region ?_; refine PL.op rfl (Rd.asnT rfl) ?_; refine PL.nil ?_; refine thA_n ?_; (iterate 2 refine PC.seq ?_); refine PC.region ?_; refine PL.op rfl (Rd.asnT rfl) ?_; refine PL.nil ?_; refine thA_n ?_; obtain ⟨o19, h_20, hh0⟩ := bind_some hh0; refine PC.cutE hs (fun x : Int => [(1, iA x)]) (fun x => []) (fun x => m_L_heldPairS_k1 N x = some r) ?_ ?_
  · refine PC.block ?_; refine PC.loop hs (fun x : Nat × (Int × Int) => [(0, sL p_a), (1, iA x.2.1), (5, iA x.2.2)]) (fun x => []) (fun x => loopM (β := Int ⊕ Int) (fun s : Int × Int => m_L_heldPairS_b1 N p_a s.1 s.2) x.1 x.2 = some o19) (fun x => x.1) (N, (p_k, (0 : Int))) [] ⟨rfl, rfl, trivial, ⟨.t _, .t _, .t _, trivial⟩⟩ h_20 ?_
    rintro ⟨f21_, k1, i2⟩ h_23
    obtain ⟨f21, y22, rfl, hh1, kk1⟩ := loopM_some h_23
    replace hh1 : m_L_heldPairS_b1 N p_a k1 i2 = some y22 := hh1
    unfold m_L_heldPairS_b1 at hh1; (iterate 2 refine PC.seq ?_); refine PC.region ?_; (iterate 2 refine PL.op rfl (Rd.moveT rfl) ?_); refine PL.op rfl (Rd.lenT rfl) ?_; refine PL.op rfl (Rd.lss rfl rfl) ?_; refine PL.nil ?_; refine thA_n ?_; rcases cond_some hh1 with ⟨h_24, hh1⟩ | ⟨h_24, hh1⟩; rotate_left
    · refine PC.cond_false rfl h_24 ?_; refine PC.exit ?_; (iterate 2 refine thA_e ?_); refine inA_eq rfl ?_; refine thA_n ?_; obtain rfl := some_in hh1; obtain rfl : (.inl k1 : Int ⊕ Int) = o19 := kk1; exact ⟨k1, hh0, [], ⟨rfl, rfl, trivial, ⟨.t _, trivial⟩⟩⟩
    refine PC.cond_true rfl h_24 ?_; refine PC.skip ?_; refine thA_n ?_; refine PC.seq ?_; refine PC.block ?_; (iterate 2 refine PC.seq ?_); obtain ⟨x25, h_26, hh1⟩ := bind_some hh1; obtain ⟨r27, h_28, hh1⟩ := bind_some hh1; refine PC.any (id := 4) 8 (.seg [0, 1, 2, 3, 4, 5, 6, 7] .done) [] rfl (by kernel_rfl) rfl ?_; refine PT.seg ?_; (iterate 2 refine PR.op rfl (Rd.moveT rfl) ?_); refine PR.op rfl (Rd.ixM rfl rfl h_26) ?_; refine PR.op rfl (Rd.fieldT rfl) ?_; refine PR.op rfl (Rd.elMF (f := 0) rfl h_26 rfl rfl) ?_; refine PR.op rfl (Rd.moveT rfl) ?_; refine PR.callM false [] (w_L_markText N k1 r27 h_28) rfl Tryz.call65 rfl ⟨.t _, trivial⟩ rfl trivial (fun h => by cases h) rfl ?_; refine PR.op rfl (Rd.neqS rfl rfl) ?_; refine PR.nil ?_; refine PT.done ?_; refine PL.nil ?_; refine thA_n ?_; rcases cond_some hh1 with ⟨h_29, hh1⟩ | ⟨h_29, hh1⟩; rotate_left
    · refine PC.cond_true rfl (not_f h_29) ?_; refine PC.seq ?_; refine PC.region ?_; refine PL.op rfl (Rd.asnT rfl) ?_; refine PL.nil ?_; refine thA_n ?_; refine PC.ret ?_; refine thA_r ?_; refine inA_r ?_; (iterate 2 refine thA_r ?_); refine inA_r ?_; refine thA_r ?_; obtain rfl := some_in hh1; obtain rfl : (.inr (-1 : Int) : Int ⊕ Int) = o19 := kk1; refine thA_r ?_; obtain rfl := some_in hh0; exact FinA.mk (r := iA (-1 : Int)) (bl := []) [] (.inl rfl) rfl (rl := [.tmp 4]) (.tmp .nil) rfl rfl rfl (.t _) trivial ⟨rfl, rfl⟩
    refine PC.cond_false rfl (not_t h_29) ?_; refine PC.skip ?_; refine thA_n ?_; refine PC.seq ?_; obtain ⟨n30, h_31, hh1⟩ := bind_some hh1; refine PC.region ?_; refine PL.op rfl (Rd.moveT rfl) ?_; refine PL.op rfl (Rd.addM rfl rfl h_31) ?_; refine PL.op rfl (Rd.asnT rfl) ?_; refine PL.nil ?_; refine thA_n ?_; (iterate 2 refine PC.seq ?_); obtain ⟨x32, h_33, hh1⟩ := bind_some hh1; refine PC.region ?_; (iterate 2 refine PL.op rfl (Rd.moveT rfl) ?_); refine PL.op rfl (Rd.ixM rfl rfl h_33) ?_; refine PL.op rfl (Rd.fieldT rfl) ?_; refine PL.op rfl (Rd.elMF (f := 1) rfl h_33 rfl rfl) ?_; refine PL.op rfl (Rd.moveT rfl) ?_; refine PL.op rfl (Rd.neq rfl rfl) ?_; refine PL.nil ?_; refine thA_n ?_; rcases cond_some hh1 with ⟨h_34, hh1⟩ | ⟨h_34, hh1⟩; rotate_left
    · refine PC.cond_true rfl (not_f h_34) ?_; refine PC.seq ?_; refine PC.region ?_; refine PL.op rfl (Rd.asnT rfl) ?_; refine PL.nil ?_; refine thA_n ?_; refine PC.ret ?_; refine thA_r ?_; refine inA_r ?_; (iterate 2 refine thA_r ?_); refine inA_r ?_; refine thA_r ?_; obtain rfl := some_in hh1; obtain rfl : (.inr (-1 : Int) : Int ⊕ Int) = o19 := kk1; refine thA_r ?_; obtain rfl := some_in hh0; exact FinA.mk (r := iA (-1 : Int)) (bl := []) [] (.inl rfl) rfl (rl := [.tmp 4]) (.tmp .nil) rfl rfl rfl (.t _) trivial ⟨rfl, rfl⟩
    refine PC.cond_false rfl (not_t h_34) ?_; refine PC.skip ?_; refine thA_n ?_; obtain ⟨n35, h_36, hh1⟩ := bind_some hh1; refine PC.region ?_; refine PL.op rfl (Rd.moveT rfl) ?_; refine PL.op rfl (Rd.addM rfl rfl h_36) ?_; refine PL.op rfl (Rd.asnT rfl) ?_; refine PL.nil ?_; refine inA_n ?_; refine thA_n ?_; obtain ⟨n37, h_38, hh1⟩ := bind_some hh1; refine PC.region ?_; refine PL.op rfl (Rd.moveT rfl) ?_; refine PL.op rfl (Rd.addM rfl rfl h_38) ?_; refine PL.op rfl (Rd.asnT rfl) ?_; refine PL.nil ?_; obtain rfl := some_in hh1; refine thA_n ?_; exact ⟨(f21, (n35, n37)), Nat.lt_succ_self _, kk1, [], ⟨rfl, rfl, trivial, ⟨.t _, .t _, .t _, trivial⟩⟩⟩
  clear hh0
  rintro k18 hh0
  replace hh0 : m_L_heldPairS_k1 N k18 = some r := hh0
  unfold m_L_heldPairS_k1 at hh0; refine thA_n ?_; refine PC.seq ?_; refine PC.region ?_; refine PL.op rfl (Rd.moveT rfl) ?_; refine PL.op rfl (Rd.asnT rfl) ?_; refine PL.nil ?_; refine thA_n ?_; refine PC.ret ?_; obtain rfl := some_in hh0; exact FinA.mk (r := iA k18) (bl := []) [] (.inl rfl) rfl (rl := [.tmp 4]) (.tmp .nil) rfl rfl rfl (.t _) trivial ⟨rfl, rfl⟩
end V
end Go.Proofs.YtkjnnifnmoekjaaGreatDoor
namespace Go.Proofs.YtkjnnifnmoekjaaGreatDoor
namespace V
set_option linter.unusedVariables false
set_option linter.unusedSimpArgs false
set_option maxHeartbeats 1000000
/-- A loop that finds nothing to stop at. -/
theorem loop_self {body : Int → Option (Int ⊕ (Unit ⊕ Bool))} {N n : Nat} (hN : n < N) (h : ∀ i, i < n → body (i : Int) = some (.inl ((i : Int) + 1))) (he : body (n : Int) = some (.inr (.inl ()))) : loopM body N (0 : Int) = some (.inl ()) := by
  have : ok (loopM body N (0 : Int)) fun o => o = .inl () := by
    refine ok.each n (fun i s => s = (i : Int)) _ ?_ ?_ N 0 _ (Nat.zero_le _) rfl (by omega)
    · rintro i s hi rfl
      rw [h i hi]; exact ok.some (by simp)
    · rintro s rfl
      rw [he]; exact ok.some rfl
  exact ok.val this
section
variable {N : Nat} (hN : 100000000 ≤ N)
include hN
end
end V
end Go.Proofs.YtkjnnifnmoekjaaGreatDoor
namespace Go.Proofs.YtkjnnifnmoekjaaGreatDoor
namespace V
set_option linter.unusedVariables false
set_option linter.unusedSimpArgs false
section
variable {α : Type} (mk : α → Int → α) (c : α → Nat)
/-- All elements marked, one after the other; c: how many numbers an element takes. -/
def cL : List α → Nat
  | [] => 0
  | x :: xs => c x + cL xs
def mkL : List α → Int → List α
  | [], _ => []
  | x :: xs, k => mk x k :: mkL xs (k + c x)
theorem mkL_len : ∀ (xs : List α) (k : Int), (mkL mk c xs k).length = xs.length
  | [], _ => rfl
  | x :: xs, k => by simp [mkL, mkL_len xs]
theorem cL_app : ∀ xs ys : List α, cL c (xs ++ ys) = cL c xs + cL c ys
  | [], ys => by simp [cL]
  | x :: xs, ys => by simp only [List.cons_append, cL, cL_app xs ys]; omega
theorem mkL_app : ∀ (xs ys : List α) (k : Int), mkL mk c (xs ++ ys) k = mkL mk c xs k ++ mkL mk c ys (k + cL c xs)
  | [], ys, k => by simp [mkL, cL]
  | x :: xs, ys, k => by simp only [List.cons_append, mkL, cL, mkL_app xs ys, Int.natCast_add, Int.add_assoc]
theorem take_succ' {xs : List α} {i : Nat} (h : i < xs.length) : xs.take (i + 1) = xs.take i ++ [xs[i]] := by rw [List.take_add_one, List.getElem?_eq_getElem h]; rfl
theorem cL_take {xs : List α} {i : Nat} (h : i < xs.length) : cL c (xs.take (i + 1)) = cL c (xs.take i) + c xs[i] := by rw [take_succ' h, cL_app]; simp [cL]
theorem cL_take_le (xs : List α) (i : Nat) : cL c (xs.take i) ≤ cL c xs := by
  have := cL_app c (xs.take i) (xs.drop i); rw [List.take_append_drop] at this; omega
theorem cL_const {m : Nat} (h : ∀ x, c x = m) : ∀ xs, cL c xs = m * xs.length
  | [] => by simp [cL]
  | x :: xs => by simp only [cL, h x, cL_const h xs, List.length_cons, Nat.mul_add]; omega
/-- The loop that marks. -/
theorem mark_loop {body : Int × Int × List α → Option ((Int × Int × List α) ⊕ (Int × List α))} {N : Nat} (xs : List α) (k0 : Int) (hN : xs.length < N)
    (h : ∀ (i : Nat) (hi : i < xs.length) (v : List α), v.length = xs.length → v[i]? = some xs[i] → body (k0 + cL c (xs.take i), (i : Int), v) = some (.inl (k0 + cL c (xs.take i) + c xs[i], (i : Int) + 1, v.set i (mk xs[i] (k0 + cL c (xs.take i))))))
    (he : ∀ (k : Int) (v : List α), v.length = xs.length → body (k, (xs.length : Int), v) = some (.inr (k, v))) :
    loopM body N (k0, 0, xs) = some (k0 + cL c xs, mkL mk c xs k0) := by
  have key := ok.loop (body := body) (fun s => ∃ i : Nat, i ≤ xs.length ∧ s = (k0 + cL c (xs.take i), (i : Int), mkL mk c (xs.take i) k0 ++ xs.drop i)) (fun s => ((xs.length : Int) - s.2.1).toNat) (fun r => r = (k0 + cL c xs, mkL mk c xs k0)) ?_ N (k0, 0, xs) ⟨0, Nat.zero_le _, by simp [cL, mkL]⟩ (by simp; omega)
  · obtain ⟨r, e, rfl⟩ := key; exact e
  rintro _ ⟨i, hi, rfl⟩
  have hl : (mkL mk c (xs.take i) k0 ++ xs.drop i).length = xs.length := by simp [mkL_len]; omega
  rcases Nat.lt_or_ge i xs.length with hlt | hge
  · refine ok.of (h i hlt _ hl ?_) ⟨⟨i + 1, hlt, ?_⟩, by simp; omega⟩
    · rw [List.getElem?_append_right (by simp [mkL_len]; exact Nat.min_le_left _ _)]; simp [mkL_len, Nat.min_eq_left hi, List.getElem?_eq_getElem hlt]
    · rw [cL_take c hlt, take_succ' hlt, mkL_app]
      refine Prod.ext (by simp; omega) (Prod.ext (by simp) ?_)
      show (mkL mk c (xs.take i) k0 ++ xs.drop i).set i _ = _
      rw [List.set_append_right _ _ (by simp [mkL_len]; exact Nat.min_le_left _ _)]
      simp only [mkL_len, List.length_take, Nat.min_eq_left hi, Nat.sub_self, List.append_assoc]
      congr 1
      rw [List.drop_eq_getElem_cons hlt, List.set_cons_zero]
      rfl
  · obtain rfl : i = xs.length := by omega
    refine ok.of (he _ _ hl) ?_
    simp
/-- The loop that finds the marks again. -/
theorem held_loop {γ : Type} {body : Int × Int → Option ((Int × Int) ⊕ (Int ⊕ γ))} {N : Nat} (xs : List α) (k0 : Int) (hN : xs.length < N)
    (h : ∀ (i : Nat) (hi : i < xs.length), (mkL mk c xs k0)[i]? = some (mk xs[i] (k0 + cL c (xs.take i))) → body (k0 + cL c (xs.take i), (i : Int)) = some (.inl (k0 + cL c (xs.take i) + c xs[i], (i : Int) + 1)))
    (he : ∀ k : Int, body (k, (xs.length : Int)) = some (.inr (.inl k))) :
    loopM body N (k0, 0) = some (.inl (k0 + cL c xs)) := by
  have key := ok.loop (body := body) (fun s => ∃ i : Nat, i ≤ xs.length ∧ s = (k0 + cL c (xs.take i), (i : Int))) (fun s => ((xs.length : Int) - s.2).toNat) (fun r => r = .inl (k0 + cL c xs)) ?_ N (k0, 0) ⟨0, Nat.zero_le _, by simp [cL]⟩ (by simp; omega)
  · obtain ⟨r, e, rfl⟩ := key; exact e
  rintro _ ⟨i, hi, rfl⟩
  rcases Nat.lt_or_ge i xs.length with hlt | hge
  · refine ok.of (h i hlt ?_) ⟨⟨i + 1, hlt, ?_⟩, by simp; omega⟩
    · conv => lhs; rw [← List.take_append_drop i xs]
      rw [mkL_app, List.getElem?_append_right (by simp [mkL_len]; exact Nat.min_le_left _ _)]
      simp only [mkL_len, List.length_take, Nat.min_eq_left hi, Nat.sub_self]
      rw [List.drop_eq_getElem_cons hlt]; rfl
    · rw [cL_take c hlt]
      refine Prod.ext (by simp; omega) (by simp)
  · obtain rfl : i = xs.length := by omega
    refine ok.of (he _) ?_
    simp
/-- A loop that copies element by element into a new slice. -/
theorem to_loop {β : Type} {body : Int × List β → Option ((Int × List β) ⊕ List β)} {N : Nat} (xs : List α) (f : α → β) (z : List β) (hz : z.length = xs.length) (hN : xs.length < N)
    (h : ∀ (i : Nat) (hi : i < xs.length) (v : List β), v.length = xs.length → body ((i : Int), v) = some (.inl ((i : Int) + 1, v.set i (f xs[i]))))
    (he : ∀ v : List β, body ((xs.length : Int), v) = some (.inr v)) : loopM body N (0, z) = some (xs.map f) := by
  have key := ok.loop (body := body) (fun s => ∃ i : Nat, i ≤ xs.length ∧ s = ((i : Int), (xs.map f).take i ++ z.drop i)) (fun s => ((xs.length : Int) - s.1).toNat) (fun r => r = xs.map f) ?_ N (0, z) ⟨0, Nat.zero_le _, by simp⟩ (by simp; omega)
  · obtain ⟨r, e, rfl⟩ := key; exact e
  rintro _ ⟨i, hi, rfl⟩
  have hl : ((xs.map f).take i ++ z.drop i).length = xs.length := by simp; omega
  rcases Nat.lt_or_ge i xs.length with hlt | hge
  · refine ok.of (h i hlt _ hl) ⟨⟨i + 1, hlt, ?_⟩, by simp; omega⟩
    refine Prod.ext (by simp) ?_
    show ((xs.map f).take i ++ z.drop i).set i _ = _
    rw [List.set_append_right _ _ (by simp; exact Nat.min_le_left _ _), take_succ' (by simpa using hlt)]
    simp only [List.length_take, List.length_map, Nat.min_eq_left hi, Nat.sub_self, List.append_assoc]
    congr 1
    rw [List.drop_eq_getElem_cons (show i < z.length by omega), List.set_cons_zero, List.getElem_map]
    rfl
  · obtain rfl : i = xs.length := by omega
    refine ok.of (he _) ?_
    rw [List.take_of_length_le (by simp), List.drop_of_length_le (by omega), List.append_nil]
end
end V
end Go.Proofs.YtkjnnifnmoekjaaGreatDoor
namespace Go.Proofs.YtkjnnifnmoekjaaGreatDoor
namespace V
open Enc (enc)
set_option linter.unusedVariables false
set_option linter.unusedSimpArgs false
open Go.RowKit Go.ChangeShapes Go.WideShapes Go.ChangeAt
/-- Cells that stand for trees. -/
def TL (w : World) (U : Nat → Prop) (cs : List Tr) (ys : List Value) : Prop :=
  ys.length = cs.length ∧ (∀ y, y ∈ ys → y.oneCell' = true) ∧ ∀ (j : Nat) c y, cs[j]? = some c → ys[j]? = some y → TRel w U c y
theorem TL.nil {w : World} {U : Nat → Prop} : TL w U [] [] := ⟨rfl, fun y h => (List.not_mem_nil h).elim, fun j c y h => by simp at h⟩
theorem TL.app {w : World} {U : Nat → Prop} {cs ds : List Tr} {ys zs : List Value} (h1 : TL w U cs ys) (h2 : TL w U ds zs) : TL w U (cs ++ ds) (ys ++ zs) := by
  refine ⟨by simp [h1.1, h2.1], fun y h => (List.mem_append.1 h).elim (h1.2.1 y) (h2.2.1 y), fun j c y hc hy => ?_⟩
  rcases Nat.lt_or_ge j cs.length with hj | hj
  · rw [List.getElem?_append_left hj] at hc
    rw [List.getElem?_append_left (by rw [h1.1]; exact hj)] at hy
    exact h1.2.2 j c y hc hy
  · rw [List.getElem?_append_right hj] at hc
    rw [List.getElem?_append_right (by rw [h1.1]; exact hj), h1.1] at hy
    exact h2.2.2 _ c y hc hy
theorem TL.one {w : World} {U : Nat → Prop} {c : Tr} {y : Value} (h1 : y.oneCell' = true) (h : TRel w U c y) : TL w U [c] [y] := by
  refine ⟨rfl, fun z hz => by simp at hz; subst hz; exact h1, fun j d z hc hz => ?_⟩
  cases j with
  | zero => simp at hc hz; subst hc hz; exact h
  | succ j => simp at hc
/-- Plain data as Go can hold it. -/
class Szd (α : Type) where szd : α → Prop
open Szd (szd)
instance : Szd Int := ⟨fun n => -9223372036854775808 ≤ n ∧ n ≤ 9223372036854775807⟩
instance : Szd Bool := ⟨fun _ => True⟩
instance : Szd UInt8 := ⟨fun _ => True⟩
instance : Szd ByteArray := ⟨fun s => s.size ≤ 9223372036854775807⟩
instance {α : Type} [Szd α] : Szd (List α) := ⟨fun xs => xs.length ≤ 9223372036854775807 ∧ ∀ x ∈ xs, szd x⟩
/-- What the rows read at a type is some plain value. -/
class Opn (P : Program) (α : Type) [Enc α] [Szd α] (t : TypeId) : Prop where
  opn : ∀ {H : Type} {en : TypeId × Value → H} {W : World} {fuel : Nat} {cs : List Value} {x : DataW H × List MemPlace}, DataW.trod en P W 0 (fun _ => true) true fuel t cs = some x → ∃ a : α, TL W (· < W.heap.size) (enc a) cs ∧ szd a
section
variable {P : Program} {t : TypeId}
theorem Opn.int (ht : P.underlying t = some (.int .i64)) : Opn P Int t := ⟨fun h => by
  obtain ⟨n, rfl, rfl, hw⟩ := DataW.trod_int ht h
  exact ⟨n, TL.one rfl (.v _ rfl), by simpa [Lit.wf, IntKind.min, IntKind.max, IntKind.signed, IntKind.bits, szd] using hw⟩⟩
theorem Opn.u8 (ht : P.underlying t = some (.int .u8)) : Opn P UInt8 t := ⟨fun h => by
  obtain ⟨n, rfl, rfl, hw⟩ := DataW.trod_int ht h
  have hn : 0 ≤ n ∧ n ≤ 255 := by simpa [Lit.wf, IntKind.min, IntKind.max, IntKind.signed, IntKind.bits] using hw
  obtain ⟨k, rfl⟩ := Int.eq_ofNat_of_zero_le hn.1
  refine ⟨UInt8.ofNat k, TL.one rfl ?_, trivial⟩
  have : (UInt8.ofNat k).toNat = k := UInt8.toNat_ofNat_of_lt' (by show k < 256; omega)
  rw [this]; exact .v _ rfl⟩
theorem Opn.str (ht : P.underlying t = some .string) : Opn P ByteArray t := ⟨fun h => by
  obtain ⟨n, rfl, rfl, hw⟩ := DataW.trod_string ht h
  exact ⟨n, TL.one rfl (.v _ rfl), hw⟩⟩
theorem spot_none {w : World} {a : Addr} {v : Value} (h : w.cell? a = some v) : a.spot = none := by
  unfold World.cell? at h
  split at h
  · split at h
    · cases h
    · simpa using ‹¬ a.spot.isSome = true›
  · cases h
theorem cell_lt {w : World} {a : Addr} {v : Value} (h : w.cell? a = some v) : a.block < w.heap.size := by
  unfold World.cell? at h
  split at h
  · rename_i hq
    exact (Array.getElem?_eq_some_iff.1 hq).1
  · cases h
theorem addr_add' {B o j : Nat} : Addr.add ⟨B, o, none⟩ j = ⟨B, o + j, none⟩ := by unfold Addr.add; split <;> simp_all
theorem addr_add2 (a : Addr) (i j : Nat) : (a.add i).add j = a.add (i + j) := by unfold Addr.add; by_cases hi : i = 0 <;> by_cases hj : j = 0 <;> simp [hi, hj, Nat.add_assoc]
theorem Opn.sl {α : Type} [F : Enc α] [Szd α] {e : TypeId} (ht : P.underlying t = some (.slice e)) (hc : P.cellsOf e = F.k) (hpos : 0 < F.k) [E : Opn P α e] : Opn P (List α) t := ⟨fun {H en W fuel cs x} h => by
  rcases Go.Deep.open_slice ht h with ⟨rfl, rfl⟩ | ⟨a, len, cap, m, n, D, Pl, rfl, _, hl, hm, hmm, rfl, hel⟩
  · exact ⟨[], TL.one rfl .nil, by simp, fun x hx => by cases hx⟩
  · simp only [if_pos] at hmm
    have hm' : cap ≤ 9223372036854775807 := hm
    -- the elements, one by one
    have key : ∀ k, k ≤ len → ∃ (xs : List α) (ys : List Value), xs.length = k ∧ TL W (· < W.heap.size) (eL xs) ys ∧ (∀ x ∈ xs, szd x) ∧ ∀ (j : Nat) y, ys[j]? = some y → W.cell? (a.add j) = some y := by
      intro k
      induction k with
      | zero => intro _; exact ⟨[], [], rfl, TL.nil, fun x hx => (List.not_mem_nil hx).elim, fun j y hy => (by simp at hy)⟩
      | succ k ih =>
        intro hk
        obtain ⟨xs, ys, h1, h2, h3, h4⟩ := ih (by omega)
        obtain ⟨cs', h5, h6⟩ := hel k (by omega)
        obtain ⟨x, h7, h8⟩ := E.opn h6
        obtain ⟨_, hcl, hcg⟩ := World.cells?_some h5
        have hyl : ys.length = k * F.k := by rw [h2.1, eL_len, h1]
        refine ⟨xs ++ [x], ys ++ cs', by simp [h1], ?_, fun y hy => ?_, fun j y hy => ?_⟩
        · rw [eL_app, eL_one]; exact h2.app h7
        · rcases List.mem_append.1 hy with hy | hy
          · exact h3 y hy
          · simp at hy; subst hy; exact h8
        · rcases Nat.lt_or_ge j ys.length with hj | hj
          · rw [List.getElem?_append_left hj] at hy; exact h4 j y hy
          · rw [List.getElem?_append_right hj] at hy
            have hjl := (List.getElem?_eq_some_iff.1 hy).1
            have := hcg (j - ys.length) (by omega)
            rw [hy, hyl] at this
            rw [addr_add2, hc] at this
            rw [← this]
            congr 2; omega
    obtain ⟨xs, ys, h1, h2, h3, h4⟩ := key len (Nat.le_refl _)
    subst h1
    refine ⟨xs, ?_, by show xs.length ≤ 9223372036854775807; omega, h3⟩
    by_cases h0 : xs.length = 0
    · obtain rfl := List.eq_nil_of_length_eq_zero h0
      exact TL.one rfl (.sl0 _ _)
    · have hne : 0 < ys.length := by rw [h2.1, eL_len]; exact Nat.mul_pos (by omega) hpos
      have c0 := h4 0 _ (List.getElem?_eq_getElem hne)
      have hsp : a.spot = none := spot_none (by simpa [Addr.add] using c0)
      have hb := cell_lt c0
      obtain ⟨B, o, s⟩ := a
      simp only at hsp; subst hsp
      rw [addr_add'] at hb
      exact TL.one rfl (.sl B o xs.length cap (eL xs) ys hb h2.1 h2.2.1 (fun j y hy => by have := h4 j y hy; rwa [addr_add'] at this) h2.2.2 hl)⟩
/-- The fields of a struct, one after the other. -/
theorem opn_fields {H : Type} {en : TypeId × Value → H} {W : World} {fs : Array Field} {fuel : Nat} {cs : List Value} {x : DataW H × List MemPlace} (ht : P.underlying t = some (.struct fs)) (h : DataW.trod en P W 0 (fun _ => true) true fuel t cs = some x) :
    cs.length = P.cellsOf t ∧ ∀ (i : Nat) (f : Field), fs[i]? = some f → ∃ n y, DataW.trod en P W 0 (fun _ => true) true n f.type ((cs.drop f.offset).take (P.cellsOf f.type)) = some y := by
  obtain ⟨xs, n, rfl, rfl, h1, h2, h3⟩ := DataW.trod_struct ht h
  refine ⟨h1, fun i f hf => ?_⟩
  have := h3 i f hf
  obtain ⟨hi, _⟩ := Array.getElem?_eq_some_iff.1 hf
  exact ⟨n, xs[i], by rw [this, List.getElem?_eq_getElem (by omega)]⟩
/-- An argument of a law. -/
theorem Opn.arg {α : Type} [F : Enc α] [Szd α] {H : Type} {en : TypeId × Value → H} {W : World} {v : Value} {d : DataW H} {ps : List MemPlace} (E : Opn P α t) (hk : ∀ a : α, (enc a).length = 1) (hv : v.cells = #[v]) (h : DataW.Trod en P W 0 (fun _ => true) true t v d ps) :
    ∃ a : α, (∀ M, ∀ c, (enc a)[0]? = some c → Rel W (· < W.heap.size) M (.t c) v) ∧ szd a := by
  obtain ⟨fuel, hf⟩ := h
  rw [hv] at hf
  obtain ⟨a, h1, h2⟩ := E.opn hf
  exact ⟨a, fun M c hc => .t _ _ (h1.2.2 0 c v hc rfl), h2⟩
theorem Opn.argS {α : Type} [F : Enc α] [Szd α] {H : Type} {en : TypeId × Value → H} {W : World} {cs : Array Value} {d : DataW H} {ps : List MemPlace} (E : Opn P α t) (h : DataW.Trod en P W 0 (fun _ => true) true t (.agg cs) d ps) :
    ∃ a : α, (∀ M, Rel W (· < W.heap.size) M (.agg ((enc a).map .t)) (.agg cs)) ∧ szd a := by
  obtain ⟨fuel, hf⟩ := h
  obtain ⟨a, h1, h2⟩ := E.opn hf
  refine ⟨a, fun M => ?_, h2⟩
  have h1' : TL W (· < W.heap.size) (enc a) cs.toList := h1
  have : Rel W (· < W.heap.size) M (.agg ((enc a).map .t)) (.agg cs.toList.toArray) := .agg _ _ (by simp [h1'.1]) h1'.2.1 fun j c y hc hy => by
    rw [List.getElem?_map] at hc
    obtain ⟨c', hc', rfl⟩ := Option.map_eq_some_iff.1 hc
    exact .t _ _ (h1'.2.2 j c' y hc' hy)
  simpa using this
theorem TL.step {W : World} {U : Nat → Prop} {c d : List Tr} {cs : List Value} {i j m : Nat} (h : TL W U c ((cs.drop i).take m)) (hr : TL W U d (cs.drop j)) (hj : j = i + m) : TL W U (c ++ d) (cs.drop i) := by
  have := h.app hr
  rw [hj, ← List.drop_drop, List.take_append_drop] at this
  exact this
theorem TL.fin {W : World} {U : Nat → Prop} {cs : List Value} {k : Nat} (h : cs.length = k) : TL W U [] (cs.drop k) := by
  rw [List.drop_of_length_le (by omega)]; exact TL.nil
theorem args2 {w : World} {U : Nat → Prop} {M : Mp} {a b : AV} {y z : Value} (h : Rel w U M a y) (h' : Rel w U M b z) : ArgsRel w U M [a, b] [y, z] :=
  ⟨rfl, fun i c z hc hz => by
    match i with
    | 0 => cases hc; cases hz; exact h
    | 1 => cases hc; cases hz; exact h'
    | i + 2 => simp at hc⟩
theorem args4 {w : World} {U : Nat → Prop} {M : Mp} {a b d e : AV} {y z u v : Value} (h : Rel w U M a y) (h' : Rel w U M b z) (h2 : Rel w U M d u) (h3 : Rel w U M e v) : ArgsRel w U M [a, b, d, e] [y, z, u, v] :=
  ⟨rfl, fun i c z hc hz => by
    match i with
    | 0 => cases hc; cases hz; exact h
    | 1 => cases hc; cases hz; exact h'
    | 2 => cases hc; cases hz; exact h2
    | 3 => cases hc; cases hz; exact h3
    | i + 4 => simp at hc⟩
theorem own : ownKnob Tryz.prog.godebug = none := by kernel_rfl
theorem laidOut : laidOutB Tryz.prog = true := by kernel_rfl
/-- What the call of a law comes to, from the start of a run. -/
theorem law_run {f : FuncId} {args : List AV} {av : List Value} {W : World} (ht : TabOk W (· < W.heap.size)) (hc : FnX P f [] args (RE (bA true) [])) (ha : ArgsRel W (· < W.heap.size) [] args av) : Calls P f av.toArray W fun e W' => e = .returned (.bool true) ∧ Below W.heap.size W W' := by
  have := hc ⟨W, [], (· < W.heap.size)⟩ (· < W.heap.size) av ?_ (fun B h => h) ha
  · refine this.mono ?_
    rintro e w' ⟨v, r, bl, M', U', rfl, ⟨rfl, rfl⟩, h3, h4⟩
    cases h3 with | t _ _ h =>
    cases h
    refine ⟨rfl, ?_⟩
    exact h4.base.below
  · have hno : ∀ B, ¬ InM [] B := fun B ⟨b, p, h, _⟩ => by simp at h
    exact ⟨BelowX.refl _ _, fun b x h => by simp at h, rfl, fun B h => (hno B h).elim, fun B h => (hno B h).elim, fun b b' p p' B h => by simp at h, fun f F h => by simp at h, fun b ob x h => by simp at h, fun B h => ⟨⟨h, hno B⟩, .inl h⟩, ht⟩
end
end V
end Go.Proofs.YtkjnnifnmoekjaaGreatDoor
namespace Go.Proofs.YtkjnnifnmoekjaaGreatDoor
namespace V
set_option linter.unusedVariables false
set_option maxRecDepth 100000
theorem mayEnter_of {P : Program} {c : List Char} {rest : List (List Char)} (h : behindMainWord (wordsSigns P.initOrder.toList) = c :: rest)
    (h1 : ((stripLifts liftWords (c :: rest)).2.head? == some "cut".toList) = true) (h2 : ((stripLifts liftWords (c :: rest)).1.contains "finals" || !P.laysLater) = true)
    (h3 : ((stripLifts liftWords (c :: rest)).1.contains "reflectrows" || !P.bearsReflect) = true) (h4 : ((stripLifts liftWords (c :: rest)).1.contains "reflectrows" || !(stripLifts liftWords (c :: rest)).1.contains "leanrows") = true)
    (h5 : P.doorFits (stripLifts liftWords (c :: rest)).1 = true) : P.mayEnter = true := by
  unfold Program.mayEnter
  rw [h]
  simp only [h1, h2, h3, h4, h5, Bool.and_true, Bool.or_true]
theorem lifted_of {P : Program} {b : Bool} (h : P.liftsFinal = false) (hb : b = false) : (b == P.liftsFinal) = true := by rw [h, hb]; rfl
theorem make_of {P : Program} {m : Make} (h : P.make = some .cut) (hm : m = .cut) : (P.make == some m) = true := by rw [h, hm]; rfl
theorem iniT : Tryz.prog.initOrder = String.ofList (List.map Char.ofNat [104, 97, 114, 110, 101, 115, 115, 32, 99, 49, 51, 50, 57, 49, 54, 101, 57, 48, 48, 99, 97, 51, 100, 51, 52, 55, 49, 54, 99, 51, 99, 98, 102, 100, 53, 100, 56, 51, 56, 102, 97, 99, 56, 49, 102, 97, 54, 49, 99, 56, 57, 101, 48, 53, 55, 57, 53, 57, 49, 99, 102, 49, 50, 52, 53, 49, 50, 53, 98, 51, 49, 50, 32, 99, 117, 116, 32, 97, 116, 32, 108, 111, 111, 112, 46, 101, 120, 97, 109, 112, 108, 101, 47, 115, 99, 104, 101, 109, 97, 109, 105, 103, 114, 97, 116, 105, 111, 110, 47, 108, 97, 119, 115, 46, 70, 110, 69, 120, 97, 99, 116, 83, 99, 97, 110, 84, 97, 98, 108, 101, 32, 108, 111, 111, 112, 46, 101, 120, 97, 109, 112, 108, 101, 47, 115, 99, 104, 101, 109, 97, 109, 105, 103, 114, 97, 116, 105, 111, 110, 47, 108, 97, 119, 115, 46, 70, 110, 73, 110, 100, 101, 120, 67, 111, 108, 117, 109, 110, 32, 108, 111, 111, 112, 46, 101, 120, 97, 109, 112, 108, 101, 47, 115, 99, 104, 101, 109, 97, 109, 105, 103, 114, 97, 116, 105, 111, 110, 47, 108, 97, 119, 115, 46, 70, 110, 69, 120, 97, 99, 116, 73, 110, 100, 101, 120, 67, 111, 108, 117, 109, 110, 32, 108, 111, 111, 112, 46, 101, 120, 97, 109, 112, 108, 101, 47, 115, 99, 104, 101, 109, 97, 109, 105, 103, 114, 97, 116, 105, 111, 110, 47, 108, 97, 119, 115, 46, 70, 110, 83, 99, 97, 110, 84, 97, 98, 108, 101, 73, 110, 100, 101, 120]) := by kernel_rfl
theorem iniW : behindMainWord (wordsSigns Tryz.prog.initOrder.toList) = List.map Char.ofNat [99, 117, 116] :: List.map (List.map Char.ofNat) [[97, 116], [108, 111, 111, 112, 46, 101, 120, 97, 109, 112, 108, 101, 47, 115, 99, 104, 101, 109, 97, 109, 105, 103, 114, 97, 116, 105, 111, 110, 47, 108, 97, 119, 115, 46, 70, 110, 69, 120, 97, 99, 116, 83, 99, 97, 110, 84, 97, 98, 108, 101], [108, 111, 111, 112, 46, 101, 120, 97, 109, 112, 108, 101, 47, 115, 99, 104, 101, 109, 97, 109, 105, 103, 114, 97, 116, 105, 111, 110, 47, 108, 97, 119, 115, 46, 70, 110, 73, 110, 100, 101, 120, 67, 111, 108, 117, 109, 110], [108, 111, 111, 112, 46, 101, 120, 97, 109, 112, 108, 101, 47, 115, 99, 104, 101, 109, 97, 109, 105, 103, 114, 97, 116, 105, 111, 110, 47, 108, 97, 119, 115, 46, 70, 110, 69, 120, 97, 99, 116, 73, 110, 100, 101, 120, 67, 111, 108, 117, 109, 110], [108, 111, 111, 112, 46, 101, 120, 97, 109, 112, 108, 101, 47, 115, 99, 104, 101, 109, 97, 109, 105, 103, 114, 97, 116, 105, 111, 110, 47, 108, 97, 119, 115, 46, 70, 110, 83, 99, 97, 110, 84, 97, 98, 108, 101, 73, 110, 100, 101, 120]] := by rw [iniT, String.toList_ofList]; kernel_rfl
theorem mayE : Tryz.prog.mayEnter = true := mayEnter_of iniW (by kernel_rfl) (by kernel_rfl) (by kernel_rfl) (by kernel_rfl) (by kernel_rfl)
theorem liftE : Tryz.prog.liftsFinal = false := by
  unfold Program.liftsFinal Program.headLifts
  rw [iniW]
  kernel_rfl
theorem make_cut {P : Program} {c : List Char} {rest : List (List Char)} (h : behindMainWord (wordsSigns P.initOrder.toList) = c :: rest) (h1 : (c == "gc".toList || c == "spec".toList) = false) (h2 : (c == "cut".toList || (c == "finals".toList && rest.head? == some "cut".toList)) = true) : P.make = some .cut := by
  unfold Program.make
  rw [h]
  simp only [h1, h2, if_true, Bool.false_eq_true, if_false]
theorem makeE : Tryz.prog.make = some .cut := make_cut iniW (by kernel_rfl) (by kernel_rfl)
end V
end Go.Proofs.YtkjnnifnmoekjaaGreatDoor
namespace Go.Proofs.YtkjnnifnmoekjaaGreatDoor
namespace V
set_option linter.unusedVariables false
set_option maxRecDepth 100000
open Go.ChangeShapes Go.WideShapes Go.ChangeAt Go.RowKit
/-- What the rows list. -/
def seatLaid : List (String × DataW Unit) := [("math/bits.deBruijn32tab", Rows.laid_math_bits_deBruijn32tab), ("math/bits.deBruijn64tab", Rows.laid_math_bits_deBruijn64tab), ("internal/strconv.uint64pow10", Rows.laid_internal_strconv_uint64pow10)]
/-- How many steps the door's run takes. -/
def doorN : Nat := 24
theorem door_met (os : Os) (args : Array Value) : laidMetH Tryz.prog seatLaid ((World.doorLaid Tryz.prog doorN os).forCall (fun _ _ => 0) ⟨#[], args, []⟩).memory :=
  laidMetH_of_parts3 (fuel := 8) (laidMet_of_run' 8 (by kernel_rfl) (by kernel_rfl)) (by kernel_rfl) (by kernel_rfl)
theorem gPow : Tryz.prog.globalNamed "internal/strconv.uint64pow10" = some 0 := by kernel_rfl
theorem tPow : (Tryz.prog.globals[0]?).map (·.type) = some 211 := by kernel_rfl
theorem onePow : (seatLaid.filter fun x => x.1 == "internal/strconv.uint64pow10") = [("internal/strconv.uint64pow10", Lib.tabData .u64 Lib.pow10Tab)] := by kernel_rfl
theorem tabOk_laid {W : World} (h : laidMetH Tryz.prog seatLaid W) : TabOk W (· < W.heap.size) := by
  rw [MakeChecks.laidMetH_plain _ _ _ (by kernel_rfl)] at h
  have h2 := laidMet.filter (fun x => x.1 == "internal/strconv.uint64pow10") h
  rw [onePow] at h2
  have h3 := Lib.tabIs_of_head gPow tPow Tryz.underlying211 Tryz.underlying174 (by kernel_rfl) (by kernel_rfl) h2
  exact ⟨0, gPow, cell_lt (h3.cell gPow 0 (by decide)), h3⟩
end V
end Go.Proofs.YtkjnnifnmoekjaaGreatDoor
