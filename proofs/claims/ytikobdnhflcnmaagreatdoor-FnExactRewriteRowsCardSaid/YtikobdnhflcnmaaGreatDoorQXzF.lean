/- What the rows need, part 6. No condition. -/
import Derived.Test.YtikobdnhflcnmaaGreatDoorQXzE
namespace Go.Proofs.YtikobdnhflcnmaaGreatDoor
namespace V
open Enc (enc)
set_option linter.unusedVariables false
set_option linter.unusedSimpArgs false
set_option maxHeartbeats 4000000
set_option maxRecDepth 100000
open Go.RowKit
attribute [local irreducible] thA inA FinA eL
structure L_Value where
  kind : Int
  num : Int
  text : ByteArray
deriving DecidableEq
instance : Enc L_Value := ⟨fun x => [.v (.int .i64 x.kind), .v (.int .i64 x.num), .v (.string x.text)], 3, fun _ => rfl⟩
structure L_Column where
  kind : Int
  default : L_Value
deriving DecidableEq
instance : Enc L_Column := ⟨fun x => [.v (.int .i64 x.kind), .v (.int .i64 x.default.kind), .v (.int .i64 x.default.num), .v (.string x.default.text)], 4, fun _ => rfl⟩
structure L_Change where
  kind : Int
  at_ : Int
  column : L_Column
deriving DecidableEq
instance : Enc L_Change := ⟨fun x => [.v (.int .i64 x.kind), .v (.int .i64 x.at_), .v (.int .i64 x.column.kind), .v (.int .i64 x.column.default.kind), .v (.int .i64 x.column.default.num), .v (.string x.column.default.text)], 6, fun _ => rfl⟩
structure L_Tagged where
  tag : Int
  row : List L_Value
deriving DecidableEq
instance : Enc L_Tagged := ⟨fun x => [.v (.int .i64 x.tag), .sl x.row.length (eL x.row)], 2, fun _ => rfl⟩
structure L_Table where
  first : List L_Column
  changes : List L_Change
  rows : List L_Tagged
deriving DecidableEq
instance : Enc L_Table := ⟨fun x => [.sl x.first.length (eL x.first), .sl x.changes.length (eL x.changes), .sl x.rows.length (eL x.rows)], 3, fun _ => rfl⟩
def m_L_szValue (N : Nat) (p_a : L_Value) (p_left : Int) : Option (Int) :=
  (chk (p_left - (p_a.text.size : Int))).bind fun n1 =>
  cond (decide (n1 < (0 : Int)))
    (some (-1 : Int))
    (some n1)
theorem w_L_szValue (N : Nat) (p_a : L_Value) (p_left : Int) (r : Int) (hh0 : m_L_szValue N p_a p_left = some r) : FnX Tryz.prog 64 [] [.agg [iA p_a.kind, iA p_a.num, sA p_a.text], iA p_left] (RE (iA r) []) := by
  unfold m_L_szValue at hh0; refine FnX.mk Tryz.func64 rfl rfl ?_; intro s hs; refine PC.seq ?_; refine PC.region ?_; refine PL.ef rfl (Ef.box rfl rfl rfl) ?_; refine PL.nm (.op 0 0) [some ⟨.mx [iA p_a.kind, iA p_a.num, sA p_a.text], 67, 0⟩] rfl rfl ?_; refine PL.op rfl (Rd.asnT rfl) ?_; refine PL.nil ?_; refine thA_n ?_; refine PC.seq ?_; obtain ⟨n1, h_2, hh0⟩ := bind_some hh0; refine PC.region ?_; refine PL.op rfl (Rd.moveT rfl) ?_; refine PL.op rfl (Rd.fieldO rfl rfl) ?_; refine PL.op rfl (Rd.loadO rfl rfl rfl) ?_; refine PL.op rfl (Rd.lenSt rfl) ?_; refine PL.op rfl (Rd.subM rfl rfl h_2) ?_; refine PL.op rfl (Rd.asnT rfl) ?_; refine PL.nil ?_; refine thA_n ?_; (iterate 2 refine PC.seq ?_); refine PC.region ?_; refine PL.op rfl (Rd.moveT rfl) ?_; refine PL.op rfl (Rd.lss rfl rfl) ?_; refine PL.nil ?_; refine thA_n ?_; rcases cond_some hh0 with ⟨h_3, hh0⟩ | ⟨h_3, hh0⟩
  · refine PC.cond_true rfl h_3 ?_; refine PC.seq ?_; refine PC.region ?_; refine PL.op rfl (Rd.asnT rfl) ?_; refine PL.nil ?_; refine thA_n ?_; refine PC.ret ?_; refine thA_r ?_; obtain rfl := some_in hh0; exact FinA.mk (r := iA (-1 : Int)) (bl := []) [] (.inl rfl) rfl (rl := [.tmp 4]) (.tmp .nil) rfl rfl rfl (.t _) trivial ⟨rfl, rfl⟩
  refine PC.cond_false rfl h_3 ?_; refine PC.skip ?_; refine thA_n ?_; refine PC.seq ?_; refine PC.region ?_; refine PL.op rfl (Rd.moveT rfl) ?_; refine PL.op rfl (Rd.asnT rfl) ?_; refine PL.nil ?_; refine thA_n ?_; refine PC.ret ?_; obtain rfl := some_in hh0; exact FinA.mk (r := iA n1) (bl := []) [] (.inl rfl) rfl (rl := [.tmp 4]) (.tmp .nil) rfl rfl rfl (.t _) trivial ⟨rfl, rfl⟩
def m_L_szColumn (N : Nat) (p_a : L_Column) (p_left : Int) : Option (Int) :=
  (m_L_szValue N p_a.default p_left).bind fun r1 =>
  cond (decide (r1 < (0 : Int)))
    (some (-1 : Int))
    (some r1)
theorem w_L_szColumn (N : Nat) (p_a : L_Column) (p_left : Int) (r : Int) (hh0 : m_L_szColumn N p_a p_left = some r) : FnX Tryz.prog 42 [] [.agg [iA p_a.kind, iA p_a.default.kind, iA p_a.default.num, sA p_a.default.text], iA p_left] (RE (iA r) []) := by
  unfold m_L_szColumn at hh0; refine FnX.mk Tryz.func42 rfl rfl ?_; intro s hs; refine PC.seq ?_; refine PC.region ?_; refine PL.ef rfl (Ef.box rfl rfl rfl) ?_; refine PL.nm (.op 0 0) [some ⟨.mx [iA p_a.kind, iA p_a.default.kind, iA p_a.default.num, sA p_a.default.text], 69, 0⟩] rfl rfl ?_; refine PL.op rfl (Rd.asnT rfl) ?_; refine PL.nil ?_; refine thA_n ?_; refine PC.seq ?_; obtain ⟨r1, h_2, hh0⟩ := bind_some hh0; refine PC.region ?_; refine PL.op rfl (Rd.fieldO rfl rfl) ?_; refine PL.op rfl (Rd.loadSub rfl rfl rfl rfl) ?_; refine PL.op rfl (Rd.moveT rfl) ?_; refine PL.callM false [] (w_L_szValue N p_a.default p_left r1 h_2) rfl Tryz.call64 rfl ⟨.aggL ⟨.t _, .t _, .t _, trivial⟩, .t _, trivial⟩ rfl trivial (fun h => by cases h) ?_; refine PL.op rfl (Rd.asnT rfl) ?_; refine PL.nil ?_; refine thA_n ?_; (iterate 2 refine PC.seq ?_); refine PC.region ?_; refine PL.op rfl (Rd.moveT rfl) ?_; refine PL.op rfl (Rd.lss rfl rfl) ?_; refine PL.nil ?_; refine thA_n ?_; rcases cond_some hh0 with ⟨h_3, hh0⟩ | ⟨h_3, hh0⟩
  · refine PC.cond_true rfl h_3 ?_; refine PC.seq ?_; refine PC.region ?_; refine PL.op rfl (Rd.asnT rfl) ?_; refine PL.nil ?_; refine thA_n ?_; refine PC.ret ?_; refine thA_r ?_; obtain rfl := some_in hh0; exact FinA.mk (r := iA (-1 : Int)) (bl := []) [] (.inl rfl) rfl (rl := [.tmp 4]) (.tmp .nil) rfl rfl rfl (.t _) trivial ⟨rfl, rfl⟩
  refine PC.cond_false rfl h_3 ?_; refine PC.skip ?_; refine thA_n ?_; refine PC.seq ?_; refine PC.region ?_; refine PL.op rfl (Rd.moveT rfl) ?_; refine PL.op rfl (Rd.asnT rfl) ?_; refine PL.nil ?_; refine thA_n ?_; refine PC.ret ?_; obtain rfl := some_in hh0; exact FinA.mk (r := iA r1) (bl := []) [] (.inl rfl) rfl (rl := [.tmp 4]) (.tmp .nil) rfl rfl rfl (.t _) trivial ⟨rfl, rfl⟩
def m_L_szColumnS_k1 (N : Nat) (left14 : Int) : Option (Int) :=
  some left14
def m_L_szColumnS_b1 (N : Nat) (p_a : (List L_Column)) (left4 : Int) (i5 : Int) : Option ((Int × Int) ⊕ (Int ⊕ Int)) :=
  cond (decide (i5 < (p_a.length : Int)))
    ((ixI p_a i5).bind fun x21 =>
    (m_L_szColumn N x21 left4).bind fun r23 =>
    cond (decide (r23 < (0 : Int)))
      (some (.inr (.inr (-1 : Int))))
      ((chk (i5 + (1 : Int))).bind fun n26 =>
      some (.inl (r23, n26))))
    (some (.inr (.inl left4)))
def m_L_szColumnS (N : Nat) (p_a : (List L_Column)) (p_left : Int) : Option (Int) :=
  (chk (p_left - (p_a.length : Int))).bind fun n1 =>
  cond (decide (n1 < (0 : Int)))
    (some (-1 : Int))
    ((loopM (β := Int ⊕ Int) (fun s : Int × Int => m_L_szColumnS_b1 N p_a s.1 s.2) N (n1, (0 : Int))).bind fun o => match o with
    | .inl e =>
      m_L_szColumnS_k1 N e
    | .inr v =>
      some v)
theorem w_L_szColumnS (N : Nat) (p_a : (List L_Column)) (p_left : Int) (r : Int) (hh0 : m_L_szColumnS N p_a p_left = some r) : FnX Tryz.prog 17 [] [sL p_a, iA p_left] (RE (iA r) []) := by
  unfold m_L_szColumnS at hh0; refine FnX.mk Tryz.func17 rfl rfl ?_; intro s hs; refine PC.seq ?_; refine PC.region ?_; refine PL.op rfl (Rd.asnT rfl) ?_; refine PL.nil ?_; refine thA_n ?_; refine PC.seq ?_; obtain ⟨n1, h_2, hh0⟩ := bind_some hh0; refine PC.region ?_; (iterate 2 refine PL.op rfl (Rd.moveT rfl) ?_); refine PL.op rfl (Rd.lenT rfl) ?_; refine PL.op rfl (Rd.subM rfl rfl h_2) ?_; refine PL.op rfl (Rd.asnT rfl) ?_; refine PL.nil ?_; refine thA_n ?_; (iterate 2 refine PC.seq ?_); refine PC.region ?_; refine PL.op rfl (Rd.moveT rfl) ?_; refine PL.op rfl (Rd.lss rfl rfl) ?_; refine PL.nil ?_; refine thA_n ?_; rcases cond_some hh0 with ⟨h_3, hh0⟩ | ⟨h_3, hh0⟩
  · refine PC.cond_true rfl h_3 ?_; refine PC.seq ?_; refine PC.region ?_; refine PL.op rfl (Rd.asnT rfl) ?_; refine PL.nil ?_; refine thA_n ?_; refine PC.ret ?_; refine thA_r ?_; obtain rfl := some_in hh0; exact FinA.mk (r := iA (-1 : Int)) (bl := []) [] (.inl rfl) rfl (rl := [.tmp 4]) (.tmp .nil) rfl rfl rfl (.t _) trivial ⟨rfl, rfl⟩
  refine PC.cond_false rfl h_3 ?_; refine PC.skip ?_; refine thA_n ?_; (iterate 2 refine PC.seq ?_); refine PC.region ?_; refine PL.op rfl (Rd.asnT rfl) ?_; refine PL.nil ?_; refine thA_n ?_; obtain ⟨o15, h_16, hh0⟩ := bind_some hh0; refine PC.cutE hs (fun x : Int => [(1, iA x)]) (fun x => []) (fun x => m_L_szColumnS_k1 N x = some r) ?_ ?_
  · refine PC.block ?_; refine PC.loop hs (fun x : Nat × (Int × Int) => [(0, sL p_a), (1, iA x.2.1), (5, iA x.2.2)]) (fun x => []) (fun x => loopM (β := Int ⊕ Int) (fun s : Int × Int => m_L_szColumnS_b1 N p_a s.1 s.2) x.1 x.2 = some o15) (fun x => x.1) (N, (n1, (0 : Int))) [] ⟨rfl, rfl, trivial, ⟨.t _, .t _, .t _, trivial⟩⟩ h_16 ?_
    rintro ⟨f17_, left4, i5⟩ h_19
    obtain ⟨f17, y18, rfl, hh1, kk1⟩ := loopM_some h_19
    replace hh1 : m_L_szColumnS_b1 N p_a left4 i5 = some y18 := hh1
    unfold m_L_szColumnS_b1 at hh1; (iterate 2 refine PC.seq ?_); refine PC.region ?_; (iterate 2 refine PL.op rfl (Rd.moveT rfl) ?_); refine PL.op rfl (Rd.lenT rfl) ?_; refine PL.op rfl (Rd.lss rfl rfl) ?_; refine PL.nil ?_; refine thA_n ?_; rcases cond_some hh1 with ⟨h_20, hh1⟩ | ⟨h_20, hh1⟩; rotate_left
    · refine PC.cond_false rfl h_20 ?_; refine PC.exit ?_; (iterate 2 refine thA_e ?_); refine inA_eq rfl ?_; refine thA_n ?_; obtain rfl := some_in hh1; obtain rfl : (.inl left4 : Int ⊕ Int) = o15 := kk1; exact ⟨left4, hh0, [], ⟨rfl, rfl, trivial, ⟨.t _, trivial⟩⟩⟩
    refine PC.cond_true rfl h_20 ?_; refine PC.skip ?_; refine thA_n ?_; refine PC.seq ?_; refine PC.block ?_; refine PC.seq ?_; obtain ⟨x21, h_22, hh1⟩ := bind_some hh1; obtain ⟨r23, h_24, hh1⟩ := bind_some hh1; refine PC.region ?_; (iterate 2 refine PL.op rfl (Rd.moveT rfl) ?_); refine PL.op rfl (Rd.ixM rfl rfl h_22) ?_; refine PL.op rfl (Rd.elMR rfl h_22 rfl rfl) ?_; refine PL.op rfl (Rd.moveT rfl) ?_; refine PL.callM false [] (w_L_szColumn N x21 left4 r23 h_24) rfl Tryz.call42 rfl ⟨.aggL ⟨.t _, .t _, .t _, .t _, trivial⟩, .t _, trivial⟩ rfl trivial (fun h => by cases h) ?_; refine PL.op rfl (Rd.asnT rfl) ?_; refine PL.nil ?_; refine thA_n ?_; refine PC.seq ?_; refine PC.region ?_; refine PL.op rfl (Rd.moveT rfl) ?_; refine PL.op rfl (Rd.lss rfl rfl) ?_; refine PL.nil ?_; refine thA_n ?_; rcases cond_some hh1 with ⟨h_25, hh1⟩ | ⟨h_25, hh1⟩; rotate_left
    · refine PC.cond_false rfl h_25 ?_; refine PC.skip ?_; refine inA_n ?_; refine thA_n ?_; obtain ⟨n26, h_27, hh1⟩ := bind_some hh1; refine PC.region ?_; refine PL.op rfl (Rd.moveT rfl) ?_; refine PL.op rfl (Rd.addM rfl rfl h_27) ?_; refine PL.op rfl (Rd.asnT rfl) ?_; refine PL.nil ?_; obtain rfl := some_in hh1; refine thA_n ?_; exact ⟨(f17, (r23, n26)), Nat.lt_succ_self _, kk1, [], ⟨rfl, rfl, trivial, ⟨.t _, .t _, .t _, trivial⟩⟩⟩
    refine PC.cond_true rfl h_25 ?_; refine PC.seq ?_; refine PC.region ?_; refine PL.op rfl (Rd.asnT rfl) ?_; refine PL.nil ?_; refine thA_n ?_; refine PC.ret ?_; refine inA_r ?_; (iterate 2 refine thA_r ?_); refine inA_r ?_; refine thA_r ?_; obtain rfl := some_in hh1; obtain rfl : (.inr (-1 : Int) : Int ⊕ Int) = o15 := kk1; refine thA_r ?_; obtain rfl := some_in hh0; exact FinA.mk (r := iA (-1 : Int)) (bl := []) [] (.inl rfl) rfl (rl := [.tmp 4]) (.tmp .nil) rfl rfl rfl (.t _) trivial ⟨rfl, rfl⟩
  clear hh0
  rintro left14 hh0
  replace hh0 : m_L_szColumnS_k1 N left14 = some r := hh0
  unfold m_L_szColumnS_k1 at hh0; refine thA_n ?_; refine PC.seq ?_; refine PC.region ?_; refine PL.op rfl (Rd.moveT rfl) ?_; refine PL.op rfl (Rd.asnT rfl) ?_; refine PL.nil ?_; refine thA_n ?_; refine PC.ret ?_; obtain rfl := some_in hh0; exact FinA.mk (r := iA left14) (bl := []) [] (.inl rfl) rfl (rl := [.tmp 4]) (.tmp .nil) rfl rfl rfl (.t _) trivial ⟨rfl, rfl⟩
def m_L_szChange (N : Nat) (p_a : L_Change) (p_left : Int) : Option (Int) :=
  (m_L_szColumn N p_a.column p_left).bind fun r1 =>
  cond (decide (r1 < (0 : Int)))
    (some (-1 : Int))
    (some r1)
theorem w_L_szChange (N : Nat) (p_a : L_Change) (p_left : Int) (r : Int) (hh0 : m_L_szChange N p_a p_left = some r) : FnX Tryz.prog 43 [] [.agg [iA p_a.kind, iA p_a.at_, iA p_a.column.kind, iA p_a.column.default.kind, iA p_a.column.default.num, sA p_a.column.default.text], iA p_left] (RE (iA r) []) := by
  unfold m_L_szChange at hh0; refine FnX.mk Tryz.func43 rfl rfl ?_; intro s hs; refine PC.seq ?_; refine PC.region ?_; refine PL.ef rfl (Ef.box rfl rfl rfl) ?_; refine PL.nm (.op 0 0) [some ⟨.mx [iA p_a.kind, iA p_a.at_, iA p_a.column.kind, iA p_a.column.default.kind, iA p_a.column.default.num, sA p_a.column.default.text], 72, 0⟩] rfl rfl ?_; refine PL.op rfl (Rd.asnT rfl) ?_; refine PL.nil ?_; refine thA_n ?_; refine PC.seq ?_; obtain ⟨r1, h_2, hh0⟩ := bind_some hh0; refine PC.region ?_; refine PL.op rfl (Rd.fieldO rfl rfl) ?_; refine PL.op rfl (Rd.loadSub rfl rfl rfl rfl) ?_; refine PL.op rfl (Rd.moveT rfl) ?_; refine PL.callM false [] (w_L_szColumn N p_a.column p_left r1 h_2) rfl Tryz.call42 rfl ⟨.aggL ⟨.t _, .t _, .t _, .t _, trivial⟩, .t _, trivial⟩ rfl trivial (fun h => by cases h) ?_; refine PL.op rfl (Rd.asnT rfl) ?_; refine PL.nil ?_; refine thA_n ?_; (iterate 2 refine PC.seq ?_); refine PC.region ?_; refine PL.op rfl (Rd.moveT rfl) ?_; refine PL.op rfl (Rd.lss rfl rfl) ?_; refine PL.nil ?_; refine thA_n ?_; rcases cond_some hh0 with ⟨h_3, hh0⟩ | ⟨h_3, hh0⟩
  · refine PC.cond_true rfl h_3 ?_; refine PC.seq ?_; refine PC.region ?_; refine PL.op rfl (Rd.asnT rfl) ?_; refine PL.nil ?_; refine thA_n ?_; refine PC.ret ?_; refine thA_r ?_; obtain rfl := some_in hh0; exact FinA.mk (r := iA (-1 : Int)) (bl := []) [] (.inl rfl) rfl (rl := [.tmp 4]) (.tmp .nil) rfl rfl rfl (.t _) trivial ⟨rfl, rfl⟩
  refine PC.cond_false rfl h_3 ?_; refine PC.skip ?_; refine thA_n ?_; refine PC.seq ?_; refine PC.region ?_; refine PL.op rfl (Rd.moveT rfl) ?_; refine PL.op rfl (Rd.asnT rfl) ?_; refine PL.nil ?_; refine thA_n ?_; refine PC.ret ?_; obtain rfl := some_in hh0; exact FinA.mk (r := iA r1) (bl := []) [] (.inl rfl) rfl (rl := [.tmp 4]) (.tmp .nil) rfl rfl rfl (.t _) trivial ⟨rfl, rfl⟩
def m_L_szChangeS_k1 (N : Nat) (left14 : Int) : Option (Int) :=
  some left14
def m_L_szChangeS_b1 (N : Nat) (p_a : (List L_Change)) (left4 : Int) (i5 : Int) : Option ((Int × Int) ⊕ (Int ⊕ Int)) :=
  cond (decide (i5 < (p_a.length : Int)))
    ((ixI p_a i5).bind fun x21 =>
    (m_L_szChange N x21 left4).bind fun r23 =>
    cond (decide (r23 < (0 : Int)))
      (some (.inr (.inr (-1 : Int))))
      ((chk (i5 + (1 : Int))).bind fun n26 =>
      some (.inl (r23, n26))))
    (some (.inr (.inl left4)))
def m_L_szChangeS (N : Nat) (p_a : (List L_Change)) (p_left : Int) : Option (Int) :=
  (chk (p_left - (p_a.length : Int))).bind fun n1 =>
  cond (decide (n1 < (0 : Int)))
    (some (-1 : Int))
    ((loopM (β := Int ⊕ Int) (fun s : Int × Int => m_L_szChangeS_b1 N p_a s.1 s.2) N (n1, (0 : Int))).bind fun o => match o with
    | .inl e =>
      m_L_szChangeS_k1 N e
    | .inr v =>
      some v)
theorem w_L_szChangeS (N : Nat) (p_a : (List L_Change)) (p_left : Int) (r : Int) (hh0 : m_L_szChangeS N p_a p_left = some r) : FnX Tryz.prog 18 [] [sL p_a, iA p_left] (RE (iA r) []) := by
  unfold m_L_szChangeS at hh0; refine FnX.mk Tryz.func18 rfl rfl ?_; intro s hs; refine PC.seq ?_; refine PC.region ?_; refine PL.op rfl (Rd.asnT rfl) ?_; refine PL.nil ?_; refine thA_n ?_; refine PC.seq ?_; obtain ⟨n1, h_2, hh0⟩ := bind_some hh0; refine PC.region ?_; (iterate 2 refine PL.op rfl (Rd.moveT rfl) ?_); refine PL.op rfl (Rd.lenT rfl) ?_; refine PL.op rfl (Rd.subM rfl rfl h_2) ?_; refine PL.op rfl (Rd.asnT rfl) ?_; refine PL.nil ?_; refine thA_n ?_; (iterate 2 refine PC.seq ?_); refine PC.region ?_; refine PL.op rfl (Rd.moveT rfl) ?_; refine PL.op rfl (Rd.lss rfl rfl) ?_; refine PL.nil ?_; refine thA_n ?_; rcases cond_some hh0 with ⟨h_3, hh0⟩ | ⟨h_3, hh0⟩
  · refine PC.cond_true rfl h_3 ?_; refine PC.seq ?_; refine PC.region ?_; refine PL.op rfl (Rd.asnT rfl) ?_; refine PL.nil ?_; refine thA_n ?_; refine PC.ret ?_; refine thA_r ?_; obtain rfl := some_in hh0; exact FinA.mk (r := iA (-1 : Int)) (bl := []) [] (.inl rfl) rfl (rl := [.tmp 4]) (.tmp .nil) rfl rfl rfl (.t _) trivial ⟨rfl, rfl⟩
  refine PC.cond_false rfl h_3 ?_; refine PC.skip ?_; refine thA_n ?_; (iterate 2 refine PC.seq ?_); refine PC.region ?_; refine PL.op rfl (Rd.asnT rfl) ?_; refine PL.nil ?_; refine thA_n ?_; obtain ⟨o15, h_16, hh0⟩ := bind_some hh0; refine PC.cutE hs (fun x : Int => [(1, iA x)]) (fun x => []) (fun x => m_L_szChangeS_k1 N x = some r) ?_ ?_
  · refine PC.block ?_; refine PC.loop hs (fun x : Nat × (Int × Int) => [(0, sL p_a), (1, iA x.2.1), (5, iA x.2.2)]) (fun x => []) (fun x => loopM (β := Int ⊕ Int) (fun s : Int × Int => m_L_szChangeS_b1 N p_a s.1 s.2) x.1 x.2 = some o15) (fun x => x.1) (N, (n1, (0 : Int))) [] ⟨rfl, rfl, trivial, ⟨.t _, .t _, .t _, trivial⟩⟩ h_16 ?_
    rintro ⟨f17_, left4, i5⟩ h_19
    obtain ⟨f17, y18, rfl, hh1, kk1⟩ := loopM_some h_19
    replace hh1 : m_L_szChangeS_b1 N p_a left4 i5 = some y18 := hh1
    unfold m_L_szChangeS_b1 at hh1; (iterate 2 refine PC.seq ?_); refine PC.region ?_; (iterate 2 refine PL.op rfl (Rd.moveT rfl) ?_); refine PL.op rfl (Rd.lenT rfl) ?_; refine PL.op rfl (Rd.lss rfl rfl) ?_; refine PL.nil ?_; refine thA_n ?_; rcases cond_some hh1 with ⟨h_20, hh1⟩ | ⟨h_20, hh1⟩; rotate_left
    · refine PC.cond_false rfl h_20 ?_; refine PC.exit ?_; (iterate 2 refine thA_e ?_); refine inA_eq rfl ?_; refine thA_n ?_; obtain rfl := some_in hh1; obtain rfl : (.inl left4 : Int ⊕ Int) = o15 := kk1; exact ⟨left4, hh0, [], ⟨rfl, rfl, trivial, ⟨.t _, trivial⟩⟩⟩
    refine PC.cond_true rfl h_20 ?_; refine PC.skip ?_; refine thA_n ?_; refine PC.seq ?_; refine PC.block ?_; refine PC.seq ?_; obtain ⟨x21, h_22, hh1⟩ := bind_some hh1; obtain ⟨r23, h_24, hh1⟩ := bind_some hh1; refine PC.region ?_; (iterate 2 refine PL.op rfl (Rd.moveT rfl) ?_); refine PL.op rfl (Rd.ixM rfl rfl h_22) ?_; refine PL.op rfl (Rd.elMR rfl h_22 rfl rfl) ?_; refine PL.op rfl (Rd.moveT rfl) ?_; refine PL.callM false [] (w_L_szChange N x21 left4 r23 h_24) rfl Tryz.call43 rfl ⟨.aggL ⟨.t _, .t _, .t _, .t _, .t _, .t _, trivial⟩, .t _, trivial⟩ rfl trivial (fun h => by cases h) ?_; refine PL.op rfl (Rd.asnT rfl) ?_; refine PL.nil ?_; refine thA_n ?_; refine PC.seq ?_; refine PC.region ?_; refine PL.op rfl (Rd.moveT rfl) ?_; refine PL.op rfl (Rd.lss rfl rfl) ?_; refine PL.nil ?_; refine thA_n ?_; rcases cond_some hh1 with ⟨h_25, hh1⟩ | ⟨h_25, hh1⟩; rotate_left
    · refine PC.cond_false rfl h_25 ?_; refine PC.skip ?_; refine inA_n ?_; refine thA_n ?_; obtain ⟨n26, h_27, hh1⟩ := bind_some hh1; refine PC.region ?_; refine PL.op rfl (Rd.moveT rfl) ?_; refine PL.op rfl (Rd.addM rfl rfl h_27) ?_; refine PL.op rfl (Rd.asnT rfl) ?_; refine PL.nil ?_; obtain rfl := some_in hh1; refine thA_n ?_; exact ⟨(f17, (r23, n26)), Nat.lt_succ_self _, kk1, [], ⟨rfl, rfl, trivial, ⟨.t _, .t _, .t _, trivial⟩⟩⟩
    refine PC.cond_true rfl h_25 ?_; refine PC.seq ?_; refine PC.region ?_; refine PL.op rfl (Rd.asnT rfl) ?_; refine PL.nil ?_; refine thA_n ?_; refine PC.ret ?_; refine inA_r ?_; (iterate 2 refine thA_r ?_); refine inA_r ?_; refine thA_r ?_; obtain rfl := some_in hh1; obtain rfl : (.inr (-1 : Int) : Int ⊕ Int) = o15 := kk1; refine thA_r ?_; obtain rfl := some_in hh0; exact FinA.mk (r := iA (-1 : Int)) (bl := []) [] (.inl rfl) rfl (rl := [.tmp 4]) (.tmp .nil) rfl rfl rfl (.t _) trivial ⟨rfl, rfl⟩
  clear hh0
  rintro left14 hh0
  replace hh0 : m_L_szChangeS_k1 N left14 = some r := hh0
  unfold m_L_szChangeS_k1 at hh0; refine thA_n ?_; refine PC.seq ?_; refine PC.region ?_; refine PL.op rfl (Rd.moveT rfl) ?_; refine PL.op rfl (Rd.asnT rfl) ?_; refine PL.nil ?_; refine thA_n ?_; refine PC.ret ?_; obtain rfl := some_in hh0; exact FinA.mk (r := iA left14) (bl := []) [] (.inl rfl) rfl (rl := [.tmp 4]) (.tmp .nil) rfl rfl rfl (.t _) trivial ⟨rfl, rfl⟩
def m_L_szValueS_k1 (N : Nat) (left14 : Int) : Option (Int) :=
  some left14
def m_L_szValueS_b1 (N : Nat) (p_a : (List L_Value)) (left4 : Int) (i5 : Int) : Option ((Int × Int) ⊕ (Int ⊕ Int)) :=
  cond (decide (i5 < (p_a.length : Int)))
    ((ixI p_a i5).bind fun x21 =>
    (m_L_szValue N x21 left4).bind fun r23 =>
    cond (decide (r23 < (0 : Int)))
      (some (.inr (.inr (-1 : Int))))
      ((chk (i5 + (1 : Int))).bind fun n26 =>
      some (.inl (r23, n26))))
    (some (.inr (.inl left4)))
def m_L_szValueS (N : Nat) (p_a : (List L_Value)) (p_left : Int) : Option (Int) :=
  (chk (p_left - (p_a.length : Int))).bind fun n1 =>
  cond (decide (n1 < (0 : Int)))
    (some (-1 : Int))
    ((loopM (β := Int ⊕ Int) (fun s : Int × Int => m_L_szValueS_b1 N p_a s.1 s.2) N (n1, (0 : Int))).bind fun o => match o with
    | .inl e =>
      m_L_szValueS_k1 N e
    | .inr v =>
      some v)
theorem w_L_szValueS (N : Nat) (p_a : (List L_Value)) (p_left : Int) (r : Int) (hh0 : m_L_szValueS N p_a p_left = some r) : FnX Tryz.prog 65 [] [sL p_a, iA p_left] (RE (iA r) []) := by
  unfold m_L_szValueS at hh0; refine FnX.mk Tryz.func65 rfl rfl ?_; intro s hs; refine PC.seq ?_; refine PC.region ?_; refine PL.op rfl (Rd.asnT rfl) ?_; refine PL.nil ?_; refine thA_n ?_; refine PC.seq ?_; obtain ⟨n1, h_2, hh0⟩ := bind_some hh0; refine PC.region ?_; (iterate 2 refine PL.op rfl (Rd.moveT rfl) ?_); refine PL.op rfl (Rd.lenT rfl) ?_; refine PL.op rfl (Rd.subM rfl rfl h_2) ?_; refine PL.op rfl (Rd.asnT rfl) ?_; refine PL.nil ?_; refine thA_n ?_; (iterate 2 refine PC.seq ?_); refine PC.region ?_; refine PL.op rfl (Rd.moveT rfl) ?_; refine PL.op rfl (Rd.lss rfl rfl) ?_; refine PL.nil ?_; refine thA_n ?_; rcases cond_some hh0 with ⟨h_3, hh0⟩ | ⟨h_3, hh0⟩
  · refine PC.cond_true rfl h_3 ?_; refine PC.seq ?_; refine PC.region ?_; refine PL.op rfl (Rd.asnT rfl) ?_; refine PL.nil ?_; refine thA_n ?_; refine PC.ret ?_; refine thA_r ?_; obtain rfl := some_in hh0; exact FinA.mk (r := iA (-1 : Int)) (bl := []) [] (.inl rfl) rfl (rl := [.tmp 4]) (.tmp .nil) rfl rfl rfl (.t _) trivial ⟨rfl, rfl⟩
  refine PC.cond_false rfl h_3 ?_; refine PC.skip ?_; refine thA_n ?_; (iterate 2 refine PC.seq ?_); refine PC.region ?_; refine PL.op rfl (Rd.asnT rfl) ?_; refine PL.nil ?_; refine thA_n ?_; obtain ⟨o15, h_16, hh0⟩ := bind_some hh0; refine PC.cutE hs (fun x : Int => [(1, iA x)]) (fun x => []) (fun x => m_L_szValueS_k1 N x = some r) ?_ ?_
  · refine PC.block ?_; refine PC.loop hs (fun x : Nat × (Int × Int) => [(0, sL p_a), (1, iA x.2.1), (5, iA x.2.2)]) (fun x => []) (fun x => loopM (β := Int ⊕ Int) (fun s : Int × Int => m_L_szValueS_b1 N p_a s.1 s.2) x.1 x.2 = some o15) (fun x => x.1) (N, (n1, (0 : Int))) [] ⟨rfl, rfl, trivial, ⟨.t _, .t _, .t _, trivial⟩⟩ h_16 ?_
    rintro ⟨f17_, left4, i5⟩ h_19
    obtain ⟨f17, y18, rfl, hh1, kk1⟩ := loopM_some h_19
    replace hh1 : m_L_szValueS_b1 N p_a left4 i5 = some y18 := hh1
    unfold m_L_szValueS_b1 at hh1; (iterate 2 refine PC.seq ?_); refine PC.region ?_; (iterate 2 refine PL.op rfl (Rd.moveT rfl) ?_); refine PL.op rfl (Rd.lenT rfl) ?_; refine PL.op rfl (Rd.lss rfl rfl) ?_; refine PL.nil ?_; refine thA_n ?_; rcases cond_some hh1 with ⟨h_20, hh1⟩ | ⟨h_20, hh1⟩; rotate_left
    · refine PC.cond_false rfl h_20 ?_; refine PC.exit ?_; (iterate 2 refine thA_e ?_); refine inA_eq rfl ?_; refine thA_n ?_; obtain rfl := some_in hh1; obtain rfl : (.inl left4 : Int ⊕ Int) = o15 := kk1; exact ⟨left4, hh0, [], ⟨rfl, rfl, trivial, ⟨.t _, trivial⟩⟩⟩
    refine PC.cond_true rfl h_20 ?_; refine PC.skip ?_; refine thA_n ?_; refine PC.seq ?_; refine PC.block ?_; refine PC.seq ?_; obtain ⟨x21, h_22, hh1⟩ := bind_some hh1; obtain ⟨r23, h_24, hh1⟩ := bind_some hh1; refine PC.region ?_; (iterate 2 refine PL.op rfl (Rd.moveT rfl) ?_); refine PL.op rfl (Rd.ixM rfl rfl h_22) ?_; refine PL.op rfl (Rd.elMR rfl h_22 rfl rfl) ?_; refine PL.op rfl (Rd.moveT rfl) ?_; refine PL.callM false [] (w_L_szValue N x21 left4 r23 h_24) rfl Tryz.call64 rfl ⟨.aggL ⟨.t _, .t _, .t _, trivial⟩, .t _, trivial⟩ rfl trivial (fun h => by cases h) ?_; refine PL.op rfl (Rd.asnT rfl) ?_; refine PL.nil ?_; refine thA_n ?_; refine PC.seq ?_; refine PC.region ?_; refine PL.op rfl (Rd.moveT rfl) ?_; refine PL.op rfl (Rd.lss rfl rfl) ?_; refine PL.nil ?_; refine thA_n ?_; rcases cond_some hh1 with ⟨h_25, hh1⟩ | ⟨h_25, hh1⟩; rotate_left
    · refine PC.cond_false rfl h_25 ?_; refine PC.skip ?_; refine inA_n ?_; refine thA_n ?_; obtain ⟨n26, h_27, hh1⟩ := bind_some hh1; refine PC.region ?_; refine PL.op rfl (Rd.moveT rfl) ?_; refine PL.op rfl (Rd.addM rfl rfl h_27) ?_; refine PL.op rfl (Rd.asnT rfl) ?_; refine PL.nil ?_; obtain rfl := some_in hh1; refine thA_n ?_; exact ⟨(f17, (r23, n26)), Nat.lt_succ_self _, kk1, [], ⟨rfl, rfl, trivial, ⟨.t _, .t _, .t _, trivial⟩⟩⟩
    refine PC.cond_true rfl h_25 ?_; refine PC.seq ?_; refine PC.region ?_; refine PL.op rfl (Rd.asnT rfl) ?_; refine PL.nil ?_; refine thA_n ?_; refine PC.ret ?_; refine inA_r ?_; (iterate 2 refine thA_r ?_); refine inA_r ?_; refine thA_r ?_; obtain rfl := some_in hh1; obtain rfl : (.inr (-1 : Int) : Int ⊕ Int) = o15 := kk1; refine thA_r ?_; obtain rfl := some_in hh0; exact FinA.mk (r := iA (-1 : Int)) (bl := []) [] (.inl rfl) rfl (rl := [.tmp 4]) (.tmp .nil) rfl rfl rfl (.t _) trivial ⟨rfl, rfl⟩
  clear hh0
  rintro left14 hh0
  replace hh0 : m_L_szValueS_k1 N left14 = some r := hh0
  unfold m_L_szValueS_k1 at hh0; refine thA_n ?_; refine PC.seq ?_; refine PC.region ?_; refine PL.op rfl (Rd.moveT rfl) ?_; refine PL.op rfl (Rd.asnT rfl) ?_; refine PL.nil ?_; refine thA_n ?_; refine PC.ret ?_; obtain rfl := some_in hh0; exact FinA.mk (r := iA left14) (bl := []) [] (.inl rfl) rfl (rl := [.tmp 4]) (.tmp .nil) rfl rfl rfl (.t _) trivial ⟨rfl, rfl⟩
def m_L_szTagged (N : Nat) (p_a : L_Tagged) (p_left : Int) : Option (Int) :=
  (m_L_szValueS N p_a.row p_left).bind fun r1 =>
  cond (decide (r1 < (0 : Int)))
    (some (-1 : Int))
    (some r1)
theorem w_L_szTagged (N : Nat) (p_a : L_Tagged) (p_left : Int) (r : Int) (hh0 : m_L_szTagged N p_a p_left = some r) : FnX Tryz.prog 44 [] [.agg [iA p_a.tag, sL p_a.row], iA p_left] (RE (iA r) []) := by
  unfold m_L_szTagged at hh0; refine FnX.mk Tryz.func44 rfl rfl ?_; intro s hs; refine PC.seq ?_; refine PC.region ?_; refine PL.ef rfl (Ef.box rfl rfl rfl) ?_; refine PL.nm (.op 0 0) [some ⟨.mx [iA p_a.tag, sL p_a.row], 76, 0⟩] rfl rfl ?_; refine PL.op rfl (Rd.asnT rfl) ?_; refine PL.nil ?_; refine thA_n ?_; refine PC.seq ?_; obtain ⟨r1, h_2, hh0⟩ := bind_some hh0; refine PC.region ?_; refine PL.op rfl (Rd.fieldO rfl rfl) ?_; refine PL.op rfl (Rd.loadO rfl rfl rfl) ?_; refine PL.op rfl (Rd.moveT rfl) ?_; refine PL.callM false [] (w_L_szValueS N p_a.row p_left r1 h_2) rfl Tryz.call65 rfl ⟨.t _, .t _, trivial⟩ rfl trivial (fun h => by cases h) ?_; refine PL.op rfl (Rd.asnT rfl) ?_; refine PL.nil ?_; refine thA_n ?_; (iterate 2 refine PC.seq ?_); refine PC.region ?_; refine PL.op rfl (Rd.moveT rfl) ?_; refine PL.op rfl (Rd.lss rfl rfl) ?_; refine PL.nil ?_; refine thA_n ?_; rcases cond_some hh0 with ⟨h_3, hh0⟩ | ⟨h_3, hh0⟩
  · refine PC.cond_true rfl h_3 ?_; refine PC.seq ?_; refine PC.region ?_; refine PL.op rfl (Rd.asnT rfl) ?_; refine PL.nil ?_; refine thA_n ?_; refine PC.ret ?_; refine thA_r ?_; obtain rfl := some_in hh0; exact FinA.mk (r := iA (-1 : Int)) (bl := []) [] (.inl rfl) rfl (rl := [.tmp 4]) (.tmp .nil) rfl rfl rfl (.t _) trivial ⟨rfl, rfl⟩
  refine PC.cond_false rfl h_3 ?_; refine PC.skip ?_; refine thA_n ?_; refine PC.seq ?_; refine PC.region ?_; refine PL.op rfl (Rd.moveT rfl) ?_; refine PL.op rfl (Rd.asnT rfl) ?_; refine PL.nil ?_; refine thA_n ?_; refine PC.ret ?_; obtain rfl := some_in hh0; exact FinA.mk (r := iA r1) (bl := []) [] (.inl rfl) rfl (rl := [.tmp 4]) (.tmp .nil) rfl rfl rfl (.t _) trivial ⟨rfl, rfl⟩
def m_L_szTaggedS_k1 (N : Nat) (left14 : Int) : Option (Int) :=
  some left14
def m_L_szTaggedS_b1 (N : Nat) (p_a : (List L_Tagged)) (left4 : Int) (i5 : Int) : Option ((Int × Int) ⊕ (Int ⊕ Int)) :=
  cond (decide (i5 < (p_a.length : Int)))
    ((ixI p_a i5).bind fun x21 =>
    (m_L_szTagged N x21 left4).bind fun r23 =>
    cond (decide (r23 < (0 : Int)))
      (some (.inr (.inr (-1 : Int))))
      ((chk (i5 + (1 : Int))).bind fun n26 =>
      some (.inl (r23, n26))))
    (some (.inr (.inl left4)))
def m_L_szTaggedS (N : Nat) (p_a : (List L_Tagged)) (p_left : Int) : Option (Int) :=
  (chk (p_left - (p_a.length : Int))).bind fun n1 =>
  cond (decide (n1 < (0 : Int)))
    (some (-1 : Int))
    ((loopM (β := Int ⊕ Int) (fun s : Int × Int => m_L_szTaggedS_b1 N p_a s.1 s.2) N (n1, (0 : Int))).bind fun o => match o with
    | .inl e =>
      m_L_szTaggedS_k1 N e
    | .inr v =>
      some v)
theorem w_L_szTaggedS (N : Nat) (p_a : (List L_Tagged)) (p_left : Int) (r : Int) (hh0 : m_L_szTaggedS N p_a p_left = some r) : FnX Tryz.prog 19 [] [sL p_a, iA p_left] (RE (iA r) []) := by
  unfold m_L_szTaggedS at hh0; refine FnX.mk Tryz.func19 rfl rfl ?_; intro s hs; refine PC.seq ?_; refine PC.region ?_; refine PL.op rfl (Rd.asnT rfl) ?_; refine PL.nil ?_; refine thA_n ?_; refine PC.seq ?_; obtain ⟨n1, h_2, hh0⟩ := bind_some hh0; refine PC.region ?_; (iterate 2 refine PL.op rfl (Rd.moveT rfl) ?_); refine PL.op rfl (Rd.lenT rfl) ?_; refine PL.op rfl (Rd.subM rfl rfl h_2) ?_; refine PL.op rfl (Rd.asnT rfl) ?_; refine PL.nil ?_; refine thA_n ?_; (iterate 2 refine PC.seq ?_); refine PC.region ?_; refine PL.op rfl (Rd.moveT rfl) ?_; refine PL.op rfl (Rd.lss rfl rfl) ?_; refine PL.nil ?_; refine thA_n ?_; rcases cond_some hh0 with ⟨h_3, hh0⟩ | ⟨h_3, hh0⟩
  · refine PC.cond_true rfl h_3 ?_; refine PC.seq ?_; refine PC.region ?_; refine PL.op rfl (Rd.asnT rfl) ?_; refine PL.nil ?_; refine thA_n ?_; refine PC.ret ?_; refine thA_r ?_; obtain rfl := some_in hh0; exact FinA.mk (r := iA (-1 : Int)) (bl := []) [] (.inl rfl) rfl (rl := [.tmp 4]) (.tmp .nil) rfl rfl rfl (.t _) trivial ⟨rfl, rfl⟩
  refine PC.cond_false rfl h_3 ?_; refine PC.skip ?_; refine thA_n ?_; (iterate 2 refine PC.seq ?_); refine PC.region ?_; refine PL.op rfl (Rd.asnT rfl) ?_; refine PL.nil ?_; refine thA_n ?_; obtain ⟨o15, h_16, hh0⟩ := bind_some hh0; refine PC.cutE hs (fun x : Int => [(1, iA x)]) (fun x => []) (fun x => m_L_szTaggedS_k1 N x = some r) ?_ ?_
  · refine PC.block ?_; refine PC.loop hs (fun x : Nat × (Int × Int) => [(0, sL p_a), (1, iA x.2.1), (5, iA x.2.2)]) (fun x => []) (fun x => loopM (β := Int ⊕ Int) (fun s : Int × Int => m_L_szTaggedS_b1 N p_a s.1 s.2) x.1 x.2 = some o15) (fun x => x.1) (N, (n1, (0 : Int))) [] ⟨rfl, rfl, trivial, ⟨.t _, .t _, .t _, trivial⟩⟩ h_16 ?_
    rintro ⟨f17_, left4, i5⟩ h_19
    obtain ⟨f17, y18, rfl, hh1, kk1⟩ := loopM_some h_19
    replace hh1 : m_L_szTaggedS_b1 N p_a left4 i5 = some y18 := hh1
    unfold m_L_szTaggedS_b1 at hh1; (iterate 2 refine PC.seq ?_); refine PC.region ?_; (iterate 2 refine PL.op rfl (Rd.moveT rfl) ?_); refine PL.op rfl (Rd.lenT rfl) ?_; refine PL.op rfl (Rd.lss rfl rfl) ?_; refine PL.nil ?_; refine thA_n ?_; rcases cond_some hh1 with ⟨h_20, hh1⟩ | ⟨h_20, hh1⟩; rotate_left
    · refine PC.cond_false rfl h_20 ?_; refine PC.exit ?_; (iterate 2 refine thA_e ?_); refine inA_eq rfl ?_; refine thA_n ?_; obtain rfl := some_in hh1; obtain rfl : (.inl left4 : Int ⊕ Int) = o15 := kk1; exact ⟨left4, hh0, [], ⟨rfl, rfl, trivial, ⟨.t _, trivial⟩⟩⟩
    refine PC.cond_true rfl h_20 ?_; refine PC.skip ?_; refine thA_n ?_; refine PC.seq ?_; refine PC.block ?_; refine PC.seq ?_; obtain ⟨x21, h_22, hh1⟩ := bind_some hh1; obtain ⟨r23, h_24, hh1⟩ := bind_some hh1; refine PC.region ?_; (iterate 2 refine PL.op rfl (Rd.moveT rfl) ?_); refine PL.op rfl (Rd.ixM rfl rfl h_22) ?_; refine PL.op rfl (Rd.elMR rfl h_22 rfl rfl) ?_; refine PL.op rfl (Rd.moveT rfl) ?_; refine PL.callM false [] (w_L_szTagged N x21 left4 r23 h_24) rfl Tryz.call44 rfl ⟨.aggL ⟨.t _, .t _, trivial⟩, .t _, trivial⟩ rfl trivial (fun h => by cases h) ?_; refine PL.op rfl (Rd.asnT rfl) ?_; refine PL.nil ?_; refine thA_n ?_; refine PC.seq ?_; refine PC.region ?_; refine PL.op rfl (Rd.moveT rfl) ?_; refine PL.op rfl (Rd.lss rfl rfl) ?_; refine PL.nil ?_; refine thA_n ?_; rcases cond_some hh1 with ⟨h_25, hh1⟩ | ⟨h_25, hh1⟩; rotate_left
    · refine PC.cond_false rfl h_25 ?_; refine PC.skip ?_; refine inA_n ?_; refine thA_n ?_; obtain ⟨n26, h_27, hh1⟩ := bind_some hh1; refine PC.region ?_; refine PL.op rfl (Rd.moveT rfl) ?_; refine PL.op rfl (Rd.addM rfl rfl h_27) ?_; refine PL.op rfl (Rd.asnT rfl) ?_; refine PL.nil ?_; obtain rfl := some_in hh1; refine thA_n ?_; exact ⟨(f17, (r23, n26)), Nat.lt_succ_self _, kk1, [], ⟨rfl, rfl, trivial, ⟨.t _, .t _, .t _, trivial⟩⟩⟩
    refine PC.cond_true rfl h_25 ?_; refine PC.seq ?_; refine PC.region ?_; refine PL.op rfl (Rd.asnT rfl) ?_; refine PL.nil ?_; refine thA_n ?_; refine PC.ret ?_; refine inA_r ?_; (iterate 2 refine thA_r ?_); refine inA_r ?_; refine thA_r ?_; obtain rfl := some_in hh1; obtain rfl : (.inr (-1 : Int) : Int ⊕ Int) = o15 := kk1; refine thA_r ?_; obtain rfl := some_in hh0; exact FinA.mk (r := iA (-1 : Int)) (bl := []) [] (.inl rfl) rfl (rl := [.tmp 4]) (.tmp .nil) rfl rfl rfl (.t _) trivial ⟨rfl, rfl⟩
  clear hh0
  rintro left14 hh0
  replace hh0 : m_L_szTaggedS_k1 N left14 = some r := hh0
  unfold m_L_szTaggedS_k1 at hh0; refine thA_n ?_; refine PC.seq ?_; refine PC.region ?_; refine PL.op rfl (Rd.moveT rfl) ?_; refine PL.op rfl (Rd.asnT rfl) ?_; refine PL.nil ?_; refine thA_n ?_; refine PC.ret ?_; obtain rfl := some_in hh0; exact FinA.mk (r := iA left14) (bl := []) [] (.inl rfl) rfl (rl := [.tmp 4]) (.tmp .nil) rfl rfl rfl (.t _) trivial ⟨rfl, rfl⟩
def m_L_szTable (N : Nat) (p_a : L_Table) (p_left : Int) : Option (Int) :=
  (m_L_szColumnS N p_a.first p_left).bind fun r1 =>
  cond (decide (r1 < (0 : Int)))
    (some (-1 : Int))
    ((m_L_szChangeS N p_a.changes r1).bind fun r4 =>
    cond (decide (r4 < (0 : Int)))
      (some (-1 : Int))
      ((m_L_szTaggedS N p_a.rows r4).bind fun r7 =>
      cond (decide (r7 < (0 : Int)))
        (some (-1 : Int))
        (some r7)))
theorem w_L_szTable (N : Nat) (p_a : L_Table) (p_left : Int) (r : Int) (hh0 : m_L_szTable N p_a p_left = some r) : FnX Tryz.prog 5 [] [.agg [sL p_a.first, sL p_a.changes, sL p_a.rows], iA p_left] (RE (iA r) []) := by
  unfold m_L_szTable at hh0; refine FnX.mk Tryz.func5 rfl rfl ?_; intro s hs; refine PC.seq ?_; refine PC.region ?_; refine PL.ef rfl (Ef.box rfl rfl rfl) ?_; refine PL.nm (.op 0 0) [some ⟨.mx [sL p_a.first, sL p_a.changes, sL p_a.rows], 26, 0⟩] rfl rfl ?_; refine PL.op rfl (Rd.asnT rfl) ?_; refine PL.nil ?_; refine thA_n ?_; refine PC.seq ?_; obtain ⟨r1, h_2, hh0⟩ := bind_some hh0; refine PC.region ?_; refine PL.op rfl (Rd.fieldO rfl rfl) ?_; refine PL.op rfl (Rd.loadO rfl rfl rfl) ?_; refine PL.op rfl (Rd.moveT rfl) ?_; refine PL.callM false [] (w_L_szColumnS N p_a.first p_left r1 h_2) rfl Tryz.call17 rfl ⟨.t _, .t _, trivial⟩ rfl trivial (fun h => by cases h) ?_; refine PL.op rfl (Rd.asnT rfl) ?_; refine PL.nil ?_; refine thA_n ?_; (iterate 2 refine PC.seq ?_); refine PC.region ?_; refine PL.op rfl (Rd.moveT rfl) ?_; refine PL.op rfl (Rd.lss rfl rfl) ?_; refine PL.nil ?_; refine thA_n ?_; rcases cond_some hh0 with ⟨h_3, hh0⟩ | ⟨h_3, hh0⟩
  · refine PC.cond_true rfl h_3 ?_; refine PC.seq ?_; refine PC.region ?_; refine PL.op rfl (Rd.asnT rfl) ?_; refine PL.nil ?_; refine thA_n ?_; refine PC.ret ?_; refine thA_r ?_; obtain rfl := some_in hh0; exact FinA.mk (r := iA (-1 : Int)) (bl := []) [] (.inl rfl) rfl (rl := [.tmp 4]) (.tmp .nil) rfl rfl rfl (.t _) trivial ⟨rfl, rfl⟩
  refine PC.cond_false rfl h_3 ?_; refine PC.skip ?_; refine thA_n ?_; refine PC.seq ?_; obtain ⟨r4, h_5, hh0⟩ := bind_some hh0; refine PC.region ?_; refine PL.op rfl (Rd.fieldO rfl rfl) ?_; refine PL.op rfl (Rd.loadO rfl rfl rfl) ?_; refine PL.op rfl (Rd.moveT rfl) ?_; refine PL.callM false [] (w_L_szChangeS N p_a.changes r1 r4 h_5) rfl Tryz.call18 rfl ⟨.t _, .t _, trivial⟩ rfl trivial (fun h => by cases h) ?_; refine PL.op rfl (Rd.asnT rfl) ?_; refine PL.nil ?_; refine thA_n ?_; (iterate 2 refine PC.seq ?_); refine PC.region ?_; refine PL.op rfl (Rd.moveT rfl) ?_; refine PL.op rfl (Rd.lss rfl rfl) ?_; refine PL.nil ?_; refine thA_n ?_; rcases cond_some hh0 with ⟨h_6, hh0⟩ | ⟨h_6, hh0⟩
  · refine PC.cond_true rfl h_6 ?_; refine PC.seq ?_; refine PC.region ?_; refine PL.op rfl (Rd.asnT rfl) ?_; refine PL.nil ?_; refine thA_n ?_; refine PC.ret ?_; refine thA_r ?_; obtain rfl := some_in hh0; exact FinA.mk (r := iA (-1 : Int)) (bl := []) [] (.inl rfl) rfl (rl := [.tmp 4]) (.tmp .nil) rfl rfl rfl (.t _) trivial ⟨rfl, rfl⟩
  refine PC.cond_false rfl h_6 ?_; refine PC.skip ?_; refine thA_n ?_; refine PC.seq ?_; obtain ⟨r7, h_8, hh0⟩ := bind_some hh0; refine PC.region ?_; refine PL.op rfl (Rd.fieldO rfl rfl) ?_; refine PL.op rfl (Rd.loadO rfl rfl rfl) ?_; refine PL.op rfl (Rd.moveT rfl) ?_; refine PL.callM false [] (w_L_szTaggedS N p_a.rows r4 r7 h_8) rfl Tryz.call19 rfl ⟨.t _, .t _, trivial⟩ rfl trivial (fun h => by cases h) ?_; refine PL.op rfl (Rd.asnT rfl) ?_; refine PL.nil ?_; refine thA_n ?_; (iterate 2 refine PC.seq ?_); refine PC.region ?_; refine PL.op rfl (Rd.moveT rfl) ?_; refine PL.op rfl (Rd.lss rfl rfl) ?_; refine PL.nil ?_; refine thA_n ?_; rcases cond_some hh0 with ⟨h_9, hh0⟩ | ⟨h_9, hh0⟩
  · refine PC.cond_true rfl h_9 ?_; refine PC.seq ?_; refine PC.region ?_; refine PL.op rfl (Rd.asnT rfl) ?_; refine PL.nil ?_; refine thA_n ?_; refine PC.ret ?_; refine thA_r ?_; obtain rfl := some_in hh0; exact FinA.mk (r := iA (-1 : Int)) (bl := []) [] (.inl rfl) rfl (rl := [.tmp 4]) (.tmp .nil) rfl rfl rfl (.t _) trivial ⟨rfl, rfl⟩
  refine PC.cond_false rfl h_9 ?_; refine PC.skip ?_; refine thA_n ?_; refine PC.seq ?_; refine PC.region ?_; refine PL.op rfl (Rd.moveT rfl) ?_; refine PL.op rfl (Rd.asnT rfl) ?_; refine PL.nil ?_; refine thA_n ?_; refine PC.ret ?_; obtain rfl := some_in hh0; exact FinA.mk (r := iA r7) (bl := []) [] (.inl rfl) rfl (rl := [.tmp 4]) (.tmp .nil) rfl rfl rfl (.t _) trivial ⟨rfl, rfl⟩
def m_L_toValue (N : Nat) (p_a : L_Value) : Option (I_Value) :=
  some (I_Value.mk p_a.kind p_a.num p_a.text)
theorem w_L_toValue (N : Nat) (p_a : L_Value) (r : I_Value) (hh0 : m_L_toValue N p_a = some r) : FnX Tryz.prog 70 [] [.agg [iA p_a.kind, iA p_a.num, sA p_a.text]] (RE (.agg [iA r.kind, iA r.num, sA r.text]) []) := by
  unfold m_L_toValue at hh0; refine FnX.mk Tryz.func70 rfl rfl ?_; intro s hs; refine PC.seq ?_; refine PC.region ?_; refine PL.ef rfl (Ef.box rfl rfl rfl) ?_; refine PL.nm (.op 0 0) [some ⟨.mx [iA p_a.kind, iA p_a.num, sA p_a.text], 67, 0⟩] rfl rfl ?_; refine PL.ef rfl (Ef.alloc rfl rfl) ?_; refine PL.nm (.op 1 0) [some ⟨.mx [iA p_a.kind, iA p_a.num, sA p_a.text], 67, 0⟩, some ⟨.mx [iA (0 : Int), iA (0 : Int), sA ByteArray.empty], 84, 0⟩] rfl rfl ?_; refine PL.nil ?_; refine thA_n ?_; refine PC.seq ?_; refine PC.region ?_; refine PL.ef rfl (Ef.alloc rfl rfl) ?_; refine PL.nm (.op 2 0) [some ⟨.mx [iA p_a.kind, iA p_a.num, sA p_a.text], 67, 0⟩, some ⟨.mx [iA (0 : Int), iA (0 : Int), sA ByteArray.empty], 84, 0⟩, some ⟨.mx [iA (0 : Int), iA (0 : Int), sA ByteArray.empty], 84, 0⟩] rfl rfl ?_; refine PL.nil ?_; refine thA_n ?_; refine PC.seq ?_; refine PC.region ?_; refine PL.op rfl (Rd.fieldO rfl rfl) ?_; refine PL.op rfl (Rd.loadO rfl rfl rfl) ?_; refine PL.op rfl (Rd.fieldO rfl rfl) ?_; refine PL.store rfl rfl rfl rfl rfl rfl rfl ?_; refine PL.nO [some ⟨.mx [iA p_a.kind, iA p_a.num, sA p_a.text], 67, 0⟩, some ⟨.mx [iA (0 : Int), iA (0 : Int), sA ByteArray.empty], 84, 0⟩, some ⟨.mx [iA p_a.kind, iA (0 : Int), sA ByteArray.empty], 84, 0⟩] rfl ?_; refine PL.nil ?_; refine thA_n ?_; refine PC.seq ?_; refine PC.region ?_; refine PL.op rfl (Rd.fieldO rfl rfl) ?_; refine PL.op rfl (Rd.loadO rfl rfl rfl) ?_; refine PL.op rfl (Rd.fieldO rfl rfl) ?_; refine PL.store rfl rfl rfl rfl rfl rfl rfl ?_; refine PL.nO [some ⟨.mx [iA p_a.kind, iA p_a.num, sA p_a.text], 67, 0⟩, some ⟨.mx [iA (0 : Int), iA (0 : Int), sA ByteArray.empty], 84, 0⟩, some ⟨.mx [iA p_a.kind, iA p_a.num, sA ByteArray.empty], 84, 0⟩] rfl ?_; refine PL.nil ?_; refine thA_n ?_; refine PC.seq ?_; refine PC.region ?_; refine PL.op rfl (Rd.fieldO rfl rfl) ?_; refine PL.op rfl (Rd.loadO rfl rfl rfl) ?_; refine PL.op rfl (Rd.fieldO rfl rfl) ?_; refine PL.store rfl rfl rfl rfl rfl rfl rfl ?_; refine PL.nO [some ⟨.mx [iA p_a.kind, iA p_a.num, sA p_a.text], 67, 0⟩, some ⟨.mx [iA (0 : Int), iA (0 : Int), sA ByteArray.empty], 84, 0⟩, some ⟨.mx [iA p_a.kind, iA p_a.num, sA p_a.text], 84, 0⟩] rfl ?_; refine PL.nil ?_; refine thA_n ?_; refine PC.seq ?_; refine PC.region ?_; refine PL.op rfl (Rd.loadBox rfl rfl rfl) ?_; refine PL.store rfl rfl rfl rfl rfl rfl rfl ?_; refine PL.nO [some ⟨.mx [iA p_a.kind, iA p_a.num, sA p_a.text], 67, 0⟩, some ⟨.mx [iA p_a.kind, iA p_a.num, sA p_a.text], 84, 0⟩, some ⟨.mx [iA p_a.kind, iA p_a.num, sA p_a.text], 84, 0⟩] rfl ?_; refine PL.nil ?_; refine thA_n ?_; refine PC.ret ?_; obtain rfl := some_in hh0; exact FinA.mk (r := .agg [iA p_a.kind, iA p_a.num, sA p_a.text]) (bl := []) [] (.inl rfl) rfl (rl := [.cell 2 84]) (.cellN rfl rfl rfl rfl .nil) rfl rfl rfl (.aggL ⟨.t _, .t _, .t _, trivial⟩) trivial ⟨rfl, rfl⟩
def m_L_toColumn (N : Nat) (p_a : L_Column) : Option (I_Column) :=
  (m_L_toValue N p_a.default).bind fun r1 =>
  some (I_Column.mk p_a.kind r1)
theorem w_L_toColumn (N : Nat) (p_a : L_Column) (r : I_Column) (hh0 : m_L_toColumn N p_a = some r) : FnX Tryz.prog 50 [] [.agg [iA p_a.kind, iA p_a.default.kind, iA p_a.default.num, sA p_a.default.text]] (RE (.agg [iA r.kind, iA r.default.kind, iA r.default.num, sA r.default.text]) []) := by
  unfold m_L_toColumn at hh0; refine FnX.mk Tryz.func50 rfl rfl ?_; intro s hs; refine PC.seq ?_; refine PC.region ?_; refine PL.ef rfl (Ef.box rfl rfl rfl) ?_; refine PL.nm (.op 0 0) [some ⟨.mx [iA p_a.kind, iA p_a.default.kind, iA p_a.default.num, sA p_a.default.text], 69, 0⟩] rfl rfl ?_; refine PL.ef rfl (Ef.alloc rfl rfl) ?_; refine PL.nm (.op 1 0) [some ⟨.mx [iA p_a.kind, iA p_a.default.kind, iA p_a.default.num, sA p_a.default.text], 69, 0⟩, some ⟨.mx [iA (0 : Int), iA (0 : Int), iA (0 : Int), sA ByteArray.empty], 86, 0⟩] rfl rfl ?_; refine PL.nil ?_; refine thA_n ?_; refine PC.seq ?_; refine PC.region ?_; refine PL.ef rfl (Ef.alloc rfl rfl) ?_; refine PL.nm (.op 2 0) [some ⟨.mx [iA p_a.kind, iA p_a.default.kind, iA p_a.default.num, sA p_a.default.text], 69, 0⟩, some ⟨.mx [iA (0 : Int), iA (0 : Int), iA (0 : Int), sA ByteArray.empty], 86, 0⟩, some ⟨.mx [iA (0 : Int), iA (0 : Int), iA (0 : Int), sA ByteArray.empty], 86, 0⟩] rfl rfl ?_; refine PL.nil ?_; refine thA_n ?_; refine PC.seq ?_; refine PC.region ?_; refine PL.op rfl (Rd.fieldO rfl rfl) ?_; refine PL.op rfl (Rd.loadO rfl rfl rfl) ?_; refine PL.op rfl (Rd.fieldO rfl rfl) ?_; refine PL.store rfl rfl rfl rfl rfl rfl rfl ?_; refine PL.nO [some ⟨.mx [iA p_a.kind, iA p_a.default.kind, iA p_a.default.num, sA p_a.default.text], 69, 0⟩, some ⟨.mx [iA (0 : Int), iA (0 : Int), iA (0 : Int), sA ByteArray.empty], 86, 0⟩, some ⟨.mx [iA p_a.kind, iA (0 : Int), iA (0 : Int), sA ByteArray.empty], 86, 0⟩] rfl ?_; refine PL.nil ?_; refine thA_n ?_; refine PC.seq ?_; obtain ⟨r1, h_2, hh0⟩ := bind_some hh0; refine PC.region ?_; refine PL.op rfl (Rd.fieldO rfl rfl) ?_; refine PL.op rfl (Rd.loadSub rfl rfl rfl rfl) ?_; refine PL.callM false [] (w_L_toValue N p_a.default r1 h_2) rfl Tryz.call70 rfl ⟨.aggL ⟨.t _, .t _, .t _, trivial⟩, trivial⟩ rfl trivial (fun h => by cases h) ?_; refine PL.op rfl (Rd.fieldO rfl rfl) ?_; refine PL.store rfl rfl rfl rfl rfl rfl rfl ?_; refine PL.nO [some ⟨.mx [iA p_a.kind, iA p_a.default.kind, iA p_a.default.num, sA p_a.default.text], 69, 0⟩, some ⟨.mx [iA (0 : Int), iA (0 : Int), iA (0 : Int), sA ByteArray.empty], 86, 0⟩, some ⟨.mx [iA p_a.kind, iA r1.kind, iA r1.num, sA r1.text], 86, 0⟩] rfl ?_; refine PL.nil ?_; refine thA_n ?_; refine PC.seq ?_; refine PC.region ?_; refine PL.op rfl (Rd.loadBox rfl rfl rfl) ?_; refine PL.store rfl rfl rfl rfl rfl rfl rfl ?_; refine PL.nO [some ⟨.mx [iA p_a.kind, iA p_a.default.kind, iA p_a.default.num, sA p_a.default.text], 69, 0⟩, some ⟨.mx [iA p_a.kind, iA r1.kind, iA r1.num, sA r1.text], 86, 0⟩, some ⟨.mx [iA p_a.kind, iA r1.kind, iA r1.num, sA r1.text], 86, 0⟩] rfl ?_; refine PL.nil ?_; refine thA_n ?_; refine PC.ret ?_; obtain rfl := some_in hh0; exact FinA.mk (r := .agg [iA p_a.kind, iA r1.kind, iA r1.num, sA r1.text]) (bl := []) [] (.inl rfl) rfl (rl := [.cell 2 86]) (.cellN rfl rfl rfl rfl .nil) rfl rfl rfl (.aggL ⟨.t _, .t _, .t _, .t _, trivial⟩) trivial ⟨rfl, rfl⟩
def m_L_toColumnS_k1 (N : Nat) (v14 : (List I_Column)) : Option ((List I_Column)) :=
  some v14
def m_L_toColumnS_b1 (N : Nat) (p_a : (List L_Column)) (i3 : Int) (v4 : (List I_Column)) : Option ((Int × (List I_Column)) ⊕ (List I_Column)) :=
  cond (decide (i3 < (p_a.length : Int)))
    ((ixI p_a i3).bind fun x21 =>
    (m_L_toColumn N x21).bind fun r23 =>
    (ixI v4 i3).bind fun x25 =>
    (chk (i3 + (1 : Int))).bind fun n27 =>
    some (.inl (n27, (v4.set i3.toNat r23))))
    (some (.inr v4))
def m_L_toColumnS (N : Nat) (p_a : (List L_Column)) : Option ((List I_Column)) :=
  (mkM 40 (I_Column.mk (0 : Int) (I_Value.mk (0 : Int) (0 : Int) ByteArray.empty)) (p_a.length : Int)).bind fun xs1 =>
  (loopM (β := (List I_Column)) (fun s : Int × (List I_Column) => m_L_toColumnS_b1 N p_a s.1 s.2) N ((0 : Int), xs1)).bind fun e =>
  m_L_toColumnS_k1 N e
theorem w_L_toColumnS (N : Nat) (p_a : (List L_Column)) (r : (List I_Column)) (hh0 : m_L_toColumnS N p_a = some r) : FnX Tryz.prog 22 [] [sL p_a] (RE (.os 0 0 r.length) [⟨.tr (eL r), 86, 4⟩]) := by
  unfold m_L_toColumnS at hh0; refine FnX.mk Tryz.func22 rfl rfl ?_; intro s hs; refine PC.seq ?_; refine PC.region ?_; refine PL.op rfl (Rd.asnT rfl) ?_; refine PL.nil ?_; refine thA_n ?_; refine PC.seq ?_; obtain ⟨xs1, h_2, hh0⟩ := bind_some hh0; refine PC.region ?_; refine PL.op rfl (Rd.moveT rfl) ?_; refine PL.op rfl (Rd.lenT rfl) ?_; refine PL.ef rfl (Ef.makeM (I_Column.mk (0 : Int) (I_Value.mk (0 : Int) (0 : Int) ByteArray.empty)) rfl rfl h_2 rfl rfl rfl (by exact ⟨.inl ⟨rfl, rfl⟩, .inl ⟨rfl, rfl⟩, .inl ⟨rfl, rfl⟩, .inl ⟨rfl, rfl⟩, trivial⟩)) ?_; refine PL.nm (.os 0 0 xs1.length) [some ⟨.tr (eL xs1), 86, 4⟩] rfl rfl ?_; refine PL.op rfl (Rd.asnO rfl) ?_; refine PL.nil ?_; refine thA_n ?_; (iterate 2 refine PC.seq ?_); refine PC.region ?_; refine PL.op rfl (Rd.asnT rfl) ?_; refine PL.nil ?_; refine thA_n ?_; obtain ⟨o15, h_16, hh0⟩ := bind_some hh0; refine PC.cutE hs (fun x : (List I_Column) => [(3, .os 0 0 x.length)]) (fun x => [⟨.tr (eL x), 86, 4⟩]) (fun x => m_L_toColumnS_k1 N x = some r) ?_ ?_
  · refine PC.block ?_; refine PC.loop hs (fun x : Nat × (Int × (List I_Column)) => [(0, sL p_a), (3, .os 0 0 x.2.2.length), (4, iA x.2.1)]) (fun x => [⟨.tr (eL x.2.2), 86, 4⟩]) (fun x => loopM (β := (List I_Column)) (fun s : Int × (List I_Column) => m_L_toColumnS_b1 N p_a s.1 s.2) x.1 x.2 = some o15) (fun x => x.1) (N, ((0 : Int), xs1)) [some 0] ⟨rfl, rfl, ⟨⟨_, rfl, rfl, rfl, .tr _⟩, trivial⟩, ⟨.t _, .os rfl, .t _, trivial⟩⟩ h_16 ?_
    rintro ⟨f17_, i3, v4⟩ h_19
    obtain ⟨f17, y18, rfl, hh1, kk1⟩ := loopM_some h_19
    replace hh1 : m_L_toColumnS_b1 N p_a i3 v4 = some y18 := hh1
    unfold m_L_toColumnS_b1 at hh1; (iterate 2 refine PC.seq ?_); refine PC.region ?_; (iterate 2 refine PL.op rfl (Rd.moveT rfl) ?_); refine PL.op rfl (Rd.lenT rfl) ?_; refine PL.op rfl (Rd.lss rfl rfl) ?_; refine PL.nil ?_; refine thA_n ?_; rcases cond_some hh1 with ⟨h_20, hh1⟩ | ⟨h_20, hh1⟩; rotate_left
    · refine PC.cond_false rfl h_20 ?_; refine PC.exit ?_; (iterate 2 refine thA_e ?_); refine inA_eq rfl ?_; refine thA_n ?_; obtain rfl := some_in hh1; obtain rfl : (v4 : (List I_Column)) = o15 := kk1; exact ⟨v4, hh0, [some 0], ⟨rfl, rfl, ⟨⟨_, rfl, rfl, rfl, .tr _⟩, trivial⟩, ⟨.os rfl, trivial⟩⟩⟩
    refine PC.cond_true rfl h_20 ?_; refine PC.skip ?_; refine thA_n ?_; refine PC.seq ?_; refine PC.block ?_; obtain ⟨x21, h_22, hh1⟩ := bind_some hh1; obtain ⟨r23, h_24, hh1⟩ := bind_some hh1; obtain ⟨x25, h_26, hh1⟩ := bind_some hh1; refine PC.region ?_; refine PL.op rfl (Rd.moveO rfl) ?_; (iterate 3 refine PL.op rfl (Rd.moveT rfl) ?_); refine PL.op rfl (Rd.ixM rfl rfl h_22) ?_; refine PL.op rfl (Rd.elMR rfl h_22 rfl rfl) ?_; refine PL.callM false [] (w_L_toColumn N x21 r23 h_24) rfl Tryz.call50 rfl ⟨.aggL ⟨.t _, .t _, .t _, .t _, trivial⟩, trivial⟩ rfl trivial (fun h => by cases h) ?_; refine PL.op rfl (Rd.ixOM rfl rfl rfl (ixI_lt h_26)) ?_; refine PL.stRM r23 rfl rfl rfl rfl rfl h_26 rfl ?_; refine PL.nO [some ⟨.tr (eL (v4.set i3.toNat r23)), 86, 4⟩] rfl ?_; refine PL.nil ?_; refine inA_n ?_; refine thA_n ?_; obtain ⟨n27, h_28, hh1⟩ := bind_some hh1; refine PC.region ?_; refine PL.op rfl (Rd.moveT rfl) ?_; refine PL.op rfl (Rd.addM rfl rfl h_28) ?_; refine PL.op rfl (Rd.asnT rfl) ?_; refine PL.nil ?_; obtain rfl := some_in hh1; refine thA_n ?_; exact ⟨(f17, (n27, (v4.set i3.toNat r23))), Nat.lt_succ_self _, kk1, [some 0], ⟨rfl, rfl, ⟨⟨_, rfl, rfl, rfl, .tr _⟩, trivial⟩, ⟨.t _, .osE rfl (by simp only [List.length_set]), .t _, trivial⟩⟩⟩
  clear hh0
  rintro v14 hh0
  replace hh0 : m_L_toColumnS_k1 N v14 = some r := hh0
  unfold m_L_toColumnS_k1 at hh0; refine thA_n ?_; refine PC.seq ?_; refine PC.region ?_; refine PL.op rfl (Rd.moveO rfl) ?_; refine PL.op rfl (Rd.asnO rfl) ?_; refine PL.nil ?_; refine thA_n ?_; refine PC.ret ?_; obtain rfl := some_in hh0; exact FinA.mk (r := .os 0 0 v14.length) (bl := [⟨.tr (eL v14), 86, 4⟩]) [some 0] (.inl rfl) rfl (rl := [.tmp 2]) (.tmp .nil) rfl rfl rfl (.os rfl) ⟨⟨_, rfl, rfl, rfl, .tr _⟩, trivial⟩ ⟨rfl, rfl⟩
def m_L_toChange (N : Nat) (p_a : L_Change) : Option (I_Change) :=
  (m_L_toColumn N p_a.column).bind fun r1 =>
  some (I_Change.mk p_a.kind p_a.at_ r1)
theorem w_L_toChange (N : Nat) (p_a : L_Change) (r : I_Change) (hh0 : m_L_toChange N p_a = some r) : FnX Tryz.prog 51 [] [.agg [iA p_a.kind, iA p_a.at_, iA p_a.column.kind, iA p_a.column.default.kind, iA p_a.column.default.num, sA p_a.column.default.text]] (RE (.agg [iA r.kind, iA r.at_, iA r.column.kind, iA r.column.default.kind, iA r.column.default.num, sA r.column.default.text]) []) := by
  unfold m_L_toChange at hh0; refine FnX.mk Tryz.func51 rfl rfl ?_; intro s hs; refine PC.seq ?_; refine PC.region ?_; refine PL.ef rfl (Ef.box rfl rfl rfl) ?_; refine PL.nm (.op 0 0) [some ⟨.mx [iA p_a.kind, iA p_a.at_, iA p_a.column.kind, iA p_a.column.default.kind, iA p_a.column.default.num, sA p_a.column.default.text], 72, 0⟩] rfl rfl ?_; refine PL.ef rfl (Ef.alloc rfl rfl) ?_; refine PL.nm (.op 1 0) [some ⟨.mx [iA p_a.kind, iA p_a.at_, iA p_a.column.kind, iA p_a.column.default.kind, iA p_a.column.default.num, sA p_a.column.default.text], 72, 0⟩, some ⟨.mx [iA (0 : Int), iA (0 : Int), iA (0 : Int), iA (0 : Int), iA (0 : Int), sA ByteArray.empty], 89, 0⟩] rfl rfl ?_; refine PL.nil ?_; refine thA_n ?_; refine PC.seq ?_; refine PC.region ?_; refine PL.ef rfl (Ef.alloc rfl rfl) ?_; refine PL.nm (.op 2 0) [some ⟨.mx [iA p_a.kind, iA p_a.at_, iA p_a.column.kind, iA p_a.column.default.kind, iA p_a.column.default.num, sA p_a.column.default.text], 72, 0⟩, some ⟨.mx [iA (0 : Int), iA (0 : Int), iA (0 : Int), iA (0 : Int), iA (0 : Int), sA ByteArray.empty], 89, 0⟩, some ⟨.mx [iA (0 : Int), iA (0 : Int), iA (0 : Int), iA (0 : Int), iA (0 : Int), sA ByteArray.empty], 89, 0⟩] rfl rfl ?_; refine PL.nil ?_; refine thA_n ?_; refine PC.seq ?_; refine PC.region ?_; refine PL.op rfl (Rd.fieldO rfl rfl) ?_; refine PL.op rfl (Rd.loadO rfl rfl rfl) ?_; refine PL.op rfl (Rd.fieldO rfl rfl) ?_; refine PL.store rfl rfl rfl rfl rfl rfl rfl ?_; refine PL.nO [some ⟨.mx [iA p_a.kind, iA p_a.at_, iA p_a.column.kind, iA p_a.column.default.kind, iA p_a.column.default.num, sA p_a.column.default.text], 72, 0⟩, some ⟨.mx [iA (0 : Int), iA (0 : Int), iA (0 : Int), iA (0 : Int), iA (0 : Int), sA ByteArray.empty], 89, 0⟩, some ⟨.mx [iA p_a.kind, iA (0 : Int), iA (0 : Int), iA (0 : Int), iA (0 : Int), sA ByteArray.empty], 89, 0⟩] rfl ?_; refine PL.nil ?_; refine thA_n ?_; refine PC.seq ?_; refine PC.region ?_; refine PL.op rfl (Rd.fieldO rfl rfl) ?_; refine PL.op rfl (Rd.loadO rfl rfl rfl) ?_; refine PL.op rfl (Rd.fieldO rfl rfl) ?_; refine PL.store rfl rfl rfl rfl rfl rfl rfl ?_; refine PL.nO [some ⟨.mx [iA p_a.kind, iA p_a.at_, iA p_a.column.kind, iA p_a.column.default.kind, iA p_a.column.default.num, sA p_a.column.default.text], 72, 0⟩, some ⟨.mx [iA (0 : Int), iA (0 : Int), iA (0 : Int), iA (0 : Int), iA (0 : Int), sA ByteArray.empty], 89, 0⟩, some ⟨.mx [iA p_a.kind, iA p_a.at_, iA (0 : Int), iA (0 : Int), iA (0 : Int), sA ByteArray.empty], 89, 0⟩] rfl ?_; refine PL.nil ?_; refine thA_n ?_; refine PC.seq ?_; obtain ⟨r1, h_2, hh0⟩ := bind_some hh0; refine PC.region ?_; refine PL.op rfl (Rd.fieldO rfl rfl) ?_; refine PL.op rfl (Rd.loadSub rfl rfl rfl rfl) ?_; refine PL.callM false [] (w_L_toColumn N p_a.column r1 h_2) rfl Tryz.call50 rfl ⟨.aggL ⟨.t _, .t _, .t _, .t _, trivial⟩, trivial⟩ rfl trivial (fun h => by cases h) ?_; refine PL.op rfl (Rd.fieldO rfl rfl) ?_; refine PL.store rfl rfl rfl rfl rfl rfl rfl ?_; refine PL.nO [some ⟨.mx [iA p_a.kind, iA p_a.at_, iA p_a.column.kind, iA p_a.column.default.kind, iA p_a.column.default.num, sA p_a.column.default.text], 72, 0⟩, some ⟨.mx [iA (0 : Int), iA (0 : Int), iA (0 : Int), iA (0 : Int), iA (0 : Int), sA ByteArray.empty], 89, 0⟩, some ⟨.mx [iA p_a.kind, iA p_a.at_, iA r1.kind, iA r1.default.kind, iA r1.default.num, sA r1.default.text], 89, 0⟩] rfl ?_; refine PL.nil ?_; refine thA_n ?_; refine PC.seq ?_; refine PC.region ?_; refine PL.op rfl (Rd.loadBox rfl rfl rfl) ?_; refine PL.store rfl rfl rfl rfl rfl rfl rfl ?_; refine PL.nO [some ⟨.mx [iA p_a.kind, iA p_a.at_, iA p_a.column.kind, iA p_a.column.default.kind, iA p_a.column.default.num, sA p_a.column.default.text], 72, 0⟩, some ⟨.mx [iA p_a.kind, iA p_a.at_, iA r1.kind, iA r1.default.kind, iA r1.default.num, sA r1.default.text], 89, 0⟩, some ⟨.mx [iA p_a.kind, iA p_a.at_, iA r1.kind, iA r1.default.kind, iA r1.default.num, sA r1.default.text], 89, 0⟩] rfl ?_; refine PL.nil ?_; refine thA_n ?_; refine PC.ret ?_; obtain rfl := some_in hh0; exact FinA.mk (r := .agg [iA p_a.kind, iA p_a.at_, iA r1.kind, iA r1.default.kind, iA r1.default.num, sA r1.default.text]) (bl := []) [] (.inl rfl) rfl (rl := [.cell 2 89]) (.cellN rfl rfl rfl rfl .nil) rfl rfl rfl (.aggL ⟨.t _, .t _, .t _, .t _, .t _, .t _, trivial⟩) trivial ⟨rfl, rfl⟩
def m_L_toChangeS_k1 (N : Nat) (v14 : (List I_Change)) : Option ((List I_Change)) :=
  some v14
def m_L_toChangeS_b1 (N : Nat) (p_a : (List L_Change)) (i3 : Int) (v4 : (List I_Change)) : Option ((Int × (List I_Change)) ⊕ (List I_Change)) :=
  cond (decide (i3 < (p_a.length : Int)))
    ((ixI p_a i3).bind fun x21 =>
    (m_L_toChange N x21).bind fun r23 =>
    (ixI v4 i3).bind fun x25 =>
    (chk (i3 + (1 : Int))).bind fun n27 =>
    some (.inl (n27, (v4.set i3.toNat r23))))
    (some (.inr v4))
def m_L_toChangeS (N : Nat) (p_a : (List L_Change)) : Option ((List I_Change)) :=
  (mkM 56 (I_Change.mk (0 : Int) (0 : Int) (I_Column.mk (0 : Int) (I_Value.mk (0 : Int) (0 : Int) ByteArray.empty))) (p_a.length : Int)).bind fun xs1 =>
  (loopM (β := (List I_Change)) (fun s : Int × (List I_Change) => m_L_toChangeS_b1 N p_a s.1 s.2) N ((0 : Int), xs1)).bind fun e =>
  m_L_toChangeS_k1 N e
theorem w_L_toChangeS (N : Nat) (p_a : (List L_Change)) (r : (List I_Change)) (hh0 : m_L_toChangeS N p_a = some r) : FnX Tryz.prog 23 [] [sL p_a] (RE (.os 0 0 r.length) [⟨.tr (eL r), 89, 6⟩]) := by
  unfold m_L_toChangeS at hh0; refine FnX.mk Tryz.func23 rfl rfl ?_; intro s hs; refine PC.seq ?_; refine PC.region ?_; refine PL.op rfl (Rd.asnT rfl) ?_; refine PL.nil ?_; refine thA_n ?_; refine PC.seq ?_; obtain ⟨xs1, h_2, hh0⟩ := bind_some hh0; refine PC.region ?_; refine PL.op rfl (Rd.moveT rfl) ?_; refine PL.op rfl (Rd.lenT rfl) ?_; refine PL.ef rfl (Ef.makeM (I_Change.mk (0 : Int) (0 : Int) (I_Column.mk (0 : Int) (I_Value.mk (0 : Int) (0 : Int) ByteArray.empty))) rfl rfl h_2 rfl rfl rfl (by exact ⟨.inl ⟨rfl, rfl⟩, .inl ⟨rfl, rfl⟩, .inl ⟨rfl, rfl⟩, .inl ⟨rfl, rfl⟩, .inl ⟨rfl, rfl⟩, .inl ⟨rfl, rfl⟩, trivial⟩)) ?_; refine PL.nm (.os 0 0 xs1.length) [some ⟨.tr (eL xs1), 89, 6⟩] rfl rfl ?_; refine PL.op rfl (Rd.asnO rfl) ?_; refine PL.nil ?_; refine thA_n ?_; (iterate 2 refine PC.seq ?_); refine PC.region ?_; refine PL.op rfl (Rd.asnT rfl) ?_; refine PL.nil ?_; refine thA_n ?_; obtain ⟨o15, h_16, hh0⟩ := bind_some hh0; refine PC.cutE hs (fun x : (List I_Change) => [(3, .os 0 0 x.length)]) (fun x => [⟨.tr (eL x), 89, 6⟩]) (fun x => m_L_toChangeS_k1 N x = some r) ?_ ?_
  · refine PC.block ?_; refine PC.loop hs (fun x : Nat × (Int × (List I_Change)) => [(0, sL p_a), (3, .os 0 0 x.2.2.length), (4, iA x.2.1)]) (fun x => [⟨.tr (eL x.2.2), 89, 6⟩]) (fun x => loopM (β := (List I_Change)) (fun s : Int × (List I_Change) => m_L_toChangeS_b1 N p_a s.1 s.2) x.1 x.2 = some o15) (fun x => x.1) (N, ((0 : Int), xs1)) [some 0] ⟨rfl, rfl, ⟨⟨_, rfl, rfl, rfl, .tr _⟩, trivial⟩, ⟨.t _, .os rfl, .t _, trivial⟩⟩ h_16 ?_
    rintro ⟨f17_, i3, v4⟩ h_19
    obtain ⟨f17, y18, rfl, hh1, kk1⟩ := loopM_some h_19
    replace hh1 : m_L_toChangeS_b1 N p_a i3 v4 = some y18 := hh1
    unfold m_L_toChangeS_b1 at hh1; (iterate 2 refine PC.seq ?_); refine PC.region ?_; (iterate 2 refine PL.op rfl (Rd.moveT rfl) ?_); refine PL.op rfl (Rd.lenT rfl) ?_; refine PL.op rfl (Rd.lss rfl rfl) ?_; refine PL.nil ?_; refine thA_n ?_; rcases cond_some hh1 with ⟨h_20, hh1⟩ | ⟨h_20, hh1⟩; rotate_left
    · refine PC.cond_false rfl h_20 ?_; refine PC.exit ?_; (iterate 2 refine thA_e ?_); refine inA_eq rfl ?_; refine thA_n ?_; obtain rfl := some_in hh1; obtain rfl : (v4 : (List I_Change)) = o15 := kk1; exact ⟨v4, hh0, [some 0], ⟨rfl, rfl, ⟨⟨_, rfl, rfl, rfl, .tr _⟩, trivial⟩, ⟨.os rfl, trivial⟩⟩⟩
    refine PC.cond_true rfl h_20 ?_; refine PC.skip ?_; refine thA_n ?_; refine PC.seq ?_; refine PC.block ?_; obtain ⟨x21, h_22, hh1⟩ := bind_some hh1; obtain ⟨r23, h_24, hh1⟩ := bind_some hh1; obtain ⟨x25, h_26, hh1⟩ := bind_some hh1; refine PC.region ?_; refine PL.op rfl (Rd.moveO rfl) ?_; (iterate 3 refine PL.op rfl (Rd.moveT rfl) ?_); refine PL.op rfl (Rd.ixM rfl rfl h_22) ?_; refine PL.op rfl (Rd.elMR rfl h_22 rfl rfl) ?_; refine PL.callM false [] (w_L_toChange N x21 r23 h_24) rfl Tryz.call51 rfl ⟨.aggL ⟨.t _, .t _, .t _, .t _, .t _, .t _, trivial⟩, trivial⟩ rfl trivial (fun h => by cases h) ?_; refine PL.op rfl (Rd.ixOM rfl rfl rfl (ixI_lt h_26)) ?_; refine PL.stRM r23 rfl rfl rfl rfl rfl h_26 rfl ?_; refine PL.nO [some ⟨.tr (eL (v4.set i3.toNat r23)), 89, 6⟩] rfl ?_; refine PL.nil ?_; refine inA_n ?_; refine thA_n ?_; obtain ⟨n27, h_28, hh1⟩ := bind_some hh1; refine PC.region ?_; refine PL.op rfl (Rd.moveT rfl) ?_; refine PL.op rfl (Rd.addM rfl rfl h_28) ?_; refine PL.op rfl (Rd.asnT rfl) ?_; refine PL.nil ?_; obtain rfl := some_in hh1; refine thA_n ?_; exact ⟨(f17, (n27, (v4.set i3.toNat r23))), Nat.lt_succ_self _, kk1, [some 0], ⟨rfl, rfl, ⟨⟨_, rfl, rfl, rfl, .tr _⟩, trivial⟩, ⟨.t _, .osE rfl (by simp only [List.length_set]), .t _, trivial⟩⟩⟩
  clear hh0
  rintro v14 hh0
  replace hh0 : m_L_toChangeS_k1 N v14 = some r := hh0
  unfold m_L_toChangeS_k1 at hh0; refine thA_n ?_; refine PC.seq ?_; refine PC.region ?_; refine PL.op rfl (Rd.moveO rfl) ?_; refine PL.op rfl (Rd.asnO rfl) ?_; refine PL.nil ?_; refine thA_n ?_; refine PC.ret ?_; obtain rfl := some_in hh0; exact FinA.mk (r := .os 0 0 v14.length) (bl := [⟨.tr (eL v14), 89, 6⟩]) [some 0] (.inl rfl) rfl (rl := [.tmp 2]) (.tmp .nil) rfl rfl rfl (.os rfl) ⟨⟨_, rfl, rfl, rfl, .tr _⟩, trivial⟩ ⟨rfl, rfl⟩
def m_L_toValueS_k1 (N : Nat) (v14 : (List I_Value)) : Option ((List I_Value)) :=
  some v14
def m_L_toValueS_b1 (N : Nat) (p_a : (List L_Value)) (i3 : Int) (v4 : (List I_Value)) : Option ((Int × (List I_Value)) ⊕ (List I_Value)) :=
  cond (decide (i3 < (p_a.length : Int)))
    ((ixI p_a i3).bind fun x21 =>
    (m_L_toValue N x21).bind fun r23 =>
    (ixI v4 i3).bind fun x25 =>
    (chk (i3 + (1 : Int))).bind fun n27 =>
    some (.inl (n27, (v4.set i3.toNat r23))))
    (some (.inr v4))
def m_L_toValueS (N : Nat) (p_a : (List L_Value)) : Option ((List I_Value)) :=
  (mkM 32 (I_Value.mk (0 : Int) (0 : Int) ByteArray.empty) (p_a.length : Int)).bind fun xs1 =>
  (loopM (β := (List I_Value)) (fun s : Int × (List I_Value) => m_L_toValueS_b1 N p_a s.1 s.2) N ((0 : Int), xs1)).bind fun e =>
  m_L_toValueS_k1 N e
theorem w_L_toValueS (N : Nat) (p_a : (List L_Value)) (r : (List I_Value)) (hh0 : m_L_toValueS N p_a = some r) : FnX Tryz.prog 71 [] [sL p_a] (RE (.os 0 0 r.length) [⟨.tr (eL r), 84, 3⟩]) := by
  unfold m_L_toValueS at hh0; refine FnX.mk Tryz.func71 rfl rfl ?_; intro s hs; refine PC.seq ?_; refine PC.region ?_; refine PL.op rfl (Rd.asnT rfl) ?_; refine PL.nil ?_; refine thA_n ?_; refine PC.seq ?_; obtain ⟨xs1, h_2, hh0⟩ := bind_some hh0; refine PC.region ?_; refine PL.op rfl (Rd.moveT rfl) ?_; refine PL.op rfl (Rd.lenT rfl) ?_; refine PL.ef rfl (Ef.makeM (I_Value.mk (0 : Int) (0 : Int) ByteArray.empty) rfl rfl h_2 rfl rfl rfl (by exact ⟨.inl ⟨rfl, rfl⟩, .inl ⟨rfl, rfl⟩, .inl ⟨rfl, rfl⟩, trivial⟩)) ?_; refine PL.nm (.os 0 0 xs1.length) [some ⟨.tr (eL xs1), 84, 3⟩] rfl rfl ?_; refine PL.op rfl (Rd.asnO rfl) ?_; refine PL.nil ?_; refine thA_n ?_; (iterate 2 refine PC.seq ?_); refine PC.region ?_; refine PL.op rfl (Rd.asnT rfl) ?_; refine PL.nil ?_; refine thA_n ?_; obtain ⟨o15, h_16, hh0⟩ := bind_some hh0; refine PC.cutE hs (fun x : (List I_Value) => [(3, .os 0 0 x.length)]) (fun x => [⟨.tr (eL x), 84, 3⟩]) (fun x => m_L_toValueS_k1 N x = some r) ?_ ?_
  · refine PC.block ?_; refine PC.loop hs (fun x : Nat × (Int × (List I_Value)) => [(0, sL p_a), (3, .os 0 0 x.2.2.length), (4, iA x.2.1)]) (fun x => [⟨.tr (eL x.2.2), 84, 3⟩]) (fun x => loopM (β := (List I_Value)) (fun s : Int × (List I_Value) => m_L_toValueS_b1 N p_a s.1 s.2) x.1 x.2 = some o15) (fun x => x.1) (N, ((0 : Int), xs1)) [some 0] ⟨rfl, rfl, ⟨⟨_, rfl, rfl, rfl, .tr _⟩, trivial⟩, ⟨.t _, .os rfl, .t _, trivial⟩⟩ h_16 ?_
    rintro ⟨f17_, i3, v4⟩ h_19
    obtain ⟨f17, y18, rfl, hh1, kk1⟩ := loopM_some h_19
    replace hh1 : m_L_toValueS_b1 N p_a i3 v4 = some y18 := hh1
    unfold m_L_toValueS_b1 at hh1; (iterate 2 refine PC.seq ?_); refine PC.region ?_; (iterate 2 refine PL.op rfl (Rd.moveT rfl) ?_); refine PL.op rfl (Rd.lenT rfl) ?_; refine PL.op rfl (Rd.lss rfl rfl) ?_; refine PL.nil ?_; refine thA_n ?_; rcases cond_some hh1 with ⟨h_20, hh1⟩ | ⟨h_20, hh1⟩; rotate_left
    · refine PC.cond_false rfl h_20 ?_; refine PC.exit ?_; (iterate 2 refine thA_e ?_); refine inA_eq rfl ?_; refine thA_n ?_; obtain rfl := some_in hh1; obtain rfl : (v4 : (List I_Value)) = o15 := kk1; exact ⟨v4, hh0, [some 0], ⟨rfl, rfl, ⟨⟨_, rfl, rfl, rfl, .tr _⟩, trivial⟩, ⟨.os rfl, trivial⟩⟩⟩
    refine PC.cond_true rfl h_20 ?_; refine PC.skip ?_; refine thA_n ?_; refine PC.seq ?_; refine PC.block ?_; obtain ⟨x21, h_22, hh1⟩ := bind_some hh1; obtain ⟨r23, h_24, hh1⟩ := bind_some hh1; obtain ⟨x25, h_26, hh1⟩ := bind_some hh1; refine PC.region ?_; refine PL.op rfl (Rd.moveO rfl) ?_; (iterate 3 refine PL.op rfl (Rd.moveT rfl) ?_); refine PL.op rfl (Rd.ixM rfl rfl h_22) ?_; refine PL.op rfl (Rd.elMR rfl h_22 rfl rfl) ?_; refine PL.callM false [] (w_L_toValue N x21 r23 h_24) rfl Tryz.call70 rfl ⟨.aggL ⟨.t _, .t _, .t _, trivial⟩, trivial⟩ rfl trivial (fun h => by cases h) ?_; refine PL.op rfl (Rd.ixOM rfl rfl rfl (ixI_lt h_26)) ?_; refine PL.stRM r23 rfl rfl rfl rfl rfl h_26 rfl ?_; refine PL.nO [some ⟨.tr (eL (v4.set i3.toNat r23)), 84, 3⟩] rfl ?_; refine PL.nil ?_; refine inA_n ?_; refine thA_n ?_; obtain ⟨n27, h_28, hh1⟩ := bind_some hh1; refine PC.region ?_; refine PL.op rfl (Rd.moveT rfl) ?_; refine PL.op rfl (Rd.addM rfl rfl h_28) ?_; refine PL.op rfl (Rd.asnT rfl) ?_; refine PL.nil ?_; obtain rfl := some_in hh1; refine thA_n ?_; exact ⟨(f17, (n27, (v4.set i3.toNat r23))), Nat.lt_succ_self _, kk1, [some 0], ⟨rfl, rfl, ⟨⟨_, rfl, rfl, rfl, .tr _⟩, trivial⟩, ⟨.t _, .osE rfl (by simp only [List.length_set]), .t _, trivial⟩⟩⟩
  clear hh0
  rintro v14 hh0
  replace hh0 : m_L_toValueS_k1 N v14 = some r := hh0
  unfold m_L_toValueS_k1 at hh0; refine thA_n ?_; refine PC.seq ?_; refine PC.region ?_; refine PL.op rfl (Rd.moveO rfl) ?_; refine PL.op rfl (Rd.asnO rfl) ?_; refine PL.nil ?_; refine thA_n ?_; refine PC.ret ?_; obtain rfl := some_in hh0; exact FinA.mk (r := .os 0 0 v14.length) (bl := [⟨.tr (eL v14), 84, 3⟩]) [some 0] (.inl rfl) rfl (rl := [.tmp 2]) (.tmp .nil) rfl rfl rfl (.os rfl) ⟨⟨_, rfl, rfl, rfl, .tr _⟩, trivial⟩ ⟨rfl, rfl⟩
def m_L_toTagged (N : Nat) (p_a : L_Tagged) : Option (I_Tagged) :=
  (m_L_toValueS N p_a.row).bind fun r1 =>
  some (I_Tagged.mk p_a.tag r1)
theorem w_L_toTagged (N : Nat) (p_a : L_Tagged) (r : I_Tagged) (hh0 : m_L_toTagged N p_a = some r) : FnX Tryz.prog 52 [] [.agg [iA p_a.tag, sL p_a.row]] (RE (.agg [iA r.tag, .os 0 0 r.row.length]) [⟨.tr (eL r.row), 84, 3⟩]) := by
  unfold m_L_toTagged at hh0; refine FnX.mk Tryz.func52 rfl rfl ?_; intro s hs; refine PC.seq ?_; refine PC.region ?_; refine PL.ef rfl (Ef.box rfl rfl rfl) ?_; refine PL.nm (.op 0 0) [some ⟨.mx [iA p_a.tag, sL p_a.row], 76, 0⟩] rfl rfl ?_; refine PL.ef rfl (Ef.alloc rfl rfl) ?_; refine PL.nm (.op 1 0) [some ⟨.mx [iA p_a.tag, sL p_a.row], 76, 0⟩, some ⟨.mx [iA (0 : Int), .t (.v (.slice none 0 0))], 52, 0⟩] rfl rfl ?_; refine PL.nil ?_; refine thA_n ?_; refine PC.seq ?_; refine PC.region ?_; refine PL.ef rfl (Ef.alloc rfl rfl) ?_; refine PL.nm (.op 2 0) [some ⟨.mx [iA p_a.tag, sL p_a.row], 76, 0⟩, some ⟨.mx [iA (0 : Int), .t (.v (.slice none 0 0))], 52, 0⟩, some ⟨.mx [iA (0 : Int), .t (.v (.slice none 0 0))], 52, 0⟩] rfl rfl ?_; refine PL.nil ?_; refine thA_n ?_; refine PC.seq ?_; refine PC.region ?_; refine PL.op rfl (Rd.fieldO rfl rfl) ?_; refine PL.op rfl (Rd.loadO rfl rfl rfl) ?_; refine PL.op rfl (Rd.fieldO rfl rfl) ?_; refine PL.store rfl rfl rfl rfl rfl rfl rfl ?_; refine PL.nO [some ⟨.mx [iA p_a.tag, sL p_a.row], 76, 0⟩, some ⟨.mx [iA (0 : Int), .t (.v (.slice none 0 0))], 52, 0⟩, some ⟨.mx [iA p_a.tag, .t (.v (.slice none 0 0))], 52, 0⟩] rfl ?_; refine PL.nil ?_; refine thA_n ?_; refine PC.seq ?_; obtain ⟨r1, h_2, hh0⟩ := bind_some hh0; refine PC.region ?_; refine PL.op rfl (Rd.fieldO rfl rfl) ?_; refine PL.op rfl (Rd.loadO rfl rfl rfl) ?_; refine PL.callM false [] (w_L_toValueS N p_a.row r1 h_2) rfl Tryz.call71 rfl ⟨.t _, trivial⟩ rfl trivial (fun h => by cases h) ?_; refine PL.nm (.os 3 0 r1.length) [some ⟨.mx [iA p_a.tag, sL p_a.row], 76, 0⟩, some ⟨.mx [iA (0 : Int), .t (.v (.slice none 0 0))], 52, 0⟩, some ⟨.mx [iA p_a.tag, .t (.v (.slice none 0 0))], 52, 0⟩, some ⟨.tr (eL r1), 84, 3⟩] rfl rfl ?_; refine PL.op rfl (Rd.fieldO rfl rfl) ?_; refine PL.store rfl rfl rfl rfl rfl rfl rfl ?_; refine PL.nO [some ⟨.mx [iA p_a.tag, sL p_a.row], 76, 0⟩, some ⟨.mx [iA (0 : Int), .t (.v (.slice none 0 0))], 52, 0⟩, some ⟨.mx [iA p_a.tag, .os 3 0 r1.length], 52, 0⟩, some ⟨.tr (eL r1), 84, 3⟩] rfl ?_; refine PL.nil ?_; refine thA_n ?_; refine PC.seq ?_; refine PC.region ?_; refine PL.op rfl (Rd.loadBox rfl rfl rfl) ?_; refine PL.store rfl rfl rfl rfl rfl rfl rfl ?_; refine PL.nO [some ⟨.mx [iA p_a.tag, sL p_a.row], 76, 0⟩, some ⟨.mx [iA p_a.tag, .os 3 0 r1.length], 52, 0⟩, some ⟨.mx [iA p_a.tag, .os 3 0 r1.length], 52, 0⟩, some ⟨.tr (eL r1), 84, 3⟩] rfl ?_; refine PL.nil ?_; refine thA_n ?_; refine PC.ret ?_; obtain rfl := some_in hh0; exact FinA.mk (r := .agg [iA p_a.tag, .os 0 0 r1.length]) (bl := [⟨.tr (eL r1), 84, 3⟩]) [some 3] (.inl rfl) rfl (rl := [.cell 2 52]) (.cellN rfl rfl rfl rfl .nil) rfl rfl rfl (.aggL ⟨.t _, .os rfl, trivial⟩) ⟨⟨_, rfl, rfl, rfl, .tr _⟩, trivial⟩ ⟨rfl, rfl⟩
def m_L_toTaggedS_k1 (N : Nat) (v14 : (List I_Tagged)) : Option ((List I_Tagged)) :=
  some v14
def m_L_toTaggedS_b1 (N : Nat) (p_a : (List L_Tagged)) (i3 : Int) (v4 : (List I_Tagged)) : Option ((Int × (List I_Tagged)) ⊕ (List I_Tagged)) :=
  cond (decide (i3 < (p_a.length : Int)))
    ((ixI p_a i3).bind fun x21 =>
    (m_L_toTagged N x21).bind fun r23 =>
    (ixI v4 i3).bind fun x25 =>
    (chk (i3 + (1 : Int))).bind fun n27 =>
    some (.inl (n27, (v4.set i3.toNat r23))))
    (some (.inr v4))
def m_L_toTaggedS (N : Nat) (p_a : (List L_Tagged)) : Option ((List I_Tagged)) :=
  (mkM 32 (I_Tagged.mk (0 : Int) ([] : List I_Value)) (p_a.length : Int)).bind fun xs1 =>
  (loopM (β := (List I_Tagged)) (fun s : Int × (List I_Tagged) => m_L_toTaggedS_b1 N p_a s.1 s.2) N ((0 : Int), xs1)).bind fun e =>
  m_L_toTaggedS_k1 N e
theorem w_L_toTaggedS (N : Nat) (p_a : (List L_Tagged)) (r : (List I_Tagged)) (hh0 : m_L_toTaggedS N p_a = some r) : FnX Tryz.prog 24 [] [sL p_a] (RE (.os 0 0 r.length) [⟨.mx (dL 1 0 r), 52, 2⟩, ⟨.fm (fam r), 84, 3⟩]) := by
  unfold m_L_toTaggedS at hh0; refine FnX.mk Tryz.func24 rfl rfl ?_; intro s hs; refine PC.seq ?_; refine PC.region ?_; refine PL.op rfl (Rd.asnT rfl) ?_; refine PL.nil ?_; refine thA_n ?_; refine PC.seq ?_; obtain ⟨xs1, h_2, hh0⟩ := bind_some hh0; refine PC.region ?_; refine PL.op rfl (Rd.moveT rfl) ?_; refine PL.op rfl (Rd.lenT rfl) ?_; refine PL.ef rfl (Ef.makeD (I_Tagged.mk (0 : Int) ([] : List I_Value)) rfl rfl h_2 rfl rfl rfl rfl rfl) ?_; refine PL.fam0 (b := 0) (ity := 84) (ik := 3) (es := xs1) rfl (mkM_rows h_2 rfl) ?_; refine PL.nm (.os 0 0 xs1.length) [some ⟨.mx (dL 1 0 xs1), 52, 2⟩, some ⟨.fm (fam xs1), 84, 3⟩] rfl rfl ?_; refine PL.op rfl (Rd.asnO rfl) ?_; refine PL.nil ?_; refine thA_n ?_; (iterate 2 refine PC.seq ?_); refine PC.region ?_; refine PL.op rfl (Rd.asnT rfl) ?_; refine PL.nil ?_; refine thA_n ?_; obtain ⟨o15, h_16, hh0⟩ := bind_some hh0; refine PC.cutE hs (fun x : (List I_Tagged) => [(3, .os 0 0 x.length)]) (fun x => [⟨.mx (dL 1 0 x), 52, 2⟩, ⟨.fm (fam x), 84, 3⟩]) (fun x => m_L_toTaggedS_k1 N x = some r) ?_ ?_
  · refine PC.block ?_; refine PC.loop hs (fun x : Nat × (Int × (List I_Tagged)) => [(0, sL p_a), (3, .os 0 0 x.2.2.length), (4, iA x.2.1)]) (fun x => [⟨.mx (dL 1 0 x.2.2), 52, 2⟩, ⟨.fm (fam x.2.2), 84, 3⟩]) (fun x => loopM (β := (List I_Tagged)) (fun s : Int × (List I_Tagged) => m_L_toTaggedS_b1 N p_a s.1 s.2) x.1 x.2 = some o15) (fun x => x.1) (N, ((0 : Int), xs1)) [some 0, some 1] ⟨rfl, rfl, ⟨⟨_, rfl, rfl, rfl, .mx (sb_dL rfl 0 _)⟩, ⟨_, rfl, rfl, rfl, .fm _⟩, trivial⟩, ⟨.t _, .os rfl, .t _, trivial⟩⟩ h_16 ?_
    rintro ⟨f17_, i3, v4⟩ h_19
    obtain ⟨f17, y18, rfl, hh1, kk1⟩ := loopM_some h_19
    replace hh1 : m_L_toTaggedS_b1 N p_a i3 v4 = some y18 := hh1
    unfold m_L_toTaggedS_b1 at hh1; (iterate 2 refine PC.seq ?_); refine PC.region ?_; (iterate 2 refine PL.op rfl (Rd.moveT rfl) ?_); refine PL.op rfl (Rd.lenT rfl) ?_; refine PL.op rfl (Rd.lss rfl rfl) ?_; refine PL.nil ?_; refine thA_n ?_; rcases cond_some hh1 with ⟨h_20, hh1⟩ | ⟨h_20, hh1⟩; rotate_left
    · refine PC.cond_false rfl h_20 ?_; refine PC.exit ?_; (iterate 2 refine thA_e ?_); refine inA_eq rfl ?_; refine thA_n ?_; obtain rfl := some_in hh1; obtain rfl : (v4 : (List I_Tagged)) = o15 := kk1; exact ⟨v4, hh0, [some 0, some 1], ⟨rfl, rfl, ⟨⟨_, rfl, rfl, rfl, .mx (sb_dL rfl 0 _)⟩, ⟨_, rfl, rfl, rfl, .fm _⟩, trivial⟩, ⟨.os rfl, trivial⟩⟩⟩
    refine PC.cond_true rfl h_20 ?_; refine PC.skip ?_; refine thA_n ?_; refine PC.seq ?_; refine PC.block ?_; obtain ⟨x21, h_22, hh1⟩ := bind_some hh1; obtain ⟨r23, h_24, hh1⟩ := bind_some hh1; obtain ⟨x25, h_26, hh1⟩ := bind_some hh1; refine PC.region ?_; refine PL.op rfl (Rd.moveO rfl) ?_; (iterate 3 refine PL.op rfl (Rd.moveT rfl) ?_); refine PL.op rfl (Rd.ixM rfl rfl h_22) ?_; refine PL.op rfl (Rd.elMR rfl h_22 rfl rfl) ?_; refine PL.callM false [] (w_L_toTagged N x21 r23 h_24) rfl Tryz.call52 rfl ⟨.aggL ⟨.t _, .t _, trivial⟩, trivial⟩ rfl trivial (fun h => by cases h) ?_; refine PL.nm (.agg [iA r23.tag, .os 2 0 r23.row.length]) [some ⟨.mx (dL 1 0 v4), 52, 2⟩, some ⟨.fm (fam v4), 84, 3⟩, some ⟨.tr (eL r23.row), 84, 3⟩] rfl rfl ?_; refine PL.op rfl (Rd.ixOM rfl rfl rfl (ixI_lt h_26)) ?_; refine PL.adSM hs r23 rfl rfl rfl rfl rfl rfl rfl rfl h_26 rfl rfl rfl rfl rfl rfl rfl ?_; refine PL.nO [some ⟨.mx (dL 3 0 (v4.set i3.toNat r23)), 52, 2⟩, none, none, some ⟨.fm (fam (v4.set i3.toNat r23)), 84, 3⟩] rfl ?_; refine PL.nil ?_; refine inA_n ?_; refine thA_n ?_; obtain ⟨n27, h_28, hh1⟩ := bind_some hh1; refine PC.region ?_; refine PL.op rfl (Rd.moveT rfl) ?_; refine PL.op rfl (Rd.addM rfl rfl h_28) ?_; refine PL.op rfl (Rd.asnT rfl) ?_; refine PL.nil ?_; obtain rfl := some_in hh1; refine thA_n ?_; exact ⟨(f17, (n27, (v4.set i3.toNat r23))), Nat.lt_succ_self _, kk1, [some 0, some 3], ⟨rfl, rfl, ⟨⟨_, rfl, rfl, rfl, .mx (sb_dL rfl 0 _)⟩, ⟨_, rfl, rfl, rfl, .fm _⟩, trivial⟩, ⟨.t _, .osE rfl (by simp only [List.length_set]), .t _, trivial⟩⟩⟩
  clear hh0
  rintro v14 hh0
  replace hh0 : m_L_toTaggedS_k1 N v14 = some r := hh0
  unfold m_L_toTaggedS_k1 at hh0; refine thA_n ?_; refine PC.seq ?_; refine PC.region ?_; refine PL.op rfl (Rd.moveO rfl) ?_; refine PL.op rfl (Rd.asnO rfl) ?_; refine PL.nil ?_; refine thA_n ?_; refine PC.ret ?_; obtain rfl := some_in hh0; exact FinA.mk (r := .os 0 0 v14.length) (bl := [⟨.mx (dL 1 0 v14), 52, 2⟩, ⟨.fm (fam v14), 84, 3⟩]) [some 0, some 1] (.inl rfl) rfl (rl := [.tmp 2]) (.tmp .nil) rfl rfl rfl (.os rfl) ⟨⟨_, rfl, rfl, rfl, .mx (sb_dL rfl 0 _)⟩, ⟨_, rfl, rfl, rfl, .fm _⟩, trivial⟩ ⟨rfl, rfl⟩
def m_L_toTable (N : Nat) (p_a : L_Table) : Option (I_Table) :=
  (m_L_toColumnS N p_a.first).bind fun r1 =>
  (m_L_toChangeS N p_a.changes).bind fun r3 =>
  (m_L_toTaggedS N p_a.rows).bind fun r5 =>
  some (I_Table.mk r1 r3 r5)
theorem w_L_toTable (N : Nat) (p_a : L_Table) (r : I_Table) (hh0 : m_L_toTable N p_a = some r) : FnX Tryz.prog 7 [] [.agg [sL p_a.first, sL p_a.changes, sL p_a.rows]] (RE (.agg [.os 0 0 r.first.length, .os 1 0 r.changes.length, .os 2 0 r.rows.length]) [⟨.tr (eL r.first), 86, 4⟩, ⟨.tr (eL r.changes), 89, 6⟩, ⟨.mx (dL 3 0 r.rows), 52, 2⟩, ⟨.fm (fam r.rows), 84, 3⟩]) := by
  unfold m_L_toTable at hh0; refine FnX.mk Tryz.func7 rfl rfl ?_; intro s hs; refine PC.seq ?_; refine PC.region ?_; refine PL.ef rfl (Ef.box rfl rfl rfl) ?_; refine PL.nm (.op 0 0) [some ⟨.mx [sL p_a.first, sL p_a.changes, sL p_a.rows], 26, 0⟩] rfl rfl ?_; refine PL.ef rfl (Ef.alloc rfl rfl) ?_; refine PL.nm (.op 1 0) [some ⟨.mx [sL p_a.first, sL p_a.changes, sL p_a.rows], 26, 0⟩, some ⟨.mx [.t (.v (.slice none 0 0)), .t (.v (.slice none 0 0)), .t (.v (.slice none 0 0))], 34, 0⟩] rfl rfl ?_; refine PL.nil ?_; refine thA_n ?_; refine PC.seq ?_; refine PC.region ?_; refine PL.ef rfl (Ef.alloc rfl rfl) ?_; refine PL.nm (.op 2 0) [some ⟨.mx [sL p_a.first, sL p_a.changes, sL p_a.rows], 26, 0⟩, some ⟨.mx [.t (.v (.slice none 0 0)), .t (.v (.slice none 0 0)), .t (.v (.slice none 0 0))], 34, 0⟩, some ⟨.mx [.t (.v (.slice none 0 0)), .t (.v (.slice none 0 0)), .t (.v (.slice none 0 0))], 34, 0⟩] rfl rfl ?_; refine PL.nil ?_; refine thA_n ?_; refine PC.seq ?_; obtain ⟨r1, h_2, hh0⟩ := bind_some hh0; refine PC.region ?_; refine PL.op rfl (Rd.fieldO rfl rfl) ?_; refine PL.op rfl (Rd.loadO rfl rfl rfl) ?_; refine PL.callM false [] (w_L_toColumnS N p_a.first r1 h_2) rfl Tryz.call22 rfl ⟨.t _, trivial⟩ rfl trivial (fun h => by cases h) ?_; refine PL.nm (.os 3 0 r1.length) [some ⟨.mx [sL p_a.first, sL p_a.changes, sL p_a.rows], 26, 0⟩, some ⟨.mx [.t (.v (.slice none 0 0)), .t (.v (.slice none 0 0)), .t (.v (.slice none 0 0))], 34, 0⟩, some ⟨.mx [.t (.v (.slice none 0 0)), .t (.v (.slice none 0 0)), .t (.v (.slice none 0 0))], 34, 0⟩, some ⟨.tr (eL r1), 86, 4⟩] rfl rfl ?_; refine PL.op rfl (Rd.fieldO rfl rfl) ?_; refine PL.store rfl rfl rfl rfl rfl rfl rfl ?_; refine PL.nO [some ⟨.mx [sL p_a.first, sL p_a.changes, sL p_a.rows], 26, 0⟩, some ⟨.mx [.t (.v (.slice none 0 0)), .t (.v (.slice none 0 0)), .t (.v (.slice none 0 0))], 34, 0⟩, some ⟨.mx [.os 3 0 r1.length, .t (.v (.slice none 0 0)), .t (.v (.slice none 0 0))], 34, 0⟩, some ⟨.tr (eL r1), 86, 4⟩] rfl ?_; refine PL.nil ?_; refine thA_n ?_; refine PC.seq ?_; obtain ⟨r3, h_4, hh0⟩ := bind_some hh0; refine PC.region ?_; refine PL.op rfl (Rd.fieldO rfl rfl) ?_; refine PL.op rfl (Rd.loadO rfl rfl rfl) ?_; refine PL.callM false [] (w_L_toChangeS N p_a.changes r3 h_4) rfl Tryz.call23 rfl ⟨.t _, trivial⟩ rfl trivial (fun h => by cases h) ?_; refine PL.nm (.os 4 0 r3.length) [some ⟨.mx [sL p_a.first, sL p_a.changes, sL p_a.rows], 26, 0⟩, some ⟨.mx [.t (.v (.slice none 0 0)), .t (.v (.slice none 0 0)), .t (.v (.slice none 0 0))], 34, 0⟩, some ⟨.mx [.os 3 0 r1.length, .t (.v (.slice none 0 0)), .t (.v (.slice none 0 0))], 34, 0⟩, some ⟨.tr (eL r1), 86, 4⟩, some ⟨.tr (eL r3), 89, 6⟩] rfl rfl ?_; refine PL.op rfl (Rd.fieldO rfl rfl) ?_; refine PL.store rfl rfl rfl rfl rfl rfl rfl ?_; refine PL.nO [some ⟨.mx [sL p_a.first, sL p_a.changes, sL p_a.rows], 26, 0⟩, some ⟨.mx [.t (.v (.slice none 0 0)), .t (.v (.slice none 0 0)), .t (.v (.slice none 0 0))], 34, 0⟩, some ⟨.mx [.os 3 0 r1.length, .os 4 0 r3.length, .t (.v (.slice none 0 0))], 34, 0⟩, some ⟨.tr (eL r1), 86, 4⟩, some ⟨.tr (eL r3), 89, 6⟩] rfl ?_; refine PL.nil ?_; refine thA_n ?_; refine PC.seq ?_; obtain ⟨r5, h_6, hh0⟩ := bind_some hh0; refine PC.region ?_; refine PL.op rfl (Rd.fieldO rfl rfl) ?_; refine PL.op rfl (Rd.loadO rfl rfl rfl) ?_; refine PL.callM false [] (w_L_toTaggedS N p_a.rows r5 h_6) rfl Tryz.call24 rfl ⟨.t _, trivial⟩ rfl trivial (fun h => by cases h) ?_; refine PL.nm (.os 5 0 r5.length) [some ⟨.mx [sL p_a.first, sL p_a.changes, sL p_a.rows], 26, 0⟩, some ⟨.mx [.t (.v (.slice none 0 0)), .t (.v (.slice none 0 0)), .t (.v (.slice none 0 0))], 34, 0⟩, some ⟨.mx [.os 3 0 r1.length, .os 4 0 r3.length, .t (.v (.slice none 0 0))], 34, 0⟩, some ⟨.tr (eL r1), 86, 4⟩, some ⟨.tr (eL r3), 89, 6⟩, some ⟨.mx (dL 6 0 r5), 52, 2⟩, some ⟨.fm (fam r5), 84, 3⟩] rfl (by (conv => rhs; rw [show dL 6 0 r5 = AV.renL (thet [] 5) (dL 1 0 r5) from (dL_ren (thet [] 5) 1 0 r5).symm]); rfl) ?_; refine PL.op rfl (Rd.fieldO rfl rfl) ?_; refine PL.store rfl rfl rfl rfl rfl rfl rfl ?_; refine PL.nO [some ⟨.mx [sL p_a.first, sL p_a.changes, sL p_a.rows], 26, 0⟩, some ⟨.mx [.t (.v (.slice none 0 0)), .t (.v (.slice none 0 0)), .t (.v (.slice none 0 0))], 34, 0⟩, some ⟨.mx [.os 3 0 r1.length, .os 4 0 r3.length, .os 5 0 r5.length], 34, 0⟩, some ⟨.tr (eL r1), 86, 4⟩, some ⟨.tr (eL r3), 89, 6⟩, some ⟨.mx (dL 6 0 r5), 52, 2⟩, some ⟨.fm (fam r5), 84, 3⟩] rfl ?_; refine PL.nil ?_; refine thA_n ?_; refine PC.seq ?_; refine PC.region ?_; refine PL.op rfl (Rd.loadBox rfl rfl rfl) ?_; refine PL.store rfl rfl rfl rfl rfl rfl rfl ?_; refine PL.nO [some ⟨.mx [sL p_a.first, sL p_a.changes, sL p_a.rows], 26, 0⟩, some ⟨.mx [.os 3 0 r1.length, .os 4 0 r3.length, .os 5 0 r5.length], 34, 0⟩, some ⟨.mx [.os 3 0 r1.length, .os 4 0 r3.length, .os 5 0 r5.length], 34, 0⟩, some ⟨.tr (eL r1), 86, 4⟩, some ⟨.tr (eL r3), 89, 6⟩, some ⟨.mx (dL 6 0 r5), 52, 2⟩, some ⟨.fm (fam r5), 84, 3⟩] rfl ?_; refine PL.nil ?_; refine thA_n ?_; refine PC.ret ?_; obtain rfl := some_in hh0; exact FinA.mk (r := .agg [.os 0 0 r1.length, .os 1 0 r3.length, .os 2 0 r5.length]) (bl := [⟨.tr (eL r1), 86, 4⟩, ⟨.tr (eL r3), 89, 6⟩, ⟨.mx (dL 3 0 r5), 52, 2⟩, ⟨.fm (fam r5), 84, 3⟩]) [some 3, some 4, some 5, some 6] (.inl rfl) rfl (rl := [.cell 2 34]) (.cellN rfl rfl rfl rfl .nil) rfl rfl rfl (.aggL ⟨.os rfl, .os rfl, .os rfl, trivial⟩) ⟨⟨_, rfl, rfl, rfl, .tr _⟩, ⟨_, rfl, rfl, rfl, .tr _⟩, ⟨_, rfl, rfl, rfl, .mx (sb_dL rfl 0 _)⟩, ⟨_, rfl, rfl, rfl, .fm _⟩, trivial⟩ ⟨rfl, rfl⟩
def m_L_eqValue (N : Nat) (p_a : I_Value) (p_b : I_Value) : Option (Bool) :=
  cond (decide (p_a.kind = p_b.kind))
    (cond (decide (p_a.num = p_b.num))
      (cond (p_a.text.toList == p_b.text.toList)
        (some true)
        (some false))
      (some false))
    (some false)
theorem w_L_eqValue (N : Nat) (p_a : I_Value) (p_b : I_Value) (r : Bool) (hh0 : m_L_eqValue N p_a p_b = some r) : FnX Tryz.prog 55 [] [.agg [iA p_a.kind, iA p_a.num, sA p_a.text], .agg [iA p_b.kind, iA p_b.num, sA p_b.text]] (RE (bA r) []) := by
  unfold m_L_eqValue at hh0; refine FnX.mk Tryz.func55 rfl rfl ?_; intro s hs; refine PC.seq ?_; refine PC.region ?_; refine PL.ef rfl (Ef.box rfl rfl rfl) ?_; refine PL.nm (.op 0 0) [some ⟨.mx [iA p_a.kind, iA p_a.num, sA p_a.text], 84, 0⟩] rfl rfl ?_; refine PL.ef rfl (Ef.box rfl rfl rfl) ?_; refine PL.nm (.op 1 0) [some ⟨.mx [iA p_a.kind, iA p_a.num, sA p_a.text], 84, 0⟩, some ⟨.mx [iA p_b.kind, iA p_b.num, sA p_b.text], 84, 0⟩] rfl rfl ?_; refine PL.op rfl (Rd.asnT rfl) ?_; refine PL.nil ?_; refine thA_n ?_; (iterate 2 refine PC.seq ?_); refine PC.region ?_; refine PL.op rfl (Rd.fieldO rfl rfl) ?_; refine PL.op rfl (Rd.loadO rfl rfl rfl) ?_; refine PL.op rfl (Rd.fieldO rfl rfl) ?_; refine PL.op rfl (Rd.loadO rfl rfl rfl) ?_; refine PL.op rfl (Rd.neq rfl rfl) ?_; refine PL.nil ?_; refine thA_n ?_; rcases cond_some hh0 with ⟨h_1, hh0⟩ | ⟨h_1, hh0⟩; rotate_left
  · refine PC.cond_true rfl (not_f h_1) ?_; refine PC.seq ?_; refine PC.region ?_; refine PL.op rfl (Rd.asnT rfl) ?_; refine PL.nil ?_; refine thA_n ?_; refine PC.ret ?_; refine thA_r ?_; obtain rfl := some_in hh0; exact FinA.mk (r := bA false) (bl := []) [] (.inl rfl) rfl (rl := [.tmp 4]) (.tmp .nil) rfl rfl rfl (.t _) trivial ⟨rfl, rfl⟩
  refine PC.cond_false rfl (not_t h_1) ?_; refine PC.skip ?_; refine thA_n ?_; (iterate 2 refine PC.seq ?_); refine PC.region ?_; refine PL.op rfl (Rd.fieldO rfl rfl) ?_; refine PL.op rfl (Rd.loadO rfl rfl rfl) ?_; refine PL.op rfl (Rd.fieldO rfl rfl) ?_; refine PL.op rfl (Rd.loadO rfl rfl rfl) ?_; refine PL.op rfl (Rd.neq rfl rfl) ?_; refine PL.nil ?_; refine thA_n ?_; rcases cond_some hh0 with ⟨h_2, hh0⟩ | ⟨h_2, hh0⟩; rotate_left
  · refine PC.cond_true rfl (not_f h_2) ?_; refine PC.seq ?_; refine PC.region ?_; refine PL.op rfl (Rd.asnT rfl) ?_; refine PL.nil ?_; refine thA_n ?_; refine PC.ret ?_; refine thA_r ?_; obtain rfl := some_in hh0; exact FinA.mk (r := bA false) (bl := []) [] (.inl rfl) rfl (rl := [.tmp 4]) (.tmp .nil) rfl rfl rfl (.t _) trivial ⟨rfl, rfl⟩
  refine PC.cond_false rfl (not_t h_2) ?_; refine PC.skip ?_; refine thA_n ?_; (iterate 2 refine PC.seq ?_); refine PC.region ?_; refine PL.op rfl (Rd.fieldO rfl rfl) ?_; refine PL.op rfl (Rd.loadO rfl rfl rfl) ?_; refine PL.op rfl (Rd.fieldO rfl rfl) ?_; refine PL.op rfl (Rd.loadO rfl rfl rfl) ?_; refine PL.op rfl (Rd.neqS rfl rfl) ?_; refine PL.nil ?_; refine thA_n ?_; rcases cond_some hh0 with ⟨h_3, hh0⟩ | ⟨h_3, hh0⟩; rotate_left
  · refine PC.cond_true rfl (not_f h_3) ?_; refine PC.seq ?_; refine PC.region ?_; refine PL.op rfl (Rd.asnT rfl) ?_; refine PL.nil ?_; refine thA_n ?_; refine PC.ret ?_; refine thA_r ?_; obtain rfl := some_in hh0; exact FinA.mk (r := bA false) (bl := []) [] (.inl rfl) rfl (rl := [.tmp 4]) (.tmp .nil) rfl rfl rfl (.t _) trivial ⟨rfl, rfl⟩
  refine PC.cond_false rfl (not_t h_3) ?_; refine PC.skip ?_; refine thA_n ?_; refine PC.seq ?_; refine PC.region ?_; refine PL.op rfl (Rd.asnT rfl) ?_; refine PL.nil ?_; refine thA_n ?_; refine PC.ret ?_; obtain rfl := some_in hh0; exact FinA.mk (r := bA true) (bl := []) [] (.inl rfl) rfl (rl := [.tmp 4]) (.tmp .nil) rfl rfl rfl (.t _) trivial ⟨rfl, rfl⟩
def m_L_eqColumn (N : Nat) (p_a : I_Column) (p_b : I_Column) : Option (Bool) :=
  cond (decide (p_a.kind = p_b.kind))
    ((m_L_eqValue N p_a.default p_b.default).bind fun r2 =>
    cond r2
      (some true)
      (some false))
    (some false)
theorem w_L_eqColumn (N : Nat) (p_a : I_Column) (p_b : I_Column) (r : Bool) (hh0 : m_L_eqColumn N p_a p_b = some r) : FnX Tryz.prog 56 [] [.agg [iA p_a.kind, iA p_a.default.kind, iA p_a.default.num, sA p_a.default.text], .agg [iA p_b.kind, iA p_b.default.kind, iA p_b.default.num, sA p_b.default.text]] (RE (bA r) []) := by
  unfold m_L_eqColumn at hh0; refine FnX.mk Tryz.func56 rfl rfl ?_; intro s hs; refine PC.seq ?_; refine PC.region ?_; refine PL.ef rfl (Ef.box rfl rfl rfl) ?_; refine PL.nm (.op 0 0) [some ⟨.mx [iA p_a.kind, iA p_a.default.kind, iA p_a.default.num, sA p_a.default.text], 86, 0⟩] rfl rfl ?_; refine PL.ef rfl (Ef.box rfl rfl rfl) ?_; refine PL.nm (.op 1 0) [some ⟨.mx [iA p_a.kind, iA p_a.default.kind, iA p_a.default.num, sA p_a.default.text], 86, 0⟩, some ⟨.mx [iA p_b.kind, iA p_b.default.kind, iA p_b.default.num, sA p_b.default.text], 86, 0⟩] rfl rfl ?_; refine PL.op rfl (Rd.asnT rfl) ?_; refine PL.nil ?_; refine thA_n ?_; (iterate 2 refine PC.seq ?_); refine PC.region ?_; refine PL.op rfl (Rd.fieldO rfl rfl) ?_; refine PL.op rfl (Rd.loadO rfl rfl rfl) ?_; refine PL.op rfl (Rd.fieldO rfl rfl) ?_; refine PL.op rfl (Rd.loadO rfl rfl rfl) ?_; refine PL.op rfl (Rd.neq rfl rfl) ?_; refine PL.nil ?_; refine thA_n ?_; rcases cond_some hh0 with ⟨h_1, hh0⟩ | ⟨h_1, hh0⟩; rotate_left
  · refine PC.cond_true rfl (not_f h_1) ?_; refine PC.seq ?_; refine PC.region ?_; refine PL.op rfl (Rd.asnT rfl) ?_; refine PL.nil ?_; refine thA_n ?_; refine PC.ret ?_; refine thA_r ?_; obtain rfl := some_in hh0; exact FinA.mk (r := bA false) (bl := []) [] (.inl rfl) rfl (rl := [.tmp 4]) (.tmp .nil) rfl rfl rfl (.t _) trivial ⟨rfl, rfl⟩
  refine PC.cond_false rfl (not_t h_1) ?_; refine PC.skip ?_; refine thA_n ?_; (iterate 2 refine PC.seq ?_); obtain ⟨r2, h_3, hh0⟩ := bind_some hh0; refine PC.region ?_; refine PL.op rfl (Rd.fieldO rfl rfl) ?_; refine PL.op rfl (Rd.loadSub rfl rfl rfl rfl) ?_; refine PL.op rfl (Rd.fieldO rfl rfl) ?_; refine PL.op rfl (Rd.loadSub rfl rfl rfl rfl) ?_; refine PL.callM false [] (w_L_eqValue N p_a.default p_b.default r2 h_3) rfl Tryz.call55 rfl ⟨.aggL ⟨.t _, .t _, .t _, trivial⟩, .aggL ⟨.t _, .t _, .t _, trivial⟩, trivial⟩ rfl trivial (fun h => by cases h) ?_; refine PL.op rfl (Rd.unnot rfl) ?_; refine PL.nil ?_; refine thA_n ?_; rcases cond_some hh0 with ⟨h_4, hh0⟩ | ⟨h_4, hh0⟩; rotate_left
  · refine PC.cond_true rfl (not_f h_4) ?_; refine PC.seq ?_; refine PC.region ?_; refine PL.op rfl (Rd.asnT rfl) ?_; refine PL.nil ?_; refine thA_n ?_; refine PC.ret ?_; refine thA_r ?_; obtain rfl := some_in hh0; exact FinA.mk (r := bA false) (bl := []) [] (.inl rfl) rfl (rl := [.tmp 4]) (.tmp .nil) rfl rfl rfl (.t _) trivial ⟨rfl, rfl⟩
  refine PC.cond_false rfl (not_t h_4) ?_; refine PC.skip ?_; refine thA_n ?_; refine PC.seq ?_; refine PC.region ?_; refine PL.op rfl (Rd.asnT rfl) ?_; refine PL.nil ?_; refine thA_n ?_; refine PC.ret ?_; obtain rfl := some_in hh0; exact FinA.mk (r := bA true) (bl := []) [] (.inl rfl) rfl (rl := [.tmp 4]) (.tmp .nil) rfl rfl rfl (.t _) trivial ⟨rfl, rfl⟩
def m_L_eqColumnS_k1 (N : Nat) : Option (Bool) :=
  some true
def m_L_eqColumnS_b1 (N : Nat) (p_a : (List I_Column)) (p_b : (List I_Column)) (i2 : Int) : Option (Int ⊕ (Unit ⊕ Bool)) :=
  cond (decide (i2 < (p_a.length : Int)))
    ((ixI p_a i2).bind fun x19 =>
    (ixI p_b i2).bind fun x21 =>
    (m_L_eqColumn N x19 x21).bind fun r23 =>
    cond r23
      ((chk (i2 + (1 : Int))).bind fun n26 =>
      some (.inl n26))
      (some (.inr (.inr false))))
    (some (.inr (.inl ())))
def m_L_eqColumnS (N : Nat) (p_a : (List I_Column)) (p_b : (List I_Column)) : Option (Bool) :=
  cond (decide ((p_a.length : Int) = (p_b.length : Int)))
    ((loopM (β := Unit ⊕ Bool) (fun s : Int => m_L_eqColumnS_b1 N p_a p_b s) N (0 : Int)).bind fun o => match o with
    | .inl e =>
      m_L_eqColumnS_k1 N 
    | .inr v =>
      some v)
    (some false)
theorem w_L_eqColumnS (N : Nat) (p_a : (List I_Column)) (p_b : (List I_Column)) (r : Bool) (hh0 : m_L_eqColumnS N p_a p_b = some r) : FnX Tryz.prog 28 [] [sL p_a, sL p_b] (RE (bA r) []) := by
  unfold m_L_eqColumnS at hh0; refine FnX.mk Tryz.func28 rfl rfl ?_; intro s hs; refine PC.seq ?_; refine PC.region ?_; refine PL.op rfl (Rd.asnT rfl) ?_; refine PL.nil ?_; refine thA_n ?_; (iterate 2 refine PC.seq ?_); refine PC.region ?_; refine PL.op rfl (Rd.moveT rfl) ?_; refine PL.op rfl (Rd.lenT rfl) ?_; refine PL.op rfl (Rd.moveT rfl) ?_; refine PL.op rfl (Rd.lenT rfl) ?_; refine PL.op rfl (Rd.neq rfl rfl) ?_; refine PL.nil ?_; refine thA_n ?_; rcases cond_some hh0 with ⟨h_1, hh0⟩ | ⟨h_1, hh0⟩; rotate_left
  · refine PC.cond_true rfl (not_f h_1) ?_; refine PC.seq ?_; refine PC.region ?_; refine PL.op rfl (Rd.asnT rfl) ?_; refine PL.nil ?_; refine thA_n ?_; refine PC.ret ?_; refine thA_r ?_; obtain rfl := some_in hh0; exact FinA.mk (r := bA false) (bl := []) [] (.inl rfl) rfl (rl := [.tmp 4]) (.tmp .nil) rfl rfl rfl (.t _) trivial ⟨rfl, rfl⟩
  refine PC.cond_false rfl (not_t h_1) ?_; refine PC.skip ?_; refine thA_n ?_; (iterate 2 refine PC.seq ?_); refine PC.region ?_; refine PL.op rfl (Rd.asnT rfl) ?_; refine PL.nil ?_; refine thA_n ?_; obtain ⟨o13, h_14, hh0⟩ := bind_some hh0; refine PC.cutE hs (fun x : Unit => []) (fun x => []) (fun x => m_L_eqColumnS_k1 N  = some r) ?_ ?_
  · refine PC.block ?_; refine PC.loop hs (fun x : Nat × (Int) => [(0, sL p_a), (1, sL p_b), (5, iA x.2)]) (fun x => []) (fun x => loopM (β := Unit ⊕ Bool) (fun s : Int => m_L_eqColumnS_b1 N p_a p_b s) x.1 x.2 = some o13) (fun x => x.1) (N, (0 : Int)) [] ⟨rfl, rfl, trivial, ⟨.t _, .t _, .t _, trivial⟩⟩ h_14 ?_
    rintro ⟨f15_, i2⟩ h_17
    obtain ⟨f15, y16, rfl, hh1, kk1⟩ := loopM_some h_17
    replace hh1 : m_L_eqColumnS_b1 N p_a p_b i2 = some y16 := hh1
    unfold m_L_eqColumnS_b1 at hh1; (iterate 2 refine PC.seq ?_); refine PC.region ?_; (iterate 2 refine PL.op rfl (Rd.moveT rfl) ?_); refine PL.op rfl (Rd.lenT rfl) ?_; refine PL.op rfl (Rd.lss rfl rfl) ?_; refine PL.nil ?_; refine thA_n ?_; rcases cond_some hh1 with ⟨h_18, hh1⟩ | ⟨h_18, hh1⟩; rotate_left
    · refine PC.cond_false rfl h_18 ?_; refine PC.exit ?_; (iterate 2 refine thA_e ?_); refine inA_eq rfl ?_; refine thA_n ?_; obtain rfl := some_in hh1; obtain rfl : (.inl () : Unit ⊕ Bool) = o13 := kk1; exact ⟨(), hh0, [], ⟨rfl, rfl, trivial, trivial⟩⟩
    refine PC.cond_true rfl h_18 ?_; refine PC.skip ?_; refine thA_n ?_; refine PC.seq ?_; refine PC.block ?_; refine PC.seq ?_; obtain ⟨x19, h_20, hh1⟩ := bind_some hh1; obtain ⟨x21, h_22, hh1⟩ := bind_some hh1; obtain ⟨r23, h_24, hh1⟩ := bind_some hh1; refine PC.any (id := 6) 10 (.seg [0, 1, 2, 3, 4, 5, 6, 7, 8, 9] .done) [] rfl (by kernel_rfl) rfl ?_; refine PT.seg ?_; (iterate 2 refine PR.op rfl (Rd.moveT rfl) ?_); refine PR.op rfl (Rd.ixM rfl rfl h_20) ?_; refine PR.op rfl (Rd.elMR rfl h_20 rfl rfl) ?_; (iterate 2 refine PR.op rfl (Rd.moveT rfl) ?_); refine PR.op rfl (Rd.ixM rfl rfl h_22) ?_; refine PR.op rfl (Rd.elMR rfl h_22 rfl rfl) ?_; refine PR.callM false [] (w_L_eqColumn N x19 x21 r23 h_24) rfl Tryz.call56 rfl ⟨.aggL ⟨.t _, .t _, .t _, .t _, trivial⟩, .aggL ⟨.t _, .t _, .t _, .t _, trivial⟩, trivial⟩ rfl trivial (fun h => by cases h) rfl ?_; refine PR.op rfl (Rd.unnot rfl) ?_; refine PR.nil ?_; refine PT.done ?_; refine PL.nil ?_; refine thA_n ?_; rcases cond_some hh1 with ⟨h_25, hh1⟩ | ⟨h_25, hh1⟩
    · refine PC.cond_false rfl (not_t h_25) ?_; refine PC.skip ?_; refine inA_n ?_; refine thA_n ?_; obtain ⟨n26, h_27, hh1⟩ := bind_some hh1; refine PC.region ?_; refine PL.op rfl (Rd.moveT rfl) ?_; refine PL.op rfl (Rd.addM rfl rfl h_27) ?_; refine PL.op rfl (Rd.asnT rfl) ?_; refine PL.nil ?_; obtain rfl := some_in hh1; refine thA_n ?_; exact ⟨(f15, n26), Nat.lt_succ_self _, kk1, [], ⟨rfl, rfl, trivial, ⟨.t _, .t _, .t _, trivial⟩⟩⟩
    refine PC.cond_true rfl (not_f h_25) ?_; refine PC.seq ?_; refine PC.region ?_; refine PL.op rfl (Rd.asnT rfl) ?_; refine PL.nil ?_; refine thA_n ?_; refine PC.ret ?_; refine inA_r ?_; (iterate 2 refine thA_r ?_); refine inA_r ?_; refine thA_r ?_; obtain rfl := some_in hh1; obtain rfl : (.inr false : Unit ⊕ Bool) = o13 := kk1; refine thA_r ?_; obtain rfl := some_in hh0; exact FinA.mk (r := bA false) (bl := []) [] (.inl rfl) rfl (rl := [.tmp 4]) (.tmp .nil) rfl rfl rfl (.t _) trivial ⟨rfl, rfl⟩
  clear hh0
  rintro ⟨⟩ hh0
  replace hh0 : m_L_eqColumnS_k1 N  = some r := hh0
  unfold m_L_eqColumnS_k1 at hh0; refine thA_n ?_; refine PC.seq ?_; refine PC.region ?_; refine PL.op rfl (Rd.asnT rfl) ?_; refine PL.nil ?_; refine thA_n ?_; refine PC.ret ?_; obtain rfl := some_in hh0; exact FinA.mk (r := bA true) (bl := []) [] (.inl rfl) rfl (rl := [.tmp 4]) (.tmp .nil) rfl rfl rfl (.t _) trivial ⟨rfl, rfl⟩
def m_L_eqChange (N : Nat) (p_a : I_Change) (p_b : I_Change) : Option (Bool) :=
  cond (decide (p_a.kind = p_b.kind))
    (cond (decide (p_a.at_ = p_b.at_))
      ((m_L_eqColumn N p_a.column p_b.column).bind fun r3 =>
      cond r3
        (some true)
        (some false))
      (some false))
    (some false)
theorem w_L_eqChange (N : Nat) (p_a : I_Change) (p_b : I_Change) (r : Bool) (hh0 : m_L_eqChange N p_a p_b = some r) : FnX Tryz.prog 57 [] [.agg [iA p_a.kind, iA p_a.at_, iA p_a.column.kind, iA p_a.column.default.kind, iA p_a.column.default.num, sA p_a.column.default.text], .agg [iA p_b.kind, iA p_b.at_, iA p_b.column.kind, iA p_b.column.default.kind, iA p_b.column.default.num, sA p_b.column.default.text]] (RE (bA r) []) := by
  unfold m_L_eqChange at hh0; refine FnX.mk Tryz.func57 rfl rfl ?_; intro s hs; refine PC.seq ?_; refine PC.region ?_; refine PL.ef rfl (Ef.box rfl rfl rfl) ?_; refine PL.nm (.op 0 0) [some ⟨.mx [iA p_a.kind, iA p_a.at_, iA p_a.column.kind, iA p_a.column.default.kind, iA p_a.column.default.num, sA p_a.column.default.text], 89, 0⟩] rfl rfl ?_; refine PL.ef rfl (Ef.box rfl rfl rfl) ?_; refine PL.nm (.op 1 0) [some ⟨.mx [iA p_a.kind, iA p_a.at_, iA p_a.column.kind, iA p_a.column.default.kind, iA p_a.column.default.num, sA p_a.column.default.text], 89, 0⟩, some ⟨.mx [iA p_b.kind, iA p_b.at_, iA p_b.column.kind, iA p_b.column.default.kind, iA p_b.column.default.num, sA p_b.column.default.text], 89, 0⟩] rfl rfl ?_; refine PL.op rfl (Rd.asnT rfl) ?_; refine PL.nil ?_; refine thA_n ?_; (iterate 2 refine PC.seq ?_); refine PC.region ?_; refine PL.op rfl (Rd.fieldO rfl rfl) ?_; refine PL.op rfl (Rd.loadO rfl rfl rfl) ?_; refine PL.op rfl (Rd.fieldO rfl rfl) ?_; refine PL.op rfl (Rd.loadO rfl rfl rfl) ?_; refine PL.op rfl (Rd.neq rfl rfl) ?_; refine PL.nil ?_; refine thA_n ?_; rcases cond_some hh0 with ⟨h_1, hh0⟩ | ⟨h_1, hh0⟩; rotate_left
  · refine PC.cond_true rfl (not_f h_1) ?_; refine PC.seq ?_; refine PC.region ?_; refine PL.op rfl (Rd.asnT rfl) ?_; refine PL.nil ?_; refine thA_n ?_; refine PC.ret ?_; refine thA_r ?_; obtain rfl := some_in hh0; exact FinA.mk (r := bA false) (bl := []) [] (.inl rfl) rfl (rl := [.tmp 4]) (.tmp .nil) rfl rfl rfl (.t _) trivial ⟨rfl, rfl⟩
  refine PC.cond_false rfl (not_t h_1) ?_; refine PC.skip ?_; refine thA_n ?_; (iterate 2 refine PC.seq ?_); refine PC.region ?_; refine PL.op rfl (Rd.fieldO rfl rfl) ?_; refine PL.op rfl (Rd.loadO rfl rfl rfl) ?_; refine PL.op rfl (Rd.fieldO rfl rfl) ?_; refine PL.op rfl (Rd.loadO rfl rfl rfl) ?_; refine PL.op rfl (Rd.neq rfl rfl) ?_; refine PL.nil ?_; refine thA_n ?_; rcases cond_some hh0 with ⟨h_2, hh0⟩ | ⟨h_2, hh0⟩; rotate_left
  · refine PC.cond_true rfl (not_f h_2) ?_; refine PC.seq ?_; refine PC.region ?_; refine PL.op rfl (Rd.asnT rfl) ?_; refine PL.nil ?_; refine thA_n ?_; refine PC.ret ?_; refine thA_r ?_; obtain rfl := some_in hh0; exact FinA.mk (r := bA false) (bl := []) [] (.inl rfl) rfl (rl := [.tmp 4]) (.tmp .nil) rfl rfl rfl (.t _) trivial ⟨rfl, rfl⟩
  refine PC.cond_false rfl (not_t h_2) ?_; refine PC.skip ?_; refine thA_n ?_; (iterate 2 refine PC.seq ?_); obtain ⟨r3, h_4, hh0⟩ := bind_some hh0; refine PC.region ?_; refine PL.op rfl (Rd.fieldO rfl rfl) ?_; refine PL.op rfl (Rd.loadSub rfl rfl rfl rfl) ?_; refine PL.op rfl (Rd.fieldO rfl rfl) ?_; refine PL.op rfl (Rd.loadSub rfl rfl rfl rfl) ?_; refine PL.callM false [] (w_L_eqColumn N p_a.column p_b.column r3 h_4) rfl Tryz.call56 rfl ⟨.aggL ⟨.t _, .t _, .t _, .t _, trivial⟩, .aggL ⟨.t _, .t _, .t _, .t _, trivial⟩, trivial⟩ rfl trivial (fun h => by cases h) ?_; refine PL.op rfl (Rd.unnot rfl) ?_; refine PL.nil ?_; refine thA_n ?_; rcases cond_some hh0 with ⟨h_5, hh0⟩ | ⟨h_5, hh0⟩; rotate_left
  · refine PC.cond_true rfl (not_f h_5) ?_; refine PC.seq ?_; refine PC.region ?_; refine PL.op rfl (Rd.asnT rfl) ?_; refine PL.nil ?_; refine thA_n ?_; refine PC.ret ?_; refine thA_r ?_; obtain rfl := some_in hh0; exact FinA.mk (r := bA false) (bl := []) [] (.inl rfl) rfl (rl := [.tmp 4]) (.tmp .nil) rfl rfl rfl (.t _) trivial ⟨rfl, rfl⟩
  refine PC.cond_false rfl (not_t h_5) ?_; refine PC.skip ?_; refine thA_n ?_; refine PC.seq ?_; refine PC.region ?_; refine PL.op rfl (Rd.asnT rfl) ?_; refine PL.nil ?_; refine thA_n ?_; refine PC.ret ?_; obtain rfl := some_in hh0; exact FinA.mk (r := bA true) (bl := []) [] (.inl rfl) rfl (rl := [.tmp 4]) (.tmp .nil) rfl rfl rfl (.t _) trivial ⟨rfl, rfl⟩
def m_L_eqChangeS_k1 (N : Nat) : Option (Bool) :=
  some true
def m_L_eqChangeS_b1 (N : Nat) (p_a : (List I_Change)) (p_b : (List I_Change)) (i2 : Int) : Option (Int ⊕ (Unit ⊕ Bool)) :=
  cond (decide (i2 < (p_a.length : Int)))
    ((ixI p_a i2).bind fun x19 =>
    (ixI p_b i2).bind fun x21 =>
    (m_L_eqChange N x19 x21).bind fun r23 =>
    cond r23
      ((chk (i2 + (1 : Int))).bind fun n26 =>
      some (.inl n26))
      (some (.inr (.inr false))))
    (some (.inr (.inl ())))
def m_L_eqChangeS (N : Nat) (p_a : (List I_Change)) (p_b : (List I_Change)) : Option (Bool) :=
  cond (decide ((p_a.length : Int) = (p_b.length : Int)))
    ((loopM (β := Unit ⊕ Bool) (fun s : Int => m_L_eqChangeS_b1 N p_a p_b s) N (0 : Int)).bind fun o => match o with
    | .inl e =>
      m_L_eqChangeS_k1 N 
    | .inr v =>
      some v)
    (some false)
theorem w_L_eqChangeS (N : Nat) (p_a : (List I_Change)) (p_b : (List I_Change)) (r : Bool) (hh0 : m_L_eqChangeS N p_a p_b = some r) : FnX Tryz.prog 29 [] [sL p_a, sL p_b] (RE (bA r) []) := by
  unfold m_L_eqChangeS at hh0; refine FnX.mk Tryz.func29 rfl rfl ?_; intro s hs; refine PC.seq ?_; refine PC.region ?_; refine PL.op rfl (Rd.asnT rfl) ?_; refine PL.nil ?_; refine thA_n ?_; (iterate 2 refine PC.seq ?_); refine PC.region ?_; refine PL.op rfl (Rd.moveT rfl) ?_; refine PL.op rfl (Rd.lenT rfl) ?_; refine PL.op rfl (Rd.moveT rfl) ?_; refine PL.op rfl (Rd.lenT rfl) ?_; refine PL.op rfl (Rd.neq rfl rfl) ?_; refine PL.nil ?_; refine thA_n ?_; rcases cond_some hh0 with ⟨h_1, hh0⟩ | ⟨h_1, hh0⟩; rotate_left
  · refine PC.cond_true rfl (not_f h_1) ?_; refine PC.seq ?_; refine PC.region ?_; refine PL.op rfl (Rd.asnT rfl) ?_; refine PL.nil ?_; refine thA_n ?_; refine PC.ret ?_; refine thA_r ?_; obtain rfl := some_in hh0; exact FinA.mk (r := bA false) (bl := []) [] (.inl rfl) rfl (rl := [.tmp 4]) (.tmp .nil) rfl rfl rfl (.t _) trivial ⟨rfl, rfl⟩
  refine PC.cond_false rfl (not_t h_1) ?_; refine PC.skip ?_; refine thA_n ?_; (iterate 2 refine PC.seq ?_); refine PC.region ?_; refine PL.op rfl (Rd.asnT rfl) ?_; refine PL.nil ?_; refine thA_n ?_; obtain ⟨o13, h_14, hh0⟩ := bind_some hh0; refine PC.cutE hs (fun x : Unit => []) (fun x => []) (fun x => m_L_eqChangeS_k1 N  = some r) ?_ ?_
  · refine PC.block ?_; refine PC.loop hs (fun x : Nat × (Int) => [(0, sL p_a), (1, sL p_b), (5, iA x.2)]) (fun x => []) (fun x => loopM (β := Unit ⊕ Bool) (fun s : Int => m_L_eqChangeS_b1 N p_a p_b s) x.1 x.2 = some o13) (fun x => x.1) (N, (0 : Int)) [] ⟨rfl, rfl, trivial, ⟨.t _, .t _, .t _, trivial⟩⟩ h_14 ?_
    rintro ⟨f15_, i2⟩ h_17
    obtain ⟨f15, y16, rfl, hh1, kk1⟩ := loopM_some h_17
    replace hh1 : m_L_eqChangeS_b1 N p_a p_b i2 = some y16 := hh1
    unfold m_L_eqChangeS_b1 at hh1; (iterate 2 refine PC.seq ?_); refine PC.region ?_; (iterate 2 refine PL.op rfl (Rd.moveT rfl) ?_); refine PL.op rfl (Rd.lenT rfl) ?_; refine PL.op rfl (Rd.lss rfl rfl) ?_; refine PL.nil ?_; refine thA_n ?_; rcases cond_some hh1 with ⟨h_18, hh1⟩ | ⟨h_18, hh1⟩; rotate_left
    · refine PC.cond_false rfl h_18 ?_; refine PC.exit ?_; (iterate 2 refine thA_e ?_); refine inA_eq rfl ?_; refine thA_n ?_; obtain rfl := some_in hh1; obtain rfl : (.inl () : Unit ⊕ Bool) = o13 := kk1; exact ⟨(), hh0, [], ⟨rfl, rfl, trivial, trivial⟩⟩
    refine PC.cond_true rfl h_18 ?_; refine PC.skip ?_; refine thA_n ?_; refine PC.seq ?_; refine PC.block ?_; refine PC.seq ?_; obtain ⟨x19, h_20, hh1⟩ := bind_some hh1; obtain ⟨x21, h_22, hh1⟩ := bind_some hh1; obtain ⟨r23, h_24, hh1⟩ := bind_some hh1; refine PC.any (id := 6) 10 (.seg [0, 1, 2, 3, 4, 5, 6, 7, 8, 9] .done) [] rfl (by kernel_rfl) rfl ?_; refine PT.seg ?_; (iterate 2 refine PR.op rfl (Rd.moveT rfl) ?_); refine PR.op rfl (Rd.ixM rfl rfl h_20) ?_; refine PR.op rfl (Rd.elMR rfl h_20 rfl rfl) ?_; (iterate 2 refine PR.op rfl (Rd.moveT rfl) ?_); refine PR.op rfl (Rd.ixM rfl rfl h_22) ?_; refine PR.op rfl (Rd.elMR rfl h_22 rfl rfl) ?_; refine PR.callM false [] (w_L_eqChange N x19 x21 r23 h_24) rfl Tryz.call57 rfl ⟨.aggL ⟨.t _, .t _, .t _, .t _, .t _, .t _, trivial⟩, .aggL ⟨.t _, .t _, .t _, .t _, .t _, .t _, trivial⟩, trivial⟩ rfl trivial (fun h => by cases h) rfl ?_; refine PR.op rfl (Rd.unnot rfl) ?_; refine PR.nil ?_; refine PT.done ?_; refine PL.nil ?_; refine thA_n ?_; rcases cond_some hh1 with ⟨h_25, hh1⟩ | ⟨h_25, hh1⟩
    · refine PC.cond_false rfl (not_t h_25) ?_; refine PC.skip ?_; refine inA_n ?_; refine thA_n ?_; obtain ⟨n26, h_27, hh1⟩ := bind_some hh1; refine PC.region ?_; refine PL.op rfl (Rd.moveT rfl) ?_; refine PL.op rfl (Rd.addM rfl rfl h_27) ?_; refine PL.op rfl (Rd.asnT rfl) ?_; refine PL.nil ?_; obtain rfl := some_in hh1; refine thA_n ?_; exact ⟨(f15, n26), Nat.lt_succ_self _, kk1, [], ⟨rfl, rfl, trivial, ⟨.t _, .t _, .t _, trivial⟩⟩⟩
    refine PC.cond_true rfl (not_f h_25) ?_; refine PC.seq ?_; refine PC.region ?_; refine PL.op rfl (Rd.asnT rfl) ?_; refine PL.nil ?_; refine thA_n ?_; refine PC.ret ?_; refine inA_r ?_; (iterate 2 refine thA_r ?_); refine inA_r ?_; refine thA_r ?_; obtain rfl := some_in hh1; obtain rfl : (.inr false : Unit ⊕ Bool) = o13 := kk1; refine thA_r ?_; obtain rfl := some_in hh0; exact FinA.mk (r := bA false) (bl := []) [] (.inl rfl) rfl (rl := [.tmp 4]) (.tmp .nil) rfl rfl rfl (.t _) trivial ⟨rfl, rfl⟩
  clear hh0
  rintro ⟨⟩ hh0
  replace hh0 : m_L_eqChangeS_k1 N  = some r := hh0
  unfold m_L_eqChangeS_k1 at hh0; refine thA_n ?_; refine PC.seq ?_; refine PC.region ?_; refine PL.op rfl (Rd.asnT rfl) ?_; refine PL.nil ?_; refine thA_n ?_; refine PC.ret ?_; obtain rfl := some_in hh0; exact FinA.mk (r := bA true) (bl := []) [] (.inl rfl) rfl (rl := [.tmp 4]) (.tmp .nil) rfl rfl rfl (.t _) trivial ⟨rfl, rfl⟩
def m_L_eqValueS_k1 (N : Nat) : Option (Bool) :=
  some true
def m_L_eqValueS_b1 (N : Nat) (p_a : (List I_Value)) (p_b : (List I_Value)) (i2 : Int) : Option (Int ⊕ (Unit ⊕ Bool)) :=
  cond (decide (i2 < (p_a.length : Int)))
    ((ixI p_a i2).bind fun x19 =>
    (ixI p_b i2).bind fun x21 =>
    (m_L_eqValue N x19 x21).bind fun r23 =>
    cond r23
      ((chk (i2 + (1 : Int))).bind fun n26 =>
      some (.inl n26))
      (some (.inr (.inr false))))
    (some (.inr (.inl ())))
def m_L_eqValueS (N : Nat) (p_a : (List I_Value)) (p_b : (List I_Value)) : Option (Bool) :=
  cond (decide ((p_a.length : Int) = (p_b.length : Int)))
    ((loopM (β := Unit ⊕ Bool) (fun s : Int => m_L_eqValueS_b1 N p_a p_b s) N (0 : Int)).bind fun o => match o with
    | .inl e =>
      m_L_eqValueS_k1 N 
    | .inr v =>
      some v)
    (some false)
theorem w_L_eqValueS (N : Nat) (p_a : (List I_Value)) (p_b : (List I_Value)) (r : Bool) (hh0 : m_L_eqValueS N p_a p_b = some r) : FnX Tryz.prog 27 [] [sL p_a, sL p_b] (RE (bA r) []) := by
  unfold m_L_eqValueS at hh0; refine FnX.mk Tryz.func27 rfl rfl ?_; intro s hs; refine PC.seq ?_; refine PC.region ?_; refine PL.op rfl (Rd.asnT rfl) ?_; refine PL.nil ?_; refine thA_n ?_; (iterate 2 refine PC.seq ?_); refine PC.region ?_; refine PL.op rfl (Rd.moveT rfl) ?_; refine PL.op rfl (Rd.lenT rfl) ?_; refine PL.op rfl (Rd.moveT rfl) ?_; refine PL.op rfl (Rd.lenT rfl) ?_; refine PL.op rfl (Rd.neq rfl rfl) ?_; refine PL.nil ?_; refine thA_n ?_; rcases cond_some hh0 with ⟨h_1, hh0⟩ | ⟨h_1, hh0⟩; rotate_left
  · refine PC.cond_true rfl (not_f h_1) ?_; refine PC.seq ?_; refine PC.region ?_; refine PL.op rfl (Rd.asnT rfl) ?_; refine PL.nil ?_; refine thA_n ?_; refine PC.ret ?_; refine thA_r ?_; obtain rfl := some_in hh0; exact FinA.mk (r := bA false) (bl := []) [] (.inl rfl) rfl (rl := [.tmp 4]) (.tmp .nil) rfl rfl rfl (.t _) trivial ⟨rfl, rfl⟩
  refine PC.cond_false rfl (not_t h_1) ?_; refine PC.skip ?_; refine thA_n ?_; (iterate 2 refine PC.seq ?_); refine PC.region ?_; refine PL.op rfl (Rd.asnT rfl) ?_; refine PL.nil ?_; refine thA_n ?_; obtain ⟨o13, h_14, hh0⟩ := bind_some hh0; refine PC.cutE hs (fun x : Unit => []) (fun x => []) (fun x => m_L_eqValueS_k1 N  = some r) ?_ ?_
  · refine PC.block ?_; refine PC.loop hs (fun x : Nat × (Int) => [(0, sL p_a), (1, sL p_b), (5, iA x.2)]) (fun x => []) (fun x => loopM (β := Unit ⊕ Bool) (fun s : Int => m_L_eqValueS_b1 N p_a p_b s) x.1 x.2 = some o13) (fun x => x.1) (N, (0 : Int)) [] ⟨rfl, rfl, trivial, ⟨.t _, .t _, .t _, trivial⟩⟩ h_14 ?_
    rintro ⟨f15_, i2⟩ h_17
    obtain ⟨f15, y16, rfl, hh1, kk1⟩ := loopM_some h_17
    replace hh1 : m_L_eqValueS_b1 N p_a p_b i2 = some y16 := hh1
    unfold m_L_eqValueS_b1 at hh1; (iterate 2 refine PC.seq ?_); refine PC.region ?_; (iterate 2 refine PL.op rfl (Rd.moveT rfl) ?_); refine PL.op rfl (Rd.lenT rfl) ?_; refine PL.op rfl (Rd.lss rfl rfl) ?_; refine PL.nil ?_; refine thA_n ?_; rcases cond_some hh1 with ⟨h_18, hh1⟩ | ⟨h_18, hh1⟩; rotate_left
    · refine PC.cond_false rfl h_18 ?_; refine PC.exit ?_; (iterate 2 refine thA_e ?_); refine inA_eq rfl ?_; refine thA_n ?_; obtain rfl := some_in hh1; obtain rfl : (.inl () : Unit ⊕ Bool) = o13 := kk1; exact ⟨(), hh0, [], ⟨rfl, rfl, trivial, trivial⟩⟩
    refine PC.cond_true rfl h_18 ?_; refine PC.skip ?_; refine thA_n ?_; refine PC.seq ?_; refine PC.block ?_; refine PC.seq ?_; obtain ⟨x19, h_20, hh1⟩ := bind_some hh1; obtain ⟨x21, h_22, hh1⟩ := bind_some hh1; obtain ⟨r23, h_24, hh1⟩ := bind_some hh1; refine PC.any (id := 6) 10 (.seg [0, 1, 2, 3, 4, 5, 6, 7, 8, 9] .done) [] rfl (by kernel_rfl) rfl ?_; refine PT.seg ?_; (iterate 2 refine PR.op rfl (Rd.moveT rfl) ?_); refine PR.op rfl (Rd.ixM rfl rfl h_20) ?_; refine PR.op rfl (Rd.elMR rfl h_20 rfl rfl) ?_; (iterate 2 refine PR.op rfl (Rd.moveT rfl) ?_); refine PR.op rfl (Rd.ixM rfl rfl h_22) ?_; refine PR.op rfl (Rd.elMR rfl h_22 rfl rfl) ?_; refine PR.callM false [] (w_L_eqValue N x19 x21 r23 h_24) rfl Tryz.call55 rfl ⟨.aggL ⟨.t _, .t _, .t _, trivial⟩, .aggL ⟨.t _, .t _, .t _, trivial⟩, trivial⟩ rfl trivial (fun h => by cases h) rfl ?_; refine PR.op rfl (Rd.unnot rfl) ?_; refine PR.nil ?_; refine PT.done ?_; refine PL.nil ?_; refine thA_n ?_; rcases cond_some hh1 with ⟨h_25, hh1⟩ | ⟨h_25, hh1⟩
    · refine PC.cond_false rfl (not_t h_25) ?_; refine PC.skip ?_; refine inA_n ?_; refine thA_n ?_; obtain ⟨n26, h_27, hh1⟩ := bind_some hh1; refine PC.region ?_; refine PL.op rfl (Rd.moveT rfl) ?_; refine PL.op rfl (Rd.addM rfl rfl h_27) ?_; refine PL.op rfl (Rd.asnT rfl) ?_; refine PL.nil ?_; obtain rfl := some_in hh1; refine thA_n ?_; exact ⟨(f15, n26), Nat.lt_succ_self _, kk1, [], ⟨rfl, rfl, trivial, ⟨.t _, .t _, .t _, trivial⟩⟩⟩
    refine PC.cond_true rfl (not_f h_25) ?_; refine PC.seq ?_; refine PC.region ?_; refine PL.op rfl (Rd.asnT rfl) ?_; refine PL.nil ?_; refine thA_n ?_; refine PC.ret ?_; refine inA_r ?_; (iterate 2 refine thA_r ?_); refine inA_r ?_; refine thA_r ?_; obtain rfl := some_in hh1; obtain rfl : (.inr false : Unit ⊕ Bool) = o13 := kk1; refine thA_r ?_; obtain rfl := some_in hh0; exact FinA.mk (r := bA false) (bl := []) [] (.inl rfl) rfl (rl := [.tmp 4]) (.tmp .nil) rfl rfl rfl (.t _) trivial ⟨rfl, rfl⟩
  clear hh0
  rintro ⟨⟩ hh0
  replace hh0 : m_L_eqValueS_k1 N  = some r := hh0
  unfold m_L_eqValueS_k1 at hh0; refine thA_n ?_; refine PC.seq ?_; refine PC.region ?_; refine PL.op rfl (Rd.asnT rfl) ?_; refine PL.nil ?_; refine thA_n ?_; refine PC.ret ?_; obtain rfl := some_in hh0; exact FinA.mk (r := bA true) (bl := []) [] (.inl rfl) rfl (rl := [.tmp 4]) (.tmp .nil) rfl rfl rfl (.t _) trivial ⟨rfl, rfl⟩
def m_L_eqTagged (N : Nat) (p_a : I_Tagged) (p_b : I_Tagged) : Option (Bool) :=
  cond (decide (p_a.tag = p_b.tag))
    ((m_L_eqValueS N p_a.row p_b.row).bind fun r2 =>
    cond r2
      (some true)
      (some false))
    (some false)
theorem w_L_eqTagged (N : Nat) (p_a : I_Tagged) (p_b : I_Tagged) (r : Bool) (hh0 : m_L_eqTagged N p_a p_b = some r) : FnX Tryz.prog 58 [] [.agg [iA p_a.tag, sL p_a.row], .agg [iA p_b.tag, sL p_b.row]] (RE (bA r) []) := by
  unfold m_L_eqTagged at hh0; refine FnX.mk Tryz.func58 rfl rfl ?_; intro s hs; refine PC.seq ?_; refine PC.region ?_; refine PL.ef rfl (Ef.box rfl rfl rfl) ?_; refine PL.nm (.op 0 0) [some ⟨.mx [iA p_a.tag, sL p_a.row], 52, 0⟩] rfl rfl ?_; refine PL.ef rfl (Ef.box rfl rfl rfl) ?_; refine PL.nm (.op 1 0) [some ⟨.mx [iA p_a.tag, sL p_a.row], 52, 0⟩, some ⟨.mx [iA p_b.tag, sL p_b.row], 52, 0⟩] rfl rfl ?_; refine PL.op rfl (Rd.asnT rfl) ?_; refine PL.nil ?_; refine thA_n ?_; (iterate 2 refine PC.seq ?_); refine PC.region ?_; refine PL.op rfl (Rd.fieldO rfl rfl) ?_; refine PL.op rfl (Rd.loadO rfl rfl rfl) ?_; refine PL.op rfl (Rd.fieldO rfl rfl) ?_; refine PL.op rfl (Rd.loadO rfl rfl rfl) ?_; refine PL.op rfl (Rd.neq rfl rfl) ?_; refine PL.nil ?_; refine thA_n ?_; rcases cond_some hh0 with ⟨h_1, hh0⟩ | ⟨h_1, hh0⟩; rotate_left
  · refine PC.cond_true rfl (not_f h_1) ?_; refine PC.seq ?_; refine PC.region ?_; refine PL.op rfl (Rd.asnT rfl) ?_; refine PL.nil ?_; refine thA_n ?_; refine PC.ret ?_; refine thA_r ?_; obtain rfl := some_in hh0; exact FinA.mk (r := bA false) (bl := []) [] (.inl rfl) rfl (rl := [.tmp 4]) (.tmp .nil) rfl rfl rfl (.t _) trivial ⟨rfl, rfl⟩
  refine PC.cond_false rfl (not_t h_1) ?_; refine PC.skip ?_; refine thA_n ?_; (iterate 2 refine PC.seq ?_); obtain ⟨r2, h_3, hh0⟩ := bind_some hh0; refine PC.region ?_; refine PL.op rfl (Rd.fieldO rfl rfl) ?_; refine PL.op rfl (Rd.loadO rfl rfl rfl) ?_; refine PL.op rfl (Rd.fieldO rfl rfl) ?_; refine PL.op rfl (Rd.loadO rfl rfl rfl) ?_; refine PL.callM false [] (w_L_eqValueS N p_a.row p_b.row r2 h_3) rfl Tryz.call27 rfl ⟨.t _, .t _, trivial⟩ rfl trivial (fun h => by cases h) ?_; refine PL.op rfl (Rd.unnot rfl) ?_; refine PL.nil ?_; refine thA_n ?_; rcases cond_some hh0 with ⟨h_4, hh0⟩ | ⟨h_4, hh0⟩; rotate_left
  · refine PC.cond_true rfl (not_f h_4) ?_; refine PC.seq ?_; refine PC.region ?_; refine PL.op rfl (Rd.asnT rfl) ?_; refine PL.nil ?_; refine thA_n ?_; refine PC.ret ?_; refine thA_r ?_; obtain rfl := some_in hh0; exact FinA.mk (r := bA false) (bl := []) [] (.inl rfl) rfl (rl := [.tmp 4]) (.tmp .nil) rfl rfl rfl (.t _) trivial ⟨rfl, rfl⟩
  refine PC.cond_false rfl (not_t h_4) ?_; refine PC.skip ?_; refine thA_n ?_; refine PC.seq ?_; refine PC.region ?_; refine PL.op rfl (Rd.asnT rfl) ?_; refine PL.nil ?_; refine thA_n ?_; refine PC.ret ?_; obtain rfl := some_in hh0; exact FinA.mk (r := bA true) (bl := []) [] (.inl rfl) rfl (rl := [.tmp 4]) (.tmp .nil) rfl rfl rfl (.t _) trivial ⟨rfl, rfl⟩
def m_L_eqTaggedS_k1 (N : Nat) : Option (Bool) :=
  some true
def m_L_eqTaggedS_b1 (N : Nat) (p_a : (List I_Tagged)) (p_b : (List I_Tagged)) (i2 : Int) : Option (Int ⊕ (Unit ⊕ Bool)) :=
  cond (decide (i2 < (p_a.length : Int)))
    ((ixI p_a i2).bind fun x19 =>
    (ixI p_b i2).bind fun x21 =>
    (m_L_eqTagged N x19 x21).bind fun r23 =>
    cond r23
      ((chk (i2 + (1 : Int))).bind fun n26 =>
      some (.inl n26))
      (some (.inr (.inr false))))
    (some (.inr (.inl ())))
def m_L_eqTaggedS (N : Nat) (p_a : (List I_Tagged)) (p_b : (List I_Tagged)) : Option (Bool) :=
  cond (decide ((p_a.length : Int) = (p_b.length : Int)))
    ((loopM (β := Unit ⊕ Bool) (fun s : Int => m_L_eqTaggedS_b1 N p_a p_b s) N (0 : Int)).bind fun o => match o with
    | .inl e =>
      m_L_eqTaggedS_k1 N 
    | .inr v =>
      some v)
    (some false)
theorem w_L_eqTaggedS (N : Nat) (p_a : (List I_Tagged)) (p_b : (List I_Tagged)) (r : Bool) (hh0 : m_L_eqTaggedS N p_a p_b = some r) : FnX Tryz.prog 30 [] [sL p_a, sL p_b] (RE (bA r) []) := by
  unfold m_L_eqTaggedS at hh0; refine FnX.mk Tryz.func30 rfl rfl ?_; intro s hs; refine PC.seq ?_; refine PC.region ?_; refine PL.op rfl (Rd.asnT rfl) ?_; refine PL.nil ?_; refine thA_n ?_; (iterate 2 refine PC.seq ?_); refine PC.region ?_; refine PL.op rfl (Rd.moveT rfl) ?_; refine PL.op rfl (Rd.lenT rfl) ?_; refine PL.op rfl (Rd.moveT rfl) ?_; refine PL.op rfl (Rd.lenT rfl) ?_; refine PL.op rfl (Rd.neq rfl rfl) ?_; refine PL.nil ?_; refine thA_n ?_; rcases cond_some hh0 with ⟨h_1, hh0⟩ | ⟨h_1, hh0⟩; rotate_left
  · refine PC.cond_true rfl (not_f h_1) ?_; refine PC.seq ?_; refine PC.region ?_; refine PL.op rfl (Rd.asnT rfl) ?_; refine PL.nil ?_; refine thA_n ?_; refine PC.ret ?_; refine thA_r ?_; obtain rfl := some_in hh0; exact FinA.mk (r := bA false) (bl := []) [] (.inl rfl) rfl (rl := [.tmp 4]) (.tmp .nil) rfl rfl rfl (.t _) trivial ⟨rfl, rfl⟩
  refine PC.cond_false rfl (not_t h_1) ?_; refine PC.skip ?_; refine thA_n ?_; (iterate 2 refine PC.seq ?_); refine PC.region ?_; refine PL.op rfl (Rd.asnT rfl) ?_; refine PL.nil ?_; refine thA_n ?_; obtain ⟨o13, h_14, hh0⟩ := bind_some hh0; refine PC.cutE hs (fun x : Unit => []) (fun x => []) (fun x => m_L_eqTaggedS_k1 N  = some r) ?_ ?_
  · refine PC.block ?_; refine PC.loop hs (fun x : Nat × (Int) => [(0, sL p_a), (1, sL p_b), (5, iA x.2)]) (fun x => []) (fun x => loopM (β := Unit ⊕ Bool) (fun s : Int => m_L_eqTaggedS_b1 N p_a p_b s) x.1 x.2 = some o13) (fun x => x.1) (N, (0 : Int)) [] ⟨rfl, rfl, trivial, ⟨.t _, .t _, .t _, trivial⟩⟩ h_14 ?_
    rintro ⟨f15_, i2⟩ h_17
    obtain ⟨f15, y16, rfl, hh1, kk1⟩ := loopM_some h_17
    replace hh1 : m_L_eqTaggedS_b1 N p_a p_b i2 = some y16 := hh1
    unfold m_L_eqTaggedS_b1 at hh1; (iterate 2 refine PC.seq ?_); refine PC.region ?_; (iterate 2 refine PL.op rfl (Rd.moveT rfl) ?_); refine PL.op rfl (Rd.lenT rfl) ?_; refine PL.op rfl (Rd.lss rfl rfl) ?_; refine PL.nil ?_; refine thA_n ?_; rcases cond_some hh1 with ⟨h_18, hh1⟩ | ⟨h_18, hh1⟩; rotate_left
    · refine PC.cond_false rfl h_18 ?_; refine PC.exit ?_; (iterate 2 refine thA_e ?_); refine inA_eq rfl ?_; refine thA_n ?_; obtain rfl := some_in hh1; obtain rfl : (.inl () : Unit ⊕ Bool) = o13 := kk1; exact ⟨(), hh0, [], ⟨rfl, rfl, trivial, trivial⟩⟩
    refine PC.cond_true rfl h_18 ?_; refine PC.skip ?_; refine thA_n ?_; refine PC.seq ?_; refine PC.block ?_; refine PC.seq ?_; obtain ⟨x19, h_20, hh1⟩ := bind_some hh1; obtain ⟨x21, h_22, hh1⟩ := bind_some hh1; obtain ⟨r23, h_24, hh1⟩ := bind_some hh1; refine PC.any (id := 6) 10 (.seg [0, 1, 2, 3, 4, 5, 6, 7, 8, 9] .done) [] rfl (by kernel_rfl) rfl ?_; refine PT.seg ?_; (iterate 2 refine PR.op rfl (Rd.moveT rfl) ?_); refine PR.op rfl (Rd.ixM rfl rfl h_20) ?_; refine PR.op rfl (Rd.elMR rfl h_20 rfl rfl) ?_; (iterate 2 refine PR.op rfl (Rd.moveT rfl) ?_); refine PR.op rfl (Rd.ixM rfl rfl h_22) ?_; refine PR.op rfl (Rd.elMR rfl h_22 rfl rfl) ?_; refine PR.callM false [] (w_L_eqTagged N x19 x21 r23 h_24) rfl Tryz.call58 rfl ⟨.aggL ⟨.t _, .t _, trivial⟩, .aggL ⟨.t _, .t _, trivial⟩, trivial⟩ rfl trivial (fun h => by cases h) rfl ?_; refine PR.op rfl (Rd.unnot rfl) ?_; refine PR.nil ?_; refine PT.done ?_; refine PL.nil ?_; refine thA_n ?_; rcases cond_some hh1 with ⟨h_25, hh1⟩ | ⟨h_25, hh1⟩
    · refine PC.cond_false rfl (not_t h_25) ?_; refine PC.skip ?_; refine inA_n ?_; refine thA_n ?_; obtain ⟨n26, h_27, hh1⟩ := bind_some hh1; refine PC.region ?_; refine PL.op rfl (Rd.moveT rfl) ?_; refine PL.op rfl (Rd.addM rfl rfl h_27) ?_; refine PL.op rfl (Rd.asnT rfl) ?_; refine PL.nil ?_; obtain rfl := some_in hh1; refine thA_n ?_; exact ⟨(f15, n26), Nat.lt_succ_self _, kk1, [], ⟨rfl, rfl, trivial, ⟨.t _, .t _, .t _, trivial⟩⟩⟩
    refine PC.cond_true rfl (not_f h_25) ?_; refine PC.seq ?_; refine PC.region ?_; refine PL.op rfl (Rd.asnT rfl) ?_; refine PL.nil ?_; refine thA_n ?_; refine PC.ret ?_; refine inA_r ?_; (iterate 2 refine thA_r ?_); refine inA_r ?_; refine thA_r ?_; obtain rfl := some_in hh1; obtain rfl : (.inr false : Unit ⊕ Bool) = o13 := kk1; refine thA_r ?_; obtain rfl := some_in hh0; exact FinA.mk (r := bA false) (bl := []) [] (.inl rfl) rfl (rl := [.tmp 4]) (.tmp .nil) rfl rfl rfl (.t _) trivial ⟨rfl, rfl⟩
  clear hh0
  rintro ⟨⟩ hh0
  replace hh0 : m_L_eqTaggedS_k1 N  = some r := hh0
  unfold m_L_eqTaggedS_k1 at hh0; refine thA_n ?_; refine PC.seq ?_; refine PC.region ?_; refine PL.op rfl (Rd.asnT rfl) ?_; refine PL.nil ?_; refine thA_n ?_; refine PC.ret ?_; obtain rfl := some_in hh0; exact FinA.mk (r := bA true) (bl := []) [] (.inl rfl) rfl (rl := [.tmp 4]) (.tmp .nil) rfl rfl rfl (.t _) trivial ⟨rfl, rfl⟩
def m_L_eqTable (N : Nat) (p_a : I_Table) (p_b : I_Table) : Option (Bool) :=
  (m_L_eqColumnS N p_a.first p_b.first).bind fun r1 =>
  cond r1
    ((m_L_eqChangeS N p_a.changes p_b.changes).bind fun r4 =>
    cond r4
      ((m_L_eqTaggedS N p_a.rows p_b.rows).bind fun r7 =>
      cond r7
        (some true)
        (some false))
      (some false))
    (some false)
theorem w_L_eqTable (N : Nat) (p_a : I_Table) (p_b : I_Table) (r : Bool) (hh0 : m_L_eqTable N p_a p_b = some r) : FnX Tryz.prog 10 [] [.agg [sL p_a.first, sL p_a.changes, sL p_a.rows], .agg [sL p_b.first, sL p_b.changes, sL p_b.rows]] (RE (bA r) []) := by
  unfold m_L_eqTable at hh0; refine FnX.mk Tryz.func10 rfl rfl ?_; intro s hs; refine PC.seq ?_; refine PC.region ?_; refine PL.ef rfl (Ef.box rfl rfl rfl) ?_; refine PL.nm (.op 0 0) [some ⟨.mx [sL p_a.first, sL p_a.changes, sL p_a.rows], 34, 0⟩] rfl rfl ?_; refine PL.ef rfl (Ef.box rfl rfl rfl) ?_; refine PL.nm (.op 1 0) [some ⟨.mx [sL p_a.first, sL p_a.changes, sL p_a.rows], 34, 0⟩, some ⟨.mx [sL p_b.first, sL p_b.changes, sL p_b.rows], 34, 0⟩] rfl rfl ?_; refine PL.op rfl (Rd.asnT rfl) ?_; refine PL.nil ?_; refine thA_n ?_; (iterate 2 refine PC.seq ?_); obtain ⟨r1, h_2, hh0⟩ := bind_some hh0; refine PC.region ?_; refine PL.op rfl (Rd.fieldO rfl rfl) ?_; refine PL.op rfl (Rd.loadO rfl rfl rfl) ?_; refine PL.op rfl (Rd.fieldO rfl rfl) ?_; refine PL.op rfl (Rd.loadO rfl rfl rfl) ?_; refine PL.callM false [] (w_L_eqColumnS N p_a.first p_b.first r1 h_2) rfl Tryz.call28 rfl ⟨.t _, .t _, trivial⟩ rfl trivial (fun h => by cases h) ?_; refine PL.op rfl (Rd.unnot rfl) ?_; refine PL.nil ?_; refine thA_n ?_; rcases cond_some hh0 with ⟨h_3, hh0⟩ | ⟨h_3, hh0⟩; rotate_left
  · refine PC.cond_true rfl (not_f h_3) ?_; refine PC.seq ?_; refine PC.region ?_; refine PL.op rfl (Rd.asnT rfl) ?_; refine PL.nil ?_; refine thA_n ?_; refine PC.ret ?_; refine thA_r ?_; obtain rfl := some_in hh0; exact FinA.mk (r := bA false) (bl := []) [] (.inl rfl) rfl (rl := [.tmp 4]) (.tmp .nil) rfl rfl rfl (.t _) trivial ⟨rfl, rfl⟩
  refine PC.cond_false rfl (not_t h_3) ?_; refine PC.skip ?_; refine thA_n ?_; (iterate 2 refine PC.seq ?_); obtain ⟨r4, h_5, hh0⟩ := bind_some hh0; refine PC.region ?_; refine PL.op rfl (Rd.fieldO rfl rfl) ?_; refine PL.op rfl (Rd.loadO rfl rfl rfl) ?_; refine PL.op rfl (Rd.fieldO rfl rfl) ?_; refine PL.op rfl (Rd.loadO rfl rfl rfl) ?_; refine PL.callM false [] (w_L_eqChangeS N p_a.changes p_b.changes r4 h_5) rfl Tryz.call29 rfl ⟨.t _, .t _, trivial⟩ rfl trivial (fun h => by cases h) ?_; refine PL.op rfl (Rd.unnot rfl) ?_; refine PL.nil ?_; refine thA_n ?_; rcases cond_some hh0 with ⟨h_6, hh0⟩ | ⟨h_6, hh0⟩; rotate_left
  · refine PC.cond_true rfl (not_f h_6) ?_; refine PC.seq ?_; refine PC.region ?_; refine PL.op rfl (Rd.asnT rfl) ?_; refine PL.nil ?_; refine thA_n ?_; refine PC.ret ?_; refine thA_r ?_; obtain rfl := some_in hh0; exact FinA.mk (r := bA false) (bl := []) [] (.inl rfl) rfl (rl := [.tmp 4]) (.tmp .nil) rfl rfl rfl (.t _) trivial ⟨rfl, rfl⟩
  refine PC.cond_false rfl (not_t h_6) ?_; refine PC.skip ?_; refine thA_n ?_; (iterate 2 refine PC.seq ?_); obtain ⟨r7, h_8, hh0⟩ := bind_some hh0; refine PC.region ?_; refine PL.op rfl (Rd.fieldO rfl rfl) ?_; refine PL.op rfl (Rd.loadO rfl rfl rfl) ?_; refine PL.op rfl (Rd.fieldO rfl rfl) ?_; refine PL.op rfl (Rd.loadO rfl rfl rfl) ?_; refine PL.callM false [] (w_L_eqTaggedS N p_a.rows p_b.rows r7 h_8) rfl Tryz.call30 rfl ⟨.t _, .t _, trivial⟩ rfl trivial (fun h => by cases h) ?_; refine PL.op rfl (Rd.unnot rfl) ?_; refine PL.nil ?_; refine thA_n ?_; rcases cond_some hh0 with ⟨h_9, hh0⟩ | ⟨h_9, hh0⟩; rotate_left
  · refine PC.cond_true rfl (not_f h_9) ?_; refine PC.seq ?_; refine PC.region ?_; refine PL.op rfl (Rd.asnT rfl) ?_; refine PL.nil ?_; refine thA_n ?_; refine PC.ret ?_; refine thA_r ?_; obtain rfl := some_in hh0; exact FinA.mk (r := bA false) (bl := []) [] (.inl rfl) rfl (rl := [.tmp 4]) (.tmp .nil) rfl rfl rfl (.t _) trivial ⟨rfl, rfl⟩
  refine PC.cond_false rfl (not_t h_9) ?_; refine PC.skip ?_; refine thA_n ?_; refine PC.seq ?_; refine PC.region ?_; refine PL.op rfl (Rd.asnT rfl) ?_; refine PL.nil ?_; refine thA_n ?_; refine PC.ret ?_; obtain rfl := some_in hh0; exact FinA.mk (r := bA true) (bl := []) [] (.inl rfl) rfl (rl := [.tmp 4]) (.tmp .nil) rfl rfl rfl (.t _) trivial ⟨rfl, rfl⟩
def m_L_eqValueSS_k1 (N : Nat) : Option (Bool) :=
  some true
def m_L_eqValueSS_b1 (N : Nat) (p_a : (List (List I_Value))) (p_b : (List (List I_Value))) (i2 : Int) : Option (Int ⊕ (Unit ⊕ Bool)) :=
  cond (decide (i2 < (p_a.length : Int)))
    ((ixI p_a i2).bind fun x19 =>
    (ixI p_b i2).bind fun x21 =>
    (m_L_eqValueS N x19 x21).bind fun r23 =>
    cond r23
      ((chk (i2 + (1 : Int))).bind fun n26 =>
      some (.inl n26))
      (some (.inr (.inr false))))
    (some (.inr (.inl ())))
def m_L_eqValueSS (N : Nat) (p_a : (List (List I_Value))) (p_b : (List (List I_Value))) : Option (Bool) :=
  cond (decide ((p_a.length : Int) = (p_b.length : Int)))
    ((loopM (β := Unit ⊕ Bool) (fun s : Int => m_L_eqValueSS_b1 N p_a p_b s) N (0 : Int)).bind fun o => match o with
    | .inl e =>
      m_L_eqValueSS_k1 N 
    | .inr v =>
      some v)
    (some false)
theorem w_L_eqValueSS (N : Nat) (p_a : (List (List I_Value))) (p_b : (List (List I_Value))) (r : Bool) (hh0 : m_L_eqValueSS N p_a p_b = some r) : FnX Tryz.prog 9 [] [sL p_a, sL p_b] (RE (bA r) []) := by
  unfold m_L_eqValueSS at hh0; refine FnX.mk Tryz.func9 rfl rfl ?_; intro s hs; refine PC.seq ?_; refine PC.region ?_; refine PL.op rfl (Rd.asnT rfl) ?_; refine PL.nil ?_; refine thA_n ?_; (iterate 2 refine PC.seq ?_); refine PC.region ?_; refine PL.op rfl (Rd.moveT rfl) ?_; refine PL.op rfl (Rd.lenT rfl) ?_; refine PL.op rfl (Rd.moveT rfl) ?_; refine PL.op rfl (Rd.lenT rfl) ?_; refine PL.op rfl (Rd.neq rfl rfl) ?_; refine PL.nil ?_; refine thA_n ?_; rcases cond_some hh0 with ⟨h_1, hh0⟩ | ⟨h_1, hh0⟩; rotate_left
  · refine PC.cond_true rfl (not_f h_1) ?_; refine PC.seq ?_; refine PC.region ?_; refine PL.op rfl (Rd.asnT rfl) ?_; refine PL.nil ?_; refine thA_n ?_; refine PC.ret ?_; refine thA_r ?_; obtain rfl := some_in hh0; exact FinA.mk (r := bA false) (bl := []) [] (.inl rfl) rfl (rl := [.tmp 4]) (.tmp .nil) rfl rfl rfl (.t _) trivial ⟨rfl, rfl⟩
  refine PC.cond_false rfl (not_t h_1) ?_; refine PC.skip ?_; refine thA_n ?_; (iterate 2 refine PC.seq ?_); refine PC.region ?_; refine PL.op rfl (Rd.asnT rfl) ?_; refine PL.nil ?_; refine thA_n ?_; obtain ⟨o13, h_14, hh0⟩ := bind_some hh0; refine PC.cutE hs (fun x : Unit => []) (fun x => []) (fun x => m_L_eqValueSS_k1 N  = some r) ?_ ?_
  · refine PC.block ?_; refine PC.loop hs (fun x : Nat × (Int) => [(0, sL p_a), (1, sL p_b), (5, iA x.2)]) (fun x => []) (fun x => loopM (β := Unit ⊕ Bool) (fun s : Int => m_L_eqValueSS_b1 N p_a p_b s) x.1 x.2 = some o13) (fun x => x.1) (N, (0 : Int)) [] ⟨rfl, rfl, trivial, ⟨.t _, .t _, .t _, trivial⟩⟩ h_14 ?_
    rintro ⟨f15_, i2⟩ h_17
    obtain ⟨f15, y16, rfl, hh1, kk1⟩ := loopM_some h_17
    replace hh1 : m_L_eqValueSS_b1 N p_a p_b i2 = some y16 := hh1
    unfold m_L_eqValueSS_b1 at hh1; (iterate 2 refine PC.seq ?_); refine PC.region ?_; (iterate 2 refine PL.op rfl (Rd.moveT rfl) ?_); refine PL.op rfl (Rd.lenT rfl) ?_; refine PL.op rfl (Rd.lss rfl rfl) ?_; refine PL.nil ?_; refine thA_n ?_; rcases cond_some hh1 with ⟨h_18, hh1⟩ | ⟨h_18, hh1⟩; rotate_left
    · refine PC.cond_false rfl h_18 ?_; refine PC.exit ?_; (iterate 2 refine thA_e ?_); refine inA_eq rfl ?_; refine thA_n ?_; obtain rfl := some_in hh1; obtain rfl : (.inl () : Unit ⊕ Bool) = o13 := kk1; exact ⟨(), hh0, [], ⟨rfl, rfl, trivial, trivial⟩⟩
    refine PC.cond_true rfl h_18 ?_; refine PC.skip ?_; refine thA_n ?_; refine PC.seq ?_; refine PC.block ?_; refine PC.seq ?_; obtain ⟨x19, h_20, hh1⟩ := bind_some hh1; obtain ⟨x21, h_22, hh1⟩ := bind_some hh1; obtain ⟨r23, h_24, hh1⟩ := bind_some hh1; refine PC.any (id := 6) 10 (.seg [0, 1, 2, 3, 4, 5, 6, 7, 8, 9] .done) [] rfl (by kernel_rfl) rfl ?_; refine PT.seg ?_; (iterate 2 refine PR.op rfl (Rd.moveT rfl) ?_); refine PR.op rfl (Rd.ixM rfl rfl h_20) ?_; refine PR.op rfl (Rd.elM1 rfl h_20 rfl rfl) ?_; (iterate 2 refine PR.op rfl (Rd.moveT rfl) ?_); refine PR.op rfl (Rd.ixM rfl rfl h_22) ?_; refine PR.op rfl (Rd.elM1 rfl h_22 rfl rfl) ?_; refine PR.callM false [] (w_L_eqValueS N x19 x21 r23 h_24) rfl Tryz.call27 rfl ⟨.t _, .t _, trivial⟩ rfl trivial (fun h => by cases h) rfl ?_; refine PR.op rfl (Rd.unnot rfl) ?_; refine PR.nil ?_; refine PT.done ?_; refine PL.nil ?_; refine thA_n ?_; rcases cond_some hh1 with ⟨h_25, hh1⟩ | ⟨h_25, hh1⟩
    · refine PC.cond_false rfl (not_t h_25) ?_; refine PC.skip ?_; refine inA_n ?_; refine thA_n ?_; obtain ⟨n26, h_27, hh1⟩ := bind_some hh1; refine PC.region ?_; refine PL.op rfl (Rd.moveT rfl) ?_; refine PL.op rfl (Rd.addM rfl rfl h_27) ?_; refine PL.op rfl (Rd.asnT rfl) ?_; refine PL.nil ?_; obtain rfl := some_in hh1; refine thA_n ?_; exact ⟨(f15, n26), Nat.lt_succ_self _, kk1, [], ⟨rfl, rfl, trivial, ⟨.t _, .t _, .t _, trivial⟩⟩⟩
    refine PC.cond_true rfl (not_f h_25) ?_; refine PC.seq ?_; refine PC.region ?_; refine PL.op rfl (Rd.asnT rfl) ?_; refine PL.nil ?_; refine thA_n ?_; refine PC.ret ?_; refine inA_r ?_; (iterate 2 refine thA_r ?_); refine inA_r ?_; refine thA_r ?_; obtain rfl := some_in hh1; obtain rfl : (.inr false : Unit ⊕ Bool) = o13 := kk1; refine thA_r ?_; obtain rfl := some_in hh0; exact FinA.mk (r := bA false) (bl := []) [] (.inl rfl) rfl (rl := [.tmp 4]) (.tmp .nil) rfl rfl rfl (.t _) trivial ⟨rfl, rfl⟩
  clear hh0
  rintro ⟨⟩ hh0
  replace hh0 : m_L_eqValueSS_k1 N  = some r := hh0
  unfold m_L_eqValueSS_k1 at hh0; refine thA_n ?_; refine PC.seq ?_; refine PC.region ?_; refine PL.op rfl (Rd.asnT rfl) ?_; refine PL.nil ?_; refine thA_n ?_; refine PC.ret ?_; obtain rfl := some_in hh0; exact FinA.mk (r := bA true) (bl := []) [] (.inl rfl) rfl (rl := [.tmp 4]) (.tmp .nil) rfl rfl rfl (.t _) trivial ⟨rfl, rfl⟩
def m_L_markColumnS_k1 (N : Nat) (k19 : Int) (v20 : (List I_Column)) : Option (Int × (List I_Column)) :=
  some (k19, v20)
def m_L_markColumnS_b1 (N : Nat) (k1 : Int) (i2 : Int) (v3 : (List I_Column)) : Option ((Int × Int × (List I_Column)) ⊕ (Int × (List I_Column))) :=
  cond (decide (i2 < (v3.length : Int)))
    ((ixI v3 i2).bind fun x27 =>
    (chk (k1 + (1 : Int))).bind fun n29 =>
    (chk (n29 + (1 : Int))).bind fun n31 =>
    (chk (n31 + (1 : Int))).bind fun n33 =>
    (m_L_markText N n33).bind fun r35 =>
    (chk (n33 + (1 : Int))).bind fun n37 =>
    (chk (i2 + (1 : Int))).bind fun n39 =>
    some (.inl (n37, n39, ((((v3.set i2.toNat (I_Column.mk k1 x27.default)).set i2.toNat (I_Column.mk k1 (I_Value.mk n29 x27.default.num x27.default.text))).set i2.toNat (I_Column.mk k1 (I_Value.mk n29 n31 x27.default.text))).set i2.toNat (I_Column.mk k1 (I_Value.mk n29 n31 r35))))))
    (some (.inr (k1, v3)))
def m_L_markColumnS (N : Nat) (p_a : (List I_Column)) (p_k : Int) : Option (Int × (List I_Column)) :=
  (loopM (β := Int × (List I_Column)) (fun s : Int × Int × (List I_Column) => m_L_markColumnS_b1 N s.1 s.2.1 s.2.2) N (p_k, (0 : Int), p_a)).bind fun e =>
  m_L_markColumnS_k1 N e.1 e.2
theorem w_L_markColumnS (N : Nat) (p_a : (List I_Column)) (p_k : Int) (r : Int × (List I_Column)) (hh0 : m_L_markColumnS N p_a p_k = some r) : FnX Tryz.prog 31 [⟨.tr (eL p_a), 86, 4⟩] [.os 0 0 p_a.length, iA p_k] (RE (iA r.1) [⟨.tr (eL r.2), 86, 4⟩]) := by
  unfold m_L_markColumnS at hh0; refine FnX.mk Tryz.func31 rfl rfl ?_; intro s hs; refine PC.seq ?_; refine PC.region ?_; refine PL.op rfl (Rd.asnT rfl) ?_; refine PL.nil ?_; refine thA_n ?_; (iterate 2 refine PC.seq ?_); refine PC.region ?_; refine PL.op rfl (Rd.asnT rfl) ?_; refine PL.nil ?_; refine thA_n ?_; obtain ⟨o21, h_22, hh0⟩ := bind_some hh0; refine PC.cutE hs (fun x : Int × (List I_Column) => [(1, iA x.1)]) (fun x => [⟨.tr (eL x.2), 86, 4⟩]) (fun x => m_L_markColumnS_k1 N x.1 x.2 = some r) ?_ ?_
  · refine PC.block ?_; refine PC.loop hs (fun x : Nat × (Int × Int × (List I_Column)) => [(0, .os 0 0 x.2.2.2.length), (1, iA x.2.1), (5, iA x.2.2.1)]) (fun x => [⟨.tr (eL x.2.2.2), 86, 4⟩]) (fun x => loopM (β := Int × (List I_Column)) (fun s : Int × Int × (List I_Column) => m_L_markColumnS_b1 N s.1 s.2.1 s.2.2) x.1 x.2 = some o21) (fun x => x.1) (N, (p_k, (0 : Int), p_a)) [some 0] ⟨rfl, rfl, ⟨⟨_, rfl, rfl, rfl, .tr _⟩, trivial⟩, ⟨.os rfl, .t _, .t _, trivial⟩⟩ h_22 ?_
    rintro ⟨f23_, k1, i2, v3⟩ h_25
    obtain ⟨f23, y24, rfl, hh1, kk1⟩ := loopM_some h_25
    replace hh1 : m_L_markColumnS_b1 N k1 i2 v3 = some y24 := hh1
    unfold m_L_markColumnS_b1 at hh1; (iterate 2 refine PC.seq ?_); refine PC.region ?_; refine PL.op rfl (Rd.moveT rfl) ?_; refine PL.op rfl (Rd.moveO rfl) ?_; refine PL.op rfl (Rd.lenO rfl rfl) ?_; refine PL.op rfl (Rd.lss rfl rfl) ?_; refine PL.nil ?_; refine thA_n ?_; rcases cond_some hh1 with ⟨h_26, hh1⟩ | ⟨h_26, hh1⟩; rotate_left
    · refine PC.cond_false rfl h_26 ?_; refine PC.exit ?_; (iterate 2 refine thA_e ?_); refine inA_eq rfl ?_; refine thA_n ?_; obtain rfl := some_in hh1; obtain rfl : ((k1, v3) : Int × (List I_Column)) = o21 := kk1; exact ⟨(k1, v3), hh0, [some 0], ⟨rfl, rfl, ⟨⟨_, rfl, rfl, rfl, .tr _⟩, trivial⟩, ⟨.t _, trivial⟩⟩⟩
    refine PC.cond_true rfl h_26 ?_; refine PC.skip ?_; refine thA_n ?_; refine PC.seq ?_; refine PC.block ?_; refine PC.seq ?_; obtain ⟨x27, h_28, hh1⟩ := bind_some hh1; refine PC.region ?_; refine PL.op rfl (Rd.moveO rfl) ?_; (iterate 2 refine PL.op rfl (Rd.moveT rfl) ?_); refine PL.op rfl (Rd.ixOM rfl rfl rfl (ixI_lt h_28)) ?_; refine PL.op rfl (Rd.fieldO rfl rfl) ?_; refine PL.stFM (f := 0) (I_Column.mk k1 x27.default) rfl rfl rfl rfl h_28 rfl rfl ?_; refine PL.nO [some ⟨.tr (eL (v3.set i2.toNat (I_Column.mk k1 x27.default))), 86, 4⟩] rfl ?_; refine PL.nil ?_; refine thA_n ?_; refine PC.seq ?_; obtain ⟨n29, h_30, hh1⟩ := bind_some hh1; refine PC.region ?_; refine PL.op rfl (Rd.moveT rfl) ?_; refine PL.op rfl (Rd.addM rfl rfl h_30) ?_; refine PL.op rfl (Rd.asnT rfl) ?_; refine PL.nil ?_; refine thA_n ?_; refine PC.seq ?_; refine PC.region ?_; refine PL.op rfl (Rd.moveO rfl) ?_; (iterate 2 refine PL.op rfl (Rd.moveT rfl) ?_); refine PL.op rfl (Rd.ixOM rfl rfl rfl (by have hq := ixI_lt (ixI_set (y := (I_Column.mk k1 x27.default)) h_28); simp only [List.length_set] at hq ⊢; exact hq)) ?_; (iterate 2 refine PL.op rfl (Rd.fieldO rfl rfl) ?_); refine PL.stFM (f := 1) (I_Column.mk k1 (I_Value.mk n29 x27.default.num x27.default.text)) rfl rfl rfl rfl (ixI_set (y := (I_Column.mk k1 x27.default)) h_28) rfl rfl ?_; refine PL.nO [some ⟨.tr (eL ((v3.set i2.toNat (I_Column.mk k1 x27.default)).set i2.toNat (I_Column.mk k1 (I_Value.mk n29 x27.default.num x27.default.text)))), 86, 4⟩] rfl ?_; refine PL.nil ?_; refine thA_n ?_; refine PC.seq ?_; obtain ⟨n31, h_32, hh1⟩ := bind_some hh1; refine PC.region ?_; refine PL.op rfl (Rd.moveT rfl) ?_; refine PL.op rfl (Rd.addM rfl rfl h_32) ?_; refine PL.op rfl (Rd.asnT rfl) ?_; refine PL.nil ?_; refine thA_n ?_; refine PC.seq ?_; refine PC.region ?_; refine PL.op rfl (Rd.moveO rfl) ?_; (iterate 2 refine PL.op rfl (Rd.moveT rfl) ?_); refine PL.op rfl (Rd.ixOM rfl rfl rfl (by have hq := ixI_lt (ixI_set (y := (I_Column.mk k1 (I_Value.mk n29 x27.default.num x27.default.text))) (ixI_set (y := (I_Column.mk k1 x27.default)) h_28)); simp only [List.length_set] at hq ⊢; exact hq)) ?_; (iterate 2 refine PL.op rfl (Rd.fieldO rfl rfl) ?_); refine PL.stFM (f := 2) (I_Column.mk k1 (I_Value.mk n29 n31 x27.default.text)) rfl rfl rfl rfl (ixI_set (y := (I_Column.mk k1 (I_Value.mk n29 x27.default.num x27.default.text))) (ixI_set (y := (I_Column.mk k1 x27.default)) h_28)) rfl rfl ?_; refine PL.nO [some ⟨.tr (eL (((v3.set i2.toNat (I_Column.mk k1 x27.default)).set i2.toNat (I_Column.mk k1 (I_Value.mk n29 x27.default.num x27.default.text))).set i2.toNat (I_Column.mk k1 (I_Value.mk n29 n31 x27.default.text)))), 86, 4⟩] rfl ?_; refine PL.nil ?_; refine thA_n ?_; refine PC.seq ?_; obtain ⟨n33, h_34, hh1⟩ := bind_some hh1; refine PC.region ?_; refine PL.op rfl (Rd.moveT rfl) ?_; refine PL.op rfl (Rd.addM rfl rfl h_34) ?_; refine PL.op rfl (Rd.asnT rfl) ?_; refine PL.nil ?_; refine thA_n ?_; refine PC.seq ?_; obtain ⟨r35, h_36, hh1⟩ := bind_some hh1; refine PC.region ?_; refine PL.op rfl (Rd.moveO rfl) ?_; (iterate 2 refine PL.op rfl (Rd.moveT rfl) ?_); refine PL.callM false [] (w_L_markText N n33 r35 h_36) rfl Tryz.call59 rfl ⟨.t _, trivial⟩ rfl trivial (fun h => by cases h) ?_; refine PL.op rfl (Rd.ixOM rfl rfl rfl (by have hq := ixI_lt (ixI_set (y := (I_Column.mk k1 (I_Value.mk n29 n31 x27.default.text))) (ixI_set (y := (I_Column.mk k1 (I_Value.mk n29 x27.default.num x27.default.text))) (ixI_set (y := (I_Column.mk k1 x27.default)) h_28))); simp only [List.length_set] at hq ⊢; exact hq)) ?_; (iterate 2 refine PL.op rfl (Rd.fieldO rfl rfl) ?_); refine PL.stFM (f := 3) (I_Column.mk k1 (I_Value.mk n29 n31 r35)) rfl rfl rfl rfl (ixI_set (y := (I_Column.mk k1 (I_Value.mk n29 n31 x27.default.text))) (ixI_set (y := (I_Column.mk k1 (I_Value.mk n29 x27.default.num x27.default.text))) (ixI_set (y := (I_Column.mk k1 x27.default)) h_28))) rfl rfl ?_; refine PL.nO [some ⟨.tr (eL ((((v3.set i2.toNat (I_Column.mk k1 x27.default)).set i2.toNat (I_Column.mk k1 (I_Value.mk n29 x27.default.num x27.default.text))).set i2.toNat (I_Column.mk k1 (I_Value.mk n29 n31 x27.default.text))).set i2.toNat (I_Column.mk k1 (I_Value.mk n29 n31 r35)))), 86, 4⟩] rfl ?_; refine PL.nil ?_; refine thA_n ?_; obtain ⟨n37, h_38, hh1⟩ := bind_some hh1; refine PC.region ?_; refine PL.op rfl (Rd.moveT rfl) ?_; refine PL.op rfl (Rd.addM rfl rfl h_38) ?_; refine PL.op rfl (Rd.asnT rfl) ?_; refine PL.nil ?_; refine inA_n ?_; refine thA_n ?_; obtain ⟨n39, h_40, hh1⟩ := bind_some hh1; refine PC.region ?_; refine PL.op rfl (Rd.moveT rfl) ?_; refine PL.op rfl (Rd.addM rfl rfl h_40) ?_; refine PL.op rfl (Rd.asnT rfl) ?_; refine PL.nil ?_; obtain rfl := some_in hh1; refine thA_n ?_; exact ⟨(f23, (n37, n39, ((((v3.set i2.toNat (I_Column.mk k1 x27.default)).set i2.toNat (I_Column.mk k1 (I_Value.mk n29 x27.default.num x27.default.text))).set i2.toNat (I_Column.mk k1 (I_Value.mk n29 n31 x27.default.text))).set i2.toNat (I_Column.mk k1 (I_Value.mk n29 n31 r35))))), Nat.lt_succ_self _, kk1, [some 0], ⟨rfl, rfl, ⟨⟨_, rfl, rfl, rfl, .tr _⟩, trivial⟩, ⟨.osE rfl (by simp only [List.length_set]), .t _, .t _, trivial⟩⟩⟩
  clear hh0
  rintro ⟨k19, v20⟩ hh0
  replace hh0 : m_L_markColumnS_k1 N k19 v20 = some r := hh0
  unfold m_L_markColumnS_k1 at hh0; refine thA_n ?_; refine PC.seq ?_; refine PC.region ?_; refine PL.op rfl (Rd.moveT rfl) ?_; refine PL.op rfl (Rd.asnT rfl) ?_; refine PL.nil ?_; refine thA_n ?_; refine PC.ret ?_; obtain rfl := some_in hh0; exact FinA.mk (r := iA ((k19, v20).1)) (bl := [⟨.tr (eL ((k19, v20).2)), 86, 4⟩]) [some 0] (.inl rfl) rfl (rl := [.tmp 4]) (.tmp .nil) rfl rfl rfl (.t _) ⟨⟨_, rfl, rfl, rfl, .tr _⟩, trivial⟩ ⟨rfl, rfl⟩
theorem len_L_markColumnS (N : Nat) (a : (List I_Column)) (k : Int) (r : Int × (List I_Column)) (h : m_L_markColumnS N a k = some r) : r.2.length = a.length := by
  unfold m_L_markColumnS at h; obtain ⟨o, h1, h2⟩ := bind_some h; unfold m_L_markColumnS_k1 at h2; cases h2; refine al.loop (fun s => s.2.2.length = a.length) (fun b => b.2.length = a.length) ?_ N _ rfl _ h1
  rintro ⟨k, i, v⟩ hv
  show al (m_L_markColumnS_b1 N k i v) _
  unfold m_L_markColumnS_b1
  repeat' (first | exact al.some hv | (refine al.cond (fun _ => ?_) (fun _ => ?_)) | (refine al.bind (fun _ _ => ?_)) | (refine al.some ?_; simpa only [List.length_set] using hv))
def m_L_markChangeS_k1 (N : Nat) (k23 : Int) (v24 : (List I_Change)) : Option (Int × (List I_Change)) :=
  some (k23, v24)
def m_L_markChangeS_b1 (N : Nat) (k1 : Int) (i2 : Int) (v3 : (List I_Change)) : Option ((Int × Int × (List I_Change)) ⊕ (Int × (List I_Change))) :=
  cond (decide (i2 < (v3.length : Int)))
    ((ixI v3 i2).bind fun x31 =>
    (chk (k1 + (1 : Int))).bind fun n33 =>
    (chk (n33 + (1 : Int))).bind fun n35 =>
    (chk (n35 + (1 : Int))).bind fun n37 =>
    (chk (n37 + (1 : Int))).bind fun n39 =>
    (chk (n39 + (1 : Int))).bind fun n41 =>
    (m_L_markText N n41).bind fun r43 =>
    (chk (n41 + (1 : Int))).bind fun n45 =>
    (chk (i2 + (1 : Int))).bind fun n47 =>
    some (.inl (n45, n47, ((((((v3.set i2.toNat (I_Change.mk k1 x31.at_ x31.column)).set i2.toNat (I_Change.mk k1 n33 x31.column)).set i2.toNat (I_Change.mk k1 n33 (I_Column.mk n35 x31.column.default))).set i2.toNat (I_Change.mk k1 n33 (I_Column.mk n35 (I_Value.mk n37 x31.column.default.num x31.column.default.text)))).set i2.toNat (I_Change.mk k1 n33 (I_Column.mk n35 (I_Value.mk n37 n39 x31.column.default.text)))).set i2.toNat (I_Change.mk k1 n33 (I_Column.mk n35 (I_Value.mk n37 n39 r43)))))))
    (some (.inr (k1, v3)))
def m_L_markChangeS (N : Nat) (p_a : (List I_Change)) (p_k : Int) : Option (Int × (List I_Change)) :=
  (loopM (β := Int × (List I_Change)) (fun s : Int × Int × (List I_Change) => m_L_markChangeS_b1 N s.1 s.2.1 s.2.2) N (p_k, (0 : Int), p_a)).bind fun e =>
  m_L_markChangeS_k1 N e.1 e.2
theorem w_L_markChangeS (N : Nat) (p_a : (List I_Change)) (p_k : Int) (r : Int × (List I_Change)) (hh0 : m_L_markChangeS N p_a p_k = some r) : FnX Tryz.prog 32 [⟨.tr (eL p_a), 89, 6⟩] [.os 0 0 p_a.length, iA p_k] (RE (iA r.1) [⟨.tr (eL r.2), 89, 6⟩]) := by
  unfold m_L_markChangeS at hh0; refine FnX.mk Tryz.func32 rfl rfl ?_; intro s hs; refine PC.seq ?_; refine PC.region ?_; refine PL.op rfl (Rd.asnT rfl) ?_; refine PL.nil ?_; refine thA_n ?_; (iterate 2 refine PC.seq ?_); refine PC.region ?_; refine PL.op rfl (Rd.asnT rfl) ?_; refine PL.nil ?_; refine thA_n ?_; obtain ⟨o25, h_26, hh0⟩ := bind_some hh0; refine PC.cutE hs (fun x : Int × (List I_Change) => [(1, iA x.1)]) (fun x => [⟨.tr (eL x.2), 89, 6⟩]) (fun x => m_L_markChangeS_k1 N x.1 x.2 = some r) ?_ ?_
  · refine PC.block ?_; refine PC.loop hs (fun x : Nat × (Int × Int × (List I_Change)) => [(0, .os 0 0 x.2.2.2.length), (1, iA x.2.1), (5, iA x.2.2.1)]) (fun x => [⟨.tr (eL x.2.2.2), 89, 6⟩]) (fun x => loopM (β := Int × (List I_Change)) (fun s : Int × Int × (List I_Change) => m_L_markChangeS_b1 N s.1 s.2.1 s.2.2) x.1 x.2 = some o25) (fun x => x.1) (N, (p_k, (0 : Int), p_a)) [some 0] ⟨rfl, rfl, ⟨⟨_, rfl, rfl, rfl, .tr _⟩, trivial⟩, ⟨.os rfl, .t _, .t _, trivial⟩⟩ h_26 ?_
    rintro ⟨f27_, k1, i2, v3⟩ h_29
    obtain ⟨f27, y28, rfl, hh1, kk1⟩ := loopM_some h_29
    replace hh1 : m_L_markChangeS_b1 N k1 i2 v3 = some y28 := hh1
    unfold m_L_markChangeS_b1 at hh1; (iterate 2 refine PC.seq ?_); refine PC.region ?_; refine PL.op rfl (Rd.moveT rfl) ?_; refine PL.op rfl (Rd.moveO rfl) ?_; refine PL.op rfl (Rd.lenO rfl rfl) ?_; refine PL.op rfl (Rd.lss rfl rfl) ?_; refine PL.nil ?_; refine thA_n ?_; rcases cond_some hh1 with ⟨h_30, hh1⟩ | ⟨h_30, hh1⟩; rotate_left
    · refine PC.cond_false rfl h_30 ?_; refine PC.exit ?_; (iterate 2 refine thA_e ?_); refine inA_eq rfl ?_; refine thA_n ?_; obtain rfl := some_in hh1; obtain rfl : ((k1, v3) : Int × (List I_Change)) = o25 := kk1; exact ⟨(k1, v3), hh0, [some 0], ⟨rfl, rfl, ⟨⟨_, rfl, rfl, rfl, .tr _⟩, trivial⟩, ⟨.t _, trivial⟩⟩⟩
    refine PC.cond_true rfl h_30 ?_; refine PC.skip ?_; refine thA_n ?_; refine PC.seq ?_; refine PC.block ?_; refine PC.seq ?_; obtain ⟨x31, h_32, hh1⟩ := bind_some hh1; refine PC.region ?_; refine PL.op rfl (Rd.moveO rfl) ?_; (iterate 2 refine PL.op rfl (Rd.moveT rfl) ?_); refine PL.op rfl (Rd.ixOM rfl rfl rfl (ixI_lt h_32)) ?_; refine PL.op rfl (Rd.fieldO rfl rfl) ?_; refine PL.stFM (f := 0) (I_Change.mk k1 x31.at_ x31.column) rfl rfl rfl rfl h_32 rfl rfl ?_; refine PL.nO [some ⟨.tr (eL (v3.set i2.toNat (I_Change.mk k1 x31.at_ x31.column))), 89, 6⟩] rfl ?_; refine PL.nil ?_; refine thA_n ?_; refine PC.seq ?_; obtain ⟨n33, h_34, hh1⟩ := bind_some hh1; refine PC.region ?_; refine PL.op rfl (Rd.moveT rfl) ?_; refine PL.op rfl (Rd.addM rfl rfl h_34) ?_; refine PL.op rfl (Rd.asnT rfl) ?_; refine PL.nil ?_; refine thA_n ?_; refine PC.seq ?_; refine PC.region ?_; refine PL.op rfl (Rd.moveO rfl) ?_; (iterate 2 refine PL.op rfl (Rd.moveT rfl) ?_); refine PL.op rfl (Rd.ixOM rfl rfl rfl (by have hq := ixI_lt (ixI_set (y := (I_Change.mk k1 x31.at_ x31.column)) h_32); simp only [List.length_set] at hq ⊢; exact hq)) ?_; refine PL.op rfl (Rd.fieldO rfl rfl) ?_; refine PL.stFM (f := 1) (I_Change.mk k1 n33 x31.column) rfl rfl rfl rfl (ixI_set (y := (I_Change.mk k1 x31.at_ x31.column)) h_32) rfl rfl ?_; refine PL.nO [some ⟨.tr (eL ((v3.set i2.toNat (I_Change.mk k1 x31.at_ x31.column)).set i2.toNat (I_Change.mk k1 n33 x31.column))), 89, 6⟩] rfl ?_; refine PL.nil ?_; refine thA_n ?_; refine PC.seq ?_; obtain ⟨n35, h_36, hh1⟩ := bind_some hh1; refine PC.region ?_; refine PL.op rfl (Rd.moveT rfl) ?_; refine PL.op rfl (Rd.addM rfl rfl h_36) ?_; refine PL.op rfl (Rd.asnT rfl) ?_; refine PL.nil ?_; refine thA_n ?_; refine PC.seq ?_; refine PC.region ?_; refine PL.op rfl (Rd.moveO rfl) ?_; (iterate 2 refine PL.op rfl (Rd.moveT rfl) ?_); refine PL.op rfl (Rd.ixOM rfl rfl rfl (by have hq := ixI_lt (ixI_set (y := (I_Change.mk k1 n33 x31.column)) (ixI_set (y := (I_Change.mk k1 x31.at_ x31.column)) h_32)); simp only [List.length_set] at hq ⊢; exact hq)) ?_; (iterate 2 refine PL.op rfl (Rd.fieldO rfl rfl) ?_); refine PL.stFM (f := 2) (I_Change.mk k1 n33 (I_Column.mk n35 x31.column.default)) rfl rfl rfl rfl (ixI_set (y := (I_Change.mk k1 n33 x31.column)) (ixI_set (y := (I_Change.mk k1 x31.at_ x31.column)) h_32)) rfl rfl ?_; refine PL.nO [some ⟨.tr (eL (((v3.set i2.toNat (I_Change.mk k1 x31.at_ x31.column)).set i2.toNat (I_Change.mk k1 n33 x31.column)).set i2.toNat (I_Change.mk k1 n33 (I_Column.mk n35 x31.column.default)))), 89, 6⟩] rfl ?_; refine PL.nil ?_; refine thA_n ?_; refine PC.seq ?_; obtain ⟨n37, h_38, hh1⟩ := bind_some hh1; refine PC.region ?_; refine PL.op rfl (Rd.moveT rfl) ?_; refine PL.op rfl (Rd.addM rfl rfl h_38) ?_; refine PL.op rfl (Rd.asnT rfl) ?_; refine PL.nil ?_; refine thA_n ?_; refine PC.seq ?_; refine PC.region ?_; refine PL.op rfl (Rd.moveO rfl) ?_; (iterate 2 refine PL.op rfl (Rd.moveT rfl) ?_); refine PL.op rfl (Rd.ixOM rfl rfl rfl (by have hq := ixI_lt (ixI_set (y := (I_Change.mk k1 n33 (I_Column.mk n35 x31.column.default))) (ixI_set (y := (I_Change.mk k1 n33 x31.column)) (ixI_set (y := (I_Change.mk k1 x31.at_ x31.column)) h_32))); simp only [List.length_set] at hq ⊢; exact hq)) ?_; (iterate 3 refine PL.op rfl (Rd.fieldO rfl rfl) ?_); refine PL.stFM (f := 3) (I_Change.mk k1 n33 (I_Column.mk n35 (I_Value.mk n37 x31.column.default.num x31.column.default.text))) rfl rfl rfl rfl (ixI_set (y := (I_Change.mk k1 n33 (I_Column.mk n35 x31.column.default))) (ixI_set (y := (I_Change.mk k1 n33 x31.column)) (ixI_set (y := (I_Change.mk k1 x31.at_ x31.column)) h_32))) rfl rfl ?_; refine PL.nO [some ⟨.tr (eL ((((v3.set i2.toNat (I_Change.mk k1 x31.at_ x31.column)).set i2.toNat (I_Change.mk k1 n33 x31.column)).set i2.toNat (I_Change.mk k1 n33 (I_Column.mk n35 x31.column.default))).set i2.toNat (I_Change.mk k1 n33 (I_Column.mk n35 (I_Value.mk n37 x31.column.default.num x31.column.default.text))))), 89, 6⟩] rfl ?_; refine PL.nil ?_; refine thA_n ?_; refine PC.seq ?_; obtain ⟨n39, h_40, hh1⟩ := bind_some hh1; refine PC.region ?_; refine PL.op rfl (Rd.moveT rfl) ?_; refine PL.op rfl (Rd.addM rfl rfl h_40) ?_; refine PL.op rfl (Rd.asnT rfl) ?_; refine PL.nil ?_; refine thA_n ?_; refine PC.seq ?_; refine PC.region ?_; refine PL.op rfl (Rd.moveO rfl) ?_; (iterate 2 refine PL.op rfl (Rd.moveT rfl) ?_); refine PL.op rfl (Rd.ixOM rfl rfl rfl (by have hq := ixI_lt (ixI_set (y := (I_Change.mk k1 n33 (I_Column.mk n35 (I_Value.mk n37 x31.column.default.num x31.column.default.text)))) (ixI_set (y := (I_Change.mk k1 n33 (I_Column.mk n35 x31.column.default))) (ixI_set (y := (I_Change.mk k1 n33 x31.column)) (ixI_set (y := (I_Change.mk k1 x31.at_ x31.column)) h_32)))); simp only [List.length_set] at hq ⊢; exact hq)) ?_; (iterate 3 refine PL.op rfl (Rd.fieldO rfl rfl) ?_); refine PL.stFM (f := 4) (I_Change.mk k1 n33 (I_Column.mk n35 (I_Value.mk n37 n39 x31.column.default.text))) rfl rfl rfl rfl (ixI_set (y := (I_Change.mk k1 n33 (I_Column.mk n35 (I_Value.mk n37 x31.column.default.num x31.column.default.text)))) (ixI_set (y := (I_Change.mk k1 n33 (I_Column.mk n35 x31.column.default))) (ixI_set (y := (I_Change.mk k1 n33 x31.column)) (ixI_set (y := (I_Change.mk k1 x31.at_ x31.column)) h_32)))) rfl rfl ?_; refine PL.nO [some ⟨.tr (eL (((((v3.set i2.toNat (I_Change.mk k1 x31.at_ x31.column)).set i2.toNat (I_Change.mk k1 n33 x31.column)).set i2.toNat (I_Change.mk k1 n33 (I_Column.mk n35 x31.column.default))).set i2.toNat (I_Change.mk k1 n33 (I_Column.mk n35 (I_Value.mk n37 x31.column.default.num x31.column.default.text)))).set i2.toNat (I_Change.mk k1 n33 (I_Column.mk n35 (I_Value.mk n37 n39 x31.column.default.text))))), 89, 6⟩] rfl ?_; refine PL.nil ?_; refine thA_n ?_; refine PC.seq ?_; obtain ⟨n41, h_42, hh1⟩ := bind_some hh1; refine PC.region ?_; refine PL.op rfl (Rd.moveT rfl) ?_; refine PL.op rfl (Rd.addM rfl rfl h_42) ?_; refine PL.op rfl (Rd.asnT rfl) ?_; refine PL.nil ?_; refine thA_n ?_; refine PC.seq ?_; obtain ⟨r43, h_44, hh1⟩ := bind_some hh1; refine PC.region ?_; refine PL.op rfl (Rd.moveO rfl) ?_; (iterate 2 refine PL.op rfl (Rd.moveT rfl) ?_); refine PL.callM false [] (w_L_markText N n41 r43 h_44) rfl Tryz.call59 rfl ⟨.t _, trivial⟩ rfl trivial (fun h => by cases h) ?_; refine PL.op rfl (Rd.ixOM rfl rfl rfl (by have hq := ixI_lt (ixI_set (y := (I_Change.mk k1 n33 (I_Column.mk n35 (I_Value.mk n37 n39 x31.column.default.text)))) (ixI_set (y := (I_Change.mk k1 n33 (I_Column.mk n35 (I_Value.mk n37 x31.column.default.num x31.column.default.text)))) (ixI_set (y := (I_Change.mk k1 n33 (I_Column.mk n35 x31.column.default))) (ixI_set (y := (I_Change.mk k1 n33 x31.column)) (ixI_set (y := (I_Change.mk k1 x31.at_ x31.column)) h_32))))); simp only [List.length_set] at hq ⊢; exact hq)) ?_; (iterate 3 refine PL.op rfl (Rd.fieldO rfl rfl) ?_); refine PL.stFM (f := 5) (I_Change.mk k1 n33 (I_Column.mk n35 (I_Value.mk n37 n39 r43))) rfl rfl rfl rfl (ixI_set (y := (I_Change.mk k1 n33 (I_Column.mk n35 (I_Value.mk n37 n39 x31.column.default.text)))) (ixI_set (y := (I_Change.mk k1 n33 (I_Column.mk n35 (I_Value.mk n37 x31.column.default.num x31.column.default.text)))) (ixI_set (y := (I_Change.mk k1 n33 (I_Column.mk n35 x31.column.default))) (ixI_set (y := (I_Change.mk k1 n33 x31.column)) (ixI_set (y := (I_Change.mk k1 x31.at_ x31.column)) h_32))))) rfl rfl ?_; refine PL.nO [some ⟨.tr (eL ((((((v3.set i2.toNat (I_Change.mk k1 x31.at_ x31.column)).set i2.toNat (I_Change.mk k1 n33 x31.column)).set i2.toNat (I_Change.mk k1 n33 (I_Column.mk n35 x31.column.default))).set i2.toNat (I_Change.mk k1 n33 (I_Column.mk n35 (I_Value.mk n37 x31.column.default.num x31.column.default.text)))).set i2.toNat (I_Change.mk k1 n33 (I_Column.mk n35 (I_Value.mk n37 n39 x31.column.default.text)))).set i2.toNat (I_Change.mk k1 n33 (I_Column.mk n35 (I_Value.mk n37 n39 r43))))), 89, 6⟩] rfl ?_; refine PL.nil ?_; refine thA_n ?_; obtain ⟨n45, h_46, hh1⟩ := bind_some hh1; refine PC.region ?_; refine PL.op rfl (Rd.moveT rfl) ?_; refine PL.op rfl (Rd.addM rfl rfl h_46) ?_; refine PL.op rfl (Rd.asnT rfl) ?_; refine PL.nil ?_; refine inA_n ?_; refine thA_n ?_; obtain ⟨n47, h_48, hh1⟩ := bind_some hh1; refine PC.region ?_; refine PL.op rfl (Rd.moveT rfl) ?_; refine PL.op rfl (Rd.addM rfl rfl h_48) ?_; refine PL.op rfl (Rd.asnT rfl) ?_; refine PL.nil ?_; obtain rfl := some_in hh1; refine thA_n ?_; exact ⟨(f27, (n45, n47, ((((((v3.set i2.toNat (I_Change.mk k1 x31.at_ x31.column)).set i2.toNat (I_Change.mk k1 n33 x31.column)).set i2.toNat (I_Change.mk k1 n33 (I_Column.mk n35 x31.column.default))).set i2.toNat (I_Change.mk k1 n33 (I_Column.mk n35 (I_Value.mk n37 x31.column.default.num x31.column.default.text)))).set i2.toNat (I_Change.mk k1 n33 (I_Column.mk n35 (I_Value.mk n37 n39 x31.column.default.text)))).set i2.toNat (I_Change.mk k1 n33 (I_Column.mk n35 (I_Value.mk n37 n39 r43)))))), Nat.lt_succ_self _, kk1, [some 0], ⟨rfl, rfl, ⟨⟨_, rfl, rfl, rfl, .tr _⟩, trivial⟩, ⟨.osE rfl (by simp only [List.length_set]), .t _, .t _, trivial⟩⟩⟩
  clear hh0
  rintro ⟨k23, v24⟩ hh0
  replace hh0 : m_L_markChangeS_k1 N k23 v24 = some r := hh0
  unfold m_L_markChangeS_k1 at hh0; refine thA_n ?_; refine PC.seq ?_; refine PC.region ?_; refine PL.op rfl (Rd.moveT rfl) ?_; refine PL.op rfl (Rd.asnT rfl) ?_; refine PL.nil ?_; refine thA_n ?_; refine PC.ret ?_; obtain rfl := some_in hh0; exact FinA.mk (r := iA ((k23, v24).1)) (bl := [⟨.tr (eL ((k23, v24).2)), 89, 6⟩]) [some 0] (.inl rfl) rfl (rl := [.tmp 4]) (.tmp .nil) rfl rfl rfl (.t _) ⟨⟨_, rfl, rfl, rfl, .tr _⟩, trivial⟩ ⟨rfl, rfl⟩
theorem len_L_markChangeS (N : Nat) (a : (List I_Change)) (k : Int) (r : Int × (List I_Change)) (h : m_L_markChangeS N a k = some r) : r.2.length = a.length := by
  unfold m_L_markChangeS at h; obtain ⟨o, h1, h2⟩ := bind_some h; unfold m_L_markChangeS_k1 at h2; cases h2; refine al.loop (fun s => s.2.2.length = a.length) (fun b => b.2.length = a.length) ?_ N _ rfl _ h1
  rintro ⟨k, i, v⟩ hv
  show al (m_L_markChangeS_b1 N k i v) _
  unfold m_L_markChangeS_b1
  repeat' (first | exact al.some hv | (refine al.cond (fun _ => ?_) (fun _ => ?_)) | (refine al.bind (fun _ _ => ?_)) | (refine al.some ?_; simpa only [List.length_set] using hv))
def m_L_markValueS_k1 (N : Nat) (k17 : Int) (v18 : (List I_Value)) : Option (Int × (List I_Value)) :=
  some (k17, v18)
def m_L_markValueS_b1 (N : Nat) (k1 : Int) (i2 : Int) (v3 : (List I_Value)) : Option ((Int × Int × (List I_Value)) ⊕ (Int × (List I_Value))) :=
  cond (decide (i2 < (v3.length : Int)))
    ((ixI v3 i2).bind fun x25 =>
    (chk (k1 + (1 : Int))).bind fun n27 =>
    (chk (n27 + (1 : Int))).bind fun n29 =>
    (m_L_markText N n29).bind fun r31 =>
    (chk (n29 + (1 : Int))).bind fun n33 =>
    (chk (i2 + (1 : Int))).bind fun n35 =>
    some (.inl (n33, n35, (((v3.set i2.toNat (I_Value.mk k1 x25.num x25.text)).set i2.toNat (I_Value.mk k1 n27 x25.text)).set i2.toNat (I_Value.mk k1 n27 r31)))))
    (some (.inr (k1, v3)))
def m_L_markValueS (N : Nat) (p_a : (List I_Value)) (p_k : Int) : Option (Int × (List I_Value)) :=
  (loopM (β := Int × (List I_Value)) (fun s : Int × Int × (List I_Value) => m_L_markValueS_b1 N s.1 s.2.1 s.2.2) N (p_k, (0 : Int), p_a)).bind fun e =>
  m_L_markValueS_k1 N e.1 e.2
theorem w_L_markValueS (N : Nat) (p_a : (List I_Value)) (p_k : Int) (r : Int × (List I_Value)) (hh0 : m_L_markValueS N p_a p_k = some r) : FnX Tryz.prog 34 [⟨.tr (eL p_a), 84, 3⟩] [.os 0 0 p_a.length, iA p_k] (RE (iA r.1) [⟨.tr (eL r.2), 84, 3⟩]) := by
  unfold m_L_markValueS at hh0; refine FnX.mk Tryz.func34 rfl rfl ?_; intro s hs; refine PC.seq ?_; refine PC.region ?_; refine PL.op rfl (Rd.asnT rfl) ?_; refine PL.nil ?_; refine thA_n ?_; (iterate 2 refine PC.seq ?_); refine PC.region ?_; refine PL.op rfl (Rd.asnT rfl) ?_; refine PL.nil ?_; refine thA_n ?_; obtain ⟨o19, h_20, hh0⟩ := bind_some hh0; refine PC.cutE hs (fun x : Int × (List I_Value) => [(1, iA x.1)]) (fun x => [⟨.tr (eL x.2), 84, 3⟩]) (fun x => m_L_markValueS_k1 N x.1 x.2 = some r) ?_ ?_
  · refine PC.block ?_; refine PC.loop hs (fun x : Nat × (Int × Int × (List I_Value)) => [(0, .os 0 0 x.2.2.2.length), (1, iA x.2.1), (5, iA x.2.2.1)]) (fun x => [⟨.tr (eL x.2.2.2), 84, 3⟩]) (fun x => loopM (β := Int × (List I_Value)) (fun s : Int × Int × (List I_Value) => m_L_markValueS_b1 N s.1 s.2.1 s.2.2) x.1 x.2 = some o19) (fun x => x.1) (N, (p_k, (0 : Int), p_a)) [some 0] ⟨rfl, rfl, ⟨⟨_, rfl, rfl, rfl, .tr _⟩, trivial⟩, ⟨.os rfl, .t _, .t _, trivial⟩⟩ h_20 ?_
    rintro ⟨f21_, k1, i2, v3⟩ h_23
    obtain ⟨f21, y22, rfl, hh1, kk1⟩ := loopM_some h_23
    replace hh1 : m_L_markValueS_b1 N k1 i2 v3 = some y22 := hh1
    unfold m_L_markValueS_b1 at hh1; (iterate 2 refine PC.seq ?_); refine PC.region ?_; refine PL.op rfl (Rd.moveT rfl) ?_; refine PL.op rfl (Rd.moveO rfl) ?_; refine PL.op rfl (Rd.lenO rfl rfl) ?_; refine PL.op rfl (Rd.lss rfl rfl) ?_; refine PL.nil ?_; refine thA_n ?_; rcases cond_some hh1 with ⟨h_24, hh1⟩ | ⟨h_24, hh1⟩; rotate_left
    · refine PC.cond_false rfl h_24 ?_; refine PC.exit ?_; (iterate 2 refine thA_e ?_); refine inA_eq rfl ?_; refine thA_n ?_; obtain rfl := some_in hh1; obtain rfl : ((k1, v3) : Int × (List I_Value)) = o19 := kk1; exact ⟨(k1, v3), hh0, [some 0], ⟨rfl, rfl, ⟨⟨_, rfl, rfl, rfl, .tr _⟩, trivial⟩, ⟨.t _, trivial⟩⟩⟩
    refine PC.cond_true rfl h_24 ?_; refine PC.skip ?_; refine thA_n ?_; refine PC.seq ?_; refine PC.block ?_; refine PC.seq ?_; obtain ⟨x25, h_26, hh1⟩ := bind_some hh1; refine PC.region ?_; refine PL.op rfl (Rd.moveO rfl) ?_; (iterate 2 refine PL.op rfl (Rd.moveT rfl) ?_); refine PL.op rfl (Rd.ixOM rfl rfl rfl (ixI_lt h_26)) ?_; refine PL.op rfl (Rd.fieldO rfl rfl) ?_; refine PL.stFM (f := 0) (I_Value.mk k1 x25.num x25.text) rfl rfl rfl rfl h_26 rfl rfl ?_; refine PL.nO [some ⟨.tr (eL (v3.set i2.toNat (I_Value.mk k1 x25.num x25.text))), 84, 3⟩] rfl ?_; refine PL.nil ?_; refine thA_n ?_; refine PC.seq ?_; obtain ⟨n27, h_28, hh1⟩ := bind_some hh1; refine PC.region ?_; refine PL.op rfl (Rd.moveT rfl) ?_; refine PL.op rfl (Rd.addM rfl rfl h_28) ?_; refine PL.op rfl (Rd.asnT rfl) ?_; refine PL.nil ?_; refine thA_n ?_; refine PC.seq ?_; refine PC.region ?_; refine PL.op rfl (Rd.moveO rfl) ?_; (iterate 2 refine PL.op rfl (Rd.moveT rfl) ?_); refine PL.op rfl (Rd.ixOM rfl rfl rfl (by have hq := ixI_lt (ixI_set (y := (I_Value.mk k1 x25.num x25.text)) h_26); simp only [List.length_set] at hq ⊢; exact hq)) ?_; refine PL.op rfl (Rd.fieldO rfl rfl) ?_; refine PL.stFM (f := 1) (I_Value.mk k1 n27 x25.text) rfl rfl rfl rfl (ixI_set (y := (I_Value.mk k1 x25.num x25.text)) h_26) rfl rfl ?_; refine PL.nO [some ⟨.tr (eL ((v3.set i2.toNat (I_Value.mk k1 x25.num x25.text)).set i2.toNat (I_Value.mk k1 n27 x25.text))), 84, 3⟩] rfl ?_; refine PL.nil ?_; refine thA_n ?_; refine PC.seq ?_; obtain ⟨n29, h_30, hh1⟩ := bind_some hh1; refine PC.region ?_; refine PL.op rfl (Rd.moveT rfl) ?_; refine PL.op rfl (Rd.addM rfl rfl h_30) ?_; refine PL.op rfl (Rd.asnT rfl) ?_; refine PL.nil ?_; refine thA_n ?_; refine PC.seq ?_; obtain ⟨r31, h_32, hh1⟩ := bind_some hh1; refine PC.region ?_; refine PL.op rfl (Rd.moveO rfl) ?_; (iterate 2 refine PL.op rfl (Rd.moveT rfl) ?_); refine PL.callM false [] (w_L_markText N n29 r31 h_32) rfl Tryz.call59 rfl ⟨.t _, trivial⟩ rfl trivial (fun h => by cases h) ?_; refine PL.op rfl (Rd.ixOM rfl rfl rfl (by have hq := ixI_lt (ixI_set (y := (I_Value.mk k1 n27 x25.text)) (ixI_set (y := (I_Value.mk k1 x25.num x25.text)) h_26)); simp only [List.length_set] at hq ⊢; exact hq)) ?_; refine PL.op rfl (Rd.fieldO rfl rfl) ?_; refine PL.stFM (f := 2) (I_Value.mk k1 n27 r31) rfl rfl rfl rfl (ixI_set (y := (I_Value.mk k1 n27 x25.text)) (ixI_set (y := (I_Value.mk k1 x25.num x25.text)) h_26)) rfl rfl ?_; refine PL.nO [some ⟨.tr (eL (((v3.set i2.toNat (I_Value.mk k1 x25.num x25.text)).set i2.toNat (I_Value.mk k1 n27 x25.text)).set i2.toNat (I_Value.mk k1 n27 r31))), 84, 3⟩] rfl ?_; refine PL.nil ?_; refine thA_n ?_; obtain ⟨n33, h_34, hh1⟩ := bind_some hh1; refine PC.region ?_; refine PL.op rfl (Rd.moveT rfl) ?_; refine PL.op rfl (Rd.addM rfl rfl h_34) ?_; refine PL.op rfl (Rd.asnT rfl) ?_; refine PL.nil ?_; refine inA_n ?_; refine thA_n ?_; obtain ⟨n35, h_36, hh1⟩ := bind_some hh1; refine PC.region ?_; refine PL.op rfl (Rd.moveT rfl) ?_; refine PL.op rfl (Rd.addM rfl rfl h_36) ?_; refine PL.op rfl (Rd.asnT rfl) ?_; refine PL.nil ?_; obtain rfl := some_in hh1; refine thA_n ?_; exact ⟨(f21, (n33, n35, (((v3.set i2.toNat (I_Value.mk k1 x25.num x25.text)).set i2.toNat (I_Value.mk k1 n27 x25.text)).set i2.toNat (I_Value.mk k1 n27 r31)))), Nat.lt_succ_self _, kk1, [some 0], ⟨rfl, rfl, ⟨⟨_, rfl, rfl, rfl, .tr _⟩, trivial⟩, ⟨.osE rfl (by simp only [List.length_set]), .t _, .t _, trivial⟩⟩⟩
  clear hh0
  rintro ⟨k17, v18⟩ hh0
  replace hh0 : m_L_markValueS_k1 N k17 v18 = some r := hh0
  unfold m_L_markValueS_k1 at hh0; refine thA_n ?_; refine PC.seq ?_; refine PC.region ?_; refine PL.op rfl (Rd.moveT rfl) ?_; refine PL.op rfl (Rd.asnT rfl) ?_; refine PL.nil ?_; refine thA_n ?_; refine PC.ret ?_; obtain rfl := some_in hh0; exact FinA.mk (r := iA ((k17, v18).1)) (bl := [⟨.tr (eL ((k17, v18).2)), 84, 3⟩]) [some 0] (.inl rfl) rfl (rl := [.tmp 4]) (.tmp .nil) rfl rfl rfl (.t _) ⟨⟨_, rfl, rfl, rfl, .tr _⟩, trivial⟩ ⟨rfl, rfl⟩
theorem len_L_markValueS (N : Nat) (a : (List I_Value)) (k : Int) (r : Int × (List I_Value)) (h : m_L_markValueS N a k = some r) : r.2.length = a.length := by
  unfold m_L_markValueS at h; obtain ⟨o, h1, h2⟩ := bind_some h; unfold m_L_markValueS_k1 at h2; cases h2; refine al.loop (fun s => s.2.2.length = a.length) (fun b => b.2.length = a.length) ?_ N _ rfl _ h1
  rintro ⟨k, i, v⟩ hv
  show al (m_L_markValueS_b1 N k i v) _
  unfold m_L_markValueS_b1
  repeat' (first | exact al.some hv | (refine al.cond (fun _ => ?_) (fun _ => ?_)) | (refine al.bind (fun _ _ => ?_)) | (refine al.some ?_; simpa only [List.length_set] using hv))
def m_L_markTaggedS_k1 (N : Nat) (k13 : Int) (v14 : (List I_Tagged)) : Option (Int × (List I_Tagged)) :=
  some (k13, v14)
def m_L_markTaggedS_b1 (N : Nat) (k1 : Int) (i2 : Int) (v3 : (List I_Tagged)) : Option ((Int × Int × (List I_Tagged)) ⊕ (Int × (List I_Tagged))) :=
  cond (decide (i2 < (v3.length : Int)))
    ((ixI v3 i2).bind fun x21 =>
    (chk (k1 + (1 : Int))).bind fun n23 =>
    (m_L_markValueS N x21.row n23).bind fun r25 =>
    (chk (i2 + (1 : Int))).bind fun n27 =>
    some (.inl (r25.1, n27, ((v3.set i2.toNat (I_Tagged.mk k1 x21.row)).set i2.toNat (I_Tagged.mk k1 r25.2)))))
    (some (.inr (k1, v3)))
def m_L_markTaggedS (N : Nat) (p_a : (List I_Tagged)) (p_k : Int) : Option (Int × (List I_Tagged)) :=
  (loopM (β := Int × (List I_Tagged)) (fun s : Int × Int × (List I_Tagged) => m_L_markTaggedS_b1 N s.1 s.2.1 s.2.2) N (p_k, (0 : Int), p_a)).bind fun e =>
  m_L_markTaggedS_k1 N e.1 e.2
theorem w_L_markTaggedS (N : Nat) (p_a : (List I_Tagged)) (p_k : Int) (r : Int × (List I_Tagged)) (hh0 : m_L_markTaggedS N p_a p_k = some r) : FnX Tryz.prog 33 [⟨.mx (dL 1 0 p_a), 52, 2⟩, ⟨.fm (fam p_a), 84, 3⟩] [.os 0 0 p_a.length, iA p_k] (RE (iA r.1) [⟨.mx (dL 1 0 r.2), 52, 2⟩, ⟨.fm (fam r.2), 84, 3⟩]) := by
  unfold m_L_markTaggedS at hh0; refine FnX.mk Tryz.func33 rfl rfl ?_; intro s hs; refine PC.seq ?_; refine PC.region ?_; refine PL.op rfl (Rd.asnT rfl) ?_; refine PL.nil ?_; refine thA_n ?_; (iterate 2 refine PC.seq ?_); refine PC.region ?_; refine PL.op rfl (Rd.asnT rfl) ?_; refine PL.nil ?_; refine thA_n ?_; obtain ⟨o15, h_16, hh0⟩ := bind_some hh0; refine PC.cutE hs (fun x : Int × (List I_Tagged) => [(1, iA x.1)]) (fun x => [⟨.mx (dL 1 0 x.2), 52, 2⟩, ⟨.fm (fam x.2), 84, 3⟩]) (fun x => m_L_markTaggedS_k1 N x.1 x.2 = some r) ?_ ?_
  · refine PC.block ?_; refine PC.loop hs (fun x : Nat × (Int × Int × (List I_Tagged)) => [(0, .os 0 0 x.2.2.2.length), (1, iA x.2.1), (5, iA x.2.2.1)]) (fun x => [⟨.mx (dL 1 0 x.2.2.2), 52, 2⟩, ⟨.fm (fam x.2.2.2), 84, 3⟩]) (fun x => loopM (β := Int × (List I_Tagged)) (fun s : Int × Int × (List I_Tagged) => m_L_markTaggedS_b1 N s.1 s.2.1 s.2.2) x.1 x.2 = some o15) (fun x => x.1) (N, (p_k, (0 : Int), p_a)) [some 0, some 1] ⟨rfl, rfl, ⟨⟨_, rfl, rfl, rfl, .mx (sb_dL rfl 0 _)⟩, ⟨_, rfl, rfl, rfl, .fm _⟩, trivial⟩, ⟨.os rfl, .t _, .t _, trivial⟩⟩ h_16 ?_
    rintro ⟨f17_, k1, i2, v3⟩ h_19
    obtain ⟨f17, y18, rfl, hh1, kk1⟩ := loopM_some h_19
    replace hh1 : m_L_markTaggedS_b1 N k1 i2 v3 = some y18 := hh1
    unfold m_L_markTaggedS_b1 at hh1; (iterate 2 refine PC.seq ?_); refine PC.region ?_; refine PL.op rfl (Rd.moveT rfl) ?_; refine PL.op rfl (Rd.moveO rfl) ?_; refine PL.op rfl (Rd.lenO rfl rfl) ?_; refine PL.op rfl (Rd.lss rfl rfl) ?_; refine PL.nil ?_; refine thA_n ?_; rcases cond_some hh1 with ⟨h_20, hh1⟩ | ⟨h_20, hh1⟩; rotate_left
    · refine PC.cond_false rfl h_20 ?_; refine PC.exit ?_; (iterate 2 refine thA_e ?_); refine inA_eq rfl ?_; refine thA_n ?_; obtain rfl := some_in hh1; obtain rfl : ((k1, v3) : Int × (List I_Tagged)) = o15 := kk1; exact ⟨(k1, v3), hh0, [some 0, some 1], ⟨rfl, rfl, ⟨⟨_, rfl, rfl, rfl, .mx (sb_dL rfl 0 _)⟩, ⟨_, rfl, rfl, rfl, .fm _⟩, trivial⟩, ⟨.t _, trivial⟩⟩⟩
    refine PC.cond_true rfl h_20 ?_; refine PC.skip ?_; refine thA_n ?_; refine PC.seq ?_; refine PC.block ?_; refine PC.seq ?_; obtain ⟨x21, h_22, hh1⟩ := bind_some hh1; refine PC.region ?_; refine PL.op rfl (Rd.moveO rfl) ?_; (iterate 2 refine PL.op rfl (Rd.moveT rfl) ?_); refine PL.op rfl (Rd.ixOM rfl rfl rfl (ixI_lt h_22)) ?_; refine PL.op rfl (Rd.fieldO rfl rfl) ?_; refine PL.dpSFM (q := 0) (I_Tagged.mk k1 x21.row) rfl rfl rfl rfl rfl rfl h_22 rfl rfl rfl ?_; refine PL.nO [some ⟨.mx (dL 1 0 (v3.set i2.toNat (I_Tagged.mk k1 x21.row))), 52, 2⟩, some ⟨.fm (fam (v3.set i2.toNat (I_Tagged.mk k1 x21.row))), 84, 3⟩] rfl ?_; refine PL.nil ?_; refine thA_n ?_; refine PC.seq ?_; obtain ⟨n23, h_24, hh1⟩ := bind_some hh1; refine PC.region ?_; refine PL.op rfl (Rd.moveT rfl) ?_; refine PL.op rfl (Rd.addM rfl rfl h_24) ?_; refine PL.op rfl (Rd.asnT rfl) ?_; refine PL.nil ?_; refine thA_n ?_; obtain ⟨r25, h_26, hh1⟩ := bind_some hh1; refine PC.region ?_; refine PL.op rfl (Rd.moveO rfl) ?_; refine PL.op rfl (Rd.moveT rfl) ?_; refine PL.op rfl (Rd.ixOM rfl rfl rfl (by have hq := ixI_lt (ixI_set (y := (I_Tagged.mk k1 x21.row)) h_22); simp only [List.length_set] at hq ⊢; exact hq)) ?_; refine PL.op rfl (Rd.fieldO rfl rfl) ?_; refine PL.op rfl (Rd.dpFM (q := 1) rfl rfl rfl (ixI_set (y := (I_Tagged.mk k1 x21.row)) h_22) rfl rfl) ?_; refine PL.op rfl (Rd.moveT rfl) ?_; refine PL.callOIM (b := 0) (I_Tagged.mk k1 r25.2) (ixI_set (y := (I_Tagged.mk k1 x21.row)) h_22) (w_L_markValueS N x21.row n23 r25 h_26) rfl Tryz.call34 rfl rfl rfl rfl rfl rfl rfl rfl (len_L_markValueS N _ _  _ h_26) ?_; refine PL.nm (iA r25.1) [some ⟨.mx (dL 1 0 ((v3.set i2.toNat (I_Tagged.mk k1 x21.row)).set i2.toNat (I_Tagged.mk k1 r25.2))), 52, 2⟩, some ⟨.fm (fam ((v3.set i2.toNat (I_Tagged.mk k1 x21.row)).set i2.toNat (I_Tagged.mk k1 r25.2))), 84, 3⟩] rfl rfl ?_; refine PL.op rfl (Rd.asnT rfl) ?_; refine PL.nil ?_; refine inA_n ?_; refine thA_n ?_; obtain ⟨n27, h_28, hh1⟩ := bind_some hh1; refine PC.region ?_; refine PL.op rfl (Rd.moveT rfl) ?_; refine PL.op rfl (Rd.addM rfl rfl h_28) ?_; refine PL.op rfl (Rd.asnT rfl) ?_; refine PL.nil ?_; obtain rfl := some_in hh1; refine thA_n ?_; exact ⟨(f17, (r25.1, n27, ((v3.set i2.toNat (I_Tagged.mk k1 x21.row)).set i2.toNat (I_Tagged.mk k1 r25.2)))), Nat.lt_succ_self _, kk1, [some 0, some 1], ⟨rfl, rfl, ⟨⟨_, rfl, rfl, rfl, .mx (sb_dL rfl 0 _)⟩, ⟨_, rfl, rfl, rfl, .fm _⟩, trivial⟩, ⟨.osE rfl (by simp only [List.length_set]), .t _, .t _, trivial⟩⟩⟩
  clear hh0
  rintro ⟨k13, v14⟩ hh0
  replace hh0 : m_L_markTaggedS_k1 N k13 v14 = some r := hh0
  unfold m_L_markTaggedS_k1 at hh0; refine thA_n ?_; refine PC.seq ?_; refine PC.region ?_; refine PL.op rfl (Rd.moveT rfl) ?_; refine PL.op rfl (Rd.asnT rfl) ?_; refine PL.nil ?_; refine thA_n ?_; refine PC.ret ?_; obtain rfl := some_in hh0; exact FinA.mk (r := iA ((k13, v14).1)) (bl := [⟨.mx (dL 1 0 ((k13, v14).2)), 52, 2⟩, ⟨.fm (fam ((k13, v14).2)), 84, 3⟩]) [some 0, some 1] (.inl rfl) rfl (rl := [.tmp 4]) (.tmp .nil) rfl rfl rfl (.t _) ⟨⟨_, rfl, rfl, rfl, .mx (sb_dL rfl 0 _)⟩, ⟨_, rfl, rfl, rfl, .fm _⟩, trivial⟩ ⟨rfl, rfl⟩
theorem len_L_markTaggedS (N : Nat) (a : (List I_Tagged)) (k : Int) (r : Int × (List I_Tagged)) (h : m_L_markTaggedS N a k = some r) : r.2.length = a.length := by
  unfold m_L_markTaggedS at h; obtain ⟨o, h1, h2⟩ := bind_some h; unfold m_L_markTaggedS_k1 at h2; cases h2; refine al.loop (fun s => s.2.2.length = a.length) (fun b => b.2.length = a.length) ?_ N _ rfl _ h1
  rintro ⟨k, i, v⟩ hv
  show al (m_L_markTaggedS_b1 N k i v) _
  unfold m_L_markTaggedS_b1
  repeat' (first | exact al.some hv | (refine al.cond (fun _ => ?_) (fun _ => ?_)) | (refine al.bind (fun _ _ => ?_)) | (refine al.some ?_; simpa only [List.length_set] using hv))
def m_L_markTable (N : Nat) (p_a : I_Table) (p_k : Int) : Option (Int × (List I_Column) × (List I_Change) × (List I_Tagged)) :=
  (m_L_markColumnS N p_a.first p_k).bind fun r1 =>
  (m_L_markChangeS N p_a.changes r1.1).bind fun r3 =>
  (m_L_markTaggedS N p_a.rows r3.1).bind fun r5 =>
  some (r5.1, r1.2, r3.2, r5.2)
theorem w_L_markTable (N : Nat) (p_a : I_Table) (p_k : Int) (r : Int × (List I_Column) × (List I_Change) × (List I_Tagged)) (hh0 : m_L_markTable N p_a p_k = some r) : FnX Tryz.prog 11 [⟨.tr (eL p_a.first), 86, 4⟩, ⟨.tr (eL p_a.changes), 89, 6⟩, ⟨.mx (dL 3 0 p_a.rows), 52, 2⟩, ⟨.fm (fam p_a.rows), 84, 3⟩] [.agg [.os 0 0 p_a.first.length, .os 1 0 p_a.changes.length, .os 2 0 p_a.rows.length], iA p_k] (RE (iA r.1) [⟨.tr (eL r.2.1), 86, 4⟩, ⟨.tr (eL r.2.2.1), 89, 6⟩, ⟨.mx (dL 3 0 r.2.2.2), 52, 2⟩, ⟨.fm (fam r.2.2.2), 84, 3⟩]) := by
  unfold m_L_markTable at hh0; refine FnX.mk Tryz.func11 rfl rfl ?_; intro s hs; refine PC.seq ?_; refine PC.region ?_; refine PL.ef rfl (Ef.box rfl rfl rfl) ?_; refine PL.nm (.op 4 0) [some ⟨.tr (eL p_a.first), 86, 4⟩, some ⟨.tr (eL p_a.changes), 89, 6⟩, some ⟨.mx (dL 3 0 p_a.rows), 52, 2⟩, some ⟨.fm (fam p_a.rows), 84, 3⟩, some ⟨.mx [.os 0 0 p_a.first.length, .os 1 0 p_a.changes.length, .os 2 0 p_a.rows.length], 34, 0⟩] rfl rfl ?_; refine PL.op rfl (Rd.asnT rfl) ?_; refine PL.nil ?_; refine thA_n ?_; refine PC.seq ?_; obtain ⟨r1, h_2, hh0⟩ := bind_some hh0; refine PC.region ?_; refine PL.op rfl (Rd.fieldO rfl rfl) ?_; refine PL.op rfl (Rd.loadO rfl rfl rfl) ?_; refine PL.op rfl (Rd.moveT rfl) ?_; refine PL.callM false [0] (w_L_markColumnS N p_a.first p_k r1 h_2) rfl Tryz.call31 rfl ⟨.os rfl, .t _, trivial⟩ rfl ⟨⟨_, rfl, rfl, rfl, .tr _⟩, trivial⟩ (fun h => by cases h) ?_; refine PL.nm (iA r1.1) [some ⟨.tr (eL r1.2), 86, 4⟩, some ⟨.tr (eL p_a.changes), 89, 6⟩, some ⟨.mx (dL 3 0 p_a.rows), 52, 2⟩, some ⟨.fm (fam p_a.rows), 84, 3⟩, some ⟨.mx [.os 0 0 p_a.first.length, .os 1 0 p_a.changes.length, .os 2 0 p_a.rows.length], 34, 0⟩] rfl rfl ?_; refine PL.op rfl (Rd.asnT rfl) ?_; refine PL.nil ?_; refine thA_n ?_; refine PC.seq ?_; obtain ⟨r3, h_4, hh0⟩ := bind_some hh0; refine PC.region ?_; refine PL.op rfl (Rd.fieldO rfl rfl) ?_; refine PL.op rfl (Rd.loadO rfl rfl rfl) ?_; refine PL.op rfl (Rd.moveT rfl) ?_; refine PL.callM false [1] (w_L_markChangeS N p_a.changes r1.1 r3 h_4) rfl Tryz.call32 rfl ⟨.os rfl, .t _, trivial⟩ rfl ⟨⟨_, rfl, rfl, rfl, .tr _⟩, trivial⟩ (fun h => by cases h) ?_; refine PL.nm (iA r3.1) [some ⟨.tr (eL r1.2), 86, 4⟩, some ⟨.tr (eL r3.2), 89, 6⟩, some ⟨.mx (dL 3 0 p_a.rows), 52, 2⟩, some ⟨.fm (fam p_a.rows), 84, 3⟩, some ⟨.mx [.os 0 0 p_a.first.length, .os 1 0 p_a.changes.length, .os 2 0 p_a.rows.length], 34, 0⟩] rfl rfl ?_; refine PL.op rfl (Rd.asnT rfl) ?_; refine PL.nil ?_; refine thA_n ?_; refine PC.seq ?_; obtain ⟨r5, h_6, hh0⟩ := bind_some hh0; refine PC.region ?_; refine PL.op rfl (Rd.fieldO rfl rfl) ?_; refine PL.op rfl (Rd.loadO rfl rfl rfl) ?_; refine PL.op rfl (Rd.moveT rfl) ?_; refine PL.callM false [2, 3] (w_L_markTaggedS N p_a.rows r3.1 r5 h_6) rfl Tryz.call33 rfl ⟨.os rfl, .t _, trivial⟩ rfl ⟨⟨_, rfl, rfl, rfl, .mx (sb_dL rfl 0 _)⟩, ⟨_, rfl, rfl, rfl, .fm _⟩, trivial⟩ (fun h => by cases h) ?_; refine PL.nm (iA r5.1) [some ⟨.tr (eL r1.2), 86, 4⟩, some ⟨.tr (eL r3.2), 89, 6⟩, some ⟨.mx (dL 3 0 r5.2), 52, 2⟩, some ⟨.fm (fam r5.2), 84, 3⟩, some ⟨.mx [.os 0 0 p_a.first.length, .os 1 0 p_a.changes.length, .os 2 0 p_a.rows.length], 34, 0⟩] rfl (by (conv => rhs; rw [show dL 3 0 r5.2 = AV.renL (thet [2, 3] 5) (dL 1 0 r5.2) from (dL_ren (thet [2, 3] 5) 1 0 r5.2).symm]); rfl) ?_; refine PL.op rfl (Rd.asnT rfl) ?_; refine PL.nil ?_; refine thA_n ?_; refine PC.seq ?_; refine PC.region ?_; refine PL.op rfl (Rd.moveT rfl) ?_; refine PL.op rfl (Rd.asnT rfl) ?_; refine PL.nil ?_; refine thA_n ?_; refine PC.ret ?_; obtain rfl := some_in hh0; exact FinA.mk (r := iA ((r5.1, r1.2, r3.2, r5.2).1)) (bl := [⟨.tr (eL ((r5.1, r1.2, r3.2, r5.2).2.1)), 86, 4⟩, ⟨.tr (eL ((r5.1, r1.2, r3.2, r5.2).2.2.1)), 89, 6⟩, ⟨.mx (dL 3 0 ((r5.1, r1.2, r3.2, r5.2).2.2.2)), 52, 2⟩, ⟨.fm (fam ((r5.1, r1.2, r3.2, r5.2).2.2.2)), 84, 3⟩]) [some 0, some 1, some 2, some 3] (.inl rfl) rfl (rl := [.tmp 4]) (.tmp .nil) rfl rfl rfl (.t _) ⟨⟨_, rfl, rfl, rfl, .tr _⟩, ⟨_, rfl, rfl, rfl, .tr _⟩, ⟨_, rfl, rfl, rfl, .mx (sb_dL rfl 0 _)⟩, ⟨_, rfl, rfl, rfl, .fm _⟩, trivial⟩ ⟨rfl, rfl⟩
theorem len_L_markTable (N : Nat) (a : I_Table) (k : Int) (r : Int × (List I_Column) × (List I_Change) × (List I_Tagged)) (h : m_L_markTable N a k = some r) : r.2.1.length = a.first.length ∧ r.2.2.1.length = a.changes.length ∧ r.2.2.2.length = a.rows.length := by
  unfold m_L_markTable at h; obtain ⟨r0, h0, h⟩ := bind_some h; obtain ⟨r1, h1, h⟩ := bind_some h; obtain ⟨r2, h2, h⟩ := bind_some h; cases h; exact ⟨len_L_markColumnS N _ _ _ h0, len_L_markChangeS N _ _ _ h1, len_L_markTaggedS N _ _ _ h2⟩
def m_L_heldColumnS_k1 (N : Nat) (k28 : Int) : Option (Int) :=
  some k28
def m_L_heldColumnS_b1 (N : Nat) (p_a : (List I_Column)) (k1 : Int) (i2 : Int) : Option ((Int × Int) ⊕ (Int ⊕ Int)) :=
  cond (decide (i2 < (p_a.length : Int)))
    ((ixI p_a i2).bind fun x35 =>
    cond (decide (x35.kind = k1))
      ((chk (k1 + (1 : Int))).bind fun n38 =>
      (ixI p_a i2).bind fun x40 =>
      cond (decide (x40.default.kind = n38))
        ((chk (n38 + (1 : Int))).bind fun n43 =>
        (ixI p_a i2).bind fun x45 =>
        cond (decide (x45.default.num = n43))
          ((chk (n43 + (1 : Int))).bind fun n48 =>
          (ixI p_a i2).bind fun x50 =>
          (m_L_markText N n48).bind fun r52 =>
          cond (x50.default.text.toList == r52.toList)
            ((chk (n48 + (1 : Int))).bind fun n55 =>
            (chk (i2 + (1 : Int))).bind fun n57 =>
            some (.inl (n55, n57)))
            (some (.inr (.inr (-1 : Int)))))
          (some (.inr (.inr (-1 : Int)))))
        (some (.inr (.inr (-1 : Int)))))
      (some (.inr (.inr (-1 : Int)))))
    (some (.inr (.inl k1)))
def m_L_heldColumnS (N : Nat) (p_a : (List I_Column)) (p_k : Int) : Option (Int) :=
  (loopM (β := Int ⊕ Int) (fun s : Int × Int => m_L_heldColumnS_b1 N p_a s.1 s.2) N (p_k, (0 : Int))).bind fun o => match o with
  | .inl e =>
    m_L_heldColumnS_k1 N e
  | .inr v =>
    some v
theorem w_L_heldColumnS (N : Nat) (p_a : (List I_Column)) (p_k : Int) (r : Int) (hh0 : m_L_heldColumnS N p_a p_k = some r) : FnX Tryz.prog 39 [] [sL p_a, iA p_k] (RE (iA r) []) := by
  unfold m_L_heldColumnS at hh0; refine FnX.mk Tryz.func39 rfl rfl ?_; intro s hs; refine PC.seq ?_; refine PC.region ?_; refine PL.op rfl (Rd.asnT rfl) ?_; refine PL.nil ?_; refine thA_n ?_; (iterate 2 refine PC.seq ?_); refine PC.region ?_; refine PL.op rfl (Rd.asnT rfl) ?_; refine PL.nil ?_; refine thA_n ?_; obtain ⟨o29, h_30, hh0⟩ := bind_some hh0; refine PC.cutE hs (fun x : Int => [(1, iA x)]) (fun x => []) (fun x => m_L_heldColumnS_k1 N x = some r) ?_ ?_
  · refine PC.block ?_; refine PC.loop hs (fun x : Nat × (Int × Int) => [(0, sL p_a), (1, iA x.2.1), (5, iA x.2.2)]) (fun x => []) (fun x => loopM (β := Int ⊕ Int) (fun s : Int × Int => m_L_heldColumnS_b1 N p_a s.1 s.2) x.1 x.2 = some o29) (fun x => x.1) (N, (p_k, (0 : Int))) [] ⟨rfl, rfl, trivial, ⟨.t _, .t _, .t _, trivial⟩⟩ h_30 ?_
    rintro ⟨f31_, k1, i2⟩ h_33
    obtain ⟨f31, y32, rfl, hh1, kk1⟩ := loopM_some h_33
    replace hh1 : m_L_heldColumnS_b1 N p_a k1 i2 = some y32 := hh1
    unfold m_L_heldColumnS_b1 at hh1; (iterate 2 refine PC.seq ?_); refine PC.region ?_; (iterate 2 refine PL.op rfl (Rd.moveT rfl) ?_); refine PL.op rfl (Rd.lenT rfl) ?_; refine PL.op rfl (Rd.lss rfl rfl) ?_; refine PL.nil ?_; refine thA_n ?_; rcases cond_some hh1 with ⟨h_34, hh1⟩ | ⟨h_34, hh1⟩; rotate_left
    · refine PC.cond_false rfl h_34 ?_; refine PC.exit ?_; (iterate 2 refine thA_e ?_); refine inA_eq rfl ?_; refine thA_n ?_; obtain rfl := some_in hh1; obtain rfl : (.inl k1 : Int ⊕ Int) = o29 := kk1; exact ⟨k1, hh0, [], ⟨rfl, rfl, trivial, ⟨.t _, trivial⟩⟩⟩
    refine PC.cond_true rfl h_34 ?_; refine PC.skip ?_; refine thA_n ?_; refine PC.seq ?_; refine PC.block ?_; (iterate 2 refine PC.seq ?_); obtain ⟨x35, h_36, hh1⟩ := bind_some hh1; refine PC.region ?_; (iterate 2 refine PL.op rfl (Rd.moveT rfl) ?_); refine PL.op rfl (Rd.ixM rfl rfl h_36) ?_; refine PL.op rfl (Rd.fieldT rfl) ?_; refine PL.op rfl (Rd.elMF (f := 0) rfl h_36 rfl rfl) ?_; refine PL.op rfl (Rd.moveT rfl) ?_; refine PL.op rfl (Rd.neq rfl rfl) ?_; refine PL.nil ?_; refine thA_n ?_; rcases cond_some hh1 with ⟨h_37, hh1⟩ | ⟨h_37, hh1⟩; rotate_left
    · refine PC.cond_true rfl (not_f h_37) ?_; refine PC.seq ?_; refine PC.region ?_; refine PL.op rfl (Rd.asnT rfl) ?_; refine PL.nil ?_; refine thA_n ?_; refine PC.ret ?_; refine thA_r ?_; refine inA_r ?_; (iterate 2 refine thA_r ?_); refine inA_r ?_; refine thA_r ?_; obtain rfl := some_in hh1; obtain rfl : (.inr (-1 : Int) : Int ⊕ Int) = o29 := kk1; refine thA_r ?_; obtain rfl := some_in hh0; exact FinA.mk (r := iA (-1 : Int)) (bl := []) [] (.inl rfl) rfl (rl := [.tmp 4]) (.tmp .nil) rfl rfl rfl (.t _) trivial ⟨rfl, rfl⟩
    refine PC.cond_false rfl (not_t h_37) ?_; refine PC.skip ?_; refine thA_n ?_; refine PC.seq ?_; obtain ⟨n38, h_39, hh1⟩ := bind_some hh1; refine PC.region ?_; refine PL.op rfl (Rd.moveT rfl) ?_; refine PL.op rfl (Rd.addM rfl rfl h_39) ?_; refine PL.op rfl (Rd.asnT rfl) ?_; refine PL.nil ?_; refine thA_n ?_; (iterate 2 refine PC.seq ?_); obtain ⟨x40, h_41, hh1⟩ := bind_some hh1; refine PC.region ?_; (iterate 2 refine PL.op rfl (Rd.moveT rfl) ?_); refine PL.op rfl (Rd.ixM rfl rfl h_41) ?_; (iterate 2 refine PL.op rfl (Rd.fieldT rfl) ?_); refine PL.op rfl (Rd.elMF (f := 1) rfl h_41 rfl rfl) ?_; refine PL.op rfl (Rd.moveT rfl) ?_; refine PL.op rfl (Rd.neq rfl rfl) ?_; refine PL.nil ?_; refine thA_n ?_; rcases cond_some hh1 with ⟨h_42, hh1⟩ | ⟨h_42, hh1⟩; rotate_left
    · refine PC.cond_true rfl (not_f h_42) ?_; refine PC.seq ?_; refine PC.region ?_; refine PL.op rfl (Rd.asnT rfl) ?_; refine PL.nil ?_; refine thA_n ?_; refine PC.ret ?_; refine thA_r ?_; refine inA_r ?_; (iterate 2 refine thA_r ?_); refine inA_r ?_; refine thA_r ?_; obtain rfl := some_in hh1; obtain rfl : (.inr (-1 : Int) : Int ⊕ Int) = o29 := kk1; refine thA_r ?_; obtain rfl := some_in hh0; exact FinA.mk (r := iA (-1 : Int)) (bl := []) [] (.inl rfl) rfl (rl := [.tmp 4]) (.tmp .nil) rfl rfl rfl (.t _) trivial ⟨rfl, rfl⟩
    refine PC.cond_false rfl (not_t h_42) ?_; refine PC.skip ?_; refine thA_n ?_; refine PC.seq ?_; obtain ⟨n43, h_44, hh1⟩ := bind_some hh1; refine PC.region ?_; refine PL.op rfl (Rd.moveT rfl) ?_; refine PL.op rfl (Rd.addM rfl rfl h_44) ?_; refine PL.op rfl (Rd.asnT rfl) ?_; refine PL.nil ?_; refine thA_n ?_; (iterate 2 refine PC.seq ?_); obtain ⟨x45, h_46, hh1⟩ := bind_some hh1; refine PC.region ?_; (iterate 2 refine PL.op rfl (Rd.moveT rfl) ?_); refine PL.op rfl (Rd.ixM rfl rfl h_46) ?_; (iterate 2 refine PL.op rfl (Rd.fieldT rfl) ?_); refine PL.op rfl (Rd.elMF (f := 2) rfl h_46 rfl rfl) ?_; refine PL.op rfl (Rd.moveT rfl) ?_; refine PL.op rfl (Rd.neq rfl rfl) ?_; refine PL.nil ?_; refine thA_n ?_; rcases cond_some hh1 with ⟨h_47, hh1⟩ | ⟨h_47, hh1⟩; rotate_left
    · refine PC.cond_true rfl (not_f h_47) ?_; refine PC.seq ?_; refine PC.region ?_; refine PL.op rfl (Rd.asnT rfl) ?_; refine PL.nil ?_; refine thA_n ?_; refine PC.ret ?_; refine thA_r ?_; refine inA_r ?_; (iterate 2 refine thA_r ?_); refine inA_r ?_; refine thA_r ?_; obtain rfl := some_in hh1; obtain rfl : (.inr (-1 : Int) : Int ⊕ Int) = o29 := kk1; refine thA_r ?_; obtain rfl := some_in hh0; exact FinA.mk (r := iA (-1 : Int)) (bl := []) [] (.inl rfl) rfl (rl := [.tmp 4]) (.tmp .nil) rfl rfl rfl (.t _) trivial ⟨rfl, rfl⟩
    refine PC.cond_false rfl (not_t h_47) ?_; refine PC.skip ?_; refine thA_n ?_; refine PC.seq ?_; obtain ⟨n48, h_49, hh1⟩ := bind_some hh1; refine PC.region ?_; refine PL.op rfl (Rd.moveT rfl) ?_; refine PL.op rfl (Rd.addM rfl rfl h_49) ?_; refine PL.op rfl (Rd.asnT rfl) ?_; refine PL.nil ?_; refine thA_n ?_; (iterate 2 refine PC.seq ?_); obtain ⟨x50, h_51, hh1⟩ := bind_some hh1; obtain ⟨r52, h_53, hh1⟩ := bind_some hh1; refine PC.any (id := 13) 9 (.seg [0, 1, 2, 3, 4, 5, 6, 7, 8] .done) [] rfl (by kernel_rfl) rfl ?_; refine PT.seg ?_; (iterate 2 refine PR.op rfl (Rd.moveT rfl) ?_); refine PR.op rfl (Rd.ixM rfl rfl h_51) ?_; (iterate 2 refine PR.op rfl (Rd.fieldT rfl) ?_); refine PR.op rfl (Rd.elMF (f := 3) rfl h_51 rfl rfl) ?_; refine PR.op rfl (Rd.moveT rfl) ?_; refine PR.callM false [] (w_L_markText N n48 r52 h_53) rfl Tryz.call59 rfl ⟨.t _, trivial⟩ rfl trivial (fun h => by cases h) rfl ?_; refine PR.op rfl (Rd.neqS rfl rfl) ?_; refine PR.nil ?_; refine PT.done ?_; refine PL.nil ?_; refine thA_n ?_; rcases cond_some hh1 with ⟨h_54, hh1⟩ | ⟨h_54, hh1⟩; rotate_left
    · refine PC.cond_true rfl (not_f h_54) ?_; refine PC.seq ?_; refine PC.region ?_; refine PL.op rfl (Rd.asnT rfl) ?_; refine PL.nil ?_; refine thA_n ?_; refine PC.ret ?_; refine thA_r ?_; refine inA_r ?_; (iterate 2 refine thA_r ?_); refine inA_r ?_; refine thA_r ?_; obtain rfl := some_in hh1; obtain rfl : (.inr (-1 : Int) : Int ⊕ Int) = o29 := kk1; refine thA_r ?_; obtain rfl := some_in hh0; exact FinA.mk (r := iA (-1 : Int)) (bl := []) [] (.inl rfl) rfl (rl := [.tmp 4]) (.tmp .nil) rfl rfl rfl (.t _) trivial ⟨rfl, rfl⟩
    refine PC.cond_false rfl (not_t h_54) ?_; refine PC.skip ?_; refine thA_n ?_; obtain ⟨n55, h_56, hh1⟩ := bind_some hh1; refine PC.region ?_; refine PL.op rfl (Rd.moveT rfl) ?_; refine PL.op rfl (Rd.addM rfl rfl h_56) ?_; refine PL.op rfl (Rd.asnT rfl) ?_; refine PL.nil ?_; refine inA_n ?_; refine thA_n ?_; obtain ⟨n57, h_58, hh1⟩ := bind_some hh1; refine PC.region ?_; refine PL.op rfl (Rd.moveT rfl) ?_; refine PL.op rfl (Rd.addM rfl rfl h_58) ?_; refine PL.op rfl (Rd.asnT rfl) ?_; refine PL.nil ?_; obtain rfl := some_in hh1; refine thA_n ?_; exact ⟨(f31, (n55, n57)), Nat.lt_succ_self _, kk1, [], ⟨rfl, rfl, trivial, ⟨.t _, .t _, .t _, trivial⟩⟩⟩
  clear hh0
  rintro k28 hh0
  replace hh0 : m_L_heldColumnS_k1 N k28 = some r := hh0
  unfold m_L_heldColumnS_k1 at hh0; refine thA_n ?_; refine PC.seq ?_; refine PC.region ?_; refine PL.op rfl (Rd.moveT rfl) ?_; refine PL.op rfl (Rd.asnT rfl) ?_; refine PL.nil ?_; refine thA_n ?_; refine PC.ret ?_; obtain rfl := some_in hh0; exact FinA.mk (r := iA k28) (bl := []) [] (.inl rfl) rfl (rl := [.tmp 4]) (.tmp .nil) rfl rfl rfl (.t _) trivial ⟨rfl, rfl⟩
def m_L_heldChangeS_k1 (N : Nat) (k38 : Int) : Option (Int) :=
  some k38
def m_L_heldChangeS_b1 (N : Nat) (p_a : (List I_Change)) (k1 : Int) (i2 : Int) : Option ((Int × Int) ⊕ (Int ⊕ Int)) :=
  cond (decide (i2 < (p_a.length : Int)))
    ((ixI p_a i2).bind fun x45 =>
    cond (decide (x45.kind = k1))
      ((chk (k1 + (1 : Int))).bind fun n48 =>
      (ixI p_a i2).bind fun x50 =>
      cond (decide (x50.at_ = n48))
        ((chk (n48 + (1 : Int))).bind fun n53 =>
        (ixI p_a i2).bind fun x55 =>
        cond (decide (x55.column.kind = n53))
          ((chk (n53 + (1 : Int))).bind fun n58 =>
          (ixI p_a i2).bind fun x60 =>
          cond (decide (x60.column.default.kind = n58))
            ((chk (n58 + (1 : Int))).bind fun n63 =>
            (ixI p_a i2).bind fun x65 =>
            cond (decide (x65.column.default.num = n63))
              ((chk (n63 + (1 : Int))).bind fun n68 =>
              (ixI p_a i2).bind fun x70 =>
              (m_L_markText N n68).bind fun r72 =>
              cond (x70.column.default.text.toList == r72.toList)
                ((chk (n68 + (1 : Int))).bind fun n75 =>
                (chk (i2 + (1 : Int))).bind fun n77 =>
                some (.inl (n75, n77)))
                (some (.inr (.inr (-1 : Int)))))
              (some (.inr (.inr (-1 : Int)))))
            (some (.inr (.inr (-1 : Int)))))
          (some (.inr (.inr (-1 : Int)))))
        (some (.inr (.inr (-1 : Int)))))
      (some (.inr (.inr (-1 : Int)))))
    (some (.inr (.inl k1)))
def m_L_heldChangeS (N : Nat) (p_a : (List I_Change)) (p_k : Int) : Option (Int) :=
  (loopM (β := Int ⊕ Int) (fun s : Int × Int => m_L_heldChangeS_b1 N p_a s.1 s.2) N (p_k, (0 : Int))).bind fun o => match o with
  | .inl e =>
    m_L_heldChangeS_k1 N e
  | .inr v =>
    some v
theorem w_L_heldChangeS (N : Nat) (p_a : (List I_Change)) (p_k : Int) (r : Int) (hh0 : m_L_heldChangeS N p_a p_k = some r) : FnX Tryz.prog 40 [] [sL p_a, iA p_k] (RE (iA r) []) := by
  unfold m_L_heldChangeS at hh0; refine FnX.mk Tryz.func40 rfl rfl ?_; intro s hs; refine PC.seq ?_; refine PC.region ?_; refine PL.op rfl (Rd.asnT rfl) ?_; refine PL.nil ?_; refine thA_n ?_; (iterate 2 refine PC.seq ?_); refine PC.region ?_; refine PL.op rfl (Rd.asnT rfl) ?_; refine PL.nil ?_; refine thA_n ?_; obtain ⟨o39, h_40, hh0⟩ := bind_some hh0; refine PC.cutE hs (fun x : Int => [(1, iA x)]) (fun x => []) (fun x => m_L_heldChangeS_k1 N x = some r) ?_ ?_
  · refine PC.block ?_; refine PC.loop hs (fun x : Nat × (Int × Int) => [(0, sL p_a), (1, iA x.2.1), (5, iA x.2.2)]) (fun x => []) (fun x => loopM (β := Int ⊕ Int) (fun s : Int × Int => m_L_heldChangeS_b1 N p_a s.1 s.2) x.1 x.2 = some o39) (fun x => x.1) (N, (p_k, (0 : Int))) [] ⟨rfl, rfl, trivial, ⟨.t _, .t _, .t _, trivial⟩⟩ h_40 ?_
    rintro ⟨f41_, k1, i2⟩ h_43
    obtain ⟨f41, y42, rfl, hh1, kk1⟩ := loopM_some h_43
    replace hh1 : m_L_heldChangeS_b1 N p_a k1 i2 = some y42 := hh1
    unfold m_L_heldChangeS_b1 at hh1; (iterate 2 refine PC.seq ?_); refine PC.region ?_; (iterate 2 refine PL.op rfl (Rd.moveT rfl) ?_); refine PL.op rfl (Rd.lenT rfl) ?_; refine PL.op rfl (Rd.lss rfl rfl) ?_; refine PL.nil ?_; refine thA_n ?_; rcases cond_some hh1 with ⟨h_44, hh1⟩ | ⟨h_44, hh1⟩; rotate_left
    · refine PC.cond_false rfl h_44 ?_; refine PC.exit ?_; (iterate 2 refine thA_e ?_); refine inA_eq rfl ?_; refine thA_n ?_; obtain rfl := some_in hh1; obtain rfl : (.inl k1 : Int ⊕ Int) = o39 := kk1; exact ⟨k1, hh0, [], ⟨rfl, rfl, trivial, ⟨.t _, trivial⟩⟩⟩
    refine PC.cond_true rfl h_44 ?_; refine PC.skip ?_; refine thA_n ?_; refine PC.seq ?_; refine PC.block ?_; (iterate 2 refine PC.seq ?_); obtain ⟨x45, h_46, hh1⟩ := bind_some hh1; refine PC.region ?_; (iterate 2 refine PL.op rfl (Rd.moveT rfl) ?_); refine PL.op rfl (Rd.ixM rfl rfl h_46) ?_; refine PL.op rfl (Rd.fieldT rfl) ?_; refine PL.op rfl (Rd.elMF (f := 0) rfl h_46 rfl rfl) ?_; refine PL.op rfl (Rd.moveT rfl) ?_; refine PL.op rfl (Rd.neq rfl rfl) ?_; refine PL.nil ?_; refine thA_n ?_; rcases cond_some hh1 with ⟨h_47, hh1⟩ | ⟨h_47, hh1⟩; rotate_left
    · refine PC.cond_true rfl (not_f h_47) ?_; refine PC.seq ?_; refine PC.region ?_; refine PL.op rfl (Rd.asnT rfl) ?_; refine PL.nil ?_; refine thA_n ?_; refine PC.ret ?_; refine thA_r ?_; refine inA_r ?_; (iterate 2 refine thA_r ?_); refine inA_r ?_; refine thA_r ?_; obtain rfl := some_in hh1; obtain rfl : (.inr (-1 : Int) : Int ⊕ Int) = o39 := kk1; refine thA_r ?_; obtain rfl := some_in hh0; exact FinA.mk (r := iA (-1 : Int)) (bl := []) [] (.inl rfl) rfl (rl := [.tmp 4]) (.tmp .nil) rfl rfl rfl (.t _) trivial ⟨rfl, rfl⟩
    refine PC.cond_false rfl (not_t h_47) ?_; refine PC.skip ?_; refine thA_n ?_; refine PC.seq ?_; obtain ⟨n48, h_49, hh1⟩ := bind_some hh1; refine PC.region ?_; refine PL.op rfl (Rd.moveT rfl) ?_; refine PL.op rfl (Rd.addM rfl rfl h_49) ?_; refine PL.op rfl (Rd.asnT rfl) ?_; refine PL.nil ?_; refine thA_n ?_; (iterate 2 refine PC.seq ?_); obtain ⟨x50, h_51, hh1⟩ := bind_some hh1; refine PC.region ?_; (iterate 2 refine PL.op rfl (Rd.moveT rfl) ?_); refine PL.op rfl (Rd.ixM rfl rfl h_51) ?_; refine PL.op rfl (Rd.fieldT rfl) ?_; refine PL.op rfl (Rd.elMF (f := 1) rfl h_51 rfl rfl) ?_; refine PL.op rfl (Rd.moveT rfl) ?_; refine PL.op rfl (Rd.neq rfl rfl) ?_; refine PL.nil ?_; refine thA_n ?_; rcases cond_some hh1 with ⟨h_52, hh1⟩ | ⟨h_52, hh1⟩; rotate_left
    · refine PC.cond_true rfl (not_f h_52) ?_; refine PC.seq ?_; refine PC.region ?_; refine PL.op rfl (Rd.asnT rfl) ?_; refine PL.nil ?_; refine thA_n ?_; refine PC.ret ?_; refine thA_r ?_; refine inA_r ?_; (iterate 2 refine thA_r ?_); refine inA_r ?_; refine thA_r ?_; obtain rfl := some_in hh1; obtain rfl : (.inr (-1 : Int) : Int ⊕ Int) = o39 := kk1; refine thA_r ?_; obtain rfl := some_in hh0; exact FinA.mk (r := iA (-1 : Int)) (bl := []) [] (.inl rfl) rfl (rl := [.tmp 4]) (.tmp .nil) rfl rfl rfl (.t _) trivial ⟨rfl, rfl⟩
    refine PC.cond_false rfl (not_t h_52) ?_; refine PC.skip ?_; refine thA_n ?_; refine PC.seq ?_; obtain ⟨n53, h_54, hh1⟩ := bind_some hh1; refine PC.region ?_; refine PL.op rfl (Rd.moveT rfl) ?_; refine PL.op rfl (Rd.addM rfl rfl h_54) ?_; refine PL.op rfl (Rd.asnT rfl) ?_; refine PL.nil ?_; refine thA_n ?_; (iterate 2 refine PC.seq ?_); obtain ⟨x55, h_56, hh1⟩ := bind_some hh1; refine PC.region ?_; (iterate 2 refine PL.op rfl (Rd.moveT rfl) ?_); refine PL.op rfl (Rd.ixM rfl rfl h_56) ?_; (iterate 2 refine PL.op rfl (Rd.fieldT rfl) ?_); refine PL.op rfl (Rd.elMF (f := 2) rfl h_56 rfl rfl) ?_; refine PL.op rfl (Rd.moveT rfl) ?_; refine PL.op rfl (Rd.neq rfl rfl) ?_; refine PL.nil ?_; refine thA_n ?_; rcases cond_some hh1 with ⟨h_57, hh1⟩ | ⟨h_57, hh1⟩; rotate_left
    · refine PC.cond_true rfl (not_f h_57) ?_; refine PC.seq ?_; refine PC.region ?_; refine PL.op rfl (Rd.asnT rfl) ?_; refine PL.nil ?_; refine thA_n ?_; refine PC.ret ?_; refine thA_r ?_; refine inA_r ?_; (iterate 2 refine thA_r ?_); refine inA_r ?_; refine thA_r ?_; obtain rfl := some_in hh1; obtain rfl : (.inr (-1 : Int) : Int ⊕ Int) = o39 := kk1; refine thA_r ?_; obtain rfl := some_in hh0; exact FinA.mk (r := iA (-1 : Int)) (bl := []) [] (.inl rfl) rfl (rl := [.tmp 4]) (.tmp .nil) rfl rfl rfl (.t _) trivial ⟨rfl, rfl⟩
    refine PC.cond_false rfl (not_t h_57) ?_; refine PC.skip ?_; refine thA_n ?_; refine PC.seq ?_; obtain ⟨n58, h_59, hh1⟩ := bind_some hh1; refine PC.region ?_; refine PL.op rfl (Rd.moveT rfl) ?_; refine PL.op rfl (Rd.addM rfl rfl h_59) ?_; refine PL.op rfl (Rd.asnT rfl) ?_; refine PL.nil ?_; refine thA_n ?_; (iterate 2 refine PC.seq ?_); obtain ⟨x60, h_61, hh1⟩ := bind_some hh1; refine PC.region ?_; (iterate 2 refine PL.op rfl (Rd.moveT rfl) ?_); refine PL.op rfl (Rd.ixM rfl rfl h_61) ?_; (iterate 3 refine PL.op rfl (Rd.fieldT rfl) ?_); refine PL.op rfl (Rd.elMF (f := 3) rfl h_61 rfl rfl) ?_; refine PL.op rfl (Rd.moveT rfl) ?_; refine PL.op rfl (Rd.neq rfl rfl) ?_; refine PL.nil ?_; refine thA_n ?_; rcases cond_some hh1 with ⟨h_62, hh1⟩ | ⟨h_62, hh1⟩; rotate_left
    · refine PC.cond_true rfl (not_f h_62) ?_; refine PC.seq ?_; refine PC.region ?_; refine PL.op rfl (Rd.asnT rfl) ?_; refine PL.nil ?_; refine thA_n ?_; refine PC.ret ?_; refine thA_r ?_; refine inA_r ?_; (iterate 2 refine thA_r ?_); refine inA_r ?_; refine thA_r ?_; obtain rfl := some_in hh1; obtain rfl : (.inr (-1 : Int) : Int ⊕ Int) = o39 := kk1; refine thA_r ?_; obtain rfl := some_in hh0; exact FinA.mk (r := iA (-1 : Int)) (bl := []) [] (.inl rfl) rfl (rl := [.tmp 4]) (.tmp .nil) rfl rfl rfl (.t _) trivial ⟨rfl, rfl⟩
    refine PC.cond_false rfl (not_t h_62) ?_; refine PC.skip ?_; refine thA_n ?_; refine PC.seq ?_; obtain ⟨n63, h_64, hh1⟩ := bind_some hh1; refine PC.region ?_; refine PL.op rfl (Rd.moveT rfl) ?_; refine PL.op rfl (Rd.addM rfl rfl h_64) ?_; refine PL.op rfl (Rd.asnT rfl) ?_; refine PL.nil ?_; refine thA_n ?_; (iterate 2 refine PC.seq ?_); obtain ⟨x65, h_66, hh1⟩ := bind_some hh1; refine PC.region ?_; (iterate 2 refine PL.op rfl (Rd.moveT rfl) ?_); refine PL.op rfl (Rd.ixM rfl rfl h_66) ?_; (iterate 3 refine PL.op rfl (Rd.fieldT rfl) ?_); refine PL.op rfl (Rd.elMF (f := 4) rfl h_66 rfl rfl) ?_; refine PL.op rfl (Rd.moveT rfl) ?_; refine PL.op rfl (Rd.neq rfl rfl) ?_; refine PL.nil ?_; refine thA_n ?_; rcases cond_some hh1 with ⟨h_67, hh1⟩ | ⟨h_67, hh1⟩; rotate_left
    · refine PC.cond_true rfl (not_f h_67) ?_; refine PC.seq ?_; refine PC.region ?_; refine PL.op rfl (Rd.asnT rfl) ?_; refine PL.nil ?_; refine thA_n ?_; refine PC.ret ?_; refine thA_r ?_; refine inA_r ?_; (iterate 2 refine thA_r ?_); refine inA_r ?_; refine thA_r ?_; obtain rfl := some_in hh1; obtain rfl : (.inr (-1 : Int) : Int ⊕ Int) = o39 := kk1; refine thA_r ?_; obtain rfl := some_in hh0; exact FinA.mk (r := iA (-1 : Int)) (bl := []) [] (.inl rfl) rfl (rl := [.tmp 4]) (.tmp .nil) rfl rfl rfl (.t _) trivial ⟨rfl, rfl⟩
    refine PC.cond_false rfl (not_t h_67) ?_; refine PC.skip ?_; refine thA_n ?_; refine PC.seq ?_; obtain ⟨n68, h_69, hh1⟩ := bind_some hh1; refine PC.region ?_; refine PL.op rfl (Rd.moveT rfl) ?_; refine PL.op rfl (Rd.addM rfl rfl h_69) ?_; refine PL.op rfl (Rd.asnT rfl) ?_; refine PL.nil ?_; refine thA_n ?_; (iterate 2 refine PC.seq ?_); obtain ⟨x70, h_71, hh1⟩ := bind_some hh1; obtain ⟨r72, h_73, hh1⟩ := bind_some hh1; refine PC.any (id := 19) 10 (.seg [0, 1, 2, 3, 4, 5, 6, 7, 8, 9] .done) [] rfl (by kernel_rfl) rfl ?_; refine PT.seg ?_; (iterate 2 refine PR.op rfl (Rd.moveT rfl) ?_); refine PR.op rfl (Rd.ixM rfl rfl h_71) ?_; (iterate 3 refine PR.op rfl (Rd.fieldT rfl) ?_); refine PR.op rfl (Rd.elMF (f := 5) rfl h_71 rfl rfl) ?_; refine PR.op rfl (Rd.moveT rfl) ?_; refine PR.callM false [] (w_L_markText N n68 r72 h_73) rfl Tryz.call59 rfl ⟨.t _, trivial⟩ rfl trivial (fun h => by cases h) rfl ?_; refine PR.op rfl (Rd.neqS rfl rfl) ?_; refine PR.nil ?_; refine PT.done ?_; refine PL.nil ?_; refine thA_n ?_; rcases cond_some hh1 with ⟨h_74, hh1⟩ | ⟨h_74, hh1⟩; rotate_left
    · refine PC.cond_true rfl (not_f h_74) ?_; refine PC.seq ?_; refine PC.region ?_; refine PL.op rfl (Rd.asnT rfl) ?_; refine PL.nil ?_; refine thA_n ?_; refine PC.ret ?_; refine thA_r ?_; refine inA_r ?_; (iterate 2 refine thA_r ?_); refine inA_r ?_; refine thA_r ?_; obtain rfl := some_in hh1; obtain rfl : (.inr (-1 : Int) : Int ⊕ Int) = o39 := kk1; refine thA_r ?_; obtain rfl := some_in hh0; exact FinA.mk (r := iA (-1 : Int)) (bl := []) [] (.inl rfl) rfl (rl := [.tmp 4]) (.tmp .nil) rfl rfl rfl (.t _) trivial ⟨rfl, rfl⟩
    refine PC.cond_false rfl (not_t h_74) ?_; refine PC.skip ?_; refine thA_n ?_; obtain ⟨n75, h_76, hh1⟩ := bind_some hh1; refine PC.region ?_; refine PL.op rfl (Rd.moveT rfl) ?_; refine PL.op rfl (Rd.addM rfl rfl h_76) ?_; refine PL.op rfl (Rd.asnT rfl) ?_; refine PL.nil ?_; refine inA_n ?_; refine thA_n ?_; obtain ⟨n77, h_78, hh1⟩ := bind_some hh1; refine PC.region ?_; refine PL.op rfl (Rd.moveT rfl) ?_; refine PL.op rfl (Rd.addM rfl rfl h_78) ?_; refine PL.op rfl (Rd.asnT rfl) ?_; refine PL.nil ?_; obtain rfl := some_in hh1; refine thA_n ?_; exact ⟨(f41, (n75, n77)), Nat.lt_succ_self _, kk1, [], ⟨rfl, rfl, trivial, ⟨.t _, .t _, .t _, trivial⟩⟩⟩
  clear hh0
  rintro k38 hh0
  replace hh0 : m_L_heldChangeS_k1 N k38 = some r := hh0
  unfold m_L_heldChangeS_k1 at hh0; refine thA_n ?_; refine PC.seq ?_; refine PC.region ?_; refine PL.op rfl (Rd.moveT rfl) ?_; refine PL.op rfl (Rd.asnT rfl) ?_; refine PL.nil ?_; refine thA_n ?_; refine PC.ret ?_; obtain rfl := some_in hh0; exact FinA.mk (r := iA k38) (bl := []) [] (.inl rfl) rfl (rl := [.tmp 4]) (.tmp .nil) rfl rfl rfl (.t _) trivial ⟨rfl, rfl⟩
def m_L_heldValueS_k1 (N : Nat) (k23 : Int) : Option (Int) :=
  some k23
def m_L_heldValueS_b1 (N : Nat) (p_a : (List I_Value)) (k1 : Int) (i2 : Int) : Option ((Int × Int) ⊕ (Int ⊕ Int)) :=
  cond (decide (i2 < (p_a.length : Int)))
    ((ixI p_a i2).bind fun x30 =>
    cond (decide (x30.kind = k1))
      ((chk (k1 + (1 : Int))).bind fun n33 =>
      (ixI p_a i2).bind fun x35 =>
      cond (decide (x35.num = n33))
        ((chk (n33 + (1 : Int))).bind fun n38 =>
        (ixI p_a i2).bind fun x40 =>
        (m_L_markText N n38).bind fun r42 =>
        cond (x40.text.toList == r42.toList)
          ((chk (n38 + (1 : Int))).bind fun n45 =>
          (chk (i2 + (1 : Int))).bind fun n47 =>
          some (.inl (n45, n47)))
          (some (.inr (.inr (-1 : Int)))))
        (some (.inr (.inr (-1 : Int)))))
      (some (.inr (.inr (-1 : Int)))))
    (some (.inr (.inl k1)))
def m_L_heldValueS (N : Nat) (p_a : (List I_Value)) (p_k : Int) : Option (Int) :=
  (loopM (β := Int ⊕ Int) (fun s : Int × Int => m_L_heldValueS_b1 N p_a s.1 s.2) N (p_k, (0 : Int))).bind fun o => match o with
  | .inl e =>
    m_L_heldValueS_k1 N e
  | .inr v =>
    some v
theorem w_L_heldValueS (N : Nat) (p_a : (List I_Value)) (p_k : Int) (r : Int) (hh0 : m_L_heldValueS N p_a p_k = some r) : FnX Tryz.prog 35 [] [sL p_a, iA p_k] (RE (iA r) []) := by
  unfold m_L_heldValueS at hh0; refine FnX.mk Tryz.func35 rfl rfl ?_; intro s hs; refine PC.seq ?_; refine PC.region ?_; refine PL.op rfl (Rd.asnT rfl) ?_; refine PL.nil ?_; refine thA_n ?_; (iterate 2 refine PC.seq ?_); refine PC.region ?_; refine PL.op rfl (Rd.asnT rfl) ?_; refine PL.nil ?_; refine thA_n ?_; obtain ⟨o24, h_25, hh0⟩ := bind_some hh0; refine PC.cutE hs (fun x : Int => [(1, iA x)]) (fun x => []) (fun x => m_L_heldValueS_k1 N x = some r) ?_ ?_
  · refine PC.block ?_; refine PC.loop hs (fun x : Nat × (Int × Int) => [(0, sL p_a), (1, iA x.2.1), (5, iA x.2.2)]) (fun x => []) (fun x => loopM (β := Int ⊕ Int) (fun s : Int × Int => m_L_heldValueS_b1 N p_a s.1 s.2) x.1 x.2 = some o24) (fun x => x.1) (N, (p_k, (0 : Int))) [] ⟨rfl, rfl, trivial, ⟨.t _, .t _, .t _, trivial⟩⟩ h_25 ?_
    rintro ⟨f26_, k1, i2⟩ h_28
    obtain ⟨f26, y27, rfl, hh1, kk1⟩ := loopM_some h_28
    replace hh1 : m_L_heldValueS_b1 N p_a k1 i2 = some y27 := hh1
    unfold m_L_heldValueS_b1 at hh1; (iterate 2 refine PC.seq ?_); refine PC.region ?_; (iterate 2 refine PL.op rfl (Rd.moveT rfl) ?_); refine PL.op rfl (Rd.lenT rfl) ?_; refine PL.op rfl (Rd.lss rfl rfl) ?_; refine PL.nil ?_; refine thA_n ?_; rcases cond_some hh1 with ⟨h_29, hh1⟩ | ⟨h_29, hh1⟩; rotate_left
    · refine PC.cond_false rfl h_29 ?_; refine PC.exit ?_; (iterate 2 refine thA_e ?_); refine inA_eq rfl ?_; refine thA_n ?_; obtain rfl := some_in hh1; obtain rfl : (.inl k1 : Int ⊕ Int) = o24 := kk1; exact ⟨k1, hh0, [], ⟨rfl, rfl, trivial, ⟨.t _, trivial⟩⟩⟩
    refine PC.cond_true rfl h_29 ?_; refine PC.skip ?_; refine thA_n ?_; refine PC.seq ?_; refine PC.block ?_; (iterate 2 refine PC.seq ?_); obtain ⟨x30, h_31, hh1⟩ := bind_some hh1; refine PC.region ?_; (iterate 2 refine PL.op rfl (Rd.moveT rfl) ?_); refine PL.op rfl (Rd.ixM rfl rfl h_31) ?_; refine PL.op rfl (Rd.fieldT rfl) ?_; refine PL.op rfl (Rd.elMF (f := 0) rfl h_31 rfl rfl) ?_; refine PL.op rfl (Rd.moveT rfl) ?_; refine PL.op rfl (Rd.neq rfl rfl) ?_; refine PL.nil ?_; refine thA_n ?_; rcases cond_some hh1 with ⟨h_32, hh1⟩ | ⟨h_32, hh1⟩; rotate_left
    · refine PC.cond_true rfl (not_f h_32) ?_; refine PC.seq ?_; refine PC.region ?_; refine PL.op rfl (Rd.asnT rfl) ?_; refine PL.nil ?_; refine thA_n ?_; refine PC.ret ?_; refine thA_r ?_; refine inA_r ?_; (iterate 2 refine thA_r ?_); refine inA_r ?_; refine thA_r ?_; obtain rfl := some_in hh1; obtain rfl : (.inr (-1 : Int) : Int ⊕ Int) = o24 := kk1; refine thA_r ?_; obtain rfl := some_in hh0; exact FinA.mk (r := iA (-1 : Int)) (bl := []) [] (.inl rfl) rfl (rl := [.tmp 4]) (.tmp .nil) rfl rfl rfl (.t _) trivial ⟨rfl, rfl⟩
    refine PC.cond_false rfl (not_t h_32) ?_; refine PC.skip ?_; refine thA_n ?_; refine PC.seq ?_; obtain ⟨n33, h_34, hh1⟩ := bind_some hh1; refine PC.region ?_; refine PL.op rfl (Rd.moveT rfl) ?_; refine PL.op rfl (Rd.addM rfl rfl h_34) ?_; refine PL.op rfl (Rd.asnT rfl) ?_; refine PL.nil ?_; refine thA_n ?_; (iterate 2 refine PC.seq ?_); obtain ⟨x35, h_36, hh1⟩ := bind_some hh1; refine PC.region ?_; (iterate 2 refine PL.op rfl (Rd.moveT rfl) ?_); refine PL.op rfl (Rd.ixM rfl rfl h_36) ?_; refine PL.op rfl (Rd.fieldT rfl) ?_; refine PL.op rfl (Rd.elMF (f := 1) rfl h_36 rfl rfl) ?_; refine PL.op rfl (Rd.moveT rfl) ?_; refine PL.op rfl (Rd.neq rfl rfl) ?_; refine PL.nil ?_; refine thA_n ?_; rcases cond_some hh1 with ⟨h_37, hh1⟩ | ⟨h_37, hh1⟩; rotate_left
    · refine PC.cond_true rfl (not_f h_37) ?_; refine PC.seq ?_; refine PC.region ?_; refine PL.op rfl (Rd.asnT rfl) ?_; refine PL.nil ?_; refine thA_n ?_; refine PC.ret ?_; refine thA_r ?_; refine inA_r ?_; (iterate 2 refine thA_r ?_); refine inA_r ?_; refine thA_r ?_; obtain rfl := some_in hh1; obtain rfl : (.inr (-1 : Int) : Int ⊕ Int) = o24 := kk1; refine thA_r ?_; obtain rfl := some_in hh0; exact FinA.mk (r := iA (-1 : Int)) (bl := []) [] (.inl rfl) rfl (rl := [.tmp 4]) (.tmp .nil) rfl rfl rfl (.t _) trivial ⟨rfl, rfl⟩
    refine PC.cond_false rfl (not_t h_37) ?_; refine PC.skip ?_; refine thA_n ?_; refine PC.seq ?_; obtain ⟨n38, h_39, hh1⟩ := bind_some hh1; refine PC.region ?_; refine PL.op rfl (Rd.moveT rfl) ?_; refine PL.op rfl (Rd.addM rfl rfl h_39) ?_; refine PL.op rfl (Rd.asnT rfl) ?_; refine PL.nil ?_; refine thA_n ?_; (iterate 2 refine PC.seq ?_); obtain ⟨x40, h_41, hh1⟩ := bind_some hh1; obtain ⟨r42, h_43, hh1⟩ := bind_some hh1; refine PC.any (id := 10) 8 (.seg [0, 1, 2, 3, 4, 5, 6, 7] .done) [] rfl (by kernel_rfl) rfl ?_; refine PT.seg ?_; (iterate 2 refine PR.op rfl (Rd.moveT rfl) ?_); refine PR.op rfl (Rd.ixM rfl rfl h_41) ?_; refine PR.op rfl (Rd.fieldT rfl) ?_; refine PR.op rfl (Rd.elMF (f := 2) rfl h_41 rfl rfl) ?_; refine PR.op rfl (Rd.moveT rfl) ?_; refine PR.callM false [] (w_L_markText N n38 r42 h_43) rfl Tryz.call59 rfl ⟨.t _, trivial⟩ rfl trivial (fun h => by cases h) rfl ?_; refine PR.op rfl (Rd.neqS rfl rfl) ?_; refine PR.nil ?_; refine PT.done ?_; refine PL.nil ?_; refine thA_n ?_; rcases cond_some hh1 with ⟨h_44, hh1⟩ | ⟨h_44, hh1⟩; rotate_left
    · refine PC.cond_true rfl (not_f h_44) ?_; refine PC.seq ?_; refine PC.region ?_; refine PL.op rfl (Rd.asnT rfl) ?_; refine PL.nil ?_; refine thA_n ?_; refine PC.ret ?_; refine thA_r ?_; refine inA_r ?_; (iterate 2 refine thA_r ?_); refine inA_r ?_; refine thA_r ?_; obtain rfl := some_in hh1; obtain rfl : (.inr (-1 : Int) : Int ⊕ Int) = o24 := kk1; refine thA_r ?_; obtain rfl := some_in hh0; exact FinA.mk (r := iA (-1 : Int)) (bl := []) [] (.inl rfl) rfl (rl := [.tmp 4]) (.tmp .nil) rfl rfl rfl (.t _) trivial ⟨rfl, rfl⟩
    refine PC.cond_false rfl (not_t h_44) ?_; refine PC.skip ?_; refine thA_n ?_; obtain ⟨n45, h_46, hh1⟩ := bind_some hh1; refine PC.region ?_; refine PL.op rfl (Rd.moveT rfl) ?_; refine PL.op rfl (Rd.addM rfl rfl h_46) ?_; refine PL.op rfl (Rd.asnT rfl) ?_; refine PL.nil ?_; refine inA_n ?_; refine thA_n ?_; obtain ⟨n47, h_48, hh1⟩ := bind_some hh1; refine PC.region ?_; refine PL.op rfl (Rd.moveT rfl) ?_; refine PL.op rfl (Rd.addM rfl rfl h_48) ?_; refine PL.op rfl (Rd.asnT rfl) ?_; refine PL.nil ?_; obtain rfl := some_in hh1; refine thA_n ?_; exact ⟨(f26, (n45, n47)), Nat.lt_succ_self _, kk1, [], ⟨rfl, rfl, trivial, ⟨.t _, .t _, .t _, trivial⟩⟩⟩
  clear hh0
  rintro k23 hh0
  replace hh0 : m_L_heldValueS_k1 N k23 = some r := hh0
  unfold m_L_heldValueS_k1 at hh0; refine thA_n ?_; refine PC.seq ?_; refine PC.region ?_; refine PL.op rfl (Rd.moveT rfl) ?_; refine PL.op rfl (Rd.asnT rfl) ?_; refine PL.nil ?_; refine thA_n ?_; refine PC.ret ?_; obtain rfl := some_in hh0; exact FinA.mk (r := iA k23) (bl := []) [] (.inl rfl) rfl (rl := [.tmp 4]) (.tmp .nil) rfl rfl rfl (.t _) trivial ⟨rfl, rfl⟩
def m_L_heldTaggedS_k1 (N : Nat) (k16 : Int) : Option (Int) :=
  some k16
def m_L_heldTaggedS_b1 (N : Nat) (p_a : (List I_Tagged)) (k1 : Int) (i2 : Int) : Option ((Int × Int) ⊕ (Int ⊕ Int)) :=
  cond (decide (i2 < (p_a.length : Int)))
    ((ixI p_a i2).bind fun x23 =>
    cond (decide (x23.tag = k1))
      ((chk (k1 + (1 : Int))).bind fun n26 =>
      (ixI p_a i2).bind fun x28 =>
      (m_L_heldValueS N x28.row n26).bind fun r30 =>
      cond (decide (r30 < (0 : Int)))
        (some (.inr (.inr (-1 : Int))))
        ((chk (i2 + (1 : Int))).bind fun n33 =>
        some (.inl (r30, n33))))
      (some (.inr (.inr (-1 : Int)))))
    (some (.inr (.inl k1)))
def m_L_heldTaggedS (N : Nat) (p_a : (List I_Tagged)) (p_k : Int) : Option (Int) :=
  (loopM (β := Int ⊕ Int) (fun s : Int × Int => m_L_heldTaggedS_b1 N p_a s.1 s.2) N (p_k, (0 : Int))).bind fun o => match o with
  | .inl e =>
    m_L_heldTaggedS_k1 N e
  | .inr v =>
    some v
theorem w_L_heldTaggedS (N : Nat) (p_a : (List I_Tagged)) (p_k : Int) (r : Int) (hh0 : m_L_heldTaggedS N p_a p_k = some r) : FnX Tryz.prog 41 [] [sL p_a, iA p_k] (RE (iA r) []) := by
  unfold m_L_heldTaggedS at hh0; refine FnX.mk Tryz.func41 rfl rfl ?_; intro s hs; refine PC.seq ?_; refine PC.region ?_; refine PL.op rfl (Rd.asnT rfl) ?_; refine PL.nil ?_; refine thA_n ?_; (iterate 2 refine PC.seq ?_); refine PC.region ?_; refine PL.op rfl (Rd.asnT rfl) ?_; refine PL.nil ?_; refine thA_n ?_; obtain ⟨o17, h_18, hh0⟩ := bind_some hh0; refine PC.cutE hs (fun x : Int => [(1, iA x)]) (fun x => []) (fun x => m_L_heldTaggedS_k1 N x = some r) ?_ ?_
  · refine PC.block ?_; refine PC.loop hs (fun x : Nat × (Int × Int) => [(0, sL p_a), (1, iA x.2.1), (5, iA x.2.2)]) (fun x => []) (fun x => loopM (β := Int ⊕ Int) (fun s : Int × Int => m_L_heldTaggedS_b1 N p_a s.1 s.2) x.1 x.2 = some o17) (fun x => x.1) (N, (p_k, (0 : Int))) [] ⟨rfl, rfl, trivial, ⟨.t _, .t _, .t _, trivial⟩⟩ h_18 ?_
    rintro ⟨f19_, k1, i2⟩ h_21
    obtain ⟨f19, y20, rfl, hh1, kk1⟩ := loopM_some h_21
    replace hh1 : m_L_heldTaggedS_b1 N p_a k1 i2 = some y20 := hh1
    unfold m_L_heldTaggedS_b1 at hh1; (iterate 2 refine PC.seq ?_); refine PC.region ?_; (iterate 2 refine PL.op rfl (Rd.moveT rfl) ?_); refine PL.op rfl (Rd.lenT rfl) ?_; refine PL.op rfl (Rd.lss rfl rfl) ?_; refine PL.nil ?_; refine thA_n ?_; rcases cond_some hh1 with ⟨h_22, hh1⟩ | ⟨h_22, hh1⟩; rotate_left
    · refine PC.cond_false rfl h_22 ?_; refine PC.exit ?_; (iterate 2 refine thA_e ?_); refine inA_eq rfl ?_; refine thA_n ?_; obtain rfl := some_in hh1; obtain rfl : (.inl k1 : Int ⊕ Int) = o17 := kk1; exact ⟨k1, hh0, [], ⟨rfl, rfl, trivial, ⟨.t _, trivial⟩⟩⟩
    refine PC.cond_true rfl h_22 ?_; refine PC.skip ?_; refine thA_n ?_; refine PC.seq ?_; refine PC.block ?_; (iterate 2 refine PC.seq ?_); obtain ⟨x23, h_24, hh1⟩ := bind_some hh1; refine PC.region ?_; (iterate 2 refine PL.op rfl (Rd.moveT rfl) ?_); refine PL.op rfl (Rd.ixM rfl rfl h_24) ?_; refine PL.op rfl (Rd.fieldT rfl) ?_; refine PL.op rfl (Rd.elMF (f := 0) rfl h_24 rfl rfl) ?_; refine PL.op rfl (Rd.moveT rfl) ?_; refine PL.op rfl (Rd.neq rfl rfl) ?_; refine PL.nil ?_; refine thA_n ?_; rcases cond_some hh1 with ⟨h_25, hh1⟩ | ⟨h_25, hh1⟩; rotate_left
    · refine PC.cond_true rfl (not_f h_25) ?_; refine PC.seq ?_; refine PC.region ?_; refine PL.op rfl (Rd.asnT rfl) ?_; refine PL.nil ?_; refine thA_n ?_; refine PC.ret ?_; refine thA_r ?_; refine inA_r ?_; (iterate 2 refine thA_r ?_); refine inA_r ?_; refine thA_r ?_; obtain rfl := some_in hh1; obtain rfl : (.inr (-1 : Int) : Int ⊕ Int) = o17 := kk1; refine thA_r ?_; obtain rfl := some_in hh0; exact FinA.mk (r := iA (-1 : Int)) (bl := []) [] (.inl rfl) rfl (rl := [.tmp 4]) (.tmp .nil) rfl rfl rfl (.t _) trivial ⟨rfl, rfl⟩
    refine PC.cond_false rfl (not_t h_25) ?_; refine PC.skip ?_; refine thA_n ?_; refine PC.seq ?_; obtain ⟨n26, h_27, hh1⟩ := bind_some hh1; refine PC.region ?_; refine PL.op rfl (Rd.moveT rfl) ?_; refine PL.op rfl (Rd.addM rfl rfl h_27) ?_; refine PL.op rfl (Rd.asnT rfl) ?_; refine PL.nil ?_; refine thA_n ?_; refine PC.seq ?_; obtain ⟨x28, h_29, hh1⟩ := bind_some hh1; obtain ⟨r30, h_31, hh1⟩ := bind_some hh1; refine PC.region ?_; (iterate 2 refine PL.op rfl (Rd.moveT rfl) ?_); refine PL.op rfl (Rd.ixM rfl rfl h_29) ?_; refine PL.op rfl (Rd.fieldT rfl) ?_; refine PL.op rfl (Rd.elMF (f := 1) rfl h_29 rfl rfl) ?_; refine PL.op rfl (Rd.moveT rfl) ?_; refine PL.callM false [] (w_L_heldValueS N x28.row n26 r30 h_31) rfl Tryz.call35 rfl ⟨.t _, .t _, trivial⟩ rfl trivial (fun h => by cases h) ?_; refine PL.op rfl (Rd.asnT rfl) ?_; refine PL.nil ?_; refine thA_n ?_; refine PC.seq ?_; refine PC.region ?_; refine PL.op rfl (Rd.moveT rfl) ?_; refine PL.op rfl (Rd.lss rfl rfl) ?_; refine PL.nil ?_; refine thA_n ?_; rcases cond_some hh1 with ⟨h_32, hh1⟩ | ⟨h_32, hh1⟩; rotate_left
    · refine PC.cond_false rfl h_32 ?_; refine PC.skip ?_; refine inA_n ?_; refine thA_n ?_; obtain ⟨n33, h_34, hh1⟩ := bind_some hh1; refine PC.region ?_; refine PL.op rfl (Rd.moveT rfl) ?_; refine PL.op rfl (Rd.addM rfl rfl h_34) ?_; refine PL.op rfl (Rd.asnT rfl) ?_; refine PL.nil ?_; obtain rfl := some_in hh1; refine thA_n ?_; exact ⟨(f19, (r30, n33)), Nat.lt_succ_self _, kk1, [], ⟨rfl, rfl, trivial, ⟨.t _, .t _, .t _, trivial⟩⟩⟩
    refine PC.cond_true rfl h_32 ?_; refine PC.seq ?_; refine PC.region ?_; refine PL.op rfl (Rd.asnT rfl) ?_; refine PL.nil ?_; refine thA_n ?_; refine PC.ret ?_; refine inA_r ?_; (iterate 2 refine thA_r ?_); refine inA_r ?_; refine thA_r ?_; obtain rfl := some_in hh1; obtain rfl : (.inr (-1 : Int) : Int ⊕ Int) = o17 := kk1; refine thA_r ?_; obtain rfl := some_in hh0; exact FinA.mk (r := iA (-1 : Int)) (bl := []) [] (.inl rfl) rfl (rl := [.tmp 4]) (.tmp .nil) rfl rfl rfl (.t _) trivial ⟨rfl, rfl⟩
  clear hh0
  rintro k16 hh0
  replace hh0 : m_L_heldTaggedS_k1 N k16 = some r := hh0
  unfold m_L_heldTaggedS_k1 at hh0; refine thA_n ?_; refine PC.seq ?_; refine PC.region ?_; refine PL.op rfl (Rd.moveT rfl) ?_; refine PL.op rfl (Rd.asnT rfl) ?_; refine PL.nil ?_; refine thA_n ?_; refine PC.ret ?_; obtain rfl := some_in hh0; exact FinA.mk (r := iA k16) (bl := []) [] (.inl rfl) rfl (rl := [.tmp 4]) (.tmp .nil) rfl rfl rfl (.t _) trivial ⟨rfl, rfl⟩
end V
end Go.Proofs.YtikobdnhflcnmaaGreatDoor
namespace Go.Proofs.YtikobdnhflcnmaaGreatDoor
namespace V
open Enc (enc)
set_option linter.unusedVariables false
set_option linter.unusedSimpArgs false
set_option maxHeartbeats 4000000
set_option maxRecDepth 100000
open Go.RowKit
attribute [local irreducible] thA inA FinA eL
def m_L_heldTable (N : Nat) (p_a : I_Table) (p_k : Int) : Option (Int) :=
  (m_L_heldColumnS N p_a.first p_k).bind fun r1 =>
  cond (decide (r1 < (0 : Int)))
    (some (-1 : Int))
    ((m_L_heldChangeS N p_a.changes r1).bind fun r4 =>
    cond (decide (r4 < (0 : Int)))
      (some (-1 : Int))
      ((m_L_heldTaggedS N p_a.rows r4).bind fun r7 =>
      cond (decide (r7 < (0 : Int)))
        (some (-1 : Int))
        (some r7)))
theorem w_L_heldTable (N : Nat) (p_a : I_Table) (p_k : Int) (r : Int) (hh0 : m_L_heldTable N p_a p_k = some r) : FnX Tryz.prog 16 [] [.agg [sL p_a.first, sL p_a.changes, sL p_a.rows], iA p_k] (RE (iA r) []) := by
  unfold m_L_heldTable at hh0; refine FnX.mk Tryz.func16 rfl rfl ?_; intro s hs; refine PC.seq ?_; refine PC.region ?_; refine PL.ef rfl (Ef.box rfl rfl rfl) ?_; refine PL.nm (.op 0 0) [some ⟨.mx [sL p_a.first, sL p_a.changes, sL p_a.rows], 34, 0⟩] rfl rfl ?_; refine PL.op rfl (Rd.asnT rfl) ?_; refine PL.nil ?_; refine thA_n ?_; refine PC.seq ?_; obtain ⟨r1, h_2, hh0⟩ := bind_some hh0; refine PC.region ?_; refine PL.op rfl (Rd.fieldO rfl rfl) ?_; refine PL.op rfl (Rd.loadO rfl rfl rfl) ?_; refine PL.op rfl (Rd.moveT rfl) ?_; refine PL.callM false [] (w_L_heldColumnS N p_a.first p_k r1 h_2) rfl Tryz.call39 rfl ⟨.t _, .t _, trivial⟩ rfl trivial (fun h => by cases h) ?_; refine PL.op rfl (Rd.asnT rfl) ?_; refine PL.nil ?_; refine thA_n ?_; (iterate 2 refine PC.seq ?_); refine PC.region ?_; refine PL.op rfl (Rd.moveT rfl) ?_; refine PL.op rfl (Rd.lss rfl rfl) ?_; refine PL.nil ?_; refine thA_n ?_; rcases cond_some hh0 with ⟨h_3, hh0⟩ | ⟨h_3, hh0⟩
  · refine PC.cond_true rfl h_3 ?_; refine PC.seq ?_; refine PC.region ?_; refine PL.op rfl (Rd.asnT rfl) ?_; refine PL.nil ?_; refine thA_n ?_; refine PC.ret ?_; refine thA_r ?_; obtain rfl := some_in hh0; exact FinA.mk (r := iA (-1 : Int)) (bl := []) [] (.inl rfl) rfl (rl := [.tmp 4]) (.tmp .nil) rfl rfl rfl (.t _) trivial ⟨rfl, rfl⟩
  refine PC.cond_false rfl h_3 ?_; refine PC.skip ?_; refine thA_n ?_; refine PC.seq ?_; obtain ⟨r4, h_5, hh0⟩ := bind_some hh0; refine PC.region ?_; refine PL.op rfl (Rd.fieldO rfl rfl) ?_; refine PL.op rfl (Rd.loadO rfl rfl rfl) ?_; refine PL.op rfl (Rd.moveT rfl) ?_; refine PL.callM false [] (w_L_heldChangeS N p_a.changes r1 r4 h_5) rfl Tryz.call40 rfl ⟨.t _, .t _, trivial⟩ rfl trivial (fun h => by cases h) ?_; refine PL.op rfl (Rd.asnT rfl) ?_; refine PL.nil ?_; refine thA_n ?_; (iterate 2 refine PC.seq ?_); refine PC.region ?_; refine PL.op rfl (Rd.moveT rfl) ?_; refine PL.op rfl (Rd.lss rfl rfl) ?_; refine PL.nil ?_; refine thA_n ?_; rcases cond_some hh0 with ⟨h_6, hh0⟩ | ⟨h_6, hh0⟩
  · refine PC.cond_true rfl h_6 ?_; refine PC.seq ?_; refine PC.region ?_; refine PL.op rfl (Rd.asnT rfl) ?_; refine PL.nil ?_; refine thA_n ?_; refine PC.ret ?_; refine thA_r ?_; obtain rfl := some_in hh0; exact FinA.mk (r := iA (-1 : Int)) (bl := []) [] (.inl rfl) rfl (rl := [.tmp 4]) (.tmp .nil) rfl rfl rfl (.t _) trivial ⟨rfl, rfl⟩
  refine PC.cond_false rfl h_6 ?_; refine PC.skip ?_; refine thA_n ?_; refine PC.seq ?_; obtain ⟨r7, h_8, hh0⟩ := bind_some hh0; refine PC.region ?_; refine PL.op rfl (Rd.fieldO rfl rfl) ?_; refine PL.op rfl (Rd.loadO rfl rfl rfl) ?_; refine PL.op rfl (Rd.moveT rfl) ?_; refine PL.callM false [] (w_L_heldTaggedS N p_a.rows r4 r7 h_8) rfl Tryz.call41 rfl ⟨.t _, .t _, trivial⟩ rfl trivial (fun h => by cases h) ?_; refine PL.op rfl (Rd.asnT rfl) ?_; refine PL.nil ?_; refine thA_n ?_; (iterate 2 refine PC.seq ?_); refine PC.region ?_; refine PL.op rfl (Rd.moveT rfl) ?_; refine PL.op rfl (Rd.lss rfl rfl) ?_; refine PL.nil ?_; refine thA_n ?_; rcases cond_some hh0 with ⟨h_9, hh0⟩ | ⟨h_9, hh0⟩
  · refine PC.cond_true rfl h_9 ?_; refine PC.seq ?_; refine PC.region ?_; refine PL.op rfl (Rd.asnT rfl) ?_; refine PL.nil ?_; refine thA_n ?_; refine PC.ret ?_; refine thA_r ?_; obtain rfl := some_in hh0; exact FinA.mk (r := iA (-1 : Int)) (bl := []) [] (.inl rfl) rfl (rl := [.tmp 4]) (.tmp .nil) rfl rfl rfl (.t _) trivial ⟨rfl, rfl⟩
  refine PC.cond_false rfl h_9 ?_; refine PC.skip ?_; refine thA_n ?_; refine PC.seq ?_; refine PC.region ?_; refine PL.op rfl (Rd.moveT rfl) ?_; refine PL.op rfl (Rd.asnT rfl) ?_; refine PL.nil ?_; refine thA_n ?_; refine PC.ret ?_; obtain rfl := some_in hh0; exact FinA.mk (r := iA r7) (bl := []) [] (.inl rfl) rfl (rl := [.tmp 4]) (.tmp .nil) rfl rfl rfl (.t _) trivial ⟨rfl, rfl⟩
def m_L_markValueSS_k1 (N : Nat) (k11 : Int) (v12 : (List (List I_Value))) : Option (Int × (List (List I_Value))) :=
  some (k11, v12)
def m_L_markValueSS_b1 (N : Nat) (k1 : Int) (i2 : Int) (v3 : (List (List I_Value))) : Option ((Int × Int × (List (List I_Value))) ⊕ (Int × (List (List I_Value)))) :=
  cond (decide (i2 < (v3.length : Int)))
    ((ixI v3 i2).bind fun x19 =>
    (m_L_markValueS N x19 k1).bind fun r21 =>
    (chk (i2 + (1 : Int))).bind fun n23 =>
    some (.inl (r21.1, n23, (v3.set i2.toNat r21.2))))
    (some (.inr (k1, v3)))
def m_L_markValueSS (N : Nat) (p_a : (List (List I_Value))) (p_k : Int) : Option (Int × (List (List I_Value))) :=
  (loopM (β := Int × (List (List I_Value))) (fun s : Int × Int × (List (List I_Value)) => m_L_markValueSS_b1 N s.1 s.2.1 s.2.2) N (p_k, (0 : Int), p_a)).bind fun e =>
  m_L_markValueSS_k1 N e.1 e.2
theorem w_L_markValueSS (N : Nat) (p_a : (List (List I_Value))) (p_k : Int) (r : Int × (List (List I_Value))) (hh0 : m_L_markValueSS N p_a p_k = some r) : FnX Tryz.prog 12 [⟨.mx (dL 1 0 p_a), 50, 1⟩, ⟨.fm (fam p_a), 84, 3⟩] [.os 0 0 p_a.length, iA p_k] (RE (iA r.1) [⟨.mx (dL 1 0 r.2), 50, 1⟩, ⟨.fm (fam r.2), 84, 3⟩]) := by
  unfold m_L_markValueSS at hh0; refine FnX.mk Tryz.func12 rfl rfl ?_; intro s hs; refine PC.seq ?_; refine PC.region ?_; refine PL.op rfl (Rd.asnT rfl) ?_; refine PL.nil ?_; refine thA_n ?_; (iterate 2 refine PC.seq ?_); refine PC.region ?_; refine PL.op rfl (Rd.asnT rfl) ?_; refine PL.nil ?_; refine thA_n ?_; obtain ⟨o13, h_14, hh0⟩ := bind_some hh0; refine PC.cutE hs (fun x : Int × (List (List I_Value)) => [(1, iA x.1)]) (fun x => [⟨.mx (dL 1 0 x.2), 50, 1⟩, ⟨.fm (fam x.2), 84, 3⟩]) (fun x => m_L_markValueSS_k1 N x.1 x.2 = some r) ?_ ?_
  · refine PC.block ?_; refine PC.loop hs (fun x : Nat × (Int × Int × (List (List I_Value))) => [(0, .os 0 0 x.2.2.2.length), (1, iA x.2.1), (5, iA x.2.2.1)]) (fun x => [⟨.mx (dL 1 0 x.2.2.2), 50, 1⟩, ⟨.fm (fam x.2.2.2), 84, 3⟩]) (fun x => loopM (β := Int × (List (List I_Value))) (fun s : Int × Int × (List (List I_Value)) => m_L_markValueSS_b1 N s.1 s.2.1 s.2.2) x.1 x.2 = some o13) (fun x => x.1) (N, (p_k, (0 : Int), p_a)) [some 0, some 1] ⟨rfl, rfl, ⟨⟨_, rfl, rfl, rfl, .mx (sb_dL rfl 0 _)⟩, ⟨_, rfl, rfl, rfl, .fm _⟩, trivial⟩, ⟨.os rfl, .t _, .t _, trivial⟩⟩ h_14 ?_
    rintro ⟨f15_, k1, i2, v3⟩ h_17
    obtain ⟨f15, y16, rfl, hh1, kk1⟩ := loopM_some h_17
    replace hh1 : m_L_markValueSS_b1 N k1 i2 v3 = some y16 := hh1
    unfold m_L_markValueSS_b1 at hh1; (iterate 2 refine PC.seq ?_); refine PC.region ?_; refine PL.op rfl (Rd.moveT rfl) ?_; refine PL.op rfl (Rd.moveO rfl) ?_; refine PL.op rfl (Rd.lenO rfl rfl) ?_; refine PL.op rfl (Rd.lss rfl rfl) ?_; refine PL.nil ?_; refine thA_n ?_; rcases cond_some hh1 with ⟨h_18, hh1⟩ | ⟨h_18, hh1⟩; rotate_left
    · refine PC.cond_false rfl h_18 ?_; refine PC.exit ?_; (iterate 2 refine thA_e ?_); refine inA_eq rfl ?_; refine thA_n ?_; obtain rfl := some_in hh1; obtain rfl : ((k1, v3) : Int × (List (List I_Value))) = o13 := kk1; exact ⟨(k1, v3), hh0, [some 0, some 1], ⟨rfl, rfl, ⟨⟨_, rfl, rfl, rfl, .mx (sb_dL rfl 0 _)⟩, ⟨_, rfl, rfl, rfl, .fm _⟩, trivial⟩, ⟨.t _, trivial⟩⟩⟩
    refine PC.cond_true rfl h_18 ?_; refine PC.skip ?_; refine thA_n ?_; refine PC.seq ?_; refine PC.block ?_; obtain ⟨x19, h_20, hh1⟩ := bind_some hh1; obtain ⟨r21, h_22, hh1⟩ := bind_some hh1; refine PC.region ?_; refine PL.op rfl (Rd.moveO rfl) ?_; refine PL.op rfl (Rd.moveT rfl) ?_; refine PL.op rfl (Rd.ixOM rfl rfl rfl (ixI_lt h_20)) ?_; refine PL.op rfl (Rd.dpFM (q := 0) rfl rfl rfl h_20 rfl rfl) ?_; refine PL.op rfl (Rd.moveT rfl) ?_; refine PL.callOIM (b := 0) r21.2 h_20 (w_L_markValueS N x19 k1 r21 h_22) rfl Tryz.call34 rfl rfl rfl rfl rfl rfl rfl rfl (len_L_markValueS N _ _  _ h_22) ?_; refine PL.nm (iA r21.1) [some ⟨.mx (dL 1 0 (v3.set i2.toNat r21.2)), 50, 1⟩, some ⟨.fm (fam (v3.set i2.toNat r21.2)), 84, 3⟩] rfl rfl ?_; refine PL.op rfl (Rd.asnT rfl) ?_; refine PL.nil ?_; refine inA_n ?_; refine thA_n ?_; obtain ⟨n23, h_24, hh1⟩ := bind_some hh1; refine PC.region ?_; refine PL.op rfl (Rd.moveT rfl) ?_; refine PL.op rfl (Rd.addM rfl rfl h_24) ?_; refine PL.op rfl (Rd.asnT rfl) ?_; refine PL.nil ?_; obtain rfl := some_in hh1; refine thA_n ?_; exact ⟨(f15, (r21.1, n23, (v3.set i2.toNat r21.2))), Nat.lt_succ_self _, kk1, [some 0, some 1], ⟨rfl, rfl, ⟨⟨_, rfl, rfl, rfl, .mx (sb_dL rfl 0 _)⟩, ⟨_, rfl, rfl, rfl, .fm _⟩, trivial⟩, ⟨.osE rfl (by simp only [List.length_set]), .t _, .t _, trivial⟩⟩⟩
  clear hh0
  rintro ⟨k11, v12⟩ hh0
  replace hh0 : m_L_markValueSS_k1 N k11 v12 = some r := hh0
  unfold m_L_markValueSS_k1 at hh0; refine thA_n ?_; refine PC.seq ?_; refine PC.region ?_; refine PL.op rfl (Rd.moveT rfl) ?_; refine PL.op rfl (Rd.asnT rfl) ?_; refine PL.nil ?_; refine thA_n ?_; refine PC.ret ?_; obtain rfl := some_in hh0; exact FinA.mk (r := iA ((k11, v12).1)) (bl := [⟨.mx (dL 1 0 ((k11, v12).2)), 50, 1⟩, ⟨.fm (fam ((k11, v12).2)), 84, 3⟩]) [some 0, some 1] (.inl rfl) rfl (rl := [.tmp 4]) (.tmp .nil) rfl rfl rfl (.t _) ⟨⟨_, rfl, rfl, rfl, .mx (sb_dL rfl 0 _)⟩, ⟨_, rfl, rfl, rfl, .fm _⟩, trivial⟩ ⟨rfl, rfl⟩
theorem len_L_markValueSS (N : Nat) (a : (List (List I_Value))) (k : Int) (r : Int × (List (List I_Value))) (h : m_L_markValueSS N a k = some r) : r.2.length = a.length := by
  unfold m_L_markValueSS at h; obtain ⟨o, h1, h2⟩ := bind_some h; unfold m_L_markValueSS_k1 at h2; cases h2; refine al.loop (fun s => s.2.2.length = a.length) (fun b => b.2.length = a.length) ?_ N _ rfl _ h1
  rintro ⟨k, i, v⟩ hv
  show al (m_L_markValueSS_b1 N k i v) _
  unfold m_L_markValueSS_b1
  repeat' (first | exact al.some hv | (refine al.cond (fun _ => ?_) (fun _ => ?_)) | (refine al.bind (fun _ _ => ?_)) | (refine al.some ?_; simpa only [List.length_set] using hv))
def m_L_heldValueSS_k1 (N : Nat) (k11 : Int) : Option (Int) :=
  some k11
def m_L_heldValueSS_b1 (N : Nat) (p_a : (List (List I_Value))) (k1 : Int) (i2 : Int) : Option ((Int × Int) ⊕ (Int ⊕ Int)) :=
  cond (decide (i2 < (p_a.length : Int)))
    ((ixI p_a i2).bind fun x18 =>
    (m_L_heldValueS N x18 k1).bind fun r20 =>
    cond (decide (r20 < (0 : Int)))
      (some (.inr (.inr (-1 : Int))))
      ((chk (i2 + (1 : Int))).bind fun n23 =>
      some (.inl (r20, n23))))
    (some (.inr (.inl k1)))
def m_L_heldValueSS (N : Nat) (p_a : (List (List I_Value))) (p_k : Int) : Option (Int) :=
  (loopM (β := Int ⊕ Int) (fun s : Int × Int => m_L_heldValueSS_b1 N p_a s.1 s.2) N (p_k, (0 : Int))).bind fun o => match o with
  | .inl e =>
    m_L_heldValueSS_k1 N e
  | .inr v =>
    some v
theorem w_L_heldValueSS (N : Nat) (p_a : (List (List I_Value))) (p_k : Int) (r : Int) (hh0 : m_L_heldValueSS N p_a p_k = some r) : FnX Tryz.prog 13 [] [sL p_a, iA p_k] (RE (iA r) []) := by
  unfold m_L_heldValueSS at hh0; refine FnX.mk Tryz.func13 rfl rfl ?_; intro s hs; refine PC.seq ?_; refine PC.region ?_; refine PL.op rfl (Rd.asnT rfl) ?_; refine PL.nil ?_; refine thA_n ?_; (iterate 2 refine PC.seq ?_); refine PC.region ?_; refine PL.op rfl (Rd.asnT rfl) ?_; refine PL.nil ?_; refine thA_n ?_; obtain ⟨o12, h_13, hh0⟩ := bind_some hh0; refine PC.cutE hs (fun x : Int => [(1, iA x)]) (fun x => []) (fun x => m_L_heldValueSS_k1 N x = some r) ?_ ?_
  · refine PC.block ?_; refine PC.loop hs (fun x : Nat × (Int × Int) => [(0, sL p_a), (1, iA x.2.1), (5, iA x.2.2)]) (fun x => []) (fun x => loopM (β := Int ⊕ Int) (fun s : Int × Int => m_L_heldValueSS_b1 N p_a s.1 s.2) x.1 x.2 = some o12) (fun x => x.1) (N, (p_k, (0 : Int))) [] ⟨rfl, rfl, trivial, ⟨.t _, .t _, .t _, trivial⟩⟩ h_13 ?_
    rintro ⟨f14_, k1, i2⟩ h_16
    obtain ⟨f14, y15, rfl, hh1, kk1⟩ := loopM_some h_16
    replace hh1 : m_L_heldValueSS_b1 N p_a k1 i2 = some y15 := hh1
    unfold m_L_heldValueSS_b1 at hh1; (iterate 2 refine PC.seq ?_); refine PC.region ?_; (iterate 2 refine PL.op rfl (Rd.moveT rfl) ?_); refine PL.op rfl (Rd.lenT rfl) ?_; refine PL.op rfl (Rd.lss rfl rfl) ?_; refine PL.nil ?_; refine thA_n ?_; rcases cond_some hh1 with ⟨h_17, hh1⟩ | ⟨h_17, hh1⟩; rotate_left
    · refine PC.cond_false rfl h_17 ?_; refine PC.exit ?_; (iterate 2 refine thA_e ?_); refine inA_eq rfl ?_; refine thA_n ?_; obtain rfl := some_in hh1; obtain rfl : (.inl k1 : Int ⊕ Int) = o12 := kk1; exact ⟨k1, hh0, [], ⟨rfl, rfl, trivial, ⟨.t _, trivial⟩⟩⟩
    refine PC.cond_true rfl h_17 ?_; refine PC.skip ?_; refine thA_n ?_; refine PC.seq ?_; refine PC.block ?_; refine PC.seq ?_; obtain ⟨x18, h_19, hh1⟩ := bind_some hh1; obtain ⟨r20, h_21, hh1⟩ := bind_some hh1; refine PC.region ?_; (iterate 2 refine PL.op rfl (Rd.moveT rfl) ?_); refine PL.op rfl (Rd.ixM rfl rfl h_19) ?_; refine PL.op rfl (Rd.elM1 rfl h_19 rfl rfl) ?_; refine PL.op rfl (Rd.moveT rfl) ?_; refine PL.callM false [] (w_L_heldValueS N x18 k1 r20 h_21) rfl Tryz.call35 rfl ⟨.t _, .t _, trivial⟩ rfl trivial (fun h => by cases h) ?_; refine PL.op rfl (Rd.asnT rfl) ?_; refine PL.nil ?_; refine thA_n ?_; refine PC.seq ?_; refine PC.region ?_; refine PL.op rfl (Rd.moveT rfl) ?_; refine PL.op rfl (Rd.lss rfl rfl) ?_; refine PL.nil ?_; refine thA_n ?_; rcases cond_some hh1 with ⟨h_22, hh1⟩ | ⟨h_22, hh1⟩; rotate_left
    · refine PC.cond_false rfl h_22 ?_; refine PC.skip ?_; refine inA_n ?_; refine thA_n ?_; obtain ⟨n23, h_24, hh1⟩ := bind_some hh1; refine PC.region ?_; refine PL.op rfl (Rd.moveT rfl) ?_; refine PL.op rfl (Rd.addM rfl rfl h_24) ?_; refine PL.op rfl (Rd.asnT rfl) ?_; refine PL.nil ?_; obtain rfl := some_in hh1; refine thA_n ?_; exact ⟨(f14, (r20, n23)), Nat.lt_succ_self _, kk1, [], ⟨rfl, rfl, trivial, ⟨.t _, .t _, .t _, trivial⟩⟩⟩
    refine PC.cond_true rfl h_22 ?_; refine PC.seq ?_; refine PC.region ?_; refine PL.op rfl (Rd.asnT rfl) ?_; refine PL.nil ?_; refine thA_n ?_; refine PC.ret ?_; refine inA_r ?_; (iterate 2 refine thA_r ?_); refine inA_r ?_; refine thA_r ?_; obtain rfl := some_in hh1; obtain rfl : (.inr (-1 : Int) : Int ⊕ Int) = o12 := kk1; refine thA_r ?_; obtain rfl := some_in hh0; exact FinA.mk (r := iA (-1 : Int)) (bl := []) [] (.inl rfl) rfl (rl := [.tmp 4]) (.tmp .nil) rfl rfl rfl (.t _) trivial ⟨rfl, rfl⟩
  clear hh0
  rintro k11 hh0
  replace hh0 : m_L_heldValueSS_k1 N k11 = some r := hh0
  unfold m_L_heldValueSS_k1 at hh0; refine thA_n ?_; refine PC.seq ?_; refine PC.region ?_; refine PL.op rfl (Rd.moveT rfl) ?_; refine PL.op rfl (Rd.asnT rfl) ?_; refine PL.nil ?_; refine thA_n ?_; refine PC.ret ?_; obtain rfl := some_in hh0; exact FinA.mk (r := iA k11) (bl := []) [] (.inl rfl) rfl (rl := [.tmp 4]) (.tmp .nil) rfl rfl rfl (.t _) trivial ⟨rfl, rfl⟩
end V
end Go.Proofs.YtikobdnhflcnmaaGreatDoor
namespace Go.Proofs.YtikobdnhflcnmaaGreatDoor
namespace V
set_option linter.unusedVariables false
set_option linter.unusedSimpArgs false
set_option maxHeartbeats 1000000
theorem cut_ix {α : Type} {A xs : List α} {i : Nat} (hA : A.length = i) (h : i < xs.length) : ixI (A ++ xs.drop i) (i : Int) = some xs[i] := by
  rw [ixI_nat (by simp; omega), List.getElem_append_right (by omega)]
  congr 1
  rw [List.getElem_drop]; congr 1; omega
theorem cut_set {α : Type} {A xs : List α} {i : Nat} (hA : A.length = i) (h : i < xs.length) (y : α) : (A ++ xs.drop i).set i y = (A ++ [y]) ++ xs.drop (i + 1) := by
  rw [List.drop_eq_getElem_cons h, List.set_append_right _ _ (by omega), hA, Nat.sub_self, List.set_cons_zero, List.append_assoc, List.singleton_append]
theorem cut_same {α : Type} {A xs : List α} {i : Nat} (h : i < xs.length) : A ++ xs.drop i = (A ++ [xs[i]]) ++ xs.drop (i + 1) := by
  rw [List.drop_eq_getElem_cons h, List.append_assoc, List.singleton_append]
/-- A loop that finds nothing to stop at. -/
theorem loop_self {body : Int → Option (Int ⊕ (Unit ⊕ Bool))} {N n : Nat} (hN : n < N) (h : ∀ i, i < n → body (i : Int) = some (.inl ((i : Int) + 1))) (he : body (n : Int) = some (.inr (.inl ()))) : loopM body N (0 : Int) = some (.inl ()) := by
  have : ok (loopM body N (0 : Int)) fun o => o = .inl () := by
    refine ok.each n (fun i s => s = (i : Int)) _ ?_ ?_ N 0 _ (Nat.zero_le _) rfl (by omega)
    · rintro i s hi rfl
      rw [h i hi]; exact ok.some (by simp)
    · rintro s rfl
      rw [he]; exact ok.some rfl
  exact ok.val this
section
variable {N : Nat} (hN : 100000000 ≤ N)
include hN
theorem cloneI {t : I_Table} (hb : bT t) : m_I_Table_clone N t = some t := by
  have hfl := hb.f.1
  have hcl := hb.c.1
  have hrl := hb.rl
  refine ok.val ?_
  unfold m_I_Table_clone
  refine ok.eq (show m_slices_Clone_I_Column N t.first = some t.first from appM0 (by omega)) (ok.eq (show m_slices_Clone_I_Change N t.changes = some t.changes from appM0 (by omega)) ?_)
  refine ok.call (P := fun o => o = t.rows) (ok.each t.rows.length (fun i s => s = ((i : Int), t.rows.take i)) _ ?_ ?_ N 0 _ (Nat.zero_le _) rfl (by omega)) ?_
  · rintro i s hi rfl
    show ok (m_I_Table_clone_b1 N t (i : Int) _) _
    unfold m_I_Table_clone_b1
    have hr := (hb.r i hi).1
    refine ok.ift (by omega) (ok.eq (ixI_nat hi) (ok.eq (show m_slices_Clone_I_Value N t.rows[i].row = some t.rows[i].row from appM0 (by omega)) (ok.app (by simp; omega) (ok.chk (by omega) (ok.some ?_)))))
    refine Prod.ext (by simp) ?_
    show _ = t.rows.take (i + 1)
    rw [take_succ1 hi]
  · rintro s rfl
    show ok (m_I_Table_clone_b1 N t _ _) _
    unfold m_I_Table_clone_b1
    refine ok.iff (by omega) (ok.some ?_)
    rw [List.take_length]
  · rintro o rfl
    exact ok.some rfl
theorem copyTS {t : I_Table} (hb : bT t) : m_S_copyTable N t = some t := by
  have hfl := hb.f.1
  have hcl := hb.c.1
  have hrl := hb.rl
  refine ok.val ?_
  unfold m_S_copyTable
  refine ok.call (P := fun o => o = t.rows) (ok.each t.rows.length (fun i s => s = ((i : Int), t.rows.take i)) _ ?_ ?_ N 0 _ (Nat.zero_le _) rfl (by omega)) ?_
  · rintro i s hi rfl
    show ok (m_S_copyTable_b1 N t (i : Int) _) _
    unfold m_S_copyTable_b1
    have hr := (hb.r i hi).1
    refine ok.ift (by omega) (ok.eq (ixI_nat hi) (ok.eq (ixI_nat hi) (ok.eq (appM0 (by omega)) (ok.app (by simp; omega) (ok.chk (by omega) (ok.some ?_))))))
    refine Prod.ext (by simp) ?_
    show _ = t.rows.take (i + 1)
    rw [take_succ1 hi]
  · rintro s rfl
    show ok (m_S_copyTable_b1 N t _ _) _
    unfold m_S_copyTable_b1
    refine ok.iff (by omega) (ok.some ?_)
    rw [List.take_length]
  · rintro o rfl
    show ok (m_S_copyTable_k1 N t _) _
    unfold m_S_copyTable_k1
    refine ok.eq (copyS hfl) (ok.eq (appM0 (by omega)) (ok.some rfl))
omit hN in
theorem rwL_take (t : I_Table) (n : Nat) {i : Nat} (h : i < t.rows.length) : rwL (oldB t) (toL t) n (t.rows.take (i + 1)) = rwL (oldB t) (toL t) n (t.rows.take i) ++ [if oldB t t.rows[i] = true ∧ 0 < n - (t.rows.take i).countP (oldB t) then toL t t.rows[i] else t.rows[i]] := by
  rw [take_succ1 h, rwL_app, rwL_one]
theorem rewI {t : I_Table} {k : Int} (hb : bT t) (hk : k ≤ 9223372036854775807) : m_I_RewriteRows N t k = some (if tV t ∧ 0 ≤ k then rwT t k.toNat else noT) := by
  have hrl := hb.rl
  refine ok.val ?_
  unfold m_I_RewriteRows
  refine ok.eq (validTI hN hb) (ok.ite (fun hv => ok.ite (fun h0 => ok.some ?_) fun h0 => ?_) fun hv => ok.some ?_)
  · rw [if_neg (by omega)]; rfl
  · rw [if_pos ⟨hv, by omega⟩]
    obtain ⟨n, rfl⟩ : ∃ n : Nat, k = n := ⟨k.toNat, by omega⟩
    rw [Int.toNat_natCast]
    refine ok.eq (cloneI hN hb) ?_
    refine ok.call (P := fun o => o = rwL (oldB t) (toL t) n t.rows) (ok.each t.rows.length (fun i s => s = ((i : Int), ((n - (t.rows.take i).countP (oldB t) : Nat) : Int), rwL (oldB t) (toL t) n (t.rows.take i) ++ t.rows.drop i)) _ ?_ ?_ N 0 _ (Nat.zero_le _) (by simp [rwL]) (by omega)) ?_
    · rintro i s hi rfl
      show ok (m_I_RewriteRows_b1 N t _ (i : Int) _ _) _
      unfold m_I_RewriteRows_b1
      dsimp only
      have hA : (rwL (oldB t) (toL t) n (t.rows.take i)).length = i := by rw [rwL_len, List.length_take]; omega
      refine ok.ift (by omega) (ok.eq (cut_ix hA hi) (ok.ite (fun hm => ok.eq (show m_I_Table_last N t = some (t.changes.length : Int) from rfl) (ok.ite (fun c => ok.chk (by omega) (ok.some ?_)) fun c => ok.eq (show m_I_Table_last N t = some (t.changes.length : Int) from rfl) (ok.eq (read1I hN hv hb.c (hv.2.2 i hi)) (ok.chk (by omega) (ok.chk (by omega) (ok.some ?_)))))) fun hm => ok.chk (by omega) (ok.some ?_)))
      · have ho : ¬ oldB t t.rows[i] = true := by unfold oldB; simp [c]
        rw [rwL_take t n hi, if_neg (fun e => ho e.1), count_take _ hi, if_neg ho, cut_same hi]; simp
      · have ho : oldB t t.rows[i] = true := by unfold oldB; simp [c]
        rw [rwL_take t n hi, if_pos ⟨ho, by omega⟩, count_take _ hi, if_pos ho, Int.toNat_natCast, cut_set hA hi]
        refine Prod.ext (by simp) (Prod.ext ?_ rfl)
        show ((n - (t.rows.take i).countP (oldB t) : Nat) : Int) - 1 = ((n - ((t.rows.take i).countP (oldB t) + 1) : Nat) : Int)
        omega
      · rw [rwL_take t n hi, if_neg (fun e => by have := e.2; omega), cut_same hi]
        refine Prod.ext (by simp) (Prod.ext ?_ rfl)
        show ((n - (t.rows.take i).countP (oldB t) : Nat) : Int) = ((n - (t.rows.take (i + 1)).countP (oldB t) : Nat) : Int)
        rw [count_take _ hi]; omega
    · rintro s rfl
      show ok (m_I_RewriteRows_b1 N t _ _ _ _) _
      unfold m_I_RewriteRows_b1
      dsimp only
      refine ok.iff (by omega) (ok.some ?_)
      rw [List.take_length, List.drop_length, List.append_nil]
    · rintro o rfl
      exact ok.some rfl
  · rw [if_neg fun e => hv e.1]; rfl
theorem rewS {t : I_Table} {k : Int} (hb : bT t) (hk : k ≤ 9223372036854775807) : m_S_RewriteRows N t k = some (if tV t ∧ 0 ≤ k then rwT t k.toNat else noT) := by
  have hrl := hb.rl
  refine ok.val ?_
  unfold m_S_RewriteRows
  refine ok.eq (validTS hN hb) (ok.ite (fun hv => ok.ite (fun h0 => ok.some ?_) fun h0 => ?_) fun hv => ok.some ?_)
  · rw [if_neg (by omega)]; rfl
  · rw [if_pos ⟨hv, by omega⟩]
    obtain ⟨n, rfl⟩ : ∃ n : Nat, k = n := ⟨k.toNat, by omega⟩
    rw [Int.toNat_natCast]
    refine ok.eq (copyTS hN hb) (ok.eq (latestS hN hv) ?_)
    refine ok.call (P := fun o => o = rwL (oldB t) (toL t) n t.rows) (ok.each t.rows.length (fun i s => s = (((n - (t.rows.take i).countP (oldB t) : Nat) : Int), (i : Int), rwL (oldB t) (toL t) n (t.rows.take i) ++ t.rows.drop i)) _ ?_ ?_ N 0 _ (Nat.zero_le _) (by simp [rwL]) (by omega)) ?_
    · rintro i s hi rfl
      show ok (m_S_RewriteRows_b1 N t _ _ (i : Int) _) _
      unfold m_S_RewriteRows_b1
      dsimp only
      have hA : (rwL (oldB t) (toL t) n (t.rows.take i)).length = i := by rw [rwL_len, List.length_take]; omega
      have hr := (hv.2.2 i hi).2.1
      refine ok.ift (by omega) (ok.ite (fun hm => ok.eq (ixI_nat hi) (ok.ite (fun c => ok.eq (ixI_nat (by simpa using hi)) (ok.eq (cut_ix hA hi) (ok.chk (by omega) (ok.chk (by omega) (ok.some ?_))))) fun c => ok.chk (by omega) (ok.some ?_))) fun hm => ok.some ?_)
      · have ho : oldB t t.rows[i] = true := by unfold oldB; rw [decide_eq_true_eq]; omega
        rw [rwL_take t n hi, if_pos ⟨ho, by omega⟩, count_take _ hi, if_pos ho, Int.toNat_natCast, cut_set hA hi]
        refine Prod.ext ?_ (Prod.ext (by simp) ?_)
        · show ((n - (t.rows.take i).countP (oldB t) : Nat) : Int) - 1 = ((n - ((t.rows.take i).countP (oldB t) + 1) : Nat) : Int)
          omega
        · simp [toL]
      · have ho : ¬ oldB t t.rows[i] = true := by unfold oldB; rw [decide_eq_true_eq]; omega
        rw [rwL_take t n hi, if_neg (fun e => ho e.1), count_take _ hi, if_neg ho, cut_same hi]; simp
      · conv => rhs; rw [← List.take_append_drop i t.rows]
        rw [rwL_app, show n - (t.rows.take i).countP (oldB t) = 0 by omega, rwL_zero]
    · rintro s rfl
      show ok (m_S_RewriteRows_b1 N t _ _ _ _) _
      unfold m_S_RewriteRows_b1
      dsimp only
      refine ok.iff (by omega) (ok.some ?_)
      rw [List.take_length, List.drop_length, List.append_nil]
    · rintro o rfl
      exact ok.some rfl
  · rw [if_neg fun e => hv e.1]; rfl
end
theorem noT_b : bT noT := ⟨⟨Nat.zero_le _, fun c h => by cases h⟩, ⟨Nat.zero_le _, fun c h => by cases h⟩, Nat.zero_le _, fun i h => absurd h (Nat.not_lt_zero _)⟩
end V
end Go.Proofs.YtikobdnhflcnmaaGreatDoor
