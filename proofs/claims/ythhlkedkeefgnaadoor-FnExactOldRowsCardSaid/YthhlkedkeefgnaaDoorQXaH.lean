/- What the rows need, part 8. No condition. -/
import Derived.Test.YthhlkedkeefgnaaDoorQXaG
namespace Go.Proofs.YthhlkedkeefgnaaDoor
namespace V
open Enc (enc)
set_option linter.unusedVariables false
set_option linter.unusedSimpArgs false
set_option maxHeartbeats 4000000
set_option maxRecDepth 100000
open Go.RowKit
attribute [local irreducible] thA inA FinA eL
structure L_Value where
  kind : Int
  num : Int
  text : ByteArray
deriving DecidableEq
instance : Enc L_Value := ⟨fun x => [.v (.int .i64 x.kind), .v (.int .i64 x.num), .v (.string x.text)], 3, fun _ => rfl⟩
structure L_Column where
  kind : Int
  default : L_Value
deriving DecidableEq
instance : Enc L_Column := ⟨fun x => [.v (.int .i64 x.kind), .v (.int .i64 x.default.kind), .v (.int .i64 x.default.num), .v (.string x.default.text)], 4, fun _ => rfl⟩
structure L_Change where
  kind : Int
  at_ : Int
  column : L_Column
deriving DecidableEq
instance : Enc L_Change := ⟨fun x => [.v (.int .i64 x.kind), .v (.int .i64 x.at_), .v (.int .i64 x.column.kind), .v (.int .i64 x.column.default.kind), .v (.int .i64 x.column.default.num), .v (.string x.column.default.text)], 6, fun _ => rfl⟩
structure L_Tagged where
  tag : Int
  row : List L_Value
deriving DecidableEq
instance : Enc L_Tagged := ⟨fun x => [.v (.int .i64 x.tag), .sl x.row.length (eL x.row)], 2, fun _ => rfl⟩
structure L_Table where
  first : List L_Column
  changes : List L_Change
  rows : List L_Tagged
deriving DecidableEq
instance : Enc L_Table := ⟨fun x => [.sl x.first.length (eL x.first), .sl x.changes.length (eL x.changes), .sl x.rows.length (eL x.rows)], 3, fun _ => rfl⟩
def m_L_szValue (N : Nat) (p_a : L_Value) (p_left : Int) : Option (Int) :=
  (chk (p_left - (p_a.text.size : Int))).bind fun n1 =>
  cond (decide (n1 < (0 : Int)))
    (some (-1 : Int))
    (some n1)
theorem w_L_szValue (N : Nat) (p_a : L_Value) (p_left : Int) (r : Int) (hh0 : m_L_szValue N p_a p_left = some r) : FnX Tryd.prog 97 [] [.agg [iA p_a.kind, iA p_a.num, sA p_a.text], iA p_left] (RE (iA r) []) := by
  unfold m_L_szValue at hh0; refine FnX.mk Tryd.func97 rfl rfl ?_; intro s hs; refine PC.seq ?_; refine PC.region ?_; refine PL.ef rfl (Ef.box rfl rfl rfl) ?_; refine PL.nm (.op 0 0) [some ⟨.mx [iA p_a.kind, iA p_a.num, sA p_a.text], 72, 0⟩] rfl rfl ?_; refine PL.op rfl (Rd.asnT rfl) ?_; refine PL.nil ?_; refine thA_n ?_; refine PC.seq ?_; obtain ⟨n1, h_2, hh0⟩ := bind_some hh0; refine PC.region ?_; refine PL.op rfl (Rd.moveT rfl) ?_; refine PL.op rfl (Rd.fieldO rfl rfl) ?_; refine PL.op rfl (Rd.loadO rfl rfl rfl) ?_; refine PL.op rfl (Rd.lenSt rfl) ?_; refine PL.op rfl (Rd.subM rfl rfl h_2) ?_; refine PL.op rfl (Rd.asnT rfl) ?_; refine PL.nil ?_; refine thA_n ?_; (iterate 2 refine PC.seq ?_); refine PC.region ?_; refine PL.op rfl (Rd.moveT rfl) ?_; refine PL.op rfl (Rd.lss rfl rfl) ?_; refine PL.nil ?_; refine thA_n ?_; rcases cond_some hh0 with ⟨h_3, hh0⟩ | ⟨h_3, hh0⟩
  · refine PC.cond_true rfl h_3 ?_; refine PC.seq ?_; refine PC.region ?_; refine PL.op rfl (Rd.asnT rfl) ?_; refine PL.nil ?_; refine thA_n ?_; refine PC.ret ?_; refine thA_r ?_; obtain rfl := some_in hh0; exact FinA.mk (r := iA (-1 : Int)) (bl := []) [] (.inl rfl) rfl (rl := [.tmp 4]) (.tmp .nil) rfl rfl rfl (.t _) trivial ⟨rfl, rfl⟩
  refine PC.cond_false rfl h_3 ?_; refine PC.skip ?_; refine thA_n ?_; refine PC.seq ?_; refine PC.region ?_; refine PL.op rfl (Rd.moveT rfl) ?_; refine PL.op rfl (Rd.asnT rfl) ?_; refine PL.nil ?_; refine thA_n ?_; refine PC.ret ?_; obtain rfl := some_in hh0; exact FinA.mk (r := iA n1) (bl := []) [] (.inl rfl) rfl (rl := [.tmp 4]) (.tmp .nil) rfl rfl rfl (.t _) trivial ⟨rfl, rfl⟩
def m_L_szColumn (N : Nat) (p_a : L_Column) (p_left : Int) : Option (Int) :=
  (m_L_szValue N p_a.default p_left).bind fun r1 =>
  cond (decide (r1 < (0 : Int)))
    (some (-1 : Int))
    (some r1)
theorem w_L_szColumn (N : Nat) (p_a : L_Column) (p_left : Int) (r : Int) (hh0 : m_L_szColumn N p_a p_left = some r) : FnX Tryd.prog 89 [] [.agg [iA p_a.kind, iA p_a.default.kind, iA p_a.default.num, sA p_a.default.text], iA p_left] (RE (iA r) []) := by
  unfold m_L_szColumn at hh0; refine FnX.mk Tryd.func89 rfl rfl ?_; intro s hs; refine PC.seq ?_; refine PC.region ?_; refine PL.ef rfl (Ef.box rfl rfl rfl) ?_; refine PL.nm (.op 0 0) [some ⟨.mx [iA p_a.kind, iA p_a.default.kind, iA p_a.default.num, sA p_a.default.text], 74, 0⟩] rfl rfl ?_; refine PL.op rfl (Rd.asnT rfl) ?_; refine PL.nil ?_; refine thA_n ?_; refine PC.seq ?_; obtain ⟨r1, h_2, hh0⟩ := bind_some hh0; refine PC.region ?_; refine PL.op rfl (Rd.fieldO rfl rfl) ?_; refine PL.op rfl (Rd.loadSub rfl rfl rfl rfl) ?_; refine PL.op rfl (Rd.moveT rfl) ?_; refine PL.callM false [] (w_L_szValue N p_a.default p_left r1 h_2) rfl Tryd.call97 rfl ⟨.aggL ⟨.t _, .t _, .t _, trivial⟩, .t _, trivial⟩ rfl trivial (fun h => by cases h) ?_; refine PL.op rfl (Rd.asnT rfl) ?_; refine PL.nil ?_; refine thA_n ?_; (iterate 2 refine PC.seq ?_); refine PC.region ?_; refine PL.op rfl (Rd.moveT rfl) ?_; refine PL.op rfl (Rd.lss rfl rfl) ?_; refine PL.nil ?_; refine thA_n ?_; rcases cond_some hh0 with ⟨h_3, hh0⟩ | ⟨h_3, hh0⟩
  · refine PC.cond_true rfl h_3 ?_; refine PC.seq ?_; refine PC.region ?_; refine PL.op rfl (Rd.asnT rfl) ?_; refine PL.nil ?_; refine thA_n ?_; refine PC.ret ?_; refine thA_r ?_; obtain rfl := some_in hh0; exact FinA.mk (r := iA (-1 : Int)) (bl := []) [] (.inl rfl) rfl (rl := [.tmp 4]) (.tmp .nil) rfl rfl rfl (.t _) trivial ⟨rfl, rfl⟩
  refine PC.cond_false rfl h_3 ?_; refine PC.skip ?_; refine thA_n ?_; refine PC.seq ?_; refine PC.region ?_; refine PL.op rfl (Rd.moveT rfl) ?_; refine PL.op rfl (Rd.asnT rfl) ?_; refine PL.nil ?_; refine thA_n ?_; refine PC.ret ?_; obtain rfl := some_in hh0; exact FinA.mk (r := iA r1) (bl := []) [] (.inl rfl) rfl (rl := [.tmp 4]) (.tmp .nil) rfl rfl rfl (.t _) trivial ⟨rfl, rfl⟩
def m_L_szColumnS_k1 (N : Nat) (left14 : Int) : Option (Int) :=
  some left14
def m_L_szColumnS_b1 (N : Nat) (p_a : (List L_Column)) (left4 : Int) (i5 : Int) : Option ((Int × Int) ⊕ (Int ⊕ Int)) :=
  cond (decide (i5 < (p_a.length : Int)))
    ((ixI p_a i5).bind fun x21 =>
    (m_L_szColumn N x21 left4).bind fun r23 =>
    cond (decide (r23 < (0 : Int)))
      (some (.inr (.inr (-1 : Int))))
      ((chk (i5 + (1 : Int))).bind fun n26 =>
      some (.inl (r23, n26))))
    (some (.inr (.inl left4)))
def m_L_szColumnS (N : Nat) (p_a : (List L_Column)) (p_left : Int) : Option (Int) :=
  (chk (p_left - (p_a.length : Int))).bind fun n1 =>
  cond (decide (n1 < (0 : Int)))
    (some (-1 : Int))
    ((loopM (β := Int ⊕ Int) (fun s : Int × Int => m_L_szColumnS_b1 N p_a s.1 s.2) N (n1, (0 : Int))).bind fun o => match o with
    | .inl e =>
      m_L_szColumnS_k1 N e
    | .inr v =>
      some v)
theorem w_L_szColumnS (N : Nat) (p_a : (List L_Column)) (p_left : Int) (r : Int) (hh0 : m_L_szColumnS N p_a p_left = some r) : FnX Tryd.prog 60 [] [sL p_a, iA p_left] (RE (iA r) []) := by
  unfold m_L_szColumnS at hh0; refine FnX.mk Tryd.func60 rfl rfl ?_; intro s hs; refine PC.seq ?_; refine PC.region ?_; refine PL.op rfl (Rd.asnT rfl) ?_; refine PL.nil ?_; refine thA_n ?_; refine PC.seq ?_; obtain ⟨n1, h_2, hh0⟩ := bind_some hh0; refine PC.region ?_; (iterate 2 refine PL.op rfl (Rd.moveT rfl) ?_); refine PL.op rfl (Rd.lenT rfl) ?_; refine PL.op rfl (Rd.subM rfl rfl h_2) ?_; refine PL.op rfl (Rd.asnT rfl) ?_; refine PL.nil ?_; refine thA_n ?_; (iterate 2 refine PC.seq ?_); refine PC.region ?_; refine PL.op rfl (Rd.moveT rfl) ?_; refine PL.op rfl (Rd.lss rfl rfl) ?_; refine PL.nil ?_; refine thA_n ?_; rcases cond_some hh0 with ⟨h_3, hh0⟩ | ⟨h_3, hh0⟩
  · refine PC.cond_true rfl h_3 ?_; refine PC.seq ?_; refine PC.region ?_; refine PL.op rfl (Rd.asnT rfl) ?_; refine PL.nil ?_; refine thA_n ?_; refine PC.ret ?_; refine thA_r ?_; obtain rfl := some_in hh0; exact FinA.mk (r := iA (-1 : Int)) (bl := []) [] (.inl rfl) rfl (rl := [.tmp 4]) (.tmp .nil) rfl rfl rfl (.t _) trivial ⟨rfl, rfl⟩
  refine PC.cond_false rfl h_3 ?_; refine PC.skip ?_; refine thA_n ?_; (iterate 2 refine PC.seq ?_); refine PC.region ?_; refine PL.op rfl (Rd.asnT rfl) ?_; refine PL.nil ?_; refine thA_n ?_; obtain ⟨o15, h_16, hh0⟩ := bind_some hh0; refine PC.cutE hs (fun x : Int => [(1, iA x)]) (fun x => []) (fun x => m_L_szColumnS_k1 N x = some r) ?_ ?_
  · refine PC.block ?_; refine PC.loop hs (fun x : Nat × (Int × Int) => [(0, sL p_a), (1, iA x.2.1), (5, iA x.2.2)]) (fun x => []) (fun x => loopM (β := Int ⊕ Int) (fun s : Int × Int => m_L_szColumnS_b1 N p_a s.1 s.2) x.1 x.2 = some o15) (fun x => x.1) (N, (n1, (0 : Int))) [] ⟨rfl, rfl, trivial, ⟨.t _, .t _, .t _, trivial⟩⟩ h_16 ?_
    rintro ⟨f17_, left4, i5⟩ h_19
    obtain ⟨f17, y18, rfl, hh1, kk1⟩ := loopM_some h_19
    replace hh1 : m_L_szColumnS_b1 N p_a left4 i5 = some y18 := hh1
    unfold m_L_szColumnS_b1 at hh1; (iterate 2 refine PC.seq ?_); refine PC.region ?_; (iterate 2 refine PL.op rfl (Rd.moveT rfl) ?_); refine PL.op rfl (Rd.lenT rfl) ?_; refine PL.op rfl (Rd.lss rfl rfl) ?_; refine PL.nil ?_; refine thA_n ?_; rcases cond_some hh1 with ⟨h_20, hh1⟩ | ⟨h_20, hh1⟩; rotate_left
    · refine PC.cond_false rfl h_20 ?_; refine PC.exit ?_; (iterate 2 refine thA_e ?_); refine inA_eq rfl ?_; refine thA_n ?_; obtain rfl := some_in hh1; obtain rfl : (.inl left4 : Int ⊕ Int) = o15 := kk1; exact ⟨left4, hh0, [], ⟨rfl, rfl, trivial, ⟨.t _, trivial⟩⟩⟩
    refine PC.cond_true rfl h_20 ?_; refine PC.skip ?_; refine thA_n ?_; refine PC.seq ?_; refine PC.block ?_; refine PC.seq ?_; obtain ⟨x21, h_22, hh1⟩ := bind_some hh1; obtain ⟨r23, h_24, hh1⟩ := bind_some hh1; refine PC.region ?_; (iterate 2 refine PL.op rfl (Rd.moveT rfl) ?_); refine PL.op rfl (Rd.ixM rfl rfl h_22) ?_; refine PL.op rfl (Rd.elMR rfl h_22 rfl rfl) ?_; refine PL.op rfl (Rd.moveT rfl) ?_; refine PL.callM false [] (w_L_szColumn N x21 left4 r23 h_24) rfl Tryd.call89 rfl ⟨.aggL ⟨.t _, .t _, .t _, .t _, trivial⟩, .t _, trivial⟩ rfl trivial (fun h => by cases h) ?_; refine PL.op rfl (Rd.asnT rfl) ?_; refine PL.nil ?_; refine thA_n ?_; refine PC.seq ?_; refine PC.region ?_; refine PL.op rfl (Rd.moveT rfl) ?_; refine PL.op rfl (Rd.lss rfl rfl) ?_; refine PL.nil ?_; refine thA_n ?_; rcases cond_some hh1 with ⟨h_25, hh1⟩ | ⟨h_25, hh1⟩; rotate_left
    · refine PC.cond_false rfl h_25 ?_; refine PC.skip ?_; refine inA_n ?_; refine thA_n ?_; obtain ⟨n26, h_27, hh1⟩ := bind_some hh1; refine PC.region ?_; refine PL.op rfl (Rd.moveT rfl) ?_; refine PL.op rfl (Rd.addM rfl rfl h_27) ?_; refine PL.op rfl (Rd.asnT rfl) ?_; refine PL.nil ?_; obtain rfl := some_in hh1; refine thA_n ?_; exact ⟨(f17, (r23, n26)), Nat.lt_succ_self _, kk1, [], ⟨rfl, rfl, trivial, ⟨.t _, .t _, .t _, trivial⟩⟩⟩
    refine PC.cond_true rfl h_25 ?_; refine PC.seq ?_; refine PC.region ?_; refine PL.op rfl (Rd.asnT rfl) ?_; refine PL.nil ?_; refine thA_n ?_; refine PC.ret ?_; refine inA_r ?_; (iterate 2 refine thA_r ?_); refine inA_r ?_; refine thA_r ?_; obtain rfl := some_in hh1; obtain rfl : (.inr (-1 : Int) : Int ⊕ Int) = o15 := kk1; refine thA_r ?_; obtain rfl := some_in hh0; exact FinA.mk (r := iA (-1 : Int)) (bl := []) [] (.inl rfl) rfl (rl := [.tmp 4]) (.tmp .nil) rfl rfl rfl (.t _) trivial ⟨rfl, rfl⟩
  clear hh0
  rintro left14 hh0
  replace hh0 : m_L_szColumnS_k1 N left14 = some r := hh0
  unfold m_L_szColumnS_k1 at hh0; refine thA_n ?_; refine PC.seq ?_; refine PC.region ?_; refine PL.op rfl (Rd.moveT rfl) ?_; refine PL.op rfl (Rd.asnT rfl) ?_; refine PL.nil ?_; refine thA_n ?_; refine PC.ret ?_; obtain rfl := some_in hh0; exact FinA.mk (r := iA left14) (bl := []) [] (.inl rfl) rfl (rl := [.tmp 4]) (.tmp .nil) rfl rfl rfl (.t _) trivial ⟨rfl, rfl⟩
def m_L_szChange (N : Nat) (p_a : L_Change) (p_left : Int) : Option (Int) :=
  (m_L_szColumn N p_a.column p_left).bind fun r1 =>
  cond (decide (r1 < (0 : Int)))
    (some (-1 : Int))
    (some r1)
theorem w_L_szChange (N : Nat) (p_a : L_Change) (p_left : Int) (r : Int) (hh0 : m_L_szChange N p_a p_left = some r) : FnX Tryd.prog 44 [] [.agg [iA p_a.kind, iA p_a.at_, iA p_a.column.kind, iA p_a.column.default.kind, iA p_a.column.default.num, sA p_a.column.default.text], iA p_left] (RE (iA r) []) := by
  unfold m_L_szChange at hh0; refine FnX.mk Tryd.func44 rfl rfl ?_; intro s hs; refine PC.seq ?_; refine PC.region ?_; refine PL.ef rfl (Ef.box rfl rfl rfl) ?_; refine PL.nm (.op 0 0) [some ⟨.mx [iA p_a.kind, iA p_a.at_, iA p_a.column.kind, iA p_a.column.default.kind, iA p_a.column.default.num, sA p_a.column.default.text], 76, 0⟩] rfl rfl ?_; refine PL.op rfl (Rd.asnT rfl) ?_; refine PL.nil ?_; refine thA_n ?_; refine PC.seq ?_; obtain ⟨r1, h_2, hh0⟩ := bind_some hh0; refine PC.region ?_; refine PL.op rfl (Rd.fieldO rfl rfl) ?_; refine PL.op rfl (Rd.loadSub rfl rfl rfl rfl) ?_; refine PL.op rfl (Rd.moveT rfl) ?_; refine PL.callM false [] (w_L_szColumn N p_a.column p_left r1 h_2) rfl Tryd.call89 rfl ⟨.aggL ⟨.t _, .t _, .t _, .t _, trivial⟩, .t _, trivial⟩ rfl trivial (fun h => by cases h) ?_; refine PL.op rfl (Rd.asnT rfl) ?_; refine PL.nil ?_; refine thA_n ?_; (iterate 2 refine PC.seq ?_); refine PC.region ?_; refine PL.op rfl (Rd.moveT rfl) ?_; refine PL.op rfl (Rd.lss rfl rfl) ?_; refine PL.nil ?_; refine thA_n ?_; rcases cond_some hh0 with ⟨h_3, hh0⟩ | ⟨h_3, hh0⟩
  · refine PC.cond_true rfl h_3 ?_; refine PC.seq ?_; refine PC.region ?_; refine PL.op rfl (Rd.asnT rfl) ?_; refine PL.nil ?_; refine thA_n ?_; refine PC.ret ?_; refine thA_r ?_; obtain rfl := some_in hh0; exact FinA.mk (r := iA (-1 : Int)) (bl := []) [] (.inl rfl) rfl (rl := [.tmp 4]) (.tmp .nil) rfl rfl rfl (.t _) trivial ⟨rfl, rfl⟩
  refine PC.cond_false rfl h_3 ?_; refine PC.skip ?_; refine thA_n ?_; refine PC.seq ?_; refine PC.region ?_; refine PL.op rfl (Rd.moveT rfl) ?_; refine PL.op rfl (Rd.asnT rfl) ?_; refine PL.nil ?_; refine thA_n ?_; refine PC.ret ?_; obtain rfl := some_in hh0; exact FinA.mk (r := iA r1) (bl := []) [] (.inl rfl) rfl (rl := [.tmp 4]) (.tmp .nil) rfl rfl rfl (.t _) trivial ⟨rfl, rfl⟩
def m_L_szChangeS_k1 (N : Nat) (left14 : Int) : Option (Int) :=
  some left14
def m_L_szChangeS_b1 (N : Nat) (p_a : (List L_Change)) (left4 : Int) (i5 : Int) : Option ((Int × Int) ⊕ (Int ⊕ Int)) :=
  cond (decide (i5 < (p_a.length : Int)))
    ((ixI p_a i5).bind fun x21 =>
    (m_L_szChange N x21 left4).bind fun r23 =>
    cond (decide (r23 < (0 : Int)))
      (some (.inr (.inr (-1 : Int))))
      ((chk (i5 + (1 : Int))).bind fun n26 =>
      some (.inl (r23, n26))))
    (some (.inr (.inl left4)))
def m_L_szChangeS (N : Nat) (p_a : (List L_Change)) (p_left : Int) : Option (Int) :=
  (chk (p_left - (p_a.length : Int))).bind fun n1 =>
  cond (decide (n1 < (0 : Int)))
    (some (-1 : Int))
    ((loopM (β := Int ⊕ Int) (fun s : Int × Int => m_L_szChangeS_b1 N p_a s.1 s.2) N (n1, (0 : Int))).bind fun o => match o with
    | .inl e =>
      m_L_szChangeS_k1 N e
    | .inr v =>
      some v)
theorem w_L_szChangeS (N : Nat) (p_a : (List L_Change)) (p_left : Int) (r : Int) (hh0 : m_L_szChangeS N p_a p_left = some r) : FnX Tryd.prog 61 [] [sL p_a, iA p_left] (RE (iA r) []) := by
  unfold m_L_szChangeS at hh0; refine FnX.mk Tryd.func61 rfl rfl ?_; intro s hs; refine PC.seq ?_; refine PC.region ?_; refine PL.op rfl (Rd.asnT rfl) ?_; refine PL.nil ?_; refine thA_n ?_; refine PC.seq ?_; obtain ⟨n1, h_2, hh0⟩ := bind_some hh0; refine PC.region ?_; (iterate 2 refine PL.op rfl (Rd.moveT rfl) ?_); refine PL.op rfl (Rd.lenT rfl) ?_; refine PL.op rfl (Rd.subM rfl rfl h_2) ?_; refine PL.op rfl (Rd.asnT rfl) ?_; refine PL.nil ?_; refine thA_n ?_; (iterate 2 refine PC.seq ?_); refine PC.region ?_; refine PL.op rfl (Rd.moveT rfl) ?_; refine PL.op rfl (Rd.lss rfl rfl) ?_; refine PL.nil ?_; refine thA_n ?_; rcases cond_some hh0 with ⟨h_3, hh0⟩ | ⟨h_3, hh0⟩
  · refine PC.cond_true rfl h_3 ?_; refine PC.seq ?_; refine PC.region ?_; refine PL.op rfl (Rd.asnT rfl) ?_; refine PL.nil ?_; refine thA_n ?_; refine PC.ret ?_; refine thA_r ?_; obtain rfl := some_in hh0; exact FinA.mk (r := iA (-1 : Int)) (bl := []) [] (.inl rfl) rfl (rl := [.tmp 4]) (.tmp .nil) rfl rfl rfl (.t _) trivial ⟨rfl, rfl⟩
  refine PC.cond_false rfl h_3 ?_; refine PC.skip ?_; refine thA_n ?_; (iterate 2 refine PC.seq ?_); refine PC.region ?_; refine PL.op rfl (Rd.asnT rfl) ?_; refine PL.nil ?_; refine thA_n ?_; obtain ⟨o15, h_16, hh0⟩ := bind_some hh0; refine PC.cutE hs (fun x : Int => [(1, iA x)]) (fun x => []) (fun x => m_L_szChangeS_k1 N x = some r) ?_ ?_
  · refine PC.block ?_; refine PC.loop hs (fun x : Nat × (Int × Int) => [(0, sL p_a), (1, iA x.2.1), (5, iA x.2.2)]) (fun x => []) (fun x => loopM (β := Int ⊕ Int) (fun s : Int × Int => m_L_szChangeS_b1 N p_a s.1 s.2) x.1 x.2 = some o15) (fun x => x.1) (N, (n1, (0 : Int))) [] ⟨rfl, rfl, trivial, ⟨.t _, .t _, .t _, trivial⟩⟩ h_16 ?_
    rintro ⟨f17_, left4, i5⟩ h_19
    obtain ⟨f17, y18, rfl, hh1, kk1⟩ := loopM_some h_19
    replace hh1 : m_L_szChangeS_b1 N p_a left4 i5 = some y18 := hh1
    unfold m_L_szChangeS_b1 at hh1; (iterate 2 refine PC.seq ?_); refine PC.region ?_; (iterate 2 refine PL.op rfl (Rd.moveT rfl) ?_); refine PL.op rfl (Rd.lenT rfl) ?_; refine PL.op rfl (Rd.lss rfl rfl) ?_; refine PL.nil ?_; refine thA_n ?_; rcases cond_some hh1 with ⟨h_20, hh1⟩ | ⟨h_20, hh1⟩; rotate_left
    · refine PC.cond_false rfl h_20 ?_; refine PC.exit ?_; (iterate 2 refine thA_e ?_); refine inA_eq rfl ?_; refine thA_n ?_; obtain rfl := some_in hh1; obtain rfl : (.inl left4 : Int ⊕ Int) = o15 := kk1; exact ⟨left4, hh0, [], ⟨rfl, rfl, trivial, ⟨.t _, trivial⟩⟩⟩
    refine PC.cond_true rfl h_20 ?_; refine PC.skip ?_; refine thA_n ?_; refine PC.seq ?_; refine PC.block ?_; refine PC.seq ?_; obtain ⟨x21, h_22, hh1⟩ := bind_some hh1; obtain ⟨r23, h_24, hh1⟩ := bind_some hh1; refine PC.region ?_; (iterate 2 refine PL.op rfl (Rd.moveT rfl) ?_); refine PL.op rfl (Rd.ixM rfl rfl h_22) ?_; refine PL.op rfl (Rd.elMR rfl h_22 rfl rfl) ?_; refine PL.op rfl (Rd.moveT rfl) ?_; refine PL.callM false [] (w_L_szChange N x21 left4 r23 h_24) rfl Tryd.call44 rfl ⟨.aggL ⟨.t _, .t _, .t _, .t _, .t _, .t _, trivial⟩, .t _, trivial⟩ rfl trivial (fun h => by cases h) ?_; refine PL.op rfl (Rd.asnT rfl) ?_; refine PL.nil ?_; refine thA_n ?_; refine PC.seq ?_; refine PC.region ?_; refine PL.op rfl (Rd.moveT rfl) ?_; refine PL.op rfl (Rd.lss rfl rfl) ?_; refine PL.nil ?_; refine thA_n ?_; rcases cond_some hh1 with ⟨h_25, hh1⟩ | ⟨h_25, hh1⟩; rotate_left
    · refine PC.cond_false rfl h_25 ?_; refine PC.skip ?_; refine inA_n ?_; refine thA_n ?_; obtain ⟨n26, h_27, hh1⟩ := bind_some hh1; refine PC.region ?_; refine PL.op rfl (Rd.moveT rfl) ?_; refine PL.op rfl (Rd.addM rfl rfl h_27) ?_; refine PL.op rfl (Rd.asnT rfl) ?_; refine PL.nil ?_; obtain rfl := some_in hh1; refine thA_n ?_; exact ⟨(f17, (r23, n26)), Nat.lt_succ_self _, kk1, [], ⟨rfl, rfl, trivial, ⟨.t _, .t _, .t _, trivial⟩⟩⟩
    refine PC.cond_true rfl h_25 ?_; refine PC.seq ?_; refine PC.region ?_; refine PL.op rfl (Rd.asnT rfl) ?_; refine PL.nil ?_; refine thA_n ?_; refine PC.ret ?_; refine inA_r ?_; (iterate 2 refine thA_r ?_); refine inA_r ?_; refine thA_r ?_; obtain rfl := some_in hh1; obtain rfl : (.inr (-1 : Int) : Int ⊕ Int) = o15 := kk1; refine thA_r ?_; obtain rfl := some_in hh0; exact FinA.mk (r := iA (-1 : Int)) (bl := []) [] (.inl rfl) rfl (rl := [.tmp 4]) (.tmp .nil) rfl rfl rfl (.t _) trivial ⟨rfl, rfl⟩
  clear hh0
  rintro left14 hh0
  replace hh0 : m_L_szChangeS_k1 N left14 = some r := hh0
  unfold m_L_szChangeS_k1 at hh0; refine thA_n ?_; refine PC.seq ?_; refine PC.region ?_; refine PL.op rfl (Rd.moveT rfl) ?_; refine PL.op rfl (Rd.asnT rfl) ?_; refine PL.nil ?_; refine thA_n ?_; refine PC.ret ?_; obtain rfl := some_in hh0; exact FinA.mk (r := iA left14) (bl := []) [] (.inl rfl) rfl (rl := [.tmp 4]) (.tmp .nil) rfl rfl rfl (.t _) trivial ⟨rfl, rfl⟩
def m_L_szValueS_k1 (N : Nat) (left14 : Int) : Option (Int) :=
  some left14
def m_L_szValueS_b1 (N : Nat) (p_a : (List L_Value)) (left4 : Int) (i5 : Int) : Option ((Int × Int) ⊕ (Int ⊕ Int)) :=
  cond (decide (i5 < (p_a.length : Int)))
    ((ixI p_a i5).bind fun x21 =>
    (m_L_szValue N x21 left4).bind fun r23 =>
    cond (decide (r23 < (0 : Int)))
      (some (.inr (.inr (-1 : Int))))
      ((chk (i5 + (1 : Int))).bind fun n26 =>
      some (.inl (r23, n26))))
    (some (.inr (.inl left4)))
def m_L_szValueS (N : Nat) (p_a : (List L_Value)) (p_left : Int) : Option (Int) :=
  (chk (p_left - (p_a.length : Int))).bind fun n1 =>
  cond (decide (n1 < (0 : Int)))
    (some (-1 : Int))
    ((loopM (β := Int ⊕ Int) (fun s : Int × Int => m_L_szValueS_b1 N p_a s.1 s.2) N (n1, (0 : Int))).bind fun o => match o with
    | .inl e =>
      m_L_szValueS_k1 N e
    | .inr v =>
      some v)
theorem w_L_szValueS (N : Nat) (p_a : (List L_Value)) (p_left : Int) (r : Int) (hh0 : m_L_szValueS N p_a p_left = some r) : FnX Tryd.prog 48 [] [sL p_a, iA p_left] (RE (iA r) []) := by
  unfold m_L_szValueS at hh0; refine FnX.mk Tryd.func48 rfl rfl ?_; intro s hs; refine PC.seq ?_; refine PC.region ?_; refine PL.op rfl (Rd.asnT rfl) ?_; refine PL.nil ?_; refine thA_n ?_; refine PC.seq ?_; obtain ⟨n1, h_2, hh0⟩ := bind_some hh0; refine PC.region ?_; (iterate 2 refine PL.op rfl (Rd.moveT rfl) ?_); refine PL.op rfl (Rd.lenT rfl) ?_; refine PL.op rfl (Rd.subM rfl rfl h_2) ?_; refine PL.op rfl (Rd.asnT rfl) ?_; refine PL.nil ?_; refine thA_n ?_; (iterate 2 refine PC.seq ?_); refine PC.region ?_; refine PL.op rfl (Rd.moveT rfl) ?_; refine PL.op rfl (Rd.lss rfl rfl) ?_; refine PL.nil ?_; refine thA_n ?_; rcases cond_some hh0 with ⟨h_3, hh0⟩ | ⟨h_3, hh0⟩
  · refine PC.cond_true rfl h_3 ?_; refine PC.seq ?_; refine PC.region ?_; refine PL.op rfl (Rd.asnT rfl) ?_; refine PL.nil ?_; refine thA_n ?_; refine PC.ret ?_; refine thA_r ?_; obtain rfl := some_in hh0; exact FinA.mk (r := iA (-1 : Int)) (bl := []) [] (.inl rfl) rfl (rl := [.tmp 4]) (.tmp .nil) rfl rfl rfl (.t _) trivial ⟨rfl, rfl⟩
  refine PC.cond_false rfl h_3 ?_; refine PC.skip ?_; refine thA_n ?_; (iterate 2 refine PC.seq ?_); refine PC.region ?_; refine PL.op rfl (Rd.asnT rfl) ?_; refine PL.nil ?_; refine thA_n ?_; obtain ⟨o15, h_16, hh0⟩ := bind_some hh0; refine PC.cutE hs (fun x : Int => [(1, iA x)]) (fun x => []) (fun x => m_L_szValueS_k1 N x = some r) ?_ ?_
  · refine PC.block ?_; refine PC.loop hs (fun x : Nat × (Int × Int) => [(0, sL p_a), (1, iA x.2.1), (5, iA x.2.2)]) (fun x => []) (fun x => loopM (β := Int ⊕ Int) (fun s : Int × Int => m_L_szValueS_b1 N p_a s.1 s.2) x.1 x.2 = some o15) (fun x => x.1) (N, (n1, (0 : Int))) [] ⟨rfl, rfl, trivial, ⟨.t _, .t _, .t _, trivial⟩⟩ h_16 ?_
    rintro ⟨f17_, left4, i5⟩ h_19
    obtain ⟨f17, y18, rfl, hh1, kk1⟩ := loopM_some h_19
    replace hh1 : m_L_szValueS_b1 N p_a left4 i5 = some y18 := hh1
    unfold m_L_szValueS_b1 at hh1; (iterate 2 refine PC.seq ?_); refine PC.region ?_; (iterate 2 refine PL.op rfl (Rd.moveT rfl) ?_); refine PL.op rfl (Rd.lenT rfl) ?_; refine PL.op rfl (Rd.lss rfl rfl) ?_; refine PL.nil ?_; refine thA_n ?_; rcases cond_some hh1 with ⟨h_20, hh1⟩ | ⟨h_20, hh1⟩; rotate_left
    · refine PC.cond_false rfl h_20 ?_; refine PC.exit ?_; (iterate 2 refine thA_e ?_); refine inA_eq rfl ?_; refine thA_n ?_; obtain rfl := some_in hh1; obtain rfl : (.inl left4 : Int ⊕ Int) = o15 := kk1; exact ⟨left4, hh0, [], ⟨rfl, rfl, trivial, ⟨.t _, trivial⟩⟩⟩
    refine PC.cond_true rfl h_20 ?_; refine PC.skip ?_; refine thA_n ?_; refine PC.seq ?_; refine PC.block ?_; refine PC.seq ?_; obtain ⟨x21, h_22, hh1⟩ := bind_some hh1; obtain ⟨r23, h_24, hh1⟩ := bind_some hh1; refine PC.region ?_; (iterate 2 refine PL.op rfl (Rd.moveT rfl) ?_); refine PL.op rfl (Rd.ixM rfl rfl h_22) ?_; refine PL.op rfl (Rd.elMR rfl h_22 rfl rfl) ?_; refine PL.op rfl (Rd.moveT rfl) ?_; refine PL.callM false [] (w_L_szValue N x21 left4 r23 h_24) rfl Tryd.call97 rfl ⟨.aggL ⟨.t _, .t _, .t _, trivial⟩, .t _, trivial⟩ rfl trivial (fun h => by cases h) ?_; refine PL.op rfl (Rd.asnT rfl) ?_; refine PL.nil ?_; refine thA_n ?_; refine PC.seq ?_; refine PC.region ?_; refine PL.op rfl (Rd.moveT rfl) ?_; refine PL.op rfl (Rd.lss rfl rfl) ?_; refine PL.nil ?_; refine thA_n ?_; rcases cond_some hh1 with ⟨h_25, hh1⟩ | ⟨h_25, hh1⟩; rotate_left
    · refine PC.cond_false rfl h_25 ?_; refine PC.skip ?_; refine inA_n ?_; refine thA_n ?_; obtain ⟨n26, h_27, hh1⟩ := bind_some hh1; refine PC.region ?_; refine PL.op rfl (Rd.moveT rfl) ?_; refine PL.op rfl (Rd.addM rfl rfl h_27) ?_; refine PL.op rfl (Rd.asnT rfl) ?_; refine PL.nil ?_; obtain rfl := some_in hh1; refine thA_n ?_; exact ⟨(f17, (r23, n26)), Nat.lt_succ_self _, kk1, [], ⟨rfl, rfl, trivial, ⟨.t _, .t _, .t _, trivial⟩⟩⟩
    refine PC.cond_true rfl h_25 ?_; refine PC.seq ?_; refine PC.region ?_; refine PL.op rfl (Rd.asnT rfl) ?_; refine PL.nil ?_; refine thA_n ?_; refine PC.ret ?_; refine inA_r ?_; (iterate 2 refine thA_r ?_); refine inA_r ?_; refine thA_r ?_; obtain rfl := some_in hh1; obtain rfl : (.inr (-1 : Int) : Int ⊕ Int) = o15 := kk1; refine thA_r ?_; obtain rfl := some_in hh0; exact FinA.mk (r := iA (-1 : Int)) (bl := []) [] (.inl rfl) rfl (rl := [.tmp 4]) (.tmp .nil) rfl rfl rfl (.t _) trivial ⟨rfl, rfl⟩
  clear hh0
  rintro left14 hh0
  replace hh0 : m_L_szValueS_k1 N left14 = some r := hh0
  unfold m_L_szValueS_k1 at hh0; refine thA_n ?_; refine PC.seq ?_; refine PC.region ?_; refine PL.op rfl (Rd.moveT rfl) ?_; refine PL.op rfl (Rd.asnT rfl) ?_; refine PL.nil ?_; refine thA_n ?_; refine PC.ret ?_; obtain rfl := some_in hh0; exact FinA.mk (r := iA left14) (bl := []) [] (.inl rfl) rfl (rl := [.tmp 4]) (.tmp .nil) rfl rfl rfl (.t _) trivial ⟨rfl, rfl⟩
def m_L_szTagged (N : Nat) (p_a : L_Tagged) (p_left : Int) : Option (Int) :=
  (m_L_szValueS N p_a.row p_left).bind fun r1 =>
  cond (decide (r1 < (0 : Int)))
    (some (-1 : Int))
    (some r1)
theorem w_L_szTagged (N : Nat) (p_a : L_Tagged) (p_left : Int) (r : Int) (hh0 : m_L_szTagged N p_a p_left = some r) : FnX Tryd.prog 108 [] [.agg [iA p_a.tag, sL p_a.row], iA p_left] (RE (iA r) []) := by
  unfold m_L_szTagged at hh0; refine FnX.mk Tryd.func108 rfl rfl ?_; intro s hs; refine PC.seq ?_; refine PC.region ?_; refine PL.ef rfl (Ef.box rfl rfl rfl) ?_; refine PL.nm (.op 0 0) [some ⟨.mx [iA p_a.tag, sL p_a.row], 137, 0⟩] rfl rfl ?_; refine PL.op rfl (Rd.asnT rfl) ?_; refine PL.nil ?_; refine thA_n ?_; refine PC.seq ?_; obtain ⟨r1, h_2, hh0⟩ := bind_some hh0; refine PC.region ?_; refine PL.op rfl (Rd.fieldO rfl rfl) ?_; refine PL.op rfl (Rd.loadO rfl rfl rfl) ?_; refine PL.op rfl (Rd.moveT rfl) ?_; refine PL.callM false [] (w_L_szValueS N p_a.row p_left r1 h_2) rfl Tryd.call48 rfl ⟨.t _, .t _, trivial⟩ rfl trivial (fun h => by cases h) ?_; refine PL.op rfl (Rd.asnT rfl) ?_; refine PL.nil ?_; refine thA_n ?_; (iterate 2 refine PC.seq ?_); refine PC.region ?_; refine PL.op rfl (Rd.moveT rfl) ?_; refine PL.op rfl (Rd.lss rfl rfl) ?_; refine PL.nil ?_; refine thA_n ?_; rcases cond_some hh0 with ⟨h_3, hh0⟩ | ⟨h_3, hh0⟩
  · refine PC.cond_true rfl h_3 ?_; refine PC.seq ?_; refine PC.region ?_; refine PL.op rfl (Rd.asnT rfl) ?_; refine PL.nil ?_; refine thA_n ?_; refine PC.ret ?_; refine thA_r ?_; obtain rfl := some_in hh0; exact FinA.mk (r := iA (-1 : Int)) (bl := []) [] (.inl rfl) rfl (rl := [.tmp 4]) (.tmp .nil) rfl rfl rfl (.t _) trivial ⟨rfl, rfl⟩
  refine PC.cond_false rfl h_3 ?_; refine PC.skip ?_; refine thA_n ?_; refine PC.seq ?_; refine PC.region ?_; refine PL.op rfl (Rd.moveT rfl) ?_; refine PL.op rfl (Rd.asnT rfl) ?_; refine PL.nil ?_; refine thA_n ?_; refine PC.ret ?_; obtain rfl := some_in hh0; exact FinA.mk (r := iA r1) (bl := []) [] (.inl rfl) rfl (rl := [.tmp 4]) (.tmp .nil) rfl rfl rfl (.t _) trivial ⟨rfl, rfl⟩
def m_L_szTaggedS_k1 (N : Nat) (left14 : Int) : Option (Int) :=
  some left14
def m_L_szTaggedS_b1 (N : Nat) (p_a : (List L_Tagged)) (left4 : Int) (i5 : Int) : Option ((Int × Int) ⊕ (Int ⊕ Int)) :=
  cond (decide (i5 < (p_a.length : Int)))
    ((ixI p_a i5).bind fun x21 =>
    (m_L_szTagged N x21 left4).bind fun r23 =>
    cond (decide (r23 < (0 : Int)))
      (some (.inr (.inr (-1 : Int))))
      ((chk (i5 + (1 : Int))).bind fun n26 =>
      some (.inl (r23, n26))))
    (some (.inr (.inl left4)))
def m_L_szTaggedS (N : Nat) (p_a : (List L_Tagged)) (p_left : Int) : Option (Int) :=
  (chk (p_left - (p_a.length : Int))).bind fun n1 =>
  cond (decide (n1 < (0 : Int)))
    (some (-1 : Int))
    ((loopM (β := Int ⊕ Int) (fun s : Int × Int => m_L_szTaggedS_b1 N p_a s.1 s.2) N (n1, (0 : Int))).bind fun o => match o with
    | .inl e =>
      m_L_szTaggedS_k1 N e
    | .inr v =>
      some v)
theorem w_L_szTaggedS (N : Nat) (p_a : (List L_Tagged)) (p_left : Int) (r : Int) (hh0 : m_L_szTaggedS N p_a p_left = some r) : FnX Tryd.prog 62 [] [sL p_a, iA p_left] (RE (iA r) []) := by
  unfold m_L_szTaggedS at hh0; refine FnX.mk Tryd.func62 rfl rfl ?_; intro s hs; refine PC.seq ?_; refine PC.region ?_; refine PL.op rfl (Rd.asnT rfl) ?_; refine PL.nil ?_; refine thA_n ?_; refine PC.seq ?_; obtain ⟨n1, h_2, hh0⟩ := bind_some hh0; refine PC.region ?_; (iterate 2 refine PL.op rfl (Rd.moveT rfl) ?_); refine PL.op rfl (Rd.lenT rfl) ?_; refine PL.op rfl (Rd.subM rfl rfl h_2) ?_; refine PL.op rfl (Rd.asnT rfl) ?_; refine PL.nil ?_; refine thA_n ?_; (iterate 2 refine PC.seq ?_); refine PC.region ?_; refine PL.op rfl (Rd.moveT rfl) ?_; refine PL.op rfl (Rd.lss rfl rfl) ?_; refine PL.nil ?_; refine thA_n ?_; rcases cond_some hh0 with ⟨h_3, hh0⟩ | ⟨h_3, hh0⟩
  · refine PC.cond_true rfl h_3 ?_; refine PC.seq ?_; refine PC.region ?_; refine PL.op rfl (Rd.asnT rfl) ?_; refine PL.nil ?_; refine thA_n ?_; refine PC.ret ?_; refine thA_r ?_; obtain rfl := some_in hh0; exact FinA.mk (r := iA (-1 : Int)) (bl := []) [] (.inl rfl) rfl (rl := [.tmp 4]) (.tmp .nil) rfl rfl rfl (.t _) trivial ⟨rfl, rfl⟩
  refine PC.cond_false rfl h_3 ?_; refine PC.skip ?_; refine thA_n ?_; (iterate 2 refine PC.seq ?_); refine PC.region ?_; refine PL.op rfl (Rd.asnT rfl) ?_; refine PL.nil ?_; refine thA_n ?_; obtain ⟨o15, h_16, hh0⟩ := bind_some hh0; refine PC.cutE hs (fun x : Int => [(1, iA x)]) (fun x => []) (fun x => m_L_szTaggedS_k1 N x = some r) ?_ ?_
  · refine PC.block ?_; refine PC.loop hs (fun x : Nat × (Int × Int) => [(0, sL p_a), (1, iA x.2.1), (5, iA x.2.2)]) (fun x => []) (fun x => loopM (β := Int ⊕ Int) (fun s : Int × Int => m_L_szTaggedS_b1 N p_a s.1 s.2) x.1 x.2 = some o15) (fun x => x.1) (N, (n1, (0 : Int))) [] ⟨rfl, rfl, trivial, ⟨.t _, .t _, .t _, trivial⟩⟩ h_16 ?_
    rintro ⟨f17_, left4, i5⟩ h_19
    obtain ⟨f17, y18, rfl, hh1, kk1⟩ := loopM_some h_19
    replace hh1 : m_L_szTaggedS_b1 N p_a left4 i5 = some y18 := hh1
    unfold m_L_szTaggedS_b1 at hh1; (iterate 2 refine PC.seq ?_); refine PC.region ?_; (iterate 2 refine PL.op rfl (Rd.moveT rfl) ?_); refine PL.op rfl (Rd.lenT rfl) ?_; refine PL.op rfl (Rd.lss rfl rfl) ?_; refine PL.nil ?_; refine thA_n ?_; rcases cond_some hh1 with ⟨h_20, hh1⟩ | ⟨h_20, hh1⟩; rotate_left
    · refine PC.cond_false rfl h_20 ?_; refine PC.exit ?_; (iterate 2 refine thA_e ?_); refine inA_eq rfl ?_; refine thA_n ?_; obtain rfl := some_in hh1; obtain rfl : (.inl left4 : Int ⊕ Int) = o15 := kk1; exact ⟨left4, hh0, [], ⟨rfl, rfl, trivial, ⟨.t _, trivial⟩⟩⟩
    refine PC.cond_true rfl h_20 ?_; refine PC.skip ?_; refine thA_n ?_; refine PC.seq ?_; refine PC.block ?_; refine PC.seq ?_; obtain ⟨x21, h_22, hh1⟩ := bind_some hh1; obtain ⟨r23, h_24, hh1⟩ := bind_some hh1; refine PC.region ?_; (iterate 2 refine PL.op rfl (Rd.moveT rfl) ?_); refine PL.op rfl (Rd.ixM rfl rfl h_22) ?_; refine PL.op rfl (Rd.elMR rfl h_22 rfl rfl) ?_; refine PL.op rfl (Rd.moveT rfl) ?_; refine PL.callM false [] (w_L_szTagged N x21 left4 r23 h_24) rfl Tryd.call108 rfl ⟨.aggL ⟨.t _, .t _, trivial⟩, .t _, trivial⟩ rfl trivial (fun h => by cases h) ?_; refine PL.op rfl (Rd.asnT rfl) ?_; refine PL.nil ?_; refine thA_n ?_; refine PC.seq ?_; refine PC.region ?_; refine PL.op rfl (Rd.moveT rfl) ?_; refine PL.op rfl (Rd.lss rfl rfl) ?_; refine PL.nil ?_; refine thA_n ?_; rcases cond_some hh1 with ⟨h_25, hh1⟩ | ⟨h_25, hh1⟩; rotate_left
    · refine PC.cond_false rfl h_25 ?_; refine PC.skip ?_; refine inA_n ?_; refine thA_n ?_; obtain ⟨n26, h_27, hh1⟩ := bind_some hh1; refine PC.region ?_; refine PL.op rfl (Rd.moveT rfl) ?_; refine PL.op rfl (Rd.addM rfl rfl h_27) ?_; refine PL.op rfl (Rd.asnT rfl) ?_; refine PL.nil ?_; obtain rfl := some_in hh1; refine thA_n ?_; exact ⟨(f17, (r23, n26)), Nat.lt_succ_self _, kk1, [], ⟨rfl, rfl, trivial, ⟨.t _, .t _, .t _, trivial⟩⟩⟩
    refine PC.cond_true rfl h_25 ?_; refine PC.seq ?_; refine PC.region ?_; refine PL.op rfl (Rd.asnT rfl) ?_; refine PL.nil ?_; refine thA_n ?_; refine PC.ret ?_; refine inA_r ?_; (iterate 2 refine thA_r ?_); refine inA_r ?_; refine thA_r ?_; obtain rfl := some_in hh1; obtain rfl : (.inr (-1 : Int) : Int ⊕ Int) = o15 := kk1; refine thA_r ?_; obtain rfl := some_in hh0; exact FinA.mk (r := iA (-1 : Int)) (bl := []) [] (.inl rfl) rfl (rl := [.tmp 4]) (.tmp .nil) rfl rfl rfl (.t _) trivial ⟨rfl, rfl⟩
  clear hh0
  rintro left14 hh0
  replace hh0 : m_L_szTaggedS_k1 N left14 = some r := hh0
  unfold m_L_szTaggedS_k1 at hh0; refine thA_n ?_; refine PC.seq ?_; refine PC.region ?_; refine PL.op rfl (Rd.moveT rfl) ?_; refine PL.op rfl (Rd.asnT rfl) ?_; refine PL.nil ?_; refine thA_n ?_; refine PC.ret ?_; obtain rfl := some_in hh0; exact FinA.mk (r := iA left14) (bl := []) [] (.inl rfl) rfl (rl := [.tmp 4]) (.tmp .nil) rfl rfl rfl (.t _) trivial ⟨rfl, rfl⟩
def m_L_szTable (N : Nat) (p_a : L_Table) (p_left : Int) : Option (Int) :=
  (m_L_szColumnS N p_a.first p_left).bind fun r1 =>
  cond (decide (r1 < (0 : Int)))
    (some (-1 : Int))
    ((m_L_szChangeS N p_a.changes r1).bind fun r4 =>
    cond (decide (r4 < (0 : Int)))
      (some (-1 : Int))
      ((m_L_szTaggedS N p_a.rows r4).bind fun r7 =>
      cond (decide (r7 < (0 : Int)))
        (some (-1 : Int))
        (some r7)))
theorem w_L_szTable (N : Nat) (p_a : L_Table) (p_left : Int) (r : Int) (hh0 : m_L_szTable N p_a p_left = some r) : FnX Tryd.prog 22 [] [.agg [sL p_a.first, sL p_a.changes, sL p_a.rows], iA p_left] (RE (iA r) []) := by
  unfold m_L_szTable at hh0; refine FnX.mk Tryd.func22 rfl rfl ?_; intro s hs; refine PC.seq ?_; refine PC.region ?_; refine PL.ef rfl (Ef.box rfl rfl rfl) ?_; refine PL.nm (.op 0 0) [some ⟨.mx [sL p_a.first, sL p_a.changes, sL p_a.rows], 37, 0⟩] rfl rfl ?_; refine PL.op rfl (Rd.asnT rfl) ?_; refine PL.nil ?_; refine thA_n ?_; refine PC.seq ?_; obtain ⟨r1, h_2, hh0⟩ := bind_some hh0; refine PC.region ?_; refine PL.op rfl (Rd.fieldO rfl rfl) ?_; refine PL.op rfl (Rd.loadO rfl rfl rfl) ?_; refine PL.op rfl (Rd.moveT rfl) ?_; refine PL.callM false [] (w_L_szColumnS N p_a.first p_left r1 h_2) rfl Tryd.call60 rfl ⟨.t _, .t _, trivial⟩ rfl trivial (fun h => by cases h) ?_; refine PL.op rfl (Rd.asnT rfl) ?_; refine PL.nil ?_; refine thA_n ?_; (iterate 2 refine PC.seq ?_); refine PC.region ?_; refine PL.op rfl (Rd.moveT rfl) ?_; refine PL.op rfl (Rd.lss rfl rfl) ?_; refine PL.nil ?_; refine thA_n ?_; rcases cond_some hh0 with ⟨h_3, hh0⟩ | ⟨h_3, hh0⟩
  · refine PC.cond_true rfl h_3 ?_; refine PC.seq ?_; refine PC.region ?_; refine PL.op rfl (Rd.asnT rfl) ?_; refine PL.nil ?_; refine thA_n ?_; refine PC.ret ?_; refine thA_r ?_; obtain rfl := some_in hh0; exact FinA.mk (r := iA (-1 : Int)) (bl := []) [] (.inl rfl) rfl (rl := [.tmp 4]) (.tmp .nil) rfl rfl rfl (.t _) trivial ⟨rfl, rfl⟩
  refine PC.cond_false rfl h_3 ?_; refine PC.skip ?_; refine thA_n ?_; refine PC.seq ?_; obtain ⟨r4, h_5, hh0⟩ := bind_some hh0; refine PC.region ?_; refine PL.op rfl (Rd.fieldO rfl rfl) ?_; refine PL.op rfl (Rd.loadO rfl rfl rfl) ?_; refine PL.op rfl (Rd.moveT rfl) ?_; refine PL.callM false [] (w_L_szChangeS N p_a.changes r1 r4 h_5) rfl Tryd.call61 rfl ⟨.t _, .t _, trivial⟩ rfl trivial (fun h => by cases h) ?_; refine PL.op rfl (Rd.asnT rfl) ?_; refine PL.nil ?_; refine thA_n ?_; (iterate 2 refine PC.seq ?_); refine PC.region ?_; refine PL.op rfl (Rd.moveT rfl) ?_; refine PL.op rfl (Rd.lss rfl rfl) ?_; refine PL.nil ?_; refine thA_n ?_; rcases cond_some hh0 with ⟨h_6, hh0⟩ | ⟨h_6, hh0⟩
  · refine PC.cond_true rfl h_6 ?_; refine PC.seq ?_; refine PC.region ?_; refine PL.op rfl (Rd.asnT rfl) ?_; refine PL.nil ?_; refine thA_n ?_; refine PC.ret ?_; refine thA_r ?_; obtain rfl := some_in hh0; exact FinA.mk (r := iA (-1 : Int)) (bl := []) [] (.inl rfl) rfl (rl := [.tmp 4]) (.tmp .nil) rfl rfl rfl (.t _) trivial ⟨rfl, rfl⟩
  refine PC.cond_false rfl h_6 ?_; refine PC.skip ?_; refine thA_n ?_; refine PC.seq ?_; obtain ⟨r7, h_8, hh0⟩ := bind_some hh0; refine PC.region ?_; refine PL.op rfl (Rd.fieldO rfl rfl) ?_; refine PL.op rfl (Rd.loadO rfl rfl rfl) ?_; refine PL.op rfl (Rd.moveT rfl) ?_; refine PL.callM false [] (w_L_szTaggedS N p_a.rows r4 r7 h_8) rfl Tryd.call62 rfl ⟨.t _, .t _, trivial⟩ rfl trivial (fun h => by cases h) ?_; refine PL.op rfl (Rd.asnT rfl) ?_; refine PL.nil ?_; refine thA_n ?_; (iterate 2 refine PC.seq ?_); refine PC.region ?_; refine PL.op rfl (Rd.moveT rfl) ?_; refine PL.op rfl (Rd.lss rfl rfl) ?_; refine PL.nil ?_; refine thA_n ?_; rcases cond_some hh0 with ⟨h_9, hh0⟩ | ⟨h_9, hh0⟩
  · refine PC.cond_true rfl h_9 ?_; refine PC.seq ?_; refine PC.region ?_; refine PL.op rfl (Rd.asnT rfl) ?_; refine PL.nil ?_; refine thA_n ?_; refine PC.ret ?_; refine thA_r ?_; obtain rfl := some_in hh0; exact FinA.mk (r := iA (-1 : Int)) (bl := []) [] (.inl rfl) rfl (rl := [.tmp 4]) (.tmp .nil) rfl rfl rfl (.t _) trivial ⟨rfl, rfl⟩
  refine PC.cond_false rfl h_9 ?_; refine PC.skip ?_; refine thA_n ?_; refine PC.seq ?_; refine PC.region ?_; refine PL.op rfl (Rd.moveT rfl) ?_; refine PL.op rfl (Rd.asnT rfl) ?_; refine PL.nil ?_; refine thA_n ?_; refine PC.ret ?_; obtain rfl := some_in hh0; exact FinA.mk (r := iA r7) (bl := []) [] (.inl rfl) rfl (rl := [.tmp 4]) (.tmp .nil) rfl rfl rfl (.t _) trivial ⟨rfl, rfl⟩
def m_L_toValue (N : Nat) (p_a : L_Value) : Option (I_Value) :=
  some (I_Value.mk p_a.kind p_a.num p_a.text)
theorem w_L_toValue (N : Nat) (p_a : L_Value) (r : I_Value) (hh0 : m_L_toValue N p_a = some r) : FnX Tryd.prog 98 [] [.agg [iA p_a.kind, iA p_a.num, sA p_a.text]] (RE (.agg [iA r.kind, iA r.num, sA r.text]) []) := by
  unfold m_L_toValue at hh0; refine FnX.mk Tryd.func98 rfl rfl ?_; intro s hs; refine PC.seq ?_; refine PC.region ?_; refine PL.ef rfl (Ef.box rfl rfl rfl) ?_; refine PL.nm (.op 0 0) [some ⟨.mx [iA p_a.kind, iA p_a.num, sA p_a.text], 72, 0⟩] rfl rfl ?_; refine PL.ef rfl (Ef.alloc rfl rfl) ?_; refine PL.nm (.op 1 0) [some ⟨.mx [iA p_a.kind, iA p_a.num, sA p_a.text], 72, 0⟩, some ⟨.mx [iA (0 : Int), iA (0 : Int), sA ByteArray.empty], 62, 0⟩] rfl rfl ?_; refine PL.nil ?_; refine thA_n ?_; refine PC.seq ?_; refine PC.region ?_; refine PL.ef rfl (Ef.alloc rfl rfl) ?_; refine PL.nm (.op 2 0) [some ⟨.mx [iA p_a.kind, iA p_a.num, sA p_a.text], 72, 0⟩, some ⟨.mx [iA (0 : Int), iA (0 : Int), sA ByteArray.empty], 62, 0⟩, some ⟨.mx [iA (0 : Int), iA (0 : Int), sA ByteArray.empty], 62, 0⟩] rfl rfl ?_; refine PL.nil ?_; refine thA_n ?_; refine PC.seq ?_; refine PC.region ?_; refine PL.op rfl (Rd.fieldO rfl rfl) ?_; refine PL.op rfl (Rd.loadO rfl rfl rfl) ?_; refine PL.op rfl (Rd.fieldO rfl rfl) ?_; refine PL.store rfl rfl rfl rfl rfl rfl rfl ?_; refine PL.nO [some ⟨.mx [iA p_a.kind, iA p_a.num, sA p_a.text], 72, 0⟩, some ⟨.mx [iA (0 : Int), iA (0 : Int), sA ByteArray.empty], 62, 0⟩, some ⟨.mx [iA p_a.kind, iA (0 : Int), sA ByteArray.empty], 62, 0⟩] rfl ?_; refine PL.nil ?_; refine thA_n ?_; refine PC.seq ?_; refine PC.region ?_; refine PL.op rfl (Rd.fieldO rfl rfl) ?_; refine PL.op rfl (Rd.loadO rfl rfl rfl) ?_; refine PL.op rfl (Rd.fieldO rfl rfl) ?_; refine PL.store rfl rfl rfl rfl rfl rfl rfl ?_; refine PL.nO [some ⟨.mx [iA p_a.kind, iA p_a.num, sA p_a.text], 72, 0⟩, some ⟨.mx [iA (0 : Int), iA (0 : Int), sA ByteArray.empty], 62, 0⟩, some ⟨.mx [iA p_a.kind, iA p_a.num, sA ByteArray.empty], 62, 0⟩] rfl ?_; refine PL.nil ?_; refine thA_n ?_; refine PC.seq ?_; refine PC.region ?_; refine PL.op rfl (Rd.fieldO rfl rfl) ?_; refine PL.op rfl (Rd.loadO rfl rfl rfl) ?_; refine PL.op rfl (Rd.fieldO rfl rfl) ?_; refine PL.store rfl rfl rfl rfl rfl rfl rfl ?_; refine PL.nO [some ⟨.mx [iA p_a.kind, iA p_a.num, sA p_a.text], 72, 0⟩, some ⟨.mx [iA (0 : Int), iA (0 : Int), sA ByteArray.empty], 62, 0⟩, some ⟨.mx [iA p_a.kind, iA p_a.num, sA p_a.text], 62, 0⟩] rfl ?_; refine PL.nil ?_; refine thA_n ?_; refine PC.seq ?_; refine PC.region ?_; refine PL.op rfl (Rd.loadBox rfl rfl rfl) ?_; refine PL.store rfl rfl rfl rfl rfl rfl rfl ?_; refine PL.nO [some ⟨.mx [iA p_a.kind, iA p_a.num, sA p_a.text], 72, 0⟩, some ⟨.mx [iA p_a.kind, iA p_a.num, sA p_a.text], 62, 0⟩, some ⟨.mx [iA p_a.kind, iA p_a.num, sA p_a.text], 62, 0⟩] rfl ?_; refine PL.nil ?_; refine thA_n ?_; refine PC.ret ?_; obtain rfl := some_in hh0; exact FinA.mk (r := .agg [iA p_a.kind, iA p_a.num, sA p_a.text]) (bl := []) [] (.inl rfl) rfl (rl := [.cell 2 62]) (.cellN rfl rfl rfl rfl .nil) rfl rfl rfl (.aggL ⟨.t _, .t _, .t _, trivial⟩) trivial ⟨rfl, rfl⟩
def m_L_toColumn (N : Nat) (p_a : L_Column) : Option (I_Column) :=
  (m_L_toValue N p_a.default).bind fun r1 =>
  some (I_Column.mk p_a.kind r1)
theorem w_L_toColumn (N : Nat) (p_a : L_Column) (r : I_Column) (hh0 : m_L_toColumn N p_a = some r) : FnX Tryd.prog 90 [] [.agg [iA p_a.kind, iA p_a.default.kind, iA p_a.default.num, sA p_a.default.text]] (RE (.agg [iA r.kind, iA r.default.kind, iA r.default.num, sA r.default.text]) []) := by
  unfold m_L_toColumn at hh0; refine FnX.mk Tryd.func90 rfl rfl ?_; intro s hs; refine PC.seq ?_; refine PC.region ?_; refine PL.ef rfl (Ef.box rfl rfl rfl) ?_; refine PL.nm (.op 0 0) [some ⟨.mx [iA p_a.kind, iA p_a.default.kind, iA p_a.default.num, sA p_a.default.text], 74, 0⟩] rfl rfl ?_; refine PL.ef rfl (Ef.alloc rfl rfl) ?_; refine PL.nm (.op 1 0) [some ⟨.mx [iA p_a.kind, iA p_a.default.kind, iA p_a.default.num, sA p_a.default.text], 74, 0⟩, some ⟨.mx [iA (0 : Int), iA (0 : Int), iA (0 : Int), sA ByteArray.empty], 64, 0⟩] rfl rfl ?_; refine PL.nil ?_; refine thA_n ?_; refine PC.seq ?_; refine PC.region ?_; refine PL.ef rfl (Ef.alloc rfl rfl) ?_; refine PL.nm (.op 2 0) [some ⟨.mx [iA p_a.kind, iA p_a.default.kind, iA p_a.default.num, sA p_a.default.text], 74, 0⟩, some ⟨.mx [iA (0 : Int), iA (0 : Int), iA (0 : Int), sA ByteArray.empty], 64, 0⟩, some ⟨.mx [iA (0 : Int), iA (0 : Int), iA (0 : Int), sA ByteArray.empty], 64, 0⟩] rfl rfl ?_; refine PL.nil ?_; refine thA_n ?_; refine PC.seq ?_; refine PC.region ?_; refine PL.op rfl (Rd.fieldO rfl rfl) ?_; refine PL.op rfl (Rd.loadO rfl rfl rfl) ?_; refine PL.op rfl (Rd.fieldO rfl rfl) ?_; refine PL.store rfl rfl rfl rfl rfl rfl rfl ?_; refine PL.nO [some ⟨.mx [iA p_a.kind, iA p_a.default.kind, iA p_a.default.num, sA p_a.default.text], 74, 0⟩, some ⟨.mx [iA (0 : Int), iA (0 : Int), iA (0 : Int), sA ByteArray.empty], 64, 0⟩, some ⟨.mx [iA p_a.kind, iA (0 : Int), iA (0 : Int), sA ByteArray.empty], 64, 0⟩] rfl ?_; refine PL.nil ?_; refine thA_n ?_; refine PC.seq ?_; obtain ⟨r1, h_2, hh0⟩ := bind_some hh0; refine PC.region ?_; refine PL.op rfl (Rd.fieldO rfl rfl) ?_; refine PL.op rfl (Rd.loadSub rfl rfl rfl rfl) ?_; refine PL.callM false [] (w_L_toValue N p_a.default r1 h_2) rfl Tryd.call98 rfl ⟨.aggL ⟨.t _, .t _, .t _, trivial⟩, trivial⟩ rfl trivial (fun h => by cases h) ?_; refine PL.op rfl (Rd.fieldO rfl rfl) ?_; refine PL.store rfl rfl rfl rfl rfl rfl rfl ?_; refine PL.nO [some ⟨.mx [iA p_a.kind, iA p_a.default.kind, iA p_a.default.num, sA p_a.default.text], 74, 0⟩, some ⟨.mx [iA (0 : Int), iA (0 : Int), iA (0 : Int), sA ByteArray.empty], 64, 0⟩, some ⟨.mx [iA p_a.kind, iA r1.kind, iA r1.num, sA r1.text], 64, 0⟩] rfl ?_; refine PL.nil ?_; refine thA_n ?_; refine PC.seq ?_; refine PC.region ?_; refine PL.op rfl (Rd.loadBox rfl rfl rfl) ?_; refine PL.store rfl rfl rfl rfl rfl rfl rfl ?_; refine PL.nO [some ⟨.mx [iA p_a.kind, iA p_a.default.kind, iA p_a.default.num, sA p_a.default.text], 74, 0⟩, some ⟨.mx [iA p_a.kind, iA r1.kind, iA r1.num, sA r1.text], 64, 0⟩, some ⟨.mx [iA p_a.kind, iA r1.kind, iA r1.num, sA r1.text], 64, 0⟩] rfl ?_; refine PL.nil ?_; refine thA_n ?_; refine PC.ret ?_; obtain rfl := some_in hh0; exact FinA.mk (r := .agg [iA p_a.kind, iA r1.kind, iA r1.num, sA r1.text]) (bl := []) [] (.inl rfl) rfl (rl := [.cell 2 64]) (.cellN rfl rfl rfl rfl .nil) rfl rfl rfl (.aggL ⟨.t _, .t _, .t _, .t _, trivial⟩) trivial ⟨rfl, rfl⟩
def m_L_toColumnS_k1 (N : Nat) (v14 : (List I_Column)) : Option ((List I_Column)) :=
  some v14
def m_L_toColumnS_b1 (N : Nat) (p_a : (List L_Column)) (i3 : Int) (v4 : (List I_Column)) : Option ((Int × (List I_Column)) ⊕ (List I_Column)) :=
  cond (decide (i3 < (p_a.length : Int)))
    ((ixI p_a i3).bind fun x21 =>
    (m_L_toColumn N x21).bind fun r23 =>
    (ixI v4 i3).bind fun x25 =>
    (chk (i3 + (1 : Int))).bind fun n27 =>
    some (.inl (n27, (v4.set i3.toNat r23))))
    (some (.inr v4))
def m_L_toColumnS (N : Nat) (p_a : (List L_Column)) : Option ((List I_Column)) :=
  (mkM 40 (I_Column.mk (0 : Int) (I_Value.mk (0 : Int) (0 : Int) ByteArray.empty)) (p_a.length : Int)).bind fun xs1 =>
  (loopM (β := (List I_Column)) (fun s : Int × (List I_Column) => m_L_toColumnS_b1 N p_a s.1 s.2) N ((0 : Int), xs1)).bind fun e =>
  m_L_toColumnS_k1 N e
theorem w_L_toColumnS (N : Nat) (p_a : (List L_Column)) (r : (List I_Column)) (hh0 : m_L_toColumnS N p_a = some r) : FnX Tryd.prog 63 [] [sL p_a] (RE (.os 0 0 r.length) [⟨.tr (eL r), 64, 4⟩]) := by
  unfold m_L_toColumnS at hh0; refine FnX.mk Tryd.func63 rfl rfl ?_; intro s hs; refine PC.seq ?_; refine PC.region ?_; refine PL.op rfl (Rd.asnT rfl) ?_; refine PL.nil ?_; refine thA_n ?_; refine PC.seq ?_; obtain ⟨xs1, h_2, hh0⟩ := bind_some hh0; refine PC.region ?_; refine PL.op rfl (Rd.moveT rfl) ?_; refine PL.op rfl (Rd.lenT rfl) ?_; refine PL.ef rfl (Ef.makeM (I_Column.mk (0 : Int) (I_Value.mk (0 : Int) (0 : Int) ByteArray.empty)) rfl rfl h_2 rfl rfl rfl (by exact ⟨.inl ⟨rfl, rfl⟩, .inl ⟨rfl, rfl⟩, .inl ⟨rfl, rfl⟩, .inl ⟨rfl, rfl⟩, trivial⟩)) ?_; refine PL.nm (.os 0 0 xs1.length) [some ⟨.tr (eL xs1), 64, 4⟩] rfl rfl ?_; refine PL.op rfl (Rd.asnO rfl) ?_; refine PL.nil ?_; refine thA_n ?_; (iterate 2 refine PC.seq ?_); refine PC.region ?_; refine PL.op rfl (Rd.asnT rfl) ?_; refine PL.nil ?_; refine thA_n ?_; obtain ⟨o15, h_16, hh0⟩ := bind_some hh0; refine PC.cutE hs (fun x : (List I_Column) => [(3, .os 0 0 x.length)]) (fun x => [⟨.tr (eL x), 64, 4⟩]) (fun x => m_L_toColumnS_k1 N x = some r) ?_ ?_
  · refine PC.block ?_; refine PC.loop hs (fun x : Nat × (Int × (List I_Column)) => [(0, sL p_a), (3, .os 0 0 x.2.2.length), (4, iA x.2.1)]) (fun x => [⟨.tr (eL x.2.2), 64, 4⟩]) (fun x => loopM (β := (List I_Column)) (fun s : Int × (List I_Column) => m_L_toColumnS_b1 N p_a s.1 s.2) x.1 x.2 = some o15) (fun x => x.1) (N, ((0 : Int), xs1)) [some 0] ⟨rfl, rfl, ⟨⟨_, rfl, rfl, rfl, .tr _⟩, trivial⟩, ⟨.t _, .os rfl, .t _, trivial⟩⟩ h_16 ?_
    rintro ⟨f17_, i3, v4⟩ h_19
    obtain ⟨f17, y18, rfl, hh1, kk1⟩ := loopM_some h_19
    replace hh1 : m_L_toColumnS_b1 N p_a i3 v4 = some y18 := hh1
    unfold m_L_toColumnS_b1 at hh1; (iterate 2 refine PC.seq ?_); refine PC.region ?_; (iterate 2 refine PL.op rfl (Rd.moveT rfl) ?_); refine PL.op rfl (Rd.lenT rfl) ?_; refine PL.op rfl (Rd.lss rfl rfl) ?_; refine PL.nil ?_; refine thA_n ?_; rcases cond_some hh1 with ⟨h_20, hh1⟩ | ⟨h_20, hh1⟩; rotate_left
    · refine PC.cond_false rfl h_20 ?_; refine PC.exit ?_; (iterate 2 refine thA_e ?_); refine inA_eq rfl ?_; refine thA_n ?_; obtain rfl := some_in hh1; obtain rfl : (v4 : (List I_Column)) = o15 := kk1; exact ⟨v4, hh0, [some 0], ⟨rfl, rfl, ⟨⟨_, rfl, rfl, rfl, .tr _⟩, trivial⟩, ⟨.os rfl, trivial⟩⟩⟩
    refine PC.cond_true rfl h_20 ?_; refine PC.skip ?_; refine thA_n ?_; refine PC.seq ?_; refine PC.block ?_; obtain ⟨x21, h_22, hh1⟩ := bind_some hh1; obtain ⟨r23, h_24, hh1⟩ := bind_some hh1; obtain ⟨x25, h_26, hh1⟩ := bind_some hh1; refine PC.region ?_; refine PL.op rfl (Rd.moveO rfl) ?_; (iterate 3 refine PL.op rfl (Rd.moveT rfl) ?_); refine PL.op rfl (Rd.ixM rfl rfl h_22) ?_; refine PL.op rfl (Rd.elMR rfl h_22 rfl rfl) ?_; refine PL.callM false [] (w_L_toColumn N x21 r23 h_24) rfl Tryd.call90 rfl ⟨.aggL ⟨.t _, .t _, .t _, .t _, trivial⟩, trivial⟩ rfl trivial (fun h => by cases h) ?_; refine PL.op rfl (Rd.ixOM rfl rfl rfl (ixI_lt h_26)) ?_; refine PL.stRM r23 rfl rfl rfl rfl rfl h_26 rfl ?_; refine PL.nO [some ⟨.tr (eL (v4.set i3.toNat r23)), 64, 4⟩] rfl ?_; refine PL.nil ?_; refine inA_n ?_; refine thA_n ?_; obtain ⟨n27, h_28, hh1⟩ := bind_some hh1; refine PC.region ?_; refine PL.op rfl (Rd.moveT rfl) ?_; refine PL.op rfl (Rd.addM rfl rfl h_28) ?_; refine PL.op rfl (Rd.asnT rfl) ?_; refine PL.nil ?_; obtain rfl := some_in hh1; refine thA_n ?_; exact ⟨(f17, (n27, (v4.set i3.toNat r23))), Nat.lt_succ_self _, kk1, [some 0], ⟨rfl, rfl, ⟨⟨_, rfl, rfl, rfl, .tr _⟩, trivial⟩, ⟨.t _, .osE rfl (by simp only [List.length_set]), .t _, trivial⟩⟩⟩
  clear hh0
  rintro v14 hh0
  replace hh0 : m_L_toColumnS_k1 N v14 = some r := hh0
  unfold m_L_toColumnS_k1 at hh0; refine thA_n ?_; refine PC.seq ?_; refine PC.region ?_; refine PL.op rfl (Rd.moveO rfl) ?_; refine PL.op rfl (Rd.asnO rfl) ?_; refine PL.nil ?_; refine thA_n ?_; refine PC.ret ?_; obtain rfl := some_in hh0; exact FinA.mk (r := .os 0 0 v14.length) (bl := [⟨.tr (eL v14), 64, 4⟩]) [some 0] (.inl rfl) rfl (rl := [.tmp 2]) (.tmp .nil) rfl rfl rfl (.os rfl) ⟨⟨_, rfl, rfl, rfl, .tr _⟩, trivial⟩ ⟨rfl, rfl⟩
def m_L_toChange (N : Nat) (p_a : L_Change) : Option (I_Change) :=
  (m_L_toColumn N p_a.column).bind fun r1 =>
  some (I_Change.mk p_a.kind p_a.at_ r1)
theorem w_L_toChange (N : Nat) (p_a : L_Change) (r : I_Change) (hh0 : m_L_toChange N p_a = some r) : FnX Tryd.prog 45 [] [.agg [iA p_a.kind, iA p_a.at_, iA p_a.column.kind, iA p_a.column.default.kind, iA p_a.column.default.num, sA p_a.column.default.text]] (RE (.agg [iA r.kind, iA r.at_, iA r.column.kind, iA r.column.default.kind, iA r.column.default.num, sA r.column.default.text]) []) := by
  unfold m_L_toChange at hh0; refine FnX.mk Tryd.func45 rfl rfl ?_; intro s hs; refine PC.seq ?_; refine PC.region ?_; refine PL.ef rfl (Ef.box rfl rfl rfl) ?_; refine PL.nm (.op 0 0) [some ⟨.mx [iA p_a.kind, iA p_a.at_, iA p_a.column.kind, iA p_a.column.default.kind, iA p_a.column.default.num, sA p_a.column.default.text], 76, 0⟩] rfl rfl ?_; refine PL.ef rfl (Ef.alloc rfl rfl) ?_; refine PL.nm (.op 1 0) [some ⟨.mx [iA p_a.kind, iA p_a.at_, iA p_a.column.kind, iA p_a.column.default.kind, iA p_a.column.default.num, sA p_a.column.default.text], 76, 0⟩, some ⟨.mx [iA (0 : Int), iA (0 : Int), iA (0 : Int), iA (0 : Int), iA (0 : Int), sA ByteArray.empty], 66, 0⟩] rfl rfl ?_; refine PL.nil ?_; refine thA_n ?_; refine PC.seq ?_; refine PC.region ?_; refine PL.ef rfl (Ef.alloc rfl rfl) ?_; refine PL.nm (.op 2 0) [some ⟨.mx [iA p_a.kind, iA p_a.at_, iA p_a.column.kind, iA p_a.column.default.kind, iA p_a.column.default.num, sA p_a.column.default.text], 76, 0⟩, some ⟨.mx [iA (0 : Int), iA (0 : Int), iA (0 : Int), iA (0 : Int), iA (0 : Int), sA ByteArray.empty], 66, 0⟩, some ⟨.mx [iA (0 : Int), iA (0 : Int), iA (0 : Int), iA (0 : Int), iA (0 : Int), sA ByteArray.empty], 66, 0⟩] rfl rfl ?_; refine PL.nil ?_; refine thA_n ?_; refine PC.seq ?_; refine PC.region ?_; refine PL.op rfl (Rd.fieldO rfl rfl) ?_; refine PL.op rfl (Rd.loadO rfl rfl rfl) ?_; refine PL.op rfl (Rd.fieldO rfl rfl) ?_; refine PL.store rfl rfl rfl rfl rfl rfl rfl ?_; refine PL.nO [some ⟨.mx [iA p_a.kind, iA p_a.at_, iA p_a.column.kind, iA p_a.column.default.kind, iA p_a.column.default.num, sA p_a.column.default.text], 76, 0⟩, some ⟨.mx [iA (0 : Int), iA (0 : Int), iA (0 : Int), iA (0 : Int), iA (0 : Int), sA ByteArray.empty], 66, 0⟩, some ⟨.mx [iA p_a.kind, iA (0 : Int), iA (0 : Int), iA (0 : Int), iA (0 : Int), sA ByteArray.empty], 66, 0⟩] rfl ?_; refine PL.nil ?_; refine thA_n ?_; refine PC.seq ?_; refine PC.region ?_; refine PL.op rfl (Rd.fieldO rfl rfl) ?_; refine PL.op rfl (Rd.loadO rfl rfl rfl) ?_; refine PL.op rfl (Rd.fieldO rfl rfl) ?_; refine PL.store rfl rfl rfl rfl rfl rfl rfl ?_; refine PL.nO [some ⟨.mx [iA p_a.kind, iA p_a.at_, iA p_a.column.kind, iA p_a.column.default.kind, iA p_a.column.default.num, sA p_a.column.default.text], 76, 0⟩, some ⟨.mx [iA (0 : Int), iA (0 : Int), iA (0 : Int), iA (0 : Int), iA (0 : Int), sA ByteArray.empty], 66, 0⟩, some ⟨.mx [iA p_a.kind, iA p_a.at_, iA (0 : Int), iA (0 : Int), iA (0 : Int), sA ByteArray.empty], 66, 0⟩] rfl ?_; refine PL.nil ?_; refine thA_n ?_; refine PC.seq ?_; obtain ⟨r1, h_2, hh0⟩ := bind_some hh0; refine PC.region ?_; refine PL.op rfl (Rd.fieldO rfl rfl) ?_; refine PL.op rfl (Rd.loadSub rfl rfl rfl rfl) ?_; refine PL.callM false [] (w_L_toColumn N p_a.column r1 h_2) rfl Tryd.call90 rfl ⟨.aggL ⟨.t _, .t _, .t _, .t _, trivial⟩, trivial⟩ rfl trivial (fun h => by cases h) ?_; refine PL.op rfl (Rd.fieldO rfl rfl) ?_; refine PL.store rfl rfl rfl rfl rfl rfl rfl ?_; refine PL.nO [some ⟨.mx [iA p_a.kind, iA p_a.at_, iA p_a.column.kind, iA p_a.column.default.kind, iA p_a.column.default.num, sA p_a.column.default.text], 76, 0⟩, some ⟨.mx [iA (0 : Int), iA (0 : Int), iA (0 : Int), iA (0 : Int), iA (0 : Int), sA ByteArray.empty], 66, 0⟩, some ⟨.mx [iA p_a.kind, iA p_a.at_, iA r1.kind, iA r1.default.kind, iA r1.default.num, sA r1.default.text], 66, 0⟩] rfl ?_; refine PL.nil ?_; refine thA_n ?_; refine PC.seq ?_; refine PC.region ?_; refine PL.op rfl (Rd.loadBox rfl rfl rfl) ?_; refine PL.store rfl rfl rfl rfl rfl rfl rfl ?_; refine PL.nO [some ⟨.mx [iA p_a.kind, iA p_a.at_, iA p_a.column.kind, iA p_a.column.default.kind, iA p_a.column.default.num, sA p_a.column.default.text], 76, 0⟩, some ⟨.mx [iA p_a.kind, iA p_a.at_, iA r1.kind, iA r1.default.kind, iA r1.default.num, sA r1.default.text], 66, 0⟩, some ⟨.mx [iA p_a.kind, iA p_a.at_, iA r1.kind, iA r1.default.kind, iA r1.default.num, sA r1.default.text], 66, 0⟩] rfl ?_; refine PL.nil ?_; refine thA_n ?_; refine PC.ret ?_; obtain rfl := some_in hh0; exact FinA.mk (r := .agg [iA p_a.kind, iA p_a.at_, iA r1.kind, iA r1.default.kind, iA r1.default.num, sA r1.default.text]) (bl := []) [] (.inl rfl) rfl (rl := [.cell 2 66]) (.cellN rfl rfl rfl rfl .nil) rfl rfl rfl (.aggL ⟨.t _, .t _, .t _, .t _, .t _, .t _, trivial⟩) trivial ⟨rfl, rfl⟩
def m_L_toChangeS_k1 (N : Nat) (v14 : (List I_Change)) : Option ((List I_Change)) :=
  some v14
def m_L_toChangeS_b1 (N : Nat) (p_a : (List L_Change)) (i3 : Int) (v4 : (List I_Change)) : Option ((Int × (List I_Change)) ⊕ (List I_Change)) :=
  cond (decide (i3 < (p_a.length : Int)))
    ((ixI p_a i3).bind fun x21 =>
    (m_L_toChange N x21).bind fun r23 =>
    (ixI v4 i3).bind fun x25 =>
    (chk (i3 + (1 : Int))).bind fun n27 =>
    some (.inl (n27, (v4.set i3.toNat r23))))
    (some (.inr v4))
def m_L_toChangeS (N : Nat) (p_a : (List L_Change)) : Option ((List I_Change)) :=
  (mkM 56 (I_Change.mk (0 : Int) (0 : Int) (I_Column.mk (0 : Int) (I_Value.mk (0 : Int) (0 : Int) ByteArray.empty))) (p_a.length : Int)).bind fun xs1 =>
  (loopM (β := (List I_Change)) (fun s : Int × (List I_Change) => m_L_toChangeS_b1 N p_a s.1 s.2) N ((0 : Int), xs1)).bind fun e =>
  m_L_toChangeS_k1 N e
theorem w_L_toChangeS (N : Nat) (p_a : (List L_Change)) (r : (List I_Change)) (hh0 : m_L_toChangeS N p_a = some r) : FnX Tryd.prog 64 [] [sL p_a] (RE (.os 0 0 r.length) [⟨.tr (eL r), 66, 6⟩]) := by
  unfold m_L_toChangeS at hh0; refine FnX.mk Tryd.func64 rfl rfl ?_; intro s hs; refine PC.seq ?_; refine PC.region ?_; refine PL.op rfl (Rd.asnT rfl) ?_; refine PL.nil ?_; refine thA_n ?_; refine PC.seq ?_; obtain ⟨xs1, h_2, hh0⟩ := bind_some hh0; refine PC.region ?_; refine PL.op rfl (Rd.moveT rfl) ?_; refine PL.op rfl (Rd.lenT rfl) ?_; refine PL.ef rfl (Ef.makeM (I_Change.mk (0 : Int) (0 : Int) (I_Column.mk (0 : Int) (I_Value.mk (0 : Int) (0 : Int) ByteArray.empty))) rfl rfl h_2 rfl rfl rfl (by exact ⟨.inl ⟨rfl, rfl⟩, .inl ⟨rfl, rfl⟩, .inl ⟨rfl, rfl⟩, .inl ⟨rfl, rfl⟩, .inl ⟨rfl, rfl⟩, .inl ⟨rfl, rfl⟩, trivial⟩)) ?_; refine PL.nm (.os 0 0 xs1.length) [some ⟨.tr (eL xs1), 66, 6⟩] rfl rfl ?_; refine PL.op rfl (Rd.asnO rfl) ?_; refine PL.nil ?_; refine thA_n ?_; (iterate 2 refine PC.seq ?_); refine PC.region ?_; refine PL.op rfl (Rd.asnT rfl) ?_; refine PL.nil ?_; refine thA_n ?_; obtain ⟨o15, h_16, hh0⟩ := bind_some hh0; refine PC.cutE hs (fun x : (List I_Change) => [(3, .os 0 0 x.length)]) (fun x => [⟨.tr (eL x), 66, 6⟩]) (fun x => m_L_toChangeS_k1 N x = some r) ?_ ?_
  · refine PC.block ?_; refine PC.loop hs (fun x : Nat × (Int × (List I_Change)) => [(0, sL p_a), (3, .os 0 0 x.2.2.length), (4, iA x.2.1)]) (fun x => [⟨.tr (eL x.2.2), 66, 6⟩]) (fun x => loopM (β := (List I_Change)) (fun s : Int × (List I_Change) => m_L_toChangeS_b1 N p_a s.1 s.2) x.1 x.2 = some o15) (fun x => x.1) (N, ((0 : Int), xs1)) [some 0] ⟨rfl, rfl, ⟨⟨_, rfl, rfl, rfl, .tr _⟩, trivial⟩, ⟨.t _, .os rfl, .t _, trivial⟩⟩ h_16 ?_
    rintro ⟨f17_, i3, v4⟩ h_19
    obtain ⟨f17, y18, rfl, hh1, kk1⟩ := loopM_some h_19
    replace hh1 : m_L_toChangeS_b1 N p_a i3 v4 = some y18 := hh1
    unfold m_L_toChangeS_b1 at hh1; (iterate 2 refine PC.seq ?_); refine PC.region ?_; (iterate 2 refine PL.op rfl (Rd.moveT rfl) ?_); refine PL.op rfl (Rd.lenT rfl) ?_; refine PL.op rfl (Rd.lss rfl rfl) ?_; refine PL.nil ?_; refine thA_n ?_; rcases cond_some hh1 with ⟨h_20, hh1⟩ | ⟨h_20, hh1⟩; rotate_left
    · refine PC.cond_false rfl h_20 ?_; refine PC.exit ?_; (iterate 2 refine thA_e ?_); refine inA_eq rfl ?_; refine thA_n ?_; obtain rfl := some_in hh1; obtain rfl : (v4 : (List I_Change)) = o15 := kk1; exact ⟨v4, hh0, [some 0], ⟨rfl, rfl, ⟨⟨_, rfl, rfl, rfl, .tr _⟩, trivial⟩, ⟨.os rfl, trivial⟩⟩⟩
    refine PC.cond_true rfl h_20 ?_; refine PC.skip ?_; refine thA_n ?_; refine PC.seq ?_; refine PC.block ?_; obtain ⟨x21, h_22, hh1⟩ := bind_some hh1; obtain ⟨r23, h_24, hh1⟩ := bind_some hh1; obtain ⟨x25, h_26, hh1⟩ := bind_some hh1; refine PC.region ?_; refine PL.op rfl (Rd.moveO rfl) ?_; (iterate 3 refine PL.op rfl (Rd.moveT rfl) ?_); refine PL.op rfl (Rd.ixM rfl rfl h_22) ?_; refine PL.op rfl (Rd.elMR rfl h_22 rfl rfl) ?_; refine PL.callM false [] (w_L_toChange N x21 r23 h_24) rfl Tryd.call45 rfl ⟨.aggL ⟨.t _, .t _, .t _, .t _, .t _, .t _, trivial⟩, trivial⟩ rfl trivial (fun h => by cases h) ?_; refine PL.op rfl (Rd.ixOM rfl rfl rfl (ixI_lt h_26)) ?_; refine PL.stRM r23 rfl rfl rfl rfl rfl h_26 rfl ?_; refine PL.nO [some ⟨.tr (eL (v4.set i3.toNat r23)), 66, 6⟩] rfl ?_; refine PL.nil ?_; refine inA_n ?_; refine thA_n ?_; obtain ⟨n27, h_28, hh1⟩ := bind_some hh1; refine PC.region ?_; refine PL.op rfl (Rd.moveT rfl) ?_; refine PL.op rfl (Rd.addM rfl rfl h_28) ?_; refine PL.op rfl (Rd.asnT rfl) ?_; refine PL.nil ?_; obtain rfl := some_in hh1; refine thA_n ?_; exact ⟨(f17, (n27, (v4.set i3.toNat r23))), Nat.lt_succ_self _, kk1, [some 0], ⟨rfl, rfl, ⟨⟨_, rfl, rfl, rfl, .tr _⟩, trivial⟩, ⟨.t _, .osE rfl (by simp only [List.length_set]), .t _, trivial⟩⟩⟩
  clear hh0
  rintro v14 hh0
  replace hh0 : m_L_toChangeS_k1 N v14 = some r := hh0
  unfold m_L_toChangeS_k1 at hh0; refine thA_n ?_; refine PC.seq ?_; refine PC.region ?_; refine PL.op rfl (Rd.moveO rfl) ?_; refine PL.op rfl (Rd.asnO rfl) ?_; refine PL.nil ?_; refine thA_n ?_; refine PC.ret ?_; obtain rfl := some_in hh0; exact FinA.mk (r := .os 0 0 v14.length) (bl := [⟨.tr (eL v14), 66, 6⟩]) [some 0] (.inl rfl) rfl (rl := [.tmp 2]) (.tmp .nil) rfl rfl rfl (.os rfl) ⟨⟨_, rfl, rfl, rfl, .tr _⟩, trivial⟩ ⟨rfl, rfl⟩
def m_L_toValueS_k1 (N : Nat) (v14 : (List I_Value)) : Option ((List I_Value)) :=
  some v14
def m_L_toValueS_b1 (N : Nat) (p_a : (List L_Value)) (i3 : Int) (v4 : (List I_Value)) : Option ((Int × (List I_Value)) ⊕ (List I_Value)) :=
  cond (decide (i3 < (p_a.length : Int)))
    ((ixI p_a i3).bind fun x21 =>
    (m_L_toValue N x21).bind fun r23 =>
    (ixI v4 i3).bind fun x25 =>
    (chk (i3 + (1 : Int))).bind fun n27 =>
    some (.inl (n27, (v4.set i3.toNat r23))))
    (some (.inr v4))
def m_L_toValueS (N : Nat) (p_a : (List L_Value)) : Option ((List I_Value)) :=
  (mkM 32 (I_Value.mk (0 : Int) (0 : Int) ByteArray.empty) (p_a.length : Int)).bind fun xs1 =>
  (loopM (β := (List I_Value)) (fun s : Int × (List I_Value) => m_L_toValueS_b1 N p_a s.1 s.2) N ((0 : Int), xs1)).bind fun e =>
  m_L_toValueS_k1 N e
theorem w_L_toValueS (N : Nat) (p_a : (List L_Value)) (r : (List I_Value)) (hh0 : m_L_toValueS N p_a = some r) : FnX Tryd.prog 49 [] [sL p_a] (RE (.os 0 0 r.length) [⟨.tr (eL r), 62, 3⟩]) := by
  unfold m_L_toValueS at hh0; refine FnX.mk Tryd.func49 rfl rfl ?_; intro s hs; refine PC.seq ?_; refine PC.region ?_; refine PL.op rfl (Rd.asnT rfl) ?_; refine PL.nil ?_; refine thA_n ?_; refine PC.seq ?_; obtain ⟨xs1, h_2, hh0⟩ := bind_some hh0; refine PC.region ?_; refine PL.op rfl (Rd.moveT rfl) ?_; refine PL.op rfl (Rd.lenT rfl) ?_; refine PL.ef rfl (Ef.makeM (I_Value.mk (0 : Int) (0 : Int) ByteArray.empty) rfl rfl h_2 rfl rfl rfl (by exact ⟨.inl ⟨rfl, rfl⟩, .inl ⟨rfl, rfl⟩, .inl ⟨rfl, rfl⟩, trivial⟩)) ?_; refine PL.nm (.os 0 0 xs1.length) [some ⟨.tr (eL xs1), 62, 3⟩] rfl rfl ?_; refine PL.op rfl (Rd.asnO rfl) ?_; refine PL.nil ?_; refine thA_n ?_; (iterate 2 refine PC.seq ?_); refine PC.region ?_; refine PL.op rfl (Rd.asnT rfl) ?_; refine PL.nil ?_; refine thA_n ?_; obtain ⟨o15, h_16, hh0⟩ := bind_some hh0; refine PC.cutE hs (fun x : (List I_Value) => [(3, .os 0 0 x.length)]) (fun x => [⟨.tr (eL x), 62, 3⟩]) (fun x => m_L_toValueS_k1 N x = some r) ?_ ?_
  · refine PC.block ?_; refine PC.loop hs (fun x : Nat × (Int × (List I_Value)) => [(0, sL p_a), (3, .os 0 0 x.2.2.length), (4, iA x.2.1)]) (fun x => [⟨.tr (eL x.2.2), 62, 3⟩]) (fun x => loopM (β := (List I_Value)) (fun s : Int × (List I_Value) => m_L_toValueS_b1 N p_a s.1 s.2) x.1 x.2 = some o15) (fun x => x.1) (N, ((0 : Int), xs1)) [some 0] ⟨rfl, rfl, ⟨⟨_, rfl, rfl, rfl, .tr _⟩, trivial⟩, ⟨.t _, .os rfl, .t _, trivial⟩⟩ h_16 ?_
    rintro ⟨f17_, i3, v4⟩ h_19
    obtain ⟨f17, y18, rfl, hh1, kk1⟩ := loopM_some h_19
    replace hh1 : m_L_toValueS_b1 N p_a i3 v4 = some y18 := hh1
    unfold m_L_toValueS_b1 at hh1; (iterate 2 refine PC.seq ?_); refine PC.region ?_; (iterate 2 refine PL.op rfl (Rd.moveT rfl) ?_); refine PL.op rfl (Rd.lenT rfl) ?_; refine PL.op rfl (Rd.lss rfl rfl) ?_; refine PL.nil ?_; refine thA_n ?_; rcases cond_some hh1 with ⟨h_20, hh1⟩ | ⟨h_20, hh1⟩; rotate_left
    · refine PC.cond_false rfl h_20 ?_; refine PC.exit ?_; (iterate 2 refine thA_e ?_); refine inA_eq rfl ?_; refine thA_n ?_; obtain rfl := some_in hh1; obtain rfl : (v4 : (List I_Value)) = o15 := kk1; exact ⟨v4, hh0, [some 0], ⟨rfl, rfl, ⟨⟨_, rfl, rfl, rfl, .tr _⟩, trivial⟩, ⟨.os rfl, trivial⟩⟩⟩
    refine PC.cond_true rfl h_20 ?_; refine PC.skip ?_; refine thA_n ?_; refine PC.seq ?_; refine PC.block ?_; obtain ⟨x21, h_22, hh1⟩ := bind_some hh1; obtain ⟨r23, h_24, hh1⟩ := bind_some hh1; obtain ⟨x25, h_26, hh1⟩ := bind_some hh1; refine PC.region ?_; refine PL.op rfl (Rd.moveO rfl) ?_; (iterate 3 refine PL.op rfl (Rd.moveT rfl) ?_); refine PL.op rfl (Rd.ixM rfl rfl h_22) ?_; refine PL.op rfl (Rd.elMR rfl h_22 rfl rfl) ?_; refine PL.callM false [] (w_L_toValue N x21 r23 h_24) rfl Tryd.call98 rfl ⟨.aggL ⟨.t _, .t _, .t _, trivial⟩, trivial⟩ rfl trivial (fun h => by cases h) ?_; refine PL.op rfl (Rd.ixOM rfl rfl rfl (ixI_lt h_26)) ?_; refine PL.stRM r23 rfl rfl rfl rfl rfl h_26 rfl ?_; refine PL.nO [some ⟨.tr (eL (v4.set i3.toNat r23)), 62, 3⟩] rfl ?_; refine PL.nil ?_; refine inA_n ?_; refine thA_n ?_; obtain ⟨n27, h_28, hh1⟩ := bind_some hh1; refine PC.region ?_; refine PL.op rfl (Rd.moveT rfl) ?_; refine PL.op rfl (Rd.addM rfl rfl h_28) ?_; refine PL.op rfl (Rd.asnT rfl) ?_; refine PL.nil ?_; obtain rfl := some_in hh1; refine thA_n ?_; exact ⟨(f17, (n27, (v4.set i3.toNat r23))), Nat.lt_succ_self _, kk1, [some 0], ⟨rfl, rfl, ⟨⟨_, rfl, rfl, rfl, .tr _⟩, trivial⟩, ⟨.t _, .osE rfl (by simp only [List.length_set]), .t _, trivial⟩⟩⟩
  clear hh0
  rintro v14 hh0
  replace hh0 : m_L_toValueS_k1 N v14 = some r := hh0
  unfold m_L_toValueS_k1 at hh0; refine thA_n ?_; refine PC.seq ?_; refine PC.region ?_; refine PL.op rfl (Rd.moveO rfl) ?_; refine PL.op rfl (Rd.asnO rfl) ?_; refine PL.nil ?_; refine thA_n ?_; refine PC.ret ?_; obtain rfl := some_in hh0; exact FinA.mk (r := .os 0 0 v14.length) (bl := [⟨.tr (eL v14), 62, 3⟩]) [some 0] (.inl rfl) rfl (rl := [.tmp 2]) (.tmp .nil) rfl rfl rfl (.os rfl) ⟨⟨_, rfl, rfl, rfl, .tr _⟩, trivial⟩ ⟨rfl, rfl⟩
def m_L_toTagged (N : Nat) (p_a : L_Tagged) : Option (I_Tagged) :=
  (m_L_toValueS N p_a.row).bind fun r1 =>
  some (I_Tagged.mk p_a.tag r1)
theorem w_L_toTagged (N : Nat) (p_a : L_Tagged) (r : I_Tagged) (hh0 : m_L_toTagged N p_a = some r) : FnX Tryd.prog 109 [] [.agg [iA p_a.tag, sL p_a.row]] (RE (.agg [iA r.tag, .os 0 0 r.row.length]) [⟨.tr (eL r.row), 62, 3⟩]) := by
  unfold m_L_toTagged at hh0; refine FnX.mk Tryd.func109 rfl rfl ?_; intro s hs; refine PC.seq ?_; refine PC.region ?_; refine PL.ef rfl (Ef.box rfl rfl rfl) ?_; refine PL.nm (.op 0 0) [some ⟨.mx [iA p_a.tag, sL p_a.row], 137, 0⟩] rfl rfl ?_; refine PL.ef rfl (Ef.alloc rfl rfl) ?_; refine PL.nm (.op 1 0) [some ⟨.mx [iA p_a.tag, sL p_a.row], 137, 0⟩, some ⟨.mx [iA (0 : Int), .t (.v (.slice none 0 0))], 52, 0⟩] rfl rfl ?_; refine PL.nil ?_; refine thA_n ?_; refine PC.seq ?_; refine PC.region ?_; refine PL.ef rfl (Ef.alloc rfl rfl) ?_; refine PL.nm (.op 2 0) [some ⟨.mx [iA p_a.tag, sL p_a.row], 137, 0⟩, some ⟨.mx [iA (0 : Int), .t (.v (.slice none 0 0))], 52, 0⟩, some ⟨.mx [iA (0 : Int), .t (.v (.slice none 0 0))], 52, 0⟩] rfl rfl ?_; refine PL.nil ?_; refine thA_n ?_; refine PC.seq ?_; refine PC.region ?_; refine PL.op rfl (Rd.fieldO rfl rfl) ?_; refine PL.op rfl (Rd.loadO rfl rfl rfl) ?_; refine PL.op rfl (Rd.fieldO rfl rfl) ?_; refine PL.store rfl rfl rfl rfl rfl rfl rfl ?_; refine PL.nO [some ⟨.mx [iA p_a.tag, sL p_a.row], 137, 0⟩, some ⟨.mx [iA (0 : Int), .t (.v (.slice none 0 0))], 52, 0⟩, some ⟨.mx [iA p_a.tag, .t (.v (.slice none 0 0))], 52, 0⟩] rfl ?_; refine PL.nil ?_; refine thA_n ?_; refine PC.seq ?_; obtain ⟨r1, h_2, hh0⟩ := bind_some hh0; refine PC.region ?_; refine PL.op rfl (Rd.fieldO rfl rfl) ?_; refine PL.op rfl (Rd.loadO rfl rfl rfl) ?_; refine PL.callM false [] (w_L_toValueS N p_a.row r1 h_2) rfl Tryd.call49 rfl ⟨.t _, trivial⟩ rfl trivial (fun h => by cases h) ?_; refine PL.nm (.os 3 0 r1.length) [some ⟨.mx [iA p_a.tag, sL p_a.row], 137, 0⟩, some ⟨.mx [iA (0 : Int), .t (.v (.slice none 0 0))], 52, 0⟩, some ⟨.mx [iA p_a.tag, .t (.v (.slice none 0 0))], 52, 0⟩, some ⟨.tr (eL r1), 62, 3⟩] rfl rfl ?_; refine PL.op rfl (Rd.fieldO rfl rfl) ?_; refine PL.store rfl rfl rfl rfl rfl rfl rfl ?_; refine PL.nO [some ⟨.mx [iA p_a.tag, sL p_a.row], 137, 0⟩, some ⟨.mx [iA (0 : Int), .t (.v (.slice none 0 0))], 52, 0⟩, some ⟨.mx [iA p_a.tag, .os 3 0 r1.length], 52, 0⟩, some ⟨.tr (eL r1), 62, 3⟩] rfl ?_; refine PL.nil ?_; refine thA_n ?_; refine PC.seq ?_; refine PC.region ?_; refine PL.op rfl (Rd.loadBox rfl rfl rfl) ?_; refine PL.store rfl rfl rfl rfl rfl rfl rfl ?_; refine PL.nO [some ⟨.mx [iA p_a.tag, sL p_a.row], 137, 0⟩, some ⟨.mx [iA p_a.tag, .os 3 0 r1.length], 52, 0⟩, some ⟨.mx [iA p_a.tag, .os 3 0 r1.length], 52, 0⟩, some ⟨.tr (eL r1), 62, 3⟩] rfl ?_; refine PL.nil ?_; refine thA_n ?_; refine PC.ret ?_; obtain rfl := some_in hh0; exact FinA.mk (r := .agg [iA p_a.tag, .os 0 0 r1.length]) (bl := [⟨.tr (eL r1), 62, 3⟩]) [some 3] (.inl rfl) rfl (rl := [.cell 2 52]) (.cellN rfl rfl rfl rfl .nil) rfl rfl rfl (.aggL ⟨.t _, .os rfl, trivial⟩) ⟨⟨_, rfl, rfl, rfl, .tr _⟩, trivial⟩ ⟨rfl, rfl⟩
def m_L_toTaggedS_k1 (N : Nat) (v14 : (List I_Tagged)) : Option ((List I_Tagged)) :=
  some v14
def m_L_toTaggedS_b1 (N : Nat) (p_a : (List L_Tagged)) (i3 : Int) (v4 : (List I_Tagged)) : Option ((Int × (List I_Tagged)) ⊕ (List I_Tagged)) :=
  cond (decide (i3 < (p_a.length : Int)))
    ((ixI p_a i3).bind fun x21 =>
    (m_L_toTagged N x21).bind fun r23 =>
    (ixI v4 i3).bind fun x25 =>
    (chk (i3 + (1 : Int))).bind fun n27 =>
    some (.inl (n27, (v4.set i3.toNat r23))))
    (some (.inr v4))
def m_L_toTaggedS (N : Nat) (p_a : (List L_Tagged)) : Option ((List I_Tagged)) :=
  (mkM 32 (I_Tagged.mk (0 : Int) ([] : List I_Value)) (p_a.length : Int)).bind fun xs1 =>
  (loopM (β := (List I_Tagged)) (fun s : Int × (List I_Tagged) => m_L_toTaggedS_b1 N p_a s.1 s.2) N ((0 : Int), xs1)).bind fun e =>
  m_L_toTaggedS_k1 N e
theorem w_L_toTaggedS (N : Nat) (p_a : (List L_Tagged)) (r : (List I_Tagged)) (hh0 : m_L_toTaggedS N p_a = some r) : FnX Tryd.prog 65 [] [sL p_a] (RE (.os 0 0 r.length) [⟨.tr (eL r), 52, 2⟩]) := by
  unfold m_L_toTaggedS at hh0; refine FnX.mk Tryd.func65 rfl rfl ?_; intro s hs; refine PC.seq ?_; refine PC.region ?_; refine PL.op rfl (Rd.asnT rfl) ?_; refine PL.nil ?_; refine thA_n ?_; refine PC.seq ?_; obtain ⟨xs1, h_2, hh0⟩ := bind_some hh0; refine PC.region ?_; refine PL.op rfl (Rd.moveT rfl) ?_; refine PL.op rfl (Rd.lenT rfl) ?_; refine PL.ef rfl (Ef.makeM (I_Tagged.mk (0 : Int) ([] : List I_Value)) rfl rfl h_2 rfl rfl rfl (by exact ⟨.inl ⟨rfl, rfl⟩, .inr ⟨by first | rfl | exact congrArg (Tr.sl 0) eL_nil, rfl⟩, trivial⟩)) ?_; refine PL.nm (.os 0 0 xs1.length) [some ⟨.tr (eL xs1), 52, 2⟩] rfl rfl ?_; refine PL.op rfl (Rd.asnO rfl) ?_; refine PL.nil ?_; refine thA_n ?_; (iterate 2 refine PC.seq ?_); refine PC.region ?_; refine PL.op rfl (Rd.asnT rfl) ?_; refine PL.nil ?_; refine thA_n ?_; obtain ⟨o15, h_16, hh0⟩ := bind_some hh0; refine PC.cutE hs (fun x : (List I_Tagged) => [(3, .os 0 0 x.length)]) (fun x => [⟨.tr (eL x), 52, 2⟩]) (fun x => m_L_toTaggedS_k1 N x = some r) ?_ ?_
  · refine PC.block ?_; refine PC.loop hs (fun x : Nat × (Int × (List I_Tagged)) => [(0, sL p_a), (3, .os 0 0 x.2.2.length), (4, iA x.2.1)]) (fun x => [⟨.tr (eL x.2.2), 52, 2⟩]) (fun x => loopM (β := (List I_Tagged)) (fun s : Int × (List I_Tagged) => m_L_toTaggedS_b1 N p_a s.1 s.2) x.1 x.2 = some o15) (fun x => x.1) (N, ((0 : Int), xs1)) [some 0] ⟨rfl, rfl, ⟨⟨_, rfl, rfl, rfl, .tr _⟩, trivial⟩, ⟨.t _, .os rfl, .t _, trivial⟩⟩ h_16 ?_
    rintro ⟨f17_, i3, v4⟩ h_19
    obtain ⟨f17, y18, rfl, hh1, kk1⟩ := loopM_some h_19
    replace hh1 : m_L_toTaggedS_b1 N p_a i3 v4 = some y18 := hh1
    unfold m_L_toTaggedS_b1 at hh1; (iterate 2 refine PC.seq ?_); refine PC.region ?_; (iterate 2 refine PL.op rfl (Rd.moveT rfl) ?_); refine PL.op rfl (Rd.lenT rfl) ?_; refine PL.op rfl (Rd.lss rfl rfl) ?_; refine PL.nil ?_; refine thA_n ?_; rcases cond_some hh1 with ⟨h_20, hh1⟩ | ⟨h_20, hh1⟩; rotate_left
    · refine PC.cond_false rfl h_20 ?_; refine PC.exit ?_; (iterate 2 refine thA_e ?_); refine inA_eq rfl ?_; refine thA_n ?_; obtain rfl := some_in hh1; obtain rfl : (v4 : (List I_Tagged)) = o15 := kk1; exact ⟨v4, hh0, [some 0], ⟨rfl, rfl, ⟨⟨_, rfl, rfl, rfl, .tr _⟩, trivial⟩, ⟨.os rfl, trivial⟩⟩⟩
    refine PC.cond_true rfl h_20 ?_; refine PC.skip ?_; refine thA_n ?_; refine PC.seq ?_; refine PC.block ?_; obtain ⟨x21, h_22, hh1⟩ := bind_some hh1; obtain ⟨r23, h_24, hh1⟩ := bind_some hh1; obtain ⟨x25, h_26, hh1⟩ := bind_some hh1; refine PC.region ?_; refine PL.op rfl (Rd.moveO rfl) ?_; (iterate 3 refine PL.op rfl (Rd.moveT rfl) ?_); refine PL.op rfl (Rd.ixM rfl rfl h_22) ?_; refine PL.op rfl (Rd.elMR rfl h_22 rfl rfl) ?_; refine PL.callM false [] (w_L_toTagged N x21 r23 h_24) rfl Tryd.call109 rfl ⟨.aggL ⟨.t _, .t _, trivial⟩, trivial⟩ rfl trivial (fun h => by cases h) ?_; refine PL.nm (.agg [iA r23.tag, .os 1 0 r23.row.length]) [some ⟨.tr (eL v4), 52, 2⟩, some ⟨.tr (eL r23.row), 62, 3⟩] rfl rfl ?_; refine PL.op rfl (Rd.ixOM rfl rfl rfl (ixI_lt h_26)) ?_; refine PL.frz hs 1 2 [(20, .agg [iA r23.tag, sL r23.row])] [some ⟨.tr (eL v4), 52, 2⟩, none] rfl rfl ⟨(.aggL ⟨(.t _), (.own rfl (by decide) rfl rfl), trivial⟩), trivial⟩ ⟨⟨rfl, .inl rfl⟩, trivial⟩ ?_; refine PL.stRM r23 rfl rfl rfl rfl rfl h_26 rfl ?_; refine PL.nO [some ⟨.tr (eL (v4.set i3.toNat r23)), 52, 2⟩, none] rfl ?_; refine PL.nil ?_; refine inA_n ?_; refine thA_n ?_; obtain ⟨n27, h_28, hh1⟩ := bind_some hh1; refine PC.region ?_; refine PL.op rfl (Rd.moveT rfl) ?_; refine PL.op rfl (Rd.addM rfl rfl h_28) ?_; refine PL.op rfl (Rd.asnT rfl) ?_; refine PL.nil ?_; obtain rfl := some_in hh1; refine thA_n ?_; exact ⟨(f17, (n27, (v4.set i3.toNat r23))), Nat.lt_succ_self _, kk1, [some 0], ⟨rfl, rfl, ⟨⟨_, rfl, rfl, rfl, .tr _⟩, trivial⟩, ⟨.t _, .osE rfl (by simp only [List.length_set]), .t _, trivial⟩⟩⟩
  clear hh0
  rintro v14 hh0
  replace hh0 : m_L_toTaggedS_k1 N v14 = some r := hh0
  unfold m_L_toTaggedS_k1 at hh0; refine thA_n ?_; refine PC.seq ?_; refine PC.region ?_; refine PL.op rfl (Rd.moveO rfl) ?_; refine PL.op rfl (Rd.asnO rfl) ?_; refine PL.nil ?_; refine thA_n ?_; refine PC.ret ?_; obtain rfl := some_in hh0; exact FinA.mk (r := .os 0 0 v14.length) (bl := [⟨.tr (eL v14), 52, 2⟩]) [some 0] (.inl rfl) rfl (rl := [.tmp 2]) (.tmp .nil) rfl rfl rfl (.os rfl) ⟨⟨_, rfl, rfl, rfl, .tr _⟩, trivial⟩ ⟨rfl, rfl⟩
def m_L_toTable (N : Nat) (p_a : L_Table) : Option (I_Table) :=
  (m_L_toColumnS N p_a.first).bind fun r1 =>
  (m_L_toChangeS N p_a.changes).bind fun r3 =>
  (m_L_toTaggedS N p_a.rows).bind fun r5 =>
  some (I_Table.mk r1 r3 r5)
theorem w_L_toTable (N : Nat) (p_a : L_Table) (r : I_Table) (hh0 : m_L_toTable N p_a = some r) : FnX Tryd.prog 23 [] [.agg [sL p_a.first, sL p_a.changes, sL p_a.rows]] (RE (.agg [.os 0 0 r.first.length, .os 1 0 r.changes.length, .os 2 0 r.rows.length]) [⟨.tr (eL r.first), 64, 4⟩, ⟨.tr (eL r.changes), 66, 6⟩, ⟨.tr (eL r.rows), 52, 2⟩]) := by
  unfold m_L_toTable at hh0; refine FnX.mk Tryd.func23 rfl rfl ?_; intro s hs; refine PC.seq ?_; refine PC.region ?_; refine PL.ef rfl (Ef.box rfl rfl rfl) ?_; refine PL.nm (.op 0 0) [some ⟨.mx [sL p_a.first, sL p_a.changes, sL p_a.rows], 37, 0⟩] rfl rfl ?_; refine PL.ef rfl (Ef.alloc rfl rfl) ?_; refine PL.nm (.op 1 0) [some ⟨.mx [sL p_a.first, sL p_a.changes, sL p_a.rows], 37, 0⟩, some ⟨.mx [.t (.v (.slice none 0 0)), .t (.v (.slice none 0 0)), .t (.v (.slice none 0 0))], 27, 0⟩] rfl rfl ?_; refine PL.nil ?_; refine thA_n ?_; refine PC.seq ?_; refine PC.region ?_; refine PL.ef rfl (Ef.alloc rfl rfl) ?_; refine PL.nm (.op 2 0) [some ⟨.mx [sL p_a.first, sL p_a.changes, sL p_a.rows], 37, 0⟩, some ⟨.mx [.t (.v (.slice none 0 0)), .t (.v (.slice none 0 0)), .t (.v (.slice none 0 0))], 27, 0⟩, some ⟨.mx [.t (.v (.slice none 0 0)), .t (.v (.slice none 0 0)), .t (.v (.slice none 0 0))], 27, 0⟩] rfl rfl ?_; refine PL.nil ?_; refine thA_n ?_; refine PC.seq ?_; obtain ⟨r1, h_2, hh0⟩ := bind_some hh0; refine PC.region ?_; refine PL.op rfl (Rd.fieldO rfl rfl) ?_; refine PL.op rfl (Rd.loadO rfl rfl rfl) ?_; refine PL.callM false [] (w_L_toColumnS N p_a.first r1 h_2) rfl Tryd.call63 rfl ⟨.t _, trivial⟩ rfl trivial (fun h => by cases h) ?_; refine PL.nm (.os 3 0 r1.length) [some ⟨.mx [sL p_a.first, sL p_a.changes, sL p_a.rows], 37, 0⟩, some ⟨.mx [.t (.v (.slice none 0 0)), .t (.v (.slice none 0 0)), .t (.v (.slice none 0 0))], 27, 0⟩, some ⟨.mx [.t (.v (.slice none 0 0)), .t (.v (.slice none 0 0)), .t (.v (.slice none 0 0))], 27, 0⟩, some ⟨.tr (eL r1), 64, 4⟩] rfl rfl ?_; refine PL.op rfl (Rd.fieldO rfl rfl) ?_; refine PL.store rfl rfl rfl rfl rfl rfl rfl ?_; refine PL.nO [some ⟨.mx [sL p_a.first, sL p_a.changes, sL p_a.rows], 37, 0⟩, some ⟨.mx [.t (.v (.slice none 0 0)), .t (.v (.slice none 0 0)), .t (.v (.slice none 0 0))], 27, 0⟩, some ⟨.mx [.os 3 0 r1.length, .t (.v (.slice none 0 0)), .t (.v (.slice none 0 0))], 27, 0⟩, some ⟨.tr (eL r1), 64, 4⟩] rfl ?_; refine PL.nil ?_; refine thA_n ?_; refine PC.seq ?_; obtain ⟨r3, h_4, hh0⟩ := bind_some hh0; refine PC.region ?_; refine PL.op rfl (Rd.fieldO rfl rfl) ?_; refine PL.op rfl (Rd.loadO rfl rfl rfl) ?_; refine PL.callM false [] (w_L_toChangeS N p_a.changes r3 h_4) rfl Tryd.call64 rfl ⟨.t _, trivial⟩ rfl trivial (fun h => by cases h) ?_; refine PL.nm (.os 4 0 r3.length) [some ⟨.mx [sL p_a.first, sL p_a.changes, sL p_a.rows], 37, 0⟩, some ⟨.mx [.t (.v (.slice none 0 0)), .t (.v (.slice none 0 0)), .t (.v (.slice none 0 0))], 27, 0⟩, some ⟨.mx [.os 3 0 r1.length, .t (.v (.slice none 0 0)), .t (.v (.slice none 0 0))], 27, 0⟩, some ⟨.tr (eL r1), 64, 4⟩, some ⟨.tr (eL r3), 66, 6⟩] rfl rfl ?_; refine PL.op rfl (Rd.fieldO rfl rfl) ?_; refine PL.store rfl rfl rfl rfl rfl rfl rfl ?_; refine PL.nO [some ⟨.mx [sL p_a.first, sL p_a.changes, sL p_a.rows], 37, 0⟩, some ⟨.mx [.t (.v (.slice none 0 0)), .t (.v (.slice none 0 0)), .t (.v (.slice none 0 0))], 27, 0⟩, some ⟨.mx [.os 3 0 r1.length, .os 4 0 r3.length, .t (.v (.slice none 0 0))], 27, 0⟩, some ⟨.tr (eL r1), 64, 4⟩, some ⟨.tr (eL r3), 66, 6⟩] rfl ?_; refine PL.nil ?_; refine thA_n ?_; refine PC.seq ?_; obtain ⟨r5, h_6, hh0⟩ := bind_some hh0; refine PC.region ?_; refine PL.op rfl (Rd.fieldO rfl rfl) ?_; refine PL.op rfl (Rd.loadO rfl rfl rfl) ?_; refine PL.callM false [] (w_L_toTaggedS N p_a.rows r5 h_6) rfl Tryd.call65 rfl ⟨.t _, trivial⟩ rfl trivial (fun h => by cases h) ?_; refine PL.nm (.os 5 0 r5.length) [some ⟨.mx [sL p_a.first, sL p_a.changes, sL p_a.rows], 37, 0⟩, some ⟨.mx [.t (.v (.slice none 0 0)), .t (.v (.slice none 0 0)), .t (.v (.slice none 0 0))], 27, 0⟩, some ⟨.mx [.os 3 0 r1.length, .os 4 0 r3.length, .t (.v (.slice none 0 0))], 27, 0⟩, some ⟨.tr (eL r1), 64, 4⟩, some ⟨.tr (eL r3), 66, 6⟩, some ⟨.tr (eL r5), 52, 2⟩] rfl rfl ?_; refine PL.op rfl (Rd.fieldO rfl rfl) ?_; refine PL.store rfl rfl rfl rfl rfl rfl rfl ?_; refine PL.nO [some ⟨.mx [sL p_a.first, sL p_a.changes, sL p_a.rows], 37, 0⟩, some ⟨.mx [.t (.v (.slice none 0 0)), .t (.v (.slice none 0 0)), .t (.v (.slice none 0 0))], 27, 0⟩, some ⟨.mx [.os 3 0 r1.length, .os 4 0 r3.length, .os 5 0 r5.length], 27, 0⟩, some ⟨.tr (eL r1), 64, 4⟩, some ⟨.tr (eL r3), 66, 6⟩, some ⟨.tr (eL r5), 52, 2⟩] rfl ?_; refine PL.nil ?_; refine thA_n ?_; refine PC.seq ?_; refine PC.region ?_; refine PL.op rfl (Rd.loadBox rfl rfl rfl) ?_; refine PL.store rfl rfl rfl rfl rfl rfl rfl ?_; refine PL.nO [some ⟨.mx [sL p_a.first, sL p_a.changes, sL p_a.rows], 37, 0⟩, some ⟨.mx [.os 3 0 r1.length, .os 4 0 r3.length, .os 5 0 r5.length], 27, 0⟩, some ⟨.mx [.os 3 0 r1.length, .os 4 0 r3.length, .os 5 0 r5.length], 27, 0⟩, some ⟨.tr (eL r1), 64, 4⟩, some ⟨.tr (eL r3), 66, 6⟩, some ⟨.tr (eL r5), 52, 2⟩] rfl ?_; refine PL.nil ?_; refine thA_n ?_; refine PC.ret ?_; obtain rfl := some_in hh0; exact FinA.mk (r := .agg [.os 0 0 r1.length, .os 1 0 r3.length, .os 2 0 r5.length]) (bl := [⟨.tr (eL r1), 64, 4⟩, ⟨.tr (eL r3), 66, 6⟩, ⟨.tr (eL r5), 52, 2⟩]) [some 3, some 4, some 5] (.inl rfl) rfl (rl := [.cell 2 27]) (.cellN rfl rfl rfl rfl .nil) rfl rfl rfl (.aggL ⟨.os rfl, .os rfl, .os rfl, trivial⟩) ⟨⟨_, rfl, rfl, rfl, .tr _⟩, ⟨_, rfl, rfl, rfl, .tr _⟩, ⟨_, rfl, rfl, rfl, .tr _⟩, trivial⟩ ⟨rfl, rfl⟩
def m_L_eqValue (N : Nat) (p_a : I_Value) (p_b : I_Value) : Option (Bool) :=
  cond (decide (p_a.kind = p_b.kind))
    (cond (decide (p_a.num = p_b.num))
      (cond (p_a.text.toList == p_b.text.toList)
        (some true)
        (some false))
      (some false))
    (some false)
theorem w_L_eqValue (N : Nat) (p_a : I_Value) (p_b : I_Value) (r : Bool) (hh0 : m_L_eqValue N p_a p_b = some r) : FnX Tryd.prog 99 [] [.agg [iA p_a.kind, iA p_a.num, sA p_a.text], .agg [iA p_b.kind, iA p_b.num, sA p_b.text]] (RE (bA r) []) := by
  unfold m_L_eqValue at hh0; refine FnX.mk Tryd.func99 rfl rfl ?_; intro s hs; refine PC.seq ?_; refine PC.region ?_; refine PL.ef rfl (Ef.box rfl rfl rfl) ?_; refine PL.nm (.op 0 0) [some ⟨.mx [iA p_a.kind, iA p_a.num, sA p_a.text], 62, 0⟩] rfl rfl ?_; refine PL.ef rfl (Ef.box rfl rfl rfl) ?_; refine PL.nm (.op 1 0) [some ⟨.mx [iA p_a.kind, iA p_a.num, sA p_a.text], 62, 0⟩, some ⟨.mx [iA p_b.kind, iA p_b.num, sA p_b.text], 62, 0⟩] rfl rfl ?_; refine PL.op rfl (Rd.asnT rfl) ?_; refine PL.nil ?_; refine thA_n ?_; (iterate 2 refine PC.seq ?_); refine PC.region ?_; refine PL.op rfl (Rd.fieldO rfl rfl) ?_; refine PL.op rfl (Rd.loadO rfl rfl rfl) ?_; refine PL.op rfl (Rd.fieldO rfl rfl) ?_; refine PL.op rfl (Rd.loadO rfl rfl rfl) ?_; refine PL.op rfl (Rd.neq rfl rfl) ?_; refine PL.nil ?_; refine thA_n ?_; rcases cond_some hh0 with ⟨h_1, hh0⟩ | ⟨h_1, hh0⟩; rotate_left
  · refine PC.cond_true rfl (not_f h_1) ?_; refine PC.seq ?_; refine PC.region ?_; refine PL.op rfl (Rd.asnT rfl) ?_; refine PL.nil ?_; refine thA_n ?_; refine PC.ret ?_; refine thA_r ?_; obtain rfl := some_in hh0; exact FinA.mk (r := bA false) (bl := []) [] (.inl rfl) rfl (rl := [.tmp 4]) (.tmp .nil) rfl rfl rfl (.t _) trivial ⟨rfl, rfl⟩
  refine PC.cond_false rfl (not_t h_1) ?_; refine PC.skip ?_; refine thA_n ?_; (iterate 2 refine PC.seq ?_); refine PC.region ?_; refine PL.op rfl (Rd.fieldO rfl rfl) ?_; refine PL.op rfl (Rd.loadO rfl rfl rfl) ?_; refine PL.op rfl (Rd.fieldO rfl rfl) ?_; refine PL.op rfl (Rd.loadO rfl rfl rfl) ?_; refine PL.op rfl (Rd.neq rfl rfl) ?_; refine PL.nil ?_; refine thA_n ?_; rcases cond_some hh0 with ⟨h_2, hh0⟩ | ⟨h_2, hh0⟩; rotate_left
  · refine PC.cond_true rfl (not_f h_2) ?_; refine PC.seq ?_; refine PC.region ?_; refine PL.op rfl (Rd.asnT rfl) ?_; refine PL.nil ?_; refine thA_n ?_; refine PC.ret ?_; refine thA_r ?_; obtain rfl := some_in hh0; exact FinA.mk (r := bA false) (bl := []) [] (.inl rfl) rfl (rl := [.tmp 4]) (.tmp .nil) rfl rfl rfl (.t _) trivial ⟨rfl, rfl⟩
  refine PC.cond_false rfl (not_t h_2) ?_; refine PC.skip ?_; refine thA_n ?_; (iterate 2 refine PC.seq ?_); refine PC.region ?_; refine PL.op rfl (Rd.fieldO rfl rfl) ?_; refine PL.op rfl (Rd.loadO rfl rfl rfl) ?_; refine PL.op rfl (Rd.fieldO rfl rfl) ?_; refine PL.op rfl (Rd.loadO rfl rfl rfl) ?_; refine PL.op rfl (Rd.neqS rfl rfl) ?_; refine PL.nil ?_; refine thA_n ?_; rcases cond_some hh0 with ⟨h_3, hh0⟩ | ⟨h_3, hh0⟩; rotate_left
  · refine PC.cond_true rfl (not_f h_3) ?_; refine PC.seq ?_; refine PC.region ?_; refine PL.op rfl (Rd.asnT rfl) ?_; refine PL.nil ?_; refine thA_n ?_; refine PC.ret ?_; refine thA_r ?_; obtain rfl := some_in hh0; exact FinA.mk (r := bA false) (bl := []) [] (.inl rfl) rfl (rl := [.tmp 4]) (.tmp .nil) rfl rfl rfl (.t _) trivial ⟨rfl, rfl⟩
  refine PC.cond_false rfl (not_t h_3) ?_; refine PC.skip ?_; refine thA_n ?_; refine PC.seq ?_; refine PC.region ?_; refine PL.op rfl (Rd.asnT rfl) ?_; refine PL.nil ?_; refine thA_n ?_; refine PC.ret ?_; obtain rfl := some_in hh0; exact FinA.mk (r := bA true) (bl := []) [] (.inl rfl) rfl (rl := [.tmp 4]) (.tmp .nil) rfl rfl rfl (.t _) trivial ⟨rfl, rfl⟩
def m_L_eqColumn (N : Nat) (p_a : I_Column) (p_b : I_Column) : Option (Bool) :=
  cond (decide (p_a.kind = p_b.kind))
    ((m_L_eqValue N p_a.default p_b.default).bind fun r2 =>
    cond r2
      (some true)
      (some false))
    (some false)
theorem w_L_eqColumn (N : Nat) (p_a : I_Column) (p_b : I_Column) (r : Bool) (hh0 : m_L_eqColumn N p_a p_b = some r) : FnX Tryd.prog 110 [] [.agg [iA p_a.kind, iA p_a.default.kind, iA p_a.default.num, sA p_a.default.text], .agg [iA p_b.kind, iA p_b.default.kind, iA p_b.default.num, sA p_b.default.text]] (RE (bA r) []) := by
  unfold m_L_eqColumn at hh0; refine FnX.mk Tryd.func110 rfl rfl ?_; intro s hs; refine PC.seq ?_; refine PC.region ?_; refine PL.ef rfl (Ef.box rfl rfl rfl) ?_; refine PL.nm (.op 0 0) [some ⟨.mx [iA p_a.kind, iA p_a.default.kind, iA p_a.default.num, sA p_a.default.text], 64, 0⟩] rfl rfl ?_; refine PL.ef rfl (Ef.box rfl rfl rfl) ?_; refine PL.nm (.op 1 0) [some ⟨.mx [iA p_a.kind, iA p_a.default.kind, iA p_a.default.num, sA p_a.default.text], 64, 0⟩, some ⟨.mx [iA p_b.kind, iA p_b.default.kind, iA p_b.default.num, sA p_b.default.text], 64, 0⟩] rfl rfl ?_; refine PL.op rfl (Rd.asnT rfl) ?_; refine PL.nil ?_; refine thA_n ?_; (iterate 2 refine PC.seq ?_); refine PC.region ?_; refine PL.op rfl (Rd.fieldO rfl rfl) ?_; refine PL.op rfl (Rd.loadO rfl rfl rfl) ?_; refine PL.op rfl (Rd.fieldO rfl rfl) ?_; refine PL.op rfl (Rd.loadO rfl rfl rfl) ?_; refine PL.op rfl (Rd.neq rfl rfl) ?_; refine PL.nil ?_; refine thA_n ?_; rcases cond_some hh0 with ⟨h_1, hh0⟩ | ⟨h_1, hh0⟩; rotate_left
  · refine PC.cond_true rfl (not_f h_1) ?_; refine PC.seq ?_; refine PC.region ?_; refine PL.op rfl (Rd.asnT rfl) ?_; refine PL.nil ?_; refine thA_n ?_; refine PC.ret ?_; refine thA_r ?_; obtain rfl := some_in hh0; exact FinA.mk (r := bA false) (bl := []) [] (.inl rfl) rfl (rl := [.tmp 4]) (.tmp .nil) rfl rfl rfl (.t _) trivial ⟨rfl, rfl⟩
  refine PC.cond_false rfl (not_t h_1) ?_; refine PC.skip ?_; refine thA_n ?_; (iterate 2 refine PC.seq ?_); obtain ⟨r2, h_3, hh0⟩ := bind_some hh0; refine PC.region ?_; refine PL.op rfl (Rd.fieldO rfl rfl) ?_; refine PL.op rfl (Rd.loadSub rfl rfl rfl rfl) ?_; refine PL.op rfl (Rd.fieldO rfl rfl) ?_; refine PL.op rfl (Rd.loadSub rfl rfl rfl rfl) ?_; refine PL.callM false [] (w_L_eqValue N p_a.default p_b.default r2 h_3) rfl Tryd.call99 rfl ⟨.aggL ⟨.t _, .t _, .t _, trivial⟩, .aggL ⟨.t _, .t _, .t _, trivial⟩, trivial⟩ rfl trivial (fun h => by cases h) ?_; refine PL.op rfl (Rd.unnot rfl) ?_; refine PL.nil ?_; refine thA_n ?_; rcases cond_some hh0 with ⟨h_4, hh0⟩ | ⟨h_4, hh0⟩; rotate_left
  · refine PC.cond_true rfl (not_f h_4) ?_; refine PC.seq ?_; refine PC.region ?_; refine PL.op rfl (Rd.asnT rfl) ?_; refine PL.nil ?_; refine thA_n ?_; refine PC.ret ?_; refine thA_r ?_; obtain rfl := some_in hh0; exact FinA.mk (r := bA false) (bl := []) [] (.inl rfl) rfl (rl := [.tmp 4]) (.tmp .nil) rfl rfl rfl (.t _) trivial ⟨rfl, rfl⟩
  refine PC.cond_false rfl (not_t h_4) ?_; refine PC.skip ?_; refine thA_n ?_; refine PC.seq ?_; refine PC.region ?_; refine PL.op rfl (Rd.asnT rfl) ?_; refine PL.nil ?_; refine thA_n ?_; refine PC.ret ?_; obtain rfl := some_in hh0; exact FinA.mk (r := bA true) (bl := []) [] (.inl rfl) rfl (rl := [.tmp 4]) (.tmp .nil) rfl rfl rfl (.t _) trivial ⟨rfl, rfl⟩
def m_L_eqColumnS_k1 (N : Nat) : Option (Bool) :=
  some true
def m_L_eqColumnS_b1 (N : Nat) (p_a : (List I_Column)) (p_b : (List I_Column)) (i2 : Int) : Option (Int ⊕ (Unit ⊕ Bool)) :=
  cond (decide (i2 < (p_a.length : Int)))
    ((ixI p_a i2).bind fun x19 =>
    (ixI p_b i2).bind fun x21 =>
    (m_L_eqColumn N x19 x21).bind fun r23 =>
    cond r23
      ((chk (i2 + (1 : Int))).bind fun n26 =>
      some (.inl n26))
      (some (.inr (.inr false))))
    (some (.inr (.inl ())))
def m_L_eqColumnS (N : Nat) (p_a : (List I_Column)) (p_b : (List I_Column)) : Option (Bool) :=
  cond (decide ((p_a.length : Int) = (p_b.length : Int)))
    ((loopM (β := Unit ⊕ Bool) (fun s : Int => m_L_eqColumnS_b1 N p_a p_b s) N (0 : Int)).bind fun o => match o with
    | .inl e =>
      m_L_eqColumnS_k1 N 
    | .inr v =>
      some v)
    (some false)
theorem w_L_eqColumnS (N : Nat) (p_a : (List I_Column)) (p_b : (List I_Column)) (r : Bool) (hh0 : m_L_eqColumnS N p_a p_b = some r) : FnX Tryd.prog 66 [] [sL p_a, sL p_b] (RE (bA r) []) := by
  unfold m_L_eqColumnS at hh0; refine FnX.mk Tryd.func66 rfl rfl ?_; intro s hs; refine PC.seq ?_; refine PC.region ?_; refine PL.op rfl (Rd.asnT rfl) ?_; refine PL.nil ?_; refine thA_n ?_; (iterate 2 refine PC.seq ?_); refine PC.region ?_; refine PL.op rfl (Rd.moveT rfl) ?_; refine PL.op rfl (Rd.lenT rfl) ?_; refine PL.op rfl (Rd.moveT rfl) ?_; refine PL.op rfl (Rd.lenT rfl) ?_; refine PL.op rfl (Rd.neq rfl rfl) ?_; refine PL.nil ?_; refine thA_n ?_; rcases cond_some hh0 with ⟨h_1, hh0⟩ | ⟨h_1, hh0⟩; rotate_left
  · refine PC.cond_true rfl (not_f h_1) ?_; refine PC.seq ?_; refine PC.region ?_; refine PL.op rfl (Rd.asnT rfl) ?_; refine PL.nil ?_; refine thA_n ?_; refine PC.ret ?_; refine thA_r ?_; obtain rfl := some_in hh0; exact FinA.mk (r := bA false) (bl := []) [] (.inl rfl) rfl (rl := [.tmp 4]) (.tmp .nil) rfl rfl rfl (.t _) trivial ⟨rfl, rfl⟩
  refine PC.cond_false rfl (not_t h_1) ?_; refine PC.skip ?_; refine thA_n ?_; (iterate 2 refine PC.seq ?_); refine PC.region ?_; refine PL.op rfl (Rd.asnT rfl) ?_; refine PL.nil ?_; refine thA_n ?_; obtain ⟨o13, h_14, hh0⟩ := bind_some hh0; refine PC.cutE hs (fun x : Unit => []) (fun x => []) (fun x => m_L_eqColumnS_k1 N  = some r) ?_ ?_
  · refine PC.block ?_; refine PC.loop hs (fun x : Nat × (Int) => [(0, sL p_a), (1, sL p_b), (5, iA x.2)]) (fun x => []) (fun x => loopM (β := Unit ⊕ Bool) (fun s : Int => m_L_eqColumnS_b1 N p_a p_b s) x.1 x.2 = some o13) (fun x => x.1) (N, (0 : Int)) [] ⟨rfl, rfl, trivial, ⟨.t _, .t _, .t _, trivial⟩⟩ h_14 ?_
    rintro ⟨f15_, i2⟩ h_17
    obtain ⟨f15, y16, rfl, hh1, kk1⟩ := loopM_some h_17
    replace hh1 : m_L_eqColumnS_b1 N p_a p_b i2 = some y16 := hh1
    unfold m_L_eqColumnS_b1 at hh1; (iterate 2 refine PC.seq ?_); refine PC.region ?_; (iterate 2 refine PL.op rfl (Rd.moveT rfl) ?_); refine PL.op rfl (Rd.lenT rfl) ?_; refine PL.op rfl (Rd.lss rfl rfl) ?_; refine PL.nil ?_; refine thA_n ?_; rcases cond_some hh1 with ⟨h_18, hh1⟩ | ⟨h_18, hh1⟩; rotate_left
    · refine PC.cond_false rfl h_18 ?_; refine PC.exit ?_; (iterate 2 refine thA_e ?_); refine inA_eq rfl ?_; refine thA_n ?_; obtain rfl := some_in hh1; obtain rfl : (.inl () : Unit ⊕ Bool) = o13 := kk1; exact ⟨(), hh0, [], ⟨rfl, rfl, trivial, trivial⟩⟩
    refine PC.cond_true rfl h_18 ?_; refine PC.skip ?_; refine thA_n ?_; refine PC.seq ?_; refine PC.block ?_; refine PC.seq ?_; obtain ⟨x19, h_20, hh1⟩ := bind_some hh1; obtain ⟨x21, h_22, hh1⟩ := bind_some hh1; obtain ⟨r23, h_24, hh1⟩ := bind_some hh1; refine PC.any (id := 6) 10 (.seg [0, 1, 2, 3, 4, 5, 6, 7, 8, 9] .done) [] rfl (by kernel_rfl) rfl ?_; refine PT.seg ?_; (iterate 2 refine PR.op rfl (Rd.moveT rfl) ?_); refine PR.op rfl (Rd.ixM rfl rfl h_20) ?_; refine PR.op rfl (Rd.elMR rfl h_20 rfl rfl) ?_; (iterate 2 refine PR.op rfl (Rd.moveT rfl) ?_); refine PR.op rfl (Rd.ixM rfl rfl h_22) ?_; refine PR.op rfl (Rd.elMR rfl h_22 rfl rfl) ?_; refine PR.callM false [] (w_L_eqColumn N x19 x21 r23 h_24) rfl Tryd.call110 rfl ⟨.aggL ⟨.t _, .t _, .t _, .t _, trivial⟩, .aggL ⟨.t _, .t _, .t _, .t _, trivial⟩, trivial⟩ rfl trivial (fun h => by cases h) rfl ?_; refine PR.op rfl (Rd.unnot rfl) ?_; refine PR.nil ?_; refine PT.done ?_; refine PL.nil ?_; refine thA_n ?_; rcases cond_some hh1 with ⟨h_25, hh1⟩ | ⟨h_25, hh1⟩
    · refine PC.cond_false rfl (not_t h_25) ?_; refine PC.skip ?_; refine inA_n ?_; refine thA_n ?_; obtain ⟨n26, h_27, hh1⟩ := bind_some hh1; refine PC.region ?_; refine PL.op rfl (Rd.moveT rfl) ?_; refine PL.op rfl (Rd.addM rfl rfl h_27) ?_; refine PL.op rfl (Rd.asnT rfl) ?_; refine PL.nil ?_; obtain rfl := some_in hh1; refine thA_n ?_; exact ⟨(f15, n26), Nat.lt_succ_self _, kk1, [], ⟨rfl, rfl, trivial, ⟨.t _, .t _, .t _, trivial⟩⟩⟩
    refine PC.cond_true rfl (not_f h_25) ?_; refine PC.seq ?_; refine PC.region ?_; refine PL.op rfl (Rd.asnT rfl) ?_; refine PL.nil ?_; refine thA_n ?_; refine PC.ret ?_; refine inA_r ?_; (iterate 2 refine thA_r ?_); refine inA_r ?_; refine thA_r ?_; obtain rfl := some_in hh1; obtain rfl : (.inr false : Unit ⊕ Bool) = o13 := kk1; refine thA_r ?_; obtain rfl := some_in hh0; exact FinA.mk (r := bA false) (bl := []) [] (.inl rfl) rfl (rl := [.tmp 4]) (.tmp .nil) rfl rfl rfl (.t _) trivial ⟨rfl, rfl⟩
  clear hh0
  rintro ⟨⟩ hh0
  replace hh0 : m_L_eqColumnS_k1 N  = some r := hh0
  unfold m_L_eqColumnS_k1 at hh0; refine thA_n ?_; refine PC.seq ?_; refine PC.region ?_; refine PL.op rfl (Rd.asnT rfl) ?_; refine PL.nil ?_; refine thA_n ?_; refine PC.ret ?_; obtain rfl := some_in hh0; exact FinA.mk (r := bA true) (bl := []) [] (.inl rfl) rfl (rl := [.tmp 4]) (.tmp .nil) rfl rfl rfl (.t _) trivial ⟨rfl, rfl⟩
def m_L_eqChange (N : Nat) (p_a : I_Change) (p_b : I_Change) : Option (Bool) :=
  cond (decide (p_a.kind = p_b.kind))
    (cond (decide (p_a.at_ = p_b.at_))
      ((m_L_eqColumn N p_a.column p_b.column).bind fun r3 =>
      cond r3
        (some true)
        (some false))
      (some false))
    (some false)
theorem w_L_eqChange (N : Nat) (p_a : I_Change) (p_b : I_Change) (r : Bool) (hh0 : m_L_eqChange N p_a p_b = some r) : FnX Tryd.prog 111 [] [.agg [iA p_a.kind, iA p_a.at_, iA p_a.column.kind, iA p_a.column.default.kind, iA p_a.column.default.num, sA p_a.column.default.text], .agg [iA p_b.kind, iA p_b.at_, iA p_b.column.kind, iA p_b.column.default.kind, iA p_b.column.default.num, sA p_b.column.default.text]] (RE (bA r) []) := by
  unfold m_L_eqChange at hh0; refine FnX.mk Tryd.func111 rfl rfl ?_; intro s hs; refine PC.seq ?_; refine PC.region ?_; refine PL.ef rfl (Ef.box rfl rfl rfl) ?_; refine PL.nm (.op 0 0) [some ⟨.mx [iA p_a.kind, iA p_a.at_, iA p_a.column.kind, iA p_a.column.default.kind, iA p_a.column.default.num, sA p_a.column.default.text], 66, 0⟩] rfl rfl ?_; refine PL.ef rfl (Ef.box rfl rfl rfl) ?_; refine PL.nm (.op 1 0) [some ⟨.mx [iA p_a.kind, iA p_a.at_, iA p_a.column.kind, iA p_a.column.default.kind, iA p_a.column.default.num, sA p_a.column.default.text], 66, 0⟩, some ⟨.mx [iA p_b.kind, iA p_b.at_, iA p_b.column.kind, iA p_b.column.default.kind, iA p_b.column.default.num, sA p_b.column.default.text], 66, 0⟩] rfl rfl ?_; refine PL.op rfl (Rd.asnT rfl) ?_; refine PL.nil ?_; refine thA_n ?_; (iterate 2 refine PC.seq ?_); refine PC.region ?_; refine PL.op rfl (Rd.fieldO rfl rfl) ?_; refine PL.op rfl (Rd.loadO rfl rfl rfl) ?_; refine PL.op rfl (Rd.fieldO rfl rfl) ?_; refine PL.op rfl (Rd.loadO rfl rfl rfl) ?_; refine PL.op rfl (Rd.neq rfl rfl) ?_; refine PL.nil ?_; refine thA_n ?_; rcases cond_some hh0 with ⟨h_1, hh0⟩ | ⟨h_1, hh0⟩; rotate_left
  · refine PC.cond_true rfl (not_f h_1) ?_; refine PC.seq ?_; refine PC.region ?_; refine PL.op rfl (Rd.asnT rfl) ?_; refine PL.nil ?_; refine thA_n ?_; refine PC.ret ?_; refine thA_r ?_; obtain rfl := some_in hh0; exact FinA.mk (r := bA false) (bl := []) [] (.inl rfl) rfl (rl := [.tmp 4]) (.tmp .nil) rfl rfl rfl (.t _) trivial ⟨rfl, rfl⟩
  refine PC.cond_false rfl (not_t h_1) ?_; refine PC.skip ?_; refine thA_n ?_; (iterate 2 refine PC.seq ?_); refine PC.region ?_; refine PL.op rfl (Rd.fieldO rfl rfl) ?_; refine PL.op rfl (Rd.loadO rfl rfl rfl) ?_; refine PL.op rfl (Rd.fieldO rfl rfl) ?_; refine PL.op rfl (Rd.loadO rfl rfl rfl) ?_; refine PL.op rfl (Rd.neq rfl rfl) ?_; refine PL.nil ?_; refine thA_n ?_; rcases cond_some hh0 with ⟨h_2, hh0⟩ | ⟨h_2, hh0⟩; rotate_left
  · refine PC.cond_true rfl (not_f h_2) ?_; refine PC.seq ?_; refine PC.region ?_; refine PL.op rfl (Rd.asnT rfl) ?_; refine PL.nil ?_; refine thA_n ?_; refine PC.ret ?_; refine thA_r ?_; obtain rfl := some_in hh0; exact FinA.mk (r := bA false) (bl := []) [] (.inl rfl) rfl (rl := [.tmp 4]) (.tmp .nil) rfl rfl rfl (.t _) trivial ⟨rfl, rfl⟩
  refine PC.cond_false rfl (not_t h_2) ?_; refine PC.skip ?_; refine thA_n ?_; (iterate 2 refine PC.seq ?_); obtain ⟨r3, h_4, hh0⟩ := bind_some hh0; refine PC.region ?_; refine PL.op rfl (Rd.fieldO rfl rfl) ?_; refine PL.op rfl (Rd.loadSub rfl rfl rfl rfl) ?_; refine PL.op rfl (Rd.fieldO rfl rfl) ?_; refine PL.op rfl (Rd.loadSub rfl rfl rfl rfl) ?_; refine PL.callM false [] (w_L_eqColumn N p_a.column p_b.column r3 h_4) rfl Tryd.call110 rfl ⟨.aggL ⟨.t _, .t _, .t _, .t _, trivial⟩, .aggL ⟨.t _, .t _, .t _, .t _, trivial⟩, trivial⟩ rfl trivial (fun h => by cases h) ?_; refine PL.op rfl (Rd.unnot rfl) ?_; refine PL.nil ?_; refine thA_n ?_; rcases cond_some hh0 with ⟨h_5, hh0⟩ | ⟨h_5, hh0⟩; rotate_left
  · refine PC.cond_true rfl (not_f h_5) ?_; refine PC.seq ?_; refine PC.region ?_; refine PL.op rfl (Rd.asnT rfl) ?_; refine PL.nil ?_; refine thA_n ?_; refine PC.ret ?_; refine thA_r ?_; obtain rfl := some_in hh0; exact FinA.mk (r := bA false) (bl := []) [] (.inl rfl) rfl (rl := [.tmp 4]) (.tmp .nil) rfl rfl rfl (.t _) trivial ⟨rfl, rfl⟩
  refine PC.cond_false rfl (not_t h_5) ?_; refine PC.skip ?_; refine thA_n ?_; refine PC.seq ?_; refine PC.region ?_; refine PL.op rfl (Rd.asnT rfl) ?_; refine PL.nil ?_; refine thA_n ?_; refine PC.ret ?_; obtain rfl := some_in hh0; exact FinA.mk (r := bA true) (bl := []) [] (.inl rfl) rfl (rl := [.tmp 4]) (.tmp .nil) rfl rfl rfl (.t _) trivial ⟨rfl, rfl⟩
def m_L_eqChangeS_k1 (N : Nat) : Option (Bool) :=
  some true
def m_L_eqChangeS_b1 (N : Nat) (p_a : (List I_Change)) (p_b : (List I_Change)) (i2 : Int) : Option (Int ⊕ (Unit ⊕ Bool)) :=
  cond (decide (i2 < (p_a.length : Int)))
    ((ixI p_a i2).bind fun x19 =>
    (ixI p_b i2).bind fun x21 =>
    (m_L_eqChange N x19 x21).bind fun r23 =>
    cond r23
      ((chk (i2 + (1 : Int))).bind fun n26 =>
      some (.inl n26))
      (some (.inr (.inr false))))
    (some (.inr (.inl ())))
def m_L_eqChangeS (N : Nat) (p_a : (List I_Change)) (p_b : (List I_Change)) : Option (Bool) :=
  cond (decide ((p_a.length : Int) = (p_b.length : Int)))
    ((loopM (β := Unit ⊕ Bool) (fun s : Int => m_L_eqChangeS_b1 N p_a p_b s) N (0 : Int)).bind fun o => match o with
    | .inl e =>
      m_L_eqChangeS_k1 N 
    | .inr v =>
      some v)
    (some false)
theorem w_L_eqChangeS (N : Nat) (p_a : (List I_Change)) (p_b : (List I_Change)) (r : Bool) (hh0 : m_L_eqChangeS N p_a p_b = some r) : FnX Tryd.prog 67 [] [sL p_a, sL p_b] (RE (bA r) []) := by
  unfold m_L_eqChangeS at hh0; refine FnX.mk Tryd.func67 rfl rfl ?_; intro s hs; refine PC.seq ?_; refine PC.region ?_; refine PL.op rfl (Rd.asnT rfl) ?_; refine PL.nil ?_; refine thA_n ?_; (iterate 2 refine PC.seq ?_); refine PC.region ?_; refine PL.op rfl (Rd.moveT rfl) ?_; refine PL.op rfl (Rd.lenT rfl) ?_; refine PL.op rfl (Rd.moveT rfl) ?_; refine PL.op rfl (Rd.lenT rfl) ?_; refine PL.op rfl (Rd.neq rfl rfl) ?_; refine PL.nil ?_; refine thA_n ?_; rcases cond_some hh0 with ⟨h_1, hh0⟩ | ⟨h_1, hh0⟩; rotate_left
  · refine PC.cond_true rfl (not_f h_1) ?_; refine PC.seq ?_; refine PC.region ?_; refine PL.op rfl (Rd.asnT rfl) ?_; refine PL.nil ?_; refine thA_n ?_; refine PC.ret ?_; refine thA_r ?_; obtain rfl := some_in hh0; exact FinA.mk (r := bA false) (bl := []) [] (.inl rfl) rfl (rl := [.tmp 4]) (.tmp .nil) rfl rfl rfl (.t _) trivial ⟨rfl, rfl⟩
  refine PC.cond_false rfl (not_t h_1) ?_; refine PC.skip ?_; refine thA_n ?_; (iterate 2 refine PC.seq ?_); refine PC.region ?_; refine PL.op rfl (Rd.asnT rfl) ?_; refine PL.nil ?_; refine thA_n ?_; obtain ⟨o13, h_14, hh0⟩ := bind_some hh0; refine PC.cutE hs (fun x : Unit => []) (fun x => []) (fun x => m_L_eqChangeS_k1 N  = some r) ?_ ?_
  · refine PC.block ?_; refine PC.loop hs (fun x : Nat × (Int) => [(0, sL p_a), (1, sL p_b), (5, iA x.2)]) (fun x => []) (fun x => loopM (β := Unit ⊕ Bool) (fun s : Int => m_L_eqChangeS_b1 N p_a p_b s) x.1 x.2 = some o13) (fun x => x.1) (N, (0 : Int)) [] ⟨rfl, rfl, trivial, ⟨.t _, .t _, .t _, trivial⟩⟩ h_14 ?_
    rintro ⟨f15_, i2⟩ h_17
    obtain ⟨f15, y16, rfl, hh1, kk1⟩ := loopM_some h_17
    replace hh1 : m_L_eqChangeS_b1 N p_a p_b i2 = some y16 := hh1
    unfold m_L_eqChangeS_b1 at hh1; (iterate 2 refine PC.seq ?_); refine PC.region ?_; (iterate 2 refine PL.op rfl (Rd.moveT rfl) ?_); refine PL.op rfl (Rd.lenT rfl) ?_; refine PL.op rfl (Rd.lss rfl rfl) ?_; refine PL.nil ?_; refine thA_n ?_; rcases cond_some hh1 with ⟨h_18, hh1⟩ | ⟨h_18, hh1⟩; rotate_left
    · refine PC.cond_false rfl h_18 ?_; refine PC.exit ?_; (iterate 2 refine thA_e ?_); refine inA_eq rfl ?_; refine thA_n ?_; obtain rfl := some_in hh1; obtain rfl : (.inl () : Unit ⊕ Bool) = o13 := kk1; exact ⟨(), hh0, [], ⟨rfl, rfl, trivial, trivial⟩⟩
    refine PC.cond_true rfl h_18 ?_; refine PC.skip ?_; refine thA_n ?_; refine PC.seq ?_; refine PC.block ?_; refine PC.seq ?_; obtain ⟨x19, h_20, hh1⟩ := bind_some hh1; obtain ⟨x21, h_22, hh1⟩ := bind_some hh1; obtain ⟨r23, h_24, hh1⟩ := bind_some hh1; refine PC.any (id := 6) 10 (.seg [0, 1, 2, 3, 4, 5, 6, 7, 8, 9] .done) [] rfl (by kernel_rfl) rfl ?_; refine PT.seg ?_; (iterate 2 refine PR.op rfl (Rd.moveT rfl) ?_); refine PR.op rfl (Rd.ixM rfl rfl h_20) ?_; refine PR.op rfl (Rd.elMR rfl h_20 rfl rfl) ?_; (iterate 2 refine PR.op rfl (Rd.moveT rfl) ?_); refine PR.op rfl (Rd.ixM rfl rfl h_22) ?_; refine PR.op rfl (Rd.elMR rfl h_22 rfl rfl) ?_; refine PR.callM false [] (w_L_eqChange N x19 x21 r23 h_24) rfl Tryd.call111 rfl ⟨.aggL ⟨.t _, .t _, .t _, .t _, .t _, .t _, trivial⟩, .aggL ⟨.t _, .t _, .t _, .t _, .t _, .t _, trivial⟩, trivial⟩ rfl trivial (fun h => by cases h) rfl ?_; refine PR.op rfl (Rd.unnot rfl) ?_; refine PR.nil ?_; refine PT.done ?_; refine PL.nil ?_; refine thA_n ?_; rcases cond_some hh1 with ⟨h_25, hh1⟩ | ⟨h_25, hh1⟩
    · refine PC.cond_false rfl (not_t h_25) ?_; refine PC.skip ?_; refine inA_n ?_; refine thA_n ?_; obtain ⟨n26, h_27, hh1⟩ := bind_some hh1; refine PC.region ?_; refine PL.op rfl (Rd.moveT rfl) ?_; refine PL.op rfl (Rd.addM rfl rfl h_27) ?_; refine PL.op rfl (Rd.asnT rfl) ?_; refine PL.nil ?_; obtain rfl := some_in hh1; refine thA_n ?_; exact ⟨(f15, n26), Nat.lt_succ_self _, kk1, [], ⟨rfl, rfl, trivial, ⟨.t _, .t _, .t _, trivial⟩⟩⟩
    refine PC.cond_true rfl (not_f h_25) ?_; refine PC.seq ?_; refine PC.region ?_; refine PL.op rfl (Rd.asnT rfl) ?_; refine PL.nil ?_; refine thA_n ?_; refine PC.ret ?_; refine inA_r ?_; (iterate 2 refine thA_r ?_); refine inA_r ?_; refine thA_r ?_; obtain rfl := some_in hh1; obtain rfl : (.inr false : Unit ⊕ Bool) = o13 := kk1; refine thA_r ?_; obtain rfl := some_in hh0; exact FinA.mk (r := bA false) (bl := []) [] (.inl rfl) rfl (rl := [.tmp 4]) (.tmp .nil) rfl rfl rfl (.t _) trivial ⟨rfl, rfl⟩
  clear hh0
  rintro ⟨⟩ hh0
  replace hh0 : m_L_eqChangeS_k1 N  = some r := hh0
  unfold m_L_eqChangeS_k1 at hh0; refine thA_n ?_; refine PC.seq ?_; refine PC.region ?_; refine PL.op rfl (Rd.asnT rfl) ?_; refine PL.nil ?_; refine thA_n ?_; refine PC.ret ?_; obtain rfl := some_in hh0; exact FinA.mk (r := bA true) (bl := []) [] (.inl rfl) rfl (rl := [.tmp 4]) (.tmp .nil) rfl rfl rfl (.t _) trivial ⟨rfl, rfl⟩
def m_L_eqValueS_k1 (N : Nat) : Option (Bool) :=
  some true
def m_L_eqValueS_b1 (N : Nat) (p_a : (List I_Value)) (p_b : (List I_Value)) (i2 : Int) : Option (Int ⊕ (Unit ⊕ Bool)) :=
  cond (decide (i2 < (p_a.length : Int)))
    ((ixI p_a i2).bind fun x19 =>
    (ixI p_b i2).bind fun x21 =>
    (m_L_eqValue N x19 x21).bind fun r23 =>
    cond r23
      ((chk (i2 + (1 : Int))).bind fun n26 =>
      some (.inl n26))
      (some (.inr (.inr false))))
    (some (.inr (.inl ())))
def m_L_eqValueS (N : Nat) (p_a : (List I_Value)) (p_b : (List I_Value)) : Option (Bool) :=
  cond (decide ((p_a.length : Int) = (p_b.length : Int)))
    ((loopM (β := Unit ⊕ Bool) (fun s : Int => m_L_eqValueS_b1 N p_a p_b s) N (0 : Int)).bind fun o => match o with
    | .inl e =>
      m_L_eqValueS_k1 N 
    | .inr v =>
      some v)
    (some false)
theorem w_L_eqValueS (N : Nat) (p_a : (List I_Value)) (p_b : (List I_Value)) (r : Bool) (hh0 : m_L_eqValueS N p_a p_b = some r) : FnX Tryd.prog 50 [] [sL p_a, sL p_b] (RE (bA r) []) := by
  unfold m_L_eqValueS at hh0; refine FnX.mk Tryd.func50 rfl rfl ?_; intro s hs; refine PC.seq ?_; refine PC.region ?_; refine PL.op rfl (Rd.asnT rfl) ?_; refine PL.nil ?_; refine thA_n ?_; (iterate 2 refine PC.seq ?_); refine PC.region ?_; refine PL.op rfl (Rd.moveT rfl) ?_; refine PL.op rfl (Rd.lenT rfl) ?_; refine PL.op rfl (Rd.moveT rfl) ?_; refine PL.op rfl (Rd.lenT rfl) ?_; refine PL.op rfl (Rd.neq rfl rfl) ?_; refine PL.nil ?_; refine thA_n ?_; rcases cond_some hh0 with ⟨h_1, hh0⟩ | ⟨h_1, hh0⟩; rotate_left
  · refine PC.cond_true rfl (not_f h_1) ?_; refine PC.seq ?_; refine PC.region ?_; refine PL.op rfl (Rd.asnT rfl) ?_; refine PL.nil ?_; refine thA_n ?_; refine PC.ret ?_; refine thA_r ?_; obtain rfl := some_in hh0; exact FinA.mk (r := bA false) (bl := []) [] (.inl rfl) rfl (rl := [.tmp 4]) (.tmp .nil) rfl rfl rfl (.t _) trivial ⟨rfl, rfl⟩
  refine PC.cond_false rfl (not_t h_1) ?_; refine PC.skip ?_; refine thA_n ?_; (iterate 2 refine PC.seq ?_); refine PC.region ?_; refine PL.op rfl (Rd.asnT rfl) ?_; refine PL.nil ?_; refine thA_n ?_; obtain ⟨o13, h_14, hh0⟩ := bind_some hh0; refine PC.cutE hs (fun x : Unit => []) (fun x => []) (fun x => m_L_eqValueS_k1 N  = some r) ?_ ?_
  · refine PC.block ?_; refine PC.loop hs (fun x : Nat × (Int) => [(0, sL p_a), (1, sL p_b), (5, iA x.2)]) (fun x => []) (fun x => loopM (β := Unit ⊕ Bool) (fun s : Int => m_L_eqValueS_b1 N p_a p_b s) x.1 x.2 = some o13) (fun x => x.1) (N, (0 : Int)) [] ⟨rfl, rfl, trivial, ⟨.t _, .t _, .t _, trivial⟩⟩ h_14 ?_
    rintro ⟨f15_, i2⟩ h_17
    obtain ⟨f15, y16, rfl, hh1, kk1⟩ := loopM_some h_17
    replace hh1 : m_L_eqValueS_b1 N p_a p_b i2 = some y16 := hh1
    unfold m_L_eqValueS_b1 at hh1; (iterate 2 refine PC.seq ?_); refine PC.region ?_; (iterate 2 refine PL.op rfl (Rd.moveT rfl) ?_); refine PL.op rfl (Rd.lenT rfl) ?_; refine PL.op rfl (Rd.lss rfl rfl) ?_; refine PL.nil ?_; refine thA_n ?_; rcases cond_some hh1 with ⟨h_18, hh1⟩ | ⟨h_18, hh1⟩; rotate_left
    · refine PC.cond_false rfl h_18 ?_; refine PC.exit ?_; (iterate 2 refine thA_e ?_); refine inA_eq rfl ?_; refine thA_n ?_; obtain rfl := some_in hh1; obtain rfl : (.inl () : Unit ⊕ Bool) = o13 := kk1; exact ⟨(), hh0, [], ⟨rfl, rfl, trivial, trivial⟩⟩
    refine PC.cond_true rfl h_18 ?_; refine PC.skip ?_; refine thA_n ?_; refine PC.seq ?_; refine PC.block ?_; refine PC.seq ?_; obtain ⟨x19, h_20, hh1⟩ := bind_some hh1; obtain ⟨x21, h_22, hh1⟩ := bind_some hh1; obtain ⟨r23, h_24, hh1⟩ := bind_some hh1; refine PC.any (id := 6) 10 (.seg [0, 1, 2, 3, 4, 5, 6, 7, 8, 9] .done) [] rfl (by kernel_rfl) rfl ?_; refine PT.seg ?_; (iterate 2 refine PR.op rfl (Rd.moveT rfl) ?_); refine PR.op rfl (Rd.ixM rfl rfl h_20) ?_; refine PR.op rfl (Rd.elMR rfl h_20 rfl rfl) ?_; (iterate 2 refine PR.op rfl (Rd.moveT rfl) ?_); refine PR.op rfl (Rd.ixM rfl rfl h_22) ?_; refine PR.op rfl (Rd.elMR rfl h_22 rfl rfl) ?_; refine PR.callM false [] (w_L_eqValue N x19 x21 r23 h_24) rfl Tryd.call99 rfl ⟨.aggL ⟨.t _, .t _, .t _, trivial⟩, .aggL ⟨.t _, .t _, .t _, trivial⟩, trivial⟩ rfl trivial (fun h => by cases h) rfl ?_; refine PR.op rfl (Rd.unnot rfl) ?_; refine PR.nil ?_; refine PT.done ?_; refine PL.nil ?_; refine thA_n ?_; rcases cond_some hh1 with ⟨h_25, hh1⟩ | ⟨h_25, hh1⟩
    · refine PC.cond_false rfl (not_t h_25) ?_; refine PC.skip ?_; refine inA_n ?_; refine thA_n ?_; obtain ⟨n26, h_27, hh1⟩ := bind_some hh1; refine PC.region ?_; refine PL.op rfl (Rd.moveT rfl) ?_; refine PL.op rfl (Rd.addM rfl rfl h_27) ?_; refine PL.op rfl (Rd.asnT rfl) ?_; refine PL.nil ?_; obtain rfl := some_in hh1; refine thA_n ?_; exact ⟨(f15, n26), Nat.lt_succ_self _, kk1, [], ⟨rfl, rfl, trivial, ⟨.t _, .t _, .t _, trivial⟩⟩⟩
    refine PC.cond_true rfl (not_f h_25) ?_; refine PC.seq ?_; refine PC.region ?_; refine PL.op rfl (Rd.asnT rfl) ?_; refine PL.nil ?_; refine thA_n ?_; refine PC.ret ?_; refine inA_r ?_; (iterate 2 refine thA_r ?_); refine inA_r ?_; refine thA_r ?_; obtain rfl := some_in hh1; obtain rfl : (.inr false : Unit ⊕ Bool) = o13 := kk1; refine thA_r ?_; obtain rfl := some_in hh0; exact FinA.mk (r := bA false) (bl := []) [] (.inl rfl) rfl (rl := [.tmp 4]) (.tmp .nil) rfl rfl rfl (.t _) trivial ⟨rfl, rfl⟩
  clear hh0
  rintro ⟨⟩ hh0
  replace hh0 : m_L_eqValueS_k1 N  = some r := hh0
  unfold m_L_eqValueS_k1 at hh0; refine thA_n ?_; refine PC.seq ?_; refine PC.region ?_; refine PL.op rfl (Rd.asnT rfl) ?_; refine PL.nil ?_; refine thA_n ?_; refine PC.ret ?_; obtain rfl := some_in hh0; exact FinA.mk (r := bA true) (bl := []) [] (.inl rfl) rfl (rl := [.tmp 4]) (.tmp .nil) rfl rfl rfl (.t _) trivial ⟨rfl, rfl⟩
def m_L_eqTagged (N : Nat) (p_a : I_Tagged) (p_b : I_Tagged) : Option (Bool) :=
  cond (decide (p_a.tag = p_b.tag))
    ((m_L_eqValueS N p_a.row p_b.row).bind fun r2 =>
    cond r2
      (some true)
      (some false))
    (some false)
theorem w_L_eqTagged (N : Nat) (p_a : I_Tagged) (p_b : I_Tagged) (r : Bool) (hh0 : m_L_eqTagged N p_a p_b = some r) : FnX Tryd.prog 112 [] [.agg [iA p_a.tag, sL p_a.row], .agg [iA p_b.tag, sL p_b.row]] (RE (bA r) []) := by
  unfold m_L_eqTagged at hh0; refine FnX.mk Tryd.func112 rfl rfl ?_; intro s hs; refine PC.seq ?_; refine PC.region ?_; refine PL.ef rfl (Ef.box rfl rfl rfl) ?_; refine PL.nm (.op 0 0) [some ⟨.mx [iA p_a.tag, sL p_a.row], 52, 0⟩] rfl rfl ?_; refine PL.ef rfl (Ef.box rfl rfl rfl) ?_; refine PL.nm (.op 1 0) [some ⟨.mx [iA p_a.tag, sL p_a.row], 52, 0⟩, some ⟨.mx [iA p_b.tag, sL p_b.row], 52, 0⟩] rfl rfl ?_; refine PL.op rfl (Rd.asnT rfl) ?_; refine PL.nil ?_; refine thA_n ?_; (iterate 2 refine PC.seq ?_); refine PC.region ?_; refine PL.op rfl (Rd.fieldO rfl rfl) ?_; refine PL.op rfl (Rd.loadO rfl rfl rfl) ?_; refine PL.op rfl (Rd.fieldO rfl rfl) ?_; refine PL.op rfl (Rd.loadO rfl rfl rfl) ?_; refine PL.op rfl (Rd.neq rfl rfl) ?_; refine PL.nil ?_; refine thA_n ?_; rcases cond_some hh0 with ⟨h_1, hh0⟩ | ⟨h_1, hh0⟩; rotate_left
  · refine PC.cond_true rfl (not_f h_1) ?_; refine PC.seq ?_; refine PC.region ?_; refine PL.op rfl (Rd.asnT rfl) ?_; refine PL.nil ?_; refine thA_n ?_; refine PC.ret ?_; refine thA_r ?_; obtain rfl := some_in hh0; exact FinA.mk (r := bA false) (bl := []) [] (.inl rfl) rfl (rl := [.tmp 4]) (.tmp .nil) rfl rfl rfl (.t _) trivial ⟨rfl, rfl⟩
  refine PC.cond_false rfl (not_t h_1) ?_; refine PC.skip ?_; refine thA_n ?_; (iterate 2 refine PC.seq ?_); obtain ⟨r2, h_3, hh0⟩ := bind_some hh0; refine PC.region ?_; refine PL.op rfl (Rd.fieldO rfl rfl) ?_; refine PL.op rfl (Rd.loadO rfl rfl rfl) ?_; refine PL.op rfl (Rd.fieldO rfl rfl) ?_; refine PL.op rfl (Rd.loadO rfl rfl rfl) ?_; refine PL.callM false [] (w_L_eqValueS N p_a.row p_b.row r2 h_3) rfl Tryd.call50 rfl ⟨.t _, .t _, trivial⟩ rfl trivial (fun h => by cases h) ?_; refine PL.op rfl (Rd.unnot rfl) ?_; refine PL.nil ?_; refine thA_n ?_; rcases cond_some hh0 with ⟨h_4, hh0⟩ | ⟨h_4, hh0⟩; rotate_left
  · refine PC.cond_true rfl (not_f h_4) ?_; refine PC.seq ?_; refine PC.region ?_; refine PL.op rfl (Rd.asnT rfl) ?_; refine PL.nil ?_; refine thA_n ?_; refine PC.ret ?_; refine thA_r ?_; obtain rfl := some_in hh0; exact FinA.mk (r := bA false) (bl := []) [] (.inl rfl) rfl (rl := [.tmp 4]) (.tmp .nil) rfl rfl rfl (.t _) trivial ⟨rfl, rfl⟩
  refine PC.cond_false rfl (not_t h_4) ?_; refine PC.skip ?_; refine thA_n ?_; refine PC.seq ?_; refine PC.region ?_; refine PL.op rfl (Rd.asnT rfl) ?_; refine PL.nil ?_; refine thA_n ?_; refine PC.ret ?_; obtain rfl := some_in hh0; exact FinA.mk (r := bA true) (bl := []) [] (.inl rfl) rfl (rl := [.tmp 4]) (.tmp .nil) rfl rfl rfl (.t _) trivial ⟨rfl, rfl⟩
def m_L_eqTaggedS_k1 (N : Nat) : Option (Bool) :=
  some true
def m_L_eqTaggedS_b1 (N : Nat) (p_a : (List I_Tagged)) (p_b : (List I_Tagged)) (i2 : Int) : Option (Int ⊕ (Unit ⊕ Bool)) :=
  cond (decide (i2 < (p_a.length : Int)))
    ((ixI p_a i2).bind fun x19 =>
    (ixI p_b i2).bind fun x21 =>
    (m_L_eqTagged N x19 x21).bind fun r23 =>
    cond r23
      ((chk (i2 + (1 : Int))).bind fun n26 =>
      some (.inl n26))
      (some (.inr (.inr false))))
    (some (.inr (.inl ())))
def m_L_eqTaggedS (N : Nat) (p_a : (List I_Tagged)) (p_b : (List I_Tagged)) : Option (Bool) :=
  cond (decide ((p_a.length : Int) = (p_b.length : Int)))
    ((loopM (β := Unit ⊕ Bool) (fun s : Int => m_L_eqTaggedS_b1 N p_a p_b s) N (0 : Int)).bind fun o => match o with
    | .inl e =>
      m_L_eqTaggedS_k1 N 
    | .inr v =>
      some v)
    (some false)
theorem w_L_eqTaggedS (N : Nat) (p_a : (List I_Tagged)) (p_b : (List I_Tagged)) (r : Bool) (hh0 : m_L_eqTaggedS N p_a p_b = some r) : FnX Tryd.prog 68 [] [sL p_a, sL p_b] (RE (bA r) []) := by
  unfold m_L_eqTaggedS at hh0; refine FnX.mk Tryd.func68 rfl rfl ?_; intro s hs; refine PC.seq ?_; refine PC.region ?_; refine PL.op rfl (Rd.asnT rfl) ?_; refine PL.nil ?_; refine thA_n ?_; (iterate 2 refine PC.seq ?_); refine PC.region ?_; refine PL.op rfl (Rd.moveT rfl) ?_; refine PL.op rfl (Rd.lenT rfl) ?_; refine PL.op rfl (Rd.moveT rfl) ?_; refine PL.op rfl (Rd.lenT rfl) ?_; refine PL.op rfl (Rd.neq rfl rfl) ?_; refine PL.nil ?_; refine thA_n ?_; rcases cond_some hh0 with ⟨h_1, hh0⟩ | ⟨h_1, hh0⟩; rotate_left
  · refine PC.cond_true rfl (not_f h_1) ?_; refine PC.seq ?_; refine PC.region ?_; refine PL.op rfl (Rd.asnT rfl) ?_; refine PL.nil ?_; refine thA_n ?_; refine PC.ret ?_; refine thA_r ?_; obtain rfl := some_in hh0; exact FinA.mk (r := bA false) (bl := []) [] (.inl rfl) rfl (rl := [.tmp 4]) (.tmp .nil) rfl rfl rfl (.t _) trivial ⟨rfl, rfl⟩
  refine PC.cond_false rfl (not_t h_1) ?_; refine PC.skip ?_; refine thA_n ?_; (iterate 2 refine PC.seq ?_); refine PC.region ?_; refine PL.op rfl (Rd.asnT rfl) ?_; refine PL.nil ?_; refine thA_n ?_; obtain ⟨o13, h_14, hh0⟩ := bind_some hh0; refine PC.cutE hs (fun x : Unit => []) (fun x => []) (fun x => m_L_eqTaggedS_k1 N  = some r) ?_ ?_
  · refine PC.block ?_; refine PC.loop hs (fun x : Nat × (Int) => [(0, sL p_a), (1, sL p_b), (5, iA x.2)]) (fun x => []) (fun x => loopM (β := Unit ⊕ Bool) (fun s : Int => m_L_eqTaggedS_b1 N p_a p_b s) x.1 x.2 = some o13) (fun x => x.1) (N, (0 : Int)) [] ⟨rfl, rfl, trivial, ⟨.t _, .t _, .t _, trivial⟩⟩ h_14 ?_
    rintro ⟨f15_, i2⟩ h_17
    obtain ⟨f15, y16, rfl, hh1, kk1⟩ := loopM_some h_17
    replace hh1 : m_L_eqTaggedS_b1 N p_a p_b i2 = some y16 := hh1
    unfold m_L_eqTaggedS_b1 at hh1; (iterate 2 refine PC.seq ?_); refine PC.region ?_; (iterate 2 refine PL.op rfl (Rd.moveT rfl) ?_); refine PL.op rfl (Rd.lenT rfl) ?_; refine PL.op rfl (Rd.lss rfl rfl) ?_; refine PL.nil ?_; refine thA_n ?_; rcases cond_some hh1 with ⟨h_18, hh1⟩ | ⟨h_18, hh1⟩; rotate_left
    · refine PC.cond_false rfl h_18 ?_; refine PC.exit ?_; (iterate 2 refine thA_e ?_); refine inA_eq rfl ?_; refine thA_n ?_; obtain rfl := some_in hh1; obtain rfl : (.inl () : Unit ⊕ Bool) = o13 := kk1; exact ⟨(), hh0, [], ⟨rfl, rfl, trivial, trivial⟩⟩
    refine PC.cond_true rfl h_18 ?_; refine PC.skip ?_; refine thA_n ?_; refine PC.seq ?_; refine PC.block ?_; refine PC.seq ?_; obtain ⟨x19, h_20, hh1⟩ := bind_some hh1; obtain ⟨x21, h_22, hh1⟩ := bind_some hh1; obtain ⟨r23, h_24, hh1⟩ := bind_some hh1; refine PC.any (id := 6) 10 (.seg [0, 1, 2, 3, 4, 5, 6, 7, 8, 9] .done) [] rfl (by kernel_rfl) rfl ?_; refine PT.seg ?_; (iterate 2 refine PR.op rfl (Rd.moveT rfl) ?_); refine PR.op rfl (Rd.ixM rfl rfl h_20) ?_; refine PR.op rfl (Rd.elMR rfl h_20 rfl rfl) ?_; (iterate 2 refine PR.op rfl (Rd.moveT rfl) ?_); refine PR.op rfl (Rd.ixM rfl rfl h_22) ?_; refine PR.op rfl (Rd.elMR rfl h_22 rfl rfl) ?_; refine PR.callM false [] (w_L_eqTagged N x19 x21 r23 h_24) rfl Tryd.call112 rfl ⟨.aggL ⟨.t _, .t _, trivial⟩, .aggL ⟨.t _, .t _, trivial⟩, trivial⟩ rfl trivial (fun h => by cases h) rfl ?_; refine PR.op rfl (Rd.unnot rfl) ?_; refine PR.nil ?_; refine PT.done ?_; refine PL.nil ?_; refine thA_n ?_; rcases cond_some hh1 with ⟨h_25, hh1⟩ | ⟨h_25, hh1⟩
    · refine PC.cond_false rfl (not_t h_25) ?_; refine PC.skip ?_; refine inA_n ?_; refine thA_n ?_; obtain ⟨n26, h_27, hh1⟩ := bind_some hh1; refine PC.region ?_; refine PL.op rfl (Rd.moveT rfl) ?_; refine PL.op rfl (Rd.addM rfl rfl h_27) ?_; refine PL.op rfl (Rd.asnT rfl) ?_; refine PL.nil ?_; obtain rfl := some_in hh1; refine thA_n ?_; exact ⟨(f15, n26), Nat.lt_succ_self _, kk1, [], ⟨rfl, rfl, trivial, ⟨.t _, .t _, .t _, trivial⟩⟩⟩
    refine PC.cond_true rfl (not_f h_25) ?_; refine PC.seq ?_; refine PC.region ?_; refine PL.op rfl (Rd.asnT rfl) ?_; refine PL.nil ?_; refine thA_n ?_; refine PC.ret ?_; refine inA_r ?_; (iterate 2 refine thA_r ?_); refine inA_r ?_; refine thA_r ?_; obtain rfl := some_in hh1; obtain rfl : (.inr false : Unit ⊕ Bool) = o13 := kk1; refine thA_r ?_; obtain rfl := some_in hh0; exact FinA.mk (r := bA false) (bl := []) [] (.inl rfl) rfl (rl := [.tmp 4]) (.tmp .nil) rfl rfl rfl (.t _) trivial ⟨rfl, rfl⟩
  clear hh0
  rintro ⟨⟩ hh0
  replace hh0 : m_L_eqTaggedS_k1 N  = some r := hh0
  unfold m_L_eqTaggedS_k1 at hh0; refine thA_n ?_; refine PC.seq ?_; refine PC.region ?_; refine PL.op rfl (Rd.asnT rfl) ?_; refine PL.nil ?_; refine thA_n ?_; refine PC.ret ?_; obtain rfl := some_in hh0; exact FinA.mk (r := bA true) (bl := []) [] (.inl rfl) rfl (rl := [.tmp 4]) (.tmp .nil) rfl rfl rfl (.t _) trivial ⟨rfl, rfl⟩
def m_L_eqTable (N : Nat) (p_a : I_Table) (p_b : I_Table) : Option (Bool) :=
  (m_L_eqColumnS N p_a.first p_b.first).bind fun r1 =>
  cond r1
    ((m_L_eqChangeS N p_a.changes p_b.changes).bind fun r4 =>
    cond r4
      ((m_L_eqTaggedS N p_a.rows p_b.rows).bind fun r7 =>
      cond r7
        (some true)
        (some false))
      (some false))
    (some false)
theorem w_L_eqTable (N : Nat) (p_a : I_Table) (p_b : I_Table) (r : Bool) (hh0 : m_L_eqTable N p_a p_b = some r) : FnX Tryd.prog 24 [] [.agg [sL p_a.first, sL p_a.changes, sL p_a.rows], .agg [sL p_b.first, sL p_b.changes, sL p_b.rows]] (RE (bA r) []) := by
  unfold m_L_eqTable at hh0; refine FnX.mk Tryd.func24 rfl rfl ?_; intro s hs; refine PC.seq ?_; refine PC.region ?_; refine PL.ef rfl (Ef.box rfl rfl rfl) ?_; refine PL.nm (.op 0 0) [some ⟨.mx [sL p_a.first, sL p_a.changes, sL p_a.rows], 27, 0⟩] rfl rfl ?_; refine PL.ef rfl (Ef.box rfl rfl rfl) ?_; refine PL.nm (.op 1 0) [some ⟨.mx [sL p_a.first, sL p_a.changes, sL p_a.rows], 27, 0⟩, some ⟨.mx [sL p_b.first, sL p_b.changes, sL p_b.rows], 27, 0⟩] rfl rfl ?_; refine PL.op rfl (Rd.asnT rfl) ?_; refine PL.nil ?_; refine thA_n ?_; (iterate 2 refine PC.seq ?_); obtain ⟨r1, h_2, hh0⟩ := bind_some hh0; refine PC.region ?_; refine PL.op rfl (Rd.fieldO rfl rfl) ?_; refine PL.op rfl (Rd.loadO rfl rfl rfl) ?_; refine PL.op rfl (Rd.fieldO rfl rfl) ?_; refine PL.op rfl (Rd.loadO rfl rfl rfl) ?_; refine PL.callM false [] (w_L_eqColumnS N p_a.first p_b.first r1 h_2) rfl Tryd.call66 rfl ⟨.t _, .t _, trivial⟩ rfl trivial (fun h => by cases h) ?_; refine PL.op rfl (Rd.unnot rfl) ?_; refine PL.nil ?_; refine thA_n ?_; rcases cond_some hh0 with ⟨h_3, hh0⟩ | ⟨h_3, hh0⟩; rotate_left
  · refine PC.cond_true rfl (not_f h_3) ?_; refine PC.seq ?_; refine PC.region ?_; refine PL.op rfl (Rd.asnT rfl) ?_; refine PL.nil ?_; refine thA_n ?_; refine PC.ret ?_; refine thA_r ?_; obtain rfl := some_in hh0; exact FinA.mk (r := bA false) (bl := []) [] (.inl rfl) rfl (rl := [.tmp 4]) (.tmp .nil) rfl rfl rfl (.t _) trivial ⟨rfl, rfl⟩
  refine PC.cond_false rfl (not_t h_3) ?_; refine PC.skip ?_; refine thA_n ?_; (iterate 2 refine PC.seq ?_); obtain ⟨r4, h_5, hh0⟩ := bind_some hh0; refine PC.region ?_; refine PL.op rfl (Rd.fieldO rfl rfl) ?_; refine PL.op rfl (Rd.loadO rfl rfl rfl) ?_; refine PL.op rfl (Rd.fieldO rfl rfl) ?_; refine PL.op rfl (Rd.loadO rfl rfl rfl) ?_; refine PL.callM false [] (w_L_eqChangeS N p_a.changes p_b.changes r4 h_5) rfl Tryd.call67 rfl ⟨.t _, .t _, trivial⟩ rfl trivial (fun h => by cases h) ?_; refine PL.op rfl (Rd.unnot rfl) ?_; refine PL.nil ?_; refine thA_n ?_; rcases cond_some hh0 with ⟨h_6, hh0⟩ | ⟨h_6, hh0⟩; rotate_left
  · refine PC.cond_true rfl (not_f h_6) ?_; refine PC.seq ?_; refine PC.region ?_; refine PL.op rfl (Rd.asnT rfl) ?_; refine PL.nil ?_; refine thA_n ?_; refine PC.ret ?_; refine thA_r ?_; obtain rfl := some_in hh0; exact FinA.mk (r := bA false) (bl := []) [] (.inl rfl) rfl (rl := [.tmp 4]) (.tmp .nil) rfl rfl rfl (.t _) trivial ⟨rfl, rfl⟩
  refine PC.cond_false rfl (not_t h_6) ?_; refine PC.skip ?_; refine thA_n ?_; (iterate 2 refine PC.seq ?_); obtain ⟨r7, h_8, hh0⟩ := bind_some hh0; refine PC.region ?_; refine PL.op rfl (Rd.fieldO rfl rfl) ?_; refine PL.op rfl (Rd.loadO rfl rfl rfl) ?_; refine PL.op rfl (Rd.fieldO rfl rfl) ?_; refine PL.op rfl (Rd.loadO rfl rfl rfl) ?_; refine PL.callM false [] (w_L_eqTaggedS N p_a.rows p_b.rows r7 h_8) rfl Tryd.call68 rfl ⟨.t _, .t _, trivial⟩ rfl trivial (fun h => by cases h) ?_; refine PL.op rfl (Rd.unnot rfl) ?_; refine PL.nil ?_; refine thA_n ?_; rcases cond_some hh0 with ⟨h_9, hh0⟩ | ⟨h_9, hh0⟩; rotate_left
  · refine PC.cond_true rfl (not_f h_9) ?_; refine PC.seq ?_; refine PC.region ?_; refine PL.op rfl (Rd.asnT rfl) ?_; refine PL.nil ?_; refine thA_n ?_; refine PC.ret ?_; refine thA_r ?_; obtain rfl := some_in hh0; exact FinA.mk (r := bA false) (bl := []) [] (.inl rfl) rfl (rl := [.tmp 4]) (.tmp .nil) rfl rfl rfl (.t _) trivial ⟨rfl, rfl⟩
  refine PC.cond_false rfl (not_t h_9) ?_; refine PC.skip ?_; refine thA_n ?_; refine PC.seq ?_; refine PC.region ?_; refine PL.op rfl (Rd.asnT rfl) ?_; refine PL.nil ?_; refine thA_n ?_; refine PC.ret ?_; obtain rfl := some_in hh0; exact FinA.mk (r := bA true) (bl := []) [] (.inl rfl) rfl (rl := [.tmp 4]) (.tmp .nil) rfl rfl rfl (.t _) trivial ⟨rfl, rfl⟩
def m_L_FnExactValidTable (N : Nat) (p_aT : L_Table) : Option (Bool) :=
  (m_L_szTable N p_aT (1048576 : Int)).bind fun r1 =>
  cond (decide (r1 < (0 : Int)))
    (some true)
    ((m_L_toTable N p_aT).bind fun r4 =>
    (m_S_ValidTable N r4).bind fun r6 =>
    (m_L_toTable N p_aT).bind fun r8 =>
    (m_I_ValidTable N r8).bind fun r10 =>
    cond (r10 == r6)
      ((m_L_toTable N p_aT).bind fun r13 =>
      (m_L_eqTable N r8 r13).bind fun r15 =>
      cond r15
        (some true)
        (some false))
      (some false))
theorem w_L_FnExactValidTable (N : Nat) (p_aT : L_Table) (r : Bool) (hh0 : m_L_FnExactValidTable N p_aT = some r) : FnX Tryd.prog 5 [] [.agg [sL p_aT.first, sL p_aT.changes, sL p_aT.rows]] (RE (bA r) []) := by
  unfold m_L_FnExactValidTable at hh0; refine FnX.mk Tryd.func5 rfl rfl ?_; intro s hs; refine PC.seq ?_; refine PC.region ?_; refine PL.ef rfl (Ef.box rfl rfl rfl) ?_; refine PL.nm (.op 0 0) [some ⟨.mx [sL p_aT.first, sL p_aT.changes, sL p_aT.rows], 37, 0⟩] rfl rfl ?_; refine PL.op rfl (Rd.asnT rfl) ?_; refine PL.nil ?_; refine thA_n ?_; refine PC.seq ?_; refine PC.region ?_; refine PL.op rfl (Rd.asnT rfl) ?_; refine PL.nil ?_; refine thA_n ?_; refine PC.seq ?_; obtain ⟨r1, h_2, hh0⟩ := bind_some hh0; refine PC.region ?_; refine PL.op rfl (Rd.loadBox rfl rfl rfl) ?_; refine PL.op rfl (Rd.moveT rfl) ?_; refine PL.callM false [] (w_L_szTable N p_aT (1048576 : Int) r1 h_2) rfl Tryd.call22 rfl ⟨.aggL ⟨.t _, .t _, .t _, trivial⟩, .t _, trivial⟩ rfl trivial (fun h => by cases h) ?_; refine PL.op rfl (Rd.asnT rfl) ?_; refine PL.nil ?_; refine thA_n ?_; (iterate 2 refine PC.seq ?_); refine PC.region ?_; refine PL.op rfl (Rd.moveT rfl) ?_; refine PL.op rfl (Rd.lss rfl rfl) ?_; refine PL.nil ?_; refine thA_n ?_; rcases cond_some hh0 with ⟨h_3, hh0⟩ | ⟨h_3, hh0⟩
  · refine PC.cond_true rfl h_3 ?_; refine PC.seq ?_; refine PC.region ?_; refine PL.op rfl (Rd.asnT rfl) ?_; refine PL.nil ?_; refine thA_n ?_; refine PC.ret ?_; refine thA_r ?_; obtain rfl := some_in hh0; exact FinA.mk (r := bA true) (bl := []) [] (.inl rfl) rfl (rl := [.tmp 2]) (.tmp .nil) rfl rfl rfl (.t _) trivial ⟨rfl, rfl⟩
  refine PC.cond_false rfl h_3 ?_; refine PC.skip ?_; refine thA_n ?_; refine PC.seq ?_; obtain ⟨r4, h_5, hh0⟩ := bind_some hh0; obtain ⟨r6, h_7, hh0⟩ := bind_some hh0; refine PC.region ?_; refine PL.op rfl (Rd.loadBox rfl rfl rfl) ?_; refine PL.callM false [] (w_L_toTable N p_aT r4 h_5) rfl Tryd.call23 rfl ⟨.aggL ⟨.t _, .t _, .t _, trivial⟩, trivial⟩ rfl trivial (fun h => by cases h) ?_; refine PL.nm (.agg [.os 1 0 r4.first.length, .os 2 0 r4.changes.length, .os 3 0 r4.rows.length]) [some ⟨.mx [sL p_aT.first, sL p_aT.changes, sL p_aT.rows], 37, 0⟩, some ⟨.tr (eL r4.first), 64, 4⟩, some ⟨.tr (eL r4.changes), 66, 6⟩, some ⟨.tr (eL r4.rows), 52, 2⟩] rfl rfl ?_; refine PL.frz hs 1 4 [(13, .agg [sL r4.first, .os 2 0 r4.changes.length, .os 3 0 r4.rows.length])] [some ⟨.mx [sL p_aT.first, sL p_aT.changes, sL p_aT.rows], 37, 0⟩, none, some ⟨.tr (eL r4.changes), 66, 6⟩, some ⟨.tr (eL r4.rows), 52, 2⟩] rfl rfl ⟨(.aggL ⟨(.own rfl (by decide) rfl rfl), (.os rfl), (.os rfl), trivial⟩), trivial⟩ ⟨⟨rfl, .inl rfl⟩, ⟨rfl, .inl rfl⟩, ⟨rfl, .inl rfl⟩, trivial⟩ ?_; refine PL.frz hs 2 4 [(13, .agg [sL r4.first, sL r4.changes, .os 3 0 r4.rows.length])] [some ⟨.mx [sL p_aT.first, sL p_aT.changes, sL p_aT.rows], 37, 0⟩, none, none, some ⟨.tr (eL r4.rows), 52, 2⟩] rfl rfl ⟨(.aggL ⟨(.t _), (.own rfl (by decide) rfl rfl), (.os rfl), trivial⟩), trivial⟩ ⟨⟨rfl, .inl rfl⟩, ⟨rfl, .inl rfl⟩, trivial⟩ ?_; refine PL.frz hs 3 4 [(13, .agg [sL r4.first, sL r4.changes, sL r4.rows])] [some ⟨.mx [sL p_aT.first, sL p_aT.changes, sL p_aT.rows], 37, 0⟩, none, none, none] rfl rfl ⟨(.aggL ⟨(.t _), (.t _), (.own rfl (by decide) rfl rfl), trivial⟩), trivial⟩ ⟨⟨rfl, .inl rfl⟩, trivial⟩ ?_; refine PL.nm (.agg [sL r4.first, sL r4.changes, sL r4.rows]) [some ⟨.mx [sL p_aT.first, sL p_aT.changes, sL p_aT.rows], 37, 0⟩, none, none, none] rfl rfl ?_; refine PL.callM false [] (w_S_ValidTable N r4 r6 h_7) rfl Tryd.call17 rfl ⟨.aggL ⟨.t _, .t _, .t _, trivial⟩, trivial⟩ rfl trivial (fun h => by cases h) ?_; refine PL.op rfl (Rd.asnT rfl) ?_; refine PL.nil ?_; refine thA_n ?_; refine PC.seq ?_; obtain ⟨r8, h_9, hh0⟩ := bind_some hh0; refine PC.region ?_; refine PL.op rfl (Rd.loadBox rfl rfl rfl) ?_; refine PL.callM false [] (w_L_toTable N p_aT r8 h_9) rfl Tryd.call23 rfl ⟨.aggL ⟨.t _, .t _, .t _, trivial⟩, trivial⟩ rfl trivial (fun h => by cases h) ?_; refine PL.nm (.agg [.os 4 0 r8.first.length, .os 5 0 r8.changes.length, .os 6 0 r8.rows.length]) [some ⟨.mx [sL p_aT.first, sL p_aT.changes, sL p_aT.rows], 37, 0⟩, none, none, none, some ⟨.tr (eL r8.first), 64, 4⟩, some ⟨.tr (eL r8.changes), 66, 6⟩, some ⟨.tr (eL r8.rows), 52, 2⟩] rfl rfl ?_; refine PL.frz hs 4 7 [(16, .agg [sL r8.first, .os 5 0 r8.changes.length, .os 6 0 r8.rows.length])] [some ⟨.mx [sL p_aT.first, sL p_aT.changes, sL p_aT.rows], 37, 0⟩, none, none, none, none, some ⟨.tr (eL r8.changes), 66, 6⟩, some ⟨.tr (eL r8.rows), 52, 2⟩] rfl rfl ⟨(.aggL ⟨(.own rfl (by decide) rfl rfl), (.os rfl), (.os rfl), trivial⟩), trivial⟩ ⟨⟨rfl, .inl rfl⟩, ⟨rfl, .inl rfl⟩, ⟨rfl, .inl rfl⟩, trivial⟩ ?_; refine PL.frz hs 5 7 [(16, .agg [sL r8.first, sL r8.changes, .os 6 0 r8.rows.length])] [some ⟨.mx [sL p_aT.first, sL p_aT.changes, sL p_aT.rows], 37, 0⟩, none, none, none, none, none, some ⟨.tr (eL r8.rows), 52, 2⟩] rfl rfl ⟨(.aggL ⟨(.t _), (.own rfl (by decide) rfl rfl), (.os rfl), trivial⟩), trivial⟩ ⟨⟨rfl, .inl rfl⟩, ⟨rfl, .inl rfl⟩, trivial⟩ ?_; refine PL.frz hs 6 7 [(16, .agg [sL r8.first, sL r8.changes, sL r8.rows])] [some ⟨.mx [sL p_aT.first, sL p_aT.changes, sL p_aT.rows], 37, 0⟩, none, none, none, none, none, none] rfl rfl ⟨(.aggL ⟨(.t _), (.t _), (.own rfl (by decide) rfl rfl), trivial⟩), trivial⟩ ⟨⟨rfl, .inl rfl⟩, trivial⟩ ?_; refine PL.nm (.agg [sL r8.first, sL r8.changes, sL r8.rows]) [some ⟨.mx [sL p_aT.first, sL p_aT.changes, sL p_aT.rows], 37, 0⟩, none, none, none, none, none, none] rfl rfl ?_; refine PL.ef rfl (Ef.alloc rfl rfl) ?_; refine PL.nm (.op 7 0) [some ⟨.mx [sL p_aT.first, sL p_aT.changes, sL p_aT.rows], 37, 0⟩, none, none, none, none, none, none, some ⟨.mx [.t (.v (.slice none 0 0)), .t (.v (.slice none 0 0)), .t (.v (.slice none 0 0))], 27, 0⟩] rfl rfl ?_; refine PL.store rfl rfl rfl rfl rfl rfl rfl ?_; refine PL.nO [some ⟨.mx [sL p_aT.first, sL p_aT.changes, sL p_aT.rows], 37, 0⟩, none, none, none, none, none, none, some ⟨.mx [sL r8.first, sL r8.changes, sL r8.rows], 27, 0⟩] rfl ?_; refine PL.nil ?_; refine thA_n ?_; refine PC.seq ?_; obtain ⟨r10, h_11, hh0⟩ := bind_some hh0; refine PC.region ?_; refine PL.op rfl (Rd.loadBox rfl rfl rfl) ?_; refine PL.callM false [] (w_I_ValidTable N r8 r10 h_11) rfl Tryd.call16 rfl ⟨.aggL ⟨.t _, .t _, .t _, trivial⟩, trivial⟩ rfl trivial (fun h => by cases h) ?_; refine PL.op rfl (Rd.asnT rfl) ?_; refine PL.nil ?_; refine thA_n ?_; (iterate 2 refine PC.seq ?_); refine PC.region ?_; (iterate 2 refine PL.op rfl (Rd.moveT rfl) ?_); refine PL.op rfl (Rd.neqB rfl rfl) ?_; refine PL.nil ?_; refine thA_n ?_; rcases cond_some hh0 with ⟨h_12, hh0⟩ | ⟨h_12, hh0⟩; rotate_left
  · refine PC.cond_true rfl (not_f h_12) ?_; refine PC.seq ?_; refine PC.region ?_; refine PL.op rfl (Rd.asnT rfl) ?_; refine PL.nil ?_; refine thA_n ?_; refine PC.ret ?_; refine thA_r ?_; obtain rfl := some_in hh0; exact FinA.mk (r := bA false) (bl := []) [] (.inl rfl) rfl (rl := [.tmp 2]) (.tmp .nil) rfl rfl rfl (.t _) trivial ⟨rfl, rfl⟩
  refine PC.cond_false rfl (not_t h_12) ?_; refine PC.skip ?_; refine thA_n ?_; refine PC.seq ?_; obtain ⟨r13, h_14, hh0⟩ := bind_some hh0; obtain ⟨r15, h_16, hh0⟩ := bind_some hh0; refine PC.cut hs (fun _ : Unit => [(26, bA (!r15))]) (fun _ => []) (fun _ => True) ?_ ?_
  · refine PC.any (id := 10) 5 (.seg [1] (.fork (.seg [0, 2, 3, 4] .done) (.seg [2, 0, 3, 4] .done))) [] rfl (by kernel_rfl) rfl ?_; refine PT.seg ?_; refine PR.op rfl (Rd.loadBox rfl rfl rfl) ?_; refine PR.nil ?_; refine PT.fork ?_ ?_
    · refine PT.seg ?_; refine PR.rdE rfl rfl (Rd.loadBox rfl rfl rfl) ?_; refine PR.callM false [] (w_L_toTable N p_aT r13 h_14) rfl Tryd.call23 rfl ⟨.aggL ⟨.t _, .t _, .t _, trivial⟩, trivial⟩ rfl trivial (fun h => by cases h) rfl ?_; refine PR.nm (.agg [.os 8 0 r13.first.length, .os 9 0 r13.changes.length, .os 10 0 r13.rows.length]) [some ⟨.mx [sL p_aT.first, sL p_aT.changes, sL p_aT.rows], 37, 0⟩, none, none, none, none, none, none, some ⟨.mx [sL r8.first, sL r8.changes, sL r8.rows], 27, 0⟩, some ⟨.tr (eL r13.first), 64, 4⟩, some ⟨.tr (eL r13.changes), 66, 6⟩, some ⟨.tr (eL r13.rows), 52, 2⟩] rfl rfl ?_; refine PR.frz hs 8 11 [(24, .agg [sL r13.first, .os 9 0 r13.changes.length, .os 10 0 r13.rows.length])] [some ⟨.mx [sL p_aT.first, sL p_aT.changes, sL p_aT.rows], 37, 0⟩, none, none, none, none, none, none, some ⟨.mx [sL r8.first, sL r8.changes, sL r8.rows], 27, 0⟩, none, some ⟨.tr (eL r13.changes), 66, 6⟩, some ⟨.tr (eL r13.rows), 52, 2⟩] rfl rfl rfl ⟨(.aggL ⟨(.own rfl (by decide) rfl rfl), (.os rfl), (.os rfl), trivial⟩), trivial⟩ ⟨⟨rfl, .inl rfl⟩, ⟨rfl, .inl rfl⟩, ⟨rfl, .inl rfl⟩, ⟨rfl, .inl rfl⟩, trivial⟩ ?_; refine PR.frz hs 9 11 [(24, .agg [sL r13.first, sL r13.changes, .os 10 0 r13.rows.length])] [some ⟨.mx [sL p_aT.first, sL p_aT.changes, sL p_aT.rows], 37, 0⟩, none, none, none, none, none, none, some ⟨.mx [sL r8.first, sL r8.changes, sL r8.rows], 27, 0⟩, none, none, some ⟨.tr (eL r13.rows), 52, 2⟩] rfl rfl rfl ⟨(.aggL ⟨(.t _), (.own rfl (by decide) rfl rfl), (.os rfl), trivial⟩), trivial⟩ ⟨⟨rfl, .inl rfl⟩, ⟨rfl, .inl rfl⟩, ⟨rfl, .inl rfl⟩, trivial⟩ ?_; refine PR.frz hs 10 11 [(24, .agg [sL r13.first, sL r13.changes, sL r13.rows])] [some ⟨.mx [sL p_aT.first, sL p_aT.changes, sL p_aT.rows], 37, 0⟩, none, none, none, none, none, none, some ⟨.mx [sL r8.first, sL r8.changes, sL r8.rows], 27, 0⟩, none, none, none] rfl rfl rfl ⟨(.aggL ⟨(.t _), (.t _), (.own rfl (by decide) rfl rfl), trivial⟩), trivial⟩ ⟨⟨rfl, .inl rfl⟩, ⟨rfl, .inl rfl⟩, trivial⟩ ?_; refine PR.nm (.agg [sL r13.first, sL r13.changes, sL r13.rows]) [some ⟨.mx [sL p_aT.first, sL p_aT.changes, sL p_aT.rows], 37, 0⟩, none, none, none, none, none, none, some ⟨.mx [sL r8.first, sL r8.changes, sL r8.rows], 27, 0⟩, none, none, none] rfl rfl ?_; refine PR.callM false [] (w_L_eqTable N r8 r13 r15 h_16) rfl Tryd.call24 rfl ⟨.aggL ⟨.t _, .t _, .t _, trivial⟩, .aggL ⟨.t _, .t _, .t _, trivial⟩, trivial⟩ rfl trivial (fun h => by cases h) rfl ?_; refine PR.op rfl (Rd.unnot rfl) ?_; refine PR.nil ?_; refine PT.done ?_; refine PL.nil ?_; refine thA_n ?_; exact ⟨(), trivial, [], ⟨rfl, rfl, trivial, ⟨.t _, trivial⟩⟩⟩
    refine PT.seg ?_; refine PR.callM false [] (w_L_toTable N p_aT r13 h_14) rfl Tryd.call23 rfl ⟨.aggL ⟨.t _, .t _, .t _, trivial⟩, trivial⟩ rfl trivial (fun h => by cases h) rfl ?_; refine PR.nm (.agg [.os 8 0 r13.first.length, .os 9 0 r13.changes.length, .os 10 0 r13.rows.length]) [some ⟨.mx [sL p_aT.first, sL p_aT.changes, sL p_aT.rows], 37, 0⟩, none, none, none, none, none, none, some ⟨.mx [sL r8.first, sL r8.changes, sL r8.rows], 27, 0⟩, some ⟨.tr (eL r13.first), 64, 4⟩, some ⟨.tr (eL r13.changes), 66, 6⟩, some ⟨.tr (eL r13.rows), 52, 2⟩] rfl rfl ?_; refine PR.frz hs 8 11 [(24, .agg [sL r13.first, .os 9 0 r13.changes.length, .os 10 0 r13.rows.length])] [some ⟨.mx [sL p_aT.first, sL p_aT.changes, sL p_aT.rows], 37, 0⟩, none, none, none, none, none, none, some ⟨.mx [sL r8.first, sL r8.changes, sL r8.rows], 27, 0⟩, none, some ⟨.tr (eL r13.changes), 66, 6⟩, some ⟨.tr (eL r13.rows), 52, 2⟩] rfl rfl rfl ⟨(.aggL ⟨(.own rfl (by decide) rfl rfl), (.os rfl), (.os rfl), trivial⟩), trivial⟩ ⟨⟨rfl, .inl rfl⟩, ⟨rfl, .inl rfl⟩, ⟨rfl, .inl rfl⟩, ⟨rfl, .inl rfl⟩, trivial⟩ ?_; refine PR.frz hs 9 11 [(24, .agg [sL r13.first, sL r13.changes, .os 10 0 r13.rows.length])] [some ⟨.mx [sL p_aT.first, sL p_aT.changes, sL p_aT.rows], 37, 0⟩, none, none, none, none, none, none, some ⟨.mx [sL r8.first, sL r8.changes, sL r8.rows], 27, 0⟩, none, none, some ⟨.tr (eL r13.rows), 52, 2⟩] rfl rfl rfl ⟨(.aggL ⟨(.t _), (.own rfl (by decide) rfl rfl), (.os rfl), trivial⟩), trivial⟩ ⟨⟨rfl, .inl rfl⟩, ⟨rfl, .inl rfl⟩, ⟨rfl, .inl rfl⟩, trivial⟩ ?_; refine PR.frz hs 10 11 [(24, .agg [sL r13.first, sL r13.changes, sL r13.rows])] [some ⟨.mx [sL p_aT.first, sL p_aT.changes, sL p_aT.rows], 37, 0⟩, none, none, none, none, none, none, some ⟨.mx [sL r8.first, sL r8.changes, sL r8.rows], 27, 0⟩, none, none, none] rfl rfl rfl ⟨(.aggL ⟨(.t _), (.t _), (.own rfl (by decide) rfl rfl), trivial⟩), trivial⟩ ⟨⟨rfl, .inl rfl⟩, ⟨rfl, .inl rfl⟩, trivial⟩ ?_; refine PR.nm (.agg [sL r13.first, sL r13.changes, sL r13.rows]) [some ⟨.mx [sL p_aT.first, sL p_aT.changes, sL p_aT.rows], 37, 0⟩, none, none, none, none, none, none, some ⟨.mx [sL r8.first, sL r8.changes, sL r8.rows], 27, 0⟩, none, none, none] rfl rfl ?_; refine PR.rdE rfl rfl (Rd.loadBox rfl rfl rfl) ?_; refine PR.callM false [] (w_L_eqTable N r8 r13 r15 h_16) rfl Tryd.call24 rfl ⟨.aggL ⟨.t _, .t _, .t _, trivial⟩, .aggL ⟨.t _, .t _, .t _, trivial⟩, trivial⟩ rfl trivial (fun h => by cases h) rfl ?_; refine PR.op rfl (Rd.unnot rfl) ?_; refine PR.nil ?_; refine PT.done ?_; refine PL.nil ?_; refine thA_n ?_; exact ⟨(), trivial, [], ⟨rfl, rfl, trivial, ⟨.t _, trivial⟩⟩⟩
  rintro ⟨⟩ -
  rcases cond_some hh0 with ⟨h_17, hh0⟩ | ⟨h_17, hh0⟩; rotate_left
  · refine PC.cond_true rfl (not_f h_17) ?_; refine PC.seq ?_; refine PC.region ?_; refine PL.op rfl (Rd.asnT rfl) ?_; refine PL.nil ?_; refine thA_n ?_; refine PC.ret ?_; refine thA_r ?_; obtain rfl := some_in hh0; exact FinA.mk (r := bA false) (bl := []) [] (.inl rfl) rfl (rl := [.tmp 2]) (.tmp .nil) rfl rfl rfl (.t _) trivial ⟨rfl, rfl⟩
  refine PC.cond_false rfl (not_t h_17) ?_; refine PC.skip ?_; refine thA_n ?_; refine PC.seq ?_; refine PC.region ?_; refine PL.op rfl (Rd.asnT rfl) ?_; refine PL.nil ?_; refine thA_n ?_; refine PC.ret ?_; obtain rfl := some_in hh0; exact FinA.mk (r := bA true) (bl := []) [] (.inl rfl) rfl (rl := [.tmp 2]) (.tmp .nil) rfl rfl rfl (.t _) trivial ⟨rfl, rfl⟩
def m_L_FnExactOldRows (N : Nat) (p_aT : L_Table) : Option (Bool) :=
  (m_L_szTable N p_aT (1048576 : Int)).bind fun r1 =>
  cond (decide (r1 < (0 : Int)))
    (some true)
    ((m_L_toTable N p_aT).bind fun r4 =>
    (m_S_OldRows N r4).bind fun r6 =>
    (m_L_toTable N p_aT).bind fun r8 =>
    (m_I_OldRows N r8).bind fun r10 =>
    cond (decide (r10 = r6))
      ((m_L_toTable N p_aT).bind fun r13 =>
      (m_L_eqTable N r8 r13).bind fun r15 =>
      cond r15
        (some true)
        (some false))
      (some false))
theorem w_L_FnExactOldRows (N : Nat) (p_aT : L_Table) (r : Bool) (hh0 : m_L_FnExactOldRows N p_aT = some r) : FnX Tryd.prog 7 [] [.agg [sL p_aT.first, sL p_aT.changes, sL p_aT.rows]] (RE (bA r) []) := by
  unfold m_L_FnExactOldRows at hh0; refine FnX.mk Tryd.func7 rfl rfl ?_; intro s hs; refine PC.seq ?_; refine PC.region ?_; refine PL.ef rfl (Ef.box rfl rfl rfl) ?_; refine PL.nm (.op 0 0) [some ⟨.mx [sL p_aT.first, sL p_aT.changes, sL p_aT.rows], 37, 0⟩] rfl rfl ?_; refine PL.op rfl (Rd.asnT rfl) ?_; refine PL.nil ?_; refine thA_n ?_; refine PC.seq ?_; refine PC.region ?_; refine PL.op rfl (Rd.asnT rfl) ?_; refine PL.nil ?_; refine thA_n ?_; refine PC.seq ?_; obtain ⟨r1, h_2, hh0⟩ := bind_some hh0; refine PC.region ?_; refine PL.op rfl (Rd.loadBox rfl rfl rfl) ?_; refine PL.op rfl (Rd.moveT rfl) ?_; refine PL.callM false [] (w_L_szTable N p_aT (1048576 : Int) r1 h_2) rfl Tryd.call22 rfl ⟨.aggL ⟨.t _, .t _, .t _, trivial⟩, .t _, trivial⟩ rfl trivial (fun h => by cases h) ?_; refine PL.op rfl (Rd.asnT rfl) ?_; refine PL.nil ?_; refine thA_n ?_; (iterate 2 refine PC.seq ?_); refine PC.region ?_; refine PL.op rfl (Rd.moveT rfl) ?_; refine PL.op rfl (Rd.lss rfl rfl) ?_; refine PL.nil ?_; refine thA_n ?_; rcases cond_some hh0 with ⟨h_3, hh0⟩ | ⟨h_3, hh0⟩
  · refine PC.cond_true rfl h_3 ?_; refine PC.seq ?_; refine PC.region ?_; refine PL.op rfl (Rd.asnT rfl) ?_; refine PL.nil ?_; refine thA_n ?_; refine PC.ret ?_; refine thA_r ?_; obtain rfl := some_in hh0; exact FinA.mk (r := bA true) (bl := []) [] (.inl rfl) rfl (rl := [.tmp 2]) (.tmp .nil) rfl rfl rfl (.t _) trivial ⟨rfl, rfl⟩
  refine PC.cond_false rfl h_3 ?_; refine PC.skip ?_; refine thA_n ?_; refine PC.seq ?_; obtain ⟨r4, h_5, hh0⟩ := bind_some hh0; obtain ⟨r6, h_7, hh0⟩ := bind_some hh0; refine PC.region ?_; refine PL.op rfl (Rd.loadBox rfl rfl rfl) ?_; refine PL.callM false [] (w_L_toTable N p_aT r4 h_5) rfl Tryd.call23 rfl ⟨.aggL ⟨.t _, .t _, .t _, trivial⟩, trivial⟩ rfl trivial (fun h => by cases h) ?_; refine PL.nm (.agg [.os 1 0 r4.first.length, .os 2 0 r4.changes.length, .os 3 0 r4.rows.length]) [some ⟨.mx [sL p_aT.first, sL p_aT.changes, sL p_aT.rows], 37, 0⟩, some ⟨.tr (eL r4.first), 64, 4⟩, some ⟨.tr (eL r4.changes), 66, 6⟩, some ⟨.tr (eL r4.rows), 52, 2⟩] rfl rfl ?_; refine PL.frz hs 1 4 [(13, .agg [sL r4.first, .os 2 0 r4.changes.length, .os 3 0 r4.rows.length])] [some ⟨.mx [sL p_aT.first, sL p_aT.changes, sL p_aT.rows], 37, 0⟩, none, some ⟨.tr (eL r4.changes), 66, 6⟩, some ⟨.tr (eL r4.rows), 52, 2⟩] rfl rfl ⟨(.aggL ⟨(.own rfl (by decide) rfl rfl), (.os rfl), (.os rfl), trivial⟩), trivial⟩ ⟨⟨rfl, .inl rfl⟩, ⟨rfl, .inl rfl⟩, ⟨rfl, .inl rfl⟩, trivial⟩ ?_; refine PL.frz hs 2 4 [(13, .agg [sL r4.first, sL r4.changes, .os 3 0 r4.rows.length])] [some ⟨.mx [sL p_aT.first, sL p_aT.changes, sL p_aT.rows], 37, 0⟩, none, none, some ⟨.tr (eL r4.rows), 52, 2⟩] rfl rfl ⟨(.aggL ⟨(.t _), (.own rfl (by decide) rfl rfl), (.os rfl), trivial⟩), trivial⟩ ⟨⟨rfl, .inl rfl⟩, ⟨rfl, .inl rfl⟩, trivial⟩ ?_; refine PL.frz hs 3 4 [(13, .agg [sL r4.first, sL r4.changes, sL r4.rows])] [some ⟨.mx [sL p_aT.first, sL p_aT.changes, sL p_aT.rows], 37, 0⟩, none, none, none] rfl rfl ⟨(.aggL ⟨(.t _), (.t _), (.own rfl (by decide) rfl rfl), trivial⟩), trivial⟩ ⟨⟨rfl, .inl rfl⟩, trivial⟩ ?_; refine PL.nm (.agg [sL r4.first, sL r4.changes, sL r4.rows]) [some ⟨.mx [sL p_aT.first, sL p_aT.changes, sL p_aT.rows], 37, 0⟩, none, none, none] rfl rfl ?_; refine PL.callM false [] (w_S_OldRows N r4 r6 h_7) rfl Tryd.call20 rfl ⟨.aggL ⟨.t _, .t _, .t _, trivial⟩, trivial⟩ rfl trivial (fun h => by cases h) ?_; refine PL.op rfl (Rd.asnT rfl) ?_; refine PL.nil ?_; refine thA_n ?_; refine PC.seq ?_; obtain ⟨r8, h_9, hh0⟩ := bind_some hh0; refine PC.region ?_; refine PL.op rfl (Rd.loadBox rfl rfl rfl) ?_; refine PL.callM false [] (w_L_toTable N p_aT r8 h_9) rfl Tryd.call23 rfl ⟨.aggL ⟨.t _, .t _, .t _, trivial⟩, trivial⟩ rfl trivial (fun h => by cases h) ?_; refine PL.nm (.agg [.os 4 0 r8.first.length, .os 5 0 r8.changes.length, .os 6 0 r8.rows.length]) [some ⟨.mx [sL p_aT.first, sL p_aT.changes, sL p_aT.rows], 37, 0⟩, none, none, none, some ⟨.tr (eL r8.first), 64, 4⟩, some ⟨.tr (eL r8.changes), 66, 6⟩, some ⟨.tr (eL r8.rows), 52, 2⟩] rfl rfl ?_; refine PL.frz hs 4 7 [(16, .agg [sL r8.first, .os 5 0 r8.changes.length, .os 6 0 r8.rows.length])] [some ⟨.mx [sL p_aT.first, sL p_aT.changes, sL p_aT.rows], 37, 0⟩, none, none, none, none, some ⟨.tr (eL r8.changes), 66, 6⟩, some ⟨.tr (eL r8.rows), 52, 2⟩] rfl rfl ⟨(.aggL ⟨(.own rfl (by decide) rfl rfl), (.os rfl), (.os rfl), trivial⟩), trivial⟩ ⟨⟨rfl, .inl rfl⟩, ⟨rfl, .inl rfl⟩, ⟨rfl, .inl rfl⟩, trivial⟩ ?_; refine PL.frz hs 5 7 [(16, .agg [sL r8.first, sL r8.changes, .os 6 0 r8.rows.length])] [some ⟨.mx [sL p_aT.first, sL p_aT.changes, sL p_aT.rows], 37, 0⟩, none, none, none, none, none, some ⟨.tr (eL r8.rows), 52, 2⟩] rfl rfl ⟨(.aggL ⟨(.t _), (.own rfl (by decide) rfl rfl), (.os rfl), trivial⟩), trivial⟩ ⟨⟨rfl, .inl rfl⟩, ⟨rfl, .inl rfl⟩, trivial⟩ ?_; refine PL.frz hs 6 7 [(16, .agg [sL r8.first, sL r8.changes, sL r8.rows])] [some ⟨.mx [sL p_aT.first, sL p_aT.changes, sL p_aT.rows], 37, 0⟩, none, none, none, none, none, none] rfl rfl ⟨(.aggL ⟨(.t _), (.t _), (.own rfl (by decide) rfl rfl), trivial⟩), trivial⟩ ⟨⟨rfl, .inl rfl⟩, trivial⟩ ?_; refine PL.nm (.agg [sL r8.first, sL r8.changes, sL r8.rows]) [some ⟨.mx [sL p_aT.first, sL p_aT.changes, sL p_aT.rows], 37, 0⟩, none, none, none, none, none, none] rfl rfl ?_; refine PL.ef rfl (Ef.alloc rfl rfl) ?_; refine PL.nm (.op 7 0) [some ⟨.mx [sL p_aT.first, sL p_aT.changes, sL p_aT.rows], 37, 0⟩, none, none, none, none, none, none, some ⟨.mx [.t (.v (.slice none 0 0)), .t (.v (.slice none 0 0)), .t (.v (.slice none 0 0))], 27, 0⟩] rfl rfl ?_; refine PL.store rfl rfl rfl rfl rfl rfl rfl ?_; refine PL.nO [some ⟨.mx [sL p_aT.first, sL p_aT.changes, sL p_aT.rows], 37, 0⟩, none, none, none, none, none, none, some ⟨.mx [sL r8.first, sL r8.changes, sL r8.rows], 27, 0⟩] rfl ?_; refine PL.nil ?_; refine thA_n ?_; refine PC.seq ?_; obtain ⟨r10, h_11, hh0⟩ := bind_some hh0; refine PC.region ?_; refine PL.op rfl (Rd.loadBox rfl rfl rfl) ?_; refine PL.callM false [] (w_I_OldRows N r8 r10 h_11) rfl Tryd.call19 rfl ⟨.aggL ⟨.t _, .t _, .t _, trivial⟩, trivial⟩ rfl trivial (fun h => by cases h) ?_; refine PL.op rfl (Rd.asnT rfl) ?_; refine PL.nil ?_; refine thA_n ?_; (iterate 2 refine PC.seq ?_); refine PC.region ?_; (iterate 2 refine PL.op rfl (Rd.moveT rfl) ?_); refine PL.op rfl (Rd.neq rfl rfl) ?_; refine PL.nil ?_; refine thA_n ?_; rcases cond_some hh0 with ⟨h_12, hh0⟩ | ⟨h_12, hh0⟩; rotate_left
  · refine PC.cond_true rfl (not_f h_12) ?_; refine PC.seq ?_; refine PC.region ?_; refine PL.op rfl (Rd.asnT rfl) ?_; refine PL.nil ?_; refine thA_n ?_; refine PC.ret ?_; refine thA_r ?_; obtain rfl := some_in hh0; exact FinA.mk (r := bA false) (bl := []) [] (.inl rfl) rfl (rl := [.tmp 2]) (.tmp .nil) rfl rfl rfl (.t _) trivial ⟨rfl, rfl⟩
  refine PC.cond_false rfl (not_t h_12) ?_; refine PC.skip ?_; refine thA_n ?_; refine PC.seq ?_; obtain ⟨r13, h_14, hh0⟩ := bind_some hh0; obtain ⟨r15, h_16, hh0⟩ := bind_some hh0; refine PC.cut hs (fun _ : Unit => [(26, bA (!r15))]) (fun _ => []) (fun _ => True) ?_ ?_
  · refine PC.any (id := 10) 5 (.seg [1] (.fork (.seg [0, 2, 3, 4] .done) (.seg [2, 0, 3, 4] .done))) [] rfl (by kernel_rfl) rfl ?_; refine PT.seg ?_; refine PR.op rfl (Rd.loadBox rfl rfl rfl) ?_; refine PR.nil ?_; refine PT.fork ?_ ?_
    · refine PT.seg ?_; refine PR.rdE rfl rfl (Rd.loadBox rfl rfl rfl) ?_; refine PR.callM false [] (w_L_toTable N p_aT r13 h_14) rfl Tryd.call23 rfl ⟨.aggL ⟨.t _, .t _, .t _, trivial⟩, trivial⟩ rfl trivial (fun h => by cases h) rfl ?_; refine PR.nm (.agg [.os 8 0 r13.first.length, .os 9 0 r13.changes.length, .os 10 0 r13.rows.length]) [some ⟨.mx [sL p_aT.first, sL p_aT.changes, sL p_aT.rows], 37, 0⟩, none, none, none, none, none, none, some ⟨.mx [sL r8.first, sL r8.changes, sL r8.rows], 27, 0⟩, some ⟨.tr (eL r13.first), 64, 4⟩, some ⟨.tr (eL r13.changes), 66, 6⟩, some ⟨.tr (eL r13.rows), 52, 2⟩] rfl rfl ?_; refine PR.frz hs 8 11 [(24, .agg [sL r13.first, .os 9 0 r13.changes.length, .os 10 0 r13.rows.length])] [some ⟨.mx [sL p_aT.first, sL p_aT.changes, sL p_aT.rows], 37, 0⟩, none, none, none, none, none, none, some ⟨.mx [sL r8.first, sL r8.changes, sL r8.rows], 27, 0⟩, none, some ⟨.tr (eL r13.changes), 66, 6⟩, some ⟨.tr (eL r13.rows), 52, 2⟩] rfl rfl rfl ⟨(.aggL ⟨(.own rfl (by decide) rfl rfl), (.os rfl), (.os rfl), trivial⟩), trivial⟩ ⟨⟨rfl, .inl rfl⟩, ⟨rfl, .inl rfl⟩, ⟨rfl, .inl rfl⟩, ⟨rfl, .inl rfl⟩, trivial⟩ ?_; refine PR.frz hs 9 11 [(24, .agg [sL r13.first, sL r13.changes, .os 10 0 r13.rows.length])] [some ⟨.mx [sL p_aT.first, sL p_aT.changes, sL p_aT.rows], 37, 0⟩, none, none, none, none, none, none, some ⟨.mx [sL r8.first, sL r8.changes, sL r8.rows], 27, 0⟩, none, none, some ⟨.tr (eL r13.rows), 52, 2⟩] rfl rfl rfl ⟨(.aggL ⟨(.t _), (.own rfl (by decide) rfl rfl), (.os rfl), trivial⟩), trivial⟩ ⟨⟨rfl, .inl rfl⟩, ⟨rfl, .inl rfl⟩, ⟨rfl, .inl rfl⟩, trivial⟩ ?_; refine PR.frz hs 10 11 [(24, .agg [sL r13.first, sL r13.changes, sL r13.rows])] [some ⟨.mx [sL p_aT.first, sL p_aT.changes, sL p_aT.rows], 37, 0⟩, none, none, none, none, none, none, some ⟨.mx [sL r8.first, sL r8.changes, sL r8.rows], 27, 0⟩, none, none, none] rfl rfl rfl ⟨(.aggL ⟨(.t _), (.t _), (.own rfl (by decide) rfl rfl), trivial⟩), trivial⟩ ⟨⟨rfl, .inl rfl⟩, ⟨rfl, .inl rfl⟩, trivial⟩ ?_; refine PR.nm (.agg [sL r13.first, sL r13.changes, sL r13.rows]) [some ⟨.mx [sL p_aT.first, sL p_aT.changes, sL p_aT.rows], 37, 0⟩, none, none, none, none, none, none, some ⟨.mx [sL r8.first, sL r8.changes, sL r8.rows], 27, 0⟩, none, none, none] rfl rfl ?_; refine PR.callM false [] (w_L_eqTable N r8 r13 r15 h_16) rfl Tryd.call24 rfl ⟨.aggL ⟨.t _, .t _, .t _, trivial⟩, .aggL ⟨.t _, .t _, .t _, trivial⟩, trivial⟩ rfl trivial (fun h => by cases h) rfl ?_; refine PR.op rfl (Rd.unnot rfl) ?_; refine PR.nil ?_; refine PT.done ?_; refine PL.nil ?_; refine thA_n ?_; exact ⟨(), trivial, [], ⟨rfl, rfl, trivial, ⟨.t _, trivial⟩⟩⟩
    refine PT.seg ?_; refine PR.callM false [] (w_L_toTable N p_aT r13 h_14) rfl Tryd.call23 rfl ⟨.aggL ⟨.t _, .t _, .t _, trivial⟩, trivial⟩ rfl trivial (fun h => by cases h) rfl ?_; refine PR.nm (.agg [.os 8 0 r13.first.length, .os 9 0 r13.changes.length, .os 10 0 r13.rows.length]) [some ⟨.mx [sL p_aT.first, sL p_aT.changes, sL p_aT.rows], 37, 0⟩, none, none, none, none, none, none, some ⟨.mx [sL r8.first, sL r8.changes, sL r8.rows], 27, 0⟩, some ⟨.tr (eL r13.first), 64, 4⟩, some ⟨.tr (eL r13.changes), 66, 6⟩, some ⟨.tr (eL r13.rows), 52, 2⟩] rfl rfl ?_; refine PR.frz hs 8 11 [(24, .agg [sL r13.first, .os 9 0 r13.changes.length, .os 10 0 r13.rows.length])] [some ⟨.mx [sL p_aT.first, sL p_aT.changes, sL p_aT.rows], 37, 0⟩, none, none, none, none, none, none, some ⟨.mx [sL r8.first, sL r8.changes, sL r8.rows], 27, 0⟩, none, some ⟨.tr (eL r13.changes), 66, 6⟩, some ⟨.tr (eL r13.rows), 52, 2⟩] rfl rfl rfl ⟨(.aggL ⟨(.own rfl (by decide) rfl rfl), (.os rfl), (.os rfl), trivial⟩), trivial⟩ ⟨⟨rfl, .inl rfl⟩, ⟨rfl, .inl rfl⟩, ⟨rfl, .inl rfl⟩, ⟨rfl, .inl rfl⟩, trivial⟩ ?_; refine PR.frz hs 9 11 [(24, .agg [sL r13.first, sL r13.changes, .os 10 0 r13.rows.length])] [some ⟨.mx [sL p_aT.first, sL p_aT.changes, sL p_aT.rows], 37, 0⟩, none, none, none, none, none, none, some ⟨.mx [sL r8.first, sL r8.changes, sL r8.rows], 27, 0⟩, none, none, some ⟨.tr (eL r13.rows), 52, 2⟩] rfl rfl rfl ⟨(.aggL ⟨(.t _), (.own rfl (by decide) rfl rfl), (.os rfl), trivial⟩), trivial⟩ ⟨⟨rfl, .inl rfl⟩, ⟨rfl, .inl rfl⟩, ⟨rfl, .inl rfl⟩, trivial⟩ ?_; refine PR.frz hs 10 11 [(24, .agg [sL r13.first, sL r13.changes, sL r13.rows])] [some ⟨.mx [sL p_aT.first, sL p_aT.changes, sL p_aT.rows], 37, 0⟩, none, none, none, none, none, none, some ⟨.mx [sL r8.first, sL r8.changes, sL r8.rows], 27, 0⟩, none, none, none] rfl rfl rfl ⟨(.aggL ⟨(.t _), (.t _), (.own rfl (by decide) rfl rfl), trivial⟩), trivial⟩ ⟨⟨rfl, .inl rfl⟩, ⟨rfl, .inl rfl⟩, trivial⟩ ?_; refine PR.nm (.agg [sL r13.first, sL r13.changes, sL r13.rows]) [some ⟨.mx [sL p_aT.first, sL p_aT.changes, sL p_aT.rows], 37, 0⟩, none, none, none, none, none, none, some ⟨.mx [sL r8.first, sL r8.changes, sL r8.rows], 27, 0⟩, none, none, none] rfl rfl ?_; refine PR.rdE rfl rfl (Rd.loadBox rfl rfl rfl) ?_; refine PR.callM false [] (w_L_eqTable N r8 r13 r15 h_16) rfl Tryd.call24 rfl ⟨.aggL ⟨.t _, .t _, .t _, trivial⟩, .aggL ⟨.t _, .t _, .t _, trivial⟩, trivial⟩ rfl trivial (fun h => by cases h) rfl ?_; refine PR.op rfl (Rd.unnot rfl) ?_; refine PR.nil ?_; refine PT.done ?_; refine PL.nil ?_; refine thA_n ?_; exact ⟨(), trivial, [], ⟨rfl, rfl, trivial, ⟨.t _, trivial⟩⟩⟩
  rintro ⟨⟩ -
  rcases cond_some hh0 with ⟨h_17, hh0⟩ | ⟨h_17, hh0⟩; rotate_left
  · refine PC.cond_true rfl (not_f h_17) ?_; refine PC.seq ?_; refine PC.region ?_; refine PL.op rfl (Rd.asnT rfl) ?_; refine PL.nil ?_; refine thA_n ?_; refine PC.ret ?_; refine thA_r ?_; obtain rfl := some_in hh0; exact FinA.mk (r := bA false) (bl := []) [] (.inl rfl) rfl (rl := [.tmp 2]) (.tmp .nil) rfl rfl rfl (.t _) trivial ⟨rfl, rfl⟩
  refine PC.cond_false rfl (not_t h_17) ?_; refine PC.skip ?_; refine thA_n ?_; refine PC.seq ?_; refine PC.region ?_; refine PL.op rfl (Rd.asnT rfl) ?_; refine PL.nil ?_; refine thA_n ?_; refine PC.ret ?_; obtain rfl := some_in hh0; exact FinA.mk (r := bA true) (bl := []) [] (.inl rfl) rfl (rl := [.tmp 2]) (.tmp .nil) rfl rfl rfl (.t _) trivial ⟨rfl, rfl⟩
end V
end Go.Proofs.YthhlkedkeefgnaaDoor
namespace Go.Proofs.YthhlkedkeefgnaaDoor
namespace V
open Enc (enc)
set_option linter.unusedVariables false
set_option linter.unusedSimpArgs false
set_option maxHeartbeats 4000000
set_option maxRecDepth 100000
open Go.RowKit
attribute [local irreducible] thA inA FinA eL
open Szd (szd)
open Go.ChangeShapes Go.WideShapes Go.ChangeAt
instance : Opn Tryd.prog Int 3 := Opn.int Tryd.underlying3
instance : Opn Tryd.prog ByteArray 9 := Opn.str Tryd.underlying9
instance : Szd L_Value := ⟨fun x => szd x.kind ∧ szd x.num ∧ szd x.text⟩
instance : Opn Tryd.prog L_Value 72 := ⟨fun {H en W fuel cs x} h => by
  obtain ⟨hl, hf⟩ := opn_fields Tryd.underlying72 h; rw [show Tryd.prog.cellsOf 72 = 3 by kernel_rfl] at hl; obtain ⟨n0, y0, h0⟩ := hf 0 _ rfl
  replace h0 : DataW.trod en Tryd.prog W 0 (fun _ => true) true n0 3 ((cs.drop 0).take (Tryd.prog.cellsOf 3)) = some y0 := h0
  rw [show Tryd.prog.cellsOf 3 = 1 by kernel_rfl] at h0; obtain ⟨a0, g0, s0⟩ := (inferInstance : Opn Tryd.prog Int 3).opn h0; obtain ⟨n1, y1, h1⟩ := hf 1 _ rfl
  replace h1 : DataW.trod en Tryd.prog W 0 (fun _ => true) true n1 3 ((cs.drop 1).take (Tryd.prog.cellsOf 3)) = some y1 := h1
  rw [show Tryd.prog.cellsOf 3 = 1 by kernel_rfl] at h1; obtain ⟨a1, g1, s1⟩ := (inferInstance : Opn Tryd.prog Int 3).opn h1; obtain ⟨n2, y2, h2⟩ := hf 2 _ rfl
  replace h2 : DataW.trod en Tryd.prog W 0 (fun _ => true) true n2 9 ((cs.drop 2).take (Tryd.prog.cellsOf 9)) = some y2 := h2
  rw [show Tryd.prog.cellsOf 9 = 1 by kernel_rfl] at h2; obtain ⟨a2, g2, s2⟩ := (inferInstance : Opn Tryd.prog ByteArray 9).opn h2; refine ⟨⟨a0, a1, a2⟩, ?_, s0, s1, s2⟩; have := TL.step g0 (TL.step g1 (TL.step g2 (TL.fin hl) rfl) rfl) rfl; exact this⟩
instance : Szd L_Column := ⟨fun x => szd x.kind ∧ szd x.default⟩
instance : Opn Tryd.prog L_Column 74 := ⟨fun {H en W fuel cs x} h => by
  obtain ⟨hl, hf⟩ := opn_fields Tryd.underlying74 h; rw [show Tryd.prog.cellsOf 74 = 4 by kernel_rfl] at hl; obtain ⟨n0, y0, h0⟩ := hf 0 _ rfl
  replace h0 : DataW.trod en Tryd.prog W 0 (fun _ => true) true n0 3 ((cs.drop 0).take (Tryd.prog.cellsOf 3)) = some y0 := h0
  rw [show Tryd.prog.cellsOf 3 = 1 by kernel_rfl] at h0; obtain ⟨a0, g0, s0⟩ := (inferInstance : Opn Tryd.prog Int 3).opn h0; obtain ⟨n1, y1, h1⟩ := hf 1 _ rfl
  replace h1 : DataW.trod en Tryd.prog W 0 (fun _ => true) true n1 72 ((cs.drop 1).take (Tryd.prog.cellsOf 72)) = some y1 := h1
  rw [show Tryd.prog.cellsOf 72 = 3 by kernel_rfl] at h1; obtain ⟨a1, g1, s1⟩ := (inferInstance : Opn Tryd.prog L_Value 72).opn h1; refine ⟨⟨a0, a1⟩, ?_, s0, s1⟩; have := TL.step g0 (TL.step g1 (TL.fin hl) rfl) rfl; exact this⟩
instance : Opn Tryd.prog (List L_Column) 33 := Opn.sl Tryd.underlying33 (by kernel_rfl) (by decide)
instance : Szd L_Change := ⟨fun x => szd x.kind ∧ szd x.at_ ∧ szd x.column⟩
instance : Opn Tryd.prog L_Change 76 := ⟨fun {H en W fuel cs x} h => by
  obtain ⟨hl, hf⟩ := opn_fields Tryd.underlying76 h; rw [show Tryd.prog.cellsOf 76 = 6 by kernel_rfl] at hl; obtain ⟨n0, y0, h0⟩ := hf 0 _ rfl
  replace h0 : DataW.trod en Tryd.prog W 0 (fun _ => true) true n0 3 ((cs.drop 0).take (Tryd.prog.cellsOf 3)) = some y0 := h0
  rw [show Tryd.prog.cellsOf 3 = 1 by kernel_rfl] at h0; obtain ⟨a0, g0, s0⟩ := (inferInstance : Opn Tryd.prog Int 3).opn h0; obtain ⟨n1, y1, h1⟩ := hf 1 _ rfl
  replace h1 : DataW.trod en Tryd.prog W 0 (fun _ => true) true n1 3 ((cs.drop 1).take (Tryd.prog.cellsOf 3)) = some y1 := h1
  rw [show Tryd.prog.cellsOf 3 = 1 by kernel_rfl] at h1; obtain ⟨a1, g1, s1⟩ := (inferInstance : Opn Tryd.prog Int 3).opn h1; obtain ⟨n2, y2, h2⟩ := hf 2 _ rfl
  replace h2 : DataW.trod en Tryd.prog W 0 (fun _ => true) true n2 74 ((cs.drop 2).take (Tryd.prog.cellsOf 74)) = some y2 := h2
  rw [show Tryd.prog.cellsOf 74 = 4 by kernel_rfl] at h2; obtain ⟨a2, g2, s2⟩ := (inferInstance : Opn Tryd.prog L_Column 74).opn h2; refine ⟨⟨a0, a1, a2⟩, ?_, s0, s1, s2⟩; have := TL.step g0 (TL.step g1 (TL.step g2 (TL.fin hl) rfl) rfl) rfl; exact this⟩
instance : Opn Tryd.prog (List L_Change) 34 := Opn.sl Tryd.underlying34 (by kernel_rfl) (by decide)
instance : Opn Tryd.prog (List L_Value) 81 := Opn.sl Tryd.underlying81 (by kernel_rfl) (by decide)
instance : Szd L_Tagged := ⟨fun x => szd x.tag ∧ szd x.row⟩
instance : Opn Tryd.prog L_Tagged 137 := ⟨fun {H en W fuel cs x} h => by
  obtain ⟨hl, hf⟩ := opn_fields Tryd.underlying137 h; rw [show Tryd.prog.cellsOf 137 = 2 by kernel_rfl] at hl; obtain ⟨n0, y0, h0⟩ := hf 0 _ rfl
  replace h0 : DataW.trod en Tryd.prog W 0 (fun _ => true) true n0 3 ((cs.drop 0).take (Tryd.prog.cellsOf 3)) = some y0 := h0
  rw [show Tryd.prog.cellsOf 3 = 1 by kernel_rfl] at h0; obtain ⟨a0, g0, s0⟩ := (inferInstance : Opn Tryd.prog Int 3).opn h0; obtain ⟨n1, y1, h1⟩ := hf 1 _ rfl
  replace h1 : DataW.trod en Tryd.prog W 0 (fun _ => true) true n1 81 ((cs.drop 1).take (Tryd.prog.cellsOf 81)) = some y1 := h1
  rw [show Tryd.prog.cellsOf 81 = 1 by kernel_rfl] at h1; obtain ⟨a1, g1, s1⟩ := (inferInstance : Opn Tryd.prog (List L_Value) 81).opn h1; refine ⟨⟨a0, a1⟩, ?_, s0, s1⟩; have := TL.step g0 (TL.step g1 (TL.fin hl) rfl) rfl; exact this⟩
instance : Opn Tryd.prog (List L_Tagged) 35 := Opn.sl Tryd.underlying35 (by kernel_rfl) (by decide)
instance : Szd L_Table := ⟨fun x => szd x.first ∧ szd x.changes ∧ szd x.rows⟩
instance : Opn Tryd.prog L_Table 37 := ⟨fun {H en W fuel cs x} h => by
  obtain ⟨hl, hf⟩ := opn_fields Tryd.underlying37 h; rw [show Tryd.prog.cellsOf 37 = 3 by kernel_rfl] at hl; obtain ⟨n0, y0, h0⟩ := hf 0 _ rfl
  replace h0 : DataW.trod en Tryd.prog W 0 (fun _ => true) true n0 33 ((cs.drop 0).take (Tryd.prog.cellsOf 33)) = some y0 := h0
  rw [show Tryd.prog.cellsOf 33 = 1 by kernel_rfl] at h0; obtain ⟨a0, g0, s0⟩ := (inferInstance : Opn Tryd.prog (List L_Column) 33).opn h0; obtain ⟨n1, y1, h1⟩ := hf 1 _ rfl
  replace h1 : DataW.trod en Tryd.prog W 0 (fun _ => true) true n1 34 ((cs.drop 1).take (Tryd.prog.cellsOf 34)) = some y1 := h1
  rw [show Tryd.prog.cellsOf 34 = 1 by kernel_rfl] at h1; obtain ⟨a1, g1, s1⟩ := (inferInstance : Opn Tryd.prog (List L_Change) 34).opn h1; obtain ⟨n2, y2, h2⟩ := hf 2 _ rfl
  replace h2 : DataW.trod en Tryd.prog W 0 (fun _ => true) true n2 35 ((cs.drop 2).take (Tryd.prog.cellsOf 35)) = some y2 := h2
  rw [show Tryd.prog.cellsOf 35 = 1 by kernel_rfl] at h2; obtain ⟨a2, g2, s2⟩ := (inferInstance : Opn Tryd.prog (List L_Tagged) 35).opn h2; refine ⟨⟨a0, a1, a2⟩, ?_, s0, s1, s2⟩; have := TL.step g0 (TL.step g1 (TL.step g2 (TL.fin hl) rfl) rfl) rfl; exact this⟩
end V
end Go.Proofs.YthhlkedkeefgnaaDoor
namespace Go.Proofs.YthhlkedkeefgnaaDoor
namespace V
set_option linter.unusedVariables false
set_option linter.unusedSimpArgs false
set_option maxHeartbeats 1000000
open Szd (szd)
/-- A budget is used up, element by element. -/
theorem sz_loop {α : Type} {N : Nat} {f : α → Int → Option Int} {P : α → Prop} {a : List α} {left : Int} {body : Int × Int → Option ((Int × Int) ⊕ (Int ⊕ Int))} (hf : ∀ x ∈ a, ∀ l : Int, 0 ≤ l → l ≤ 1048576 → ok (f x l) fun r => r = -1 ∨ (0 ≤ r ∧ r ≤ l ∧ P x)) (h0 : 0 ≤ left) (h1 : left ≤ 1048576) (hN : a.length < N) (hl : a.length ≤ 5000000)
    (hb : ∀ s, body s = cond (decide (s.2 < (a.length : Int))) ((ixI a s.2).bind fun x => (f x s.1).bind fun r => cond (decide (r < (0 : Int))) (some (.inr (.inr (-1 : Int)))) ((chk (s.2 + (1 : Int))).bind fun n => some (.inl (r, n)))) (some (.inr (.inl s.1)))) :
    ok (loopM body N (left, (0 : Int))) fun o => o = .inr (-1) ∨ ∃ r, o = .inl r ∧ 0 ≤ r ∧ r ≤ left ∧ ∀ x ∈ a, P x := by
  refine ok.each a.length (fun i s => s.2 = (i : Int) ∧ 0 ≤ s.1 ∧ s.1 ≤ left ∧ ∀ k (h : k < a.length), k < i → P a[k]) _ ?_ ?_ N 0 _ (Nat.zero_le _) ⟨rfl, h0, Int.le_refl _, fun k h hk => by omega⟩ (by omega)
  · rintro i ⟨s, j⟩ hi ⟨h2, h3, h4, h5⟩
    dsimp only at h2 h3 h4
    subst h2
    rw [hb]
    refine ok.ift (by dsimp only; omega) (ok.eq (ixI_nat hi) (ok.call (hf _ (List.getElem_mem _) s h3 (by omega)) ?_))
    rintro r (rfl | ⟨h6, h7, h8⟩)
    · exact ok.ift (by decide) (ok.some (.inl rfl))
    · refine ok.iff (by omega) (ok.chk (by omega) (ok.some ⟨by simp, h6, by dsimp only; omega, fun k hk hki => ?_⟩))
      rcases Nat.lt_succ_iff_lt_or_eq.1 hki with h | rfl
      · exact h5 k hk h
      · exact h8
  · rintro ⟨s, j⟩ ⟨h2, h3, h4, h5⟩
    dsimp only at h2 h3 h4
    subst h2
    rw [hb]
    refine ok.iff (by dsimp only; omega) (ok.some (.inr ⟨s, rfl, h3, h4, fun x hx => ?_⟩))
    obtain ⟨k, hk, rfl⟩ := List.mem_iff_getElem.1 hx
    exact h5 k hk hk
theorem mul_bd {a b c d : Nat} (h : a ≤ c) (h' : b ≤ d) : ((a * b : Nat) : Int) ≤ ((c * d : Nat) : Int) := Int.ofNat_le.2 (Nat.mul_le_mul h h')
theorem mkM_eq {β : Type} {w n : Nat} (z : β) (hw : w ≤ 1000) (hn : n ≤ 4000000) : mkM w z (n : Int) = some (List.replicate n z) := by
  have h1 := mul_bd hw hn
  have h2 : ((1000 * 4000000 : Nat) : Int) = 4000000000 := rfl
  have h3 : ((w * n : Nat) : Int) = (w : Int) * (n : Int) := Int.natCast_mul _ _
  unfold mkM
  rw [if_pos ⟨by omega, by rw [← h3]; omega, by omega⟩]; simp
/-- A list is copied, element by element. -/
theorem to_list {α β : Type} {N w : Nat} (g : α → β) {f : α → Option β} (z : β) {a : List α} (ha : a.length ≤ 4000000) (hw : w ≤ 1000) (hN : a.length < N) (hf : ∀ x ∈ a, f x = some (g x)) {body : Int × List β → Option ((Int × List β) ⊕ List β)}
    (hb : ∀ s, body s = cond (decide (s.1 < (a.length : Int))) ((ixI a s.1).bind fun x => (f x).bind fun r => (ixI s.2 s.1).bind fun _ => (chk (s.1 + (1 : Int))).bind fun n => some (.inl (n, s.2.set s.1.toNat r))) (some (.inr s.2))) :
    ((mkM w z (a.length : Int)).bind fun xs => loopM body N ((0 : Int), xs)) = some (a.map g) := by
  have hm : mkM w z (a.length : Int) = some (List.replicate a.length z) := by
    exact mkM_eq z hw ha
  rw [hm]
  show loopM body N ((0 : Int), _) = _
  refine to_loop a g (List.replicate a.length z) (by simp) hN ?_ ?_
  · intro i hi v hv
    have e1 : body ((i : Int), v) = _ := hb ((i : Int), v)
    rw [e1]
    refine ok.val ?_
    refine ok.ift (by dsimp only; omega) (ok.eq (ixI_nat hi) (ok.eq (hf _ (List.getElem_mem _)) (ok.eq (ixI_nat (show i < v.length by omega)) (ok.chk (by dsimp only; omega) (ok.some ?_)))))
    dsimp only
    rw [Int.toNat_natCast]
  · intro v
    rw [hb, decide_eq_false (by show ¬ (a.length : Int) < _; omega)]; rfl
def tVal (x : L_Value) : I_Value := ⟨x.kind, x.num, x.text⟩
def tCol (x : L_Column) : I_Column := ⟨x.kind, tVal x.default⟩
def tChg (x : L_Change) : I_Change := ⟨x.kind, x.at_, tCol x.column⟩
def tTag (x : L_Tagged) : I_Tagged := ⟨x.tag, x.row.map tVal⟩
def tTab (x : L_Table) : I_Table := ⟨x.first.map tCol, x.changes.map tChg, x.rows.map tTag⟩
/-- A table as the law takes it is not too large. -/
structure bL (t : L_Table) : Prop where
  f : t.first.length ≤ 1048576 ∧ ∀ c ∈ t.first, c.default.text.size ≤ 1048576
  c : t.changes.length ≤ 1048576 ∧ ∀ c ∈ t.changes, c.column.default.text.size ≤ 1048576
  r : t.rows.length ≤ 1048576 ∧ ∀ r ∈ t.rows, r.row.length ≤ 1048576 ∧ ∀ v ∈ r.row, v.text.size ≤ 1048576
theorem bL.bT {t : L_Table} (h : bL t) : bT (tTab t) := by
  refine ⟨⟨by show (t.first.map tCol).length ≤ _; rw [List.length_map]; have := h.f.1; omega, fun c hc => ?_⟩, ⟨by show (t.changes.map tChg).length ≤ _; rw [List.length_map]; have := h.c.1; omega, fun c hc => ?_⟩, by show (t.rows.map tTag).length ≤ _; rw [List.length_map]; have := h.r.1; omega, fun i hi => ?_⟩
  · obtain ⟨x, hx, rfl⟩ := List.mem_map.1 hc
    have := h.f.2 x hx
    show x.default.text.size ≤ _; omega
  · obtain ⟨x, hx, rfl⟩ := List.mem_map.1 hc
    have := h.c.2 x hx
    show x.column.default.text.size ≤ _; omega
  · have hm : (tTab t).rows[i] ∈ t.rows.map tTag := List.getElem_mem _
    obtain ⟨x, hx, e⟩ := List.mem_map.1 hm
    rw [← e]
    have := h.r.2 x hx
    refine ⟨by show (x.row.map tVal).length ≤ _; rw [List.length_map]; omega, fun v hv => ?_⟩
    obtain ⟨y, hy, rfl⟩ := List.mem_map.1 hv
    have := this.2 y hy
    show y.text.size ≤ _; omega
section
variable {N : Nat} (hN : 100000000 ≤ N)
include hN
omit hN in
theorem szVal {x : L_Value} (hs : szd x) {l : Int} (h0 : 0 ≤ l) (h1 : l ≤ 1048576) : ok (m_L_szValue N x l) fun r => r = -1 ∨ (0 ≤ r ∧ r ≤ l ∧ x.text.size ≤ 1048576) := by
  have hs' : x.text.size ≤ 9223372036854775807 := hs.2.2
  unfold m_L_szValue
  exact ok.chk (by omega) (ok.ite (fun h => ok.some (.inl rfl)) fun h => ok.some (.inr ⟨by omega, by omega, by omega⟩))
omit hN in
theorem szCol {x : L_Column} (hs : szd x) {l : Int} (h0 : 0 ≤ l) (h1 : l ≤ 1048576) : ok (m_L_szColumn N x l) fun r => r = -1 ∨ (0 ≤ r ∧ r ≤ l ∧ x.default.text.size ≤ 1048576) := by
  unfold m_L_szColumn
  refine ok.call (szVal hs.2 h0 h1) ?_
  rintro r (rfl | h)
  · exact ok.ift (by decide) (ok.some (.inl rfl))
  · exact ok.iff (by omega) (ok.some (.inr h))
omit hN in
theorem szChg {x : L_Change} (hs : szd x) {l : Int} (h0 : 0 ≤ l) (h1 : l ≤ 1048576) : ok (m_L_szChange N x l) fun r => r = -1 ∨ (0 ≤ r ∧ r ≤ l ∧ x.column.default.text.size ≤ 1048576) := by
  unfold m_L_szChange
  refine ok.call (szCol hs.2.2 h0 h1) ?_
  rintro r (rfl | h)
  · exact ok.ift (by decide) (ok.some (.inl rfl))
  · exact ok.iff (by omega) (ok.some (.inr h))
theorem szCols {a : List L_Column} (hs : szd a) {l : Int} (h0 : 0 ≤ l) (h1 : l ≤ 1048576) : ok (m_L_szColumnS N a l) fun r => r = -1 ∨ (0 ≤ r ∧ r ≤ l ∧ a.length ≤ 1048576 ∧ ∀ x ∈ a, x.default.text.size ≤ 1048576) := by
  have hl : a.length ≤ 9223372036854775807 := hs.1
  unfold m_L_szColumnS
  refine ok.chk (by omega) (ok.ite (fun h => ok.some (.inl rfl)) fun h => ?_)
  refine ok.call (sz_loop (f := m_L_szColumn N) (P := fun x => x.default.text.size ≤ 1048576) (fun x hx l h0 h1 => szCol (hs.2 x hx) h0 h1) (by omega) (by omega) (by omega) (by omega) (fun s => rfl)) ?_
  rintro o (rfl | ⟨r, rfl, h2, h3, h4⟩)
  · exact ok.some (.inl rfl)
  · exact ok.some (.inr ⟨h2, by omega, by omega, h4⟩)
theorem szChgs {a : List L_Change} (hs : szd a) {l : Int} (h0 : 0 ≤ l) (h1 : l ≤ 1048576) : ok (m_L_szChangeS N a l) fun r => r = -1 ∨ (0 ≤ r ∧ r ≤ l ∧ a.length ≤ 1048576 ∧ ∀ x ∈ a, x.column.default.text.size ≤ 1048576) := by
  have hl : a.length ≤ 9223372036854775807 := hs.1
  unfold m_L_szChangeS
  refine ok.chk (by omega) (ok.ite (fun h => ok.some (.inl rfl)) fun h => ?_)
  refine ok.call (sz_loop (f := m_L_szChange N) (P := fun x => x.column.default.text.size ≤ 1048576) (fun x hx l h0 h1 => szChg (hs.2 x hx) h0 h1) (by omega) (by omega) (by omega) (by omega) (fun s => rfl)) ?_
  rintro o (rfl | ⟨r, rfl, h2, h3, h4⟩)
  · exact ok.some (.inl rfl)
  · exact ok.some (.inr ⟨h2, by omega, by omega, h4⟩)
theorem szVals {a : List L_Value} (hs : szd a) {l : Int} (h0 : 0 ≤ l) (h1 : l ≤ 1048576) : ok (m_L_szValueS N a l) fun r => r = -1 ∨ (0 ≤ r ∧ r ≤ l ∧ a.length ≤ 1048576 ∧ ∀ x ∈ a, x.text.size ≤ 1048576) := by
  have hl : a.length ≤ 9223372036854775807 := hs.1
  unfold m_L_szValueS
  refine ok.chk (by omega) (ok.ite (fun h => ok.some (.inl rfl)) fun h => ?_)
  refine ok.call (sz_loop (f := m_L_szValue N) (P := fun x => x.text.size ≤ 1048576) (fun x hx l h0 h1 => szVal (hs.2 x hx) h0 h1) (by omega) (by omega) (by omega) (by omega) (fun s => rfl)) ?_
  rintro o (rfl | ⟨r, rfl, h2, h3, h4⟩)
  · exact ok.some (.inl rfl)
  · exact ok.some (.inr ⟨h2, by omega, by omega, h4⟩)
theorem szTag {x : L_Tagged} (hs : szd x) {l : Int} (h0 : 0 ≤ l) (h1 : l ≤ 1048576) : ok (m_L_szTagged N x l) fun r => r = -1 ∨ (0 ≤ r ∧ r ≤ l ∧ x.row.length ≤ 1048576 ∧ ∀ v ∈ x.row, v.text.size ≤ 1048576) := by
  unfold m_L_szTagged
  refine ok.call (szVals hN hs.2 h0 h1) ?_
  rintro r (rfl | h)
  · exact ok.ift (by decide) (ok.some (.inl rfl))
  · exact ok.iff (by omega) (ok.some (.inr h))
theorem szTags {a : List L_Tagged} (hs : szd a) {l : Int} (h0 : 0 ≤ l) (h1 : l ≤ 1048576) : ok (m_L_szTaggedS N a l) fun r => r = -1 ∨ (0 ≤ r ∧ r ≤ l ∧ a.length ≤ 1048576 ∧ ∀ x ∈ a, x.row.length ≤ 1048576 ∧ ∀ v ∈ x.row, v.text.size ≤ 1048576) := by
  have hl : a.length ≤ 9223372036854775807 := hs.1
  unfold m_L_szTaggedS
  refine ok.chk (by omega) (ok.ite (fun h => ok.some (.inl rfl)) fun h => ?_)
  refine ok.call (sz_loop (f := m_L_szTagged N) (P := fun x => x.row.length ≤ 1048576 ∧ ∀ v ∈ x.row, v.text.size ≤ 1048576) (fun x hx l h0 h1 => szTag hN (hs.2 x hx) h0 h1) (by omega) (by omega) (by omega) (by omega) (fun s => rfl)) ?_
  rintro o (rfl | ⟨r, rfl, h2, h3, h4⟩)
  · exact ok.some (.inl rfl)
  · exact ok.some (.inr ⟨h2, by omega, by omega, h4⟩)
theorem szTab {t : L_Table} (hs : szd t) {l : Int} (h0 : 0 ≤ l) (h1 : l ≤ 1048576) : ok (m_L_szTable N t l) fun r => r = -1 ∨ (0 ≤ r ∧ r ≤ l ∧ bL t) := by
  unfold m_L_szTable
  refine ok.call (szCols hN hs.1 h0 h1) ?_
  rintro r (rfl | ⟨h2, h3, h4⟩)
  · exact ok.ift (by decide) (ok.some (.inl rfl))
  refine ok.iff (by omega) (ok.call (szChgs hN hs.2.1 h2 (by omega)) ?_)
  rintro r (rfl | ⟨h5, h6, h7⟩)
  · exact ok.ift (by decide) (ok.some (.inl rfl))
  refine ok.iff (by omega) (ok.call (szTags hN hs.2.2 h5 (by omega)) ?_)
  rintro r (rfl | ⟨h8, h9, h10⟩)
  · exact ok.ift (by decide) (ok.some (.inl rfl))
  · exact ok.iff (by omega) (ok.some (.inr ⟨h8, by omega, ⟨h4, h7, h10⟩⟩))
omit hN in
theorem tVal_eq (x : L_Value) : m_L_toValue N x = some (tVal x) := rfl
omit hN in
theorem tCol_eq (x : L_Column) : m_L_toColumn N x = some (tCol x) := rfl
omit hN in
theorem tChg_eq (x : L_Change) : m_L_toChange N x = some (tChg x) := rfl
theorem tCols_eq {a : List L_Column} (ha : a.length ≤ 1048576) : m_L_toColumnS N a = some (a.map tCol) := by
  have h := to_list (N := N) (w := 40) tCol (f := m_L_toColumn N) (I_Column.mk (0 : Int) (I_Value.mk (0 : Int) (0 : Int) ByteArray.empty)) (a := a) (by omega) (by omega) (by omega) (fun x _ => tCol_eq x) (body := fun s : Int × (List I_Column) => m_L_toColumnS_b1 N a s.1 s.2) (fun s => rfl)
  unfold m_L_toColumnS
  obtain ⟨xs, e1, e2⟩ := bind_some h
  rw [e1]
  show (loopM _ N _).bind _ = _
  rw [e2]; rfl
theorem tChgs_eq {a : List L_Change} (ha : a.length ≤ 1048576) : m_L_toChangeS N a = some (a.map tChg) := by
  have h := to_list (N := N) (w := 56) tChg (f := m_L_toChange N) (I_Change.mk (0 : Int) (0 : Int) (I_Column.mk (0 : Int) (I_Value.mk (0 : Int) (0 : Int) ByteArray.empty))) (a := a) (by omega) (by omega) (by omega) (fun x _ => tChg_eq x) (body := fun s : Int × (List I_Change) => m_L_toChangeS_b1 N a s.1 s.2) (fun s => rfl)
  unfold m_L_toChangeS
  obtain ⟨xs, e1, e2⟩ := bind_some h
  rw [e1]
  show (loopM _ N _).bind _ = _
  rw [e2]; rfl
theorem tVals_eq {a : List L_Value} (ha : a.length ≤ 1048576) : m_L_toValueS N a = some (a.map tVal) := by
  have h := to_list (N := N) (w := 32) tVal (f := m_L_toValue N) (I_Value.mk (0 : Int) (0 : Int) ByteArray.empty) (a := a) (by omega) (by omega) (by omega) (fun x _ => tVal_eq x) (body := fun s : Int × (List I_Value) => m_L_toValueS_b1 N a s.1 s.2) (fun s => rfl)
  unfold m_L_toValueS
  obtain ⟨xs, e1, e2⟩ := bind_some h
  rw [e1]
  show (loopM _ N _).bind _ = _
  rw [e2]; rfl
theorem tTag_eq {x : L_Tagged} (h : x.row.length ≤ 1048576) : m_L_toTagged N x = some (tTag x) := by
  unfold m_L_toTagged
  rw [tVals_eq hN h]; rfl
theorem tTags_eq {a : List L_Tagged} (ha : a.length ≤ 1048576) (hr : ∀ x ∈ a, x.row.length ≤ 1048576) : m_L_toTaggedS N a = some (a.map tTag) := by
  have h := to_list (N := N) (w := 32) tTag (f := m_L_toTagged N) (I_Tagged.mk (0 : Int) ([] : List I_Value)) (a := a) (by omega) (by omega) (by omega) (fun x hx => tTag_eq hN (hr x hx)) (body := fun s : Int × (List I_Tagged) => m_L_toTaggedS_b1 N a s.1 s.2) (fun s => rfl)
  unfold m_L_toTaggedS
  obtain ⟨xs, e1, e2⟩ := bind_some h
  rw [e1]
  show (loopM _ N _).bind _ = _
  rw [e2]; rfl
theorem tTab_eq {t : L_Table} (h : bL t) : m_L_toTable N t = some (tTab t) := by
  unfold m_L_toTable
  rw [tCols_eq hN h.f.1]
  show (m_L_toChangeS N t.changes).bind _ = _
  rw [tChgs_eq hN h.c.1]
  show (m_L_toTaggedS N t.rows).bind _ = _
  rw [tTags_eq hN h.r.1 fun x hx => (h.r.2 x hx).1]; rfl
omit hN in
theorem xVal (a : I_Value) : m_L_eqValue N a a = some true := by unfold m_L_eqValue; simp
omit hN in
theorem xCol (a : I_Column) : m_L_eqColumn N a a = some true := by
  unfold m_L_eqColumn
  exact ok.val (ok.ift rfl (ok.eq (xVal _) (ok.some rfl)))
omit hN in
theorem xChg (a : I_Change) : m_L_eqChange N a a = some true := by
  unfold m_L_eqChange
  exact ok.val (ok.ift rfl (ok.ift rfl (ok.eq (xCol _) (ok.some rfl))))
theorem xCols {r : List I_Column} (hl : r.length ≤ 5000000) : m_L_eqColumnS N r r = some true := by
  refine ok.val ?_
  unfold m_L_eqColumnS
  refine ok.ift rfl (ok.eq (loop_self (n := r.length) (by omega) (fun i hi => ?_) ?_) (ok.some rfl))
  · show m_L_eqColumnS_b1 N r r (i : Int) = _
    unfold m_L_eqColumnS_b1
    exact ok.val (ok.ift (by omega) (ok.eq (ixI_nat hi) (ok.eq (ixI_nat hi) (ok.eq (xCol _) (ok.bt rfl (ok.chk (by omega) (ok.some rfl)))))))
  · show m_L_eqColumnS_b1 N r r _ = _
    unfold m_L_eqColumnS_b1
    rw [decide_eq_false (by omega)]; rfl
theorem xChgs {r : List I_Change} (hl : r.length ≤ 5000000) : m_L_eqChangeS N r r = some true := by
  refine ok.val ?_
  unfold m_L_eqChangeS
  refine ok.ift rfl (ok.eq (loop_self (n := r.length) (by omega) (fun i hi => ?_) ?_) (ok.some rfl))
  · show m_L_eqChangeS_b1 N r r (i : Int) = _
    unfold m_L_eqChangeS_b1
    exact ok.val (ok.ift (by omega) (ok.eq (ixI_nat hi) (ok.eq (ixI_nat hi) (ok.eq (xChg _) (ok.bt rfl (ok.chk (by omega) (ok.some rfl)))))))
  · show m_L_eqChangeS_b1 N r r _ = _
    unfold m_L_eqChangeS_b1
    rw [decide_eq_false (by omega)]; rfl
theorem xVals {r : List I_Value} (hl : r.length ≤ 5000000) : m_L_eqValueS N r r = some true := by
  refine ok.val ?_
  unfold m_L_eqValueS
  refine ok.ift rfl (ok.eq (loop_self (n := r.length) (by omega) (fun i hi => ?_) ?_) (ok.some rfl))
  · show m_L_eqValueS_b1 N r r (i : Int) = _
    unfold m_L_eqValueS_b1
    exact ok.val (ok.ift (by omega) (ok.eq (ixI_nat hi) (ok.eq (ixI_nat hi) (ok.eq (xVal _) (ok.bt rfl (ok.chk (by omega) (ok.some rfl)))))))
  · show m_L_eqValueS_b1 N r r _ = _
    unfold m_L_eqValueS_b1
    rw [decide_eq_false (by omega)]; rfl
theorem xTags {r : List I_Tagged} (hl : r.length ≤ 5000000) (h : ∀ i (h : i < r.length), bR r[i].row) : m_L_eqTaggedS N r r = some true := by
  refine ok.val ?_
  unfold m_L_eqTaggedS
  refine ok.ift rfl (ok.eq (loop_self (n := r.length) (by omega) (fun i hi => ?_) ?_) (ok.some rfl))
  · show m_L_eqTaggedS_b1 N r r (i : Int) = _
    unfold m_L_eqTaggedS_b1
    have e : m_L_eqTagged N r[i] r[i] = some true := by
      unfold m_L_eqTagged
      exact ok.val (ok.ift rfl (ok.eq (xVals hN (h i hi).1) (ok.some rfl)))
    exact ok.val (ok.ift (by omega) (ok.eq (ixI_nat hi) (ok.eq (ixI_nat hi) (ok.eq e (ok.bt rfl (ok.chk (by omega) (ok.some rfl)))))))
  · show m_L_eqTaggedS_b1 N r r _ = _
    unfold m_L_eqTaggedS_b1
    rw [decide_eq_false (by omega)]; rfl
theorem xTab {t : I_Table} (hb : bT t) : m_L_eqTable N t t = some true := by
  unfold m_L_eqTable
  exact ok.val (ok.eq (xCols hN hb.f.1) (ok.bt rfl (ok.eq (xChgs hN hb.c.1) (ok.bt rfl (ok.eq (xTags hN hb.rl hb.r) (ok.some rfl))))))
theorem lawFnExactValidTable (t : L_Table) (hs : szd t) : m_L_FnExactValidTable N t = some true := by
  refine ok.val ?_
  unfold m_L_FnExactValidTable
  refine ok.call (szTab hN hs (by omega) (by omega)) ?_
  rintro r (rfl | ⟨h0, h1, hb⟩)
  · exact ok.ift (by decide) (ok.some rfl)
  · have hb' := hb.bT
    have e := tTab_eq hN hb
    exact ok.iff (by omega) (ok.eq e (ok.eq (validTS' hN hb') (ok.eq e (ok.eq (validTI hN hb') (ok.bt (beq_self_eq_true _) (ok.eq e (ok.eq (xTab hN hb') (ok.some rfl))))))))
theorem lawFnExactOldRows (t : L_Table) (hs : szd t) : m_L_FnExactOldRows N t = some true := by
  refine ok.val ?_
  unfold m_L_FnExactOldRows
  refine ok.call (szTab hN hs (by omega) (by omega)) ?_
  rintro r (rfl | ⟨h0, h1, hb⟩)
  · exact ok.ift (by decide) (ok.some rfl)
  · have hb' := hb.bT
    have e := tTab_eq hN hb
    exact ok.iff (by omega) (ok.eq e (ok.eq (oldS hN hb') (ok.eq e (ok.eq (oldI hN hb') (ok.ift rfl (ok.eq e (ok.eq (xTab hN hb') (ok.some rfl))))))))
end
end V
end Go.Proofs.YthhlkedkeefgnaaDoor
namespace Go.Proofs.YthhlkedkeefgnaaDoor
namespace V
set_option linter.unusedVariables false
set_option linter.unusedSimpArgs false
set_option maxHeartbeats 1000000
/-- A reader that has not gone beyond c. -/
def RdB (r : S_reader) (c : Int) : Prop := r.b.length ≤ 2000 ∧ 0 ≤ r.p ∧ r.p ≤ c
theorem RdB.mono {r : S_reader} {c d : Int} (h : RdB r c) (hd : c ≤ d) : RdB r d := ⟨h.1, h.2.1, by have := h.2.2; omega⟩
/-- A value that is not too large. -/
def bV (v : I_Value) : Prop := (-1000000000 ≤ v.num ∧ v.num ≤ 1000000000) ∧ v.text.size ≤ 5000000
def bFm (f : List I_Column) (n : Nat) : Prop := f.length ≤ n ∧ ∀ c ∈ f, bV c.default
theorem bFm.bN {f : List I_Column} {n : Nat} (h : bFm f n) : bN f := fun c hc => (h.2 c hc).1
theorem bFm.bS {f : List I_Column} {n : Nat} (h : bFm f n) (hn : n ≤ 100) : bS f := ⟨by have := h.1; omega, fun c hc => (h.2 c hc).2⟩
theorem bFm.mono {f : List I_Column} {n m : Nat} (h : bFm f n) (hn : n ≤ m) : bFm f m := ⟨by have := h.1; omega, h.2⟩
theorem len_chF2 {f : List I_Column} {c : I_Change} {B : Nat} (h : f.length ≤ B) (hB : 5 ≤ B) (hp : poss f c) : (chF f c).length ≤ B := by
  unfold chF
  split
  · rcases hp with e | e | ⟨e1, e2, e3, e4⟩
    · rw [List.length_insertIdx]; split <;> omega
    · omega
    · omega
  · split
    · rw [List.length_eraseIdx]; split <;> omega
    · rw [List.length_modify]; exact h
theorem len_fA {f : List I_Column} {l : List I_Change} {B : Nat} (h : f.length ≤ B) (hB : 5 ≤ B) (hg : gC f l) : ∀ (i : Nat), i ≤ l.length → (fA f l i).length ≤ B
  | 0, _ => h
  | i + 1, hi => by
    rw [fA_succ f (by omega)]
    exact len_chF2 (len_fA h hB hg i (by omega)) hB (hg i (by omega))
theorem fA_snoc (f : List I_Column) (l : List I_Change) (c : I_Change) : fA f (l ++ [c]) (l ++ [c]).length = chF (fA f l l.length) c := by
  rw [List.length_append, List.length_singleton, fA_succ f (by simp), fA_app f c (Nat.le_refl _), List.getElem_append_right (Nat.le_refl _)]; simp
theorem of_size {l : List ByteArray} (h : l.all (fun x => decide (x.size ≤ 100)) = true) {x : ByteArray} (hx : x ∈ l) : x.size ≤ 5000000 := by
  have := of_decide_eq_true (List.all_eq_true.1 h x hx); omega
theorem zV_b : bV ⟨0, 0, ByteArray.empty⟩ := ⟨by constructor <;> decide, by decide⟩
theorem bR_snoc {r : List I_Value} {v : I_Value} {n : Nat} (h : r.length ≤ n ∧ ∀ x ∈ r, bV x) (hv : bV v) : (r ++ [v]).length ≤ n + 1 ∧ ∀ x ∈ r ++ [v], bV x := ⟨by simp; omega, fun x hx => by
  rcases List.mem_append.1 hx with h1 | h1
  · exact h.2 x h1
  · rw [List.mem_singleton.1 h1]; exact hv⟩
section
variable {N : Nat} (hN : 100000000 ≤ N)
include hN
omit hN in
theorem pickB {r : S_reader} {c n : Int} (h : RdB r c) (hc : c ≤ 1000000000) (hn : n ≤ 4000000000) : ok (m_S_reader_pick N r n) fun x => RdB x.2 (c + 1) ∧ 0 ≤ x.1 ∧ (x.1 < n ∨ x.1 = 0) := by
  have h1 := h.1
  have h2 := h.2.1
  have h3 := h.2.2
  refine (pick_ok N (by omega) (by omega) hn).mono ?_
  rintro ⟨x, r'⟩ ⟨e, e1, e2⟩
  dsimp only at *
  subst e
  exact ⟨⟨h1, by show 0 ≤ r.p + 1; omega, by show r.p + 1 ≤ _; omega⟩, e1, e2⟩
omit hN in
theorem oneB {r : S_reader} {c : Int} {l : List Int} (h : RdB r c) (hc : c ≤ 1000000000) (hl : 0 < l.length) (hl' : l.length ≤ 1000) : ok (m_S_reader_one N r l) fun x => RdB x.2 (c + 1) ∧ x.1 ∈ l := by
  have h1 := h.1
  have h2 := h.2.1
  have h3 := h.2.2
  refine (one_ok N (by omega) (by omega) hl hl').mono ?_
  rintro ⟨x, r'⟩ ⟨e, e1⟩
  dsimp only at *
  subst e
  exact ⟨⟨h1, by show 0 ≤ r.p + 1; omega, by show r.p + 1 ≤ _; omega⟩, e1⟩
omit hN in
theorem ofB {r : S_reader} {c : Int} {l : List ByteArray} (h : RdB r c) (hc : c ≤ 1000000000) (hl : 0 < l.length) (hl' : l.length ≤ 1000) : ok (m_S_reader_of N r l) fun x => RdB x.2 (c + 1) ∧ x.1 ∈ l := by
  have h1 := h.1
  have h2 := h.2.1
  have h3 := h.2.2
  refine (of_ok N (by omega) (by omega) hl hl').mono ?_
  rintro ⟨x, r'⟩ ⟨e, e1⟩
  dsimp only at *
  subst e
  exact ⟨⟨h1, by show 0 ≤ r.p + 1; omega, by show r.p + 1 ≤ _; omega⟩, e1⟩
omit hN in
theorem newB (l : List UInt8) : ok (m_S_newReader N l) fun r => RdB r 0 := (newReader_ok N l).mono fun r h => ⟨h.1, by have := h.2; omega, by have := h.2; omega⟩
omit hN in
theorem valB {r : S_reader} {c k : Int} (h : RdB r c) (hc : c ≤ 900000000) : ok (m_S_randomValue N r k) fun x => RdB x.2 (c + 4) ∧ bV x.1 := by
  have e0 : ByteArray.empty.size = 0 := rfl
  have hnum : ∀ (r : S_reader) (d : Int) (k : Int), RdB r d → d ≤ 950000000 → ok ((m_S_reader_pick N r (250 : Int)).bind fun r8 => (chk (r8.1 * (777 : Int))).bind fun n10 => (m_S_reader_one N r8.2 [(0 : Int), (1 : Int), (7 : Int), (-7 : Int), (79 : Int), (80 : Int), (4000 : Int), (200000 : Int), (999999 : Int), (-999999 : Int), n10]).bind fun r12 => some ((I_Value.mk k r12.1 ByteArray.empty), r12.2)) fun x => RdB x.2 (d + 2) ∧ bV x.1 := by
    intro r d k hr hd
    refine ok.call (pickB hr (by omega) (by omega)) ?_
    rintro ⟨x, r1⟩ ⟨h1, h2, h3⟩
    refine ok.chk (by dsimp only at *; omega) (ok.call (oneB h1 (by omega) (by simp) (by simp)) ?_)
    rintro ⟨y, r2⟩ ⟨h4, h5⟩
    dsimp only at *
    refine ok.some ⟨h4.mono (by omega), ⟨?_, by dsimp only; omega⟩⟩
    dsimp only
    simp only [List.mem_cons, List.not_mem_nil, or_false] at h5
    omega
  have htxt : ∀ (r : S_reader) (d : Int) (k : Int), RdB r d → d ≤ 950000000 → ok ((m_S_reader_of N r ([ByteArray.empty, (ByteArray.mk #[97]), (ByteArray.mk #[97, 98]), (ByteArray.mk #[98]), (ByteArray.mk #[49, 50]), (ByteArray.mk #[45, 55]), (ByteArray.mk #[126, 126]), (ByteArray.mk #[97, 32, 98]), (ByteArray.mk #[97, 98, 99, 100, 101, 102, 103, 104, 105, 106, 107, 108]), (ByteArray.mk #[32])])).bind fun r15 => some ((I_Value.mk k (0 : Int) r15.1), r15.2)) fun x => RdB x.2 (d + 1) ∧ bV x.1 := by
    intro r d k hr hd
    refine ok.call (ofB hr (by omega) (by simp) (by simp)) ?_
    rintro ⟨y, r2⟩ ⟨h4, h5⟩
    exact ok.some ⟨h4, ⟨by dsimp only; omega, of_size (by rfl) h5⟩⟩
  unfold m_S_randomValue
  refine ok.ite (fun _ => ok.call (pickB h (by omega) (by omega)) ?_) fun _ => ok.call (pickB h (by omega) (by omega)) ?_
  · rintro ⟨x, r1⟩ ⟨h1, h2, h3⟩
    refine ok.call (pickB h1 (by omega) (by omega)) ?_
    rintro ⟨y, r2⟩ ⟨h4, h5, h6⟩
    refine ok.ite (fun _ => ok.some ⟨h4.mono (by omega), zV_b⟩) fun _ => ok.ite (fun _ => (hnum _ _ _ h4 (by omega)).mono fun x hx => ⟨hx.1.mono (by omega), hx.2⟩) fun _ => ok.ite (fun _ => (htxt _ _ _ h4 (by omega)).mono fun x hx => ⟨hx.1.mono (by omega), hx.2⟩) fun _ => ok.some ⟨h4.mono (by omega), zV_b⟩
  · rintro ⟨y, r2⟩ ⟨h4, h5, h6⟩
    refine ok.ite (fun _ => ok.some ⟨h4.mono (by omega), zV_b⟩) fun _ => ok.ite (fun _ => (hnum _ _ _ h4 (by omega)).mono fun x hx => ⟨hx.1.mono (by omega), hx.2⟩) fun _ => ok.ite (fun _ => (htxt _ _ _ h4 (by omega)).mono fun x hx => ⟨hx.1.mono (by omega), hx.2⟩) fun _ => ok.some ⟨h4.mono (by omega), zV_b⟩
omit hN in
theorem colB {r : S_reader} {c : Int} (h : RdB r c) (hc : c ≤ 800000000) : ok (m_S_randomColumn N r) fun x => RdB x.2 (c + 5) ∧ bV x.1.default := by
  unfold m_S_randomColumn
  refine ok.call (pickB h (by omega) (by omega)) ?_
  rintro ⟨x, r1⟩ ⟨h1, h2, h3⟩
  refine ok.chk (by dsimp only at *; omega) (ok.call (valB h1 (by omega)) ?_)
  rintro ⟨y, r2⟩ ⟨h4, h5⟩
  exact ok.some ⟨h4.mono (by omega), h5⟩
omit hN in
theorem bFm_snoc {f : List I_Column} {n : Nat} {x : I_Column} (h : bFm f n) (hx : bV x.default) : bFm (f ++ [x]) (n + 1) := ⟨by have := h.1; simp; omega, fun y hy => by
  rcases List.mem_append.1 hy with h1 | h1
  · exact h.2 y h1
  · rw [List.mem_singleton.1 h1]; exact hx⟩
theorem fmtB {r : S_reader} {c : Int} (h : RdB r c) (hc : c ≤ 700000000) : ok (m_S_randomFormat N r) fun x => RdB x.2 (c + 26) ∧ bFm x.1 5 ∧ 1 ≤ x.1.length := by
  unfold m_S_randomFormat
  refine ok.call (oneB h (by omega) (by simp) (by simp)) ?_
  rintro ⟨n, r1⟩ ⟨h1, h2⟩
  have hn : 1 ≤ n ∧ n ≤ 5 := by
    simp only [List.mem_cons, List.not_mem_nil, or_false] at h2
    omega
  obtain ⟨n, rfl⟩ : ∃ m : Nat, n = m := ⟨n.toNat, by omega⟩
  refine ok.call (P := fun e => RdB ⟨e.1, e.2.1⟩ (c + 26) ∧ bFm e.2.2 5 ∧ e.2.2.length = n) (ok.each n (fun i s => s.1 = ((n - i : Nat) : Int) ∧ RdB ⟨s.2.1, s.2.2.1⟩ (c + 1 + 5 * i) ∧ bFm s.2.2.2 i ∧ s.2.2.2.length = i) _ ?_ ?_ N 0 _ (Nat.zero_le _) ⟨rfl, h1.mono (by omega), ⟨Nat.zero_le _, fun c h => by cases h⟩, rfl⟩ (by omega)) ?_
  · rintro i ⟨s1, s2, s3, s4⟩ hi ⟨h3, h4, h5, h6⟩
    dsimp only at *
    unfold m_S_randomFormat_b1
    refine ok.ift (by omega) (ok.call (colB h4 (by omega)) ?_)
    rintro ⟨x, r2⟩ ⟨h7, h8⟩
    dsimp only at *
    refine ok.app (by simp; omega) (ok.chk (by omega) (ok.some ⟨by dsimp only; omega, h7.mono (by omega), bFm_snoc h5 h8, by simp; omega⟩))
  · rintro ⟨s1, s2, s3, s4⟩ ⟨h3, h4, h5, h6⟩
    dsimp only at *
    unfold m_S_randomFormat_b1
    exact ok.iff (by omega) (ok.some ⟨h4.mono (by omega), h5.mono (by omega), h6⟩)
  · rintro ⟨e1, e2, e3⟩ ⟨h3, h4, h5⟩
    exact ok.some ⟨h3, h4, by dsimp only at *; omega⟩
theorem chgB' {r : S_reader} {f : List I_Column} {c : Int} (h : RdB r c) (hc : c ≤ 600000000) (hf : bN f) (hfl : f.length ≤ 7) : ok (m_S_randomChange N r f) fun x => RdB x.2 (c + 42) ∧ bV x.1.column.default := by
  unfold m_S_randomChange
  refine ok.call (P := fun o => match o with | .inl e => RdB ⟨e.1, e.2⟩ (c + 42) | .inr v => RdB v.2 (c + 42) ∧ bV v.1.column.default) (ok.each 6 (fun i s => s.1 = (i : Int) ∧ RdB ⟨s.2.1, s.2.2⟩ (c + 7 * i)) _ ?_ ?_ N 0 _ (Nat.zero_le _) ⟨rfl, h.mono (by omega)⟩ (by omega)) ?_
  · rintro i ⟨s1, s2, s3⟩ hi ⟨h3, h4⟩
    dsimp only at *
    unfold m_S_randomChange_b1
    refine ok.ift (by omega) (ok.call (pickB h4 (by omega) (by omega)) ?_)
    rintro ⟨x, r2⟩ ⟨h5, h6, h7⟩
    dsimp only at *
    refine ok.chk (by omega) (ok.chk (by omega) (ok.call (pickB h5 (by omega) (by omega)) ?_))
    rintro ⟨y, r3⟩ ⟨h8, h9, h10⟩
    dsimp only at *
    refine ok.ite (fun hk => ok.call (colB h8 (by omega)) ?_) fun hk => ok.eq (chFS hN (by omega) hf (by show ByteArray.empty.size ≤ _; decide)) ?_
    · rintro ⟨z, r4⟩ ⟨h11, h12⟩
      dsimp only at *
      refine ok.eq (chFS hN (by omega) hf h12.2) (ok.cond (fun _ => ok.some ⟨h11.mono (by omega), h12⟩) fun _ => ok.chk (by omega) (ok.some ⟨by dsimp only; omega, h11.mono (by omega)⟩))
    · refine ok.cond (fun _ => ok.some ⟨h8.mono (by omega), zV_b⟩) fun _ => ok.chk (by omega) (ok.some ⟨by dsimp only; omega, h8.mono (by omega)⟩)
  · rintro ⟨s1, s2, s3⟩ ⟨h3, h4⟩
    dsimp only at *
    unfold m_S_randomChange_b1
    exact ok.iff (by omega) (ok.some (h4.mono (by omega)))
  · rintro (⟨e1, e2⟩ | v) h3
    · exact ok.some ⟨h3, zV_b⟩
    · exact ok.some h3
omit hN in
theorem bCs_snoc {l : List I_Change} {x : I_Change} {n : Nat} (h : l.length ≤ n ∧ ∀ c ∈ l, bV c.column.default) (hx : bV x.column.default) : (l ++ [x]).length ≤ n + 1 ∧ ∀ c ∈ l ++ [x], bV c.column.default := ⟨by simp; omega, fun y hy => by
  rcases List.mem_append.1 hy with h1 | h1
  · exact h.2 y h1
  · rw [List.mem_singleton.1 h1]; exact hx⟩
theorem rchainB {r : S_reader} {c : Int} (h : RdB r c) (hc : c ≤ 500000000) : ok (m_S_randomChain N r) fun x => RdB x.2.2 (c + 400) ∧ (bFm x.1 5 ∧ 1 ≤ x.1.length) ∧ (x.2.1.length ≤ 8 ∧ ∀ c ∈ x.2.1, bV c.column.default) ∧ gC x.1 x.2.1 := by
  unfold m_S_randomChain
  refine ok.call (fmtB hN h (by omega)) ?_
  rintro ⟨f, r1⟩ ⟨h1, h2, h2'⟩
  refine ok.call (oneB h1 (by omega) (by simp) (by simp)) ?_
  rintro ⟨n, r2⟩ ⟨h3, h4⟩
  have hn : 0 ≤ n ∧ n ≤ 8 := by
    simp only [List.mem_cons, List.not_mem_nil, or_false] at h4
    omega
  obtain ⟨n, rfl⟩ : ∃ m : Nat, n = m := ⟨n.toNat, by omega⟩
  dsimp only at *
  refine ok.call (P := fun e => RdB ⟨e.1, e.2.1⟩ (c + 400) ∧ (e.2.2.length ≤ 8 ∧ ∀ c ∈ e.2.2, bV c.column.default) ∧ gC f e.2.2) (ok.each n (fun i s => s.1 = fA f s.2.2.2.2 s.2.2.2.2.length ∧ s.2.1 = ((n - i : Nat) : Int) ∧ RdB ⟨s.2.2.1, s.2.2.2.1⟩ (c + 27 + 42 * i) ∧ (s.2.2.2.2.length ≤ i ∧ ∀ c ∈ s.2.2.2.2, bV c.column.default) ∧ gC f s.2.2.2.2) _ ?_ ?_ N 0 _ (Nat.zero_le _) ⟨rfl, rfl, h3.mono (by omega), ⟨Nat.zero_le _, fun c h => by cases h⟩, fun i h => absurd h (Nat.not_lt_zero _)⟩ (by omega)) ?_
  · rintro i ⟨s1, s2, s3, s4, s5⟩ hi ⟨h5, h6, h7, h8, h9⟩
    dsimp only at *
    subst h5
    have hl6 := len_fA (B := 5) h2.1 (by omega) h9 s5.length (Nat.le_refl _)
    have hbn := bN_fA h2.bN (by have := h2.1; omega) s5.length (Nat.le_refl _) fun k hk _ => h9 k hk
    unfold m_S_randomChain_b1
    refine ok.ift (by omega) ?_
    refine ok.call (chgB' hN h7 (by omega) hbn.1 (by omega)) ?_
    rintro ⟨x, r3⟩ ⟨h10, h11⟩
    dsimp only at *
    refine ok.eq (chFS hN hbn.2 hbn.1 h11.2) ?_
    by_cases hp : poss (fA f s5 s5.length) x
    · rw [if_pos hp]
      have h12 := bCs_snoc h8 h11
      refine ok.bt rfl (ok.app (by have := h12.1; simp at this ⊢; omega) (ok.chk (by omega) (ok.some ⟨?_, by dsimp only; omega, h10.mono (by omega), h12, gC_app.2 ⟨h9, hp⟩⟩)))
      show chF _ _ = fA f (s5 ++ [x]) (s5 ++ [x]).length
      rw [fA_snoc]
    · rw [if_neg hp]
      exact ok.bf rfl (ok.chk (by omega) (ok.some ⟨rfl, by dsimp only; omega, h10.mono (by omega), ⟨by have := h8.1; dsimp only; omega, h8.2⟩, h9⟩))
  · rintro ⟨s1, s2, s3, s4, s5⟩ ⟨h5, h6, h7, h8, h9⟩
    dsimp only at *
    unfold m_S_randomChain_b1
    exact ok.iff (by omega) (ok.some ⟨h7.mono (by omega), ⟨by have := h8.1; dsimp only; omega, h8.2⟩, h9⟩)
  · rintro ⟨e1, e2, e3⟩ ⟨h5, h6, h7⟩
    exact ok.some ⟨h5, ⟨h2, h2'⟩, h6, h7⟩
omit hN in
theorem anyvalB {r : S_reader} {c : Int} (h : RdB r c) (hc : c ≤ 800000000) : ok (m_S_anyValue N r) fun x => RdB x.2 (c + 6) ∧ bV x.1 := by
  unfold m_S_anyValue
  refine ok.call (valB h (by omega)) ?_
  rintro ⟨v, r1⟩ ⟨h1, h2⟩
  refine ok.call (pickB h1 (by omega) (by omega)) ?_
  rintro ⟨y, r2⟩ ⟨h4, h5, h6⟩
  refine ok.ite (fun _ => ok.call (oneB h4 (by omega) (by simp) (by simp)) ?_) fun _ => ok.ite (fun _ => ok.call (ofB h4 (by omega) (by simp) (by simp)) ?_) fun _ => ok.ite (fun _ => ok.call (oneB h4 (by omega) (by simp) (by simp)) ?_) fun _ => ok.some ⟨h4.mono (by omega), h2⟩
  · rintro ⟨z, r3⟩ ⟨h7, h8⟩
    refine ok.some ⟨h7.mono (by omega), ⟨?_, h2.2⟩⟩
    dsimp only at *
    simp only [List.mem_cons, List.not_mem_nil, or_false] at h8
    omega
  · rintro ⟨z, r3⟩ ⟨h7, h8⟩
    exact ok.some ⟨h7.mono (by omega), ⟨h2.1, of_size (by rfl) h8⟩⟩
  · rintro ⟨z, r3⟩ ⟨h7, h8⟩
    exact ok.some ⟨h7.mono (by omega), h2⟩
omit hN in
theorem bFm_set {f : List I_Column} {n i : Nat} {x : I_Column} (h : bFm f n) (hx : bV x.default) : bFm (f.set i x) n := ⟨by rw [List.length_set]; exact h.1, fun y hy => by
  rcases List.mem_or_eq_of_mem_set hy with h1 | h1
  · exact h.2 y h1
  · rw [h1]; exact hx⟩
theorem anyfmtB {r : S_reader} {c : Int} (h : RdB r c) (hc : c ≤ 500000000) : ok (m_S_anyFormat N r) fun x => RdB x.2 (c + 60) ∧ bFm x.1 6 := by
  unfold m_S_anyFormat
  refine ok.call (fmtB hN h (by omega)) ?_
  rintro ⟨f, r1⟩ ⟨h1, h2, h2'⟩
  refine ok.call (pickB h1 (by omega) (by omega)) ?_
  rintro ⟨y, r2⟩ ⟨h4, h5, h6⟩
  dsimp only at *
  refine ok.ite (fun _ => ok.call (oneB h4 (by omega) (by simp) (by simp)) ?_) fun _ => ok.ite (fun _ => ok.call (anyvalB h4 (by omega)) ?_) fun _ => ok.ite (fun _ => ok.some ⟨h4.mono (by omega), Nat.zero_le _, fun c h => by cases h⟩) fun _ => ok.ite (fun _ => ?_) fun _ => ok.some ⟨h4.mono (by omega), h2.mono (by omega)⟩
  · rintro ⟨z, r3⟩ ⟨h7, h8⟩
    refine ok.eq (ixI_eq (n := 0) rfl (by omega)) (ok.some ⟨h7.mono (by omega), bFm_set (h2.mono (by omega)) (show bV (f[0]'(by omega)).default from h2.2 _ (List.getElem_mem _))⟩)
  · rintro ⟨z, r3⟩ ⟨h7, h8⟩
    refine ok.eq (ixI_eq (n := 0) rfl (by omega)) (ok.some ⟨h7.mono (by omega), bFm_set (h2.mono (by omega)) h8⟩)
  · have hl := h2.1
    refine ok.call (P := fun e => RdB ⟨e.1, e.2.1⟩ (c + 60) ∧ bFm e.2.2 6) (ok.each (6 - f.length) (fun i s => RdB ⟨s.1, s.2.1⟩ (c + 27 + 5 * i) ∧ bFm s.2.2 (f.length + i) ∧ s.2.2.length = f.length + i) _ ?_ ?_ N 0 _ (Nat.zero_le _) ⟨h4.mono (by omega), ⟨Nat.le_refl _, h2.2⟩, rfl⟩ (by omega)) ?_
    · rintro i ⟨s1, s2, s3⟩ hi ⟨h7, h8, h9⟩
      dsimp only at *
      unfold m_S_anyFormat_b1
      refine ok.ift (by omega) (ok.call (colB h7 (by omega)) ?_)
      rintro ⟨x, r3⟩ ⟨h10, h11⟩
      dsimp only at *
      exact ok.app (by simp; omega) (ok.some ⟨h10.mono (by omega), bFm_snoc h8 h11, by simp; omega⟩)
    · rintro ⟨s1, s2, s3⟩ ⟨h7, h8, h9⟩
      dsimp only at *
      unfold m_S_anyFormat_b1
      exact ok.iff (by omega) (ok.some ⟨h7.mono (by omega), h8.mono (by omega)⟩)
    · rintro ⟨e1, e2, e3⟩ ⟨h7, h8⟩
      exact ok.some ⟨h7, h8⟩
theorem anychgB {r : S_reader} {f : List I_Column} {c : Int} (h : RdB r c) (hc : c ≤ 500000000) (hf : bN f) (hfl : f.length ≤ 6) : ok (m_S_anyChange N r f) fun x => RdB x.2 (c + 50) ∧ bV x.1.column.default := by
  unfold m_S_anyChange
  refine ok.eq (copyS (by omega)) (ok.app (by simp; omega) (ok.eq (subM_eq (by simp; omega)) ?_))
  refine ok.call (chgB' hN h (by omega) (f := _) ?_ (by simp; omega)) ?_
  · intro x hx
    have hx' := List.mem_of_mem_drop (List.mem_of_mem_take hx)
    rcases List.mem_append.1 hx' with h1 | h1
    · exact hf x h1
    · rw [List.mem_singleton.1 h1]; exact ⟨by decide, by decide⟩
  rintro ⟨y, r2⟩ ⟨h4, h5⟩
  refine ok.call (pickB h4 (by omega) (by omega)) ?_
  rintro ⟨z, r3⟩ ⟨h6, h7⟩
  dsimp only at *
  refine ok.ite (fun _ => ok.call (oneB h6 (by omega) (by simp) (by simp)) ?_) fun _ => ok.ite (fun _ => ok.chk (by omega) (ok.call (oneB h6 (by omega) (by simp) (by simp)) ?_)) fun _ => ok.some ⟨h6.mono (by omega), h5⟩
  · rintro ⟨z, r3⟩ ⟨h7, h8⟩
    exact ok.some ⟨h7.mono (by omega), h5⟩
  · rintro ⟨z, r3⟩ ⟨h7, h8⟩
    exact ok.some ⟨h7.mono (by omega), h5⟩
theorem anychainB {r : S_reader} {c : Int} (h : RdB r c) (hc : c ≤ 400000000) : ok (m_S_anyChain N r) fun x => RdB x.2.2 (c + 500) ∧ bFm x.1 6 ∧ (x.2.1.length ≤ 9 ∧ ∀ c ∈ x.2.1, bV c.column.default) := by
  unfold m_S_anyChain
  refine ok.call (rchainB hN h (by omega)) ?_
  rintro ⟨f, l, r1⟩ ⟨h1, h2, h3, h3'⟩
  refine ok.call (pickB h1 (by omega) (by omega)) ?_
  rintro ⟨y, r2⟩ ⟨h4, h5, h6⟩
  dsimp only at *
  have hl8 := h3.1
  refine ok.ite (fun _ => ok.call (anyfmtB hN h4 (by omega)) ?_) fun _ => ok.ite (fun _ => ok.call (anychgB hN h4 (by omega) h2.1.bN (by have := h2.1.1; omega)) ?_) fun _ => ok.ite (fun _ => ?_) fun _ => ok.some ⟨h4.mono (by omega), h2.1.mono (by omega), by dsimp only; omega, h3.2⟩
  · rintro ⟨z, r3⟩ ⟨h7, h8⟩
    exact ok.some ⟨h7.mono (by omega), h8, by dsimp only; omega, h3.2⟩
  · rintro ⟨z, r3⟩ ⟨h7, h8⟩
    have h9 := bCs_snoc h3 h8
    exact ok.app (by simp; omega) (ok.some ⟨h7.mono (by omega), h2.1.mono (by omega), h9⟩)
  · refine ok.call (P := fun e => e.length ≤ 9 ∧ ∀ c ∈ e, bV c.column.default) (ok.each (9 - l.length) (fun i s => (s.length ≤ l.length + i ∧ ∀ c ∈ s, bV c.column.default) ∧ s.length = l.length + i) _ ?_ ?_ N 0 _ (Nat.zero_le _) ⟨⟨Nat.le_refl _, h3.2⟩, rfl⟩ (by omega)) ?_
    · rintro i s hi ⟨h7, h8⟩
      unfold m_S_anyChain_b1
      have h9 := bCs_snoc h7 (x := I_Change.mk (3 : Int) (0 : Int) (I_Column.mk (0 : Int) (I_Value.mk (0 : Int) (0 : Int) ByteArray.empty))) zV_b
      exact ok.ift (by omega) (ok.app (by simp; omega) (ok.some ⟨h9, by simp; omega⟩))
    · rintro s ⟨h7, h8⟩
      unfold m_S_anyChain_b1
      exact ok.iff (by omega) (ok.some ⟨by omega, h7.2⟩)
    · rintro e h7
      exact ok.some ⟨h4.mono (by omega), h2.1.mono (by omega), h7⟩
theorem rrowB {r : S_reader} {f : List I_Column} {c : Int} (h : RdB r c) (hc : c ≤ 500000000) (hfl : f.length ≤ 6) : ok (m_S_randomRow N r f) fun x => RdB x.2 (c + 24) ∧ x.1.length ≤ 6 ∧ ∀ v ∈ x.1, bV v := by
  unfold m_S_randomRow
  refine ok.call (P := fun e => RdB ⟨e.1, e.2.1⟩ (c + 24) ∧ e.2.2.length ≤ 6 ∧ ∀ v ∈ e.2.2, bV v) (ok.each f.length (fun i s => s.1 = (i : Int) ∧ RdB ⟨s.2.1, s.2.2.1⟩ (c + 4 * i) ∧ (s.2.2.2.length ≤ i ∧ ∀ v ∈ s.2.2.2, bV v)) _ ?_ ?_ N 0 _ (Nat.zero_le _) ⟨rfl, h.mono (by omega), Nat.zero_le _, fun c h => by cases h⟩ (by omega)) ?_
  · rintro i ⟨s1, s2, s3, s4⟩ hi ⟨h3, h4, h5⟩
    dsimp only at *
    subst h3
    unfold m_S_randomRow_b1
    refine ok.ift (by omega) (ok.eq (ixI_nat hi) (ok.call (valB h4 (by omega)) ?_))
    rintro ⟨x, r2⟩ ⟨h7, h8⟩
    dsimp only at *
    have := h5.1
    refine ok.app (by simp; omega) (ok.chk (by omega) (ok.some ⟨by simp, h7.mono (by omega), bR_snoc h5 h8⟩))
  · rintro ⟨s1, s2, s3, s4⟩ ⟨h3, h4, h5⟩
    dsimp only at *
    subst h3
    unfold m_S_randomRow_b1
    exact ok.iff (by omega) (ok.some ⟨h4.mono (by omega), by have := h5.1; dsimp only; omega, h5.2⟩)
  · rintro ⟨e1, e2, e3⟩ h3
    exact ok.some h3
theorem anyrowB {r : S_reader} {c : Int} (h : RdB r c) (hc : c ≤ 500000000) : ok (m_S_anyRow N r) fun x => RdB x.2 (c + 40) ∧ x.1.length ≤ 6 ∧ ∀ v ∈ x.1, bV v := by
  unfold m_S_anyRow
  refine ok.call (oneB h (by omega) (by simp) (by simp)) ?_
  rintro ⟨n, r2⟩ ⟨h3, h4⟩
  have hn : 0 ≤ n ∧ n ≤ 6 := by
    simp only [List.mem_cons, List.not_mem_nil, or_false] at h4
    omega
  obtain ⟨n, rfl⟩ : ∃ m : Nat, n = m := ⟨n.toNat, by omega⟩
  dsimp only at *
  refine ok.call (P := fun e => RdB ⟨e.1, e.2.1⟩ (c + 25) ∧ e.2.2.length ≤ 6 ∧ ∀ v ∈ e.2.2, bV v) (ok.each n (fun i s => s.1 = ((n - i : Nat) : Int) ∧ RdB ⟨s.2.1, s.2.2.1⟩ (c + 1 + 4 * i) ∧ (s.2.2.2.length ≤ i ∧ ∀ v ∈ s.2.2.2, bV v)) _ ?_ ?_ N 0 _ (Nat.zero_le _) ⟨rfl, h3.mono (by omega), Nat.zero_le _, fun c h => by cases h⟩ (by omega)) ?_
  · rintro i ⟨s1, s2, s3, s4⟩ hi ⟨h3, h4, h5⟩
    dsimp only at *
    unfold m_S_anyRow_b1
    refine ok.ift (by omega) (ok.call (valB h4 (by omega)) ?_)
    rintro ⟨x, r2⟩ ⟨h7, h8⟩
    dsimp only at *
    have := h5.1
    refine ok.app (by simp; omega) (ok.chk (by omega) (ok.some ⟨by dsimp only; omega, h7.mono (by omega), bR_snoc h5 h8⟩))
  · rintro ⟨s1, s2, s3, s4⟩ ⟨h3, h4, h5⟩
    dsimp only at *
    unfold m_S_anyRow_b1
    exact ok.iff (by omega) (ok.some ⟨h4.mono (by omega), by have := h5.1; dsimp only; omega, h5.2⟩)
  · rintro ⟨e1, e2, e3⟩ ⟨h4, h5, h6⟩
    dsimp only at *
    show ok (m_S_anyRow_k1 N _ _ _) _
    unfold m_S_anyRow_k1
    refine ok.ite (fun h0 => ok.call (pickB h4 (by omega) (by omega)) ?_) fun h0 => ok.some ⟨h4.mono (by omega), h5, h6⟩
    rintro ⟨y, r3⟩ ⟨h7, h8, h9⟩
    refine ok.ite (fun _ => ok.call (pickB h7 (by omega) (by omega)) ?_) fun _ => ok.some ⟨h7.mono (by omega), h5, h6⟩
    rintro ⟨z, r4⟩ ⟨h10, h11, h12⟩
    dsimp only at *
    refine ok.call (anyvalB h10 (by omega)) ?_
    rintro ⟨v, r5⟩ ⟨h13, h14⟩
    dsimp only at *
    refine ok.ix (by omega) (by omega) fun m hm he => ok.some ⟨h13.mono (by omega), by rw [List.length_set]; exact h5, fun x hx => ?_⟩
    rcases List.mem_or_eq_of_mem_set hx with h1 | h1
    · exact h6 x h1
    · rw [h1]; exact h14
end
end V
end Go.Proofs.YthhlkedkeefgnaaDoor
namespace Go.Proofs.YthhlkedkeefgnaaDoor
namespace V
set_option linter.unusedVariables false
set_option linter.unusedSimpArgs false
set_option maxHeartbeats 1000000
def rOk (l : List I_Tagged) (n : Nat) : Prop := l.length ≤ n ∧ ∀ r ∈ l, r.row.length ≤ 6 ∧ ∀ v ∈ r.row, bV v
theorem rOk.snoc {l : List I_Tagged} {n : Nat} {x : I_Tagged} (h : rOk l n) (hx : x.row.length ≤ 6 ∧ ∀ v ∈ x.row, bV v) : rOk (l ++ [x]) (n + 1) := ⟨by have := h.1; simp; omega, fun y hy => by
  rcases List.mem_append.1 hy with h1 | h1
  · exact h.2 y h1
  · rw [List.mem_singleton.1 h1]; exact hx⟩
/-- A table that is drawn is small. -/
def dT (t : I_Table) : Prop := bFm t.first 6 ∧ (t.changes.length ≤ 9 ∧ ∀ c ∈ t.changes, bV c.column.default) ∧ rOk t.rows 11
theorem dT.bT {t : I_Table} (h : dT t) : bT t := ⟨h.1.bS (by omega), ⟨by have := h.2.1.1; omega, fun c hc => (h.2.1.2 c hc).2⟩, by have := h.2.2.1; omega, fun i hi => by
  have := h.2.2.2 _ (List.getElem_mem hi)
  exact ⟨by omega, fun v hv => (this.2 v hv).2⟩⟩
section
variable {N : Nat} (hN : 100000000 ≤ N)
include hN
theorem tabB {r : S_reader} {c : Int} (h : RdB r c) (hc : c ≤ 1000) : ok (m_S_anyTable2 N r) fun x => RdB x.2 (c + 3000) ∧ dT x.1 := by
  unfold m_S_anyTable2
  refine ok.call (rchainB hN h (by omega)) ?_
  rintro ⟨f, l, r1⟩ ⟨h1, h2, h3, hg⟩
  dsimp only at *
  have hl8 := h3.1
  have hf5 := h2.1.1
  refine ok.eq (formatsS hN (by omega) h2.1.bN ⟨by omega, fun c hc => (h3.2 c hc).2⟩) ?_
  rw [if_pos hg]
  refine ok.call (oneB h1 (by omega) (by simp) (by simp)) ?_
  rintro ⟨n, r2⟩ ⟨h4, h5⟩
  have hn : 0 ≤ n ∧ n ≤ 10 := by
    simp only [List.mem_cons, List.not_mem_nil, or_false] at h5
    omega
  obtain ⟨n, rfl⟩ : ∃ m : Nat, n = m := ⟨n.toNat, by omega⟩
  have hlen := chs_len f l
  have hrow : ∀ (r : S_reader) (g : List I_Column) (d : Int), RdB r d → d ≤ 100000 → g.length ≤ 6 → ok (m_S_randomRow N r g) fun x => RdB x.2 (d + 24) ∧ x.1.length ≤ 6 ∧ ∀ v ∈ x.1, bV v := fun r g d hr hd hg => rrowB hN hr (by omega) hg
  refine ok.call (P := fun e => RdB ⟨e.1, e.2.1⟩ (c + 401 + 250) ∧ rOk e.2.2 10) (ok.each n (fun i s => s.1 = ((n - i : Nat) : Int) ∧ RdB ⟨s.2.1, s.2.2.1⟩ (c + 401 + 25 * i) ∧ rOk s.2.2.2 i) _ ?_ ?_ N 0 _ (Nat.zero_le _) ⟨rfl, h4.mono (by omega), Nat.zero_le _, fun c h => by cases h⟩ (by omega)) ?_
  · rintro i ⟨s1, s2, s3, s4⟩ hi ⟨h6, h7, h8⟩
    dsimp only at *
    unfold m_S_anyTable2_b1
    refine ok.ift (by omega) (ok.call (pickB h7 (by omega) (by dsimp only; omega)) ?_)
    rintro ⟨x, r3⟩ ⟨h9, h10, h11⟩
    dsimp only at *
    refine ok.eq (chs_ix (n := x.toNat) (by omega) (by omega)) (ok.call (hrow _ _ _ h9 (by omega) (len_fA (by omega) (by omega) hg _ (by omega))) ?_)
    rintro ⟨y, r4⟩ ⟨h12, h13⟩
    dsimp only at *
    have := h8.1
    exact ok.app (by simp; omega) (ok.chk (by omega) (ok.some ⟨by dsimp only; omega, h12.mono (by omega), h8.snoc h13⟩))
  · rintro ⟨s1, s2, s3, s4⟩ ⟨h6, h7, h8⟩
    dsimp only at *
    unfold m_S_anyTable2_b1
    exact ok.iff (by omega) (ok.some ⟨h7.mono (by omega), by have := h8.1; dsimp only; omega, h8.2⟩)
  · rintro ⟨e1, e2, e3⟩ ⟨h6, h7⟩
    dsimp only at *
    show ok (m_S_anyTable2_k1 N _ _ _ _ _) _
    unfold m_S_anyTable2_k1
    have h71 := h7.1
    refine ok.call (pickB h6 (by omega) (by omega)) ?_
    rintro ⟨y, r3⟩ ⟨h8, h9, h10⟩
    dsimp only at *
    refine ok.ite (fun _ => ok.call (anychainB hN h8 (by omega)) ?_) fun _ => ok.ite (fun _ => ok.call (oneB h8 (by omega) (by simp) (by simp)) ?_) fun _ => ok.ite (fun _ => ?_) fun _ => ok.some ⟨h8.mono (by omega), h2.1.mono (by omega), ⟨by dsimp only; omega, h3.2⟩, by dsimp only; omega, h7.2⟩
    · rintro ⟨f', l', r4⟩ ⟨h11, h12, h13⟩
      exact ok.some ⟨h11.mono (by omega), h12, h13, by dsimp only; omega, h7.2⟩
    · rintro ⟨z, r4⟩ ⟨h11, h12⟩
      refine ok.call (anyrowB hN h11 (by omega)) ?_
      rintro ⟨w, r5⟩ ⟨h13, h14⟩
      dsimp only at *
      exact ok.app (by simp; omega) (ok.some ⟨h13.mono (by omega), h2.1.mono (by omega), ⟨by dsimp only; omega, h3.2⟩, h7.snoc h14⟩)
    · refine ok.call (P := fun e => RdB ⟨e.1, e.2.1⟩ (c + 652 + 275) ∧ rOk e.2.2 11) (ok.each (11 - e3.length) (fun i s => RdB ⟨s.1, s.2.1⟩ (c + 652 + 25 * i) ∧ rOk s.2.2 (e3.length + i) ∧ s.2.2.length = e3.length + i) _ ?_ ?_ N 0 _ (Nat.zero_le _) ⟨h8.mono (by omega), ⟨Nat.le_refl _, h7.2⟩, rfl⟩ (by omega)) ?_
      · rintro i ⟨s1, s2, s3⟩ hi ⟨h11, h12, h13⟩
        dsimp only at *
        unfold m_S_anyTable2_b2
        refine ok.ift (by omega) (ok.call (hrow _ _ _ h11 (by omega) (by dsimp only; omega)) ?_)
        rintro ⟨x, r4⟩ ⟨h14, h15⟩
        dsimp only at *
        exact ok.app (by simp; omega) (ok.some ⟨h14.mono (by omega), h12.snoc h15, by simp; omega⟩)
      · rintro ⟨s1, s2, s3⟩ ⟨h11, h12, h13⟩
        dsimp only at *
        unfold m_S_anyTable2_b2
        exact ok.iff (by omega) (ok.some ⟨h11.mono (by omega), by have := h12.1; dsimp only; omega, h12.2⟩)
      · rintro ⟨e1, e2, e3⟩ ⟨h11, h12⟩
        exact ok.some ⟨RdB.mono h11 (by omega), h2.1.mono (by omega), ⟨by dsimp only; omega, h3.2⟩, h12⟩
theorem drawT (l : List UInt8) : ok (m_S_newReader N l) fun r => ok (m_S_anyTable2 N r) fun x => RdB x.2 3000 ∧ dT x.1 := (newB l).mono fun r h => (tabB hN h (by omega)).mono fun x hx => ⟨hx.1.mono (by omega), hx.2⟩
theorem drawV (l : List UInt8) : ok (m_S_DrawValidTable N l) bT := by
  unfold m_S_DrawValidTable
  exact ok.call (drawT hN l) fun r h => ok.call h fun x hx => ok.some hx.2.bT
theorem drawO (l : List UInt8) : ok (m_S_DrawOldRows N l) bT := by
  unfold m_S_DrawOldRows
  exact ok.call (drawT hN l) fun r h => ok.call h fun x hx => ok.some hx.2.bT
theorem drawR (l : List UInt8) : ok (m_S_DrawTableRows N l) bT := by
  unfold m_S_DrawTableRows
  exact ok.call (drawT hN l) fun r h => ok.call h fun x hx => ok.some hx.2.bT
end
end V
end Go.Proofs.YthhlkedkeefgnaaDoor
namespace Go.Proofs.YthhlkedkeefgnaaDoor
namespace V
set_option linter.unusedVariables false
set_option linter.unusedSimpArgs false
set_option maxHeartbeats 1000000
theorem tV_take {t : I_Table} (h : tV t) (k : Nat) : tV ⟨t.first, t.changes, t.rows.take k⟩ := by
  refine ⟨h.1, by show (t.rows.take k).length ≤ 10; rw [List.length_take]; have := h.2.1; omega, fun i hi => ?_⟩
  have hi' : i < (t.rows.take k).length := hi
  have hi'' := hi'
  rw [List.length_take] at hi''
  show rV t ((t.rows.take k)[i]'hi')
  rw [List.getElem_take]
  exact h.2.2 i (by omega)
theorem rwT_old {t : I_Table} (h : tV t) (n : Nat) : oldN (rwT t n) = ((t.rows.countP (oldB t) - n : Nat) : Int) := by
  unfold oldN
  rw [if_pos (rwT_v h n)]
  show ((rwL (oldB t) (toL t) n t.rows).countP (oldB t) : Int) = _
  rw [rwL_count _ _ (toL_old t)]
theorem tR_len {t : I_Table} (h : tV t) : (tR t).length = t.rows.length := by unfold tR; rw [if_pos h, List.length_map]
theorem tR_get {t : I_Table} (h : tV t) {i : Nat} (hi : i < (tR t).length) (hi' : i < t.rows.length) : (tR t)[i] = adv t t.rows[i] := by
  have e : tR t = t.rows.map (adv t) := by unfold tR; rw [if_pos h]
  simp only [e, List.getElem_map]
theorem tR_ix {t : I_Table} (h : tV t) {i : Nat} (hi : i < t.rows.length) : ixI (tR t) (i : Int) = some (adv t t.rows[i]) := by
  have hl := tR_len h
  rw [ixI_nat (by omega), tR_get h (by omega) hi]
theorem adv_len {t : I_Table} (h : tV t) {i : Nat} (hi : i < t.rows.length) : (adv t t.rows[i]).length ≤ 5 := by
  have := adv_fit h (h.2.2 i hi)
  have := this.1
  have := (fL_v h).1
  omega
theorem tR_bd (t : I_Table) : (tR t).length ≤ 10 ∧ ∀ i (h : i < (tR t).length), (tR t)[i].length ≤ 5000000 := by
  by_cases h : tV t
  · have hl := tR_len h
    have := h.2.1
    refine ⟨by omega, fun i hi => ?_⟩
    rw [tR_get h hi (by omega)]
    have := adv_len h (i := i) (by omega); omega
  · have e : tR t = [] := by unfold tR; rw [if_neg h]
    rw [e]
    exact ⟨Nat.zero_le _, fun i hi => absurd hi (Nat.not_lt_zero _)⟩
theorem oldN_lo {t : I_Table} (h : ¬ oldN t < 0) : tV t := by
  refine Classical.byContradiction fun hn => h ?_
  unfold oldN; rw [if_neg hn]; decide
theorem oldN_v {t : I_Table} (h : tV t) : oldN t = (t.rows.countP (oldB t) : Int) := by unfold oldN; rw [if_pos h]
section
variable {N : Nat} (hN : 100000000 ≤ N)
include hN
theorem eqRows' (t : I_Table) : m_L_equalRows N (tR t) (tR t) = some true := eqRows hN (by have := (tR_bd t).1; omega) (tR_bd t).2
theorem lawFnValidTable (l : List UInt8) (sl : Szd.szd l) : m_L_FnValidTable N l = some true := by
  refine ok.val ?_
  unfold m_L_FnValidTable
  refine ok.ite (fun _ => ok.some rfl) fun hl => ok.call (drawV hN l) fun t hb => ?_
  have hrl := hb.rl
  refine ok.eq (validTI hN hb) (ok.eq (validTS' hN hb) (ok.bt (beq_self_eq_true _) (ok.ite (fun hv => ?_) fun hv => ok.eq (validTS' hN hb) (ok.some (beq_self_eq_true _)))))
  refine ok.ite (fun h0 => ok.eq (validTS' hN hb) (ok.some (beq_self_eq_true _))) fun h0 => ok.chk (by omega) (ok.eq (subM_eq (by omega)) ?_)
  have e : (t.rows.drop (0 : Int).toNat).take (((t.rows.length : Int) - 1).toNat - (0 : Int).toNat) = t.rows.take (((t.rows.length : Int) - 1).toNat - (0 : Int).toNat) := by simp
  rw [e]
  have hv' := tV_take hv (((t.rows.length : Int) - 1).toNat - (0 : Int).toNat)
  exact ok.eq (validTI hN (tV_bT hv' hb.c)) (ok.some (decide_eq_true hv'))
theorem lawFnOldRows (l : List UInt8) (sl : Szd.szd l) : m_L_FnOldRows N l = some true := by
  refine ok.val ?_
  unfold m_L_FnOldRows
  refine ok.ite (fun _ => ok.some rfl) fun hl => ok.call (drawO hN l) fun t hb => ?_
  have hrl := hb.rl
  refine ok.eq (oldI hN hb) (ok.eq (oldS hN hb) (ok.ift rfl (ok.ite (fun h => ok.eq (oldS hN hb) (ok.some (decide_eq_true rfl))) fun h => ?_)))
  have hv := oldN_lo h
  have hle := List.countP_le_length (p := oldB t) (l := t.rows)
  have ho := oldN_v hv
  rw [ho]
  refine ok.eq (rewI hN hb (by omega)) ?_
  rw [if_pos ⟨hv, by omega⟩, Int.toNat_natCast]
  refine ok.eq (oldI hN (tV_bT (rwT_v hv _) hb.c)) ?_
  rw [rwT_old hv]
  refine ok.ift (by omega) (ok.ift (by omega) (ok.ite (fun _ => ok.some rfl) fun hc => ok.some (decide_eq_true ?_)))
  have : t.rows.countP (oldB t) = 0 := by
    rw [List.countP_eq_zero]
    intro r hr
    obtain ⟨i, hi, rfl⟩ := List.mem_iff_getElem.1 hr
    have h1 := (hv.2.2 i hi).1
    have h2 := (hv.2.2 i hi).2.1
    unfold oldB; rw [decide_eq_true_eq]; omega
  omega
theorem lawFnTableRows (l : List UInt8) (sl : Szd.szd l) : m_L_FnTableRows N l = some true := by
  refine ok.val ?_
  unfold m_L_FnTableRows
  refine ok.ite (fun _ => ok.some rfl) fun hl => ok.call (drawR hN l) fun t hb => ?_
  refine ok.eq (rowsI hN hb) (ok.eq (rowsS hN hb) (ok.eq (eqRows' hN t) (ok.bt rfl (ok.ite (fun h0 => ok.eq (rowsS hN hb) (ok.eq (eqRows' hN t) (ok.some rfl))) fun h0 => ok.eq (chainI hN hb.f hb.c) ?_))))
  have hv : tV t := Classical.byContradiction fun hn => h0 (by unfold tR; rw [if_neg hn]; rfl)
  rw [if_pos hv.1]
  have hlen := chs_len t.first t.changes
  have hl' := tR_len hv
  have h8 := hv.1.2.1
  have h10 := hv.2.1
  refine ok.eq (loop_self (n := t.rows.length) (by omega) (fun i hi => ?_) ?_) (ok.some (decide_eq_true (by rw [hl'])))
  · show m_L_FnTableRows_b1 N t (tR t) _ (i : Int) = _
    unfold m_L_FnTableRows_b1
    have hr := hv.2.2 i hi
    have h1 := hr.1
    have h2 := hr.2.1
    have hf := adv_fit hv hr
    refine ok.val (ok.ift (by omega) (ok.ift (by omega) (ok.eq (ixI_nat hi) (ok.eq (ixI_nat hi) (ok.eq (readI hN hv.1 hb.c (n := t.rows[i].tag.toNat) (by omega) (by omega) hr.2.2) (ok.bt rfl (ok.bt rfl (ok.eq (tR_ix hv hi) (ok.eq (eqRow hN (r := adv t t.rows[i]) (by have := adv_len hv hi; omega)) (ok.bt rfl (ok.chk (by dsimp only; omega) (ok.eq (chs_ix (n := t.changes.length) (by dsimp only; omega) (Nat.le_refl _)) (ok.eq (tR_ix hv hi) (ok.eq (fitI hN (vF_bS (fL_v hv)) (fit_bR hf (by have := (fL_v hv).1; omega))) (ok.ift ⟨fL_v hv, hf⟩ (ok.chk (by omega) (ok.some rfl)))))))))))))))))
  · show m_L_FnTableRows_b1 N t (tR t) _ _ = _
    unfold m_L_FnTableRows_b1
    rw [decide_eq_false (by omega)]; rfl
end
end V
end Go.Proofs.YthhlkedkeefgnaaDoor
