/- What the rows need, part 4. No condition. -/
import Derived.Test.YtemmcidmcojjjaaGreatDoorQSwC
set_option linter.unusedVariables false
set_option linter.unusedSimpArgs false
namespace Go.Proofs.YtemmcidmcojjjaaGreatDoor
namespace V
open Enc (enc)
set_option maxHeartbeats 4000000
set_option maxRecDepth 100000
open Go.RowKit
attribute [local irreducible] thA inA FinA eL
structure I_Change where
  kind : Int
  at_ : Int
  column : I_Column
deriving DecidableEq
instance : Enc I_Change := ⟨fun x => [.v (.int .i64 x.kind), .v (.int .i64 x.at_), .v (.int .i64 x.column.kind), .v (.int .i64 x.column.default.kind), .v (.int .i64 x.column.default.num), .v (.string x.column.default.text)], 6, fun _ => rfl⟩
structure I_Tagged where
  tag : Int
  row : List I_Value
deriving DecidableEq
instance : Enc I_Tagged := ⟨fun x => [.v (.int .i64 x.tag), .sl x.row.length (eL x.row)], 2, fun _ => rfl⟩
structure I_Table where
  first : List I_Column
  changes : List I_Change
  rows : List I_Tagged
deriving DecidableEq
def m_slices_Clone_I_Column (N : Nat) (p_s : List I_Column) : Option (List I_Column) := appM 40 ([] : List I_Column) p_s
theorem w_slices_Clone_I_Column (N : Nat) (p_s : List I_Column) (r : List I_Column) (hh0 : m_slices_Clone_I_Column N p_s = some r) : FnX Tryz.prog 96 [] [sL p_s] (RE (.os 0 0 r.length) [⟨.tr (eL r), 67, 4⟩]) := by
  unfold m_slices_Clone_I_Column at hh0; have hr := (appM_spec hh0).1
  simp only [List.nil_append] at hr
  refine FnX.mk Tryz.func96 rfl rfl ?_; intro s hs; refine PC.seq ?_; refine PC.rg ?_; refine PL.aT rfl rfl ?_; refine PL.nn ?_; (iterate 2 refine PC.seq ?_); refine PC.rg ?_; refine PL.mT rfl rfl ?_; refine PL.eqNil rfl rfl rfl ?_; intro b hb; refine PL.nn ?_
  cases b with
  | true =>
    have h0 : p_s = [] := List.eq_nil_of_length_eq_zero (hb rfl); subst h0; subst hr; refine PC.ct rfl rfl ?_; refine PC.seq ?_; refine PC.rg ?_; refine PL.aT rfl rfl ?_; refine PL.nn ?_; refine PC.ret ?_; refine thA_r ?_; exact FinA.mk (r := .os 0 0 0) (bl := [⟨.tr (eL ([] : List I_Column)), 67, 4⟩]) [none] (.inl rfl) rfl (rl := [.tmp 2]) (.tmp .nil) rfl rfl rfl (.osn rfl) ⟨ow_nil _, trivial⟩ ⟨rfl, rfl⟩
  | false =>
    clear hr
    refine PC.cf rfl rfl ?_; refine PC.skip ?_; refine thA_n ?_; refine PC.seq ?_; refine PC.rg ?_; refine PL.ef rfl (Ef.lit0M I_Column) ?_; refine PL.mT rfl rfl ?_; refine PL.apM hs rfl rfl rfl rfl (SrcA.eL rfl) rfl rfl rfl rfl hh0 ?_; refine PL.op rfl (Rd.asnO rfl) ?_; refine PL.nn ?_; refine PC.ret ?_; exact FinA.mk (r := .os 0 0 r.length) (bl := [⟨.tr (eL r), 67, 4⟩]) [some 1] (.inl rfl) rfl (rl := [.tmp 2]) (.tmp .nil) rfl rfl rfl (.os rfl) ⟨⟨_, rfl, rfl, rfl, .tr _⟩, trivial⟩ ⟨rfl, rfl⟩
def m_I_Change_possible (N : Nat) (p_c : I_Change) (p_f : (List I_Column)) : Option (Bool) :=
  cond (decide (p_c.kind = (1 : Int)))
    (cond (decide ((0 : Int) ≤ p_c.at_))
      (cond (decide (p_c.at_ ≤ (p_f.length : Int)))
        (cond (decide ((p_f.length : Int) < (5 : Int)))
          ((m_I_Column_valid N p_c.column).bind fun r5 =>
          some r5)
          (some false))
        (some false))
      (some false))
    (cond (decide (p_c.kind = (2 : Int)))
      (cond (decide ((0 : Int) ≤ p_c.at_))
        (cond (decide (p_c.at_ < (p_f.length : Int)))
          (some (decide ((1 : Int) < (p_f.length : Int))))
          (some false))
        (some false))
      (cond (decide (p_c.kind = (3 : Int)))
        (cond (decide ((0 : Int) ≤ p_c.at_))
          (cond (decide (p_c.at_ < (p_f.length : Int)))
            ((ixI p_f p_c.at_).bind fun x13 =>
            some (decide (x13.kind = (1 : Int))))
            (some false))
          (some false))
        (some false)))
theorem w_I_Change_possible (N : Nat) (p_c : I_Change) (p_f : (List I_Column)) (r : Bool) (hh0 : m_I_Change_possible N p_c p_f = some r) : FnX Tryz.prog 73 [] [.agg [iA p_c.kind, iA p_c.at_, iA p_c.column.kind, iA p_c.column.default.kind, iA p_c.column.default.num, sA p_c.column.default.text], sL p_f] (RE (bA r) []) := by
  unfold m_I_Change_possible at hh0; refine FnX.mk Tryz.func73 rfl rfl ?_; intro s hs; refine PC.seq ?_; refine PC.rg ?_; refine PL.ef rfl (Ef.box rfl rfl rfl) ?_; refine PL.nm (.op 0 0) [some ⟨.mx [iA p_c.kind, iA p_c.at_, iA p_c.column.kind, iA p_c.column.default.kind, iA p_c.column.default.num, sA p_c.column.default.text], 74, 0⟩] rfl rfl ?_; refine PL.aT rfl rfl ?_; refine PL.nn ?_; (iterate 2 refine PC.seq ?_); refine PC.rg ?_; refine PL.op rfl (Rd.fieldO rfl rfl) ?_; refine PL.op rfl (Rd.loadO rfl rfl rfl) ?_; refine PL.nn ?_; refine PC.block ?_; refine PC.seq ?_; refine PC.rg ?_; refine PL.op rfl (Rd.eql rfl rfl) ?_; refine PL.aT rfl rfl ?_; refine PL.nn ?_; rcases cond_some hh0 with ⟨h_1, hh0⟩ | ⟨h_1, hh0⟩
  · refine PC.ct rfl h_1 ?_; refine PC.seq ?_; rcases cond_some hh0 with ⟨h_2, hh0⟩ | ⟨h_2, hh0⟩; rotate_left
    · refine PC.rg ?_; refine PL.op rfl (Rd.fieldO rfl rfl) ?_; refine PL.op rfl (Rd.loadO rfl rfl rfl) ?_; refine PL.op rfl (Rd.geq rfl rfl) ?_; refine PL.mT rfl rfl ?_; (iterate 5 refine PL.gf rfl rfl h_2 ?_); refine PL.op rfl (Rd.pick_f rfl h_2) ?_; refine PL.mT rfl rfl ?_; (iterate 3 refine PL.gf rfl rfl rfl ?_); refine PL.op rfl (Rd.pick_f rfl rfl) ?_; refine PL.mT rfl rfl ?_; (iterate 3 refine PL.gf rfl rfl rfl ?_); refine PL.op rfl (Rd.pick_f rfl rfl) ?_; refine PL.aT rfl rfl ?_; refine PL.nn ?_; refine PC.ret ?_; refine inA_r ?_; refine thA_r ?_; obtain rfl := some_in hh0; exact FinA.mk (r := bA false) (bl := []) [] (.inl rfl) rfl (rl := [.tmp 4]) (.tmp .nil) rfl rfl rfl (.t _) trivial ⟨rfl, rfl⟩
    rcases cond_some hh0 with ⟨h_3, hh0⟩ | ⟨h_3, hh0⟩; rotate_left
    · refine PC.rg ?_; refine PL.op rfl (Rd.fieldO rfl rfl) ?_; refine PL.op rfl (Rd.loadO rfl rfl rfl) ?_; refine PL.op rfl (Rd.geq rfl rfl) ?_; refine PL.mT rfl rfl ?_; refine PL.gn rfl h_2 ?_; refine PL.op rfl (Rd.fieldO rfl rfl) ?_; refine PL.gn rfl h_2 ?_; refine PL.op rfl (Rd.loadO rfl rfl rfl) ?_; refine PL.gn rfl h_2 ?_; refine PL.mT rfl rfl ?_; refine PL.gn rfl h_2 ?_; refine PL.op rfl (Rd.lenT rfl) ?_; refine PL.gn rfl h_2 ?_; refine PL.op rfl (Rd.leq rfl rfl) ?_; refine PL.op rfl (Rd.pick_t rfl h_2) ?_; refine PL.mT rfl rfl ?_; (iterate 3 refine PL.gf rfl rfl h_3 ?_); refine PL.op rfl (Rd.pick_f rfl h_3) ?_; refine PL.mT rfl rfl ?_; (iterate 3 refine PL.gf rfl rfl rfl ?_); refine PL.op rfl (Rd.pick_f rfl rfl) ?_; refine PL.aT rfl rfl ?_; refine PL.nn ?_; refine PC.ret ?_; refine inA_r ?_; refine thA_r ?_; obtain rfl := some_in hh0; exact FinA.mk (r := bA false) (bl := []) [] (.inl rfl) rfl (rl := [.tmp 4]) (.tmp .nil) rfl rfl rfl (.t _) trivial ⟨rfl, rfl⟩
    rcases cond_some hh0 with ⟨h_4, hh0⟩ | ⟨h_4, hh0⟩; rotate_left
    · refine PC.rg ?_; refine PL.op rfl (Rd.fieldO rfl rfl) ?_; refine PL.op rfl (Rd.loadO rfl rfl rfl) ?_; refine PL.op rfl (Rd.geq rfl rfl) ?_; refine PL.mT rfl rfl ?_; refine PL.gn rfl h_2 ?_; refine PL.op rfl (Rd.fieldO rfl rfl) ?_; refine PL.gn rfl h_2 ?_; refine PL.op rfl (Rd.loadO rfl rfl rfl) ?_; refine PL.gn rfl h_2 ?_; refine PL.mT rfl rfl ?_; refine PL.gn rfl h_2 ?_; refine PL.op rfl (Rd.lenT rfl) ?_; refine PL.gn rfl h_2 ?_; refine PL.op rfl (Rd.leq rfl rfl) ?_; refine PL.op rfl (Rd.pick_t rfl h_2) ?_; refine PL.mT rfl rfl ?_; refine PL.gn rfl h_3 ?_; refine PL.mT rfl rfl ?_; refine PL.gn rfl h_3 ?_; refine PL.op rfl (Rd.lenT rfl) ?_; refine PL.gn rfl h_3 ?_; refine PL.op rfl (Rd.lss rfl rfl) ?_; refine PL.op rfl (Rd.pick_t rfl h_3) ?_; refine PL.mT rfl rfl ?_; (iterate 3 refine PL.gf rfl rfl h_4 ?_); refine PL.op rfl (Rd.pick_f rfl h_4) ?_; refine PL.aT rfl rfl ?_; refine PL.nn ?_; refine PC.ret ?_; refine inA_r ?_; refine thA_r ?_; obtain rfl := some_in hh0; exact FinA.mk (r := bA false) (bl := []) [] (.inl rfl) rfl (rl := [.tmp 4]) (.tmp .nil) rfl rfl rfl (.t _) trivial ⟨rfl, rfl⟩
    obtain ⟨r5, h_6, hh0⟩ := bind_some hh0; refine PC.rg ?_; refine PL.op rfl (Rd.fieldO rfl rfl) ?_; refine PL.op rfl (Rd.loadO rfl rfl rfl) ?_; refine PL.op rfl (Rd.geq rfl rfl) ?_; refine PL.mT rfl rfl ?_; refine PL.gn rfl h_2 ?_; refine PL.op rfl (Rd.fieldO rfl rfl) ?_; refine PL.gn rfl h_2 ?_; refine PL.op rfl (Rd.loadO rfl rfl rfl) ?_; refine PL.gn rfl h_2 ?_; refine PL.mT rfl rfl ?_; refine PL.gn rfl h_2 ?_; refine PL.op rfl (Rd.lenT rfl) ?_; refine PL.gn rfl h_2 ?_; refine PL.op rfl (Rd.leq rfl rfl) ?_; refine PL.op rfl (Rd.pick_t rfl h_2) ?_; refine PL.mT rfl rfl ?_; refine PL.gn rfl h_3 ?_; refine PL.mT rfl rfl ?_; refine PL.gn rfl h_3 ?_; refine PL.op rfl (Rd.lenT rfl) ?_; refine PL.gn rfl h_3 ?_; refine PL.op rfl (Rd.lss rfl rfl) ?_; refine PL.op rfl (Rd.pick_t rfl h_3) ?_; refine PL.mT rfl rfl ?_; refine PL.gn rfl h_4 ?_; refine PL.op rfl (Rd.fieldO rfl rfl) ?_; refine PL.gn rfl h_4 ?_; refine PL.op rfl (Rd.loadSub rfl rfl rfl rfl) ?_; refine PL.gn rfl h_4 ?_; refine PL.callM false [] (w_I_Column_valid N p_c.column r5 h_6) rfl Tryz.call70 rfl ⟨.aggL ⟨.t _, .t _, .t _, .t _, trivial⟩, trivial⟩ rfl trivial (fun h => by cases h) ?_; refine PL.op rfl (Rd.pick_t rfl h_4) ?_; refine PL.aT rfl rfl ?_; refine PL.nn ?_; refine PC.ret ?_; refine inA_r ?_; refine thA_r ?_; obtain rfl := some_in hh0; exact FinA.mk (r := bA r5) (bl := []) [] (.inl rfl) rfl (rl := [.tmp 4]) (.tmp .nil) rfl rfl rfl (.t _) trivial ⟨rfl, rfl⟩
  refine PC.cf rfl h_1 ?_; refine PC.seq ?_; refine PC.rg ?_; refine PL.op rfl (Rd.eql rfl rfl) ?_; refine PL.aT rfl rfl ?_; refine PL.nn ?_; rcases cond_some hh0 with ⟨h_7, hh0⟩ | ⟨h_7, hh0⟩
  · refine PC.ct rfl h_7 ?_; refine PC.seq ?_; rcases cond_some hh0 with ⟨h_8, hh0⟩ | ⟨h_8, hh0⟩; rotate_left
    · refine PC.rg ?_; refine PL.op rfl (Rd.fieldO rfl rfl) ?_; refine PL.op rfl (Rd.loadO rfl rfl rfl) ?_; refine PL.op rfl (Rd.geq rfl rfl) ?_; refine PL.mT rfl rfl ?_; (iterate 5 refine PL.gf rfl rfl h_8 ?_); refine PL.op rfl (Rd.pick_f rfl h_8) ?_; refine PL.mT rfl rfl ?_; (iterate 3 refine PL.gf rfl rfl rfl ?_); refine PL.op rfl (Rd.pick_f rfl rfl) ?_; refine PL.aT rfl rfl ?_; refine PL.nn ?_; refine PC.ret ?_; refine inA_r ?_; refine thA_r ?_; obtain rfl := some_in hh0; exact FinA.mk (r := bA false) (bl := []) [] (.inl rfl) rfl (rl := [.tmp 4]) (.tmp .nil) rfl rfl rfl (.t _) trivial ⟨rfl, rfl⟩
    rcases cond_some hh0 with ⟨h_9, hh0⟩ | ⟨h_9, hh0⟩; rotate_left
    · refine PC.rg ?_; refine PL.op rfl (Rd.fieldO rfl rfl) ?_; refine PL.op rfl (Rd.loadO rfl rfl rfl) ?_; refine PL.op rfl (Rd.geq rfl rfl) ?_; refine PL.mT rfl rfl ?_; refine PL.gn rfl h_8 ?_; refine PL.op rfl (Rd.fieldO rfl rfl) ?_; refine PL.gn rfl h_8 ?_; refine PL.op rfl (Rd.loadO rfl rfl rfl) ?_; refine PL.gn rfl h_8 ?_; refine PL.mT rfl rfl ?_; refine PL.gn rfl h_8 ?_; refine PL.op rfl (Rd.lenT rfl) ?_; refine PL.gn rfl h_8 ?_; refine PL.op rfl (Rd.lss rfl rfl) ?_; refine PL.op rfl (Rd.pick_t rfl h_8) ?_; refine PL.mT rfl rfl ?_; (iterate 3 refine PL.gf rfl rfl h_9 ?_); refine PL.op rfl (Rd.pick_f rfl h_9) ?_; refine PL.aT rfl rfl ?_; refine PL.nn ?_; refine PC.ret ?_; refine inA_r ?_; refine thA_r ?_; obtain rfl := some_in hh0; exact FinA.mk (r := bA false) (bl := []) [] (.inl rfl) rfl (rl := [.tmp 4]) (.tmp .nil) rfl rfl rfl (.t _) trivial ⟨rfl, rfl⟩
    refine PC.rg ?_; refine PL.op rfl (Rd.fieldO rfl rfl) ?_; refine PL.op rfl (Rd.loadO rfl rfl rfl) ?_; refine PL.op rfl (Rd.geq rfl rfl) ?_; refine PL.mT rfl rfl ?_; refine PL.gn rfl h_8 ?_; refine PL.op rfl (Rd.fieldO rfl rfl) ?_; refine PL.gn rfl h_8 ?_; refine PL.op rfl (Rd.loadO rfl rfl rfl) ?_; refine PL.gn rfl h_8 ?_; refine PL.mT rfl rfl ?_; refine PL.gn rfl h_8 ?_; refine PL.op rfl (Rd.lenT rfl) ?_; refine PL.gn rfl h_8 ?_; refine PL.op rfl (Rd.lss rfl rfl) ?_; refine PL.op rfl (Rd.pick_t rfl h_8) ?_; refine PL.mT rfl rfl ?_; refine PL.gn rfl h_9 ?_; refine PL.mT rfl rfl ?_; refine PL.gn rfl h_9 ?_; refine PL.op rfl (Rd.lenT rfl) ?_; refine PL.gn rfl h_9 ?_; refine PL.op rfl (Rd.gtr rfl rfl) ?_; refine PL.op rfl (Rd.pick_t rfl h_9) ?_; refine PL.aT rfl rfl ?_; refine PL.nn ?_; refine PC.ret ?_; refine inA_r ?_; refine thA_r ?_; obtain rfl := some_in hh0; exact FinA.mk (r := bA (decide ((1 : Int) < (p_f.length : Int)))) (bl := []) [] (.inl rfl) rfl (rl := [.tmp 4]) (.tmp .nil) rfl rfl rfl (.t _) trivial ⟨rfl, rfl⟩
  refine PC.cf rfl h_7 ?_; refine PC.seq ?_; refine PC.rg ?_; refine PL.op rfl (Rd.eql rfl rfl) ?_; refine PL.aT rfl rfl ?_; refine PL.nn ?_; rcases cond_some hh0 with ⟨h_10, hh0⟩ | ⟨h_10, hh0⟩; rotate_left
  · refine PC.cf rfl h_10 ?_; refine PC.skip ?_; refine inA_n ?_; refine thA_n ?_; refine PC.seq ?_; refine PC.rg ?_; refine PL.aT rfl rfl ?_; refine PL.nn ?_; refine PC.ret ?_; obtain rfl := some_in hh0; exact FinA.mk (r := bA false) (bl := []) [] (.inl rfl) rfl (rl := [.tmp 4]) (.tmp .nil) rfl rfl rfl (.t _) trivial ⟨rfl, rfl⟩
  refine PC.ct rfl h_10 ?_; refine PC.seq ?_; rcases cond_some hh0 with ⟨h_11, hh0⟩ | ⟨h_11, hh0⟩; rotate_left
  · refine PC.rg ?_; refine PL.op rfl (Rd.fieldO rfl rfl) ?_; refine PL.op rfl (Rd.loadO rfl rfl rfl) ?_; refine PL.op rfl (Rd.geq rfl rfl) ?_; refine PL.mT rfl rfl ?_; (iterate 5 refine PL.gf rfl rfl h_11 ?_); refine PL.op rfl (Rd.pick_f rfl h_11) ?_; refine PL.mT rfl rfl ?_; (iterate 7 refine PL.gf rfl rfl rfl ?_); refine PL.op rfl (Rd.pick_f rfl rfl) ?_; refine PL.aT rfl rfl ?_; refine PL.nn ?_; refine PC.ret ?_; refine inA_r ?_; refine thA_r ?_; obtain rfl := some_in hh0; exact FinA.mk (r := bA false) (bl := []) [] (.inl rfl) rfl (rl := [.tmp 4]) (.tmp .nil) rfl rfl rfl (.t _) trivial ⟨rfl, rfl⟩
  rcases cond_some hh0 with ⟨h_12, hh0⟩ | ⟨h_12, hh0⟩; rotate_left
  · refine PC.rg ?_; refine PL.op rfl (Rd.fieldO rfl rfl) ?_; refine PL.op rfl (Rd.loadO rfl rfl rfl) ?_; refine PL.op rfl (Rd.geq rfl rfl) ?_; refine PL.mT rfl rfl ?_; refine PL.gn rfl h_11 ?_; refine PL.op rfl (Rd.fieldO rfl rfl) ?_; refine PL.gn rfl h_11 ?_; refine PL.op rfl (Rd.loadO rfl rfl rfl) ?_; refine PL.gn rfl h_11 ?_; refine PL.mT rfl rfl ?_; refine PL.gn rfl h_11 ?_; refine PL.op rfl (Rd.lenT rfl) ?_; refine PL.gn rfl h_11 ?_; refine PL.op rfl (Rd.lss rfl rfl) ?_; refine PL.op rfl (Rd.pick_t rfl h_11) ?_; refine PL.mT rfl rfl ?_; (iterate 7 refine PL.gf rfl rfl h_12 ?_); refine PL.op rfl (Rd.pick_f rfl h_12) ?_; refine PL.aT rfl rfl ?_; refine PL.nn ?_; refine PC.ret ?_; refine inA_r ?_; refine thA_r ?_; obtain rfl := some_in hh0; exact FinA.mk (r := bA false) (bl := []) [] (.inl rfl) rfl (rl := [.tmp 4]) (.tmp .nil) rfl rfl rfl (.t _) trivial ⟨rfl, rfl⟩
  obtain ⟨x13, h_14, hh0⟩ := bind_some hh0; refine PC.rg ?_; refine PL.op rfl (Rd.fieldO rfl rfl) ?_; refine PL.op rfl (Rd.loadO rfl rfl rfl) ?_; refine PL.op rfl (Rd.geq rfl rfl) ?_; refine PL.mT rfl rfl ?_; refine PL.gn rfl h_11 ?_; refine PL.op rfl (Rd.fieldO rfl rfl) ?_; refine PL.gn rfl h_11 ?_; refine PL.op rfl (Rd.loadO rfl rfl rfl) ?_; refine PL.gn rfl h_11 ?_; refine PL.mT rfl rfl ?_; refine PL.gn rfl h_11 ?_; refine PL.op rfl (Rd.lenT rfl) ?_; refine PL.gn rfl h_11 ?_; refine PL.op rfl (Rd.lss rfl rfl) ?_; refine PL.op rfl (Rd.pick_t rfl h_11) ?_; refine PL.mT rfl rfl ?_; refine PL.gn rfl h_12 ?_; refine PL.mT rfl rfl ?_; refine PL.gn rfl h_12 ?_; refine PL.op rfl (Rd.fieldO rfl rfl) ?_; refine PL.gn rfl h_12 ?_; refine PL.op rfl (Rd.loadO rfl rfl rfl) ?_; refine PL.gn rfl h_12 ?_; refine PL.op rfl (Rd.ixM rfl rfl h_14) ?_; refine PL.gn rfl h_12 ?_; refine PL.op rfl (Rd.fieldT rfl) ?_; refine PL.gn rfl h_12 ?_; refine PL.op rfl (Rd.elMF (f := 0) rfl h_14 rfl rfl) ?_; refine PL.gn rfl h_12 ?_; refine PL.op rfl (Rd.eql rfl rfl) ?_; refine PL.op rfl (Rd.pick_t rfl h_12) ?_; refine PL.aT rfl rfl ?_; refine PL.nn ?_; refine PC.ret ?_; refine inA_r ?_; refine thA_r ?_; obtain rfl := some_in hh0; exact FinA.mk (r := bA (decide (x13.kind = (1 : Int)))) (bl := []) [] (.inl rfl) rfl (rl := [.tmp 4]) (.tmp .nil) rfl rfl rfl (.t _) trivial ⟨rfl, rfl⟩
def m_I_WidenValue (N : Nat) (p_v : I_Value) : Option (I_Value) :=
  (m_I_ValidValue N p_v).bind fun r1 =>
  cond r1
    (cond (decide (p_v.kind = (1 : Int)))
      ((m_strconv_Itoa N p_v.num).bind fun s5 =>
      some (I_Value.mk (2 : Int) (0 : Int) s5))
      (some p_v))
    (some (I_Value.mk (0 : Int) (0 : Int) ByteArray.empty))
theorem w_I_WidenValue (N : Nat) (p_v : I_Value) (r : I_Value) (hh0 : m_I_WidenValue N p_v = some r) : FnX Tryz.prog 126 [] [.agg [iA p_v.kind, iA p_v.num, sA p_v.text]] (RE (.agg [iA r.kind, iA r.num, sA r.text]) []) := by
  unfold m_I_WidenValue at hh0; refine FnX.mk Tryz.func126 rfl rfl ?_; intro s hs; refine PC.seq ?_; refine PC.rg ?_; refine PL.ef rfl (Ef.box rfl rfl rfl) ?_; refine PL.nm (.op 0 0) [some ⟨.mx [iA p_v.kind, iA p_v.num, sA p_v.text], 64, 0⟩] rfl rfl ?_; refine PL.ef rfl (Ef.alloc rfl rfl) ?_; refine PL.nm (.op 1 0) [some ⟨.mx [iA p_v.kind, iA p_v.num, sA p_v.text], 64, 0⟩, some ⟨.mx [iA (0 : Int), iA (0 : Int), sA ByteArray.empty], 64, 0⟩] rfl rfl ?_; refine PL.nn ?_; (iterate 2 refine PC.seq ?_); obtain ⟨r1, h_2, hh0⟩ := bind_some hh0; refine PC.rg ?_; refine PL.op rfl (Rd.loadBox rfl rfl rfl) ?_; refine PL.callM false [] (w_I_ValidValue N p_v r1 h_2) rfl Tryz.call93 rfl ⟨.aggL ⟨.t _, .t _, .t _, trivial⟩, trivial⟩ rfl trivial (fun h => by cases h) ?_; refine PL.op rfl (Rd.unnot rfl) ?_; refine PL.nn ?_; rcases cond_some hh0 with ⟨h_3, hh0⟩ | ⟨h_3, hh0⟩; rotate_left
  · refine PC.ct rfl (not_f h_3) ?_; refine PC.seq ?_; refine PC.rg ?_; refine PL.op rfl (Rd.build rfl rfl rfl rfl) ?_; refine PL.store rfl rfl rfl rfl rfl rfl rfl ?_; refine PL.nn ?_; refine PC.ret ?_; refine thA_r ?_; obtain rfl := some_in hh0; exact FinA.mk (r := .agg [iA (0 : Int), iA (0 : Int), sA ByteArray.empty]) (bl := []) [] (.inl rfl) rfl (rl := [.cell 2 64]) (.cellN rfl rfl rfl rfl .nil) rfl rfl rfl (.aggL ⟨.t _, .t _, .t _, trivial⟩) trivial ⟨rfl, rfl⟩
  refine PC.cf rfl (not_t h_3) ?_; refine PC.skip ?_; refine thA_n ?_; (iterate 2 refine PC.seq ?_); refine PC.rg ?_; refine PL.op rfl (Rd.fieldO rfl rfl) ?_; refine PL.op rfl (Rd.loadO rfl rfl rfl) ?_; refine PL.op rfl (Rd.eql rfl rfl) ?_; refine PL.nn ?_; rcases cond_some hh0 with ⟨h_4, hh0⟩ | ⟨h_4, hh0⟩; rotate_left
  · refine PC.cf rfl h_4 ?_; refine PC.skip ?_; refine thA_n ?_; refine PC.seq ?_; refine PC.rg ?_; refine PL.op rfl (Rd.loadBox rfl rfl rfl) ?_; refine PL.store rfl rfl rfl rfl rfl rfl rfl ?_; refine PL.nO [some ⟨.mx [iA p_v.kind, iA p_v.num, sA p_v.text], 64, 0⟩, some ⟨.mx [iA p_v.kind, iA p_v.num, sA p_v.text], 64, 0⟩] rfl ?_; refine PL.nn ?_; refine PC.ret ?_; obtain rfl := some_in hh0; exact FinA.mk (r := .agg [iA p_v.kind, iA p_v.num, sA p_v.text]) (bl := []) [] (.inl rfl) rfl (rl := [.cell 2 64]) (.cellN rfl rfl rfl rfl .nil) rfl rfl rfl (.aggL ⟨.t _, .t _, .t _, trivial⟩) trivial ⟨rfl, rfl⟩
  refine PC.ct rfl h_4 ?_; refine PC.seq ?_; obtain ⟨s5, h_6, hh0⟩ := bind_some hh0; refine PC.rg ?_; refine PL.op rfl (Rd.fieldO rfl rfl) ?_; refine PL.op rfl (Rd.loadO rfl rfl rfl) ?_; refine PL.callM false [] (w_strconv_Itoa N p_v.num s5 h_6) rfl Tryz.call55 rfl ⟨.t _, trivial⟩ rfl trivial (fun h => by cases h) ?_; refine PL.op rfl (Rd.build rfl rfl rfl rfl) ?_; refine PL.store rfl rfl rfl rfl rfl rfl rfl ?_; refine PL.nO [some ⟨.mx [iA p_v.kind, iA p_v.num, sA p_v.text], 64, 0⟩, some ⟨.mx [iA (2 : Int), iA (0 : Int), sA s5], 64, 0⟩] rfl ?_; refine PL.nn ?_; refine PC.ret ?_; refine thA_r ?_; obtain rfl := some_in hh0; exact FinA.mk (r := .agg [iA (2 : Int), iA (0 : Int), sA s5]) (bl := []) [] (.inl rfl) rfl (rl := [.cell 2 64]) (.cellN rfl rfl rfl rfl .nil) rfl rfl rfl (.aggL ⟨.t _, .t _, .t _, trivial⟩) trivial ⟨rfl, rfl⟩
def m_I_ChangeFormat (N : Nat) (p_f : (List I_Column)) (p_c : I_Change) : Option ((List I_Column) × Bool) :=
  (m_I_ValidFormat N p_f).bind fun r1 =>
  cond r1
    ((m_I_Change_possible N p_c p_f).bind fun r4 =>
    cond r4
      ((m_slices_Clone_I_Column N p_f).bind fun r7 =>
      cond (decide (p_c.kind = (1 : Int)))
        ((insM 40 r7 p_c.at_ p_c.column).bind fun xs10 =>
        some (xs10, true))
        (cond (decide (p_c.kind = (2 : Int)))
          ((chk (p_c.at_ + (1 : Int))).bind fun n13 =>
          (delM r7 p_c.at_ n13).bind fun xs15 =>
          some (xs15, true))
          ((ixI r7 p_c.at_).bind fun x17 =>
          (m_I_WidenValue N x17.default).bind fun r19 =>
          some ((r7.set p_c.at_.toNat (I_Column.mk (2 : Int) r19)), true))))
      (some (([] : List I_Column), false)))
    (some (([] : List I_Column), false))
theorem w_I_ChangeFormat (N : Nat) (p_f : (List I_Column)) (p_c : I_Change) (r : (List I_Column) × Bool) (hh0 : m_I_ChangeFormat N p_f p_c = some r) : FnX Tryz.prog 112 [] [sL p_f, .agg [iA p_c.kind, iA p_c.at_, iA p_c.column.kind, iA p_c.column.default.kind, iA p_c.column.default.num, sA p_c.column.default.text]] (RE (.tup [.os 0 0 r.1.length, bA r.2]) [⟨.tr (eL r.1), 67, 4⟩]) := by
  unfold m_I_ChangeFormat at hh0; refine FnX.mk Tryz.func112 rfl rfl ?_; intro s hs; refine PC.seq ?_; refine PC.rg ?_; refine PL.ef rfl (Ef.box rfl rfl rfl) ?_; refine PL.nm (.op 0 0) [some ⟨.mx [iA p_c.kind, iA p_c.at_, iA p_c.column.kind, iA p_c.column.default.kind, iA p_c.column.default.num, sA p_c.column.default.text], 74, 0⟩] rfl rfl ?_; (iterate 2 refine PL.aT rfl rfl ?_); refine PL.nn ?_; (iterate 2 refine PC.seq ?_); obtain ⟨r1, h_2, hh0⟩ := bind_some hh0; rcases cond_some hh0 with ⟨h_3, hh0⟩ | ⟨h_3, hh0⟩; rotate_left
  · refine PC.rg ?_; refine PL.mT rfl rfl ?_; refine PL.callM false [] (w_I_ValidFormat N p_f r1 h_2) rfl Tryz.call46 rfl ⟨.t _, trivial⟩ rfl trivial (fun h => by cases h) ?_; refine PL.op rfl (Rd.unnot rfl) ?_; refine PL.mT rfl rfl ?_; (iterate 4 refine PL.gf rfl rfl (not_f h_3) ?_); refine PL.op rfl (Rd.pick_t rfl (not_f h_3)) ?_; refine PL.nn ?_; refine PC.ct rfl rfl ?_; refine PC.seq ?_; refine PC.rg ?_; (iterate 2 refine PL.aT rfl rfl ?_); refine PL.nn ?_; refine PC.ret ?_; refine thA_r ?_; obtain rfl := some_in hh0; exact FinA.mk (r := .tup [.os 0 0 (((([] : List I_Column), false).1).length), bA ((([] : List I_Column), false).2)]) (bl := [⟨.tr (eL ((([] : List I_Column), false).1)), 67, 4⟩]) [none] (.inl rfl) rfl (rl := [.tmp 4, .tmp 5]) (.tmp (.tmp .nil)) rfl rfl rfl (.tupL ⟨.osn rfl, .t _, trivial⟩) ⟨ow_nil _, trivial⟩ ⟨rfl, rfl⟩
  obtain ⟨r4, h_5, hh0⟩ := bind_some hh0; refine PC.rg ?_; refine PL.mT rfl rfl ?_; refine PL.callM false [] (w_I_ValidFormat N p_f r1 h_2) rfl Tryz.call46 rfl ⟨.t _, trivial⟩ rfl trivial (fun h => by cases h) ?_; refine PL.op rfl (Rd.unnot rfl) ?_; refine PL.mT rfl rfl ?_; refine PL.gn rfl (not_t h_3) ?_; refine PL.op rfl (Rd.loadBox rfl rfl rfl) ?_; refine PL.gn rfl (not_t h_3) ?_; refine PL.mT rfl rfl ?_; refine PL.gn rfl (not_t h_3) ?_; refine PL.callM false [] (w_I_Change_possible N p_c p_f r4 h_5) rfl Tryz.call73 rfl ⟨.aggL ⟨.t _, .t _, .t _, .t _, .t _, .t _, trivial⟩, .t _, trivial⟩ rfl trivial (fun h => by cases h) ?_; refine PL.gn rfl (not_t h_3) ?_; refine PL.op rfl (Rd.unnot rfl) ?_; refine PL.op rfl (Rd.pick_f rfl (not_t h_3)) ?_; refine PL.nn ?_; rcases cond_some hh0 with ⟨h_6, hh0⟩ | ⟨h_6, hh0⟩; rotate_left
  · refine PC.ct rfl (not_f h_6) ?_; refine PC.seq ?_; refine PC.rg ?_; (iterate 2 refine PL.aT rfl rfl ?_); refine PL.nn ?_; refine PC.ret ?_; refine thA_r ?_; obtain rfl := some_in hh0; exact FinA.mk (r := .tup [.os 0 0 (((([] : List I_Column), false).1).length), bA ((([] : List I_Column), false).2)]) (bl := [⟨.tr (eL ((([] : List I_Column), false).1)), 67, 4⟩]) [none] (.inl rfl) rfl (rl := [.tmp 4, .tmp 5]) (.tmp (.tmp .nil)) rfl rfl rfl (.tupL ⟨.osn rfl, .t _, trivial⟩) ⟨ow_nil _, trivial⟩ ⟨rfl, rfl⟩
  refine PC.cf rfl (not_t h_6) ?_; refine PC.skip ?_; refine thA_n ?_; refine PC.seq ?_; obtain ⟨r7, h_8, hh0⟩ := bind_some hh0; refine PC.rg ?_; refine PL.mT rfl rfl ?_; refine PL.callM false [] (w_slices_Clone_I_Column N p_f r7 h_8) rfl Tryz.call96 rfl ⟨.t _, trivial⟩ rfl trivial (fun h => by cases h) ?_; refine PL.nm (.os 1 0 r7.length) [some ⟨.mx [iA p_c.kind, iA p_c.at_, iA p_c.column.kind, iA p_c.column.default.kind, iA p_c.column.default.num, sA p_c.column.default.text], 74, 0⟩, some ⟨.tr (eL r7), 67, 4⟩] rfl rfl ?_; refine PL.op rfl (Rd.asnO rfl) ?_; refine PL.nn ?_; (iterate 2 refine PC.seq ?_); refine PC.rg ?_; refine PL.op rfl (Rd.fieldO rfl rfl) ?_; refine PL.op rfl (Rd.loadO rfl rfl rfl) ?_; refine PL.nn ?_; refine PC.block ?_; refine PC.seq ?_; refine PC.rg ?_; refine PL.op rfl (Rd.eql rfl rfl) ?_; refine PL.aT rfl rfl ?_; refine PL.nn ?_; rcases cond_some hh0 with ⟨h_9, hh0⟩ | ⟨h_9, hh0⟩
  · refine PC.ct rfl h_9 ?_; obtain ⟨xs10, h_11, hh0⟩ := bind_some hh0; refine PC.rg ?_; refine PL.op rfl (Rd.moveO rfl) ?_; refine PL.op rfl (Rd.fieldO rfl rfl) ?_; refine PL.op rfl (Rd.loadO rfl rfl rfl) ?_; refine PL.op rfl (Rd.fieldO rfl rfl) ?_; refine PL.op rfl (Rd.loadSub rfl rfl rfl rfl) ?_; refine PL.ef rfl (Ef.litM (α := I_Column) [p_c.column] [_] rfl rfl (by decide) rfl rfl rfl rfl) ?_; refine PL.nm (.os 2 0 1) [some ⟨.mx [iA p_c.kind, iA p_c.at_, iA p_c.column.kind, iA p_c.column.default.kind, iA p_c.column.default.num, sA p_c.column.default.text], 74, 0⟩, some ⟨.tr (eL r7), 67, 4⟩, some ⟨.tr (eL [p_c.column]), 67, 4⟩] rfl rfl ?_; refine PL.ins_Column hs rfl rfl rfl rfl rfl rfl rfl rfl rfl h_11 ?_; refine PL.nm (.os 3 0 xs10.length) [some ⟨.mx [iA p_c.kind, iA p_c.at_, iA p_c.column.kind, iA p_c.column.default.kind, iA p_c.column.default.num, sA p_c.column.default.text], 74, 0⟩, none, some ⟨.tr (eL [p_c.column]), 67, 4⟩, some ⟨.tr (eL xs10), 67, 4⟩] rfl rfl ?_; refine PL.op rfl (Rd.asnO rfl) ?_; refine PL.nil ?_; refine inA_n ?_; refine thA_n ?_; refine PC.seq ?_; refine PC.rg ?_; refine PL.op rfl (Rd.moveO rfl) ?_; refine PL.op rfl (Rd.asnO rfl) ?_; refine PL.aT rfl rfl ?_; refine PL.nn ?_; refine PC.ret ?_; obtain rfl := some_in hh0; exact FinA.mk (r := .tup [.os 0 0 (((xs10, true).1).length), bA ((xs10, true).2)]) (bl := [⟨.tr (eL ((xs10, true).1)), 67, 4⟩]) [some 3] (.inl rfl) rfl (rl := [.tmp 4, .tmp 5]) (.tmp (.tmp .nil)) rfl rfl rfl (.tupL ⟨.os rfl, .t _, trivial⟩) ⟨⟨_, rfl, rfl, rfl, .tr _⟩, trivial⟩ ⟨rfl, rfl⟩
  refine PC.cf rfl h_9 ?_; refine PC.seq ?_; refine PC.rg ?_; refine PL.op rfl (Rd.eql rfl rfl) ?_; refine PL.aT rfl rfl ?_; refine PL.nn ?_; rcases cond_some hh0 with ⟨h_12, hh0⟩ | ⟨h_12, hh0⟩
  · refine PC.ct rfl h_12 ?_; obtain ⟨n13, h_14, hh0⟩ := bind_some hh0; obtain ⟨xs15, h_16, hh0⟩ := bind_some hh0; refine PC.rg ?_; refine PL.op rfl (Rd.moveO rfl) ?_; refine PL.op rfl (Rd.fieldO rfl rfl) ?_; refine PL.op rfl (Rd.loadO rfl rfl rfl) ?_; refine PL.op rfl (Rd.fieldO rfl rfl) ?_; refine PL.op rfl (Rd.loadO rfl rfl rfl) ?_; refine PL.op rfl (Rd.addM rfl rfl h_14) ?_; refine PL.del_Column hs rfl rfl rfl rfl rfl rfl rfl h_16 ?_; refine PL.nm (.os 2 0 xs15.length) [some ⟨.mx [iA p_c.kind, iA p_c.at_, iA p_c.column.kind, iA p_c.column.default.kind, iA p_c.column.default.num, sA p_c.column.default.text], 74, 0⟩, none, some ⟨.tr (eL xs15), 67, 4⟩] rfl rfl ?_; refine PL.op rfl (Rd.asnO rfl) ?_; refine PL.nil ?_; refine inA_n ?_; refine thA_n ?_; refine PC.seq ?_; refine PC.rg ?_; refine PL.op rfl (Rd.moveO rfl) ?_; refine PL.op rfl (Rd.asnO rfl) ?_; refine PL.aT rfl rfl ?_; refine PL.nn ?_; refine PC.ret ?_; obtain rfl := some_in hh0; exact FinA.mk (r := .tup [.os 0 0 (((xs15, true).1).length), bA ((xs15, true).2)]) (bl := [⟨.tr (eL ((xs15, true).1)), 67, 4⟩]) [some 2] (.inl rfl) rfl (rl := [.tmp 4, .tmp 5]) (.tmp (.tmp .nil)) rfl rfl rfl (.tupL ⟨.os rfl, .t _, trivial⟩) ⟨⟨_, rfl, rfl, rfl, .tr _⟩, trivial⟩ ⟨rfl, rfl⟩
  refine PC.cf rfl h_12 ?_; obtain ⟨x17, h_18, hh0⟩ := bind_some hh0; obtain ⟨r19, h_20, hh0⟩ := bind_some hh0; refine PC.any (id := 5) 12 (.seg [0, 1, 2, 3, 4, 5, 6, 7, 8, 9, 10, 11] .done) [] rfl (by kernel_rfl) rfl ?_; refine PT.seg ?_; refine PR.op rfl (Rd.moveO rfl) ?_; refine PR.op rfl (Rd.fieldO rfl rfl) ?_; refine PR.op rfl (Rd.loadO rfl rfl rfl) ?_; refine PR.op rfl (Rd.moveO rfl) ?_; refine PR.op rfl (Rd.fieldO rfl rfl) ?_; refine PR.op rfl (Rd.loadO rfl rfl rfl) ?_; refine PR.ixOM rfl rfl rfl rfl (ixI_lt h_18) ?_; refine PR.op rfl (Rd.fieldO rfl rfl) ?_; refine PR.op rfl (Rd.owMFR (f := 1) rfl rfl h_18 rfl rfl rfl) ?_; refine PR.callM false [] (w_I_WidenValue N x17.default r19 h_20) rfl Tryz.call126 rfl ⟨.aggL ⟨.t _, .t _, .t _, trivial⟩, trivial⟩ rfl trivial (fun h => by cases h) rfl ?_; refine PR.op rfl (Rd.build rfl rfl rfl rfl) ?_; refine PR.ixOM rfl rfl rfl rfl (ixI_lt h_18) ?_; refine PR.nil ?_; refine PT.done ?_; refine PL.stRM (I_Column.mk (2 : Int) r19) rfl rfl rfl rfl rfl h_18 rfl ?_; refine PL.nO [some ⟨.mx [iA p_c.kind, iA p_c.at_, iA p_c.column.kind, iA p_c.column.default.kind, iA p_c.column.default.num, sA p_c.column.default.text], 74, 0⟩, some ⟨.tr (eL (r7.set p_c.at_.toNat (I_Column.mk (2 : Int) r19))), 67, 4⟩] rfl ?_; refine PL.nil ?_; refine inA_n ?_; refine thA_n ?_; refine PC.seq ?_; refine PC.rg ?_; refine PL.op rfl (Rd.moveO rfl) ?_; refine PL.op rfl (Rd.asnO rfl) ?_; refine PL.aT rfl rfl ?_; refine PL.nn ?_; refine PC.ret ?_; obtain rfl := some_in hh0; exact FinA.mk (r := .tup [.os 0 0 ((((r7.set p_c.at_.toNat (I_Column.mk (2 : Int) r19)), true).1).length), bA (((r7.set p_c.at_.toNat (I_Column.mk (2 : Int) r19)), true).2)]) (bl := [⟨.tr (eL (((r7.set p_c.at_.toNat (I_Column.mk (2 : Int) r19)), true).1)), 67, 4⟩]) [some 1] (.inl rfl) rfl (rl := [.tmp 4, .tmp 5]) (.tmp (.tmp .nil)) rfl rfl rfl (.tupL ⟨.osE rfl (by simp only [List.length_set]), .t _, trivial⟩) ⟨⟨_, rfl, rfl, rfl, .tr _⟩, trivial⟩ ⟨rfl, rfl⟩
def m_I_ChainOf_k1 (N : Nat) (v21 : (List (List I_Column))) : Option ((List (List I_Column)) × Bool) :=
  some (v21, true)
def m_I_ChainOf_b1 (N : Nat) (p_list : (List I_Change)) (i7 : Int) (v8 : (List (List I_Column))) : Option ((Int × (List (List I_Column))) ⊕ ((List (List I_Column)) ⊕ ((List (List I_Column)) × Bool))) :=
  cond (decide (i7 < (p_list.length : Int)))
    ((ixI p_list i7).bind fun x28 =>
    (ixI v8 i7).bind fun x30 =>
    (m_I_ChangeFormat N x30 x28).bind fun r32 =>
    cond r32.2
      ((appM 24 v8 [r32.1]).bind fun xs35 =>
      (chk (i7 + (1 : Int))).bind fun n37 =>
      some (.inl (n37, xs35)))
      (some (.inr (.inr (([] : List (List I_Column)), false)))))
    (some (.inr (.inl v8)))
def m_I_ChainOf (N : Nat) (p_f : (List I_Column)) (p_list : (List I_Change)) : Option ((List (List I_Column)) × Bool) :=
  (m_I_ValidFormat N p_f).bind fun r1 =>
  cond r1
    (cond (decide ((8 : Int) < (p_list.length : Int)))
      (some (([] : List (List I_Column)), false))
      ((m_slices_Clone_I_Column N p_f).bind fun r5 =>
      (loopM (β := (List (List I_Column)) ⊕ ((List (List I_Column)) × Bool)) (fun s : Int × (List (List I_Column)) => m_I_ChainOf_b1 N p_list s.1 s.2) N ((0 : Int), [r5])).bind fun o => match o with
      | .inl e =>
        m_I_ChainOf_k1 N e
      | .inr v =>
        some v))
    (some (([] : List (List I_Column)), false))
theorem w_I_ChainOf (N : Nat) (p_f : (List I_Column)) (p_list : (List I_Change)) (r : (List (List I_Column)) × Bool) (hh0 : m_I_ChainOf N p_f p_list = some r) : FnX Tryz.prog 95 [] [sL p_f, sL p_list] (RE (.tup [.os 0 0 r.1.length, bA r.2]) [⟨.tr (eL r.1), 37, 1⟩]) := by
  unfold m_I_ChainOf at hh0; refine FnX.mk Tryz.func95 rfl rfl ?_; intro s hs; refine PC.seq ?_; refine PC.rg ?_; (iterate 2 refine PL.aT rfl rfl ?_); refine PL.nn ?_; (iterate 2 refine PC.seq ?_); obtain ⟨r1, h_2, hh0⟩ := bind_some hh0; rcases cond_some hh0 with ⟨h_3, hh0⟩ | ⟨h_3, hh0⟩; rotate_left
  · refine PC.rg ?_; refine PL.mT rfl rfl ?_; refine PL.callM false [] (w_I_ValidFormat N p_f r1 h_2) rfl Tryz.call46 rfl ⟨.t _, trivial⟩ rfl trivial (fun h => by cases h) ?_; refine PL.op rfl (Rd.unnot rfl) ?_; refine PL.mT rfl rfl ?_; (iterate 3 refine PL.gf rfl rfl (not_f h_3) ?_); refine PL.op rfl (Rd.pick_t rfl (not_f h_3)) ?_; refine PL.nn ?_; refine PC.ct rfl rfl ?_; refine PC.seq ?_; refine PC.rg ?_; (iterate 2 refine PL.aT rfl rfl ?_); refine PL.nn ?_; refine PC.ret ?_; refine thA_r ?_; obtain rfl := some_in hh0; exact FinA.mk (r := .tup [.os 0 0 (((([] : List (List I_Column)), false).1).length), bA ((([] : List (List I_Column)), false).2)]) (bl := [⟨.tr (eL ((([] : List (List I_Column)), false).1)), 37, 1⟩]) [none] (.inl rfl) rfl (rl := [.tmp 4, .tmp 5]) (.tmp (.tmp .nil)) rfl rfl rfl (.tupL ⟨.osn rfl, .t _, trivial⟩) ⟨ow_nil _, trivial⟩ ⟨rfl, rfl⟩
  refine PC.rg ?_; refine PL.mT rfl rfl ?_; refine PL.callM false [] (w_I_ValidFormat N p_f r1 h_2) rfl Tryz.call46 rfl ⟨.t _, trivial⟩ rfl trivial (fun h => by cases h) ?_; refine PL.op rfl (Rd.unnot rfl) ?_; refine PL.mT rfl rfl ?_; refine PL.gn rfl (not_t h_3) ?_; refine PL.mT rfl rfl ?_; refine PL.gn rfl (not_t h_3) ?_; refine PL.op rfl (Rd.lenT rfl) ?_; refine PL.gn rfl (not_t h_3) ?_; refine PL.op rfl (Rd.gtr rfl rfl) ?_; refine PL.op rfl (Rd.pick_f rfl (not_t h_3)) ?_; refine PL.nn ?_; rcases cond_some hh0 with ⟨h_4, hh0⟩ | ⟨h_4, hh0⟩
  · refine PC.ct rfl h_4 ?_; refine PC.seq ?_; refine PC.rg ?_; (iterate 2 refine PL.aT rfl rfl ?_); refine PL.nn ?_; refine PC.ret ?_; refine thA_r ?_; obtain rfl := some_in hh0; exact FinA.mk (r := .tup [.os 0 0 (((([] : List (List I_Column)), false).1).length), bA ((([] : List (List I_Column)), false).2)]) (bl := [⟨.tr (eL ((([] : List (List I_Column)), false).1)), 37, 1⟩]) [none] (.inl rfl) rfl (rl := [.tmp 4, .tmp 5]) (.tmp (.tmp .nil)) rfl rfl rfl (.tupL ⟨.osn rfl, .t _, trivial⟩) ⟨ow_nil _, trivial⟩ ⟨rfl, rfl⟩
  refine PC.cf rfl h_4 ?_; refine PC.skip ?_; refine thA_n ?_; refine PC.seq ?_; obtain ⟨r5, h_6, hh0⟩ := bind_some hh0; refine PC.rg ?_; refine PL.mT rfl rfl ?_; refine PL.callM false [] (w_slices_Clone_I_Column N p_f r5 h_6) rfl Tryz.call96 rfl ⟨.t _, trivial⟩ rfl trivial (fun h => by cases h) ?_; refine PL.nm (.os 0 0 r5.length) [some ⟨.tr (eL r5), 67, 4⟩] rfl rfl ?_; refine PL.frz hs 0 1 [(20, sL r5)] [none] rfl rfl ⟨(.own rfl (by decide) rfl rfl), trivial⟩ trivial ?_; refine PL.ef rfl (Ef.litM (α := (List I_Column)) [r5] [_] rfl rfl (by decide) rfl rfl rfl rfl) ?_; refine PL.nm (.os 1 0 1) [none, some ⟨.tr (eL [r5]), 37, 1⟩] rfl rfl ?_; refine PL.op rfl (Rd.asnO rfl) ?_; refine PL.nn ?_; (iterate 2 refine PC.seq ?_); refine PC.rg ?_; refine PL.mT rfl rfl ?_; refine PL.op rfl (Rd.lenT rfl) ?_; refine PL.mT rfl rfl ?_; refine PL.nn ?_; obtain ⟨o22, h_23, hh0⟩ := bind_some hh0; refine PC.cutE hs (fun x : (List (List I_Column)) => [(6, .os 0 0 x.length)]) (fun x => [⟨.tr (eL x), 37, 1⟩]) (fun x => m_I_ChainOf_k1 N x = some r) ?_ ?_
  · refine PC.block ?_; refine PC.loop hs (fun x : Nat × (Int × (List (List I_Column))) => [(6, .os 0 0 x.2.2.length), (22, sL p_list), (23, iA (p_list.length : Int)), (24, iA x.2.1)]) (fun x => [⟨.tr (eL x.2.2), 37, 1⟩]) (fun x => loopM (β := (List (List I_Column)) ⊕ ((List (List I_Column)) × Bool)) (fun s : Int × (List (List I_Column)) => m_I_ChainOf_b1 N p_list s.1 s.2) x.1 x.2 = some o22) (fun x => x.1) (N, ((0 : Int), [r5])) [some 1] ⟨rfl, rfl, ⟨⟨_, rfl, rfl, rfl, .tr _⟩, trivial⟩, ⟨.os rfl, .t _, .t _, .t _, trivial⟩⟩ h_23 ?_
    rintro ⟨f24_, i7, v8⟩ h_26
    obtain ⟨f24, y25, rfl, hh1, kk1⟩ := loopM_some h_26
    replace hh1 : m_I_ChainOf_b1 N p_list i7 v8 = some y25 := hh1
    unfold m_I_ChainOf_b1 at hh1; refine PC.seq ?_; refine PC.rg ?_; refine PL.op rfl (Rd.lss rfl rfl) ?_; refine PL.nn ?_; refine PC.seq ?_; rcases cond_some hh1 with ⟨h_27, hh1⟩ | ⟨h_27, hh1⟩; rotate_left
    · refine PC.cf rfl h_27 ?_; refine PC.exit ?_; (iterate 2 refine thA_e ?_); refine inA_eq rfl ?_; refine thA_n ?_; obtain rfl := some_in hh1; obtain rfl : (.inl v8 : (List (List I_Column)) ⊕ ((List (List I_Column)) × Bool)) = o22 := kk1; exact ⟨v8, hh0, [some 0], ⟨rfl, rfl, ⟨⟨_, rfl, rfl, rfl, .tr _⟩, trivial⟩, ⟨.os rfl, trivial⟩⟩⟩
    refine PC.ct rfl h_27 ?_; refine PC.skip ?_; refine thA_n ?_; refine PC.seq ?_; refine PC.block ?_; refine PC.seq ?_; obtain ⟨x28, h_29, hh1⟩ := bind_some hh1; refine PC.rg ?_; refine PL.mT rfl rfl ?_; refine PL.op rfl (Rd.ixM rfl rfl h_29) ?_; refine PL.op rfl (Rd.elMR rfl h_29 rfl rfl) ?_; refine PL.ef rfl (Ef.alloc rfl rfl) ?_; refine PL.nm (.op 1 0) [some ⟨.tr (eL v8), 37, 1⟩, some ⟨.mx [iA (0 : Int), iA (0 : Int), iA (0 : Int), iA (0 : Int), iA (0 : Int), sA ByteArray.empty], 74, 0⟩] rfl rfl ?_; refine PL.aT rfl rfl ?_; refine PL.store rfl rfl rfl rfl rfl rfl rfl ?_; refine PL.nO [some ⟨.tr (eL v8), 37, 1⟩, some ⟨.mx [iA x28.kind, iA x28.at_, iA x28.column.kind, iA x28.column.default.kind, iA x28.column.default.num, sA x28.column.default.text], 74, 0⟩] rfl ?_; refine PL.nn ?_; refine PC.seq ?_; obtain ⟨x30, h_31, hh1⟩ := bind_some hh1; obtain ⟨r32, h_33, hh1⟩ := bind_some hh1; refine PC.any (id := 7) 11 (.seg [0, 1, 2, 3, 4, 5, 6, 7, 8, 9, 10] .done) [] rfl (by kernel_rfl) rfl ?_; refine PT.seg ?_; refine PR.op rfl (Rd.moveO rfl) ?_; refine PR.op rfl (Rd.moveT rfl) ?_; refine PR.ixOM rfl rfl rfl rfl (ixI_lt h_31) ?_; refine PR.op rfl (Rd.owM1 rfl rfl h_31 rfl rfl) ?_; refine PR.op rfl (Rd.loadBox rfl rfl rfl) ?_; refine PR.callM false [] (w_I_ChangeFormat N x30 x28 r32 h_33) rfl Tryz.call112 rfl ⟨.t _, .aggL ⟨.t _, .t _, .t _, .t _, .t _, .t _, trivial⟩, trivial⟩ rfl trivial (fun h => by cases h) rfl ?_; refine PR.nm (.tup [.os 2 0 r32.1.length, bA r32.2]) [some ⟨.tr (eL v8), 37, 1⟩, some ⟨.mx [iA x28.kind, iA x28.at_, iA x28.column.kind, iA x28.column.default.kind, iA x28.column.default.num, sA x28.column.default.text], 74, 0⟩, some ⟨.tr (eL r32.1), 67, 4⟩] rfl rfl ?_; refine PR.op rfl (Rd.moveU rfl) ?_; (iterate 2 refine PR.op rfl (Rd.extract rfl rfl) ?_); refine PR.op rfl (Rd.asnO rfl) ?_; refine PR.op rfl (Rd.asnT rfl) ?_; refine PR.nil ?_; refine PT.done ?_; refine PL.nn ?_; (iterate 2 refine PC.seq ?_); refine PC.rg ?_; refine PL.mT rfl rfl ?_; refine PL.op rfl (Rd.unnot rfl) ?_; refine PL.nn ?_; rcases cond_some hh1 with ⟨h_34, hh1⟩ | ⟨h_34, hh1⟩; rotate_left
    · refine PC.ct rfl (not_f h_34) ?_; refine PC.seq ?_; refine PC.rg ?_; (iterate 2 refine PL.aT rfl rfl ?_); refine PL.nn ?_; refine PC.ret ?_; refine thA_r ?_; refine inA_r ?_; (iterate 2 refine thA_r ?_); refine inA_r ?_; refine thA_r ?_; obtain rfl := some_in hh1; obtain rfl : (.inr (([] : List (List I_Column)), false) : (List (List I_Column)) ⊕ ((List (List I_Column)) × Bool)) = o22 := kk1; refine thA_r ?_; obtain rfl := some_in hh0; exact FinA.mk (r := .tup [.os 0 0 (((([] : List (List I_Column)), false).1).length), bA ((([] : List (List I_Column)), false).2)]) (bl := [⟨.tr (eL ((([] : List (List I_Column)), false).1)), 37, 1⟩]) [none] (.inl rfl) rfl (rl := [.tmp 4, .tmp 5]) (.tmp (.tmp .nil)) rfl rfl rfl (.tupL ⟨.osn rfl, .t _, trivial⟩) ⟨ow_nil _, trivial⟩ ⟨rfl, rfl⟩
    refine PC.cf rfl (not_t h_34) ?_; refine PC.skip ?_; refine thA_n ?_; obtain ⟨xs35, h_36, hh1⟩ := bind_some hh1; refine PC.rg ?_; (iterate 2 refine PL.op rfl (Rd.moveO rfl) ?_); refine PL.frz hs 2 3 [(35, .tup [sL r32.1, bA r32.2]), (29, .tup [sL r32.1, bA r32.2]), (36, sL r32.1), (9, sL r32.1), (41, sL r32.1)] [some ⟨.tr (eL v8), 37, 1⟩, some ⟨.mx [iA x28.kind, iA x28.at_, iA x28.column.kind, iA x28.column.default.kind, iA x28.column.default.num, sA x28.column.default.text], 74, 0⟩, none] rfl rfl ⟨(.tupL ⟨(.own rfl (by decide) rfl rfl), (.t _), trivial⟩), (.tupL ⟨(.own rfl (by decide) rfl rfl), (.t _), trivial⟩), (.own rfl (by decide) rfl rfl), (.own rfl (by decide) rfl rfl), (.own rfl (by decide) rfl rfl), trivial⟩ ⟨⟨rfl, .inl rfl⟩, ⟨rfl, .inl rfl⟩, trivial⟩ ?_; refine PL.ef rfl (Ef.litM (α := (List I_Column)) [r32.1] [_] rfl rfl (by decide) rfl rfl rfl rfl) ?_; refine PL.nm (.os 3 0 1) [some ⟨.tr (eL v8), 37, 1⟩, some ⟨.mx [iA x28.kind, iA x28.at_, iA x28.column.kind, iA x28.column.default.kind, iA x28.column.default.num, sA x28.column.default.text], 74, 0⟩, none, some ⟨.tr (eL [r32.1]), 37, 1⟩] rfl rfl ?_; refine PL.apM hs rfl rfl rfl rfl (SrcA.ownE rfl rfl rfl) rfl rfl rfl rfl h_36 ?_; refine PL.nm (.os 4 0 xs35.length) [none, some ⟨.mx [iA x28.kind, iA x28.at_, iA x28.column.kind, iA x28.column.default.kind, iA x28.column.default.num, sA x28.column.default.text], 74, 0⟩, none, some ⟨.tr (eL [r32.1]), 37, 1⟩, some ⟨.tr (eL xs35), 37, 1⟩] rfl rfl ?_; refine PL.op rfl (Rd.asnO rfl) ?_; refine PL.nil ?_; refine inA_n ?_; refine thA_n ?_; obtain ⟨n37, h_38, hh1⟩ := bind_some hh1; refine PC.rg ?_; refine PL.op rfl (Rd.addM rfl rfl h_38) ?_; refine PL.mT rfl rfl ?_; refine PL.nil ?_; obtain rfl := some_in hh1; refine thA_n ?_; exact ⟨(f24, (n37, xs35)), Nat.lt_succ_self _, kk1, [some 4], ⟨rfl, rfl, ⟨⟨_, rfl, rfl, rfl, .tr _⟩, trivial⟩, ⟨.os rfl, .t _, .t _, .t _, trivial⟩⟩⟩
  clear hh0
  rintro v21 hh0
  replace hh0 : m_I_ChainOf_k1 N v21 = some r := hh0
  unfold m_I_ChainOf_k1 at hh0; refine thA_n ?_; refine PC.seq ?_; refine PC.rg ?_; refine PL.op rfl (Rd.moveO rfl) ?_; refine PL.op rfl (Rd.asnO rfl) ?_; refine PL.aT rfl rfl ?_; refine PL.nn ?_; refine PC.ret ?_; obtain rfl := some_in hh0; exact FinA.mk (r := .tup [.os 0 0 (((v21, true).1).length), bA ((v21, true).2)]) (bl := [⟨.tr (eL ((v21, true).1)), 37, 1⟩]) [some 0] (.inl rfl) rfl (rl := [.tmp 4, .tmp 5]) (.tmp (.tmp .nil)) rfl rfl rfl (.tupL ⟨.os rfl, .t _, trivial⟩) ⟨⟨_, rfl, rfl, rfl, .tr _⟩, trivial⟩ ⟨rfl, rfl⟩
def m_I_RowFits_k1 (N : Nat) : Option (Bool) :=
  some true
def m_I_RowFits_b1 (N : Nat) (p_f : (List I_Column)) (p_row : (List I_Value)) (i5 : Int) : Option (Int ⊕ (Unit ⊕ Bool)) :=
  cond (decide (i5 < (p_row.length : Int)))
    ((ixI p_row i5).bind fun x26 =>
    (m_I_ValidValue N x26).bind fun r28 =>
    cond r28
      (cond (decide (x26.kind = (0 : Int)))
        ((chk (i5 + (1 : Int))).bind fun n34 =>
        some (.inl n34))
        ((ixI p_f i5).bind fun x32 =>
        cond (decide (x26.kind = x32.kind))
          ((chk (i5 + (1 : Int))).bind fun n37 =>
          some (.inl n37))
          (some (.inr (.inr false)))))
      (some (.inr (.inr false))))
    (some (.inr (.inl ())))
def m_I_RowFits (N : Nat) (p_f : (List I_Column)) (p_row : (List I_Value)) : Option (Bool) :=
  (m_I_ValidFormat N p_f).bind fun r1 =>
  cond r1
    (cond (decide ((p_row.length : Int) = (p_f.length : Int)))
      ((loopM (β := Unit ⊕ Bool) (fun s : Int => m_I_RowFits_b1 N p_f p_row s) N (0 : Int)).bind fun o => match o with
      | .inl e =>
        m_I_RowFits_k1 N 
      | .inr v =>
        some v)
      (some false))
    (some false)
theorem w_I_RowFits (N : Nat) (p_f : (List I_Column)) (p_row : (List I_Value)) (r : Bool) (hh0 : m_I_RowFits N p_f p_row = some r) : FnX Tryz.prog 75 [] [sL p_f, sL p_row] (RE (bA r) []) := by
  unfold m_I_RowFits at hh0; refine FnX.mk Tryz.func75 rfl rfl ?_; intro s hs; refine PC.seq ?_; refine PC.rg ?_; refine PL.aT rfl rfl ?_; refine PL.nn ?_; (iterate 2 refine PC.seq ?_); obtain ⟨r1, h_2, hh0⟩ := bind_some hh0; rcases cond_some hh0 with ⟨h_3, hh0⟩ | ⟨h_3, hh0⟩; rotate_left
  · refine PC.rg ?_; refine PL.mT rfl rfl ?_; refine PL.callM false [] (w_I_ValidFormat N p_f r1 h_2) rfl Tryz.call46 rfl ⟨.t _, trivial⟩ rfl trivial (fun h => by cases h) ?_; refine PL.op rfl (Rd.unnot rfl) ?_; refine PL.mT rfl rfl ?_; (iterate 5 refine PL.gf rfl rfl (not_f h_3) ?_); refine PL.op rfl (Rd.pick_t rfl (not_f h_3)) ?_; refine PL.nn ?_; refine PC.ct rfl rfl ?_; refine PC.seq ?_; refine PC.rg ?_; refine PL.aT rfl rfl ?_; refine PL.nn ?_; refine PC.ret ?_; refine thA_r ?_; obtain rfl := some_in hh0; exact FinA.mk (r := bA false) (bl := []) [] (.inl rfl) rfl (rl := [.tmp 4]) (.tmp .nil) rfl rfl rfl (.t _) trivial ⟨rfl, rfl⟩
  refine PC.rg ?_; refine PL.mT rfl rfl ?_; refine PL.callM false [] (w_I_ValidFormat N p_f r1 h_2) rfl Tryz.call46 rfl ⟨.t _, trivial⟩ rfl trivial (fun h => by cases h) ?_; refine PL.op rfl (Rd.unnot rfl) ?_; refine PL.mT rfl rfl ?_; refine PL.gn rfl (not_t h_3) ?_; refine PL.mT rfl rfl ?_; refine PL.gn rfl (not_t h_3) ?_; refine PL.op rfl (Rd.lenT rfl) ?_; refine PL.gn rfl (not_t h_3) ?_; refine PL.mT rfl rfl ?_; refine PL.gn rfl (not_t h_3) ?_; refine PL.op rfl (Rd.lenT rfl) ?_; refine PL.gn rfl (not_t h_3) ?_; refine PL.op rfl (Rd.neq rfl rfl) ?_; refine PL.op rfl (Rd.pick_f rfl (not_t h_3)) ?_; refine PL.nn ?_; rcases cond_some hh0 with ⟨h_4, hh0⟩ | ⟨h_4, hh0⟩; rotate_left
  · refine PC.ct rfl (not_f h_4) ?_; refine PC.seq ?_; refine PC.rg ?_; refine PL.aT rfl rfl ?_; refine PL.nn ?_; refine PC.ret ?_; refine thA_r ?_; obtain rfl := some_in hh0; exact FinA.mk (r := bA false) (bl := []) [] (.inl rfl) rfl (rl := [.tmp 4]) (.tmp .nil) rfl rfl rfl (.t _) trivial ⟨rfl, rfl⟩
  refine PC.cf rfl (not_t h_4) ?_; refine PC.skip ?_; refine thA_n ?_; (iterate 2 refine PC.seq ?_); refine PC.rg ?_; refine PL.mT rfl rfl ?_; refine PL.op rfl (Rd.lenT rfl) ?_; refine PL.mT rfl rfl ?_; refine PL.nn ?_; obtain ⟨o20, h_21, hh0⟩ := bind_some hh0; refine PC.cutE hs (fun x : Unit => []) (fun x => []) (fun x => m_I_RowFits_k1 N  = some r) ?_ ?_
  · refine PC.block ?_; refine PC.loop hs (fun x : Nat × (Int) => [(0, sL p_f), (17, sL p_row), (18, iA (p_row.length : Int)), (19, iA x.2)]) (fun x => []) (fun x => loopM (β := Unit ⊕ Bool) (fun s : Int => m_I_RowFits_b1 N p_f p_row s) x.1 x.2 = some o20) (fun x => x.1) (N, (0 : Int)) [] ⟨rfl, rfl, trivial, ⟨.t _, .t _, .t _, .t _, trivial⟩⟩ h_21 ?_
    rintro ⟨f22_, i5⟩ h_24
    obtain ⟨f22, y23, rfl, hh1, kk1⟩ := loopM_some h_24
    replace hh1 : m_I_RowFits_b1 N p_f p_row i5 = some y23 := hh1
    unfold m_I_RowFits_b1 at hh1; refine PC.seq ?_; refine PC.rg ?_; refine PL.op rfl (Rd.lss rfl rfl) ?_; refine PL.nn ?_; refine PC.seq ?_; rcases cond_some hh1 with ⟨h_25, hh1⟩ | ⟨h_25, hh1⟩; rotate_left
    · refine PC.cf rfl h_25 ?_; refine PC.exit ?_; (iterate 2 refine thA_e ?_); refine inA_eq rfl ?_; refine thA_n ?_; obtain rfl := some_in hh1; obtain rfl : (.inl () : Unit ⊕ Bool) = o20 := kk1; exact ⟨(), hh0, [], ⟨rfl, rfl, trivial, trivial⟩⟩
    refine PC.ct rfl h_25 ?_; refine PC.skip ?_; refine thA_n ?_; refine PC.seq ?_; refine PC.block ?_; refine PC.seq ?_; obtain ⟨x26, h_27, hh1⟩ := bind_some hh1; refine PC.rg ?_; refine PL.mT rfl rfl ?_; refine PL.op rfl (Rd.ixM rfl rfl h_27) ?_; refine PL.op rfl (Rd.elMR rfl h_27 rfl rfl) ?_; refine PL.ef rfl (Ef.alloc rfl rfl) ?_; refine PL.nm (.op 0 0) [some ⟨.mx [iA (0 : Int), iA (0 : Int), sA ByteArray.empty], 64, 0⟩] rfl rfl ?_; refine PL.aT rfl rfl ?_; refine PL.store rfl rfl rfl rfl rfl rfl rfl ?_; refine PL.nO [some ⟨.mx [iA x26.kind, iA x26.num, sA x26.text], 64, 0⟩] rfl ?_; refine PL.nn ?_; refine PC.seq ?_; obtain ⟨r28, h_29, hh1⟩ := bind_some hh1; rcases cond_some hh1 with ⟨h_30, hh1⟩ | ⟨h_30, hh1⟩; rotate_left
    · refine PC.any (id := 6) 18 (.seg [0, 1, 2, 3, 4, 5, 6, 7, 8, 9, 10, 11, 12, 13, 14, 15, 16, 17] .done) [] rfl (by kernel_rfl) rfl ?_; refine PT.seg ?_; refine PR.op rfl (Rd.loadBox rfl rfl rfl) ?_; refine PR.callM false [] (w_I_ValidValue N x26 r28 h_29) rfl Tryz.call93 rfl ⟨.aggL ⟨.t _, .t _, .t _, trivial⟩, trivial⟩ rfl trivial (fun h => by cases h) rfl ?_; refine PR.op rfl (Rd.unnot rfl) ?_; refine PR.op rfl (Rd.moveT rfl) ?_; (iterate 4 refine PR.guard_off rfl rfl (not_f h_30) ?_); (iterate 8 refine PR.guard_un rfl rfl ?_); refine PR.guard_off rfl rfl (not_f h_30) ?_; refine PR.op rfl (Rd.pick_t rfl (not_f h_30)) ?_; refine PR.nil ?_; refine PT.done ?_; refine PL.nn ?_; refine PC.ct rfl rfl ?_; refine PC.seq ?_; refine PC.rg ?_; refine PL.aT rfl rfl ?_; refine PL.nn ?_; refine PC.ret ?_; refine inA_r ?_; (iterate 2 refine thA_r ?_); refine inA_r ?_; refine thA_r ?_; obtain rfl := some_in hh1; obtain rfl : (.inr false : Unit ⊕ Bool) = o20 := kk1; refine thA_r ?_; obtain rfl := some_in hh0; exact FinA.mk (r := bA false) (bl := []) [] (.inl rfl) rfl (rl := [.tmp 4]) (.tmp .nil) rfl rfl rfl (.t _) trivial ⟨rfl, rfl⟩
    rcases cond_some hh1 with ⟨h_31, hh1⟩ | ⟨h_31, hh1⟩
    · refine PC.any (id := 6) 18 (.seg [0, 1, 2, 3, 4, 5, 6, 7, 8, 9, 10, 11, 12, 13, 14, 15, 16, 17] .done) [] rfl (by kernel_rfl) rfl ?_; refine PT.seg ?_; refine PR.op rfl (Rd.loadBox rfl rfl rfl) ?_; refine PR.callM false [] (w_I_ValidValue N x26 r28 h_29) rfl Tryz.call93 rfl ⟨.aggL ⟨.t _, .t _, .t _, trivial⟩, trivial⟩ rfl trivial (fun h => by cases h) rfl ?_; refine PR.op rfl (Rd.unnot rfl) ?_; refine PR.op rfl (Rd.moveT rfl) ?_; refine PR.guard_on rfl rfl (not_t h_30) ?_; refine PR.op rfl (Rd.fieldO rfl rfl) ?_; refine PR.guard_on rfl rfl (not_t h_30) ?_; refine PR.op rfl (Rd.loadO rfl rfl rfl) ?_; refine PR.guard_on rfl rfl (not_t h_30) ?_; refine PR.op rfl (Rd.neq rfl rfl) ?_; refine PR.guard_on rfl rfl (not_t h_30) ?_; refine PR.op rfl (Rd.moveT rfl) ?_; (iterate 8 refine PR.guard_off rfl rfl (not_t h_31) ?_); refine PR.guard_on rfl rfl (not_t h_30) ?_; refine PR.op rfl (Rd.pick_f rfl (not_t h_31)) ?_; refine PR.op rfl (Rd.pick_f rfl (not_t h_30)) ?_; refine PR.nil ?_; refine PT.done ?_; refine PL.nn ?_; refine PC.cf rfl rfl ?_; refine PC.skip ?_; refine inA_n ?_; refine thA_n ?_; obtain ⟨n34, h_35, hh1⟩ := bind_some hh1; refine PC.rg ?_; refine PL.op rfl (Rd.addM rfl rfl h_35) ?_; refine PL.mT rfl rfl ?_; refine PL.nil ?_; obtain rfl := some_in hh1; refine thA_n ?_; exact ⟨(f22, n34), Nat.lt_succ_self _, kk1, [], ⟨rfl, rfl, trivial, ⟨.t _, .t _, .t _, .t _, trivial⟩⟩⟩
    obtain ⟨x32, h_33, hh1⟩ := bind_some hh1; refine PC.any (id := 6) 18 (.seg [0, 1, 2, 3, 4, 5, 6, 7, 8, 9, 10, 11, 12, 13, 14, 15, 16, 17] .done) [] rfl (by kernel_rfl) rfl ?_; refine PT.seg ?_; refine PR.op rfl (Rd.loadBox rfl rfl rfl) ?_; refine PR.callM false [] (w_I_ValidValue N x26 r28 h_29) rfl Tryz.call93 rfl ⟨.aggL ⟨.t _, .t _, .t _, trivial⟩, trivial⟩ rfl trivial (fun h => by cases h) rfl ?_; refine PR.op rfl (Rd.unnot rfl) ?_; refine PR.op rfl (Rd.moveT rfl) ?_; refine PR.guard_on rfl rfl (not_t h_30) ?_; refine PR.op rfl (Rd.fieldO rfl rfl) ?_; refine PR.guard_on rfl rfl (not_t h_30) ?_; refine PR.op rfl (Rd.loadO rfl rfl rfl) ?_; refine PR.guard_on rfl rfl (not_t h_30) ?_; refine PR.op rfl (Rd.neq rfl rfl) ?_; refine PR.guard_on rfl rfl (not_t h_30) ?_; refine PR.op rfl (Rd.moveT rfl) ?_; refine PR.guard_on rfl rfl (not_f h_31) ?_; refine PR.op rfl (Rd.fieldO rfl rfl) ?_; refine PR.guard_on rfl rfl (not_f h_31) ?_; refine PR.op rfl (Rd.loadO rfl rfl rfl) ?_; refine PR.guard_on rfl rfl (not_f h_31) ?_; refine PR.op rfl (Rd.moveT rfl) ?_; refine PR.guard_on rfl rfl (not_f h_31) ?_; refine PR.op rfl (Rd.moveT rfl) ?_; refine PR.guard_on rfl rfl (not_f h_31) ?_; refine PR.op rfl (Rd.ixM rfl rfl h_33) ?_; refine PR.guard_on rfl rfl (not_f h_31) ?_; refine PR.op rfl (Rd.fieldT rfl) ?_; refine PR.guard_on rfl rfl (not_f h_31) ?_; refine PR.op rfl (Rd.elMF (f := 0) rfl h_33 rfl rfl) ?_; refine PR.guard_on rfl rfl (not_f h_31) ?_; refine PR.op rfl (Rd.neq rfl rfl) ?_; refine PR.guard_on rfl rfl (not_t h_30) ?_; refine PR.op rfl (Rd.pick_t rfl (not_f h_31)) ?_; refine PR.op rfl (Rd.pick_f rfl (not_t h_30)) ?_; refine PR.nil ?_; refine PT.done ?_; refine PL.nn ?_; rcases cond_some hh1 with ⟨h_36, hh1⟩ | ⟨h_36, hh1⟩
    · refine PC.cf rfl (not_t h_36) ?_; refine PC.skip ?_; refine inA_n ?_; refine thA_n ?_; obtain ⟨n37, h_38, hh1⟩ := bind_some hh1; refine PC.rg ?_; refine PL.op rfl (Rd.addM rfl rfl h_38) ?_; refine PL.mT rfl rfl ?_; refine PL.nil ?_; obtain rfl := some_in hh1; refine thA_n ?_; exact ⟨(f22, n37), Nat.lt_succ_self _, kk1, [], ⟨rfl, rfl, trivial, ⟨.t _, .t _, .t _, .t _, trivial⟩⟩⟩
    refine PC.ct rfl (not_f h_36) ?_; refine PC.seq ?_; refine PC.rg ?_; refine PL.aT rfl rfl ?_; refine PL.nn ?_; refine PC.ret ?_; refine inA_r ?_; (iterate 2 refine thA_r ?_); refine inA_r ?_; refine thA_r ?_; obtain rfl := some_in hh1; obtain rfl : (.inr false : Unit ⊕ Bool) = o20 := kk1; refine thA_r ?_; obtain rfl := some_in hh0; exact FinA.mk (r := bA false) (bl := []) [] (.inl rfl) rfl (rl := [.tmp 4]) (.tmp .nil) rfl rfl rfl (.t _) trivial ⟨rfl, rfl⟩
  clear hh0
  rintro ⟨⟩ hh0
  replace hh0 : m_I_RowFits_k1 N  = some r := hh0
  unfold m_I_RowFits_k1 at hh0; refine thA_n ?_; refine PC.seq ?_; refine PC.rg ?_; refine PL.aT rfl rfl ?_; refine PL.nn ?_; refine PC.ret ?_; obtain rfl := some_in hh0; exact FinA.mk (r := bA true) (bl := []) [] (.inl rfl) rfl (rl := [.tmp 4]) (.tmp .nil) rfl rfl rfl (.t _) trivial ⟨rfl, rfl⟩
def m_I_Table_last (N : Nat) (p_t : I_Table) : Option (Int) :=
  some (p_t.changes.length : Int)
theorem w_I_Table_last (N : Nat) (p_t : I_Table) (r : Int) (hh0 : m_I_Table_last N p_t = some r) : FnX Tryz.prog 76 [] [.agg [sL p_t.first, sL p_t.changes, sL p_t.rows]] (RE (iA r) []) := by
  unfold m_I_Table_last at hh0; refine FnX.mk Tryz.func76 rfl rfl ?_; intro s hs; refine PC.seq ?_; refine PC.rg ?_; refine PL.ef rfl (Ef.box rfl rfl rfl) ?_; refine PL.nm (.op 0 0) [some ⟨.mx [sL p_t.first, sL p_t.changes, sL p_t.rows], 41, 0⟩] rfl rfl ?_; refine PL.aT rfl rfl ?_; refine PL.nn ?_; refine PC.seq ?_; refine PC.rg ?_; refine PL.op rfl (Rd.fieldO rfl rfl) ?_; refine PL.op rfl (Rd.loadO rfl rfl rfl) ?_; refine PL.op rfl (Rd.lenT rfl) ?_; refine PL.aT rfl rfl ?_; refine PL.nn ?_; refine PC.ret ?_; obtain rfl := some_in hh0; exact FinA.mk (r := iA (p_t.changes.length : Int)) (bl := []) [] (.inl rfl) rfl (rl := [.tmp 2]) (.tmp .nil) rfl rfl rfl (.t _) trivial ⟨rfl, rfl⟩
def m_I_Table_lastFormat_k1 (N : Nat) (p_t : I_Table) (r1 : ((List (List I_Column)) × Bool)) : Option ((List I_Column) × Bool) :=
  (m_I_Table_last N p_t).bind fun r23 =>
  (ixI r1.1 r23).bind fun x25 =>
  some (x25, true)
def m_I_Table_lastFormat_b1 (N : Nat) (p_t : I_Table) (r1 : ((List (List I_Column)) × Bool)) (i5 : Int) : Option (Int ⊕ (Unit ⊕ ((List I_Column) × Bool))) :=
  cond (decide (i5 < (p_t.rows.length : Int)))
    ((ixI p_t.rows i5).bind fun x28 =>
    cond (decide (x28.tag < (0 : Int)))
      (some (.inr (.inr (([] : List I_Column), false))))
      (cond (decide ((r1.1.length : Int) ≤ x28.tag))
        (some (.inr (.inr (([] : List I_Column), false))))
        ((ixI r1.1 x28.tag).bind fun x32 =>
        (m_I_RowFits N x32 x28.row).bind fun r34 =>
        cond r34
          ((chk (i5 + (1 : Int))).bind fun n37 =>
          some (.inl n37))
          (some (.inr (.inr (([] : List I_Column), false)))))))
    (some (.inr (.inl ())))
def m_I_Table_lastFormat (N : Nat) (p_t : I_Table) : Option ((List I_Column) × Bool) :=
  (m_I_ChainOf N p_t.first p_t.changes).bind fun r1 =>
  cond r1.2
    (cond (decide ((10 : Int) < (p_t.rows.length : Int)))
      (some (([] : List I_Column), false))
      ((loopM (β := Unit ⊕ ((List I_Column) × Bool)) (fun s : Int => m_I_Table_lastFormat_b1 N p_t r1 s) N (0 : Int)).bind fun o => match o with
      | .inl e =>
        m_I_Table_lastFormat_k1 N p_t r1 
      | .inr v =>
        some v))
    (some (([] : List I_Column), false))
theorem w_I_Table_lastFormat (N : Nat) (p_t : I_Table) (r : (List I_Column) × Bool) (hh0 : m_I_Table_lastFormat N p_t = some r) : FnX Tryz.prog 72 [] [.agg [sL p_t.first, sL p_t.changes, sL p_t.rows]] (RE (.tup [sL r.1, bA r.2]) []) := by
  unfold m_I_Table_lastFormat at hh0; refine FnX.mk Tryz.func72 rfl rfl ?_; intro s hs; refine PC.seq ?_; refine PC.rg ?_; refine PL.ef rfl (Ef.box rfl rfl rfl) ?_; refine PL.nm (.op 0 0) [some ⟨.mx [sL p_t.first, sL p_t.changes, sL p_t.rows], 41, 0⟩] rfl rfl ?_; (iterate 2 refine PL.aT rfl rfl ?_); refine PL.nn ?_; refine PC.seq ?_; obtain ⟨r1, h_2, hh0⟩ := bind_some hh0; refine PC.rg ?_; refine PL.op rfl (Rd.fieldO rfl rfl) ?_; refine PL.op rfl (Rd.loadO rfl rfl rfl) ?_; refine PL.op rfl (Rd.fieldO rfl rfl) ?_; refine PL.op rfl (Rd.loadO rfl rfl rfl) ?_; refine PL.callM false [] (w_I_ChainOf N p_t.first p_t.changes r1 h_2) rfl Tryz.call95 rfl ⟨.t _, .t _, trivial⟩ rfl trivial (fun h => by cases h) ?_; refine PL.nm (.tup [.os 1 0 r1.1.length, bA r1.2]) [some ⟨.mx [sL p_t.first, sL p_t.changes, sL p_t.rows], 41, 0⟩, some ⟨.tr (eL r1.1), 37, 1⟩] rfl rfl ?_; refine PL.op rfl (Rd.moveU rfl) ?_; (iterate 2 refine PL.op rfl (Rd.extract rfl rfl) ?_); refine PL.op rfl (Rd.asnO rfl) ?_; refine PL.aT rfl rfl ?_; refine PL.nn ?_; (iterate 2 refine PC.seq ?_); rcases cond_some hh0 with ⟨h_3, hh0⟩ | ⟨h_3, hh0⟩; rotate_left
  · refine PC.rg ?_; refine PL.mT rfl rfl ?_; refine PL.op rfl (Rd.unnot rfl) ?_; refine PL.mT rfl rfl ?_; (iterate 4 refine PL.gf rfl rfl (not_f h_3) ?_); refine PL.op rfl (Rd.pick_t rfl (not_f h_3)) ?_; refine PL.nn ?_; refine PC.ct rfl rfl ?_; refine PC.seq ?_; refine PC.rg ?_; (iterate 2 refine PL.aT rfl rfl ?_); refine PL.nn ?_; refine PC.ret ?_; refine thA_r ?_; obtain rfl := some_in hh0; exact FinA.mk (r := .tup [sL ((([] : List I_Column), false).1), bA ((([] : List I_Column), false).2)]) (bl := []) [] (.inl rfl) rfl (rl := [.tmp 2, .tmp 3]) (.tmp (.tmp .nil)) rfl rfl rfl (.tupL ⟨Sb.nilE, .t _, trivial⟩) trivial ⟨rfl, rfl⟩
  refine PC.rg ?_; refine PL.mT rfl rfl ?_; refine PL.op rfl (Rd.unnot rfl) ?_; refine PL.mT rfl rfl ?_; refine PL.gn rfl (not_t h_3) ?_; refine PL.op rfl (Rd.fieldO rfl rfl) ?_; refine PL.gn rfl (not_t h_3) ?_; refine PL.op rfl (Rd.loadO rfl rfl rfl) ?_; refine PL.gn rfl (not_t h_3) ?_; refine PL.op rfl (Rd.lenT rfl) ?_; refine PL.gn rfl (not_t h_3) ?_; refine PL.op rfl (Rd.gtr rfl rfl) ?_; refine PL.op rfl (Rd.pick_f rfl (not_t h_3)) ?_; refine PL.nn ?_; rcases cond_some hh0 with ⟨h_4, hh0⟩ | ⟨h_4, hh0⟩
  · refine PC.ct rfl h_4 ?_; refine PC.seq ?_; refine PC.rg ?_; (iterate 2 refine PL.aT rfl rfl ?_); refine PL.nn ?_; refine PC.ret ?_; refine thA_r ?_; obtain rfl := some_in hh0; exact FinA.mk (r := .tup [sL ((([] : List I_Column), false).1), bA ((([] : List I_Column), false).2)]) (bl := []) [] (.inl rfl) rfl (rl := [.tmp 2, .tmp 3]) (.tmp (.tmp .nil)) rfl rfl rfl (.tupL ⟨Sb.nilE, .t _, trivial⟩) trivial ⟨rfl, rfl⟩
  refine PC.cf rfl h_4 ?_; refine PC.skip ?_; refine thA_n ?_; (iterate 2 refine PC.seq ?_); refine PC.rg ?_; refine PL.op rfl (Rd.fieldO rfl rfl) ?_; refine PL.op rfl (Rd.loadO rfl rfl rfl) ?_; refine PL.op rfl (Rd.lenT rfl) ?_; refine PL.mT rfl rfl ?_; refine PL.nn ?_; obtain ⟨o18, h_19, hh0⟩ := bind_some hh0; refine PC.cutE hs (fun x : Unit => [(1, .op 0 0), (4, .os 1 0 r1.1.length)]) (fun x => [⟨.mx [sL p_t.first, sL p_t.changes, sL p_t.rows], 41, 0⟩, ⟨.tr (eL r1.1), 37, 1⟩]) (fun x => m_I_Table_lastFormat_k1 N p_t r1  = some r) ?_ ?_
  · refine PC.block ?_; refine PC.loop hs (fun x : Nat × (Int) => [(1, .op 0 0), (4, .os 1 0 r1.1.length), (25, sL p_t.rows), (26, iA (p_t.rows.length : Int)), (27, iA x.2)]) (fun x => [⟨.mx [sL p_t.first, sL p_t.changes, sL p_t.rows], 41, 0⟩, ⟨.tr (eL r1.1), 37, 1⟩]) (fun x => loopM (β := Unit ⊕ ((List I_Column) × Bool)) (fun s : Int => m_I_Table_lastFormat_b1 N p_t r1 s) x.1 x.2 = some o18) (fun x => x.1) (N, (0 : Int)) [some 0, some 1] ⟨rfl, rfl, ⟨⟨_, rfl, rfl, rfl, .mx ⟨.t _, .t _, .t _, trivial⟩⟩, ⟨_, rfl, rfl, rfl, .tr _⟩, trivial⟩, ⟨.op rfl, .os rfl, .t _, .t _, .t _, trivial⟩⟩ h_19 ?_
    rintro ⟨f20_, i5⟩ h_22
    obtain ⟨f20, y21, rfl, hh1, kk1⟩ := loopM_some h_22
    replace hh1 : m_I_Table_lastFormat_b1 N p_t r1 i5 = some y21 := hh1
    unfold m_I_Table_lastFormat_b1 at hh1; refine PC.seq ?_; refine PC.rg ?_; refine PL.op rfl (Rd.lss rfl rfl) ?_; refine PL.nn ?_; refine PC.seq ?_; rcases cond_some hh1 with ⟨h_27, hh1⟩ | ⟨h_27, hh1⟩; rotate_left
    · refine PC.cf rfl h_27 ?_; refine PC.exit ?_; (iterate 2 refine thA_e ?_); refine inA_eq rfl ?_; refine thA_n ?_; obtain rfl := some_in hh1; obtain rfl : (.inl () : Unit ⊕ ((List I_Column) × Bool)) = o18 := kk1; exact ⟨(), hh0, [some 0, some 1], ⟨rfl, rfl, ⟨⟨_, rfl, rfl, rfl, .mx ⟨.t _, .t _, .t _, trivial⟩⟩, ⟨_, rfl, rfl, rfl, .tr _⟩, trivial⟩, ⟨.op rfl, .os rfl, trivial⟩⟩⟩
    refine PC.ct rfl h_27 ?_; refine PC.skip ?_; refine thA_n ?_; refine PC.seq ?_; refine PC.block ?_; refine PC.seq ?_; obtain ⟨x28, h_29, hh1⟩ := bind_some hh1; refine PC.rg ?_; refine PL.op rfl (Rd.ixM rfl rfl h_29) ?_; refine PL.op rfl (Rd.elMR rfl h_29 rfl rfl) ?_; refine PL.ef rfl (Ef.alloc rfl rfl) ?_; refine PL.nm (.op 2 0) [some ⟨.mx [sL p_t.first, sL p_t.changes, sL p_t.rows], 41, 0⟩, some ⟨.tr (eL r1.1), 37, 1⟩, some ⟨.mx [iA (0 : Int), .t (.v (.slice none 0 0))], 106, 0⟩] rfl rfl ?_; refine PL.store rfl rfl rfl rfl rfl rfl rfl ?_; refine PL.nO [some ⟨.mx [sL p_t.first, sL p_t.changes, sL p_t.rows], 41, 0⟩, some ⟨.tr (eL r1.1), 37, 1⟩, some ⟨.mx [iA x28.tag, sL x28.row], 106, 0⟩] rfl ?_; refine PL.nn ?_; refine PC.seq ?_; rcases cond_some hh1 with ⟨h_30, hh1⟩ | ⟨h_30, hh1⟩
    · refine PC.any (id := 7) 21 (.seg [0, 1, 2, 3, 4, 5, 6, 7, 8, 9, 10, 11, 12, 13, 14, 15, 16, 17, 18, 19, 20] .done) [] rfl (by kernel_rfl) rfl ?_; refine PT.seg ?_; refine PR.op rfl (Rd.fieldO rfl rfl) ?_; refine PR.op rfl (Rd.loadO rfl rfl rfl) ?_; refine PR.op rfl (Rd.lss rfl rfl) ?_; refine PR.op rfl (Rd.moveT rfl) ?_; (iterate 5 refine PR.guard_off rfl rfl h_30 ?_); refine PR.op rfl (Rd.pick_t rfl h_30) ?_; refine PR.op rfl (Rd.moveT rfl) ?_; (iterate 9 refine PR.guard_off rfl rfl rfl ?_); refine PR.op rfl (Rd.pick_t rfl rfl) ?_; refine PR.nil ?_; refine PT.done ?_; refine PL.nn ?_; refine PC.ct rfl rfl ?_; refine PC.seq ?_; refine PC.rg ?_; (iterate 2 refine PL.aT rfl rfl ?_); refine PL.nn ?_; refine PC.ret ?_; refine inA_r ?_; (iterate 2 refine thA_r ?_); refine inA_r ?_; refine thA_r ?_; obtain rfl := some_in hh1; obtain rfl : (.inr (([] : List I_Column), false) : Unit ⊕ ((List I_Column) × Bool)) = o18 := kk1; refine thA_r ?_; obtain rfl := some_in hh0; exact FinA.mk (r := .tup [sL ((([] : List I_Column), false).1), bA ((([] : List I_Column), false).2)]) (bl := []) [] (.inl rfl) rfl (rl := [.tmp 2, .tmp 3]) (.tmp (.tmp .nil)) rfl rfl rfl (.tupL ⟨Sb.nilE, .t _, trivial⟩) trivial ⟨rfl, rfl⟩
    rcases cond_some hh1 with ⟨h_31, hh1⟩ | ⟨h_31, hh1⟩
    · refine PC.any (id := 7) 21 (.seg [0, 1, 2, 3, 4, 5, 6, 7, 8, 9, 10, 11, 12, 13, 14, 15, 16, 17, 18, 19, 20] .done) [] rfl (by kernel_rfl) rfl ?_; refine PT.seg ?_; refine PR.op rfl (Rd.fieldO rfl rfl) ?_; refine PR.op rfl (Rd.loadO rfl rfl rfl) ?_; refine PR.op rfl (Rd.lss rfl rfl) ?_; refine PR.op rfl (Rd.moveT rfl) ?_; refine PR.guard_on rfl rfl h_30 ?_; refine PR.op rfl (Rd.fieldO rfl rfl) ?_; refine PR.guard_on rfl rfl h_30 ?_; refine PR.op rfl (Rd.loadO rfl rfl rfl) ?_; refine PR.guard_on rfl rfl h_30 ?_; refine PR.op rfl (Rd.moveO rfl) ?_; refine PR.guard_on rfl rfl h_30 ?_; refine PR.op rfl (Rd.lenO rfl rfl) ?_; refine PR.guard_on rfl rfl h_30 ?_; refine PR.op rfl (Rd.geq rfl rfl) ?_; refine PR.op rfl (Rd.pick_f rfl h_30) ?_; refine PR.op rfl (Rd.moveT rfl) ?_; (iterate 9 refine PR.guard_off rfl rfl h_31 ?_); refine PR.op rfl (Rd.pick_t rfl h_31) ?_; refine PR.nil ?_; refine PT.done ?_; refine PL.nn ?_; refine PC.ct rfl rfl ?_; refine PC.seq ?_; refine PC.rg ?_; (iterate 2 refine PL.aT rfl rfl ?_); refine PL.nn ?_; refine PC.ret ?_; refine inA_r ?_; (iterate 2 refine thA_r ?_); refine inA_r ?_; refine thA_r ?_; obtain rfl := some_in hh1; obtain rfl : (.inr (([] : List I_Column), false) : Unit ⊕ ((List I_Column) × Bool)) = o18 := kk1; refine thA_r ?_; obtain rfl := some_in hh0; exact FinA.mk (r := .tup [sL ((([] : List I_Column), false).1), bA ((([] : List I_Column), false).2)]) (bl := []) [] (.inl rfl) rfl (rl := [.tmp 2, .tmp 3]) (.tmp (.tmp .nil)) rfl rfl rfl (.tupL ⟨Sb.nilE, .t _, trivial⟩) trivial ⟨rfl, rfl⟩
    obtain ⟨x32, h_33, hh1⟩ := bind_some hh1; obtain ⟨r34, h_35, hh1⟩ := bind_some hh1; refine PC.any (id := 7) 21 (.seg [0, 1, 2, 3, 4, 5, 6, 7, 8, 9, 10, 11, 12, 13, 14, 15, 16, 17, 18, 19, 20] .done) [] rfl (by kernel_rfl) rfl ?_; refine PT.seg ?_; refine PR.op rfl (Rd.fieldO rfl rfl) ?_; refine PR.op rfl (Rd.loadO rfl rfl rfl) ?_; refine PR.op rfl (Rd.lss rfl rfl) ?_; refine PR.op rfl (Rd.moveT rfl) ?_; refine PR.guard_on rfl rfl h_30 ?_; refine PR.op rfl (Rd.fieldO rfl rfl) ?_; refine PR.guard_on rfl rfl h_30 ?_; refine PR.op rfl (Rd.loadO rfl rfl rfl) ?_; refine PR.guard_on rfl rfl h_30 ?_; refine PR.op rfl (Rd.moveO rfl) ?_; refine PR.guard_on rfl rfl h_30 ?_; refine PR.op rfl (Rd.lenO rfl rfl) ?_; refine PR.guard_on rfl rfl h_30 ?_; refine PR.op rfl (Rd.geq rfl rfl) ?_; refine PR.op rfl (Rd.pick_f rfl h_30) ?_; refine PR.op rfl (Rd.moveT rfl) ?_; refine PR.guard_on rfl rfl h_31 ?_; refine PR.op rfl (Rd.moveO rfl) ?_; refine PR.guard_on rfl rfl h_31 ?_; refine PR.op rfl (Rd.fieldO rfl rfl) ?_; refine PR.guard_on rfl rfl h_31 ?_; refine PR.op rfl (Rd.loadO rfl rfl rfl) ?_; refine PR.guard_on rfl rfl h_31 ?_; refine PR.ixOM rfl rfl rfl rfl (ixI_lt h_33) ?_; refine PR.guard_on rfl rfl h_31 ?_; refine PR.op rfl (Rd.owM1 rfl rfl h_33 rfl rfl) ?_; refine PR.guard_on rfl rfl h_31 ?_; refine PR.op rfl (Rd.fieldO rfl rfl) ?_; refine PR.guard_on rfl rfl h_31 ?_; refine PR.op rfl (Rd.loadO rfl rfl rfl) ?_; refine PR.guard_on rfl rfl h_31 ?_; refine PR.callM false [] (w_I_RowFits N x32 x28.row r34 h_35) rfl Tryz.call75 rfl ⟨.t _, .t _, trivial⟩ rfl trivial (fun h => by cases h) rfl ?_; refine PR.guard_on rfl rfl h_31 ?_; refine PR.op rfl (Rd.unnot rfl) ?_; refine PR.op rfl (Rd.pick_f rfl h_31) ?_; refine PR.nil ?_; refine PT.done ?_; refine PL.nn ?_; rcases cond_some hh1 with ⟨h_36, hh1⟩ | ⟨h_36, hh1⟩
    · refine PC.cf rfl (not_t h_36) ?_; refine PC.skip ?_; refine inA_n ?_; refine thA_n ?_; obtain ⟨n37, h_38, hh1⟩ := bind_some hh1; refine PC.rg ?_; refine PL.op rfl (Rd.addM rfl rfl h_38) ?_; refine PL.mT rfl rfl ?_; refine PL.nil ?_; obtain rfl := some_in hh1; refine thA_n ?_; exact ⟨(f20, n37), Nat.lt_succ_self _, kk1, [some 0, some 1], ⟨rfl, rfl, ⟨⟨_, rfl, rfl, rfl, .mx ⟨.t _, .t _, .t _, trivial⟩⟩, ⟨_, rfl, rfl, rfl, .tr _⟩, trivial⟩, ⟨.op rfl, .os rfl, .t _, .t _, .t _, trivial⟩⟩⟩
    refine PC.ct rfl (not_f h_36) ?_; refine PC.seq ?_; refine PC.rg ?_; (iterate 2 refine PL.aT rfl rfl ?_); refine PL.nn ?_; refine PC.ret ?_; refine inA_r ?_; (iterate 2 refine thA_r ?_); refine inA_r ?_; refine thA_r ?_; obtain rfl := some_in hh1; obtain rfl : (.inr (([] : List I_Column), false) : Unit ⊕ ((List I_Column) × Bool)) = o18 := kk1; refine thA_r ?_; obtain rfl := some_in hh0; exact FinA.mk (r := .tup [sL ((([] : List I_Column), false).1), bA ((([] : List I_Column), false).2)]) (bl := []) [] (.inl rfl) rfl (rl := [.tmp 2, .tmp 3]) (.tmp (.tmp .nil)) rfl rfl rfl (.tupL ⟨Sb.nilE, .t _, trivial⟩) trivial ⟨rfl, rfl⟩
  clear hh0
  rintro ⟨⟩ hh0
  replace hh0 : m_I_Table_lastFormat_k1 N p_t r1  = some r := hh0
  unfold m_I_Table_lastFormat_k1 at hh0; refine thA_n ?_; refine PC.seq ?_; obtain ⟨r23, h_24, hh0⟩ := bind_some hh0; obtain ⟨x25, h_26, hh0⟩ := bind_some hh0; refine PC.rg ?_; refine PL.op rfl (Rd.moveO rfl) ?_; refine PL.op rfl (Rd.loadBox rfl rfl rfl) ?_; refine PL.callM false [] (w_I_Table_last N p_t r23 h_24) rfl Tryz.call76 rfl ⟨.aggL ⟨.t _, .t _, .t _, trivial⟩, trivial⟩ rfl trivial (fun h => by cases h) ?_; refine PL.op rfl (Rd.ixOM rfl rfl rfl (ixI_lt h_26)) ?_; refine PL.op rfl (Rd.owM1 rfl rfl h_26 rfl rfl) ?_; (iterate 2 refine PL.aT rfl rfl ?_); refine PL.nn ?_; refine PC.ret ?_; obtain rfl := some_in hh0; exact FinA.mk (r := .tup [sL ((x25, true).1), bA ((x25, true).2)]) (bl := []) [] (.inl rfl) rfl (rl := [.tmp 2, .tmp 3]) (.tmp (.tmp .nil)) rfl rfl rfl (.tupL ⟨.t _, .t _, trivial⟩) trivial ⟨rfl, rfl⟩
def m_I_ValidTable (N : Nat) (p_t : I_Table) : Option (Bool) :=
  (m_I_Table_lastFormat N p_t).bind fun r1 =>
  some r1.2
theorem w_I_ValidTable (N : Nat) (p_t : I_Table) (r : Bool) (hh0 : m_I_ValidTable N p_t = some r) : FnX Tryz.prog 78 [] [.agg [sL p_t.first, sL p_t.changes, sL p_t.rows]] (RE (bA r) []) := by
  unfold m_I_ValidTable at hh0; refine FnX.mk Tryz.func78 rfl rfl ?_; intro s hs; refine PC.seq ?_; refine PC.rg ?_; refine PL.ef rfl (Ef.box rfl rfl rfl) ?_; refine PL.nm (.op 0 0) [some ⟨.mx [sL p_t.first, sL p_t.changes, sL p_t.rows], 41, 0⟩] rfl rfl ?_; refine PL.aT rfl rfl ?_; refine PL.nn ?_; refine PC.seq ?_; obtain ⟨r1, h_2, hh0⟩ := bind_some hh0; refine PC.rg ?_; refine PL.op rfl (Rd.loadBox rfl rfl rfl) ?_; refine PL.callM false [] (w_I_Table_lastFormat N p_t r1 h_2) rfl Tryz.call72 rfl ⟨.aggL ⟨.t _, .t _, .t _, trivial⟩, trivial⟩ rfl trivial (fun h => by cases h) ?_; refine PL.op rfl (Rd.moveU rfl) ?_; (iterate 2 refine PL.op rfl (Rd.extract rfl rfl) ?_); (iterate 2 refine PL.aT rfl rfl ?_); refine PL.nn ?_; refine PC.seq ?_; refine PC.rg ?_; refine PL.mT rfl rfl ?_; refine PL.aT rfl rfl ?_; refine PL.nn ?_; refine PC.ret ?_; obtain rfl := some_in hh0; exact FinA.mk (r := bA r1.2) (bl := []) [] (.inl rfl) rfl (rl := [.tmp 2]) (.tmp .nil) rfl rfl rfl (.t _) trivial ⟨rfl, rfl⟩
def m_S_copyColumns (N : Nat) (p_f : (List I_Column)) : Option ((List I_Column)) :=
  (appM 40 ([] : List I_Column) p_f).bind fun xs1 =>
  some xs1
theorem w_S_copyColumns (N : Nat) (p_f : (List I_Column)) (r : (List I_Column)) (hh0 : m_S_copyColumns N p_f = some r) : FnX Tryz.prog 102 [] [sL p_f] (RE (.os 0 0 r.length) [⟨.tr (eL r), 67, 4⟩]) := by
  unfold m_S_copyColumns at hh0; refine FnX.mk Tryz.func102 rfl rfl ?_; intro s hs; refine PC.seq ?_; refine PC.rg ?_; refine PL.aT rfl rfl ?_; refine PL.nn ?_; refine PC.seq ?_; obtain ⟨xs1, h_2, hh0⟩ := bind_some hh0; refine PC.rg ?_; refine PL.ef rfl (Ef.lit0M I_Column) ?_; refine PL.nm (.os 0 0 0) [some ⟨.tr (eL ([] : List I_Column)), 67, 4⟩] rfl rfl ?_; refine PL.mT rfl rfl ?_; refine PL.apM hs rfl rfl rfl rfl (SrcA.eL rfl) rfl rfl rfl rfl h_2 ?_; refine PL.nm (.os 1 0 xs1.length) [none, some ⟨.tr (eL xs1), 67, 4⟩] rfl rfl ?_; refine PL.op rfl (Rd.asnO rfl) ?_; refine PL.nn ?_; refine PC.ret ?_; obtain rfl := some_in hh0; exact FinA.mk (r := .os 0 0 xs1.length) (bl := [⟨.tr (eL xs1), 67, 4⟩]) [some 1] (.inl rfl) rfl (rl := [.tmp 2]) (.tmp .nil) rfl rfl rfl (.os rfl) ⟨⟨_, rfl, rfl, rfl, .tr _⟩, trivial⟩ ⟨rfl, rfl⟩
def m_S_decimal : Nat → Int → Option (ByteArray)
  | 0, _ => none
  | N + 1, p_n =>
    cond (decide (p_n < (0 : Int)))
      ((chk (-p_n)).bind fun n2 =>
      cond (decide (p_n = n2))
        (some (ByteArray.mk #[45, 57, 50, 50, 51, 51, 55, 50, 48, 51, 54, 56, 53, 52, 55, 55, 53, 56, 48, 56]))
        ((chk (-p_n)).bind fun n5 =>
        (m_S_decimal N n5).bind fun r7 =>
        (addS (ByteArray.mk #[45]) r7).bind fun s9 =>
        some s9))
      (cond (decide (p_n < (10 : Int)))
        ((chk ((48 : Int) + p_n)).bind fun n12 =>
        some (b2s [(i2b n12)]))
        ((quoM p_n (10 : Int)).bind fun n14 =>
        (m_S_decimal N n14).bind fun r16 =>
        (remM p_n (10 : Int)).bind fun n18 =>
        (chk ((48 : Int) + n18)).bind fun n20 =>
        (addS r16 (b2s [(i2b n20)])).bind fun s22 =>
        some s22))
theorem w_S_decimal : ∀ (N : Nat) (p_n : Int) (r : ByteArray) (hh0 : m_S_decimal N p_n = some r), FnX Tryz.prog 60 [] [iA p_n] (RE (sA r) []) := by
  intro N
  induction N with
  | zero =>
    intro p_n r hh0
    simp [m_S_decimal] at hh0
  | succ N ih =>
    intro p_n r hh0; unfold m_S_decimal at hh0; refine FnX.mk Tryz.func60 rfl rfl ?_; intro s hs; refine PC.seq ?_; refine PC.rg ?_; refine PL.aT rfl rfl ?_; refine PL.nn ?_; (iterate 2 refine PC.seq ?_); rcases cond_some hh0 with ⟨h_1, hh0⟩ | ⟨h_1, hh0⟩
    · obtain ⟨n2, h_3, hh0⟩ := bind_some hh0; refine PC.rg ?_; refine PL.mT rfl rfl ?_; refine PL.op rfl (Rd.lss rfl rfl) ?_; refine PL.mT rfl rfl ?_; refine PL.gn rfl h_1 ?_; refine PL.mT rfl rfl ?_; refine PL.gn rfl h_1 ?_; refine PL.mT rfl rfl ?_; refine PL.gn rfl h_1 ?_; refine PL.op rfl (Rd.negM rfl h_3) ?_; refine PL.gn rfl h_1 ?_; refine PL.op rfl (Rd.eql rfl rfl) ?_; refine PL.op rfl (Rd.pick_t rfl h_1) ?_; refine PL.nn ?_; rcases cond_some hh0 with ⟨h_4, hh0⟩ | ⟨h_4, hh0⟩
      · refine PC.ct rfl h_4 ?_; refine PC.seq ?_; refine PC.rg ?_; refine PL.aT rfl rfl ?_; refine PL.nn ?_; refine PC.ret ?_; refine thA_r ?_; obtain rfl := some_in hh0; exact FinA.mk (r := sA (ByteArray.mk #[45, 57, 50, 50, 51, 51, 55, 50, 48, 51, 54, 56, 53, 52, 55, 55, 53, 56, 48, 56])) (bl := []) [] (.inl rfl) rfl (rl := [.tmp 2]) (.tmp .nil) rfl rfl rfl (.t _) trivial ⟨rfl, rfl⟩
      refine PC.cf rfl h_4 ?_; refine PC.skip ?_; refine thA_n ?_; (iterate 2 refine PC.seq ?_); refine PC.rg ?_; refine PL.mT rfl rfl ?_; refine PL.op rfl (Rd.lss rfl rfl) ?_; refine PL.nn ?_; refine PC.ct rfl h_1 ?_; refine PC.seq ?_; obtain ⟨n5, h_6, hh0⟩ := bind_some hh0; obtain ⟨r7, h_8, hh0⟩ := bind_some hh0; obtain ⟨s9, h_10, hh0⟩ := bind_some hh0; refine PC.rg ?_; refine PL.mT rfl rfl ?_; refine PL.op rfl (Rd.negM rfl h_6) ?_; refine PL.callM false [] (ih n5 r7 h_8) rfl Tryz.call60 rfl ⟨.t _, trivial⟩ rfl trivial (fun h => by cases h) ?_; refine PL.op rfl (Rd.addSM rfl rfl h_10) ?_; refine PL.aT rfl rfl ?_; refine PL.nn ?_; refine PC.ret ?_; refine thA_r ?_; obtain rfl := some_in hh0; exact FinA.mk (r := sA s9) (bl := []) [] (.inl rfl) rfl (rl := [.tmp 2]) (.tmp .nil) rfl rfl rfl (.t _) trivial ⟨rfl, rfl⟩
    refine PC.rg ?_; refine PL.mT rfl rfl ?_; refine PL.op rfl (Rd.lss rfl rfl) ?_; refine PL.mT rfl rfl ?_; (iterate 4 refine PL.gf rfl rfl h_1 ?_); refine PL.op rfl (Rd.pick_f rfl h_1) ?_; refine PL.nn ?_; refine PC.cf rfl rfl ?_; refine PC.skip ?_; refine thA_n ?_; (iterate 2 refine PC.seq ?_); refine PC.rg ?_; refine PL.mT rfl rfl ?_; refine PL.op rfl (Rd.lss rfl rfl) ?_; refine PL.nn ?_; refine PC.cf rfl h_1 ?_; refine PC.skip ?_; refine thA_n ?_; (iterate 2 refine PC.seq ?_); refine PC.rg ?_; refine PL.mT rfl rfl ?_; refine PL.op rfl (Rd.lss rfl rfl) ?_; refine PL.nn ?_; rcases cond_some hh0 with ⟨h_11, hh0⟩ | ⟨h_11, hh0⟩
    · refine PC.ct rfl h_11 ?_; refine PC.seq ?_; obtain ⟨n12, h_13, hh0⟩ := bind_some hh0; refine PC.rg ?_; refine PL.mT rfl rfl ?_; refine PL.op rfl (Rd.addM rfl rfl h_13) ?_; refine PL.op rfl (Rd.toU8 rfl) ?_; refine PL.ef rfl (Ef.litM (α := UInt8) [(i2b n12)] [_] rfl rfl (by decide) rfl rfl rfl rfl) ?_; refine PL.nm (.os 0 0 1) [some ⟨.tr (eL [(i2b n12)]), 5, 1⟩] rfl rfl ?_; refine PL.op rfl (Rd.b2sO rfl rfl rfl) ?_; refine PL.aT rfl rfl ?_; refine PL.nn ?_; refine PC.ret ?_; refine thA_r ?_; obtain rfl := some_in hh0; exact FinA.mk (r := sA (b2s [(i2b n12)])) (bl := []) [] (.inl rfl) rfl (rl := [.tmp 2]) (.tmp .nil) rfl rfl rfl (.t _) trivial ⟨rfl, rfl⟩
    refine PC.cf rfl h_11 ?_; refine PC.skip ?_; refine thA_n ?_; obtain ⟨n14, h_15, hh0⟩ := bind_some hh0; obtain ⟨r16, h_17, hh0⟩ := bind_some hh0; obtain ⟨n18, h_19, hh0⟩ := bind_some hh0; obtain ⟨n20, h_21, hh0⟩ := bind_some hh0; obtain ⟨s22, h_23, hh0⟩ := bind_some hh0; refine PC.cut hs (fun _ : Unit => [(2, sA s22)]) (fun _ => []) (fun _ => True) ?_ ?_
    · refine PC.any (id := 7) 11 (.seg [0, 1, 3, 4, 5, 6] (.fork (.seg [2, 7, 8, 9, 10] .done) (.seg [7, 8, 2, 9, 10] .done))) [] rfl (by kernel_rfl) rfl ?_; refine PT.seg ?_; refine PR.op rfl (Rd.moveT rfl) ?_; refine PR.op rfl (Rd.quoM rfl rfl h_15) ?_; refine PR.op rfl (Rd.moveT rfl) ?_; refine PR.op rfl (Rd.remM rfl rfl h_19) ?_; refine PR.op rfl (Rd.addM rfl rfl h_21) ?_; refine PR.op rfl (Rd.toU8 rfl) ?_; refine PR.nil ?_; refine PT.fork ?_ ?_
      · refine PT.seg ?_; refine PR.callM false [] (ih n14 r16 h_17) rfl Tryz.call60 rfl ⟨.t _, trivial⟩ rfl trivial (fun h => by cases h) rfl ?_; refine PR.ef rfl rfl (Ef.litM (α := UInt8) [(i2b n20)] [_] rfl rfl (by decide) rfl rfl rfl rfl) ?_; refine PR.nm (.os 0 0 1) [some ⟨.tr (eL [(i2b n20)]), 5, 1⟩] rfl rfl ?_; refine PR.op rfl (Rd.b2sO rfl rfl rfl) ?_; refine PR.op rfl (Rd.addSM rfl rfl h_23) ?_; refine PR.op rfl (Rd.asnT rfl) ?_; refine PR.nil ?_; refine PT.done ?_; refine PL.nn ?_; exact ⟨(), trivial, [], ⟨rfl, rfl, trivial, ⟨.t _, trivial⟩⟩⟩
      refine PT.seg ?_; refine PR.ef rfl rfl (Ef.litM (α := UInt8) [(i2b n20)] [_] rfl rfl (by decide) rfl rfl rfl rfl) ?_; refine PR.nm (.os 0 0 1) [some ⟨.tr (eL [(i2b n20)]), 5, 1⟩] rfl rfl ?_; refine PR.op rfl (Rd.b2sO rfl rfl rfl) ?_; refine PR.callM false [] (ih n14 r16 h_17) rfl Tryz.call60 rfl ⟨.t _, trivial⟩ rfl trivial (fun h => by cases h) rfl ?_; refine PR.op rfl (Rd.addSM rfl rfl h_23) ?_; refine PR.op rfl (Rd.asnT rfl) ?_; refine PR.nil ?_; refine PT.done ?_; refine PL.nn ?_; exact ⟨(), trivial, [], ⟨rfl, rfl, trivial, ⟨.t _, trivial⟩⟩⟩
    rintro ⟨⟩ -
    refine PC.ret ?_; obtain rfl := some_in hh0; exact FinA.mk (r := sA s22) (bl := []) [] (.inl rfl) rfl (rl := [.tmp 2]) (.tmp .nil) rfl rfl rfl (.t _) trivial ⟨rfl, rfl⟩
def m_S_widen (N : Nat) (p_v : I_Value) : Option (I_Value) :=
  cond (decide (p_v.kind = (1 : Int)))
    ((m_S_decimal N p_v.num).bind fun r2 =>
    some (I_Value.mk (2 : Int) (0 : Int) r2))
    (some p_v)
theorem w_S_widen (N : Nat) (p_v : I_Value) (r : I_Value) (hh0 : m_S_widen N p_v = some r) : FnX Tryz.prog 120 [] [.agg [iA p_v.kind, iA p_v.num, sA p_v.text]] (RE (.agg [iA r.kind, iA r.num, sA r.text]) []) := by
  unfold m_S_widen at hh0; refine FnX.mk Tryz.func120 rfl rfl ?_; intro s hs; refine PC.seq ?_; refine PC.rg ?_; refine PL.ef rfl (Ef.box rfl rfl rfl) ?_; refine PL.nm (.op 0 0) [some ⟨.mx [iA p_v.kind, iA p_v.num, sA p_v.text], 64, 0⟩] rfl rfl ?_; refine PL.ef rfl (Ef.alloc rfl rfl) ?_; refine PL.nm (.op 1 0) [some ⟨.mx [iA p_v.kind, iA p_v.num, sA p_v.text], 64, 0⟩, some ⟨.mx [iA (0 : Int), iA (0 : Int), sA ByteArray.empty], 64, 0⟩] rfl rfl ?_; refine PL.nn ?_; (iterate 2 refine PC.seq ?_); refine PC.rg ?_; refine PL.op rfl (Rd.fieldO rfl rfl) ?_; refine PL.op rfl (Rd.loadO rfl rfl rfl) ?_; refine PL.op rfl (Rd.neq rfl rfl) ?_; refine PL.nn ?_; rcases cond_some hh0 with ⟨h_1, hh0⟩ | ⟨h_1, hh0⟩; rotate_left
  · refine PC.ct rfl (not_f h_1) ?_; refine PC.seq ?_; refine PC.rg ?_; refine PL.op rfl (Rd.loadBox rfl rfl rfl) ?_; refine PL.store rfl rfl rfl rfl rfl rfl rfl ?_; refine PL.nO [some ⟨.mx [iA p_v.kind, iA p_v.num, sA p_v.text], 64, 0⟩, some ⟨.mx [iA p_v.kind, iA p_v.num, sA p_v.text], 64, 0⟩] rfl ?_; refine PL.nn ?_; refine PC.ret ?_; refine thA_r ?_; obtain rfl := some_in hh0; exact FinA.mk (r := .agg [iA p_v.kind, iA p_v.num, sA p_v.text]) (bl := []) [] (.inl rfl) rfl (rl := [.cell 2 64]) (.cellN rfl rfl rfl rfl .nil) rfl rfl rfl (.aggL ⟨.t _, .t _, .t _, trivial⟩) trivial ⟨rfl, rfl⟩
  refine PC.cf rfl (not_t h_1) ?_; refine PC.skip ?_; refine thA_n ?_; refine PC.seq ?_; obtain ⟨r2, h_3, hh0⟩ := bind_some hh0; refine PC.rg ?_; refine PL.op rfl (Rd.fieldO rfl rfl) ?_; refine PL.op rfl (Rd.loadO rfl rfl rfl) ?_; refine PL.callM false [] (w_S_decimal N p_v.num r2 h_3) rfl Tryz.call60 rfl ⟨.t _, trivial⟩ rfl trivial (fun h => by cases h) ?_; refine PL.op rfl (Rd.build rfl rfl rfl rfl) ?_; refine PL.store rfl rfl rfl rfl rfl rfl rfl ?_; refine PL.nO [some ⟨.mx [iA p_v.kind, iA p_v.num, sA p_v.text], 64, 0⟩, some ⟨.mx [iA (2 : Int), iA (0 : Int), sA r2], 64, 0⟩] rfl ?_; refine PL.nn ?_; refine PC.ret ?_; obtain rfl := some_in hh0; exact FinA.mk (r := .agg [iA (2 : Int), iA (0 : Int), sA r2]) (bl := []) [] (.inl rfl) rfl (rl := [.cell 2 64]) (.cellN rfl rfl rfl rfl .nil) rfl rfl rfl (.aggL ⟨.t _, .t _, .t _, trivial⟩) trivial ⟨rfl, rfl⟩
def m_S_change (N : Nat) (p_f : (List I_Column)) (p_c : I_Change) : Option ((List I_Column) × Bool) :=
  cond (decide (p_c.kind = (1 : Int)))
    ((m_S_inRange N p_c.at_ (0 : Int) (p_f.length : Int)).bind fun r2 =>
    cond r2
      ((m_S_validColumn N p_c.column).bind fun r5 =>
      cond r5
        (cond (decide ((p_f.length : Int) < (5 : Int)))
          ((V.subM p_f (0 : Int) p_c.at_).bind fun xs9 =>
          (m_S_copyColumns N xs9).bind fun r11 =>
          (appM 40 r11 [p_c.column]).bind fun xs13 =>
          (V.subM p_f p_c.at_ (p_f.length : Int)).bind fun xs15 =>
          (appM 40 xs13 xs15).bind fun xs17 =>
          some (xs17, true))
          (some (([] : List I_Column), false)))
        (some (([] : List I_Column), false)))
      (some (([] : List I_Column), false)))
    (cond (decide (p_c.kind = (2 : Int)))
      ((chk ((p_f.length : Int) - (1 : Int))).bind fun n20 =>
      (m_S_inRange N p_c.at_ (0 : Int) n20).bind fun r22 =>
      cond r22
        (cond (decide ((1 : Int) < (p_f.length : Int)))
          ((V.subM p_f (0 : Int) p_c.at_).bind fun xs26 =>
          (m_S_copyColumns N xs26).bind fun r28 =>
          (chk (p_c.at_ + (1 : Int))).bind fun n30 =>
          (V.subM p_f n30 (p_f.length : Int)).bind fun xs32 =>
          (appM 40 r28 xs32).bind fun xs34 =>
          some (xs34, true))
          (some (([] : List I_Column), false)))
        (some (([] : List I_Column), false)))
      (cond (decide (p_c.kind = (3 : Int)))
        ((chk ((p_f.length : Int) - (1 : Int))).bind fun n37 =>
        (m_S_inRange N p_c.at_ (0 : Int) n37).bind fun r39 =>
        cond r39
          ((ixI p_f p_c.at_).bind fun x42 =>
          cond (decide (x42.kind = (1 : Int)))
            ((m_S_copyColumns N p_f).bind fun r45 =>
            (ixI p_f p_c.at_).bind fun x47 =>
            (m_S_widen N x47.default).bind fun r49 =>
            (ixI r45 p_c.at_).bind fun x51 =>
            some ((r45.set p_c.at_.toNat (I_Column.mk (2 : Int) r49)), true))
            (some (([] : List I_Column), false)))
          (some (([] : List I_Column), false)))
        (some (([] : List I_Column), false))))
theorem w_S_change (N : Nat) (p_f : (List I_Column)) (p_c : I_Change) (r : (List I_Column) × Bool) (hh0 : m_S_change N p_f p_c = some r) : FnX Tryz.prog 103 [] [sL p_f, .agg [iA p_c.kind, iA p_c.at_, iA p_c.column.kind, iA p_c.column.default.kind, iA p_c.column.default.num, sA p_c.column.default.text]] (RE (.tup [.os 0 0 r.1.length, bA r.2]) [⟨.tr (eL r.1), 67, 4⟩]) := by
  unfold m_S_change at hh0; refine FnX.mk Tryz.func103 rfl rfl ?_; intro s hs; refine PC.seq ?_; refine PC.rg ?_; refine PL.ef rfl (Ef.box rfl rfl rfl) ?_; refine PL.nm (.op 0 0) [some ⟨.mx [iA p_c.kind, iA p_c.at_, iA p_c.column.kind, iA p_c.column.default.kind, iA p_c.column.default.num, sA p_c.column.default.text], 74, 0⟩] rfl rfl ?_; (iterate 2 refine PL.aT rfl rfl ?_); refine PL.nn ?_; refine PC.seq ?_; refine PC.block ?_; refine PC.seq ?_; rcases cond_some hh0 with ⟨h_1, hh0⟩ | ⟨h_1, hh0⟩
  · obtain ⟨r2, h_3, hh0⟩ := bind_some hh0; rcases cond_some hh0 with ⟨h_4, hh0⟩ | ⟨h_4, hh0⟩; rotate_left
    · refine PC.rg ?_; refine PL.op rfl (Rd.fieldO rfl rfl) ?_; refine PL.op rfl (Rd.loadO rfl rfl rfl) ?_; refine PL.op rfl (Rd.eql rfl rfl) ?_; refine PL.mT rfl rfl ?_; refine PL.gn rfl h_1 ?_; refine PL.op rfl (Rd.fieldO rfl rfl) ?_; refine PL.gn rfl h_1 ?_; refine PL.op rfl (Rd.loadO rfl rfl rfl) ?_; refine PL.gn rfl h_1 ?_; refine PL.mT rfl rfl ?_; refine PL.gn rfl h_1 ?_; refine PL.op rfl (Rd.lenT rfl) ?_; refine PL.gn rfl h_1 ?_; refine PL.callM false [] (w_S_inRange N p_c.at_ (0 : Int) (p_f.length : Int) r2 h_3) rfl Tryz.call59 rfl ⟨.t _, .t _, .t _, trivial⟩ rfl trivial (fun h => by cases h) ?_; refine PL.op rfl (Rd.pick_t rfl h_1) ?_; refine PL.mT rfl rfl ?_; (iterate 3 refine PL.gf rfl rfl h_4 ?_); refine PL.op rfl (Rd.pick_f rfl h_4) ?_; refine PL.mT rfl rfl ?_; (iterate 3 refine PL.gf rfl rfl rfl ?_); refine PL.op rfl (Rd.pick_f rfl rfl) ?_; refine PL.aT rfl rfl ?_; refine PL.nn ?_; refine PC.cf rfl rfl ?_; refine PC.seq ?_; refine PC.rg ?_; refine PL.op rfl (Rd.fieldO rfl rfl) ?_; refine PL.op rfl (Rd.loadO rfl rfl rfl) ?_; refine PL.op rfl (Rd.eql rfl rfl) ?_; refine PL.mT rfl rfl ?_; (iterate 6 refine PL.gf rfl rfl (ne_lit h_1 (by decide)) ?_); refine PL.op rfl (Rd.pick_f rfl (ne_lit h_1 (by decide))) ?_; refine PL.mT rfl rfl ?_; (iterate 3 refine PL.gf rfl rfl rfl ?_); refine PL.op rfl (Rd.pick_f rfl rfl) ?_; refine PL.aT rfl rfl ?_; refine PL.nn ?_; refine PC.cf rfl rfl ?_; refine PC.seq ?_; refine PC.rg ?_; refine PL.op rfl (Rd.fieldO rfl rfl) ?_; refine PL.op rfl (Rd.loadO rfl rfl rfl) ?_; refine PL.op rfl (Rd.eql rfl rfl) ?_; refine PL.mT rfl rfl ?_; (iterate 6 refine PL.gf rfl rfl (ne_lit h_1 (by decide)) ?_); refine PL.op rfl (Rd.pick_f rfl (ne_lit h_1 (by decide))) ?_; refine PL.mT rfl rfl ?_; (iterate 7 refine PL.gf rfl rfl rfl ?_); refine PL.op rfl (Rd.pick_f rfl rfl) ?_; refine PL.aT rfl rfl ?_; refine PL.nn ?_; refine PC.cf rfl rfl ?_; refine PC.skip ?_; refine inA_n ?_; refine thA_n ?_; refine PC.seq ?_; refine PC.rg ?_; (iterate 2 refine PL.aT rfl rfl ?_); refine PL.nn ?_; refine PC.ret ?_; obtain rfl := some_in hh0; exact FinA.mk (r := .tup [.os 0 0 (((([] : List I_Column), false).1).length), bA ((([] : List I_Column), false).2)]) (bl := [⟨.tr (eL ((([] : List I_Column), false).1)), 67, 4⟩]) [none] (.inl rfl) rfl (rl := [.tmp 4, .tmp 5]) (.tmp (.tmp .nil)) rfl rfl rfl (.tupL ⟨.osn rfl, .t _, trivial⟩) ⟨ow_nil _, trivial⟩ ⟨rfl, rfl⟩
    obtain ⟨r5, h_6, hh0⟩ := bind_some hh0; rcases cond_some hh0 with ⟨h_7, hh0⟩ | ⟨h_7, hh0⟩; rotate_left
    · refine PC.rg ?_; refine PL.op rfl (Rd.fieldO rfl rfl) ?_; refine PL.op rfl (Rd.loadO rfl rfl rfl) ?_; refine PL.op rfl (Rd.eql rfl rfl) ?_; refine PL.mT rfl rfl ?_; refine PL.gn rfl h_1 ?_; refine PL.op rfl (Rd.fieldO rfl rfl) ?_; refine PL.gn rfl h_1 ?_; refine PL.op rfl (Rd.loadO rfl rfl rfl) ?_; refine PL.gn rfl h_1 ?_; refine PL.mT rfl rfl ?_; refine PL.gn rfl h_1 ?_; refine PL.op rfl (Rd.lenT rfl) ?_; refine PL.gn rfl h_1 ?_; refine PL.callM false [] (w_S_inRange N p_c.at_ (0 : Int) (p_f.length : Int) r2 h_3) rfl Tryz.call59 rfl ⟨.t _, .t _, .t _, trivial⟩ rfl trivial (fun h => by cases h) ?_; refine PL.op rfl (Rd.pick_t rfl h_1) ?_; refine PL.mT rfl rfl ?_; refine PL.gn rfl h_4 ?_; refine PL.op rfl (Rd.fieldO rfl rfl) ?_; refine PL.gn rfl h_4 ?_; refine PL.op rfl (Rd.loadSub rfl rfl rfl rfl) ?_; refine PL.gn rfl h_4 ?_; refine PL.callM false [] (w_S_validColumn N p_c.column r5 h_6) rfl Tryz.call82 rfl ⟨.aggL ⟨.t _, .t _, .t _, .t _, trivial⟩, trivial⟩ rfl trivial (fun h => by cases h) ?_; refine PL.op rfl (Rd.pick_t rfl h_4) ?_; refine PL.mT rfl rfl ?_; (iterate 3 refine PL.gf rfl rfl h_7 ?_); refine PL.op rfl (Rd.pick_f rfl h_7) ?_; refine PL.aT rfl rfl ?_; refine PL.nn ?_; refine PC.cf rfl rfl ?_; refine PC.seq ?_; refine PC.rg ?_; refine PL.op rfl (Rd.fieldO rfl rfl) ?_; refine PL.op rfl (Rd.loadO rfl rfl rfl) ?_; refine PL.op rfl (Rd.eql rfl rfl) ?_; refine PL.mT rfl rfl ?_; (iterate 6 refine PL.gf rfl rfl (ne_lit h_1 (by decide)) ?_); refine PL.op rfl (Rd.pick_f rfl (ne_lit h_1 (by decide))) ?_; refine PL.mT rfl rfl ?_; (iterate 3 refine PL.gf rfl rfl rfl ?_); refine PL.op rfl (Rd.pick_f rfl rfl) ?_; refine PL.aT rfl rfl ?_; refine PL.nn ?_; refine PC.cf rfl rfl ?_; refine PC.seq ?_; refine PC.rg ?_; refine PL.op rfl (Rd.fieldO rfl rfl) ?_; refine PL.op rfl (Rd.loadO rfl rfl rfl) ?_; refine PL.op rfl (Rd.eql rfl rfl) ?_; refine PL.mT rfl rfl ?_; (iterate 6 refine PL.gf rfl rfl (ne_lit h_1 (by decide)) ?_); refine PL.op rfl (Rd.pick_f rfl (ne_lit h_1 (by decide))) ?_; refine PL.mT rfl rfl ?_; (iterate 7 refine PL.gf rfl rfl rfl ?_); refine PL.op rfl (Rd.pick_f rfl rfl) ?_; refine PL.aT rfl rfl ?_; refine PL.nn ?_; refine PC.cf rfl rfl ?_; refine PC.skip ?_; refine inA_n ?_; refine thA_n ?_; refine PC.seq ?_; refine PC.rg ?_; (iterate 2 refine PL.aT rfl rfl ?_); refine PL.nn ?_; refine PC.ret ?_; obtain rfl := some_in hh0; exact FinA.mk (r := .tup [.os 0 0 (((([] : List I_Column), false).1).length), bA ((([] : List I_Column), false).2)]) (bl := [⟨.tr (eL ((([] : List I_Column), false).1)), 67, 4⟩]) [none] (.inl rfl) rfl (rl := [.tmp 4, .tmp 5]) (.tmp (.tmp .nil)) rfl rfl rfl (.tupL ⟨.osn rfl, .t _, trivial⟩) ⟨ow_nil _, trivial⟩ ⟨rfl, rfl⟩
    refine PC.rg ?_; refine PL.op rfl (Rd.fieldO rfl rfl) ?_; refine PL.op rfl (Rd.loadO rfl rfl rfl) ?_; refine PL.op rfl (Rd.eql rfl rfl) ?_; refine PL.mT rfl rfl ?_; refine PL.gn rfl h_1 ?_; refine PL.op rfl (Rd.fieldO rfl rfl) ?_; refine PL.gn rfl h_1 ?_; refine PL.op rfl (Rd.loadO rfl rfl rfl) ?_; refine PL.gn rfl h_1 ?_; refine PL.mT rfl rfl ?_; refine PL.gn rfl h_1 ?_; refine PL.op rfl (Rd.lenT rfl) ?_; refine PL.gn rfl h_1 ?_; refine PL.callM false [] (w_S_inRange N p_c.at_ (0 : Int) (p_f.length : Int) r2 h_3) rfl Tryz.call59 rfl ⟨.t _, .t _, .t _, trivial⟩ rfl trivial (fun h => by cases h) ?_; refine PL.op rfl (Rd.pick_t rfl h_1) ?_; refine PL.mT rfl rfl ?_; refine PL.gn rfl h_4 ?_; refine PL.op rfl (Rd.fieldO rfl rfl) ?_; refine PL.gn rfl h_4 ?_; refine PL.op rfl (Rd.loadSub rfl rfl rfl rfl) ?_; refine PL.gn rfl h_4 ?_; refine PL.callM false [] (w_S_validColumn N p_c.column r5 h_6) rfl Tryz.call82 rfl ⟨.aggL ⟨.t _, .t _, .t _, .t _, trivial⟩, trivial⟩ rfl trivial (fun h => by cases h) ?_; refine PL.op rfl (Rd.pick_t rfl h_4) ?_; refine PL.mT rfl rfl ?_; refine PL.gn rfl h_7 ?_; refine PL.mT rfl rfl ?_; refine PL.gn rfl h_7 ?_; refine PL.op rfl (Rd.lenT rfl) ?_; refine PL.gn rfl h_7 ?_; refine PL.op rfl (Rd.lss rfl rfl) ?_; refine PL.op rfl (Rd.pick_t rfl h_7) ?_; refine PL.aT rfl rfl ?_; refine PL.nn ?_; rcases cond_some hh0 with ⟨h_8, hh0⟩ | ⟨h_8, hh0⟩; rotate_left
    · refine PC.cf rfl h_8 ?_; refine PC.seq ?_; refine PC.rg ?_; refine PL.op rfl (Rd.fieldO rfl rfl) ?_; refine PL.op rfl (Rd.loadO rfl rfl rfl) ?_; refine PL.op rfl (Rd.eql rfl rfl) ?_; refine PL.mT rfl rfl ?_; (iterate 6 refine PL.gf rfl rfl (ne_lit h_1 (by decide)) ?_); refine PL.op rfl (Rd.pick_f rfl (ne_lit h_1 (by decide))) ?_; refine PL.mT rfl rfl ?_; (iterate 3 refine PL.gf rfl rfl rfl ?_); refine PL.op rfl (Rd.pick_f rfl rfl) ?_; refine PL.aT rfl rfl ?_; refine PL.nn ?_; refine PC.cf rfl rfl ?_; refine PC.seq ?_; refine PC.rg ?_; refine PL.op rfl (Rd.fieldO rfl rfl) ?_; refine PL.op rfl (Rd.loadO rfl rfl rfl) ?_; refine PL.op rfl (Rd.eql rfl rfl) ?_; refine PL.mT rfl rfl ?_; (iterate 6 refine PL.gf rfl rfl (ne_lit h_1 (by decide)) ?_); refine PL.op rfl (Rd.pick_f rfl (ne_lit h_1 (by decide))) ?_; refine PL.mT rfl rfl ?_; (iterate 7 refine PL.gf rfl rfl rfl ?_); refine PL.op rfl (Rd.pick_f rfl rfl) ?_; refine PL.aT rfl rfl ?_; refine PL.nn ?_; refine PC.cf rfl rfl ?_; refine PC.skip ?_; refine inA_n ?_; refine thA_n ?_; refine PC.seq ?_; refine PC.rg ?_; (iterate 2 refine PL.aT rfl rfl ?_); refine PL.nn ?_; refine PC.ret ?_; obtain rfl := some_in hh0; exact FinA.mk (r := .tup [.os 0 0 (((([] : List I_Column), false).1).length), bA ((([] : List I_Column), false).2)]) (bl := [⟨.tr (eL ((([] : List I_Column), false).1)), 67, 4⟩]) [none] (.inl rfl) rfl (rl := [.tmp 4, .tmp 5]) (.tmp (.tmp .nil)) rfl rfl rfl (.tupL ⟨.osn rfl, .t _, trivial⟩) ⟨ow_nil _, trivial⟩ ⟨rfl, rfl⟩
    refine PC.ct rfl h_8 ?_; obtain ⟨xs9, h_10, hh0⟩ := bind_some hh0; obtain ⟨r11, h_12, hh0⟩ := bind_some hh0; obtain ⟨xs13, h_14, hh0⟩ := bind_some hh0; obtain ⟨xs15, h_16, hh0⟩ := bind_some hh0; obtain ⟨xs17, h_18, hh0⟩ := bind_some hh0; refine PC.cut hs (fun _ : Unit => [(4, .os 0 0 xs17.length), (5, bA true)]) (fun _ => [⟨.tr (eL xs17), 67, 4⟩]) (fun _ => True) ?_ ?_
    · refine PC.any (id := 2) 16 (.seg [0, 1, 2, 3, 5, 6, 9, 10, 11, 12] (.fork (.seg [4, 7, 8, 13, 14, 15] .done) (.seg [7, 4, 8, 13, 14, 15] .done))) [] rfl (by kernel_rfl) rfl ?_; refine PT.seg ?_; refine PR.op rfl (Rd.moveT rfl) ?_; refine PR.op rfl (Rd.fieldO rfl rfl) ?_; refine PR.op rfl (Rd.loadO rfl rfl rfl) ?_; refine PR.op rfl (Rd.subTMH rfl rfl h_10) ?_; refine PR.op rfl (Rd.fieldO rfl rfl) ?_; refine PR.op rfl (Rd.loadSub rfl rfl rfl rfl) ?_; refine PR.op rfl (Rd.moveT rfl) ?_; refine PR.op rfl (Rd.fieldO rfl rfl) ?_; refine PR.op rfl (Rd.loadO rfl rfl rfl) ?_; refine PR.op rfl (Rd.subTML rfl rfl h_16) ?_; refine PR.nil ?_; refine PT.fork ?_ ?_
      · refine PT.seg ?_; refine PR.callMX [1] false [] (w_S_copyColumns N xs9 r11 h_12) rfl Tryz.call102 rfl ⟨.t _, trivial⟩ rfl trivial (fun h => by cases h) rfl rfl rfl ?_; refine PR.nm (.os 1 0 r11.length) [some ⟨.mx [iA p_c.kind, iA p_c.at_, iA p_c.column.kind, iA p_c.column.default.kind, iA p_c.column.default.num, sA p_c.column.default.text], 74, 0⟩, some ⟨.tr (eL r11), 67, 4⟩] rfl rfl ?_; refine PR.ef rfl rfl (Ef.litM (α := I_Column) [p_c.column] [_] rfl rfl (by decide) rfl rfl rfl rfl) ?_; refine PR.nm (.os 2 0 1) [some ⟨.mx [iA p_c.kind, iA p_c.at_, iA p_c.column.kind, iA p_c.column.default.kind, iA p_c.column.default.num, sA p_c.column.default.text], 74, 0⟩, some ⟨.tr (eL r11), 67, 4⟩, some ⟨.tr (eL [p_c.column]), 67, 4⟩] rfl rfl ?_; refine PR.apMX hs rfl rfl rfl rfl (SrcA.ownE rfl rfl rfl) rfl rfl rfl rfl rfl h_14 ?_; refine PR.nm (.os 3 0 xs13.length) [some ⟨.mx [iA p_c.kind, iA p_c.at_, iA p_c.column.kind, iA p_c.column.default.kind, iA p_c.column.default.num, sA p_c.column.default.text], 74, 0⟩, none, some ⟨.tr (eL [p_c.column]), 67, 4⟩, some ⟨.tr (eL xs13), 67, 4⟩] rfl rfl ?_; refine PR.apM hs rfl rfl rfl rfl (SrcA.eL rfl) rfl rfl rfl rfl rfl h_18 ?_; refine PR.nm (.os 4 0 xs17.length) [some ⟨.mx [iA p_c.kind, iA p_c.at_, iA p_c.column.kind, iA p_c.column.default.kind, iA p_c.column.default.num, sA p_c.column.default.text], 74, 0⟩, none, some ⟨.tr (eL [p_c.column]), 67, 4⟩, none, some ⟨.tr (eL xs17), 67, 4⟩] rfl rfl ?_; refine PR.op rfl (Rd.asnO rfl) ?_; refine PR.op rfl (Rd.asnT rfl) ?_; refine PR.nil ?_; refine PT.done ?_; refine PL.nn ?_; exact ⟨(), trivial, [some 4], ⟨rfl, rfl, ⟨⟨_, rfl, rfl, rfl, .tr _⟩, trivial⟩, ⟨.os rfl, .t _, trivial⟩⟩⟩
      refine PT.seg ?_; refine PR.ef rfl rfl (Ef.litM (α := I_Column) [p_c.column] [_] rfl rfl (by decide) rfl rfl rfl rfl) ?_; refine PR.nm (.os 1 0 1) [some ⟨.mx [iA p_c.kind, iA p_c.at_, iA p_c.column.kind, iA p_c.column.default.kind, iA p_c.column.default.num, sA p_c.column.default.text], 74, 0⟩, some ⟨.tr (eL [p_c.column]), 67, 4⟩] rfl rfl ?_; refine PR.callMX [2] false [] (w_S_copyColumns N xs9 r11 h_12) rfl Tryz.call102 rfl ⟨.t _, trivial⟩ rfl trivial (fun h => by cases h) rfl rfl rfl ?_; refine PR.nm (.os 2 0 r11.length) [some ⟨.mx [iA p_c.kind, iA p_c.at_, iA p_c.column.kind, iA p_c.column.default.kind, iA p_c.column.default.num, sA p_c.column.default.text], 74, 0⟩, some ⟨.tr (eL [p_c.column]), 67, 4⟩, some ⟨.tr (eL r11), 67, 4⟩] rfl rfl ?_; refine PR.apMX hs rfl rfl rfl rfl (SrcA.ownE rfl rfl rfl) rfl rfl rfl rfl rfl h_14 ?_; refine PR.nm (.os 3 0 xs13.length) [some ⟨.mx [iA p_c.kind, iA p_c.at_, iA p_c.column.kind, iA p_c.column.default.kind, iA p_c.column.default.num, sA p_c.column.default.text], 74, 0⟩, some ⟨.tr (eL [p_c.column]), 67, 4⟩, none, some ⟨.tr (eL xs13), 67, 4⟩] rfl rfl ?_; refine PR.apM hs rfl rfl rfl rfl (SrcA.eL rfl) rfl rfl rfl rfl rfl h_18 ?_; refine PR.nm (.os 4 0 xs17.length) [some ⟨.mx [iA p_c.kind, iA p_c.at_, iA p_c.column.kind, iA p_c.column.default.kind, iA p_c.column.default.num, sA p_c.column.default.text], 74, 0⟩, some ⟨.tr (eL [p_c.column]), 67, 4⟩, none, none, some ⟨.tr (eL xs17), 67, 4⟩] rfl rfl ?_; refine PR.op rfl (Rd.asnO rfl) ?_; refine PR.op rfl (Rd.asnT rfl) ?_; refine PR.nil ?_; refine PT.done ?_; refine PL.nn ?_; exact ⟨(), trivial, [some 4], ⟨rfl, rfl, ⟨⟨_, rfl, rfl, rfl, .tr _⟩, trivial⟩, ⟨.os rfl, .t _, trivial⟩⟩⟩
    rintro ⟨⟩ -
    refine PC.ret ?_; refine inA_r ?_; refine thA_r ?_; obtain rfl := some_in hh0; exact FinA.mk (r := .tup [.os 0 0 (((xs17, true).1).length), bA ((xs17, true).2)]) (bl := [⟨.tr (eL ((xs17, true).1)), 67, 4⟩]) [some 0] (.inl rfl) rfl (rl := [.tmp 4, .tmp 5]) (.tmp (.tmp .nil)) rfl rfl rfl (.tupL ⟨.os rfl, .t _, trivial⟩) ⟨⟨_, rfl, rfl, rfl, .tr _⟩, trivial⟩ ⟨rfl, rfl⟩
  refine PC.rg ?_; refine PL.op rfl (Rd.fieldO rfl rfl) ?_; refine PL.op rfl (Rd.loadO rfl rfl rfl) ?_; refine PL.op rfl (Rd.eql rfl rfl) ?_; refine PL.mT rfl rfl ?_; (iterate 5 refine PL.gf rfl rfl h_1 ?_); refine PL.op rfl (Rd.pick_f rfl h_1) ?_; refine PL.mT rfl rfl ?_; (iterate 3 refine PL.gf rfl rfl rfl ?_); refine PL.op rfl (Rd.pick_f rfl rfl) ?_; refine PL.mT rfl rfl ?_; (iterate 3 refine PL.gf rfl rfl rfl ?_); refine PL.op rfl (Rd.pick_f rfl rfl) ?_; refine PL.aT rfl rfl ?_; refine PL.nn ?_; refine PC.cf rfl rfl ?_; refine PC.seq ?_; rcases cond_some hh0 with ⟨h_19, hh0⟩ | ⟨h_19, hh0⟩
  · obtain ⟨n20, h_21, hh0⟩ := bind_some hh0; obtain ⟨r22, h_23, hh0⟩ := bind_some hh0; rcases cond_some hh0 with ⟨h_24, hh0⟩ | ⟨h_24, hh0⟩; rotate_left
    · refine PC.rg ?_; refine PL.op rfl (Rd.fieldO rfl rfl) ?_; refine PL.op rfl (Rd.loadO rfl rfl rfl) ?_; refine PL.op rfl (Rd.eql rfl rfl) ?_; refine PL.mT rfl rfl ?_; refine PL.gn rfl h_19 ?_; refine PL.op rfl (Rd.fieldO rfl rfl) ?_; refine PL.gn rfl h_19 ?_; refine PL.op rfl (Rd.loadO rfl rfl rfl) ?_; refine PL.gn rfl h_19 ?_; refine PL.mT rfl rfl ?_; refine PL.gn rfl h_19 ?_; refine PL.op rfl (Rd.lenT rfl) ?_; refine PL.gn rfl h_19 ?_; refine PL.op rfl (Rd.subM rfl rfl h_21) ?_; refine PL.gn rfl h_19 ?_; refine PL.callM false [] (w_S_inRange N p_c.at_ (0 : Int) n20 r22 h_23) rfl Tryz.call59 rfl ⟨.t _, .t _, .t _, trivial⟩ rfl trivial (fun h => by cases h) ?_; refine PL.op rfl (Rd.pick_t rfl h_19) ?_; refine PL.mT rfl rfl ?_; (iterate 3 refine PL.gf rfl rfl h_24 ?_); refine PL.op rfl (Rd.pick_f rfl h_24) ?_; refine PL.aT rfl rfl ?_; refine PL.nn ?_; refine PC.cf rfl rfl ?_; refine PC.seq ?_; refine PC.rg ?_; refine PL.op rfl (Rd.fieldO rfl rfl) ?_; refine PL.op rfl (Rd.loadO rfl rfl rfl) ?_; refine PL.op rfl (Rd.eql rfl rfl) ?_; refine PL.mT rfl rfl ?_; (iterate 6 refine PL.gf rfl rfl (ne_lit h_19 (by decide)) ?_); refine PL.op rfl (Rd.pick_f rfl (ne_lit h_19 (by decide))) ?_; refine PL.mT rfl rfl ?_; (iterate 7 refine PL.gf rfl rfl rfl ?_); refine PL.op rfl (Rd.pick_f rfl rfl) ?_; refine PL.aT rfl rfl ?_; refine PL.nn ?_; refine PC.cf rfl rfl ?_; refine PC.skip ?_; refine inA_n ?_; refine thA_n ?_; refine PC.seq ?_; refine PC.rg ?_; (iterate 2 refine PL.aT rfl rfl ?_); refine PL.nn ?_; refine PC.ret ?_; obtain rfl := some_in hh0; exact FinA.mk (r := .tup [.os 0 0 (((([] : List I_Column), false).1).length), bA ((([] : List I_Column), false).2)]) (bl := [⟨.tr (eL ((([] : List I_Column), false).1)), 67, 4⟩]) [none] (.inl rfl) rfl (rl := [.tmp 4, .tmp 5]) (.tmp (.tmp .nil)) rfl rfl rfl (.tupL ⟨.osn rfl, .t _, trivial⟩) ⟨ow_nil _, trivial⟩ ⟨rfl, rfl⟩
    refine PC.rg ?_; refine PL.op rfl (Rd.fieldO rfl rfl) ?_; refine PL.op rfl (Rd.loadO rfl rfl rfl) ?_; refine PL.op rfl (Rd.eql rfl rfl) ?_; refine PL.mT rfl rfl ?_; refine PL.gn rfl h_19 ?_; refine PL.op rfl (Rd.fieldO rfl rfl) ?_; refine PL.gn rfl h_19 ?_; refine PL.op rfl (Rd.loadO rfl rfl rfl) ?_; refine PL.gn rfl h_19 ?_; refine PL.mT rfl rfl ?_; refine PL.gn rfl h_19 ?_; refine PL.op rfl (Rd.lenT rfl) ?_; refine PL.gn rfl h_19 ?_; refine PL.op rfl (Rd.subM rfl rfl h_21) ?_; refine PL.gn rfl h_19 ?_; refine PL.callM false [] (w_S_inRange N p_c.at_ (0 : Int) n20 r22 h_23) rfl Tryz.call59 rfl ⟨.t _, .t _, .t _, trivial⟩ rfl trivial (fun h => by cases h) ?_; refine PL.op rfl (Rd.pick_t rfl h_19) ?_; refine PL.mT rfl rfl ?_; refine PL.gn rfl h_24 ?_; refine PL.mT rfl rfl ?_; refine PL.gn rfl h_24 ?_; refine PL.op rfl (Rd.lenT rfl) ?_; refine PL.gn rfl h_24 ?_; refine PL.op rfl (Rd.gtr rfl rfl) ?_; refine PL.op rfl (Rd.pick_t rfl h_24) ?_; refine PL.aT rfl rfl ?_; refine PL.nn ?_; rcases cond_some hh0 with ⟨h_25, hh0⟩ | ⟨h_25, hh0⟩; rotate_left
    · refine PC.cf rfl h_25 ?_; refine PC.seq ?_; refine PC.rg ?_; refine PL.op rfl (Rd.fieldO rfl rfl) ?_; refine PL.op rfl (Rd.loadO rfl rfl rfl) ?_; refine PL.op rfl (Rd.eql rfl rfl) ?_; refine PL.mT rfl rfl ?_; (iterate 6 refine PL.gf rfl rfl (ne_lit h_19 (by decide)) ?_); refine PL.op rfl (Rd.pick_f rfl (ne_lit h_19 (by decide))) ?_; refine PL.mT rfl rfl ?_; (iterate 7 refine PL.gf rfl rfl rfl ?_); refine PL.op rfl (Rd.pick_f rfl rfl) ?_; refine PL.aT rfl rfl ?_; refine PL.nn ?_; refine PC.cf rfl rfl ?_; refine PC.skip ?_; refine inA_n ?_; refine thA_n ?_; refine PC.seq ?_; refine PC.rg ?_; (iterate 2 refine PL.aT rfl rfl ?_); refine PL.nn ?_; refine PC.ret ?_; obtain rfl := some_in hh0; exact FinA.mk (r := .tup [.os 0 0 (((([] : List I_Column), false).1).length), bA ((([] : List I_Column), false).2)]) (bl := [⟨.tr (eL ((([] : List I_Column), false).1)), 67, 4⟩]) [none] (.inl rfl) rfl (rl := [.tmp 4, .tmp 5]) (.tmp (.tmp .nil)) rfl rfl rfl (.tupL ⟨.osn rfl, .t _, trivial⟩) ⟨ow_nil _, trivial⟩ ⟨rfl, rfl⟩
    refine PC.ct rfl h_25 ?_; refine PC.seq ?_; obtain ⟨xs26, h_27, hh0⟩ := bind_some hh0; obtain ⟨r28, h_29, hh0⟩ := bind_some hh0; obtain ⟨n30, h_31, hh0⟩ := bind_some hh0; obtain ⟨xs32, h_33, hh0⟩ := bind_some hh0; obtain ⟨xs34, h_35, hh0⟩ := bind_some hh0; refine PC.any (id := 4) 10 (.seg [0, 1, 2, 3, 5, 6, 7, 8, 9, 4] .done) [] rfl (by kernel_rfl) rfl ?_; refine PT.seg ?_; refine PR.op rfl (Rd.moveT rfl) ?_; refine PR.op rfl (Rd.fieldO rfl rfl) ?_; refine PR.op rfl (Rd.loadO rfl rfl rfl) ?_; refine PR.op rfl (Rd.subTMH rfl rfl h_27) ?_; refine PR.op rfl (Rd.moveT rfl) ?_; refine PR.op rfl (Rd.fieldO rfl rfl) ?_; refine PR.op rfl (Rd.loadO rfl rfl rfl) ?_; refine PR.op rfl (Rd.addM rfl rfl h_31) ?_; refine PR.op rfl (Rd.subTML rfl rfl h_33) ?_; refine PR.callMX [1] false [] (w_S_copyColumns N xs26 r28 h_29) rfl Tryz.call102 rfl ⟨.t _, trivial⟩ rfl trivial (fun h => by cases h) rfl rfl rfl ?_; refine PR.nm (.os 1 0 r28.length) [some ⟨.mx [iA p_c.kind, iA p_c.at_, iA p_c.column.kind, iA p_c.column.default.kind, iA p_c.column.default.num, sA p_c.column.default.text], 74, 0⟩, some ⟨.tr (eL r28), 67, 4⟩] rfl rfl ?_; refine PR.nil ?_; refine PT.done ?_; refine PL.apM hs rfl rfl rfl rfl (SrcA.eL rfl) rfl rfl rfl rfl h_35 ?_; refine PL.nm (.os 2 0 xs34.length) [some ⟨.mx [iA p_c.kind, iA p_c.at_, iA p_c.column.kind, iA p_c.column.default.kind, iA p_c.column.default.num, sA p_c.column.default.text], 74, 0⟩, none, some ⟨.tr (eL xs34), 67, 4⟩] rfl rfl ?_; refine PL.op rfl (Rd.asnO rfl) ?_; refine PL.aT rfl rfl ?_; refine PL.nn ?_; refine PC.ret ?_; refine inA_r ?_; refine thA_r ?_; obtain rfl := some_in hh0; exact FinA.mk (r := .tup [.os 0 0 (((xs34, true).1).length), bA ((xs34, true).2)]) (bl := [⟨.tr (eL ((xs34, true).1)), 67, 4⟩]) [some 2] (.inl rfl) rfl (rl := [.tmp 4, .tmp 5]) (.tmp (.tmp .nil)) rfl rfl rfl (.tupL ⟨.os rfl, .t _, trivial⟩) ⟨⟨_, rfl, rfl, rfl, .tr _⟩, trivial⟩ ⟨rfl, rfl⟩
  refine PC.rg ?_; refine PL.op rfl (Rd.fieldO rfl rfl) ?_; refine PL.op rfl (Rd.loadO rfl rfl rfl) ?_; refine PL.op rfl (Rd.eql rfl rfl) ?_; refine PL.mT rfl rfl ?_; (iterate 6 refine PL.gf rfl rfl h_19 ?_); refine PL.op rfl (Rd.pick_f rfl h_19) ?_; refine PL.mT rfl rfl ?_; (iterate 3 refine PL.gf rfl rfl rfl ?_); refine PL.op rfl (Rd.pick_f rfl rfl) ?_; refine PL.aT rfl rfl ?_; refine PL.nn ?_; refine PC.cf rfl rfl ?_; refine PC.seq ?_; rcases cond_some hh0 with ⟨h_36, hh0⟩ | ⟨h_36, hh0⟩; rotate_left
  · refine PC.rg ?_; refine PL.op rfl (Rd.fieldO rfl rfl) ?_; refine PL.op rfl (Rd.loadO rfl rfl rfl) ?_; refine PL.op rfl (Rd.eql rfl rfl) ?_; refine PL.mT rfl rfl ?_; (iterate 6 refine PL.gf rfl rfl h_36 ?_); refine PL.op rfl (Rd.pick_f rfl h_36) ?_; refine PL.mT rfl rfl ?_; (iterate 7 refine PL.gf rfl rfl rfl ?_); refine PL.op rfl (Rd.pick_f rfl rfl) ?_; refine PL.aT rfl rfl ?_; refine PL.nn ?_; refine PC.cf rfl rfl ?_; refine PC.skip ?_; refine inA_n ?_; refine thA_n ?_; refine PC.seq ?_; refine PC.rg ?_; (iterate 2 refine PL.aT rfl rfl ?_); refine PL.nn ?_; refine PC.ret ?_; obtain rfl := some_in hh0; exact FinA.mk (r := .tup [.os 0 0 (((([] : List I_Column), false).1).length), bA ((([] : List I_Column), false).2)]) (bl := [⟨.tr (eL ((([] : List I_Column), false).1)), 67, 4⟩]) [none] (.inl rfl) rfl (rl := [.tmp 4, .tmp 5]) (.tmp (.tmp .nil)) rfl rfl rfl (.tupL ⟨.osn rfl, .t _, trivial⟩) ⟨ow_nil _, trivial⟩ ⟨rfl, rfl⟩
  obtain ⟨n37, h_38, hh0⟩ := bind_some hh0; obtain ⟨r39, h_40, hh0⟩ := bind_some hh0; rcases cond_some hh0 with ⟨h_41, hh0⟩ | ⟨h_41, hh0⟩; rotate_left
  · refine PC.rg ?_; refine PL.op rfl (Rd.fieldO rfl rfl) ?_; refine PL.op rfl (Rd.loadO rfl rfl rfl) ?_; refine PL.op rfl (Rd.eql rfl rfl) ?_; refine PL.mT rfl rfl ?_; refine PL.gn rfl h_36 ?_; refine PL.op rfl (Rd.fieldO rfl rfl) ?_; refine PL.gn rfl h_36 ?_; refine PL.op rfl (Rd.loadO rfl rfl rfl) ?_; refine PL.gn rfl h_36 ?_; refine PL.mT rfl rfl ?_; refine PL.gn rfl h_36 ?_; refine PL.op rfl (Rd.lenT rfl) ?_; refine PL.gn rfl h_36 ?_; refine PL.op rfl (Rd.subM rfl rfl h_38) ?_; refine PL.gn rfl h_36 ?_; refine PL.callM false [] (w_S_inRange N p_c.at_ (0 : Int) n37 r39 h_40) rfl Tryz.call59 rfl ⟨.t _, .t _, .t _, trivial⟩ rfl trivial (fun h => by cases h) ?_; refine PL.op rfl (Rd.pick_t rfl h_36) ?_; refine PL.mT rfl rfl ?_; (iterate 7 refine PL.gf rfl rfl h_41 ?_); refine PL.op rfl (Rd.pick_f rfl h_41) ?_; refine PL.aT rfl rfl ?_; refine PL.nn ?_; refine PC.cf rfl rfl ?_; refine PC.skip ?_; refine inA_n ?_; refine thA_n ?_; refine PC.seq ?_; refine PC.rg ?_; (iterate 2 refine PL.aT rfl rfl ?_); refine PL.nn ?_; refine PC.ret ?_; obtain rfl := some_in hh0; exact FinA.mk (r := .tup [.os 0 0 (((([] : List I_Column), false).1).length), bA ((([] : List I_Column), false).2)]) (bl := [⟨.tr (eL ((([] : List I_Column), false).1)), 67, 4⟩]) [none] (.inl rfl) rfl (rl := [.tmp 4, .tmp 5]) (.tmp (.tmp .nil)) rfl rfl rfl (.tupL ⟨.osn rfl, .t _, trivial⟩) ⟨ow_nil _, trivial⟩ ⟨rfl, rfl⟩
  obtain ⟨x42, h_43, hh0⟩ := bind_some hh0; refine PC.rg ?_; refine PL.op rfl (Rd.fieldO rfl rfl) ?_; refine PL.op rfl (Rd.loadO rfl rfl rfl) ?_; refine PL.op rfl (Rd.eql rfl rfl) ?_; refine PL.mT rfl rfl ?_; refine PL.gn rfl h_36 ?_; refine PL.op rfl (Rd.fieldO rfl rfl) ?_; refine PL.gn rfl h_36 ?_; refine PL.op rfl (Rd.loadO rfl rfl rfl) ?_; refine PL.gn rfl h_36 ?_; refine PL.mT rfl rfl ?_; refine PL.gn rfl h_36 ?_; refine PL.op rfl (Rd.lenT rfl) ?_; refine PL.gn rfl h_36 ?_; refine PL.op rfl (Rd.subM rfl rfl h_38) ?_; refine PL.gn rfl h_36 ?_; refine PL.callM false [] (w_S_inRange N p_c.at_ (0 : Int) n37 r39 h_40) rfl Tryz.call59 rfl ⟨.t _, .t _, .t _, trivial⟩ rfl trivial (fun h => by cases h) ?_; refine PL.op rfl (Rd.pick_t rfl h_36) ?_; refine PL.mT rfl rfl ?_; refine PL.gn rfl h_41 ?_; refine PL.mT rfl rfl ?_; refine PL.gn rfl h_41 ?_; refine PL.op rfl (Rd.fieldO rfl rfl) ?_; refine PL.gn rfl h_41 ?_; refine PL.op rfl (Rd.loadO rfl rfl rfl) ?_; refine PL.gn rfl h_41 ?_; refine PL.op rfl (Rd.ixM rfl rfl h_43) ?_; refine PL.gn rfl h_41 ?_; refine PL.op rfl (Rd.fieldT rfl) ?_; refine PL.gn rfl h_41 ?_; refine PL.op rfl (Rd.elMF (f := 0) rfl h_43 rfl rfl) ?_; refine PL.gn rfl h_41 ?_; refine PL.op rfl (Rd.eql rfl rfl) ?_; refine PL.op rfl (Rd.pick_t rfl h_41) ?_; refine PL.aT rfl rfl ?_; refine PL.nn ?_; rcases cond_some hh0 with ⟨h_44, hh0⟩ | ⟨h_44, hh0⟩; rotate_left
  · refine PC.cf rfl h_44 ?_; refine PC.skip ?_; refine inA_n ?_; refine thA_n ?_; refine PC.seq ?_; refine PC.rg ?_; (iterate 2 refine PL.aT rfl rfl ?_); refine PL.nn ?_; refine PC.ret ?_; obtain rfl := some_in hh0; exact FinA.mk (r := .tup [.os 0 0 (((([] : List I_Column), false).1).length), bA ((([] : List I_Column), false).2)]) (bl := [⟨.tr (eL ((([] : List I_Column), false).1)), 67, 4⟩]) [none] (.inl rfl) rfl (rl := [.tmp 4, .tmp 5]) (.tmp (.tmp .nil)) rfl rfl rfl (.tupL ⟨.osn rfl, .t _, trivial⟩) ⟨ow_nil _, trivial⟩ ⟨rfl, rfl⟩
  refine PC.ct rfl h_44 ?_; refine PC.seq ?_; obtain ⟨r45, h_46, hh0⟩ := bind_some hh0; refine PC.rg ?_; refine PL.mT rfl rfl ?_; refine PL.callM false [] (w_S_copyColumns N p_f r45 h_46) rfl Tryz.call102 rfl ⟨.t _, trivial⟩ rfl trivial (fun h => by cases h) ?_; refine PL.nm (.os 1 0 r45.length) [some ⟨.mx [iA p_c.kind, iA p_c.at_, iA p_c.column.kind, iA p_c.column.default.kind, iA p_c.column.default.num, sA p_c.column.default.text], 74, 0⟩, some ⟨.tr (eL r45), 67, 4⟩] rfl rfl ?_; refine PL.op rfl (Rd.asnO rfl) ?_; refine PL.nn ?_; refine PC.seq ?_; obtain ⟨x47, h_48, hh0⟩ := bind_some hh0; obtain ⟨r49, h_50, hh0⟩ := bind_some hh0; obtain ⟨x51, h_52, hh0⟩ := bind_some hh0; refine PC.any (id := 7) 12 (.seg [0, 1, 2, 3, 4, 5, 6, 7, 8, 9, 10, 11] .done) [] rfl (by kernel_rfl) rfl ?_; refine PT.seg ?_; refine PR.op rfl (Rd.moveO rfl) ?_; refine PR.op rfl (Rd.fieldO rfl rfl) ?_; refine PR.op rfl (Rd.loadO rfl rfl rfl) ?_; refine PR.op rfl (Rd.moveT rfl) ?_; refine PR.op rfl (Rd.fieldO rfl rfl) ?_; refine PR.op rfl (Rd.loadO rfl rfl rfl) ?_; refine PR.op rfl (Rd.ixM rfl rfl h_48) ?_; refine PR.op rfl (Rd.fieldT rfl) ?_; refine PR.op rfl (Rd.elMFR (f := 1) rfl h_48 rfl rfl rfl) ?_; refine PR.callM false [] (w_S_widen N x47.default r49 h_50) rfl Tryz.call120 rfl ⟨.aggL ⟨.t _, .t _, .t _, trivial⟩, trivial⟩ rfl trivial (fun h => by cases h) rfl ?_; refine PR.op rfl (Rd.build rfl rfl rfl rfl) ?_; refine PR.ixOM rfl rfl rfl rfl (ixI_lt h_52) ?_; refine PR.nil ?_; refine PT.done ?_; refine PL.stRM (I_Column.mk (2 : Int) r49) rfl rfl rfl rfl rfl h_52 rfl ?_; refine PL.nO [some ⟨.mx [iA p_c.kind, iA p_c.at_, iA p_c.column.kind, iA p_c.column.default.kind, iA p_c.column.default.num, sA p_c.column.default.text], 74, 0⟩, some ⟨.tr (eL (r45.set p_c.at_.toNat (I_Column.mk (2 : Int) r49))), 67, 4⟩] rfl ?_; refine PL.nn ?_; refine PC.seq ?_; refine PC.rg ?_; refine PL.op rfl (Rd.moveO rfl) ?_; refine PL.op rfl (Rd.asnO rfl) ?_; refine PL.aT rfl rfl ?_; refine PL.nn ?_; refine PC.ret ?_; refine inA_r ?_; refine thA_r ?_; obtain rfl := some_in hh0; exact FinA.mk (r := .tup [.os 0 0 ((((r45.set p_c.at_.toNat (I_Column.mk (2 : Int) r49)), true).1).length), bA (((r45.set p_c.at_.toNat (I_Column.mk (2 : Int) r49)), true).2)]) (bl := [⟨.tr (eL (((r45.set p_c.at_.toNat (I_Column.mk (2 : Int) r49)), true).1)), 67, 4⟩]) [some 1] (.inl rfl) rfl (rl := [.tmp 4, .tmp 5]) (.tmp (.tmp .nil)) rfl rfl rfl (.tupL ⟨.osE rfl (by simp only [List.length_set]), .t _, trivial⟩) ⟨⟨_, rfl, rfl, rfl, .tr _⟩, trivial⟩ ⟨rfl, rfl⟩
def m_S_formats_k1 (N : Nat) (v17 : (List (List I_Column))) : Option ((List (List I_Column)) × Bool) :=
  some (v17, true)
def m_S_formats_b1 (N : Nat) (p_list : (List I_Change)) (ok3 : Int) (v4 : (List (List I_Column))) : Option ((Int × (List (List I_Column))) ⊕ ((List (List I_Column)) ⊕ ((List (List I_Column)) × Bool))) :=
  cond (decide (ok3 < (p_list.length : Int)))
    ((ixI v4 ok3).bind fun x24 =>
    (ixI p_list ok3).bind fun x26 =>
    (m_S_change N x24 x26).bind fun r28 =>
    cond r28.2
      ((appM 24 v4 [r28.1]).bind fun xs31 =>
      (chk (ok3 + (1 : Int))).bind fun n33 =>
      some (.inl (n33, xs31)))
      (some (.inr (.inr (([] : List (List I_Column)), false)))))
    (some (.inr (.inl v4)))
def m_S_formats (N : Nat) (p_f : (List I_Column)) (p_list : (List I_Change)) : Option ((List (List I_Column)) × Bool) :=
  (m_S_copyColumns N p_f).bind fun r1 =>
  (loopM (β := (List (List I_Column)) ⊕ ((List (List I_Column)) × Bool)) (fun s : Int × (List (List I_Column)) => m_S_formats_b1 N p_list s.1 s.2) N ((0 : Int), [r1])).bind fun o => match o with
  | .inl e =>
    m_S_formats_k1 N e
  | .inr v =>
    some v
theorem w_S_formats (N : Nat) (p_f : (List I_Column)) (p_list : (List I_Change)) (r : (List (List I_Column)) × Bool) (hh0 : m_S_formats N p_f p_list = some r) : FnX Tryz.prog 85 [] [sL p_f, sL p_list] (RE (.tup [.os 0 0 r.1.length, bA r.2]) [⟨.tr (eL r.1), 37, 1⟩]) := by
  unfold m_S_formats at hh0; refine FnX.mk Tryz.func85 rfl rfl ?_; intro s hs; refine PC.seq ?_; refine PC.rg ?_; (iterate 2 refine PL.aT rfl rfl ?_); refine PL.nn ?_; refine PC.seq ?_; obtain ⟨r1, h_2, hh0⟩ := bind_some hh0; refine PC.rg ?_; refine PL.mT rfl rfl ?_; refine PL.callM false [] (w_S_copyColumns N p_f r1 h_2) rfl Tryz.call102 rfl ⟨.t _, trivial⟩ rfl trivial (fun h => by cases h) ?_; refine PL.nm (.os 0 0 r1.length) [some ⟨.tr (eL r1), 67, 4⟩] rfl rfl ?_; refine PL.frz hs 0 1 [(11, sL r1)] [none] rfl rfl ⟨(.own rfl (by decide) rfl rfl), trivial⟩ trivial ?_; refine PL.ef rfl (Ef.litM (α := (List I_Column)) [r1] [_] rfl rfl (by decide) rfl rfl rfl rfl) ?_; refine PL.nm (.os 1 0 1) [none, some ⟨.tr (eL [r1]), 37, 1⟩] rfl rfl ?_; refine PL.op rfl (Rd.asnO rfl) ?_; refine PL.nn ?_; (iterate 2 refine PC.seq ?_); refine PC.rg ?_; refine PL.aT rfl rfl ?_; refine PL.nn ?_; obtain ⟨o18, h_19, hh0⟩ := bind_some hh0; refine PC.cutE hs (fun x : (List (List I_Column)) => [(6, .os 0 0 x.length)]) (fun x => [⟨.tr (eL x), 37, 1⟩]) (fun x => m_S_formats_k1 N x = some r) ?_ ?_
  · refine PC.block ?_; refine PC.loop hs (fun x : Nat × (Int × (List (List I_Column))) => [(1, sL p_list), (6, .os 0 0 x.2.2.length), (7, iA x.2.1)]) (fun x => [⟨.tr (eL x.2.2), 37, 1⟩]) (fun x => loopM (β := (List (List I_Column)) ⊕ ((List (List I_Column)) × Bool)) (fun s : Int × (List (List I_Column)) => m_S_formats_b1 N p_list s.1 s.2) x.1 x.2 = some o18) (fun x => x.1) (N, ((0 : Int), [r1])) [some 1] ⟨rfl, rfl, ⟨⟨_, rfl, rfl, rfl, .tr _⟩, trivial⟩, ⟨.t _, .os rfl, .t _, trivial⟩⟩ h_19 ?_
    rintro ⟨f20_, ok3, v4⟩ h_22
    obtain ⟨f20, y21, rfl, hh1, kk1⟩ := loopM_some h_22
    replace hh1 : m_S_formats_b1 N p_list ok3 v4 = some y21 := hh1
    unfold m_S_formats_b1 at hh1; (iterate 2 refine PC.seq ?_); refine PC.rg ?_; (iterate 2 refine PL.mT rfl rfl ?_); refine PL.op rfl (Rd.lenT rfl) ?_; refine PL.op rfl (Rd.lss rfl rfl) ?_; refine PL.nn ?_; rcases cond_some hh1 with ⟨h_23, hh1⟩ | ⟨h_23, hh1⟩; rotate_left
    · refine PC.cf rfl h_23 ?_; refine PC.exit ?_; (iterate 2 refine thA_e ?_); refine inA_eq rfl ?_; refine thA_n ?_; obtain rfl := some_in hh1; obtain rfl : (.inl v4 : (List (List I_Column)) ⊕ ((List (List I_Column)) × Bool)) = o18 := kk1; exact ⟨v4, hh0, [some 0], ⟨rfl, rfl, ⟨⟨_, rfl, rfl, rfl, .tr _⟩, trivial⟩, ⟨.os rfl, trivial⟩⟩⟩
    refine PC.ct rfl h_23 ?_; refine PC.skip ?_; refine thA_n ?_; refine PC.seq ?_; refine PC.block ?_; refine PC.seq ?_; obtain ⟨x24, h_25, hh1⟩ := bind_some hh1; obtain ⟨x26, h_27, hh1⟩ := bind_some hh1; obtain ⟨r28, h_29, hh1⟩ := bind_some hh1; refine PC.any (id := 5) 14 (.seg [0, 1, 2, 3, 4, 5, 6, 7, 8, 9, 10, 11, 12, 13] .done) [] rfl (by kernel_rfl) rfl ?_; refine PT.seg ?_; refine PR.op rfl (Rd.moveO rfl) ?_; refine PR.op rfl (Rd.moveT rfl) ?_; refine PR.ixOM rfl rfl rfl rfl (ixI_lt h_25) ?_; refine PR.op rfl (Rd.owM1 rfl rfl h_25 rfl rfl) ?_; (iterate 2 refine PR.op rfl (Rd.moveT rfl) ?_); refine PR.op rfl (Rd.ixM rfl rfl h_27) ?_; refine PR.op rfl (Rd.elMR rfl h_27 rfl rfl) ?_; refine PR.callM false [] (w_S_change N x24 x26 r28 h_29) rfl Tryz.call103 rfl ⟨.t _, .aggL ⟨.t _, .t _, .t _, .t _, .t _, .t _, trivial⟩, trivial⟩ rfl trivial (fun h => by cases h) rfl ?_; refine PR.nm (.tup [.os 1 0 r28.1.length, bA r28.2]) [some ⟨.tr (eL v4), 37, 1⟩, some ⟨.tr (eL r28.1), 67, 4⟩] rfl rfl ?_; refine PR.op rfl (Rd.moveU rfl) ?_; (iterate 2 refine PR.op rfl (Rd.extract rfl rfl) ?_); refine PR.op rfl (Rd.asnO rfl) ?_; refine PR.op rfl (Rd.asnT rfl) ?_; refine PR.nil ?_; refine PT.done ?_; refine PL.nn ?_; (iterate 2 refine PC.seq ?_); refine PC.rg ?_; refine PL.mT rfl rfl ?_; refine PL.op rfl (Rd.unnot rfl) ?_; refine PL.nn ?_; rcases cond_some hh1 with ⟨h_30, hh1⟩ | ⟨h_30, hh1⟩; rotate_left
    · refine PC.ct rfl (not_f h_30) ?_; refine PC.seq ?_; refine PC.rg ?_; (iterate 2 refine PL.aT rfl rfl ?_); refine PL.nn ?_; refine PC.ret ?_; refine thA_r ?_; refine inA_r ?_; (iterate 2 refine thA_r ?_); refine inA_r ?_; refine thA_r ?_; obtain rfl := some_in hh1; obtain rfl : (.inr (([] : List (List I_Column)), false) : (List (List I_Column)) ⊕ ((List (List I_Column)) × Bool)) = o18 := kk1; refine thA_r ?_; obtain rfl := some_in hh0; exact FinA.mk (r := .tup [.os 0 0 (((([] : List (List I_Column)), false).1).length), bA ((([] : List (List I_Column)), false).2)]) (bl := [⟨.tr (eL ((([] : List (List I_Column)), false).1)), 37, 1⟩]) [none] (.inl rfl) rfl (rl := [.tmp 4, .tmp 5]) (.tmp (.tmp .nil)) rfl rfl rfl (.tupL ⟨.osn rfl, .t _, trivial⟩) ⟨ow_nil _, trivial⟩ ⟨rfl, rfl⟩
    refine PC.cf rfl (not_t h_30) ?_; refine PC.skip ?_; refine thA_n ?_; obtain ⟨xs31, h_32, hh1⟩ := bind_some hh1; refine PC.rg ?_; (iterate 2 refine PL.op rfl (Rd.moveO rfl) ?_); refine PL.frz hs 1 2 [(28, .tup [sL r28.1, bA r28.2]), (19, .tup [sL r28.1, bA r28.2]), (29, sL r28.1), (8, sL r28.1), (34, sL r28.1)] [some ⟨.tr (eL v4), 37, 1⟩, none] rfl rfl ⟨(.tupL ⟨(.own rfl (by decide) rfl rfl), (.t _), trivial⟩), (.tupL ⟨(.own rfl (by decide) rfl rfl), (.t _), trivial⟩), (.own rfl (by decide) rfl rfl), (.own rfl (by decide) rfl rfl), (.own rfl (by decide) rfl rfl), trivial⟩ ⟨⟨rfl, .inl rfl⟩, trivial⟩ ?_; refine PL.ef rfl (Ef.litM (α := (List I_Column)) [r28.1] [_] rfl rfl (by decide) rfl rfl rfl rfl) ?_; refine PL.nm (.os 2 0 1) [some ⟨.tr (eL v4), 37, 1⟩, none, some ⟨.tr (eL [r28.1]), 37, 1⟩] rfl rfl ?_; refine PL.apM hs rfl rfl rfl rfl (SrcA.ownE rfl rfl rfl) rfl rfl rfl rfl h_32 ?_; refine PL.nm (.os 3 0 xs31.length) [none, none, some ⟨.tr (eL [r28.1]), 37, 1⟩, some ⟨.tr (eL xs31), 37, 1⟩] rfl rfl ?_; refine PL.op rfl (Rd.asnO rfl) ?_; refine PL.nil ?_; refine inA_n ?_; refine thA_n ?_; obtain ⟨n33, h_34, hh1⟩ := bind_some hh1; refine PC.rg ?_; refine PL.mT rfl rfl ?_; refine PL.op rfl (Rd.addM rfl rfl h_34) ?_; refine PL.aT rfl rfl ?_; refine PL.nil ?_; obtain rfl := some_in hh1; refine thA_n ?_; exact ⟨(f20, (n33, xs31)), Nat.lt_succ_self _, kk1, [some 3], ⟨rfl, rfl, ⟨⟨_, rfl, rfl, rfl, .tr _⟩, trivial⟩, ⟨.t _, .os rfl, .t _, trivial⟩⟩⟩
  clear hh0
  rintro v17 hh0
  replace hh0 : m_S_formats_k1 N v17 = some r := hh0
  unfold m_S_formats_k1 at hh0; refine thA_n ?_; refine PC.seq ?_; refine PC.rg ?_; refine PL.op rfl (Rd.moveO rfl) ?_; refine PL.op rfl (Rd.asnO rfl) ?_; refine PL.aT rfl rfl ?_; refine PL.nn ?_; refine PC.ret ?_; obtain rfl := some_in hh0; exact FinA.mk (r := .tup [.os 0 0 (((v17, true).1).length), bA ((v17, true).2)]) (bl := [⟨.tr (eL ((v17, true).1)), 37, 1⟩]) [some 0] (.inl rfl) rfl (rl := [.tmp 4, .tmp 5]) (.tmp (.tmp .nil)) rfl rfl rfl (.tupL ⟨.os rfl, .t _, trivial⟩) ⟨⟨_, rfl, rfl, rfl, .tr _⟩, trivial⟩ ⟨rfl, rfl⟩
def m_S_validChain (N : Nat) (p_f : (List I_Column)) (p_list : (List I_Change)) : Option (Bool) :=
  (m_S_validFormat N p_f).bind fun r1 =>
  cond r1
    (cond (decide ((8 : Int) < (p_list.length : Int)))
      (some false)
      ((m_S_formats N p_f p_list).bind fun r5 =>
      some r5.2))
    (some false)
theorem w_S_validChain (N : Nat) (p_f : (List I_Column)) (p_list : (List I_Change)) (r : Bool) (hh0 : m_S_validChain N p_f p_list = some r) : FnX Tryz.prog 84 [] [sL p_f, sL p_list] (RE (bA r) []) := by
  unfold m_S_validChain at hh0; refine FnX.mk Tryz.func84 rfl rfl ?_; intro s hs; refine PC.seq ?_; refine PC.rg ?_; refine PL.aT rfl rfl ?_; refine PL.nn ?_; (iterate 2 refine PC.seq ?_); obtain ⟨r1, h_2, hh0⟩ := bind_some hh0; rcases cond_some hh0 with ⟨h_3, hh0⟩ | ⟨h_3, hh0⟩; rotate_left
  · refine PC.rg ?_; refine PL.mT rfl rfl ?_; refine PL.callM false [] (w_S_validFormat N p_f r1 h_2) rfl Tryz.call57 rfl ⟨.t _, trivial⟩ rfl trivial (fun h => by cases h) ?_; refine PL.op rfl (Rd.unnot rfl) ?_; refine PL.mT rfl rfl ?_; (iterate 3 refine PL.gf rfl rfl (not_f h_3) ?_); refine PL.op rfl (Rd.pick_t rfl (not_f h_3)) ?_; refine PL.nn ?_; refine PC.ct rfl rfl ?_; refine PC.seq ?_; refine PC.rg ?_; refine PL.aT rfl rfl ?_; refine PL.nn ?_; refine PC.ret ?_; refine thA_r ?_; obtain rfl := some_in hh0; exact FinA.mk (r := bA false) (bl := []) [] (.inl rfl) rfl (rl := [.tmp 4]) (.tmp .nil) rfl rfl rfl (.t _) trivial ⟨rfl, rfl⟩
  refine PC.rg ?_; refine PL.mT rfl rfl ?_; refine PL.callM false [] (w_S_validFormat N p_f r1 h_2) rfl Tryz.call57 rfl ⟨.t _, trivial⟩ rfl trivial (fun h => by cases h) ?_; refine PL.op rfl (Rd.unnot rfl) ?_; refine PL.mT rfl rfl ?_; refine PL.gn rfl (not_t h_3) ?_; refine PL.mT rfl rfl ?_; refine PL.gn rfl (not_t h_3) ?_; refine PL.op rfl (Rd.lenT rfl) ?_; refine PL.gn rfl (not_t h_3) ?_; refine PL.op rfl (Rd.gtr rfl rfl) ?_; refine PL.op rfl (Rd.pick_f rfl (not_t h_3)) ?_; refine PL.nn ?_; rcases cond_some hh0 with ⟨h_4, hh0⟩ | ⟨h_4, hh0⟩
  · refine PC.ct rfl h_4 ?_; refine PC.seq ?_; refine PC.rg ?_; refine PL.aT rfl rfl ?_; refine PL.nn ?_; refine PC.ret ?_; refine thA_r ?_; obtain rfl := some_in hh0; exact FinA.mk (r := bA false) (bl := []) [] (.inl rfl) rfl (rl := [.tmp 4]) (.tmp .nil) rfl rfl rfl (.t _) trivial ⟨rfl, rfl⟩
  refine PC.cf rfl h_4 ?_; refine PC.skip ?_; refine thA_n ?_; refine PC.seq ?_; obtain ⟨r5, h_6, hh0⟩ := bind_some hh0; refine PC.rg ?_; (iterate 2 refine PL.mT rfl rfl ?_); refine PL.callM false [] (w_S_formats N p_f p_list r5 h_6) rfl Tryz.call85 rfl ⟨.t _, .t _, trivial⟩ rfl trivial (fun h => by cases h) ?_; refine PL.nm (.tup [.os 0 0 r5.1.length, bA r5.2]) [some ⟨.tr (eL r5.1), 37, 1⟩] rfl rfl ?_; refine PL.op rfl (Rd.moveU rfl) ?_; (iterate 2 refine PL.op rfl (Rd.extract rfl rfl) ?_); refine PL.op rfl (Rd.asnO rfl) ?_; refine PL.aT rfl rfl ?_; refine PL.nn ?_; refine PC.seq ?_; refine PC.rg ?_; refine PL.mT rfl rfl ?_; refine PL.aT rfl rfl ?_; refine PL.nn ?_; refine PC.ret ?_; obtain rfl := some_in hh0; exact FinA.mk (r := bA r5.2) (bl := []) [] (.inl rfl) rfl (rl := [.tmp 4]) (.tmp .nil) rfl rfl rfl (.t _) trivial ⟨rfl, rfl⟩
def m_S_validRow_k1 (N : Nat) (p_row : (List I_Value)) : Option (Bool) :=
  some (decide ((p_row.length : Int) ≤ (5 : Int)))
def m_S_validRow_b1 (N : Nat) (p_row : (List I_Value)) (i1 : Int) : Option (Int ⊕ (Unit ⊕ Bool)) :=
  cond (decide (i1 < (p_row.length : Int)))
    ((ixI p_row i1).bind fun x16 =>
    (m_S_validValue N x16).bind fun r18 =>
    cond r18
      ((chk (i1 + (1 : Int))).bind fun n21 =>
      some (.inl n21))
      (some (.inr (.inr false))))
    (some (.inr (.inl ())))
def m_S_validRow (N : Nat) (p_row : (List I_Value)) : Option (Bool) :=
  (loopM (β := Unit ⊕ Bool) (fun s : Int => m_S_validRow_b1 N p_row s) N (0 : Int)).bind fun o => match o with
  | .inl e =>
    m_S_validRow_k1 N p_row 
  | .inr v =>
    some v
theorem w_S_validRow (N : Nat) (p_row : (List I_Value)) (r : Bool) (hh0 : m_S_validRow N p_row = some r) : FnX Tryz.prog 104 [] [sL p_row] (RE (bA r) []) := by
  unfold m_S_validRow at hh0; refine FnX.mk Tryz.func104 rfl rfl ?_; intro s hs; refine PC.seq ?_; refine PC.rg ?_; refine PL.aT rfl rfl ?_; refine PL.nn ?_; (iterate 2 refine PC.seq ?_); refine PC.rg ?_; refine PL.aT rfl rfl ?_; refine PL.nn ?_; obtain ⟨o10, h_11, hh0⟩ := bind_some hh0; refine PC.cutE hs (fun x : Unit => [(0, sL p_row)]) (fun x => []) (fun x => m_S_validRow_k1 N p_row  = some r) ?_ ?_
  · refine PC.block ?_; refine PC.loop hs (fun x : Nat × (Int) => [(0, sL p_row), (3, iA x.2)]) (fun x => []) (fun x => loopM (β := Unit ⊕ Bool) (fun s : Int => m_S_validRow_b1 N p_row s) x.1 x.2 = some o10) (fun x => x.1) (N, (0 : Int)) [] ⟨rfl, rfl, trivial, ⟨.t _, .t _, trivial⟩⟩ h_11 ?_
    rintro ⟨f12_, i1⟩ h_14
    obtain ⟨f12, y13, rfl, hh1, kk1⟩ := loopM_some h_14
    replace hh1 : m_S_validRow_b1 N p_row i1 = some y13 := hh1
    unfold m_S_validRow_b1 at hh1; (iterate 2 refine PC.seq ?_); refine PC.rg ?_; (iterate 2 refine PL.mT rfl rfl ?_); refine PL.op rfl (Rd.lenT rfl) ?_; refine PL.op rfl (Rd.lss rfl rfl) ?_; refine PL.nn ?_; rcases cond_some hh1 with ⟨h_15, hh1⟩ | ⟨h_15, hh1⟩; rotate_left
    · refine PC.cf rfl h_15 ?_; refine PC.exit ?_; (iterate 2 refine thA_e ?_); refine inA_eq rfl ?_; refine thA_n ?_; obtain rfl := some_in hh1; obtain rfl : (.inl () : Unit ⊕ Bool) = o10 := kk1; exact ⟨(), hh0, [], ⟨rfl, rfl, trivial, ⟨.t _, trivial⟩⟩⟩
    refine PC.ct rfl h_15 ?_; refine PC.skip ?_; refine thA_n ?_; refine PC.seq ?_; refine PC.block ?_; refine PC.seq ?_; obtain ⟨x16, h_17, hh1⟩ := bind_some hh1; obtain ⟨r18, h_19, hh1⟩ := bind_some hh1; refine PC.rg ?_; (iterate 2 refine PL.mT rfl rfl ?_); refine PL.op rfl (Rd.ixM rfl rfl h_17) ?_; refine PL.op rfl (Rd.elMR rfl h_17 rfl rfl) ?_; refine PL.callM false [] (w_S_validValue N x16 r18 h_19) rfl Tryz.call101 rfl ⟨.aggL ⟨.t _, .t _, .t _, trivial⟩, trivial⟩ rfl trivial (fun h => by cases h) ?_; refine PL.op rfl (Rd.unnot rfl) ?_; refine PL.nn ?_; rcases cond_some hh1 with ⟨h_20, hh1⟩ | ⟨h_20, hh1⟩
    · refine PC.cf rfl (not_t h_20) ?_; refine PC.skip ?_; refine inA_n ?_; refine thA_n ?_; obtain ⟨n21, h_22, hh1⟩ := bind_some hh1; refine PC.rg ?_; refine PL.mT rfl rfl ?_; refine PL.op rfl (Rd.addM rfl rfl h_22) ?_; refine PL.aT rfl rfl ?_; refine PL.nil ?_; obtain rfl := some_in hh1; refine thA_n ?_; exact ⟨(f12, n21), Nat.lt_succ_self _, kk1, [], ⟨rfl, rfl, trivial, ⟨.t _, .t _, trivial⟩⟩⟩
    refine PC.ct rfl (not_f h_20) ?_; refine PC.seq ?_; refine PC.rg ?_; refine PL.aT rfl rfl ?_; refine PL.nn ?_; refine PC.ret ?_; refine inA_r ?_; (iterate 2 refine thA_r ?_); refine inA_r ?_; refine thA_r ?_; obtain rfl := some_in hh1; obtain rfl : (.inr false : Unit ⊕ Bool) = o10 := kk1; refine thA_r ?_; obtain rfl := some_in hh0; exact FinA.mk (r := bA false) (bl := []) [] (.inl rfl) rfl (rl := [.tmp 2]) (.tmp .nil) rfl rfl rfl (.t _) trivial ⟨rfl, rfl⟩
  clear hh0
  rintro ⟨⟩ hh0
  replace hh0 : m_S_validRow_k1 N p_row  = some r := hh0
  unfold m_S_validRow_k1 at hh0; refine thA_n ?_; refine PC.seq ?_; refine PC.rg ?_; refine PL.mT rfl rfl ?_; refine PL.op rfl (Rd.lenT rfl) ?_; refine PL.op rfl (Rd.leq rfl rfl) ?_; refine PL.aT rfl rfl ?_; refine PL.nn ?_; refine PC.ret ?_; obtain rfl := some_in hh0; exact FinA.mk (r := bA (decide ((p_row.length : Int) ≤ (5 : Int)))) (bl := []) [] (.inl rfl) rfl (rl := [.tmp 2]) (.tmp .nil) rfl rfl rfl (.t _) trivial ⟨rfl, rfl⟩
def m_S_fits_k1 (N : Nat) : Option (Bool) :=
  some true
def m_S_fits_b1 (N : Nat) (p_f : (List I_Column)) (p_row : (List I_Value)) (i5 : Int) : Option (Int ⊕ (Unit ⊕ Bool)) :=
  cond (decide (i5 < (p_row.length : Int)))
    ((ixI p_row i5).bind fun x25 =>
    cond (decide (x25.kind = (0 : Int)))
      ((chk (i5 + (1 : Int))).bind fun n32 =>
      some (.inl n32))
      ((ixI p_row i5).bind fun x28 =>
      (ixI p_f i5).bind fun x30 =>
      cond (decide (x28.kind = x30.kind))
        ((chk (i5 + (1 : Int))).bind fun n35 =>
        some (.inl n35))
        (some (.inr (.inr false)))))
    (some (.inr (.inl ())))
def m_S_fits (N : Nat) (p_f : (List I_Column)) (p_row : (List I_Value)) : Option (Bool) :=
  cond (decide ((p_row.length : Int) = (p_f.length : Int)))
    ((m_S_validRow N p_row).bind fun r2 =>
    cond r2
      ((loopM (β := Unit ⊕ Bool) (fun s : Int => m_S_fits_b1 N p_f p_row s) N (0 : Int)).bind fun o => match o with
      | .inl e =>
        m_S_fits_k1 N 
      | .inr v =>
        some v)
      (some false))
    (some false)
theorem w_S_fits (N : Nat) (p_f : (List I_Column)) (p_row : (List I_Value)) (r : Bool) (hh0 : m_S_fits N p_f p_row = some r) : FnX Tryz.prog 86 [] [sL p_f, sL p_row] (RE (bA r) []) := by
  unfold m_S_fits at hh0; refine FnX.mk Tryz.func86 rfl rfl ?_; intro s hs; refine PC.seq ?_; refine PC.rg ?_; refine PL.aT rfl rfl ?_; refine PL.nn ?_; (iterate 2 refine PC.seq ?_); rcases cond_some hh0 with ⟨h_1, hh0⟩ | ⟨h_1, hh0⟩; rotate_left
  · refine PC.rg ?_; refine PL.mT rfl rfl ?_; refine PL.op rfl (Rd.lenT rfl) ?_; refine PL.mT rfl rfl ?_; refine PL.op rfl (Rd.lenT rfl) ?_; refine PL.op rfl (Rd.neq rfl rfl) ?_; refine PL.mT rfl rfl ?_; (iterate 3 refine PL.gf rfl rfl (not_f h_1) ?_); refine PL.op rfl (Rd.pick_t rfl (not_f h_1)) ?_; refine PL.nn ?_; refine PC.ct rfl rfl ?_; refine PC.seq ?_; refine PC.rg ?_; refine PL.aT rfl rfl ?_; refine PL.nn ?_; refine PC.ret ?_; refine thA_r ?_; obtain rfl := some_in hh0; exact FinA.mk (r := bA false) (bl := []) [] (.inl rfl) rfl (rl := [.tmp 4]) (.tmp .nil) rfl rfl rfl (.t _) trivial ⟨rfl, rfl⟩
  obtain ⟨r2, h_3, hh0⟩ := bind_some hh0; refine PC.rg ?_; refine PL.mT rfl rfl ?_; refine PL.op rfl (Rd.lenT rfl) ?_; refine PL.mT rfl rfl ?_; refine PL.op rfl (Rd.lenT rfl) ?_; refine PL.op rfl (Rd.neq rfl rfl) ?_; refine PL.mT rfl rfl ?_; refine PL.gn rfl (not_t h_1) ?_; refine PL.mT rfl rfl ?_; refine PL.gn rfl (not_t h_1) ?_; refine PL.callM false [] (w_S_validRow N p_row r2 h_3) rfl Tryz.call104 rfl ⟨.t _, trivial⟩ rfl trivial (fun h => by cases h) ?_; refine PL.gn rfl (not_t h_1) ?_; refine PL.op rfl (Rd.unnot rfl) ?_; refine PL.op rfl (Rd.pick_f rfl (not_t h_1)) ?_; refine PL.nn ?_; rcases cond_some hh0 with ⟨h_4, hh0⟩ | ⟨h_4, hh0⟩; rotate_left
  · refine PC.ct rfl (not_f h_4) ?_; refine PC.seq ?_; refine PC.rg ?_; refine PL.aT rfl rfl ?_; refine PL.nn ?_; refine PC.ret ?_; refine thA_r ?_; obtain rfl := some_in hh0; exact FinA.mk (r := bA false) (bl := []) [] (.inl rfl) rfl (rl := [.tmp 4]) (.tmp .nil) rfl rfl rfl (.t _) trivial ⟨rfl, rfl⟩
  refine PC.cf rfl (not_t h_4) ?_; refine PC.skip ?_; refine thA_n ?_; (iterate 2 refine PC.seq ?_); refine PC.rg ?_; refine PL.aT rfl rfl ?_; refine PL.nn ?_; obtain ⟨o19, h_20, hh0⟩ := bind_some hh0; refine PC.cutE hs (fun x : Unit => []) (fun x => []) (fun x => m_S_fits_k1 N  = some r) ?_ ?_
  · refine PC.block ?_; refine PC.loop hs (fun x : Nat × (Int) => [(0, sL p_f), (1, sL p_row), (5, iA x.2)]) (fun x => []) (fun x => loopM (β := Unit ⊕ Bool) (fun s : Int => m_S_fits_b1 N p_f p_row s) x.1 x.2 = some o19) (fun x => x.1) (N, (0 : Int)) [] ⟨rfl, rfl, trivial, ⟨.t _, .t _, .t _, trivial⟩⟩ h_20 ?_
    rintro ⟨f21_, i5⟩ h_23
    obtain ⟨f21, y22, rfl, hh1, kk1⟩ := loopM_some h_23
    replace hh1 : m_S_fits_b1 N p_f p_row i5 = some y22 := hh1
    unfold m_S_fits_b1 at hh1; (iterate 2 refine PC.seq ?_); refine PC.rg ?_; (iterate 2 refine PL.mT rfl rfl ?_); refine PL.op rfl (Rd.lenT rfl) ?_; refine PL.op rfl (Rd.lss rfl rfl) ?_; refine PL.nn ?_; rcases cond_some hh1 with ⟨h_24, hh1⟩ | ⟨h_24, hh1⟩; rotate_left
    · refine PC.cf rfl h_24 ?_; refine PC.exit ?_; (iterate 2 refine thA_e ?_); refine inA_eq rfl ?_; refine thA_n ?_; obtain rfl := some_in hh1; obtain rfl : (.inl () : Unit ⊕ Bool) = o19 := kk1; exact ⟨(), hh0, [], ⟨rfl, rfl, trivial, trivial⟩⟩
    refine PC.ct rfl h_24 ?_; refine PC.skip ?_; refine thA_n ?_; refine PC.seq ?_; refine PC.block ?_; refine PC.seq ?_; obtain ⟨x25, h_26, hh1⟩ := bind_some hh1; rcases cond_some hh1 with ⟨h_27, hh1⟩ | ⟨h_27, hh1⟩
    · refine PC.any (id := 6) 19 (.seg [0, 1, 2, 3, 4, 5, 6, 7, 8, 9, 10, 11, 12, 13, 14, 15, 16, 17, 18] .done) [] rfl (by kernel_rfl) rfl ?_; refine PT.seg ?_; (iterate 2 refine PR.op rfl (Rd.moveT rfl) ?_); refine PR.op rfl (Rd.ixM rfl rfl h_26) ?_; refine PR.op rfl (Rd.fieldT rfl) ?_; refine PR.op rfl (Rd.elMF (f := 0) rfl h_26 rfl rfl) ?_; refine PR.op rfl (Rd.neq rfl rfl) ?_; refine PR.op rfl (Rd.moveT rfl) ?_; (iterate 11 refine PR.guard_off rfl rfl (not_t h_27) ?_); refine PR.op rfl (Rd.pick_f rfl (not_t h_27)) ?_; refine PR.nil ?_; refine PT.done ?_; refine PL.nn ?_; refine PC.cf rfl rfl ?_; refine PC.skip ?_; refine inA_n ?_; refine thA_n ?_; obtain ⟨n32, h_33, hh1⟩ := bind_some hh1; refine PC.rg ?_; refine PL.mT rfl rfl ?_; refine PL.op rfl (Rd.addM rfl rfl h_33) ?_; refine PL.aT rfl rfl ?_; refine PL.nil ?_; obtain rfl := some_in hh1; refine thA_n ?_; exact ⟨(f21, n32), Nat.lt_succ_self _, kk1, [], ⟨rfl, rfl, trivial, ⟨.t _, .t _, .t _, trivial⟩⟩⟩
    obtain ⟨x28, h_29, hh1⟩ := bind_some hh1; obtain ⟨x30, h_31, hh1⟩ := bind_some hh1; refine PC.any (id := 6) 19 (.seg [0, 1, 2, 3, 4, 5, 6, 7, 8, 9, 10, 11, 12, 13, 14, 15, 16, 17, 18] .done) [] rfl (by kernel_rfl) rfl ?_; refine PT.seg ?_; (iterate 2 refine PR.op rfl (Rd.moveT rfl) ?_); refine PR.op rfl (Rd.ixM rfl rfl h_26) ?_; refine PR.op rfl (Rd.fieldT rfl) ?_; refine PR.op rfl (Rd.elMF (f := 0) rfl h_26 rfl rfl) ?_; refine PR.op rfl (Rd.neq rfl rfl) ?_; refine PR.op rfl (Rd.moveT rfl) ?_; refine PR.guard_on rfl rfl (not_f h_27) ?_; refine PR.op rfl (Rd.moveT rfl) ?_; refine PR.guard_on rfl rfl (not_f h_27) ?_; refine PR.op rfl (Rd.moveT rfl) ?_; refine PR.guard_on rfl rfl (not_f h_27) ?_; refine PR.op rfl (Rd.ixM rfl rfl h_29) ?_; refine PR.guard_on rfl rfl (not_f h_27) ?_; refine PR.op rfl (Rd.fieldT rfl) ?_; refine PR.guard_on rfl rfl (not_f h_27) ?_; refine PR.op rfl (Rd.elMF (f := 0) rfl h_29 rfl rfl) ?_; refine PR.guard_on rfl rfl (not_f h_27) ?_; refine PR.op rfl (Rd.moveT rfl) ?_; refine PR.guard_on rfl rfl (not_f h_27) ?_; refine PR.op rfl (Rd.moveT rfl) ?_; refine PR.guard_on rfl rfl (not_f h_27) ?_; refine PR.op rfl (Rd.ixM rfl rfl h_31) ?_; refine PR.guard_on rfl rfl (not_f h_27) ?_; refine PR.op rfl (Rd.fieldT rfl) ?_; refine PR.guard_on rfl rfl (not_f h_27) ?_; refine PR.op rfl (Rd.elMF (f := 0) rfl h_31 rfl rfl) ?_; refine PR.guard_on rfl rfl (not_f h_27) ?_; refine PR.op rfl (Rd.neq rfl rfl) ?_; refine PR.op rfl (Rd.pick_t rfl (not_f h_27)) ?_; refine PR.nil ?_; refine PT.done ?_; refine PL.nn ?_; rcases cond_some hh1 with ⟨h_34, hh1⟩ | ⟨h_34, hh1⟩
    · refine PC.cf rfl (not_t h_34) ?_; refine PC.skip ?_; refine inA_n ?_; refine thA_n ?_; obtain ⟨n35, h_36, hh1⟩ := bind_some hh1; refine PC.rg ?_; refine PL.mT rfl rfl ?_; refine PL.op rfl (Rd.addM rfl rfl h_36) ?_; refine PL.aT rfl rfl ?_; refine PL.nil ?_; obtain rfl := some_in hh1; refine thA_n ?_; exact ⟨(f21, n35), Nat.lt_succ_self _, kk1, [], ⟨rfl, rfl, trivial, ⟨.t _, .t _, .t _, trivial⟩⟩⟩
    refine PC.ct rfl (not_f h_34) ?_; refine PC.seq ?_; refine PC.rg ?_; refine PL.aT rfl rfl ?_; refine PL.nn ?_; refine PC.ret ?_; refine inA_r ?_; (iterate 2 refine thA_r ?_); refine inA_r ?_; refine thA_r ?_; obtain rfl := some_in hh1; obtain rfl : (.inr false : Unit ⊕ Bool) = o19 := kk1; refine thA_r ?_; obtain rfl := some_in hh0; exact FinA.mk (r := bA false) (bl := []) [] (.inl rfl) rfl (rl := [.tmp 4]) (.tmp .nil) rfl rfl rfl (.t _) trivial ⟨rfl, rfl⟩
  clear hh0
  rintro ⟨⟩ hh0
  replace hh0 : m_S_fits_k1 N  = some r := hh0
  unfold m_S_fits_k1 at hh0; refine thA_n ?_; refine PC.seq ?_; refine PC.rg ?_; refine PL.aT rfl rfl ?_; refine PL.nn ?_; refine PC.ret ?_; obtain rfl := some_in hh0; exact FinA.mk (r := bA true) (bl := []) [] (.inl rfl) rfl (rl := [.tmp 4]) (.tmp .nil) rfl rfl rfl (.t _) trivial ⟨rfl, rfl⟩
def m_S_validTable_k1 (N : Nat) : Option (Bool) :=
  some true
def m_S_validTable_b1 (N : Nat) (p_t : I_Table) (r5 : ((List (List I_Column)) × Bool)) (i7 : Int) : Option (Int ⊕ (Unit ⊕ Bool)) :=
  cond (decide (i7 < (p_t.rows.length : Int)))
    ((ixI p_t.rows i7).bind fun x31 =>
    (m_S_inRange N x31.tag (0 : Int) (p_t.changes.length : Int)).bind fun r33 =>
    cond r33
      ((ixI p_t.rows i7).bind fun x36 =>
      (ixI r5.1 x36.tag).bind fun x38 =>
      (ixI p_t.rows i7).bind fun x40 =>
      (m_S_fits N x38 x40.row).bind fun r42 =>
      cond r42
        ((chk (i7 + (1 : Int))).bind fun n45 =>
        some (.inl n45))
        (some (.inr (.inr false))))
      (some (.inr (.inr false))))
    (some (.inr (.inl ())))
def m_S_validTable (N : Nat) (p_t : I_Table) : Option (Bool) :=
  (m_S_validChain N p_t.first p_t.changes).bind fun r1 =>
  cond r1
    (cond (decide ((10 : Int) < (p_t.rows.length : Int)))
      (some false)
      ((m_S_formats N p_t.first p_t.changes).bind fun r5 =>
      (loopM (β := Unit ⊕ Bool) (fun s : Int => m_S_validTable_b1 N p_t r5 s) N (0 : Int)).bind fun o => match o with
      | .inl e =>
        m_S_validTable_k1 N 
      | .inr v =>
        some v))
    (some false)
theorem w_S_validTable (N : Nat) (p_t : I_Table) (r : Bool) (hh0 : m_S_validTable N p_t = some r) : FnX Tryz.prog 62 [] [.agg [sL p_t.first, sL p_t.changes, sL p_t.rows]] (RE (bA r) []) := by
  unfold m_S_validTable at hh0; refine FnX.mk Tryz.func62 rfl rfl ?_; intro s hs; refine PC.seq ?_; refine PC.rg ?_; refine PL.ef rfl (Ef.box rfl rfl rfl) ?_; refine PL.nm (.op 0 0) [some ⟨.mx [sL p_t.first, sL p_t.changes, sL p_t.rows], 41, 0⟩] rfl rfl ?_; refine PL.aT rfl rfl ?_; refine PL.nn ?_; (iterate 2 refine PC.seq ?_); obtain ⟨r1, h_2, hh0⟩ := bind_some hh0; rcases cond_some hh0 with ⟨h_3, hh0⟩ | ⟨h_3, hh0⟩; rotate_left
  · refine PC.rg ?_; refine PL.op rfl (Rd.fieldO rfl rfl) ?_; refine PL.op rfl (Rd.loadO rfl rfl rfl) ?_; refine PL.op rfl (Rd.fieldO rfl rfl) ?_; refine PL.op rfl (Rd.loadO rfl rfl rfl) ?_; refine PL.callM false [] (w_S_validChain N p_t.first p_t.changes r1 h_2) rfl Tryz.call84 rfl ⟨.t _, .t _, trivial⟩ rfl trivial (fun h => by cases h) ?_; refine PL.op rfl (Rd.unnot rfl) ?_; refine PL.mT rfl rfl ?_; (iterate 4 refine PL.gf rfl rfl (not_f h_3) ?_); refine PL.op rfl (Rd.pick_t rfl (not_f h_3)) ?_; refine PL.nn ?_; refine PC.ct rfl rfl ?_; refine PC.seq ?_; refine PC.rg ?_; refine PL.aT rfl rfl ?_; refine PL.nn ?_; refine PC.ret ?_; refine thA_r ?_; obtain rfl := some_in hh0; exact FinA.mk (r := bA false) (bl := []) [] (.inl rfl) rfl (rl := [.tmp 2]) (.tmp .nil) rfl rfl rfl (.t _) trivial ⟨rfl, rfl⟩
  refine PC.rg ?_; refine PL.op rfl (Rd.fieldO rfl rfl) ?_; refine PL.op rfl (Rd.loadO rfl rfl rfl) ?_; refine PL.op rfl (Rd.fieldO rfl rfl) ?_; refine PL.op rfl (Rd.loadO rfl rfl rfl) ?_; refine PL.callM false [] (w_S_validChain N p_t.first p_t.changes r1 h_2) rfl Tryz.call84 rfl ⟨.t _, .t _, trivial⟩ rfl trivial (fun h => by cases h) ?_; refine PL.op rfl (Rd.unnot rfl) ?_; refine PL.mT rfl rfl ?_; refine PL.gn rfl (not_t h_3) ?_; refine PL.op rfl (Rd.fieldO rfl rfl) ?_; refine PL.gn rfl (not_t h_3) ?_; refine PL.op rfl (Rd.loadO rfl rfl rfl) ?_; refine PL.gn rfl (not_t h_3) ?_; refine PL.op rfl (Rd.lenT rfl) ?_; refine PL.gn rfl (not_t h_3) ?_; refine PL.op rfl (Rd.gtr rfl rfl) ?_; refine PL.op rfl (Rd.pick_f rfl (not_t h_3)) ?_; refine PL.nn ?_; rcases cond_some hh0 with ⟨h_4, hh0⟩ | ⟨h_4, hh0⟩
  · refine PC.ct rfl h_4 ?_; refine PC.seq ?_; refine PC.rg ?_; refine PL.aT rfl rfl ?_; refine PL.nn ?_; refine PC.ret ?_; refine thA_r ?_; obtain rfl := some_in hh0; exact FinA.mk (r := bA false) (bl := []) [] (.inl rfl) rfl (rl := [.tmp 2]) (.tmp .nil) rfl rfl rfl (.t _) trivial ⟨rfl, rfl⟩
  refine PC.cf rfl h_4 ?_; refine PC.skip ?_; refine thA_n ?_; refine PC.seq ?_; obtain ⟨r5, h_6, hh0⟩ := bind_some hh0; refine PC.rg ?_; refine PL.op rfl (Rd.fieldO rfl rfl) ?_; refine PL.op rfl (Rd.loadO rfl rfl rfl) ?_; refine PL.op rfl (Rd.fieldO rfl rfl) ?_; refine PL.op rfl (Rd.loadO rfl rfl rfl) ?_; refine PL.callM false [] (w_S_formats N p_t.first p_t.changes r5 h_6) rfl Tryz.call85 rfl ⟨.t _, .t _, trivial⟩ rfl trivial (fun h => by cases h) ?_; refine PL.nm (.tup [.os 1 0 r5.1.length, bA r5.2]) [some ⟨.mx [sL p_t.first, sL p_t.changes, sL p_t.rows], 41, 0⟩, some ⟨.tr (eL r5.1), 37, 1⟩] rfl rfl ?_; refine PL.op rfl (Rd.moveU rfl) ?_; (iterate 2 refine PL.op rfl (Rd.extract rfl rfl) ?_); refine PL.op rfl (Rd.asnO rfl) ?_; refine PL.aT rfl rfl ?_; refine PL.nn ?_; (iterate 2 refine PC.seq ?_); refine PC.rg ?_; refine PL.aT rfl rfl ?_; refine PL.nn ?_; obtain ⟨o25, h_26, hh0⟩ := bind_some hh0; refine PC.cutE hs (fun x : Unit => []) (fun x => []) (fun x => m_S_validTable_k1 N  = some r) ?_ ?_
  · refine PC.block ?_; refine PC.loop hs (fun x : Nat × (Int) => [(1, .op 0 0), (3, .os 1 0 r5.1.length), (5, iA x.2)]) (fun x => [⟨.mx [sL p_t.first, sL p_t.changes, sL p_t.rows], 41, 0⟩, ⟨.tr (eL r5.1), 37, 1⟩]) (fun x => loopM (β := Unit ⊕ Bool) (fun s : Int => m_S_validTable_b1 N p_t r5 s) x.1 x.2 = some o25) (fun x => x.1) (N, (0 : Int)) [some 0, some 1] ⟨rfl, rfl, ⟨⟨_, rfl, rfl, rfl, .mx ⟨.t _, .t _, .t _, trivial⟩⟩, ⟨_, rfl, rfl, rfl, .tr _⟩, trivial⟩, ⟨.op rfl, .os rfl, .t _, trivial⟩⟩ h_26 ?_
    rintro ⟨f27_, i7⟩ h_29
    obtain ⟨f27, y28, rfl, hh1, kk1⟩ := loopM_some h_29
    replace hh1 : m_S_validTable_b1 N p_t r5 i7 = some y28 := hh1
    unfold m_S_validTable_b1 at hh1; (iterate 2 refine PC.seq ?_); refine PC.rg ?_; refine PL.mT rfl rfl ?_; refine PL.op rfl (Rd.fieldO rfl rfl) ?_; refine PL.op rfl (Rd.loadO rfl rfl rfl) ?_; refine PL.op rfl (Rd.lenT rfl) ?_; refine PL.op rfl (Rd.lss rfl rfl) ?_; refine PL.nn ?_; rcases cond_some hh1 with ⟨h_30, hh1⟩ | ⟨h_30, hh1⟩; rotate_left
    · refine PC.cf rfl h_30 ?_; refine PC.exit ?_; (iterate 2 refine thA_e ?_); refine inA_eq rfl ?_; refine thA_n ?_; obtain rfl := some_in hh1; obtain rfl : (.inl () : Unit ⊕ Bool) = o25 := kk1; exact ⟨(), hh0, [], ⟨rfl, rfl, trivial, trivial⟩⟩
    refine PC.ct rfl h_30 ?_; refine PC.skip ?_; refine thA_n ?_; refine PC.seq ?_; refine PC.block ?_; refine PC.seq ?_; obtain ⟨x31, h_32, hh1⟩ := bind_some hh1; obtain ⟨r33, h_34, hh1⟩ := bind_some hh1; rcases cond_some hh1 with ⟨h_35, hh1⟩ | ⟨h_35, hh1⟩; rotate_left
    · refine PC.any (id := 7) 30 (.seg [0, 1, 2, 3, 4, 5, 6, 7, 8, 9, 10, 11, 12, 13, 14, 15, 16, 17, 18, 19, 20, 21, 22, 23, 24, 25, 26, 27, 28, 29] .done) [] rfl (by kernel_rfl) rfl ?_; refine PT.seg ?_; refine PR.op rfl (Rd.fieldO rfl rfl) ?_; refine PR.op rfl (Rd.loadO rfl rfl rfl) ?_; refine PR.op rfl (Rd.moveT rfl) ?_; refine PR.op rfl (Rd.ixM rfl rfl h_32) ?_; refine PR.op rfl (Rd.fieldT rfl) ?_; refine PR.op rfl (Rd.elMF (f := 0) rfl h_32 rfl rfl) ?_; refine PR.op rfl (Rd.fieldO rfl rfl) ?_; refine PR.op rfl (Rd.loadO rfl rfl rfl) ?_; refine PR.op rfl (Rd.lenT rfl) ?_; refine PR.callM false [] (w_S_inRange N x31.tag (0 : Int) (p_t.changes.length : Int) r33 h_34) rfl Tryz.call59 rfl ⟨.t _, .t _, .t _, trivial⟩ rfl trivial (fun h => by cases h) rfl ?_; refine PR.op rfl (Rd.unnot rfl) ?_; refine PR.op rfl (Rd.moveT rfl) ?_; (iterate 17 refine PR.guard_off rfl rfl (not_f h_35) ?_); refine PR.op rfl (Rd.pick_t rfl (not_f h_35)) ?_; refine PR.nil ?_; refine PT.done ?_; refine PL.nn ?_; refine PC.ct rfl rfl ?_; refine PC.seq ?_; refine PC.rg ?_; refine PL.aT rfl rfl ?_; refine PL.nn ?_; refine PC.ret ?_; refine inA_r ?_; (iterate 2 refine thA_r ?_); refine inA_r ?_; refine thA_r ?_; obtain rfl := some_in hh1; obtain rfl : (.inr false : Unit ⊕ Bool) = o25 := kk1; refine thA_r ?_; obtain rfl := some_in hh0; exact FinA.mk (r := bA false) (bl := []) [] (.inl rfl) rfl (rl := [.tmp 2]) (.tmp .nil) rfl rfl rfl (.t _) trivial ⟨rfl, rfl⟩
    obtain ⟨x36, h_37, hh1⟩ := bind_some hh1; obtain ⟨x38, h_39, hh1⟩ := bind_some hh1; obtain ⟨x40, h_41, hh1⟩ := bind_some hh1; obtain ⟨r42, h_43, hh1⟩ := bind_some hh1; refine PC.any (id := 7) 30 (.seg [0, 1, 2, 3, 4, 5, 6, 7, 8, 9, 10, 11, 12, 13, 14, 15, 16, 17, 18, 19, 20, 21, 22, 23, 24, 25, 26, 27, 28, 29] .done) [] rfl (by kernel_rfl) rfl ?_; refine PT.seg ?_; refine PR.op rfl (Rd.fieldO rfl rfl) ?_; refine PR.op rfl (Rd.loadO rfl rfl rfl) ?_; refine PR.op rfl (Rd.moveT rfl) ?_; refine PR.op rfl (Rd.ixM rfl rfl h_32) ?_; refine PR.op rfl (Rd.fieldT rfl) ?_; refine PR.op rfl (Rd.elMF (f := 0) rfl h_32 rfl rfl) ?_; refine PR.op rfl (Rd.fieldO rfl rfl) ?_; refine PR.op rfl (Rd.loadO rfl rfl rfl) ?_; refine PR.op rfl (Rd.lenT rfl) ?_; refine PR.callM false [] (w_S_inRange N x31.tag (0 : Int) (p_t.changes.length : Int) r33 h_34) rfl Tryz.call59 rfl ⟨.t _, .t _, .t _, trivial⟩ rfl trivial (fun h => by cases h) rfl ?_; refine PR.op rfl (Rd.unnot rfl) ?_; refine PR.op rfl (Rd.moveT rfl) ?_; refine PR.guard_on rfl rfl (not_t h_35) ?_; refine PR.op rfl (Rd.moveO rfl) ?_; refine PR.guard_on rfl rfl (not_t h_35) ?_; refine PR.op rfl (Rd.fieldO rfl rfl) ?_; refine PR.guard_on rfl rfl (not_t h_35) ?_; refine PR.op rfl (Rd.loadO rfl rfl rfl) ?_; refine PR.guard_on rfl rfl (not_t h_35) ?_; refine PR.op rfl (Rd.moveT rfl) ?_; refine PR.guard_on rfl rfl (not_t h_35) ?_; refine PR.op rfl (Rd.ixM rfl rfl h_37) ?_; refine PR.guard_on rfl rfl (not_t h_35) ?_; refine PR.op rfl (Rd.fieldT rfl) ?_; refine PR.guard_on rfl rfl (not_t h_35) ?_; refine PR.op rfl (Rd.elMF (f := 0) rfl h_37 rfl rfl) ?_; refine PR.guard_on rfl rfl (not_t h_35) ?_; refine PR.ixOM rfl rfl rfl rfl (ixI_lt h_39) ?_; refine PR.guard_on rfl rfl (not_t h_35) ?_; refine PR.op rfl (Rd.owM1 rfl rfl h_39 rfl rfl) ?_; refine PR.guard_on rfl rfl (not_t h_35) ?_; refine PR.op rfl (Rd.fieldO rfl rfl) ?_; refine PR.guard_on rfl rfl (not_t h_35) ?_; refine PR.op rfl (Rd.loadO rfl rfl rfl) ?_; refine PR.guard_on rfl rfl (not_t h_35) ?_; refine PR.op rfl (Rd.moveT rfl) ?_; refine PR.guard_on rfl rfl (not_t h_35) ?_; refine PR.op rfl (Rd.ixM rfl rfl h_41) ?_; refine PR.guard_on rfl rfl (not_t h_35) ?_; refine PR.op rfl (Rd.fieldT rfl) ?_; refine PR.guard_on rfl rfl (not_t h_35) ?_; refine PR.op rfl (Rd.elMF (f := 1) rfl h_41 rfl rfl) ?_; refine PR.guard_on rfl rfl (not_t h_35) ?_; refine PR.callM false [] (w_S_fits N x38 x40.row r42 h_43) rfl Tryz.call86 rfl ⟨.t _, .t _, trivial⟩ rfl trivial (fun h => by cases h) rfl ?_; refine PR.guard_on rfl rfl (not_t h_35) ?_; refine PR.op rfl (Rd.unnot rfl) ?_; refine PR.op rfl (Rd.pick_f rfl (not_t h_35)) ?_; refine PR.nil ?_; refine PT.done ?_; refine PL.nn ?_; rcases cond_some hh1 with ⟨h_44, hh1⟩ | ⟨h_44, hh1⟩; rotate_left
    · refine PC.ct rfl (not_f h_44) ?_; refine PC.seq ?_; refine PC.rg ?_; refine PL.aT rfl rfl ?_; refine PL.nn ?_; refine PC.ret ?_; refine inA_r ?_; (iterate 2 refine thA_r ?_); refine inA_r ?_; refine thA_r ?_; obtain rfl := some_in hh1; obtain rfl : (.inr false : Unit ⊕ Bool) = o25 := kk1; refine thA_r ?_; obtain rfl := some_in hh0; exact FinA.mk (r := bA false) (bl := []) [] (.inl rfl) rfl (rl := [.tmp 2]) (.tmp .nil) rfl rfl rfl (.t _) trivial ⟨rfl, rfl⟩
    refine PC.cf rfl (not_t h_44) ?_; refine PC.skip ?_; refine inA_n ?_; refine thA_n ?_; obtain ⟨n45, h_46, hh1⟩ := bind_some hh1; refine PC.rg ?_; refine PL.mT rfl rfl ?_; refine PL.op rfl (Rd.addM rfl rfl h_46) ?_; refine PL.aT rfl rfl ?_; refine PL.nil ?_; obtain rfl := some_in hh1; refine thA_n ?_; exact ⟨(f27, n45), Nat.lt_succ_self _, kk1, [some 0, some 1], ⟨rfl, rfl, ⟨⟨_, rfl, rfl, rfl, .mx ⟨.t _, .t _, .t _, trivial⟩⟩, ⟨_, rfl, rfl, rfl, .tr _⟩, trivial⟩, ⟨.op rfl, .os rfl, .t _, trivial⟩⟩⟩
  clear hh0
  rintro ⟨⟩ hh0
  replace hh0 : m_S_validTable_k1 N  = some r := hh0
  unfold m_S_validTable_k1 at hh0; refine thA_n ?_; refine PC.seq ?_; refine PC.rg ?_; refine PL.aT rfl rfl ?_; refine PL.nn ?_; refine PC.ret ?_; obtain rfl := some_in hh0; exact FinA.mk (r := bA true) (bl := []) [] (.inl rfl) rfl (rl := [.tmp 2]) (.tmp .nil) rfl rfl rfl (.t _) trivial ⟨rfl, rfl⟩
def m_S_copyTable_k1 (N : Nat) (p_t : I_Table) (v14 : (List I_Tagged)) : Option (I_Table) :=
  (m_S_copyColumns N p_t.first).bind fun r20 =>
  (appM 56 ([] : List I_Change) p_t.changes).bind fun xs22 =>
  some (I_Table.mk r20 xs22 v14)
def m_S_copyTable_b1 (N : Nat) (p_t : I_Table) (i1 : Int) (v2 : (List I_Tagged)) : Option ((Int × (List I_Tagged)) ⊕ (List I_Tagged)) :=
  cond (decide (i1 < (p_t.rows.length : Int)))
    ((ixI p_t.rows i1).bind fun x25 =>
    (ixI p_t.rows i1).bind fun x27 =>
    (appM 32 ([] : List I_Value) x27.row).bind fun xs29 =>
    (appM 32 v2 [(I_Tagged.mk x25.tag xs29)]).bind fun xs31 =>
    (chk (i1 + (1 : Int))).bind fun n33 =>
    some (.inl (n33, xs31)))
    (some (.inr v2))
def m_S_copyTable (N : Nat) (p_t : I_Table) : Option (I_Table) :=
  (loopM (β := (List I_Tagged)) (fun s : Int × (List I_Tagged) => m_S_copyTable_b1 N p_t s.1 s.2) N ((0 : Int), ([] : List I_Tagged))).bind fun e =>
  m_S_copyTable_k1 N p_t e
theorem w_S_copyTable (N : Nat) (p_t : I_Table) (r : I_Table) (hh0 : m_S_copyTable N p_t = some r) : FnX Tryz.prog 83 [] [.agg [sL p_t.first, sL p_t.changes, sL p_t.rows]] (RE (.agg [.os 0 0 r.first.length, .os 1 0 r.changes.length, .os 2 0 r.rows.length]) [⟨.tr (eL r.first), 67, 4⟩, ⟨.tr (eL r.changes), 74, 6⟩, ⟨.tr (eL r.rows), 106, 2⟩]) := by
  unfold m_S_copyTable at hh0; refine FnX.mk Tryz.func83 rfl rfl ?_; intro s hs; refine PC.seq ?_; refine PC.rg ?_; refine PL.ef rfl (Ef.box rfl rfl rfl) ?_; refine PL.nm (.op 0 0) [some ⟨.mx [sL p_t.first, sL p_t.changes, sL p_t.rows], 41, 0⟩] rfl rfl ?_; refine PL.ef rfl (Ef.alloc rfl rfl) ?_; refine PL.nm (.op 1 0) [some ⟨.mx [sL p_t.first, sL p_t.changes, sL p_t.rows], 41, 0⟩, some ⟨.mx [.t (.v (.slice none 0 0)), .t (.v (.slice none 0 0)), .t (.v (.slice none 0 0))], 41, 0⟩] rfl rfl ?_; refine PL.nn ?_; refine PC.seq ?_; refine PC.rg ?_; refine PL.ef rfl (Ef.lit0M I_Tagged) ?_; refine PL.nm (.os 2 0 0) [some ⟨.mx [sL p_t.first, sL p_t.changes, sL p_t.rows], 41, 0⟩, some ⟨.mx [.t (.v (.slice none 0 0)), .t (.v (.slice none 0 0)), .t (.v (.slice none 0 0))], 41, 0⟩, some ⟨.tr (eL ([] : List I_Tagged)), 106, 2⟩] rfl rfl ?_; refine PL.op rfl (Rd.asnO rfl) ?_; refine PL.nn ?_; (iterate 2 refine PC.seq ?_); refine PC.rg ?_; refine PL.aT rfl rfl ?_; refine PL.nn ?_; obtain ⟨o15, h_16, hh0⟩ := bind_some hh0; refine PC.cutE hs (fun x : (List I_Tagged) => [(1, .op 0 0), (2, .op 1 0), (3, .os 2 0 x.length)]) (fun x => [⟨.mx [sL p_t.first, sL p_t.changes, sL p_t.rows], 41, 0⟩, ⟨.mx [.t (.v (.slice none 0 0)), .t (.v (.slice none 0 0)), .t (.v (.slice none 0 0))], 41, 0⟩, ⟨.tr (eL x), 106, 2⟩]) (fun x => m_S_copyTable_k1 N p_t x = some r) ?_ ?_
  · refine PC.block ?_; refine PC.loop hs (fun x : Nat × (Int × (List I_Tagged)) => [(1, .op 0 0), (2, .op 1 0), (3, .os 2 0 x.2.2.length), (4, iA x.2.1)]) (fun x => [⟨.mx [sL p_t.first, sL p_t.changes, sL p_t.rows], 41, 0⟩, ⟨.mx [.t (.v (.slice none 0 0)), .t (.v (.slice none 0 0)), .t (.v (.slice none 0 0))], 41, 0⟩, ⟨.tr (eL x.2.2), 106, 2⟩]) (fun x => loopM (β := (List I_Tagged)) (fun s : Int × (List I_Tagged) => m_S_copyTable_b1 N p_t s.1 s.2) x.1 x.2 = some o15) (fun x => x.1) (N, ((0 : Int), ([] : List I_Tagged))) [some 0, some 1, some 2] ⟨rfl, rfl, ⟨⟨_, rfl, rfl, rfl, .mx ⟨.t _, .t _, .t _, trivial⟩⟩, ⟨_, rfl, rfl, rfl, .mx ⟨.t _, .t _, .t _, trivial⟩⟩, ⟨_, rfl, rfl, rfl, .tr _⟩, trivial⟩, ⟨.op rfl, .op rfl, .os rfl, .t _, trivial⟩⟩ h_16 ?_
    rintro ⟨f17_, i1, v2⟩ h_19
    obtain ⟨f17, y18, rfl, hh1, kk1⟩ := loopM_some h_19
    replace hh1 : m_S_copyTable_b1 N p_t i1 v2 = some y18 := hh1
    unfold m_S_copyTable_b1 at hh1; (iterate 2 refine PC.seq ?_); refine PC.rg ?_; refine PL.mT rfl rfl ?_; refine PL.op rfl (Rd.fieldO rfl rfl) ?_; refine PL.op rfl (Rd.loadO rfl rfl rfl) ?_; refine PL.op rfl (Rd.lenT rfl) ?_; refine PL.op rfl (Rd.lss rfl rfl) ?_; refine PL.nn ?_; rcases cond_some hh1 with ⟨h_24, hh1⟩ | ⟨h_24, hh1⟩; rotate_left
    · refine PC.cf rfl h_24 ?_; refine PC.exit ?_; (iterate 2 refine thA_e ?_); refine inA_eq rfl ?_; refine thA_n ?_; obtain rfl := some_in hh1; obtain rfl : (v2 : (List I_Tagged)) = o15 := kk1; exact ⟨v2, hh0, [some 0, some 1, some 2], ⟨rfl, rfl, ⟨⟨_, rfl, rfl, rfl, .mx ⟨.t _, .t _, .t _, trivial⟩⟩, ⟨_, rfl, rfl, rfl, .mx ⟨.t _, .t _, .t _, trivial⟩⟩, ⟨_, rfl, rfl, rfl, .tr _⟩, trivial⟩, ⟨.op rfl, .op rfl, .os rfl, trivial⟩⟩⟩
    refine PC.ct rfl h_24 ?_; refine PC.skip ?_; refine thA_n ?_; refine PC.seq ?_; refine PC.block ?_; obtain ⟨x25, h_26, hh1⟩ := bind_some hh1; obtain ⟨x27, h_28, hh1⟩ := bind_some hh1; obtain ⟨xs29, h_30, hh1⟩ := bind_some hh1; obtain ⟨xs31, h_32, hh1⟩ := bind_some hh1; refine PC.any (id := 5) 19 (.seg [0, 1, 2, 3, 4, 5, 6, 8, 9, 10, 11, 12, 13, 7, 14, 15, 16, 17, 18] .done) [2] rfl (by kernel_rfl) rfl ?_; refine PT.seg ?_; refine PR.op rfl (Rd.moveO rfl) ?_; refine PR.op rfl (Rd.fieldO rfl rfl) ?_; refine PR.op rfl (Rd.loadO rfl rfl rfl) ?_; refine PR.op rfl (Rd.moveT rfl) ?_; refine PR.op rfl (Rd.ixM rfl rfl h_26) ?_; refine PR.op rfl (Rd.fieldT rfl) ?_; refine PR.op rfl (Rd.elMF (f := 0) rfl h_26 rfl rfl) ?_; refine PR.op rfl (Rd.fieldO rfl rfl) ?_; refine PR.op rfl (Rd.loadO rfl rfl rfl) ?_; refine PR.op rfl (Rd.moveT rfl) ?_; refine PR.op rfl (Rd.ixM rfl rfl h_28) ?_; refine PR.op rfl (Rd.fieldT rfl) ?_; refine PR.op rfl (Rd.elMF (f := 1) rfl h_28 rfl rfl) ?_; refine PR.efX rfl rfl (Ef.lit0M I_Value) ?_; refine PR.nm (.os 3 0 0) [some ⟨.mx [sL p_t.first, sL p_t.changes, sL p_t.rows], 41, 0⟩, some ⟨.mx [.t (.v (.slice none 0 0)), .t (.v (.slice none 0 0)), .t (.v (.slice none 0 0))], 41, 0⟩, some ⟨.tr (eL v2), 106, 2⟩, some ⟨.tr (eL ([] : List I_Value)), 64, 3⟩] rfl rfl ?_; refine PR.apM hs rfl rfl rfl rfl (SrcA.eL rfl) rfl rfl rfl rfl rfl h_30 ?_; refine PR.nm (.os 4 0 xs29.length) [some ⟨.mx [sL p_t.first, sL p_t.changes, sL p_t.rows], 41, 0⟩, some ⟨.mx [.t (.v (.slice none 0 0)), .t (.v (.slice none 0 0)), .t (.v (.slice none 0 0))], 41, 0⟩, some ⟨.tr (eL v2), 106, 2⟩, none, some ⟨.tr (eL xs29), 64, 3⟩] rfl rfl ?_; refine PR.op rfl (Rd.build rfl rfl rfl rfl) ?_; refine PR.frz hs 4 5 [(27, sL xs29), (28, .agg [iA x25.tag, sL xs29])] [some ⟨.mx [sL p_t.first, sL p_t.changes, sL p_t.rows], 41, 0⟩, some ⟨.mx [.t (.v (.slice none 0 0)), .t (.v (.slice none 0 0)), .t (.v (.slice none 0 0))], 41, 0⟩, some ⟨.tr (eL v2), 106, 2⟩, none, none] rfl rfl rfl ⟨(.own rfl (by decide) rfl rfl), (.aggL ⟨(.t _), (.own rfl (by decide) rfl rfl), trivial⟩), trivial⟩ ⟨⟨rfl, .inl rfl⟩, ⟨rfl, .inl rfl⟩, ⟨rfl, .inl rfl⟩, trivial⟩ ?_; refine PR.ef rfl rfl (Ef.litM (α := I_Tagged) [(I_Tagged.mk x25.tag xs29)] [_] rfl rfl (by decide) rfl rfl rfl rfl) ?_; refine PR.nm (.os 5 0 1) [some ⟨.mx [sL p_t.first, sL p_t.changes, sL p_t.rows], 41, 0⟩, some ⟨.mx [.t (.v (.slice none 0 0)), .t (.v (.slice none 0 0)), .t (.v (.slice none 0 0))], 41, 0⟩, some ⟨.tr (eL v2), 106, 2⟩, none, none, some ⟨.tr (eL [(I_Tagged.mk x25.tag xs29)]), 106, 2⟩] rfl rfl ?_; refine PR.apM hs rfl rfl rfl rfl (SrcA.ownE rfl rfl rfl) rfl rfl rfl rfl rfl h_32 ?_; refine PR.nm (.os 6 0 xs31.length) [some ⟨.mx [sL p_t.first, sL p_t.changes, sL p_t.rows], 41, 0⟩, some ⟨.mx [.t (.v (.slice none 0 0)), .t (.v (.slice none 0 0)), .t (.v (.slice none 0 0))], 41, 0⟩, none, none, none, some ⟨.tr (eL [(I_Tagged.mk x25.tag xs29)]), 106, 2⟩, some ⟨.tr (eL xs31), 106, 2⟩] rfl rfl ?_; refine PR.op rfl (Rd.asnO rfl) ?_; refine PR.nil ?_; refine PT.done ?_; refine PL.nil ?_; refine inA_n ?_; refine thA_n ?_; obtain ⟨n33, h_34, hh1⟩ := bind_some hh1; refine PC.rg ?_; refine PL.mT rfl rfl ?_; refine PL.op rfl (Rd.addM rfl rfl h_34) ?_; refine PL.aT rfl rfl ?_; refine PL.nil ?_; obtain rfl := some_in hh1; refine thA_n ?_; exact ⟨(f17, (n33, xs31)), Nat.lt_succ_self _, kk1, [some 0, some 1, some 6], ⟨rfl, rfl, ⟨⟨_, rfl, rfl, rfl, .mx ⟨.t _, .t _, .t _, trivial⟩⟩, ⟨_, rfl, rfl, rfl, .mx ⟨.t _, .t _, .t _, trivial⟩⟩, ⟨_, rfl, rfl, rfl, .tr _⟩, trivial⟩, ⟨.op rfl, .op rfl, .os rfl, .t _, trivial⟩⟩⟩
  clear hh0
  rintro v14 hh0
  replace hh0 : m_S_copyTable_k1 N p_t v14 = some r := hh0
  unfold m_S_copyTable_k1 at hh0; refine thA_n ?_; obtain ⟨r20, h_21, hh0⟩ := bind_some hh0; obtain ⟨xs22, h_23, hh0⟩ := bind_some hh0; refine PC.cut hs (fun _ : Unit => [(2, .op 0 0)]) (fun _ => [⟨.mx [.os 1 0 r20.length, .os 2 0 xs22.length, .os 3 0 v14.length], 41, 0⟩, ⟨.tr (eL r20), 67, 4⟩, ⟨.tr (eL xs22), 74, 6⟩, ⟨.tr (eL v14), 106, 2⟩]) (fun _ => True) ?_ ?_
  · refine PC.any (id := 6) 9 (.seg [0, 1, 4, 5, 7] (.fork (.seg [2, 3, 6, 8] .done) (.seg [3, 2, 6, 8] .done))) [] rfl (by kernel_rfl) rfl ?_; refine PT.seg ?_; refine PR.op rfl (Rd.fieldO rfl rfl) ?_; refine PR.op rfl (Rd.loadO rfl rfl rfl) ?_; refine PR.op rfl (Rd.fieldO rfl rfl) ?_; refine PR.op rfl (Rd.loadO rfl rfl rfl) ?_; refine PR.op rfl (Rd.moveO rfl) ?_; refine PR.nil ?_; refine PT.fork ?_ ?_
    · refine PT.seg ?_; refine PR.callM false [] (w_S_copyColumns N p_t.first r20 h_21) rfl Tryz.call102 rfl ⟨.t _, trivial⟩ rfl trivial (fun h => by cases h) rfl ?_; refine PR.nm (.os 3 0 r20.length) [some ⟨.mx [sL p_t.first, sL p_t.changes, sL p_t.rows], 41, 0⟩, some ⟨.mx [.t (.v (.slice none 0 0)), .t (.v (.slice none 0 0)), .t (.v (.slice none 0 0))], 41, 0⟩, some ⟨.tr (eL v14), 106, 2⟩, some ⟨.tr (eL r20), 67, 4⟩] rfl rfl ?_; refine PR.efX rfl rfl (Ef.lit0M I_Change) ?_; refine PR.nm (.os 4 0 0) [some ⟨.mx [sL p_t.first, sL p_t.changes, sL p_t.rows], 41, 0⟩, some ⟨.mx [.t (.v (.slice none 0 0)), .t (.v (.slice none 0 0)), .t (.v (.slice none 0 0))], 41, 0⟩, some ⟨.tr (eL v14), 106, 2⟩, some ⟨.tr (eL r20), 67, 4⟩, some ⟨.tr (eL ([] : List I_Change)), 74, 6⟩] rfl rfl ?_; refine PR.apM hs rfl rfl rfl rfl (SrcA.eL rfl) rfl rfl rfl rfl rfl h_23 ?_; refine PR.nm (.os 5 0 xs22.length) [some ⟨.mx [sL p_t.first, sL p_t.changes, sL p_t.rows], 41, 0⟩, some ⟨.mx [.t (.v (.slice none 0 0)), .t (.v (.slice none 0 0)), .t (.v (.slice none 0 0))], 41, 0⟩, some ⟨.tr (eL v14), 106, 2⟩, some ⟨.tr (eL r20), 67, 4⟩, none, some ⟨.tr (eL xs22), 74, 6⟩] rfl rfl ?_; refine PR.op rfl (Rd.build rfl rfl rfl rfl) ?_; refine PR.nil ?_; refine PT.done ?_; refine PL.store rfl rfl rfl rfl rfl rfl rfl ?_; refine PL.nO [some ⟨.mx [sL p_t.first, sL p_t.changes, sL p_t.rows], 41, 0⟩, some ⟨.mx [.os 3 0 r20.length, .os 5 0 xs22.length, .os 2 0 v14.length], 41, 0⟩, some ⟨.tr (eL v14), 106, 2⟩, some ⟨.tr (eL r20), 67, 4⟩, none, some ⟨.tr (eL xs22), 74, 6⟩] rfl ?_; refine PL.nn ?_; exact ⟨(), trivial, [some 1, some 3, some 5, some 2], ⟨rfl, rfl, ⟨⟨_, rfl, rfl, rfl, .mx ⟨.os rfl, .os rfl, .os rfl, trivial⟩⟩, ⟨_, rfl, rfl, rfl, .tr _⟩, ⟨_, rfl, rfl, rfl, .tr _⟩, ⟨_, rfl, rfl, rfl, .tr _⟩, trivial⟩, ⟨.op rfl, trivial⟩⟩⟩
    refine PT.seg ?_; refine PR.efX rfl rfl (Ef.lit0M I_Change) ?_; refine PR.nm (.os 3 0 0) [some ⟨.mx [sL p_t.first, sL p_t.changes, sL p_t.rows], 41, 0⟩, some ⟨.mx [.t (.v (.slice none 0 0)), .t (.v (.slice none 0 0)), .t (.v (.slice none 0 0))], 41, 0⟩, some ⟨.tr (eL v14), 106, 2⟩, some ⟨.tr (eL ([] : List I_Change)), 74, 6⟩] rfl rfl ?_; refine PR.callM false [] (w_S_copyColumns N p_t.first r20 h_21) rfl Tryz.call102 rfl ⟨.t _, trivial⟩ rfl trivial (fun h => by cases h) rfl ?_; refine PR.nm (.os 4 0 r20.length) [some ⟨.mx [sL p_t.first, sL p_t.changes, sL p_t.rows], 41, 0⟩, some ⟨.mx [.t (.v (.slice none 0 0)), .t (.v (.slice none 0 0)), .t (.v (.slice none 0 0))], 41, 0⟩, some ⟨.tr (eL v14), 106, 2⟩, some ⟨.tr (eL ([] : List I_Change)), 74, 6⟩, some ⟨.tr (eL r20), 67, 4⟩] rfl rfl ?_; refine PR.apM hs rfl rfl rfl rfl (SrcA.eL rfl) rfl rfl rfl rfl rfl h_23 ?_; refine PR.nm (.os 5 0 xs22.length) [some ⟨.mx [sL p_t.first, sL p_t.changes, sL p_t.rows], 41, 0⟩, some ⟨.mx [.t (.v (.slice none 0 0)), .t (.v (.slice none 0 0)), .t (.v (.slice none 0 0))], 41, 0⟩, some ⟨.tr (eL v14), 106, 2⟩, none, some ⟨.tr (eL r20), 67, 4⟩, some ⟨.tr (eL xs22), 74, 6⟩] rfl rfl ?_; refine PR.op rfl (Rd.build rfl rfl rfl rfl) ?_; refine PR.nil ?_; refine PT.done ?_; refine PL.store rfl rfl rfl rfl rfl rfl rfl ?_; refine PL.nO [some ⟨.mx [sL p_t.first, sL p_t.changes, sL p_t.rows], 41, 0⟩, some ⟨.mx [.os 4 0 r20.length, .os 5 0 xs22.length, .os 2 0 v14.length], 41, 0⟩, some ⟨.tr (eL v14), 106, 2⟩, none, some ⟨.tr (eL r20), 67, 4⟩, some ⟨.tr (eL xs22), 74, 6⟩] rfl ?_; refine PL.nn ?_; exact ⟨(), trivial, [some 1, some 4, some 5, some 2], ⟨rfl, rfl, ⟨⟨_, rfl, rfl, rfl, .mx ⟨.os rfl, .os rfl, .os rfl, trivial⟩⟩, ⟨_, rfl, rfl, rfl, .tr _⟩, ⟨_, rfl, rfl, rfl, .tr _⟩, ⟨_, rfl, rfl, rfl, .tr _⟩, trivial⟩, ⟨.op rfl, trivial⟩⟩⟩
  rintro ⟨⟩ -
  refine PC.ret ?_; obtain rfl := some_in hh0; exact FinA.mk (r := .agg [.os 0 0 r20.length, .os 1 0 xs22.length, .os 2 0 v14.length]) (bl := [⟨.tr (eL r20), 67, 4⟩, ⟨.tr (eL xs22), 74, 6⟩, ⟨.tr (eL v14), 106, 2⟩]) [some 1, some 2, some 3] (.inl rfl) rfl (rl := [.cell 2 41]) (.cellN rfl rfl rfl rfl .nil) rfl rfl rfl (.aggL ⟨.os rfl, .os rfl, .os rfl, trivial⟩) ⟨⟨_, rfl, rfl, rfl, .tr _⟩, ⟨_, rfl, rfl, rfl, .tr _⟩, ⟨_, rfl, rfl, rfl, .tr _⟩, trivial⟩ ⟨rfl, rfl⟩
end V
end Go.Proofs.YtemmcidmcojjjaaGreatDoor
namespace Go.Proofs.YtemmcidmcojjjaaGreatDoor
namespace V
set_option maxHeartbeats 1000000
theorem inRange_eq (N : Nat) (a l h : Int) : m_S_inRange N a l h = some (decide (l ≤ a ∧ a ≤ h)) := inRange_of a l h
def vTx (u : ByteArray) : Prop := u.size ≤ 12 ∧ inR 32 126 u
noncomputable instance (u : ByteArray) : Decidable (vTx u) := Classical.propDecidable _
def vV (v : I_Value) : Prop := (v.kind = 0 ∧ v.num = 0 ∧ v.text = ByteArray.empty) ∨ (v.kind = 1 ∧ -999999 ≤ v.num ∧ v.num ≤ 999999 ∧ v.text = ByteArray.empty) ∨ (v.kind = 2 ∧ v.num = 0 ∧ vTx v.text)
noncomputable instance (v : I_Value) : Decidable (vV v) := Classical.propDecidable _
section
variable {N : Nat} (hN : 100000000 ≤ N)
include hN
theorem vTxI {u : ByteArray} (h : u.size ≤ 5000000) : m_I_validText N u = some (decide (vTx u)) := by
  refine bool_eq ?_
  unfold m_I_validText
  refine ok.ite (fun hc => ok.some ⟨fun e => (by cases e), fun e => (by have := e.1; omega)⟩) fun h2 => ?_
  refine ok.call (text_ok (u := u) 32 126 (by omega) (by omega) (fun i hi => ?_) ?_) ?_
  · show m_I_validText_b1 N u (i : Int) = _
    unfold m_I_validText_b1
    rw [decide_eq_true (by omega), cond_true, ixS_nat hi]
    simp only [Option.bind_some]
    have e1 : ((32 : UInt8).toNat : Int) = 32 := rfl
    have e2 : ((126 : UInt8).toNat : Int) = 126 := rfl
    rw [e1, e2]
    by_cases c1 : (u[i].toNat : Int) < 32
    · rw [decide_eq_true c1, cond_true, if_neg (by omega)]
    · rw [decide_eq_false c1, cond_false]
      by_cases c2 : (126 : Int) < (u[i].toNat : Int)
      · rw [decide_eq_true c2, cond_true, if_neg (by omega)]
      · rw [decide_eq_false c2, cond_false, if_pos (by omega), chk_eq (by omega)]; rfl
  · show m_I_validText_b1 N u _ = _
    unfold m_I_validText_b1
    rw [decide_eq_false (by omega)]; rfl
  · rintro _ (⟨rfl, h⟩ | ⟨rfl, h⟩)
    · exact ok.some ⟨fun _ => ⟨by omega, h⟩, fun _ => rfl⟩
    · exact ok.some ⟨fun e => (by cases e), fun e => (h e.2).elim⟩
theorem vTxS {u : ByteArray} (h : u.size ≤ 5000000) : m_S_validText N u = some (decide (vTx u)) := by
  refine bool_eq ?_
  unfold m_S_validText
  refine ok.call (text_ok (u := u) 32 126 (by omega) (by omega) (fun i hi => ?_) ?_) ?_
  · show m_S_validText_b1 N u (i : Int) = _
    unfold m_S_validText_b1
    rw [decide_eq_true (by omega), cond_true, ixS_nat hi]
    simp only [Option.bind_some]
    rw [inRange_eq]
    simp only [Option.bind_some]
    by_cases c1 : 32 ≤ (u[i].toNat : Int) ∧ (u[i].toNat : Int) ≤ 126
    · rw [decide_eq_true c1, cond_true, if_pos c1, chk_eq (by omega)]; rfl
    · rw [decide_eq_false c1, cond_false, if_neg c1]
  · show m_S_validText_b1 N u _ = _
    unfold m_S_validText_b1
    rw [decide_eq_false (by omega)]; rfl
  · rintro _ (⟨rfl, h⟩ | ⟨rfl, h⟩)
    · unfold m_S_validText_k1
      refine ok.some ?_
      rw [decide_eq_true_eq]
      exact ⟨fun e => ⟨by omega, h⟩, fun e => by have := e.1; omega⟩
    · exact ok.some ⟨fun e => (by cases e), fun e => (h e.2).elim⟩
theorem vVI {v : I_Value} (h : v.text.size ≤ 5000000) : m_I_ValidValue N v = some (decide (vV v)) := by
  refine bool_eq ?_
  unfold m_I_ValidValue vV
  refine ok.ite (fun k0 => ok.ite (fun n0 => ok.some ?_) fun n0 => ok.some ?_) fun k0 => ok.ite (fun k1 => ok.ite (fun n0 => ok.ite (fun n1 => ok.some ?_) fun n1 => ok.some ?_) fun n0 => ok.some ?_) fun k1 => ok.ite (fun k2 => ok.ite (fun n0 => ok.eq (vTxI hN h) (ok.some ?_)) fun n0 => ok.some ?_) fun k2 => ok.some ?_
  · rw [textEq, decide_eq_true_eq]; exact ⟨fun e => .inl ⟨k0, n0, e⟩, fun e => by rcases e with e | e | e; exact e.2.2; omega; omega⟩
  · exact ⟨fun e => (by cases e), fun e => by omega⟩
  · rw [textEq, decide_eq_true_eq]; exact ⟨fun e => .inr (.inl ⟨k1, n0, n1, e⟩), fun e => by rcases e with e | e | e; omega; exact e.2.2.2; omega⟩
  · exact ⟨fun e => (by cases e), fun e => by omega⟩
  · exact ⟨fun e => (by cases e), fun e => by omega⟩
  · rw [decide_eq_true_eq]; exact ⟨fun e => .inr (.inr ⟨k2, n0, e⟩), fun e => by rcases e with e | e | e; omega; omega; exact e.2.2⟩
  · exact ⟨fun e => (by cases e), fun e => by omega⟩
  · exact ⟨fun e => (by cases e), fun e => by omega⟩
theorem vVS {v : I_Value} (h : v.text.size ≤ 5000000) : m_S_validValue N v = some (decide (vV v)) := by
  refine bool_eq ?_
  unfold m_S_validValue vV
  refine ok.ite (fun k0 => ok.ite (fun n0 => ok.some ?_) fun n0 => ok.some ?_) fun k0 => ok.ite (fun k1 => ok.eq (inRange_eq N _ _ _) (ok.ite (fun n0 => ok.some ?_) fun n0 => ok.some ?_)) fun k1 => ok.ite (fun k2 => ok.ite (fun n0 => ok.eq (vTxS hN h) (ok.some ?_)) fun n0 => ok.some ?_) fun k2 => ok.some ?_
  · rw [textEq, decide_eq_true_eq]; exact ⟨fun e => .inl ⟨k0, n0, e⟩, fun e => by rcases e with e | e | e; exact e.2.2; omega; omega⟩
  · exact ⟨fun e => (by cases e), fun e => by omega⟩
  · rw [textEq, decide_eq_true_eq]; exact ⟨fun e => .inr (.inl ⟨k1, n0.1, n0.2, e⟩), fun e => by rcases e with e | e | e; omega; exact e.2.2.2; omega⟩
  · exact ⟨fun e => (by cases e), fun e => by omega⟩
  · rw [decide_eq_true_eq]; exact ⟨fun e => .inr (.inr ⟨k2, n0, e⟩), fun e => by rcases e with e | e | e; omega; omega; exact e.2.2⟩
  · exact ⟨fun e => (by cases e), fun e => by omega⟩
  · exact ⟨fun e => (by cases e), fun e => by omega⟩
end
theorem b2s_data (xs : List UInt8) : (b2s xs).size = xs.length := rfl
theorem b2s_app2 (xs ys : List UInt8) : b2s xs ++ b2s ys = b2s (xs ++ ys) := by
  apply ByteArray.ext
  rw [ByteArray.data_append]
  unfold b2s
  simp
theorem nd_le : ∀ (k u : Nat), u < 10 ^ (k + 1) → Lib.nDigits u ≤ k + 1
  | 0, u, h => by rw [Lib.nDigits_small (by simpa using h)]; omega
  | k + 1, u, h => by
    by_cases a : u < 10
    · rw [Lib.nDigits_small a]; omega
    · rw [Lib.nDigits_big a]
      have := nd_le k (u / 10) (by rw [Nat.pow_succ] at h; omega)
      omega
theorem decimal_nat : ∀ (k N : Nat) (u : Nat), k < N → u < 10 ^ (k + 1) → u ≤ 1000000000 → m_S_decimal N (u : Int) = some (b2s (Lib.decDigits u))
  | k, 0, u, h, _, _ => by omega
  | k, N + 1, u, h, hu, hb => by
    refine ok.val ?_
    unfold m_S_decimal
    refine ok.iff (by omega) (ok.ite (fun h1 => ?_) fun h1 => ?_)
    · refine ok.chk (by omega) (ok.some ?_)
      rw [Lib.decDigits, dif_pos (by omega)]
      congr 2
      unfold i2b
      congr 1; omega
    · refine ok.eq (quoM_eq (by omega)) ?_
      obtain ⟨k, rfl⟩ : ∃ j, k = j + 1 := by
        rcases k with _ | j
        · simp at hu; omega
        · exact ⟨j, rfl⟩
      have e : (u : Int) / 10 = ((u / 10 : Nat) : Int) := by omega
      rw [e]
      refine ok.eq (decimal_nat k N (u / 10) (by omega) (by rw [Nat.pow_succ] at hu; omega) (by omega)) ?_
      refine ok.eq (remM_eq (by omega)) (ok.chk (by omega) (ok.eq (addS_eq ?_) (ok.some ?_)))
      · have := nd_le 9 (u / 10) (by omega)
        rw [b2s_data, b2s_data, Lib.decDigits_length]; simp; omega
      · rw [b2s_app2]
        conv => rhs; rw [Lib.decDigits, dif_neg (by omega)]
        congr 3
        unfold i2b
        congr 1; omega
theorem decimal_ok {N : Nat} (hN : 100 ≤ N) {n : Int} (h : -1000000000 ≤ n ∧ n ≤ 1000000000) : m_S_decimal N n = some (itoaB n) := by
  by_cases h0 : n < 0
  · obtain ⟨u, rfl⟩ : ∃ u : Nat, n = -(u : Int) := ⟨n.natAbs, by omega⟩
    obtain ⟨M, rfl⟩ : ∃ M, N = M + 1 := ⟨N - 1, by omega⟩
    refine ok.val ?_
    unfold m_S_decimal itoaB
    refine ok.ift h0 (ok.chk (by omega) (ok.iff (by omega) (ok.chk (by omega) ?_)))
    rw [Int.neg_neg]
    refine ok.eq (decimal_nat 9 M u (by omega) (by omega) (by omega)) (ok.eq (addS_eq ?_) (ok.some ?_))
    · have := nd_le 9 u (by omega)
      rw [b2s_data, Lib.decDigits_length]
      have : (ByteArray.mk #[45]).size = 1 := rfl
      omega
    · rw [Lib.itoa_neg u (by omega)]
      exact b2s_app2 [45] (Lib.decDigits u)
  · obtain ⟨u, rfl⟩ : ∃ u : Nat, n = (u : Int) := ⟨n.toNat, by omega⟩
    rw [decimal_nat 9 N u (by omega) (by omega) (by omega)]
    unfold itoaB
    rw [Lib.itoa_nonneg]; rfl
theorem itoaB_ok {n : Int} (h : -999999 ≤ n ∧ n ≤ 999999) : vTx (itoaB n) := by
  have hd : ∀ u : Nat, u ≤ 999999 → (Lib.decDigits u).length ≤ 6 ∧ ∀ x ∈ Lib.decDigits u, 48 ≤ x.toNat ∧ x.toNat ≤ 57 := by
    intro u hu
    constructor
    · rw [Lib.decDigits_length]
      exact nd_le 5 u (by omega)
    · intro x hx
      rw [Lib.decDigits_eq, List.mem_map] at hx
      obtain ⟨j, _, rfl⟩ := hx
      unfold Lib.dg
      have : u / 10 ^ (Lib.nDigits u - 1 - j) % 10 < 10 := Nat.mod_lt _ (by decide)
      generalize u / 10 ^ (Lib.nDigits u - 1 - j) % 10 = v at this
      have : (UInt8.ofNat (48 + v)).toNat = 48 + v := by rw [UInt8.toNat_ofNat']; omega
      omega
  have hall : (Lib.itoa n).length ≤ 12 ∧ ∀ x ∈ Lib.itoa n, 32 ≤ x.toNat ∧ x.toNat ≤ 126 := by
    by_cases h0 : n < 0
    · obtain ⟨u, rfl⟩ : ∃ u : Nat, n = -(u : Int) := ⟨n.natAbs, by omega⟩
      have := hd u (by omega)
      rw [Lib.itoa_neg u (by omega)]
      refine ⟨by rw [List.length_cons]; omega, fun x hx => ?_⟩
      rcases List.mem_cons.1 hx with rfl | hx
      · decide
      · have := this.2 x hx; omega
    · obtain ⟨u, rfl⟩ : ∃ u : Nat, n = (u : Int) := ⟨n.toNat, by omega⟩
      have := hd u (by omega)
      rw [Lib.itoa_nonneg]
      exact ⟨by omega, fun x hx => by have := this.2 x hx; omega⟩
  unfold vTx itoaB
  refine ⟨by show (Lib.itoa n).toArray.size ≤ 12; rw [List.size_toArray]; exact hall.1, fun i hi => ?_⟩
  have : (ByteArray.mk (Lib.itoa n).toArray)[i] ∈ Lib.itoa n := by
    show (Lib.itoa n).toArray[i] ∈ _
    rw [List.getElem_toArray]; exact List.getElem_mem _
  have := hall.2 _ this
  omega
end V
end Go.Proofs.YtemmcidmcojjjaaGreatDoor
namespace Go.Proofs.YtemmcidmcojjjaaGreatDoor
namespace V
set_option maxHeartbeats 1000000
def cV (c : I_Column) : Prop := (c.kind = 1 ∨ c.kind = 2) ∧ vV c.default ∧ (c.default.kind = 0 ∨ c.default.kind = c.kind)
noncomputable instance (c : I_Column) : Decidable (cV c) := Classical.propDecidable _
def vF (f : List I_Column) : Prop := (1 ≤ f.length ∧ f.length ≤ 5) ∧ ∀ i (h : i < f.length), cV f[i]
noncomputable instance (f : List I_Column) : Decidable (vF f) := Classical.propDecidable _
def poss (f : List I_Column) (c : I_Change) : Prop := (c.kind = 1 ∧ 0 ≤ c.at_ ∧ c.at_ ≤ f.length ∧ f.length < 5 ∧ cV c.column) ∨ (c.kind = 2 ∧ 0 ≤ c.at_ ∧ c.at_ < f.length ∧ 1 < f.length) ∨ (c.kind = 3 ∧ 0 ≤ c.at_ ∧ ∃ h : c.at_.toNat < f.length, f[c.at_.toNat].kind = 1)
noncomputable instance (f : List I_Column) (c : I_Change) : Decidable (poss f c) := Classical.propDecidable _
def wid (v : I_Value) : I_Value := if v.kind = 1 then ⟨2, 0, itoaB v.num⟩ else v
def chF (f : List I_Column) (c : I_Change) : List I_Column := if c.kind = 1 then f.insertIdx c.at_.toNat c.column else if c.kind = 2 then f.eraseIdx c.at_.toNat else f.modify c.at_.toNat fun x => ⟨2, wid x.default⟩
def mv (r : List I_Value) (c : I_Change) : List I_Value := if c.kind = 1 then r.insertIdx c.at_.toNat c.column.default else if c.kind = 2 then r.eraseIdx c.at_.toNat else r.modify c.at_.toNat wid
def fitP (f : List I_Column) (r : List I_Value) : Prop := r.length = f.length ∧ ∀ i (h : i < r.length) (h' : i < f.length), vV r[i] ∧ (r[i].kind = 0 ∨ r[i].kind = f[i].kind)
noncomputable instance (f : List I_Column) (r : List I_Value) : Decidable (fitP f r) := Classical.propDecidable _
def bS (f : List I_Column) : Prop := f.length ≤ 5000000 ∧ ∀ c ∈ f, c.default.text.size ≤ 5000000
def bN (f : List I_Column) : Prop := ∀ c ∈ f, -1000000000 ≤ c.default.num ∧ c.default.num ≤ 1000000000
theorem vV_size {v : I_Value} (h : vV v) : v.text.size ≤ 12 := by
  rcases h with h | h | h
  · rw [h.2.2]; exact Nat.zero_le _
  · rw [h.2.2.2]; exact Nat.zero_le _
  · exact h.2.2.1
theorem vV_num {v : I_Value} (h : vV v) : -999999 ≤ v.num ∧ v.num ≤ 999999 := by rcases h with h | h | h <;> omega
theorem vV_wid {v : I_Value} (h : vV v) : vV (wid v) ∧ ((wid v).kind = 0 ∨ (wid v).kind = 2) := by
  unfold wid
  split
  · rename_i hk
    exact ⟨.inr (.inr ⟨rfl, rfl, itoaB_ok (vV_num h)⟩), .inr rfl⟩
  · rename_i hk
    exact ⟨h, by rcases h with h | h | h <;> omega⟩
theorem vF_bS {f : List I_Column} (h : vF f) : bS f := ⟨by have := h.1; omega, fun c hc => by
  obtain ⟨i, hi, rfl⟩ := List.mem_iff_getElem.1 hc
  have := vV_size (h.2 i hi).2.1; omega⟩
theorem vF_bN {f : List I_Column} (h : vF f) : bN f := fun c hc => by
  obtain ⟨i, hi, rfl⟩ := List.mem_iff_getElem.1 hc
  have := vV_num (h.2 i hi).2.1; omega
theorem wid_num {v : I_Value} (h : -1000000000 ≤ v.num ∧ v.num ≤ 1000000000) : -1000000000 ≤ (wid v).num ∧ (wid v).num ≤ 1000000000 := by
  unfold wid; split
  · dsimp only; omega
  · exact h
theorem poss_at {f : List I_Column} {c : I_Change} (h : poss f c) : 0 ≤ c.at_ ∧ c.at_ ≤ f.length := by
  rcases h with h | h | ⟨h1, h2, h3, h4⟩ <;> omega
theorem bN_chF {f : List I_Column} {c : I_Change} (h : bN f) (hp : poss f c) : bN (chF f c) := by
  intro x hx
  unfold chF at hx
  rcases hp with ⟨k, h1, h2, h3, h4⟩ | ⟨k, h1, h2, h3⟩ | ⟨k, h1, h2, h3⟩
  · rw [if_pos k, List.mem_insertIdx (by omega)] at hx
    rcases hx with rfl | hx
    · have := vV_num h4.2.1; omega
    · exact h x hx
  · rw [if_neg (by omega), if_pos k] at hx
    exact h x (List.mem_of_mem_eraseIdx hx)
  · rw [if_neg (by omega), if_neg (by omega)] at hx
    obtain ⟨i, hi, rfl⟩ := List.mem_iff_getElem.1 hx
    rw [List.getElem_modify]
    split
    · exact wid_num (h _ (List.getElem_mem _))
    · exact h _ (List.getElem_mem _)
theorem vF_chF {f : List I_Column} {c : I_Change} (h : vF f) (hp : poss f c) : vF (chF f c) := by
  unfold chF
  obtain ⟨hl, h⟩ := h
  rcases hp with ⟨k, h1, h2, h3, h4⟩ | ⟨k, h1, h2, h3⟩ | ⟨k, h1, h2, h3⟩
  · rw [if_pos k]
    refine ⟨by rw [List.length_insertIdx]; split <;> omega, fun i hi => ?_⟩
    rw [List.getElem_insertIdx]
    split
    · exact h _ _
    · split
      · exact h4
      · exact h _ _
  · rw [if_neg (by omega), if_pos k]
    refine ⟨by rw [List.length_eraseIdx]; split <;> omega, fun i hi => ?_⟩
    rw [List.getElem_eraseIdx]
    split <;> exact h _ _
  · rw [if_neg (by omega), if_neg (by omega)]
    refine ⟨by rw [List.length_modify]; omega, fun i hi => ?_⟩
    rw [List.getElem_modify]
    split
    · have := vV_wid (h i (by rw [List.length_modify] at hi; exact hi)).2.1
      exact ⟨.inr rfl, this.1, this.2⟩
    · exact h _ _
theorem fit_mv {f : List I_Column} {c : I_Change} {r : List I_Value} (h : fitP f r) (hp : poss f c) : fitP (chF f c) (mv r c) := by
  obtain ⟨hl, h⟩ := h
  unfold chF mv
  rcases hp with ⟨k, h1, h2, h3, h4⟩ | ⟨k, h1, h2, h3⟩ | ⟨k, h1, h2, h3⟩
  · rw [if_pos k, if_pos k]
    refine ⟨by rw [List.length_insertIdx, List.length_insertIdx, hl], fun i hi hi' => ?_⟩
    rw [List.length_insertIdx, if_pos (by omega)] at hi hi'
    rw [List.getElem_insertIdx, List.getElem_insertIdx]
    by_cases a1 : i < c.at_.toNat
    · rw [dif_pos a1, dif_pos a1]; exact h _ _ _
    · rw [dif_neg a1, dif_neg a1]
      by_cases a2 : i = c.at_.toNat
      · rw [dif_pos a2, dif_pos a2]; exact ⟨h4.2.1, h4.2.2⟩
      · rw [dif_neg a2, dif_neg a2]; exact h _ _ _
  · rw [if_neg (by omega), if_pos k, if_neg (by omega), if_pos k]
    refine ⟨by rw [List.length_eraseIdx, List.length_eraseIdx, hl], fun i hi hi' => ?_⟩
    rw [List.getElem_eraseIdx, List.getElem_eraseIdx]
    split <;> exact h _ _ _
  · rw [if_neg (by omega), if_neg (by omega), if_neg (by omega), if_neg (by omega)]
    refine ⟨by rw [List.length_modify, List.length_modify, hl], fun i hi hi' => ?_⟩
    rw [List.length_modify] at hi hi'
    rw [List.getElem_modify, List.getElem_modify]
    by_cases a : c.at_.toNat = i
    · rw [if_pos a, if_pos a]
      exact vV_wid (h i hi hi').1
    · rw [if_neg a, if_neg a]; exact h _ _ _
theorem mod_eq {α : Type} {xs : List α} {i : Nat} {f : α → α} (h : i < xs.length) : xs.modify i f = xs.set i (f xs[i]) := by
  apply List.ext_getElem
  · rw [List.length_modify, List.length_set]
  · intro k h1 h2
    rw [List.getElem_modify, List.getElem_set]
    by_cases a : i = k
    · subst a; simp
    · rw [if_neg a, if_neg a]
theorem ins_eq {α : Type} {xs : List α} {i : Nat} {a : α} (h : i ≤ xs.length) : xs.take i ++ a :: xs.drop i = xs.insertIdx i a := by
  apply List.ext_getElem
  · rw [List.length_insertIdx, if_pos h]; simp; omega
  · intro k h1 h2
    rw [List.getElem_insertIdx]
    by_cases a1 : k < i
    · rw [dif_pos a1, List.getElem_append_left (by simp; omega), List.getElem_take]
    · rw [dif_neg a1, List.getElem_append_right (by simp; omega)]
      simp only [List.length_take, Nat.min_eq_left h]
      by_cases a2 : k = i
      · subst a2; simp
      · rw [dif_neg a2]
        obtain ⟨m, hm⟩ : ∃ m, k - i = m + 1 := ⟨k - i - 1, by omega⟩
        simp only [hm, List.getElem_cons_succ, List.getElem_drop]
        congr 1; omega
theorem insM_eq {α : Type} {w : Nat} {xs : List α} {i : Int} {a : α} (h : 0 ≤ i ∧ i ≤ (xs.length : Int)) (hw : (xs.length + 1) * w ≤ 140737488355328 ∧ xs.length + 1 ≤ 4611686018427387904) : insM w xs i a = some (xs.insertIdx i.toNat a) := by
  unfold insM; rw [if_pos ⟨h.1, h.2, hw.1, hw.2⟩, ins_eq (by omega)]
theorem delM_eq {α : Type} {xs : List α} {i : Int} (h : 0 ≤ i ∧ i < (xs.length : Int)) : delM xs i (i + 1) = some (xs.eraseIdx i.toNat) := by
  unfold delM; rw [if_pos ⟨h.1, by omega, by omega, by omega⟩, List.eraseIdx_eq_take_drop_succ]
  congr 3; omega
theorem appM0 {α : Type} {w : Nat} {xs : List α} (h : xs.length * w ≤ 140737488355328 ∧ xs.length ≤ 4611686018427387904) : appM w [] xs = some xs := by
  rw [appM_eq (by simpa using h)]; rfl
section
variable {N : Nat} (hN : 100000000 ≤ N)
include hN
theorem cVI {c : I_Column} (h : c.default.text.size ≤ 5000000) : m_I_Column_valid N c = some (decide (cV c)) := by
  refine bool_eq ?_
  unfold m_I_Column_valid cV
  refine ok.ite (fun k1 => ok.eq (vVI hN h) (ok.ite (fun n0 => ok.ite (fun n1 => ok.some ?_) fun n1 => ok.some ?_) fun n0 => ok.some ?_)) fun k1 => ok.ite (fun k2 => ok.eq (vVI hN h) (ok.ite (fun n0 => ok.ite (fun n1 => ok.some ?_) fun n1 => ok.some ?_) fun n0 => ok.some ?_)) fun k2 => ok.some ?_
  · exact ⟨fun _ => ⟨.inl k1, n0, .inr n1⟩, fun _ => rfl⟩
  · rw [decide_eq_true_eq]; exact ⟨fun e => ⟨.inl k1, n0, .inl e⟩, fun e => by rcases e.2.2 with e | e; exact e; exact (n1 e).elim⟩
  · exact ⟨fun e => (by cases e), fun e => (n0 e.2.1).elim⟩
  · exact ⟨fun _ => ⟨.inr k2, n0, .inr n1⟩, fun _ => rfl⟩
  · rw [decide_eq_true_eq]; exact ⟨fun e => ⟨.inr k2, n0, .inl e⟩, fun e => by rcases e.2.2 with e | e; exact e; exact (n1 e).elim⟩
  · exact ⟨fun e => (by cases e), fun e => (n0 e.2.1).elim⟩
  · exact ⟨fun e => (by cases e), fun e => by rcases e.1 with e | e; exact (k1 e).elim; exact (k2 e).elim⟩
theorem cVS {c : I_Column} (h : c.default.text.size ≤ 5000000) : m_S_validColumn N c = some (decide (cV c)) := by
  refine bool_eq ?_
  unfold m_S_validColumn cV
  refine ok.eq (inRange_eq N _ _ _) (ok.ite (fun k1 => ok.eq (vVS hN h) (ok.ite (fun n0 => ok.ite (fun n1 => ok.some ?_) fun n1 => ok.some ?_) fun n0 => ok.some ?_)) fun k2 => ok.some ?_)
  · exact ⟨fun _ => ⟨by omega, n0, .inl n1⟩, fun _ => rfl⟩
  · rw [decide_eq_true_eq]; exact ⟨fun e => ⟨by omega, n0, .inr e⟩, fun e => by rcases e.2.2 with e | e; exact (n1 e).elim; exact e⟩
  · exact ⟨fun e => (by cases e), fun e => (n0 e.2.1).elim⟩
  · exact ⟨fun e => (by cases e), fun e => by omega⟩
theorem vFI {f : List I_Column} (h : bS f) : m_I_ValidFormat N f = some (decide (vF f)) := by
  have hl := h.1
  refine bool_eq ?_
  unfold m_I_ValidFormat vF
  refine ok.ite (fun h1 => ok.some ⟨fun e => (by cases e), fun e => by omega⟩) fun h1 => ok.ite (fun h2 => ok.some ⟨fun e => (by cases e), fun e => by omega⟩) fun h2 => ?_
  refine ok.call (all_ok (n := f.length) 0 (fun i => ∀ h : i < f.length, cV f[i]) (by omega) (fun i hi _ => ?_) ?_) ?_
  · rw [Int.add_zero]
    show ok (m_I_ValidFormat_b1 N f (i : Int)) _
    unfold m_I_ValidFormat_b1
    refine ok.ift (by omega) (ok.eq (ixI_nat hi) (ok.eq (cVI hN (h.2 _ (List.getElem_mem _))) (ok.ite (fun hc => ok.chk (by omega) (ok.some (.inl ⟨rfl, fun _ => hc⟩))) fun hc => ok.some (.inr ⟨rfl, fun e => hc (e hi)⟩))))
  · rw [Int.add_zero]
    show m_I_ValidFormat_b1 N f _ = _
    unfold m_I_ValidFormat_b1
    rw [decide_eq_false (by omega)]; rfl
  · rintro o (⟨rfl, hh⟩ | ⟨rfl, hh⟩)
    · exact ok.some ⟨fun _ => ⟨by omega, fun i hi => hh i hi hi⟩, fun _ => rfl⟩
    · exact ok.some ⟨fun e => (by cases e), fun e => (hh fun k hk h => e.2 k h).elim⟩
theorem vFS {f : List I_Column} (h : bS f) : m_S_validFormat N f = some (decide (vF f)) := by
  have hl := h.1
  refine bool_eq ?_
  unfold m_S_validFormat vF
  refine ok.call (all_ok (n := f.length) 0 (fun i => ∀ h : i < f.length, cV f[i]) (by omega) (fun i hi _ => ?_) ?_) ?_
  · rw [Int.add_zero]
    show ok (m_S_validFormat_b1 N f (i : Int)) _
    unfold m_S_validFormat_b1
    refine ok.ift (by omega) (ok.eq (ixI_nat hi) (ok.eq (cVS hN (h.2 _ (List.getElem_mem _))) (ok.ite (fun hc => ok.chk (by omega) (ok.some (.inl ⟨rfl, fun _ => hc⟩))) fun hc => ok.some (.inr ⟨rfl, fun e => hc (e hi)⟩))))
  · rw [Int.add_zero]
    show m_S_validFormat_b1 N f _ = _
    unfold m_S_validFormat_b1
    rw [decide_eq_false (by omega)]; rfl
  · rintro o (⟨rfl, hh⟩ | ⟨rfl, hh⟩)
    · refine ok.eq (inRange_eq N _ _ _) (ok.some ?_)
      rw [decide_eq_true_eq]
      exact ⟨fun e => ⟨by omega, fun i hi => hh i hi hi⟩, fun e => by omega⟩
    · exact ok.some ⟨fun e => (by cases e), fun e => (hh fun k hk h => e.2 k h).elim⟩
theorem possI {f : List I_Column} {c : I_Change} (h : c.column.default.text.size ≤ 5000000) : m_I_Change_possible N c f = some (decide (poss f c)) := by
  refine bool_eq ?_
  unfold m_I_Change_possible poss
  refine ok.ite (fun k1 => ok.ite (fun a1 => ok.ite (fun a2 => ok.ite (fun a3 => ok.eq (cVI hN h) (ok.some ?_)) fun a3 => ok.some ?_) fun a2 => ok.some ?_) fun a1 => ok.some ?_) fun k1 => ok.ite (fun k2 => ok.ite (fun a1 => ok.ite (fun a2 => ok.some ?_) fun a2 => ok.some ?_) fun a1 => ok.some ?_) fun k2 => ok.ite (fun k3 => ok.ite (fun a1 => ok.ite (fun a2 => ok.ix a1 a2 fun n hn he => ok.some ?_) fun a2 => ok.some ?_) fun a1 => ok.some ?_) fun k3 => ok.some ?_
  · rw [decide_eq_true_eq]; exact ⟨fun e => .inl ⟨k1, a1, a2, by omega, e⟩, fun e => by rcases e with e | e | e; exact e.2.2.2.2; omega; omega⟩
  · exact ⟨fun e => (by cases e), fun e => by omega⟩
  · exact ⟨fun e => (by cases e), fun e => by omega⟩
  · exact ⟨fun e => (by cases e), fun e => by omega⟩
  · rw [decide_eq_true_eq]; exact ⟨fun e => .inr (.inl ⟨k2, a1, a2, by omega⟩), fun e => by omega⟩
  · exact ⟨fun e => (by cases e), fun e => by omega⟩
  · exact ⟨fun e => (by cases e), fun e => by omega⟩
  · have he' : c.at_.toNat = n := by omega
    subst he'
    rw [decide_eq_true_eq]; exact ⟨fun e => .inr (.inr ⟨k3, a1, hn, e⟩), fun e => by rcases e with e | e | ⟨e1, e2, e3, e4⟩; omega; omega; exact e4⟩
  · exact ⟨fun e => (by cases e), fun e => by rcases e with e | e | ⟨e1, e2, e3, e4⟩ <;> omega⟩
  · exact ⟨fun e => (by cases e), fun e => by omega⟩
  · exact ⟨fun e => (by cases e), fun e => by omega⟩
theorem widI {v : I_Value} (h : vV v) : m_I_WidenValue N v = some (wid v) := by
  have hs := vV_size h
  have hn := vV_num h
  refine ok.val ?_
  unfold m_I_WidenValue wid
  refine ok.eq (vVI hN (by omega)) (ok.ift h (ok.ite (fun k => ok.eq (v := itoaB v.num) ?_ (ok.some ?_)) fun k => ok.some ?_))
  · unfold m_strconv_Itoa; rw [if_pos (by omega)]
  · rw [if_pos k]
  · rw [if_neg k]
theorem widS {v : I_Value} (h : -1000000000 ≤ v.num ∧ v.num ≤ 1000000000) : m_S_widen N v = some (wid v) := by
  refine ok.val ?_
  unfold m_S_widen wid
  refine ok.ite (fun k => ok.eq (decimal_ok (by omega) h) (ok.some ?_)) fun k => ok.some ?_
  · rw [if_pos k]
  · rw [if_neg k]
theorem chFI {f : List I_Column} {c : I_Change} (h : bS f) (hc : c.column.default.text.size ≤ 5000000) : m_I_ChangeFormat N f c = some (if vF f ∧ poss f c then (chF f c, true) else ([], false)) := by
  refine ok.val ?_
  unfold m_I_ChangeFormat
  refine ok.eq (vFI hN h) (ok.ite (fun hv => ok.eq (possI hN hc) (ok.ite (fun hp => ?_) fun hp => ok.some ?_)) fun hv => ok.some ?_)
  · rw [if_pos ⟨hv, hp⟩]
    have hl := hv.1
    refine ok.eq (show m_slices_Clone_I_Column N f = some f from appM0 (by omega)) ?_
    unfold chF
    rcases hp with ⟨k, h1, h2, h3, h4⟩ | ⟨k, h1, h2, h3⟩ | ⟨k, h1, h2, h3⟩
    · refine ok.ift k (ok.eq (insM_eq ⟨h1, h2⟩ (by omega)) (ok.some ?_))
      rw [if_pos k]
    · refine ok.iff (by omega) (ok.ift k (ok.chk (by omega) (ok.eq (delM_eq ⟨h1, h2⟩) (ok.some ?_))))
      rw [if_neg (by omega), if_pos k]
    · refine ok.iff (by omega) (ok.iff (by omega) (ok.eq (ixI_eq (n := c.at_.toNat) (by omega) h2) (ok.eq (widI hN (hv.2 _ _).2.1) (ok.some ?_))))
      rw [if_neg (by omega), if_neg (by omega), mod_eq h2]
  · rw [if_neg fun e => hp e.2]
  · rw [if_neg fun e => hv e.1]
theorem chFS {f : List I_Column} {c : I_Change} (hl : f.length ≤ 5000000) (h : bN f) (hc : c.column.default.text.size ≤ 5000000) : m_S_change N f c = some (if poss f c then (chF f c, true) else ([], false)) := by
  refine ok.val ?_
  unfold m_S_change
  have hcp : ∀ g : List I_Column, g.length ≤ 5000000 → m_S_copyColumns N g = some g := fun g hg => by
    unfold m_S_copyColumns
    rw [appM0 (by omega)]; rfl
  refine ok.ite (fun k => ok.eq (inRange_eq N _ _ _) (ok.ite (fun a => ok.eq (cVS hN hc) (ok.ite (fun b => ok.ite (fun l => ?_) fun l => ok.some ?_) fun b => ok.some ?_)) fun a => ok.some ?_)) fun k => ok.ite (fun k2 => ok.chk (by omega) (ok.eq (inRange_eq N _ _ _) (ok.ite (fun a => ok.ite (fun l => ?_) fun l => ok.some ?_) fun a => ok.some ?_))) fun k2 => ok.ite (fun k3 => ok.chk (by omega) (ok.eq (inRange_eq N _ _ _) (ok.ite (fun a => ok.ix (by omega) (by omega) fun n hn he => ok.ite (fun k1 => ok.eq (hcp _ hl) (ok.eq (ixI_eq he hn) (ok.eq (widS hN (h _ (List.getElem_mem _))) (ok.eq (ixI_eq he hn) (ok.some ?_))))) fun k1 => ok.some ?_) fun a => ok.some ?_))) fun k3 => ok.some ?_
  · have hp : poss f c := .inl ⟨k, a.1, a.2, by omega, b⟩
    rw [if_pos hp]
    refine ok.eq (subM_eq (by omega)) (ok.eq (hcp _ (by simp; omega)) (ok.app (by simp; omega) (ok.eq (subM_eq (by omega)) (ok.app (by simp; omega) (ok.some ?_)))))
    unfold chF
    rw [if_pos k, ← ins_eq (by omega)]
    simp only [Int.toNat_zero, List.drop_zero, Nat.sub_zero, List.append_assoc, List.singleton_append]
    congr 4
    exact List.take_of_length_le (by simp)
  · rw [if_neg]; rintro (e | e | ⟨e1, e2, e3, e4⟩) <;> omega
  · rw [if_neg]; rintro (e | e | ⟨e1, e2, e3, e4⟩); exact b e.2.2.2.2; omega; omega
  · rw [if_neg]; rintro (e | e | ⟨e1, e2, e3, e4⟩) <;> omega
  · have hp : poss f c := .inr (.inl ⟨k2, a.1, by omega, by omega⟩)
    rw [if_pos hp]
    refine ok.eq (subM_eq (by omega)) (ok.eq (hcp _ (by simp; omega)) (ok.chk (by omega) (ok.eq (subM_eq (by omega)) (ok.app (by simp; omega) (ok.some ?_)))))
    unfold chF
    rw [if_neg (by omega), if_pos k2, List.eraseIdx_eq_take_drop_succ]
    simp only [Int.toNat_zero, List.drop_zero, Nat.sub_zero]
    have e : (c.at_ + 1).toNat = c.at_.toNat + 1 := by omega
    rw [e]
    congr 2
    exact List.take_of_length_le (by simp)
  · rw [if_neg]; rintro (e | e | ⟨e1, e2, e3, e4⟩) <;> omega
  · rw [if_neg]; rintro (e | e | ⟨e1, e2, e3, e4⟩) <;> omega
  · obtain rfl : n = c.at_.toNat := by omega
    have hp : poss f c := .inr (.inr ⟨k3, by omega, hn, k1⟩)
    rw [if_pos hp]
    unfold chF
    rw [if_neg (by omega), if_neg (by omega), mod_eq hn]
  · obtain rfl : n = c.at_.toNat := by omega
    rw [if_neg]; rintro (e | e | ⟨e1, e2, e3, e4⟩); omega; omega; exact k1 e4
  · rw [if_neg]; rintro (e | e | ⟨e1, e2, e3, e4⟩) <;> omega
  · rw [if_neg]; rintro (e | e | ⟨e1, e2, e3, e4⟩) <;> omega
end
end V
end Go.Proofs.YtemmcidmcojjjaaGreatDoor
