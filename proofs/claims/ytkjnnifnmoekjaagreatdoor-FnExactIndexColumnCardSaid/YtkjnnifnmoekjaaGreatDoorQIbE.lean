/- What the rows need, part 5. No condition. -/
import Derived.Test.YtkjnnifnmoekjaaGreatDoorQIbD
namespace Go.Proofs.YtkjnnifnmoekjaaGreatDoor
namespace V
open Enc (enc)
set_option linter.unusedVariables false
set_option linter.unusedSimpArgs false
set_option maxHeartbeats 4000000
set_option maxRecDepth 100000
open Go.RowKit
attribute [local irreducible] thA inA FinA eL
def m_slices_Clone_I_Value (N : Nat) (p_s : List I_Value) : Option (List I_Value) := appM 32 ([] : List I_Value) p_s
theorem w_slices_Clone_I_Value (N : Nat) (p_s : List I_Value) (r : List I_Value) (hh0 : m_slices_Clone_I_Value N p_s = some r) : FnX Tryz.prog 100 [] [sL p_s] (RE (.os 0 0 r.length) [⟨.tr (eL r), 39, 3⟩]) := by
  unfold m_slices_Clone_I_Value at hh0; have hr := (appM_spec hh0).1
  simp only [List.nil_append] at hr
  refine FnX.mk Tryz.func100 rfl rfl ?_; intro s hs; refine PC.seq ?_; refine PC.region ?_; refine PL.op rfl (Rd.asnT rfl) ?_; refine PL.nil ?_; refine thA_n ?_; (iterate 2 refine PC.seq ?_); refine PC.region ?_; refine PL.op rfl (Rd.moveT rfl) ?_; refine PL.eqNil rfl rfl rfl ?_; intro b hb; refine PL.nil ?_; refine thA_n ?_
  cases b with
  | true =>
    have h0 : p_s = [] := List.eq_nil_of_length_eq_zero (hb rfl); subst h0; subst hr; refine PC.cond_true rfl rfl ?_; refine PC.seq ?_; refine PC.region ?_; refine PL.op rfl (Rd.asnT rfl) ?_; refine PL.nil ?_; refine thA_n ?_; refine PC.ret ?_; refine thA_r ?_; exact FinA.mk (r := .os 0 0 0) (bl := [⟨.tr (eL ([] : List I_Value)), 39, 3⟩]) [none] (.inl rfl) rfl (rl := [.tmp 2]) (.tmp .nil) rfl rfl rfl (.osn rfl) ⟨ow_nil _, trivial⟩ ⟨rfl, rfl⟩
  | false =>
    clear hr
    refine PC.cond_false rfl rfl ?_; refine PC.skip ?_; refine thA_n ?_; refine PC.seq ?_; refine PC.region ?_; refine PL.ef rfl (Ef.lit0M I_Value) ?_; refine PL.op rfl (Rd.moveT rfl) ?_; refine PL.apM hs rfl rfl rfl rfl (SrcA.eL rfl) rfl rfl rfl rfl hh0 ?_; refine PL.op rfl (Rd.asnO rfl) ?_; refine PL.nil ?_; refine thA_n ?_; refine PC.ret ?_; exact FinA.mk (r := .os 0 0 r.length) (bl := [⟨.tr (eL r), 39, 3⟩]) [some 1] (.inl rfl) rfl (rl := [.tmp 2]) (.tmp .nil) rfl rfl rfl (.os rfl) ⟨⟨_, rfl, rfl, rfl, .tr _⟩, trivial⟩ ⟨rfl, rfl⟩
def m_I_ChangeRow (N : Nat) (p_f : (List I_Column)) (p_row : (List I_Value)) (p_c : I_Change) : Option ((List I_Value) × Bool) :=
  (m_I_RowFits N p_f p_row).bind fun r1 =>
  cond r1
    ((m_I_Change_possible N p_c p_f).bind fun r4 =>
    cond r4
      ((m_slices_Clone_I_Value N p_row).bind fun r7 =>
      cond (decide (p_c.kind = (1 : Int)))
        ((insM 32 r7 p_c.at_ p_c.column.default).bind fun xs10 =>
        some (xs10, true))
        (cond (decide (p_c.kind = (2 : Int)))
          ((chk (p_c.at_ + (1 : Int))).bind fun n13 =>
          (delM r7 p_c.at_ n13).bind fun xs15 =>
          some (xs15, true))
          ((ixI r7 p_c.at_).bind fun x17 =>
          (m_I_WidenValue N x17).bind fun r19 =>
          some ((r7.set p_c.at_.toNat r19), true))))
      (some (([] : List I_Value), false)))
    (some (([] : List I_Value), false))
theorem w_I_ChangeRow (N : Nat) (p_f : (List I_Column)) (p_row : (List I_Value)) (p_c : I_Change) (r : (List I_Value) × Bool) (hh0 : m_I_ChangeRow N p_f p_row p_c = some r) : FnX Tryz.prog 132 [] [sL p_f, sL p_row, .agg [iA p_c.kind, iA p_c.at_, iA p_c.column.kind, iA p_c.column.default.kind, iA p_c.column.default.num, sA p_c.column.default.text]] (RE (.tup [.os 0 0 r.1.length, bA r.2]) [⟨.tr (eL r.1), 39, 3⟩]) := by
  unfold m_I_ChangeRow at hh0; refine FnX.mk Tryz.func132 rfl rfl ?_; intro s hs; refine PC.seq ?_; refine PC.region ?_; refine PL.ef rfl (Ef.box rfl rfl rfl) ?_; refine PL.nm (.op 0 0) [some ⟨.mx [iA p_c.kind, iA p_c.at_, iA p_c.column.kind, iA p_c.column.default.kind, iA p_c.column.default.num, sA p_c.column.default.text], 128, 0⟩] rfl rfl ?_; (iterate 2 refine PL.op rfl (Rd.asnT rfl) ?_); refine PL.nil ?_; refine thA_n ?_; (iterate 2 refine PC.seq ?_); obtain ⟨r1, h_2, hh0⟩ := bind_some hh0; rcases cond_some hh0 with ⟨h_3, hh0⟩ | ⟨h_3, hh0⟩; rotate_left
  · refine PC.region ?_; (iterate 2 refine PL.op rfl (Rd.moveT rfl) ?_); refine PL.callM false [] (w_I_RowFits N p_f p_row r1 h_2) rfl Tryz.call105 rfl ⟨.t _, .t _, trivial⟩ rfl trivial (fun h => by cases h) ?_; refine PL.op rfl (Rd.unnot rfl) ?_; refine PL.op rfl (Rd.moveT rfl) ?_; (iterate 4 refine PL.guard_off rfl rfl (not_f h_3) ?_); refine PL.op rfl (Rd.pick_t rfl (not_f h_3)) ?_; refine PL.nil ?_; refine thA_n ?_; refine PC.cond_true rfl rfl ?_; refine PC.seq ?_; refine PC.region ?_; (iterate 2 refine PL.op rfl (Rd.asnT rfl) ?_); refine PL.nil ?_; refine thA_n ?_; refine PC.ret ?_; refine thA_r ?_; obtain rfl := some_in hh0; exact FinA.mk (r := .tup [.os 0 0 (((([] : List I_Value), false).1).length), bA ((([] : List I_Value), false).2)]) (bl := [⟨.tr (eL ((([] : List I_Value), false).1)), 39, 3⟩]) [none] (.inl rfl) rfl (rl := [.tmp 6, .tmp 7]) (.tmp (.tmp .nil)) rfl rfl rfl (.tupL ⟨.osn rfl, .t _, trivial⟩) ⟨ow_nil _, trivial⟩ ⟨rfl, rfl⟩
  obtain ⟨r4, h_5, hh0⟩ := bind_some hh0; refine PC.region ?_; (iterate 2 refine PL.op rfl (Rd.moveT rfl) ?_); refine PL.callM false [] (w_I_RowFits N p_f p_row r1 h_2) rfl Tryz.call105 rfl ⟨.t _, .t _, trivial⟩ rfl trivial (fun h => by cases h) ?_; refine PL.op rfl (Rd.unnot rfl) ?_; refine PL.op rfl (Rd.moveT rfl) ?_; refine PL.guard_on rfl (not_t h_3) ?_; refine PL.op rfl (Rd.loadBox rfl rfl rfl) ?_; refine PL.guard_on rfl (not_t h_3) ?_; refine PL.op rfl (Rd.moveT rfl) ?_; refine PL.guard_on rfl (not_t h_3) ?_; refine PL.callM false [] (w_I_Change_possible N p_c p_f r4 h_5) rfl Tryz.call152 rfl ⟨.aggL ⟨.t _, .t _, .t _, .t _, .t _, .t _, trivial⟩, .t _, trivial⟩ rfl trivial (fun h => by cases h) ?_; refine PL.guard_on rfl (not_t h_3) ?_; refine PL.op rfl (Rd.unnot rfl) ?_; refine PL.op rfl (Rd.pick_f rfl (not_t h_3)) ?_; refine PL.nil ?_; refine thA_n ?_; rcases cond_some hh0 with ⟨h_6, hh0⟩ | ⟨h_6, hh0⟩; rotate_left
  · refine PC.cond_true rfl (not_f h_6) ?_; refine PC.seq ?_; refine PC.region ?_; (iterate 2 refine PL.op rfl (Rd.asnT rfl) ?_); refine PL.nil ?_; refine thA_n ?_; refine PC.ret ?_; refine thA_r ?_; obtain rfl := some_in hh0; exact FinA.mk (r := .tup [.os 0 0 (((([] : List I_Value), false).1).length), bA ((([] : List I_Value), false).2)]) (bl := [⟨.tr (eL ((([] : List I_Value), false).1)), 39, 3⟩]) [none] (.inl rfl) rfl (rl := [.tmp 6, .tmp 7]) (.tmp (.tmp .nil)) rfl rfl rfl (.tupL ⟨.osn rfl, .t _, trivial⟩) ⟨ow_nil _, trivial⟩ ⟨rfl, rfl⟩
  refine PC.cond_false rfl (not_t h_6) ?_; refine PC.skip ?_; refine thA_n ?_; refine PC.seq ?_; obtain ⟨r7, h_8, hh0⟩ := bind_some hh0; refine PC.region ?_; refine PL.op rfl (Rd.moveT rfl) ?_; refine PL.callM false [] (w_slices_Clone_I_Value N p_row r7 h_8) rfl Tryz.call100 rfl ⟨.t _, trivial⟩ rfl trivial (fun h => by cases h) ?_; refine PL.nm (.os 1 0 r7.length) [some ⟨.mx [iA p_c.kind, iA p_c.at_, iA p_c.column.kind, iA p_c.column.default.kind, iA p_c.column.default.num, sA p_c.column.default.text], 128, 0⟩, some ⟨.tr (eL r7), 39, 3⟩] rfl rfl ?_; refine PL.op rfl (Rd.asnO rfl) ?_; refine PL.nil ?_; refine thA_n ?_; (iterate 2 refine PC.seq ?_); refine PC.region ?_; refine PL.op rfl (Rd.fieldO rfl rfl) ?_; refine PL.op rfl (Rd.loadO rfl rfl rfl) ?_; refine PL.nil ?_; refine thA_n ?_; refine PC.block ?_; refine PC.seq ?_; refine PC.region ?_; refine PL.op rfl (Rd.eql rfl rfl) ?_; refine PL.op rfl (Rd.asnT rfl) ?_; refine PL.nil ?_; refine thA_n ?_; rcases cond_some hh0 with ⟨h_9, hh0⟩ | ⟨h_9, hh0⟩
  · refine PC.cond_true rfl h_9 ?_; obtain ⟨xs10, h_11, hh0⟩ := bind_some hh0; refine PC.region ?_; refine PL.op rfl (Rd.moveO rfl) ?_; refine PL.op rfl (Rd.fieldO rfl rfl) ?_; refine PL.op rfl (Rd.loadO rfl rfl rfl) ?_; (iterate 2 refine PL.op rfl (Rd.fieldO rfl rfl) ?_); refine PL.op rfl (Rd.loadSub rfl rfl rfl rfl) ?_; refine PL.ef rfl (Ef.litM (α := I_Value) [p_c.column.default] [_] rfl rfl (by decide) rfl rfl rfl rfl) ?_; refine PL.nm (.os 2 0 1) [some ⟨.mx [iA p_c.kind, iA p_c.at_, iA p_c.column.kind, iA p_c.column.default.kind, iA p_c.column.default.num, sA p_c.column.default.text], 128, 0⟩, some ⟨.tr (eL r7), 39, 3⟩, some ⟨.tr (eL [p_c.column.default]), 39, 3⟩] rfl rfl ?_; refine PL.ins_Value hs rfl rfl rfl rfl rfl rfl rfl rfl rfl h_11 ?_; refine PL.nm (.os 3 0 xs10.length) [some ⟨.mx [iA p_c.kind, iA p_c.at_, iA p_c.column.kind, iA p_c.column.default.kind, iA p_c.column.default.num, sA p_c.column.default.text], 128, 0⟩, none, some ⟨.tr (eL [p_c.column.default]), 39, 3⟩, some ⟨.tr (eL xs10), 39, 3⟩] rfl rfl ?_; refine PL.op rfl (Rd.asnO rfl) ?_; refine PL.nil ?_; refine inA_n ?_; refine thA_n ?_; refine PC.seq ?_; refine PC.region ?_; refine PL.op rfl (Rd.moveO rfl) ?_; refine PL.op rfl (Rd.asnO rfl) ?_; refine PL.op rfl (Rd.asnT rfl) ?_; refine PL.nil ?_; refine thA_n ?_; refine PC.ret ?_; obtain rfl := some_in hh0; exact FinA.mk (r := .tup [.os 0 0 (((xs10, true).1).length), bA ((xs10, true).2)]) (bl := [⟨.tr (eL ((xs10, true).1)), 39, 3⟩]) [some 3] (.inl rfl) rfl (rl := [.tmp 6, .tmp 7]) (.tmp (.tmp .nil)) rfl rfl rfl (.tupL ⟨.os rfl, .t _, trivial⟩) ⟨⟨_, rfl, rfl, rfl, .tr _⟩, trivial⟩ ⟨rfl, rfl⟩
  refine PC.cond_false rfl h_9 ?_; refine PC.seq ?_; refine PC.region ?_; refine PL.op rfl (Rd.eql rfl rfl) ?_; refine PL.op rfl (Rd.asnT rfl) ?_; refine PL.nil ?_; refine thA_n ?_; rcases cond_some hh0 with ⟨h_12, hh0⟩ | ⟨h_12, hh0⟩
  · refine PC.cond_true rfl h_12 ?_; obtain ⟨n13, h_14, hh0⟩ := bind_some hh0; obtain ⟨xs15, h_16, hh0⟩ := bind_some hh0; refine PC.region ?_; refine PL.op rfl (Rd.moveO rfl) ?_; refine PL.op rfl (Rd.fieldO rfl rfl) ?_; refine PL.op rfl (Rd.loadO rfl rfl rfl) ?_; refine PL.op rfl (Rd.fieldO rfl rfl) ?_; refine PL.op rfl (Rd.loadO rfl rfl rfl) ?_; refine PL.op rfl (Rd.addM rfl rfl h_14) ?_; refine PL.del_Value hs rfl rfl rfl rfl rfl rfl rfl h_16 ?_; refine PL.nm (.os 2 0 xs15.length) [some ⟨.mx [iA p_c.kind, iA p_c.at_, iA p_c.column.kind, iA p_c.column.default.kind, iA p_c.column.default.num, sA p_c.column.default.text], 128, 0⟩, none, some ⟨.tr (eL xs15), 39, 3⟩] rfl rfl ?_; refine PL.op rfl (Rd.asnO rfl) ?_; refine PL.nil ?_; refine inA_n ?_; refine thA_n ?_; refine PC.seq ?_; refine PC.region ?_; refine PL.op rfl (Rd.moveO rfl) ?_; refine PL.op rfl (Rd.asnO rfl) ?_; refine PL.op rfl (Rd.asnT rfl) ?_; refine PL.nil ?_; refine thA_n ?_; refine PC.ret ?_; obtain rfl := some_in hh0; exact FinA.mk (r := .tup [.os 0 0 (((xs15, true).1).length), bA ((xs15, true).2)]) (bl := [⟨.tr (eL ((xs15, true).1)), 39, 3⟩]) [some 2] (.inl rfl) rfl (rl := [.tmp 6, .tmp 7]) (.tmp (.tmp .nil)) rfl rfl rfl (.tupL ⟨.os rfl, .t _, trivial⟩) ⟨⟨_, rfl, rfl, rfl, .tr _⟩, trivial⟩ ⟨rfl, rfl⟩
  refine PC.cond_false rfl h_12 ?_; obtain ⟨x17, h_18, hh0⟩ := bind_some hh0; obtain ⟨r19, h_20, hh0⟩ := bind_some hh0; refine PC.any (id := 5) 10 (.seg [0, 1, 2, 3, 4, 5, 6, 7, 8, 9] .done) [] rfl (by kernel_rfl) rfl ?_; refine PT.seg ?_; refine PR.op rfl (Rd.moveO rfl) ?_; refine PR.op rfl (Rd.fieldO rfl rfl) ?_; refine PR.op rfl (Rd.loadO rfl rfl rfl) ?_; refine PR.op rfl (Rd.moveO rfl) ?_; refine PR.op rfl (Rd.fieldO rfl rfl) ?_; refine PR.op rfl (Rd.loadO rfl rfl rfl) ?_; refine PR.ixOM rfl rfl rfl rfl (ixI_lt h_18) ?_; refine PR.op rfl (Rd.owMR rfl rfl h_18 rfl rfl) ?_; refine PR.callM false [] (w_I_WidenValue N x17 r19 h_20) rfl Tryz.call155 rfl ⟨.aggL ⟨.t _, .t _, .t _, trivial⟩, trivial⟩ rfl trivial (fun h => by cases h) rfl ?_; refine PR.ixOM rfl rfl rfl rfl (ixI_lt h_18) ?_; refine PR.nil ?_; refine PT.done ?_; refine PL.stRM r19 rfl rfl rfl rfl rfl h_18 rfl ?_; refine PL.nO [some ⟨.mx [iA p_c.kind, iA p_c.at_, iA p_c.column.kind, iA p_c.column.default.kind, iA p_c.column.default.num, sA p_c.column.default.text], 128, 0⟩, some ⟨.tr (eL (r7.set p_c.at_.toNat r19)), 39, 3⟩] rfl ?_; refine PL.nil ?_; refine inA_n ?_; refine thA_n ?_; refine PC.seq ?_; refine PC.region ?_; refine PL.op rfl (Rd.moveO rfl) ?_; refine PL.op rfl (Rd.asnO rfl) ?_; refine PL.op rfl (Rd.asnT rfl) ?_; refine PL.nil ?_; refine thA_n ?_; refine PC.ret ?_; obtain rfl := some_in hh0; exact FinA.mk (r := .tup [.os 0 0 ((((r7.set p_c.at_.toNat r19), true).1).length), bA (((r7.set p_c.at_.toNat r19), true).2)]) (bl := [⟨.tr (eL (((r7.set p_c.at_.toNat r19), true).1)), 39, 3⟩]) [some 1] (.inl rfl) rfl (rl := [.tmp 6, .tmp 7]) (.tmp (.tmp .nil)) rfl rfl rfl (.tupL ⟨.osE rfl (by simp only [List.length_set]), .t _, trivial⟩) ⟨⟨_, rfl, rfl, rfl, .tr _⟩, trivial⟩ ⟨rfl, rfl⟩
def m_I_ReadRow_k1 (N : Nat) (v26 : (List I_Value)) : Option ((List I_Value) × Bool) :=
  some (v26, true)
def m_I_ReadRow_b1 (N : Nat) (p_list : (List I_Change)) (p_to : Int) (r1 : ((List (List I_Column)) × Bool)) (i14 : Int) (v15 : (List I_Value)) : Option ((Int × (List I_Value)) ⊕ ((List I_Value) ⊕ ((List I_Value) × Bool))) :=
  cond (decide (i14 < p_to))
    ((ixI r1.1 i14).bind fun x33 =>
    (ixI p_list i14).bind fun x35 =>
    (m_I_ChangeRow N x33 v15 x35).bind fun r37 =>
    cond r37.2
      ((chk (i14 + (1 : Int))).bind fun n40 =>
      some (.inl (n40, r37.1)))
      (some (.inr (.inr (([] : List I_Value), false)))))
    (some (.inr (.inl v15)))
def m_I_ReadRow (N : Nat) (p_f : (List I_Column)) (p_list : (List I_Change)) (p_from : Int) (p_to : Int) (p_row : (List I_Value)) : Option ((List I_Value) × Bool) :=
  (m_I_ChainOf N p_f p_list).bind fun r1 =>
  cond r1.2
    (cond (decide (p_from < (0 : Int)))
      (some (([] : List I_Value), false))
      (cond (decide (p_to < p_from))
        (some (([] : List I_Value), false))
        (cond (decide ((r1.1.length : Int) ≤ p_to))
          (some (([] : List I_Value), false))
          ((ixI r1.1 p_from).bind fun x7 =>
          (m_I_RowFits N x7 p_row).bind fun r9 =>
          cond r9
            ((m_slices_Clone_I_Value N p_row).bind fun r12 =>
            (loopM (β := (List I_Value) ⊕ ((List I_Value) × Bool)) (fun s : Int × (List I_Value) => m_I_ReadRow_b1 N p_list p_to r1 s.1 s.2) N (p_from, r12)).bind fun o => match o with
            | .inl e =>
              m_I_ReadRow_k1 N e
            | .inr v =>
              some v)
            (some (([] : List I_Value), false))))))
    (some (([] : List I_Value), false))
theorem w_I_ReadRow (N : Nat) (p_f : (List I_Column)) (p_list : (List I_Change)) (p_from : Int) (p_to : Int) (p_row : (List I_Value)) (r : (List I_Value) × Bool) (hh0 : m_I_ReadRow N p_f p_list p_from p_to p_row = some r) : FnX Tryz.prog 101 [] [sL p_f, sL p_list, iA p_from, iA p_to, sL p_row] (RE (.tup [.os 0 0 r.1.length, bA r.2]) [⟨.tr (eL r.1), 39, 3⟩]) := by
  unfold m_I_ReadRow at hh0; refine FnX.mk Tryz.func101 rfl rfl ?_; intro s hs; refine PC.seq ?_; refine PC.region ?_; (iterate 2 refine PL.op rfl (Rd.asnT rfl) ?_); refine PL.nil ?_; refine thA_n ?_; refine PC.seq ?_; obtain ⟨r1, h_2, hh0⟩ := bind_some hh0; refine PC.region ?_; (iterate 2 refine PL.op rfl (Rd.moveT rfl) ?_); refine PL.callM false [] (w_I_ChainOf N p_f p_list r1 h_2) rfl Tryz.call104 rfl ⟨.t _, .t _, trivial⟩ rfl trivial (fun h => by cases h) ?_; refine PL.nm (.tup [.os 0 0 r1.1.length, bA r1.2]) [some ⟨.tr (eL r1.1), 33, 1⟩] rfl rfl ?_; refine PL.op rfl (Rd.moveU rfl) ?_; (iterate 2 refine PL.op rfl (Rd.extract rfl rfl) ?_); refine PL.op rfl (Rd.asnO rfl) ?_; refine PL.op rfl (Rd.asnT rfl) ?_; refine PL.nil ?_; refine thA_n ?_; (iterate 2 refine PC.seq ?_); rcases cond_some hh0 with ⟨h_3, hh0⟩ | ⟨h_3, hh0⟩; rotate_left
  · refine PC.region ?_; refine PL.op rfl (Rd.moveT rfl) ?_; refine PL.op rfl (Rd.unnot rfl) ?_; refine PL.op rfl (Rd.moveT rfl) ?_; (iterate 2 refine PL.guard_off rfl rfl (not_f h_3) ?_); refine PL.op rfl (Rd.pick_t rfl (not_f h_3)) ?_; refine PL.op rfl (Rd.moveT rfl) ?_; (iterate 3 refine PL.guard_off rfl rfl rfl ?_); refine PL.op rfl (Rd.pick_t rfl rfl) ?_; refine PL.op rfl (Rd.moveT rfl) ?_; (iterate 4 refine PL.guard_off rfl rfl rfl ?_); refine PL.op rfl (Rd.pick_t rfl rfl) ?_; refine PL.op rfl (Rd.moveT rfl) ?_; (iterate 7 refine PL.guard_off rfl rfl rfl ?_); refine PL.op rfl (Rd.pick_t rfl rfl) ?_; refine PL.nil ?_; refine thA_n ?_; refine PC.cond_true rfl rfl ?_; refine PC.seq ?_; refine PC.region ?_; (iterate 2 refine PL.op rfl (Rd.asnT rfl) ?_); refine PL.nil ?_; refine thA_n ?_; refine PC.ret ?_; refine thA_r ?_; obtain rfl := some_in hh0; exact FinA.mk (r := .tup [.os 0 0 (((([] : List I_Value), false).1).length), bA ((([] : List I_Value), false).2)]) (bl := [⟨.tr (eL ((([] : List I_Value), false).1)), 39, 3⟩]) [none] (.inl rfl) rfl (rl := [.tmp 10, .tmp 11]) (.tmp (.tmp .nil)) rfl rfl rfl (.tupL ⟨.osn rfl, .t _, trivial⟩) ⟨ow_nil _, trivial⟩ ⟨rfl, rfl⟩
  rcases cond_some hh0 with ⟨h_4, hh0⟩ | ⟨h_4, hh0⟩
  · refine PC.region ?_; refine PL.op rfl (Rd.moveT rfl) ?_; refine PL.op rfl (Rd.unnot rfl) ?_; refine PL.op rfl (Rd.moveT rfl) ?_; refine PL.guard_on rfl (not_t h_3) ?_; refine PL.op rfl (Rd.moveT rfl) ?_; refine PL.guard_on rfl (not_t h_3) ?_; refine PL.op rfl (Rd.lss rfl rfl) ?_; refine PL.op rfl (Rd.pick_f rfl (not_t h_3)) ?_; refine PL.op rfl (Rd.moveT rfl) ?_; (iterate 3 refine PL.guard_off rfl rfl h_4 ?_); refine PL.op rfl (Rd.pick_t rfl h_4) ?_; refine PL.op rfl (Rd.moveT rfl) ?_; (iterate 4 refine PL.guard_off rfl rfl rfl ?_); refine PL.op rfl (Rd.pick_t rfl rfl) ?_; refine PL.op rfl (Rd.moveT rfl) ?_; (iterate 7 refine PL.guard_off rfl rfl rfl ?_); refine PL.op rfl (Rd.pick_t rfl rfl) ?_; refine PL.nil ?_; refine thA_n ?_; refine PC.cond_true rfl rfl ?_; refine PC.seq ?_; refine PC.region ?_; (iterate 2 refine PL.op rfl (Rd.asnT rfl) ?_); refine PL.nil ?_; refine thA_n ?_; refine PC.ret ?_; refine thA_r ?_; obtain rfl := some_in hh0; exact FinA.mk (r := .tup [.os 0 0 (((([] : List I_Value), false).1).length), bA ((([] : List I_Value), false).2)]) (bl := [⟨.tr (eL ((([] : List I_Value), false).1)), 39, 3⟩]) [none] (.inl rfl) rfl (rl := [.tmp 10, .tmp 11]) (.tmp (.tmp .nil)) rfl rfl rfl (.tupL ⟨.osn rfl, .t _, trivial⟩) ⟨ow_nil _, trivial⟩ ⟨rfl, rfl⟩
  rcases cond_some hh0 with ⟨h_5, hh0⟩ | ⟨h_5, hh0⟩
  · refine PC.region ?_; refine PL.op rfl (Rd.moveT rfl) ?_; refine PL.op rfl (Rd.unnot rfl) ?_; refine PL.op rfl (Rd.moveT rfl) ?_; refine PL.guard_on rfl (not_t h_3) ?_; refine PL.op rfl (Rd.moveT rfl) ?_; refine PL.guard_on rfl (not_t h_3) ?_; refine PL.op rfl (Rd.lss rfl rfl) ?_; refine PL.op rfl (Rd.pick_f rfl (not_t h_3)) ?_; refine PL.op rfl (Rd.moveT rfl) ?_; refine PL.guard_on rfl h_4 ?_; refine PL.op rfl (Rd.moveT rfl) ?_; refine PL.guard_on rfl h_4 ?_; refine PL.op rfl (Rd.moveT rfl) ?_; refine PL.guard_on rfl h_4 ?_; refine PL.op rfl (Rd.lss rfl rfl) ?_; refine PL.op rfl (Rd.pick_f rfl h_4) ?_; refine PL.op rfl (Rd.moveT rfl) ?_; (iterate 4 refine PL.guard_off rfl rfl h_5 ?_); refine PL.op rfl (Rd.pick_t rfl h_5) ?_; refine PL.op rfl (Rd.moveT rfl) ?_; (iterate 7 refine PL.guard_off rfl rfl rfl ?_); refine PL.op rfl (Rd.pick_t rfl rfl) ?_; refine PL.nil ?_; refine thA_n ?_; refine PC.cond_true rfl rfl ?_; refine PC.seq ?_; refine PC.region ?_; (iterate 2 refine PL.op rfl (Rd.asnT rfl) ?_); refine PL.nil ?_; refine thA_n ?_; refine PC.ret ?_; refine thA_r ?_; obtain rfl := some_in hh0; exact FinA.mk (r := .tup [.os 0 0 (((([] : List I_Value), false).1).length), bA ((([] : List I_Value), false).2)]) (bl := [⟨.tr (eL ((([] : List I_Value), false).1)), 39, 3⟩]) [none] (.inl rfl) rfl (rl := [.tmp 10, .tmp 11]) (.tmp (.tmp .nil)) rfl rfl rfl (.tupL ⟨.osn rfl, .t _, trivial⟩) ⟨ow_nil _, trivial⟩ ⟨rfl, rfl⟩
  rcases cond_some hh0 with ⟨h_6, hh0⟩ | ⟨h_6, hh0⟩
  · refine PC.region ?_; refine PL.op rfl (Rd.moveT rfl) ?_; refine PL.op rfl (Rd.unnot rfl) ?_; refine PL.op rfl (Rd.moveT rfl) ?_; refine PL.guard_on rfl (not_t h_3) ?_; refine PL.op rfl (Rd.moveT rfl) ?_; refine PL.guard_on rfl (not_t h_3) ?_; refine PL.op rfl (Rd.lss rfl rfl) ?_; refine PL.op rfl (Rd.pick_f rfl (not_t h_3)) ?_; refine PL.op rfl (Rd.moveT rfl) ?_; refine PL.guard_on rfl h_4 ?_; refine PL.op rfl (Rd.moveT rfl) ?_; refine PL.guard_on rfl h_4 ?_; refine PL.op rfl (Rd.moveT rfl) ?_; refine PL.guard_on rfl h_4 ?_; refine PL.op rfl (Rd.lss rfl rfl) ?_; refine PL.op rfl (Rd.pick_f rfl h_4) ?_; refine PL.op rfl (Rd.moveT rfl) ?_; refine PL.guard_on rfl h_5 ?_; refine PL.op rfl (Rd.moveT rfl) ?_; refine PL.guard_on rfl h_5 ?_; refine PL.op rfl (Rd.moveO rfl) ?_; refine PL.guard_on rfl h_5 ?_; refine PL.op rfl (Rd.lenO rfl rfl) ?_; refine PL.guard_on rfl h_5 ?_; refine PL.op rfl (Rd.geq rfl rfl) ?_; refine PL.op rfl (Rd.pick_f rfl h_5) ?_; refine PL.op rfl (Rd.moveT rfl) ?_; (iterate 7 refine PL.guard_off rfl rfl h_6 ?_); refine PL.op rfl (Rd.pick_t rfl h_6) ?_; refine PL.nil ?_; refine thA_n ?_; refine PC.cond_true rfl rfl ?_; refine PC.seq ?_; refine PC.region ?_; (iterate 2 refine PL.op rfl (Rd.asnT rfl) ?_); refine PL.nil ?_; refine thA_n ?_; refine PC.ret ?_; refine thA_r ?_; obtain rfl := some_in hh0; exact FinA.mk (r := .tup [.os 0 0 (((([] : List I_Value), false).1).length), bA ((([] : List I_Value), false).2)]) (bl := [⟨.tr (eL ((([] : List I_Value), false).1)), 39, 3⟩]) [none] (.inl rfl) rfl (rl := [.tmp 10, .tmp 11]) (.tmp (.tmp .nil)) rfl rfl rfl (.tupL ⟨.osn rfl, .t _, trivial⟩) ⟨ow_nil _, trivial⟩ ⟨rfl, rfl⟩
  obtain ⟨x7, h_8, hh0⟩ := bind_some hh0; obtain ⟨r9, h_10, hh0⟩ := bind_some hh0; refine PC.region ?_; refine PL.op rfl (Rd.moveT rfl) ?_; refine PL.op rfl (Rd.unnot rfl) ?_; refine PL.op rfl (Rd.moveT rfl) ?_; refine PL.guard_on rfl (not_t h_3) ?_; refine PL.op rfl (Rd.moveT rfl) ?_; refine PL.guard_on rfl (not_t h_3) ?_; refine PL.op rfl (Rd.lss rfl rfl) ?_; refine PL.op rfl (Rd.pick_f rfl (not_t h_3)) ?_; refine PL.op rfl (Rd.moveT rfl) ?_; refine PL.guard_on rfl h_4 ?_; refine PL.op rfl (Rd.moveT rfl) ?_; refine PL.guard_on rfl h_4 ?_; refine PL.op rfl (Rd.moveT rfl) ?_; refine PL.guard_on rfl h_4 ?_; refine PL.op rfl (Rd.lss rfl rfl) ?_; refine PL.op rfl (Rd.pick_f rfl h_4) ?_; refine PL.op rfl (Rd.moveT rfl) ?_; refine PL.guard_on rfl h_5 ?_; refine PL.op rfl (Rd.moveT rfl) ?_; refine PL.guard_on rfl h_5 ?_; refine PL.op rfl (Rd.moveO rfl) ?_; refine PL.guard_on rfl h_5 ?_; refine PL.op rfl (Rd.lenO rfl rfl) ?_; refine PL.guard_on rfl h_5 ?_; refine PL.op rfl (Rd.geq rfl rfl) ?_; refine PL.op rfl (Rd.pick_f rfl h_5) ?_; refine PL.op rfl (Rd.moveT rfl) ?_; refine PL.guard_on rfl h_6 ?_; refine PL.op rfl (Rd.moveO rfl) ?_; refine PL.guard_on rfl h_6 ?_; refine PL.op rfl (Rd.moveT rfl) ?_; refine PL.guard_on rfl h_6 ?_; refine PL.op rfl (Rd.ixOM rfl rfl rfl (ixI_lt h_8)) ?_; refine PL.guard_on rfl h_6 ?_; refine PL.op rfl (Rd.owM1 rfl rfl h_8 rfl rfl) ?_; refine PL.guard_on rfl h_6 ?_; refine PL.op rfl (Rd.moveT rfl) ?_; refine PL.guard_on rfl h_6 ?_; refine PL.callM false [] (w_I_RowFits N x7 p_row r9 h_10) rfl Tryz.call105 rfl ⟨.t _, .t _, trivial⟩ rfl trivial (fun h => by cases h) ?_; refine PL.guard_on rfl h_6 ?_; refine PL.op rfl (Rd.unnot rfl) ?_; refine PL.op rfl (Rd.pick_f rfl h_6) ?_; refine PL.nil ?_; refine thA_n ?_; rcases cond_some hh0 with ⟨h_11, hh0⟩ | ⟨h_11, hh0⟩; rotate_left
  · refine PC.cond_true rfl (not_f h_11) ?_; refine PC.seq ?_; refine PC.region ?_; (iterate 2 refine PL.op rfl (Rd.asnT rfl) ?_); refine PL.nil ?_; refine thA_n ?_; refine PC.ret ?_; refine thA_r ?_; obtain rfl := some_in hh0; exact FinA.mk (r := .tup [.os 0 0 (((([] : List I_Value), false).1).length), bA ((([] : List I_Value), false).2)]) (bl := [⟨.tr (eL ((([] : List I_Value), false).1)), 39, 3⟩]) [none] (.inl rfl) rfl (rl := [.tmp 10, .tmp 11]) (.tmp (.tmp .nil)) rfl rfl rfl (.tupL ⟨.osn rfl, .t _, trivial⟩) ⟨ow_nil _, trivial⟩ ⟨rfl, rfl⟩
  refine PC.cond_false rfl (not_t h_11) ?_; refine PC.skip ?_; refine thA_n ?_; refine PC.seq ?_; obtain ⟨r12, h_13, hh0⟩ := bind_some hh0; refine PC.region ?_; refine PL.op rfl (Rd.moveT rfl) ?_; refine PL.callM false [] (w_slices_Clone_I_Value N p_row r12 h_13) rfl Tryz.call100 rfl ⟨.t _, trivial⟩ rfl trivial (fun h => by cases h) ?_; refine PL.nm (.os 1 0 r12.length) [some ⟨.tr (eL r1.1), 33, 1⟩, some ⟨.tr (eL r12), 39, 3⟩] rfl rfl ?_; refine PL.op rfl (Rd.asnO rfl) ?_; refine PL.nil ?_; refine thA_n ?_; (iterate 2 refine PC.seq ?_); refine PC.region ?_; refine PL.op rfl (Rd.moveT rfl) ?_; refine PL.op rfl (Rd.asnT rfl) ?_; refine PL.nil ?_; refine thA_n ?_; obtain ⟨o27, h_28, hh0⟩ := bind_some hh0; refine PC.cutE hs (fun x : (List I_Value) => [(14, .os 0 0 x.length)]) (fun x => [⟨.tr (eL x), 39, 3⟩]) (fun x => m_I_ReadRow_k1 N x = some r) ?_ ?_
  · refine PC.block ?_; refine PC.loop hs (fun x : Nat × (Int × (List I_Value)) => [(1, sL p_list), (3, iA p_to), (12, .os 0 0 r1.1.length), (14, .os 1 0 x.2.2.length), (15, iA x.2.1)]) (fun x => [⟨.tr (eL r1.1), 33, 1⟩, ⟨.tr (eL x.2.2), 39, 3⟩]) (fun x => loopM (β := (List I_Value) ⊕ ((List I_Value) × Bool)) (fun s : Int × (List I_Value) => m_I_ReadRow_b1 N p_list p_to r1 s.1 s.2) x.1 x.2 = some o27) (fun x => x.1) (N, (p_from, r12)) [some 0, some 1] ⟨rfl, rfl, ⟨⟨_, rfl, rfl, rfl, .tr _⟩, ⟨_, rfl, rfl, rfl, .tr _⟩, trivial⟩, ⟨.t _, .t _, .os rfl, .os rfl, .t _, trivial⟩⟩ h_28 ?_
    rintro ⟨f29_, i14, v15⟩ h_31
    obtain ⟨f29, y30, rfl, hh1, kk1⟩ := loopM_some h_31
    replace hh1 : m_I_ReadRow_b1 N p_list p_to r1 i14 v15 = some y30 := hh1
    unfold m_I_ReadRow_b1 at hh1; (iterate 2 refine PC.seq ?_); refine PC.region ?_; (iterate 2 refine PL.op rfl (Rd.moveT rfl) ?_); refine PL.op rfl (Rd.lss rfl rfl) ?_; refine PL.nil ?_; refine thA_n ?_; rcases cond_some hh1 with ⟨h_32, hh1⟩ | ⟨h_32, hh1⟩; rotate_left
    · refine PC.cond_false rfl h_32 ?_; refine PC.exit ?_; (iterate 2 refine thA_e ?_); refine inA_eq rfl ?_; refine thA_n ?_; obtain rfl := some_in hh1; obtain rfl : (.inl v15 : (List I_Value) ⊕ ((List I_Value) × Bool)) = o27 := kk1; exact ⟨v15, hh0, [some 1], ⟨rfl, rfl, ⟨⟨_, rfl, rfl, rfl, .tr _⟩, trivial⟩, ⟨.os rfl, trivial⟩⟩⟩
    refine PC.cond_true rfl h_32 ?_; refine PC.skip ?_; refine thA_n ?_; refine PC.seq ?_; refine PC.block ?_; refine PC.seq ?_; obtain ⟨x33, h_34, hh1⟩ := bind_some hh1; obtain ⟨x35, h_36, hh1⟩ := bind_some hh1; obtain ⟨r37, h_38, hh1⟩ := bind_some hh1; refine PC.any (id := 8) 15 (.seg [0, 1, 2, 3, 4, 5, 6, 7, 8, 9, 10, 11, 12, 13, 14] .done) [] rfl (by kernel_rfl) rfl ?_; refine PT.seg ?_; refine PR.op rfl (Rd.moveO rfl) ?_; refine PR.op rfl (Rd.moveT rfl) ?_; refine PR.ixOM rfl rfl rfl rfl (ixI_lt h_34) ?_; refine PR.op rfl (Rd.owM1 rfl rfl h_34 rfl rfl) ?_; refine PR.op rfl (Rd.moveO rfl) ?_; (iterate 2 refine PR.op rfl (Rd.moveT rfl) ?_); refine PR.op rfl (Rd.ixM rfl rfl h_36) ?_; refine PR.op rfl (Rd.elMR rfl h_36 rfl rfl) ?_; refine PR.callM true [] (w_I_ChangeRow N x33 v15 x35 r37 h_38) rfl Tryz.call132 rfl ⟨.t _, .own rfl (by first | decide | exact List.not_mem_nil) rfl rfl, .aggL ⟨.t _, .t _, .t _, .t _, .t _, .t _, trivial⟩, trivial⟩ rfl trivial (fun _ => ⟨⟨trivial, trivial, trivial⟩, (flat_cons flat_ow flat_nil)⟩) rfl ?_; refine PR.nm (.tup [.os 2 0 r37.1.length, bA r37.2]) [some ⟨.tr (eL r1.1), 33, 1⟩, some ⟨.tr (eL v15), 39, 3⟩, some ⟨.tr (eL r37.1), 39, 3⟩] rfl rfl ?_; refine PR.op rfl (Rd.moveU rfl) ?_; (iterate 2 refine PR.op rfl (Rd.extract rfl rfl) ?_); refine PR.op rfl (Rd.asnO rfl) ?_; refine PR.op rfl (Rd.asnT rfl) ?_; refine PR.nil ?_; refine PT.done ?_; refine PL.nil ?_; refine thA_n ?_; refine PC.seq ?_; refine PC.region ?_; refine PL.op rfl (Rd.moveT rfl) ?_; refine PL.op rfl (Rd.unnot rfl) ?_; refine PL.nil ?_; refine thA_n ?_; rcases cond_some hh1 with ⟨h_39, hh1⟩ | ⟨h_39, hh1⟩
    · refine PC.cond_false rfl (not_t h_39) ?_; refine PC.skip ?_; refine inA_n ?_; refine thA_n ?_; obtain ⟨n40, h_41, hh1⟩ := bind_some hh1; refine PC.region ?_; refine PL.op rfl (Rd.moveT rfl) ?_; refine PL.op rfl (Rd.addM rfl rfl h_41) ?_; refine PL.op rfl (Rd.asnT rfl) ?_; refine PL.nil ?_; obtain rfl := some_in hh1; refine thA_n ?_; exact ⟨(f29, (n40, r37.1)), Nat.lt_succ_self _, kk1, [some 0, some 2], ⟨rfl, rfl, ⟨⟨_, rfl, rfl, rfl, .tr _⟩, ⟨_, rfl, rfl, rfl, .tr _⟩, trivial⟩, ⟨.t _, .t _, .os rfl, .os rfl, .t _, trivial⟩⟩⟩
    refine PC.cond_true rfl (not_f h_39) ?_; refine PC.seq ?_; refine PC.region ?_; (iterate 2 refine PL.op rfl (Rd.asnT rfl) ?_); refine PL.nil ?_; refine thA_n ?_; refine PC.ret ?_; refine inA_r ?_; (iterate 2 refine thA_r ?_); refine inA_r ?_; refine thA_r ?_; obtain rfl := some_in hh1; obtain rfl : (.inr (([] : List I_Value), false) : (List I_Value) ⊕ ((List I_Value) × Bool)) = o27 := kk1; refine thA_r ?_; obtain rfl := some_in hh0; exact FinA.mk (r := .tup [.os 0 0 (((([] : List I_Value), false).1).length), bA ((([] : List I_Value), false).2)]) (bl := [⟨.tr (eL ((([] : List I_Value), false).1)), 39, 3⟩]) [none] (.inl rfl) rfl (rl := [.tmp 10, .tmp 11]) (.tmp (.tmp .nil)) rfl rfl rfl (.tupL ⟨.osn rfl, .t _, trivial⟩) ⟨ow_nil _, trivial⟩ ⟨rfl, rfl⟩
  clear hh0
  rintro v26 hh0
  replace hh0 : m_I_ReadRow_k1 N v26 = some r := hh0
  unfold m_I_ReadRow_k1 at hh0; refine thA_n ?_; refine PC.seq ?_; refine PC.region ?_; refine PL.op rfl (Rd.moveO rfl) ?_; refine PL.op rfl (Rd.asnO rfl) ?_; refine PL.op rfl (Rd.asnT rfl) ?_; refine PL.nil ?_; refine thA_n ?_; refine PC.ret ?_; obtain rfl := some_in hh0; exact FinA.mk (r := .tup [.os 0 0 (((v26, true).1).length), bA ((v26, true).2)]) (bl := [⟨.tr (eL ((v26, true).1)), 39, 3⟩]) [some 0] (.inl rfl) rfl (rl := [.tmp 10, .tmp 11]) (.tmp (.tmp .nil)) rfl rfl rfl (.tupL ⟨.os rfl, .t _, trivial⟩) ⟨⟨_, rfl, rfl, rfl, .tr _⟩, trivial⟩ ⟨rfl, rfl⟩
def m_I_Table_read (N : Nat) (p_t : I_Table) (p_r : I_Tagged) : Option ((List I_Value)) :=
  (m_I_Table_last N p_t).bind fun r1 =>
  (m_I_ReadRow N p_t.first p_t.changes p_r.tag r1 p_r.row).bind fun r3 =>
  some r3.1
theorem w_I_Table_read (N : Nat) (p_t : I_Table) (p_r : I_Tagged) (r : (List I_Value)) (hh0 : m_I_Table_read N p_t p_r = some r) : FnX Tryz.prog 63 [] [.agg [sL p_t.first, sL p_t.changes, sL p_t.rows], .agg [iA p_r.tag, sL p_r.row]] (RE (.os 0 0 r.length) [⟨.tr (eL r), 39, 3⟩]) := by
  unfold m_I_Table_read at hh0; refine FnX.mk Tryz.func63 rfl rfl ?_; intro s hs; refine PC.seq ?_; refine PC.region ?_; refine PL.ef rfl (Ef.box rfl rfl rfl) ?_; refine PL.nm (.op 0 0) [some ⟨.mx [sL p_t.first, sL p_t.changes, sL p_t.rows], 37, 0⟩] rfl rfl ?_; refine PL.ef rfl (Ef.box rfl rfl rfl) ?_; refine PL.nm (.op 1 0) [some ⟨.mx [sL p_t.first, sL p_t.changes, sL p_t.rows], 37, 0⟩, some ⟨.mx [iA p_r.tag, sL p_r.row], 96, 0⟩] rfl rfl ?_; refine PL.op rfl (Rd.asnT rfl) ?_; refine PL.nil ?_; refine thA_n ?_; refine PC.seq ?_; obtain ⟨r1, h_2, hh0⟩ := bind_some hh0; obtain ⟨r3, h_4, hh0⟩ := bind_some hh0; refine PC.any (id := 1) 16 (.seg [0, 1, 2, 3, 4, 5, 8, 9, 6, 7, 10, 11, 12, 13, 14, 15] .done) [] rfl (by kernel_rfl) rfl ?_; refine PT.seg ?_; refine PR.op rfl (Rd.fieldO rfl rfl) ?_; refine PR.op rfl (Rd.loadO rfl rfl rfl) ?_; refine PR.op rfl (Rd.fieldO rfl rfl) ?_; refine PR.op rfl (Rd.loadO rfl rfl rfl) ?_; refine PR.op rfl (Rd.fieldO rfl rfl) ?_; refine PR.op rfl (Rd.loadO rfl rfl rfl) ?_; refine PR.op rfl (Rd.fieldO rfl rfl) ?_; refine PR.op rfl (Rd.loadO rfl rfl rfl) ?_; refine PR.rdE rfl rfl (Rd.loadBox rfl rfl rfl) ?_; refine PR.callM false [] (w_I_Table_last N p_t r1 h_2) rfl Tryz.call62 rfl ⟨.aggL ⟨.t _, .t _, .t _, trivial⟩, trivial⟩ rfl trivial (fun h => by cases h) rfl ?_; refine PR.callM false [] (w_I_ReadRow N p_t.first p_t.changes p_r.tag r1 p_r.row r3 h_4) rfl Tryz.call101 rfl ⟨.t _, .t _, .t _, .t _, .t _, trivial⟩ rfl trivial (fun h => by cases h) rfl ?_; refine PR.nm (.tup [.os 2 0 r3.1.length, bA r3.2]) [some ⟨.mx [sL p_t.first, sL p_t.changes, sL p_t.rows], 37, 0⟩, some ⟨.mx [iA p_r.tag, sL p_r.row], 96, 0⟩, some ⟨.tr (eL r3.1), 39, 3⟩] rfl rfl ?_; refine PR.op rfl (Rd.moveU rfl) ?_; (iterate 2 refine PR.op rfl (Rd.extract rfl rfl) ?_); refine PR.op rfl (Rd.asnO rfl) ?_; refine PR.op rfl (Rd.asnT rfl) ?_; refine PR.nil ?_; refine PT.done ?_; refine PL.nil ?_; refine thA_n ?_; refine PC.seq ?_; refine PC.region ?_; refine PL.op rfl (Rd.moveO rfl) ?_; refine PL.op rfl (Rd.asnO rfl) ?_; refine PL.nil ?_; refine thA_n ?_; refine PC.ret ?_; obtain rfl := some_in hh0; exact FinA.mk (r := .os 0 0 r3.1.length) (bl := [⟨.tr (eL r3.1), 39, 3⟩]) [some 2] (.inl rfl) rfl (rl := [.tmp 4]) (.tmp .nil) rfl rfl rfl (.os rfl) ⟨⟨_, rfl, rfl, rfl, .tr _⟩, trivial⟩ ⟨rfl, rfl⟩
def m_I_TableRows_k1 (N : Nat) (v15 : (List (List I_Value))) : Option ((List (List I_Value))) :=
  some v15
def m_I_TableRows_b1 (N : Nat) (p_t : I_Table) (i4 : Int) (v5 : (List (List I_Value))) : Option ((Int × (List (List I_Value))) ⊕ (List (List I_Value))) :=
  cond (decide (i4 < (p_t.rows.length : Int)))
    ((ixI p_t.rows i4).bind fun x22 =>
    (m_I_Table_read N p_t x22).bind fun r24 =>
    (appM 24 v5 [r24]).bind fun xs26 =>
    (chk (i4 + (1 : Int))).bind fun n28 =>
    some (.inl (n28, xs26)))
    (some (.inr v5))
def m_I_TableRows (N : Nat) (p_t : I_Table) : Option ((List (List I_Value))) :=
  (m_I_ValidTable N p_t).bind fun r1 =>
  cond r1
    ((loopM (β := (List (List I_Value))) (fun s : Int × (List (List I_Value)) => m_I_TableRows_b1 N p_t s.1 s.2) N ((0 : Int), ([] : List (List I_Value)))).bind fun e =>
    m_I_TableRows_k1 N e)
    (some ([] : List (List I_Value)))
theorem w_I_TableRows (N : Nat) (p_t : I_Table) (r : (List (List I_Value))) (hh0 : m_I_TableRows N p_t = some r) : FnX Tryz.prog 83 [] [.agg [sL p_t.first, sL p_t.changes, sL p_t.rows]] (RE (.os 0 0 r.length) [⟨.tr (eL r), 71, 1⟩]) := by
  unfold m_I_TableRows at hh0; refine FnX.mk Tryz.func83 rfl rfl ?_; intro s hs; refine PC.seq ?_; refine PC.region ?_; refine PL.ef rfl (Ef.box rfl rfl rfl) ?_; refine PL.nm (.op 0 0) [some ⟨.mx [sL p_t.first, sL p_t.changes, sL p_t.rows], 37, 0⟩] rfl rfl ?_; refine PL.op rfl (Rd.asnT rfl) ?_; refine PL.nil ?_; refine thA_n ?_; (iterate 2 refine PC.seq ?_); obtain ⟨r1, h_2, hh0⟩ := bind_some hh0; refine PC.region ?_; refine PL.op rfl (Rd.loadBox rfl rfl rfl) ?_; refine PL.callM false [] (w_I_ValidTable N p_t r1 h_2) rfl Tryz.call28 rfl ⟨.aggL ⟨.t _, .t _, .t _, trivial⟩, trivial⟩ rfl trivial (fun h => by cases h) ?_; refine PL.op rfl (Rd.unnot rfl) ?_; refine PL.nil ?_; refine thA_n ?_; rcases cond_some hh0 with ⟨h_3, hh0⟩ | ⟨h_3, hh0⟩; rotate_left
  · refine PC.cond_true rfl (not_f h_3) ?_; refine PC.seq ?_; refine PC.region ?_; refine PL.op rfl (Rd.asnT rfl) ?_; refine PL.nil ?_; refine thA_n ?_; refine PC.ret ?_; refine thA_r ?_; obtain rfl := some_in hh0; exact FinA.mk (r := .os 0 0 0) (bl := [⟨.tr (eL ([] : List (List I_Value))), 71, 1⟩]) [none] (.inl rfl) rfl (rl := [.tmp 2]) (.tmp .nil) rfl rfl rfl (.osn rfl) ⟨ow_nil _, trivial⟩ ⟨rfl, rfl⟩
  refine PC.cond_false rfl (not_t h_3) ?_; refine PC.skip ?_; refine thA_n ?_; refine PC.seq ?_; refine PC.region ?_; refine PL.op rfl (Rd.asnT rfl) ?_; refine PL.nil ?_; refine thA_n ?_; (iterate 2 refine PC.seq ?_); refine PC.region ?_; refine PL.op rfl (Rd.fieldO rfl rfl) ?_; refine PL.op rfl (Rd.loadO rfl rfl rfl) ?_; refine PL.op rfl (Rd.lenT rfl) ?_; refine PL.op rfl (Rd.moveT rfl) ?_; refine PL.nil ?_; refine thA_n ?_; obtain ⟨o16, h_17, hh0⟩ := bind_some hh0; refine PC.cutE hs (fun x : (List (List I_Value)) => [(3, .os 0 0 x.length)]) (fun x => [⟨.tr (eL x), 71, 1⟩]) (fun x => m_I_TableRows_k1 N x = some r) ?_ ?_
  · refine PC.block ?_; refine PC.loop hs (fun x : Nat × (Int × (List (List I_Value))) => [(1, .op 0 0), (3, .os 1 0 x.2.2.length), (10, sL p_t.rows), (11, iA (p_t.rows.length : Int)), (12, iA x.2.1)]) (fun x => [⟨.mx [sL p_t.first, sL p_t.changes, sL p_t.rows], 37, 0⟩, ⟨.tr (eL x.2.2), 71, 1⟩]) (fun x => loopM (β := (List (List I_Value))) (fun s : Int × (List (List I_Value)) => m_I_TableRows_b1 N p_t s.1 s.2) x.1 x.2 = some o16) (fun x => x.1) (N, ((0 : Int), ([] : List (List I_Value)))) [some 0, none] ⟨rfl, rfl, ⟨⟨_, rfl, rfl, rfl, .mx ⟨.t _, .t _, .t _, trivial⟩⟩, ow_nil _, trivial⟩, ⟨.op rfl, .osn rfl, .t _, .t _, .t _, trivial⟩⟩ h_17 ?_
    rintro ⟨f18_, i4, v5⟩ h_20
    obtain ⟨f18, y19, rfl, hh1, kk1⟩ := loopM_some h_20
    replace hh1 : m_I_TableRows_b1 N p_t i4 v5 = some y19 := hh1
    unfold m_I_TableRows_b1 at hh1; refine PC.seq ?_; refine PC.region ?_; refine PL.op rfl (Rd.lss rfl rfl) ?_; refine PL.nil ?_; refine thA_n ?_; refine PC.seq ?_; rcases cond_some hh1 with ⟨h_21, hh1⟩ | ⟨h_21, hh1⟩; rotate_left
    · refine PC.cond_false rfl h_21 ?_; refine PC.exit ?_; (iterate 2 refine thA_e ?_); refine inA_eq rfl ?_; refine thA_n ?_; obtain rfl := some_in hh1; obtain rfl : (v5 : (List (List I_Value))) = o16 := kk1; exact ⟨v5, hh0, [some 1], ⟨rfl, rfl, ⟨⟨_, rfl, rfl, rfl, .tr _⟩, trivial⟩, ⟨.os rfl, trivial⟩⟩⟩
    refine PC.cond_true rfl h_21 ?_; refine PC.skip ?_; refine thA_n ?_; refine PC.seq ?_; refine PC.block ?_; refine PC.seq ?_; obtain ⟨x22, h_23, hh1⟩ := bind_some hh1; refine PC.region ?_; refine PL.op rfl (Rd.ixM rfl rfl h_23) ?_; refine PL.op rfl (Rd.elMR rfl h_23 rfl rfl) ?_; refine PL.ef rfl (Ef.alloc rfl rfl) ?_; refine PL.nm (.op 2 0) [some ⟨.mx [sL p_t.first, sL p_t.changes, sL p_t.rows], 37, 0⟩, some ⟨.tr (eL v5), 71, 1⟩, some ⟨.mx [iA (0 : Int), .t (.v (.slice none 0 0))], 96, 0⟩] rfl rfl ?_; refine PL.store rfl rfl rfl rfl rfl rfl rfl ?_; refine PL.nO [some ⟨.mx [sL p_t.first, sL p_t.changes, sL p_t.rows], 37, 0⟩, some ⟨.tr (eL v5), 71, 1⟩, some ⟨.mx [iA x22.tag, sL x22.row], 96, 0⟩] rfl ?_; refine PL.nil ?_; refine thA_n ?_; obtain ⟨r24, h_25, hh1⟩ := bind_some hh1; obtain ⟨xs26, h_27, hh1⟩ := bind_some hh1; refine PC.region ?_; refine PL.op rfl (Rd.moveO rfl) ?_; (iterate 2 refine PL.op rfl (Rd.loadBox rfl rfl rfl) ?_); refine PL.callM false [] (w_I_Table_read N p_t x22 r24 h_25) rfl Tryz.call63 rfl ⟨.aggL ⟨.t _, .t _, .t _, trivial⟩, .aggL ⟨.t _, .t _, trivial⟩, trivial⟩ rfl trivial (fun h => by cases h) ?_; refine PL.nm (.os 3 0 r24.length) [some ⟨.mx [sL p_t.first, sL p_t.changes, sL p_t.rows], 37, 0⟩, some ⟨.tr (eL v5), 71, 1⟩, some ⟨.mx [iA x22.tag, sL x22.row], 96, 0⟩, some ⟨.tr (eL r24), 39, 3⟩] rfl rfl ?_; refine PL.frz hs 3 4 [(19, sL r24)] [some ⟨.mx [sL p_t.first, sL p_t.changes, sL p_t.rows], 37, 0⟩, some ⟨.tr (eL v5), 71, 1⟩, some ⟨.mx [iA x22.tag, sL x22.row], 96, 0⟩, none] rfl rfl ⟨(.own rfl (by decide) rfl rfl), trivial⟩ ⟨⟨rfl, .inl rfl⟩, ⟨rfl, .inl rfl⟩, ⟨rfl, .inl rfl⟩, trivial⟩ ?_; refine PL.ef rfl (Ef.litM (α := (List I_Value)) [r24] [_] rfl rfl (by decide) rfl rfl rfl rfl) ?_; refine PL.nm (.os 4 0 1) [some ⟨.mx [sL p_t.first, sL p_t.changes, sL p_t.rows], 37, 0⟩, some ⟨.tr (eL v5), 71, 1⟩, some ⟨.mx [iA x22.tag, sL x22.row], 96, 0⟩, none, some ⟨.tr (eL [r24]), 71, 1⟩] rfl rfl ?_; refine PL.apM hs rfl rfl rfl rfl (SrcA.ownE rfl rfl rfl) rfl rfl rfl rfl h_27 ?_; refine PL.nm (.os 5 0 xs26.length) [some ⟨.mx [sL p_t.first, sL p_t.changes, sL p_t.rows], 37, 0⟩, none, some ⟨.mx [iA x22.tag, sL x22.row], 96, 0⟩, none, some ⟨.tr (eL [r24]), 71, 1⟩, some ⟨.tr (eL xs26), 71, 1⟩] rfl rfl ?_; refine PL.op rfl (Rd.asnO rfl) ?_; refine PL.nil ?_; refine inA_n ?_; refine thA_n ?_; obtain ⟨n28, h_29, hh1⟩ := bind_some hh1; refine PC.region ?_; refine PL.op rfl (Rd.addM rfl rfl h_29) ?_; refine PL.op rfl (Rd.moveT rfl) ?_; refine PL.nil ?_; obtain rfl := some_in hh1; refine thA_n ?_; exact ⟨(f18, (n28, xs26)), Nat.lt_succ_self _, kk1, [some 0, some 5], ⟨rfl, rfl, ⟨⟨_, rfl, rfl, rfl, .mx ⟨.t _, .t _, .t _, trivial⟩⟩, ⟨_, rfl, rfl, rfl, .tr _⟩, trivial⟩, ⟨.op rfl, .os rfl, .t _, .t _, .t _, trivial⟩⟩⟩
  clear hh0
  rintro v15 hh0
  replace hh0 : m_I_TableRows_k1 N v15 = some r := hh0
  unfold m_I_TableRows_k1 at hh0; refine thA_n ?_; refine PC.seq ?_; refine PC.region ?_; refine PL.op rfl (Rd.moveO rfl) ?_; refine PL.op rfl (Rd.asnO rfl) ?_; refine PL.nil ?_; refine thA_n ?_; refine PC.ret ?_; obtain rfl := some_in hh0; exact FinA.mk (r := .os 0 0 v15.length) (bl := [⟨.tr (eL v15), 71, 1⟩]) [some 0] (.inl rfl) rfl (rl := [.tmp 2]) (.tmp .nil) rfl rfl rfl (.os rfl) ⟨⟨_, rfl, rfl, rfl, .tr _⟩, trivial⟩ ⟨rfl, rfl⟩
def m_S_move (N : Nat) (p_row : (List I_Value)) (p_c : I_Change) : Option ((List I_Value)) :=
  (V.subM p_row (0 : Int) p_c.at_).bind fun xs1 =>
  (appM 32 ([] : List I_Value) xs1).bind fun xs3 =>
  cond (decide (p_c.kind = (1 : Int)))
    ((appM 32 xs3 [p_c.column.default]).bind fun xs6 =>
    (V.subM p_row p_c.at_ (p_row.length : Int)).bind fun xs8 =>
    (appM 32 xs6 xs8).bind fun xs10 =>
    some xs10)
    (cond (decide (p_c.kind = (3 : Int)))
      ((ixI p_row p_c.at_).bind fun x13 =>
      (m_S_widen N x13).bind fun r15 =>
      (appM 32 xs3 [r15]).bind fun xs17 =>
      (chk (p_c.at_ + (1 : Int))).bind fun n19 =>
      (V.subM p_row n19 (p_row.length : Int)).bind fun xs21 =>
      (appM 32 xs17 xs21).bind fun xs23 =>
      some xs23)
      ((chk (p_c.at_ + (1 : Int))).bind fun n25 =>
      (V.subM p_row n25 (p_row.length : Int)).bind fun xs27 =>
      (appM 32 xs3 xs27).bind fun xs29 =>
      some xs29))
theorem w_S_move (N : Nat) (p_row : (List I_Value)) (p_c : I_Change) (r : (List I_Value)) (hh0 : m_S_move N p_row p_c = some r) : FnX Tryz.prog 112 [] [sL p_row, .agg [iA p_c.kind, iA p_c.at_, iA p_c.column.kind, iA p_c.column.default.kind, iA p_c.column.default.num, sA p_c.column.default.text]] (RE (.os 0 0 r.length) [⟨.tr (eL r), 39, 3⟩]) := by
  unfold m_S_move at hh0; refine FnX.mk Tryz.func112 rfl rfl ?_; intro s hs; refine PC.seq ?_; refine PC.region ?_; refine PL.ef rfl (Ef.box rfl rfl rfl) ?_; refine PL.nm (.op 0 0) [some ⟨.mx [iA p_c.kind, iA p_c.at_, iA p_c.column.kind, iA p_c.column.default.kind, iA p_c.column.default.num, sA p_c.column.default.text], 128, 0⟩] rfl rfl ?_; refine PL.op rfl (Rd.asnT rfl) ?_; refine PL.nil ?_; refine thA_n ?_; refine PC.seq ?_; obtain ⟨xs1, h_2, hh0⟩ := bind_some hh0; obtain ⟨xs3, h_4, hh0⟩ := bind_some hh0; refine PC.region ?_; refine PL.ef rfl (Ef.lit0M I_Value) ?_; refine PL.nm (.os 1 0 0) [some ⟨.mx [iA p_c.kind, iA p_c.at_, iA p_c.column.kind, iA p_c.column.default.kind, iA p_c.column.default.num, sA p_c.column.default.text], 128, 0⟩, some ⟨.tr (eL ([] : List I_Value)), 39, 3⟩] rfl rfl ?_; refine PL.op rfl (Rd.moveT rfl) ?_; refine PL.op rfl (Rd.fieldO rfl rfl) ?_; refine PL.op rfl (Rd.loadO rfl rfl rfl) ?_; refine PL.op rfl (Rd.subTMH rfl rfl h_2) ?_; refine PL.apM hs rfl rfl rfl rfl (SrcA.eL rfl) rfl rfl rfl rfl h_4 ?_; refine PL.nm (.os 2 0 xs3.length) [some ⟨.mx [iA p_c.kind, iA p_c.at_, iA p_c.column.kind, iA p_c.column.default.kind, iA p_c.column.default.num, sA p_c.column.default.text], 128, 0⟩, none, some ⟨.tr (eL xs3), 39, 3⟩] rfl rfl ?_; refine PL.op rfl (Rd.asnO rfl) ?_; refine PL.nil ?_; refine thA_n ?_; (iterate 2 refine PC.seq ?_); refine PC.region ?_; refine PL.op rfl (Rd.fieldO rfl rfl) ?_; refine PL.op rfl (Rd.loadO rfl rfl rfl) ?_; refine PL.nil ?_; refine thA_n ?_; refine PC.block ?_; refine PC.seq ?_; refine PC.region ?_; refine PL.op rfl (Rd.eql rfl rfl) ?_; refine PL.op rfl (Rd.asnT rfl) ?_; refine PL.nil ?_; refine thA_n ?_; rcases cond_some hh0 with ⟨h_5, hh0⟩ | ⟨h_5, hh0⟩
  · refine PC.cond_true rfl h_5 ?_; refine PC.seq ?_; obtain ⟨xs6, h_7, hh0⟩ := bind_some hh0; obtain ⟨xs8, h_9, hh0⟩ := bind_some hh0; obtain ⟨xs10, h_11, hh0⟩ := bind_some hh0; refine PC.any (id := 4) 12 (.seg [0, 1, 2, 3, 6, 7, 8, 9, 4, 5, 10, 11] .done) [2] rfl (by kernel_rfl) rfl ?_; refine PT.seg ?_; refine PR.op rfl (Rd.moveO rfl) ?_; (iterate 2 refine PR.op rfl (Rd.fieldO rfl rfl) ?_); refine PR.op rfl (Rd.loadSub rfl rfl rfl rfl) ?_; refine PR.op rfl (Rd.moveT rfl) ?_; refine PR.op rfl (Rd.fieldO rfl rfl) ?_; refine PR.op rfl (Rd.loadO rfl rfl rfl) ?_; refine PR.op rfl (Rd.subTML rfl rfl h_9) ?_; refine PR.ef rfl rfl (Ef.litM (α := I_Value) [p_c.column.default] [_] rfl rfl (by decide) rfl rfl rfl rfl) ?_; refine PR.nm (.os 3 0 1) [some ⟨.mx [iA p_c.kind, iA p_c.at_, iA p_c.column.kind, iA p_c.column.default.kind, iA p_c.column.default.num, sA p_c.column.default.text], 128, 0⟩, none, some ⟨.tr (eL xs3), 39, 3⟩, some ⟨.tr (eL [p_c.column.default]), 39, 3⟩] rfl rfl ?_; refine PR.apMX hs rfl rfl rfl rfl (SrcA.ownE rfl rfl rfl) rfl rfl rfl rfl rfl h_7 ?_; refine PR.nm (.os 4 0 xs6.length) [some ⟨.mx [iA p_c.kind, iA p_c.at_, iA p_c.column.kind, iA p_c.column.default.kind, iA p_c.column.default.num, sA p_c.column.default.text], 128, 0⟩, none, none, some ⟨.tr (eL [p_c.column.default]), 39, 3⟩, some ⟨.tr (eL xs6), 39, 3⟩] rfl rfl ?_; refine PR.apM hs rfl rfl rfl rfl (SrcA.eL rfl) rfl rfl rfl rfl rfl h_11 ?_; refine PR.nm (.os 5 0 xs10.length) [some ⟨.mx [iA p_c.kind, iA p_c.at_, iA p_c.column.kind, iA p_c.column.default.kind, iA p_c.column.default.num, sA p_c.column.default.text], 128, 0⟩, none, none, some ⟨.tr (eL [p_c.column.default]), 39, 3⟩, none, some ⟨.tr (eL xs10), 39, 3⟩] rfl rfl ?_; refine PR.op rfl (Rd.asnO rfl) ?_; refine PR.nil ?_; refine PT.done ?_; refine PL.nil ?_; refine thA_n ?_; refine PC.ret ?_; refine inA_r ?_; refine thA_r ?_; obtain rfl := some_in hh0; exact FinA.mk (r := .os 0 0 xs10.length) (bl := [⟨.tr (eL xs10), 39, 3⟩]) [some 5] (.inl rfl) rfl (rl := [.tmp 4]) (.tmp .nil) rfl rfl rfl (.os rfl) ⟨⟨_, rfl, rfl, rfl, .tr _⟩, trivial⟩ ⟨rfl, rfl⟩
  refine PC.cond_false rfl h_5 ?_; refine PC.seq ?_; refine PC.region ?_; refine PL.op rfl (Rd.eql rfl rfl) ?_; refine PL.op rfl (Rd.asnT rfl) ?_; refine PL.nil ?_; refine thA_n ?_; rcases cond_some hh0 with ⟨h_12, hh0⟩ | ⟨h_12, hh0⟩; rotate_left
  · refine PC.cond_false rfl h_12 ?_; refine PC.skip ?_; refine inA_n ?_; refine thA_n ?_; refine PC.seq ?_; obtain ⟨n25, h_26, hh0⟩ := bind_some hh0; obtain ⟨xs27, h_28, hh0⟩ := bind_some hh0; obtain ⟨xs29, h_30, hh0⟩ := bind_some hh0; refine PC.region ?_; refine PL.op rfl (Rd.moveO rfl) ?_; refine PL.op rfl (Rd.moveT rfl) ?_; refine PL.op rfl (Rd.fieldO rfl rfl) ?_; refine PL.op rfl (Rd.loadO rfl rfl rfl) ?_; refine PL.op rfl (Rd.addM rfl rfl h_26) ?_; refine PL.op rfl (Rd.subTML rfl rfl h_28) ?_; refine PL.apM hs rfl rfl rfl rfl (SrcA.eL rfl) rfl rfl rfl rfl h_30 ?_; refine PL.nm (.os 3 0 xs29.length) [some ⟨.mx [iA p_c.kind, iA p_c.at_, iA p_c.column.kind, iA p_c.column.default.kind, iA p_c.column.default.num, sA p_c.column.default.text], 128, 0⟩, none, none, some ⟨.tr (eL xs29), 39, 3⟩] rfl rfl ?_; refine PL.op rfl (Rd.asnO rfl) ?_; refine PL.nil ?_; refine thA_n ?_; refine PC.ret ?_; obtain rfl := some_in hh0; exact FinA.mk (r := .os 0 0 xs29.length) (bl := [⟨.tr (eL xs29), 39, 3⟩]) [some 3] (.inl rfl) rfl (rl := [.tmp 4]) (.tmp .nil) rfl rfl rfl (.os rfl) ⟨⟨_, rfl, rfl, rfl, .tr _⟩, trivial⟩ ⟨rfl, rfl⟩
  refine PC.cond_true rfl h_12 ?_; refine PC.seq ?_; obtain ⟨x13, h_14, hh0⟩ := bind_some hh0; obtain ⟨r15, h_16, hh0⟩ := bind_some hh0; obtain ⟨xs17, h_18, hh0⟩ := bind_some hh0; obtain ⟨n19, h_20, hh0⟩ := bind_some hh0; obtain ⟨xs21, h_22, hh0⟩ := bind_some hh0; obtain ⟨xs23, h_24, hh0⟩ := bind_some hh0; refine PC.any (id := 6) 16 (.seg [0, 1, 2, 3, 4, 5, 9, 10, 11, 12, 13, 6, 7, 8, 14, 15] .done) [2] rfl (by kernel_rfl) rfl ?_; refine PT.seg ?_; refine PR.op rfl (Rd.moveO rfl) ?_; refine PR.op rfl (Rd.moveT rfl) ?_; refine PR.op rfl (Rd.fieldO rfl rfl) ?_; refine PR.op rfl (Rd.loadO rfl rfl rfl) ?_; refine PR.op rfl (Rd.ixM rfl rfl h_14) ?_; refine PR.op rfl (Rd.elMR rfl h_14 rfl rfl) ?_; refine PR.op rfl (Rd.moveT rfl) ?_; refine PR.op rfl (Rd.fieldO rfl rfl) ?_; refine PR.op rfl (Rd.loadO rfl rfl rfl) ?_; refine PR.op rfl (Rd.addM rfl rfl h_20) ?_; refine PR.op rfl (Rd.subTML rfl rfl h_22) ?_; refine PR.callM false [] (w_S_widen N x13 r15 h_16) rfl Tryz.call145 rfl ⟨.aggL ⟨.t _, .t _, .t _, trivial⟩, trivial⟩ rfl trivial (fun h => by cases h) rfl ?_; refine PR.ef rfl rfl (Ef.litM (α := I_Value) [r15] [_] rfl rfl (by decide) rfl rfl rfl rfl) ?_; refine PR.nm (.os 3 0 1) [some ⟨.mx [iA p_c.kind, iA p_c.at_, iA p_c.column.kind, iA p_c.column.default.kind, iA p_c.column.default.num, sA p_c.column.default.text], 128, 0⟩, none, some ⟨.tr (eL xs3), 39, 3⟩, some ⟨.tr (eL [r15]), 39, 3⟩] rfl rfl ?_; refine PR.apMX hs rfl rfl rfl rfl (SrcA.ownE rfl rfl rfl) rfl rfl rfl rfl rfl h_18 ?_; refine PR.nm (.os 4 0 xs17.length) [some ⟨.mx [iA p_c.kind, iA p_c.at_, iA p_c.column.kind, iA p_c.column.default.kind, iA p_c.column.default.num, sA p_c.column.default.text], 128, 0⟩, none, none, some ⟨.tr (eL [r15]), 39, 3⟩, some ⟨.tr (eL xs17), 39, 3⟩] rfl rfl ?_; refine PR.apM hs rfl rfl rfl rfl (SrcA.eL rfl) rfl rfl rfl rfl rfl h_24 ?_; refine PR.nm (.os 5 0 xs23.length) [some ⟨.mx [iA p_c.kind, iA p_c.at_, iA p_c.column.kind, iA p_c.column.default.kind, iA p_c.column.default.num, sA p_c.column.default.text], 128, 0⟩, none, none, some ⟨.tr (eL [r15]), 39, 3⟩, none, some ⟨.tr (eL xs23), 39, 3⟩] rfl rfl ?_; refine PR.op rfl (Rd.asnO rfl) ?_; refine PR.nil ?_; refine PT.done ?_; refine PL.nil ?_; refine thA_n ?_; refine PC.ret ?_; refine inA_r ?_; refine thA_r ?_; obtain rfl := some_in hh0; exact FinA.mk (r := .os 0 0 xs23.length) (bl := [⟨.tr (eL xs23), 39, 3⟩]) [some 5] (.inl rfl) rfl (rl := [.tmp 4]) (.tmp .nil) rfl rfl rfl (.os rfl) ⟨⟨_, rfl, rfl, rfl, .tr _⟩, trivial⟩ ⟨rfl, rfl⟩
def m_S_advance_k1 (N : Nat) (v12 : (List I_Value)) : Option ((List I_Value)) :=
  some v12
def m_S_advance_b1 (N : Nat) (p_list : (List I_Change)) (i3 : Int) (v4 : (List I_Value)) : Option ((Int × (List I_Value)) ⊕ (List I_Value)) :=
  cond (decide (i3 < (p_list.length : Int)))
    ((ixI p_list i3).bind fun x19 =>
    (m_S_move N v4 x19).bind fun r21 =>
    (chk (i3 + (1 : Int))).bind fun n23 =>
    some (.inl (n23, r21)))
    (some (.inr v4))
def m_S_advance (N : Nat) (p_row : (List I_Value)) (p_list : (List I_Change)) : Option ((List I_Value)) :=
  (appM 32 ([] : List I_Value) p_row).bind fun xs1 =>
  (loopM (β := (List I_Value)) (fun s : Int × (List I_Value) => m_S_advance_b1 N p_list s.1 s.2) N ((0 : Int), xs1)).bind fun e =>
  m_S_advance_k1 N e
theorem w_S_advance (N : Nat) (p_row : (List I_Value)) (p_list : (List I_Change)) (r : (List I_Value)) (hh0 : m_S_advance N p_row p_list = some r) : FnX Tryz.prog 78 [] [sL p_row, sL p_list] (RE (.os 0 0 r.length) [⟨.tr (eL r), 39, 3⟩]) := by
  unfold m_S_advance at hh0; refine FnX.mk Tryz.func78 rfl rfl ?_; intro s hs; refine PC.seq ?_; refine PC.region ?_; refine PL.op rfl (Rd.asnT rfl) ?_; refine PL.nil ?_; refine thA_n ?_; refine PC.seq ?_; obtain ⟨xs1, h_2, hh0⟩ := bind_some hh0; refine PC.region ?_; refine PL.ef rfl (Ef.lit0M I_Value) ?_; refine PL.nm (.os 0 0 0) [some ⟨.tr (eL ([] : List I_Value)), 39, 3⟩] rfl rfl ?_; refine PL.op rfl (Rd.moveT rfl) ?_; refine PL.apM hs rfl rfl rfl rfl (SrcA.eL rfl) rfl rfl rfl rfl h_2 ?_; refine PL.nm (.os 1 0 xs1.length) [none, some ⟨.tr (eL xs1), 39, 3⟩] rfl rfl ?_; refine PL.op rfl (Rd.asnO rfl) ?_; refine PL.nil ?_; refine thA_n ?_; (iterate 2 refine PC.seq ?_); refine PC.region ?_; refine PL.op rfl (Rd.asnT rfl) ?_; refine PL.nil ?_; refine thA_n ?_; obtain ⟨o13, h_14, hh0⟩ := bind_some hh0; refine PC.cutE hs (fun x : (List I_Value) => [(5, .os 0 0 x.length)]) (fun x => [⟨.tr (eL x), 39, 3⟩]) (fun x => m_S_advance_k1 N x = some r) ?_ ?_
  · refine PC.block ?_; refine PC.loop hs (fun x : Nat × (Int × (List I_Value)) => [(1, sL p_list), (5, .os 0 0 x.2.2.length), (6, iA x.2.1)]) (fun x => [⟨.tr (eL x.2.2), 39, 3⟩]) (fun x => loopM (β := (List I_Value)) (fun s : Int × (List I_Value) => m_S_advance_b1 N p_list s.1 s.2) x.1 x.2 = some o13) (fun x => x.1) (N, ((0 : Int), xs1)) [some 1] ⟨rfl, rfl, ⟨⟨_, rfl, rfl, rfl, .tr _⟩, trivial⟩, ⟨.t _, .os rfl, .t _, trivial⟩⟩ h_14 ?_
    rintro ⟨f15_, i3, v4⟩ h_17
    obtain ⟨f15, y16, rfl, hh1, kk1⟩ := loopM_some h_17
    replace hh1 : m_S_advance_b1 N p_list i3 v4 = some y16 := hh1
    unfold m_S_advance_b1 at hh1; (iterate 2 refine PC.seq ?_); refine PC.region ?_; (iterate 2 refine PL.op rfl (Rd.moveT rfl) ?_); refine PL.op rfl (Rd.lenT rfl) ?_; refine PL.op rfl (Rd.lss rfl rfl) ?_; refine PL.nil ?_; refine thA_n ?_; rcases cond_some hh1 with ⟨h_18, hh1⟩ | ⟨h_18, hh1⟩; rotate_left
    · refine PC.cond_false rfl h_18 ?_; refine PC.exit ?_; (iterate 2 refine thA_e ?_); refine inA_eq rfl ?_; refine thA_n ?_; obtain rfl := some_in hh1; obtain rfl : (v4 : (List I_Value)) = o13 := kk1; exact ⟨v4, hh0, [some 0], ⟨rfl, rfl, ⟨⟨_, rfl, rfl, rfl, .tr _⟩, trivial⟩, ⟨.os rfl, trivial⟩⟩⟩
    refine PC.cond_true rfl h_18 ?_; refine PC.skip ?_; refine thA_n ?_; refine PC.seq ?_; refine PC.block ?_; obtain ⟨x19, h_20, hh1⟩ := bind_some hh1; obtain ⟨r21, h_22, hh1⟩ := bind_some hh1; refine PC.region ?_; refine PL.op rfl (Rd.moveO rfl) ?_; (iterate 2 refine PL.op rfl (Rd.moveT rfl) ?_); refine PL.op rfl (Rd.ixM rfl rfl h_20) ?_; refine PL.op rfl (Rd.elMR rfl h_20 rfl rfl) ?_; refine PL.callM true [] (w_S_move N v4 x19 r21 h_22) rfl Tryz.call112 rfl ⟨.own rfl (by first | decide | exact List.not_mem_nil) rfl rfl, .aggL ⟨.t _, .t _, .t _, .t _, .t _, .t _, trivial⟩, trivial⟩ rfl trivial (fun _ => ⟨trivial, (flat_cons flat_ow flat_nil)⟩) ?_; refine PL.nm (.os 1 0 r21.length) [some ⟨.tr (eL v4), 39, 3⟩, some ⟨.tr (eL r21), 39, 3⟩] rfl rfl ?_; refine PL.op rfl (Rd.asnO rfl) ?_; refine PL.nil ?_; refine inA_n ?_; refine thA_n ?_; obtain ⟨n23, h_24, hh1⟩ := bind_some hh1; refine PC.region ?_; refine PL.op rfl (Rd.moveT rfl) ?_; refine PL.op rfl (Rd.addM rfl rfl h_24) ?_; refine PL.op rfl (Rd.asnT rfl) ?_; refine PL.nil ?_; obtain rfl := some_in hh1; refine thA_n ?_; exact ⟨(f15, (n23, r21)), Nat.lt_succ_self _, kk1, [some 1], ⟨rfl, rfl, ⟨⟨_, rfl, rfl, rfl, .tr _⟩, trivial⟩, ⟨.t _, .os rfl, .t _, trivial⟩⟩⟩
  clear hh0
  rintro v12 hh0
  replace hh0 : m_S_advance_k1 N v12 = some r := hh0
  unfold m_S_advance_k1 at hh0; refine thA_n ?_; refine PC.seq ?_; refine PC.region ?_; refine PL.op rfl (Rd.moveO rfl) ?_; refine PL.op rfl (Rd.asnO rfl) ?_; refine PL.nil ?_; refine thA_n ?_; refine PC.ret ?_; obtain rfl := some_in hh0; exact FinA.mk (r := .os 0 0 v12.length) (bl := [⟨.tr (eL v12), 39, 3⟩]) [some 0] (.inl rfl) rfl (rl := [.tmp 4]) (.tmp .nil) rfl rfl rfl (.os rfl) ⟨⟨_, rfl, rfl, rfl, .tr _⟩, trivial⟩ ⟨rfl, rfl⟩
def m_S_latest_k1 (N : Nat) (v16 : (List (List I_Value))) : Option ((List (List I_Value))) :=
  some v16
def m_S_latest_b1 (N : Nat) (p_t : I_Table) (i1 : Int) (v2 : (List (List I_Value))) : Option ((Int × (List (List I_Value))) ⊕ (List (List I_Value))) :=
  cond (decide (i1 < (p_t.rows.length : Int)))
    ((ixI p_t.rows i1).bind fun x23 =>
    (ixI p_t.rows i1).bind fun x25 =>
    (V.subM p_t.changes x25.tag (p_t.changes.length : Int)).bind fun xs27 =>
    (m_S_advance N x23.row xs27).bind fun r29 =>
    (appM 24 v2 [r29]).bind fun xs31 =>
    (chk (i1 + (1 : Int))).bind fun n33 =>
    some (.inl (n33, xs31)))
    (some (.inr v2))
def m_S_latest (N : Nat) (p_t : I_Table) : Option ((List (List I_Value))) :=
  (loopM (β := (List (List I_Value))) (fun s : Int × (List (List I_Value)) => m_S_latest_b1 N p_t s.1 s.2) N ((0 : Int), ([] : List (List I_Value)))).bind fun e =>
  m_S_latest_k1 N e
theorem w_S_latest (N : Nat) (p_t : I_Table) (r : (List (List I_Value))) (hh0 : m_S_latest N p_t = some r) : FnX Tryz.prog 38 [] [.agg [sL p_t.first, sL p_t.changes, sL p_t.rows]] (RE (.os 0 0 r.length) [⟨.tr (eL r), 71, 1⟩]) := by
  unfold m_S_latest at hh0; refine FnX.mk Tryz.func38 rfl rfl ?_; intro s hs; refine PC.seq ?_; refine PC.region ?_; refine PL.ef rfl (Ef.box rfl rfl rfl) ?_; refine PL.nm (.op 0 0) [some ⟨.mx [sL p_t.first, sL p_t.changes, sL p_t.rows], 37, 0⟩] rfl rfl ?_; refine PL.op rfl (Rd.asnT rfl) ?_; refine PL.nil ?_; refine thA_n ?_; refine PC.seq ?_; refine PC.region ?_; refine PL.ef rfl (Ef.lit0M (List I_Value)) ?_; refine PL.nm (.os 1 0 0) [some ⟨.mx [sL p_t.first, sL p_t.changes, sL p_t.rows], 37, 0⟩, some ⟨.tr (eL ([] : List (List I_Value))), 71, 1⟩] rfl rfl ?_; refine PL.op rfl (Rd.asnO rfl) ?_; refine PL.nil ?_; refine thA_n ?_; (iterate 2 refine PC.seq ?_); refine PC.region ?_; refine PL.op rfl (Rd.asnT rfl) ?_; refine PL.nil ?_; refine thA_n ?_; obtain ⟨o17, h_18, hh0⟩ := bind_some hh0; refine PC.cutE hs (fun x : (List (List I_Value)) => [(3, .os 0 0 x.length)]) (fun x => [⟨.tr (eL x), 71, 1⟩]) (fun x => m_S_latest_k1 N x = some r) ?_ ?_
  · refine PC.block ?_; refine PC.loop hs (fun x : Nat × (Int × (List (List I_Value))) => [(1, .op 0 0), (3, .os 1 0 x.2.2.length), (4, iA x.2.1)]) (fun x => [⟨.mx [sL p_t.first, sL p_t.changes, sL p_t.rows], 37, 0⟩, ⟨.tr (eL x.2.2), 71, 1⟩]) (fun x => loopM (β := (List (List I_Value))) (fun s : Int × (List (List I_Value)) => m_S_latest_b1 N p_t s.1 s.2) x.1 x.2 = some o17) (fun x => x.1) (N, ((0 : Int), ([] : List (List I_Value)))) [some 0, some 1] ⟨rfl, rfl, ⟨⟨_, rfl, rfl, rfl, .mx ⟨.t _, .t _, .t _, trivial⟩⟩, ⟨_, rfl, rfl, rfl, .tr _⟩, trivial⟩, ⟨.op rfl, .os rfl, .t _, trivial⟩⟩ h_18 ?_
    rintro ⟨f19_, i1, v2⟩ h_21
    obtain ⟨f19, y20, rfl, hh1, kk1⟩ := loopM_some h_21
    replace hh1 : m_S_latest_b1 N p_t i1 v2 = some y20 := hh1
    unfold m_S_latest_b1 at hh1; (iterate 2 refine PC.seq ?_); refine PC.region ?_; refine PL.op rfl (Rd.moveT rfl) ?_; refine PL.op rfl (Rd.fieldO rfl rfl) ?_; refine PL.op rfl (Rd.loadO rfl rfl rfl) ?_; refine PL.op rfl (Rd.lenT rfl) ?_; refine PL.op rfl (Rd.lss rfl rfl) ?_; refine PL.nil ?_; refine thA_n ?_; rcases cond_some hh1 with ⟨h_22, hh1⟩ | ⟨h_22, hh1⟩; rotate_left
    · refine PC.cond_false rfl h_22 ?_; refine PC.exit ?_; (iterate 2 refine thA_e ?_); refine inA_eq rfl ?_; refine thA_n ?_; obtain rfl := some_in hh1; obtain rfl : (v2 : (List (List I_Value))) = o17 := kk1; exact ⟨v2, hh0, [some 1], ⟨rfl, rfl, ⟨⟨_, rfl, rfl, rfl, .tr _⟩, trivial⟩, ⟨.os rfl, trivial⟩⟩⟩
    refine PC.cond_true rfl h_22 ?_; refine PC.skip ?_; refine thA_n ?_; refine PC.seq ?_; refine PC.block ?_; obtain ⟨x23, h_24, hh1⟩ := bind_some hh1; obtain ⟨x25, h_26, hh1⟩ := bind_some hh1; obtain ⟨xs27, h_28, hh1⟩ := bind_some hh1; obtain ⟨r29, h_30, hh1⟩ := bind_some hh1; obtain ⟨xs31, h_32, hh1⟩ := bind_some hh1; refine PC.any (id := 5) 18 (.seg [0, 1, 2, 3, 4, 5, 6, 7, 8, 9, 10, 11, 12, 13, 14, 15, 16, 17] .done) [] rfl (by kernel_rfl) rfl ?_; refine PT.seg ?_; refine PR.op rfl (Rd.moveO rfl) ?_; refine PR.op rfl (Rd.fieldO rfl rfl) ?_; refine PR.op rfl (Rd.loadO rfl rfl rfl) ?_; refine PR.op rfl (Rd.moveT rfl) ?_; refine PR.op rfl (Rd.ixM rfl rfl h_24) ?_; refine PR.op rfl (Rd.fieldT rfl) ?_; refine PR.op rfl (Rd.elMF (f := 1) rfl h_24 rfl rfl) ?_; refine PR.op rfl (Rd.fieldO rfl rfl) ?_; refine PR.op rfl (Rd.loadO rfl rfl rfl) ?_; refine PR.op rfl (Rd.fieldO rfl rfl) ?_; refine PR.op rfl (Rd.loadO rfl rfl rfl) ?_; refine PR.op rfl (Rd.moveT rfl) ?_; refine PR.op rfl (Rd.ixM rfl rfl h_26) ?_; refine PR.op rfl (Rd.fieldT rfl) ?_; refine PR.op rfl (Rd.elMF (f := 0) rfl h_26 rfl rfl) ?_; refine PR.op rfl (Rd.subTML rfl rfl h_28) ?_; refine PR.callM false [] (w_S_advance N x23.row xs27 r29 h_30) rfl Tryz.call78 rfl ⟨.t _, .t _, trivial⟩ rfl trivial (fun h => by cases h) rfl ?_; refine PR.nm (.os 2 0 r29.length) [some ⟨.mx [sL p_t.first, sL p_t.changes, sL p_t.rows], 37, 0⟩, some ⟨.tr (eL v2), 71, 1⟩, some ⟨.tr (eL r29), 39, 3⟩] rfl rfl ?_; refine PR.frz hs 2 3 [(29, sL r29)] [some ⟨.mx [sL p_t.first, sL p_t.changes, sL p_t.rows], 37, 0⟩, some ⟨.tr (eL v2), 71, 1⟩, none] rfl rfl rfl ⟨(.own rfl (by decide) rfl rfl), trivial⟩ ⟨⟨rfl, .inl rfl⟩, ⟨rfl, .inl rfl⟩, trivial⟩ ?_; refine PR.ef rfl rfl (Ef.litM (α := (List I_Value)) [r29] [_] rfl rfl (by decide) rfl rfl rfl rfl) ?_; refine PR.nm (.os 3 0 1) [some ⟨.mx [sL p_t.first, sL p_t.changes, sL p_t.rows], 37, 0⟩, some ⟨.tr (eL v2), 71, 1⟩, none, some ⟨.tr (eL [r29]), 71, 1⟩] rfl rfl ?_; refine PR.nil ?_; refine PT.done ?_; refine PL.apM hs rfl rfl rfl rfl (SrcA.ownE rfl rfl rfl) rfl rfl rfl rfl h_32 ?_; refine PL.nm (.os 4 0 xs31.length) [some ⟨.mx [sL p_t.first, sL p_t.changes, sL p_t.rows], 37, 0⟩, none, none, some ⟨.tr (eL [r29]), 71, 1⟩, some ⟨.tr (eL xs31), 71, 1⟩] rfl rfl ?_; refine PL.op rfl (Rd.asnO rfl) ?_; refine PL.nil ?_; refine inA_n ?_; refine thA_n ?_; obtain ⟨n33, h_34, hh1⟩ := bind_some hh1; refine PC.region ?_; refine PL.op rfl (Rd.moveT rfl) ?_; refine PL.op rfl (Rd.addM rfl rfl h_34) ?_; refine PL.op rfl (Rd.asnT rfl) ?_; refine PL.nil ?_; obtain rfl := some_in hh1; refine thA_n ?_; exact ⟨(f19, (n33, xs31)), Nat.lt_succ_self _, kk1, [some 0, some 4], ⟨rfl, rfl, ⟨⟨_, rfl, rfl, rfl, .mx ⟨.t _, .t _, .t _, trivial⟩⟩, ⟨_, rfl, rfl, rfl, .tr _⟩, trivial⟩, ⟨.op rfl, .os rfl, .t _, trivial⟩⟩⟩
  clear hh0
  rintro v16 hh0
  replace hh0 : m_S_latest_k1 N v16 = some r := hh0
  unfold m_S_latest_k1 at hh0; refine thA_n ?_; refine PC.seq ?_; refine PC.region ?_; refine PL.op rfl (Rd.moveO rfl) ?_; refine PL.op rfl (Rd.asnO rfl) ?_; refine PL.nil ?_; refine thA_n ?_; refine PC.ret ?_; obtain rfl := some_in hh0; exact FinA.mk (r := .os 0 0 v16.length) (bl := [⟨.tr (eL v16), 71, 1⟩]) [some 0] (.inl rfl) rfl (rl := [.tmp 2]) (.tmp .nil) rfl rfl rfl (.os rfl) ⟨⟨_, rfl, rfl, rfl, .tr _⟩, trivial⟩ ⟨rfl, rfl⟩
end V
end Go.Proofs.YtkjnnifnmoekjaaGreatDoor
namespace Go.Proofs.YtkjnnifnmoekjaaGreatDoor
namespace V
set_option linter.unusedVariables false
set_option linter.unusedSimpArgs false
set_option maxHeartbeats 1000000
/-- Format i of a chain. -/
def fA (f : List I_Column) (l : List I_Change) (i : Nat) : List I_Column := (l.take i).foldl chF f
theorem fA_succ (f : List I_Column) {l : List I_Change} {i : Nat} (h : i < l.length) : fA f l (i + 1) = chF (fA f l i) l[i] := by
  unfold fA; rw [take_succ1 h, List.foldl_append]; rfl
/-- All changes are possible. -/
def gC (f : List I_Column) (l : List I_Change) : Prop := ∀ i (h : i < l.length), poss (fA f l i) l[i]
noncomputable instance (f : List I_Column) (l : List I_Change) : Decidable (gC f l) := Classical.propDecidable _
/-- A chain of formats. -/
def cO (f : List I_Column) (l : List I_Change) : Prop := vF f ∧ l.length ≤ 8 ∧ gC f l
noncomputable instance (f : List I_Column) (l : List I_Change) : Decidable (cO f l) := Classical.propDecidable _
/-- The formats of a chain. -/
def chs (f : List I_Column) (l : List I_Change) : List (List I_Column) := (List.range (l.length + 1)).map (fA f l)
theorem chs_len (f : List I_Column) (l : List I_Change) : (chs f l).length = l.length + 1 := by unfold chs; simp
theorem chs_get {f : List I_Column} {l : List I_Change} {i : Nat} (h : i < (chs f l).length) : (chs f l)[i] = fA f l i := by show ((List.range (l.length + 1)).map (fA f l))[i]'(by simpa [chs] using h) = _; simp
theorem chs_ix {f : List I_Column} {l : List I_Change} {i : Int} {n : Nat} (h : i = n) (hn : n ≤ l.length) : ixI (chs f l) i = some (fA f l n) := by
  rw [ixI_eq h (by rw [chs_len]; omega), chs_get]
/-- Texts of changes are not too long. -/
def bCs (l : List I_Change) : Prop := l.length ≤ 5000000 ∧ ∀ c ∈ l, c.column.default.text.size ≤ 5000000
/-- A row that is valid. -/
def vRow (r : List I_Value) : Prop := r.length ≤ 5 ∧ ∀ i (h : i < r.length), vV r[i]
noncomputable instance (r : List I_Value) : Decidable (vRow r) := Classical.propDecidable _
/-- A row is not too large. -/
def bR (r : List I_Value) : Prop := r.length ≤ 5000000 ∧ ∀ v ∈ r, v.text.size ≤ 5000000
theorem fit_bR {f : List I_Column} {r : List I_Value} (h : fitP f r) (hl : f.length ≤ 5000000) : bR r := ⟨by have := h.1; omega, fun v hv => by
  obtain ⟨i, hi, rfl⟩ := List.mem_iff_getElem.1 hv
  have := vV_size (h.2 i hi (by have := h.1; omega)).1; omega⟩
theorem len_chF {f : List I_Column} {c : I_Change} (h : f.length ≤ 5000000) (hp : poss f c) : (chF f c).length ≤ 5000000 := by
  unfold chF
  split
  · rcases hp with e | e | ⟨e1, e2, e3, e4⟩
    · rw [List.length_insertIdx]; split <;> omega
    · omega
    · omega
  · split
    · rw [List.length_eraseIdx]; split <;> omega
    · rw [List.length_modify]; exact h
theorem vF_fA {f : List I_Column} {l : List I_Change} (h : vF f) : ∀ (i : Nat), i ≤ l.length → (∀ k (h : k < l.length), k < i → poss (fA f l k) l[k]) → vF (fA f l i)
  | 0, _, _ => h
  | i + 1, hi, hg => by
    rw [fA_succ f (by omega)]
    exact vF_chF (vF_fA h i (by omega) fun k hk hki => hg k hk (by omega)) (hg i (by omega) (by omega))
theorem bN_fA {f : List I_Column} {l : List I_Change} (h : bN f) (hl : f.length ≤ 5000000) : ∀ (i : Nat), i ≤ l.length → (∀ k (h : k < l.length), k < i → poss (fA f l k) l[k]) → bN (fA f l i) ∧ (fA f l i).length ≤ 5000000
  | 0, _, _ => ⟨h, hl⟩
  | i + 1, hi, hg => by
    rw [fA_succ f (by omega)]
    have h1 := bN_fA h hl i (by omega) fun k hk hki => hg k hk (by omega)
    have h2 := hg i (by omega) (by omega)
    exact ⟨bN_chF h1.1 h2, len_chF h1.2 h2⟩
theorem cO_fA {f : List I_Column} {l : List I_Change} (h : cO f l) {i : Nat} (hi : i ≤ l.length) : vF (fA f l i) := vF_fA h.1 i hi fun k hk _ => h.2.2 k hk
theorem ext_fA {f : List I_Column} {l : List I_Change} {i : Nat} (h : i < l.length) : (List.range (i + 1 + 1)).map (fA f l) = (List.range (i + 1)).map (fA f l) ++ [chF (fA f l i) l[i]] := by
  rw [List.range_succ (n := i + 1), List.map_append, ← fA_succ f h]; rfl
theorem rng_ix {f : List I_Column} {l : List I_Change} {i m : Nat} (h : i ≤ m) : ixI ((List.range (m + 1)).map (fA f l)) (i : Int) = some (fA f l i) := by
  rw [ixI_nat (by simp; omega)]; simp
/-- A row moved from format a to format i. -/
def mA (r : List I_Value) (l : List I_Change) (a i : Nat) : List I_Value := ((l.take i).drop a).foldl mv r
theorem mA_self (r : List I_Value) (l : List I_Change) (a : Nat) : mA r l a a = r := by
  unfold mA; rw [List.drop_eq_nil_of_le (by rw [List.length_take]; omega)]; rfl
theorem mA_succ (r : List I_Value) {l : List I_Change} {a i : Nat} (ha : a ≤ i) (h : i < l.length) : mA r l a (i + 1) = mv (mA r l a i) l[i] := by
  unfold mA; rw [take_succ1 h, List.drop_append_of_le_length (by rw [List.length_take]; omega), List.foldl_append]; rfl
theorem fit_mA {f : List I_Column} {l : List I_Change} {r : List I_Value} {a : Nat} (hg : gC f l) (h : fitP (fA f l a) r) : ∀ (i : Nat), a ≤ i → i ≤ l.length → fitP (fA f l i) (mA r l a i)
  | i, ha, hi => by
    rcases Nat.lt_or_eq_of_le ha with hlt | rfl
    · obtain ⟨i, rfl⟩ : ∃ j, i = j + 1 := ⟨i - 1, by omega⟩
      rw [fA_succ f (by omega), mA_succ r (by omega) (by omega)]
      exact fit_mv (fit_mA hg h i (by omega) (by omega)) (hg i (by omega))
    · rw [mA_self]; exact h
section
variable {N : Nat} (hN : 100000000 ≤ N)
include hN
omit hN in
theorem copyS {g : List I_Column} (hg : g.length ≤ 5000000) : m_S_copyColumns N g = some g := by
  unfold m_S_copyColumns
  rw [appM0 (by omega)]; rfl
theorem formatsS {f : List I_Column} {l : List I_Change} (hl : f.length ≤ 5000000) (hb : bN f) (hc : bCs l) : m_S_formats N f l = some (if gC f l then (chs f l, true) else ([], false)) := by
  have hcl := hc.1
  refine ok.val ?_
  unfold m_S_formats
  refine ok.eq (copyS hl) (ok.call (P := fun o => (o = .inl (chs f l) ∧ gC f l) ∨ (o = .inr ([], false) ∧ ¬ gC f l)) (ok.each l.length (fun i s => s = ((i : Int), (List.range (i + 1)).map (fA f l)) ∧ ∀ k (h : k < l.length), k < i → poss (fA f l k) l[k]) _ ?_ ?_ N 0 _ (Nat.zero_le _) ⟨rfl, fun k h hk => by omega⟩ (by omega)) ?_)
  · rintro i s hi ⟨rfl, hg⟩
    have hf := bN_fA hb hl i (by omega) hg
    show ok (m_S_formats_b1 N l (i : Int) _) _
    unfold m_S_formats_b1
    refine ok.ift (by omega) (ok.eq (rng_ix (Nat.le_refl _)) (ok.eq (ixI_nat hi) (ok.eq (chFS hN hf.2 hf.1 (hc.2 _ (List.getElem_mem _))) ?_)))
    by_cases hp : poss (fA f l i) l[i]
    · rw [if_pos hp]
      refine ok.bt rfl (ok.app (by simp; omega) (ok.chk (by omega) (ok.some ⟨?_, fun k hk hki => ?_⟩)))
      · rw [ext_fA hi]; simp
      · rcases Nat.lt_succ_iff_lt_or_eq.1 hki with h | rfl
        · exact hg k hk h
        · exact hp
    · rw [if_neg hp]
      exact ok.bf rfl (ok.some (.inr ⟨rfl, fun h => hp (h i hi)⟩))
  · rintro s ⟨rfl, hg⟩
    show ok (m_S_formats_b1 N l _ _) _
    unfold m_S_formats_b1
    exact ok.iff (by omega) (ok.some (.inl ⟨rfl, fun k hk => hg k hk hk⟩))
  · rintro o (⟨rfl, h⟩ | ⟨rfl, h⟩)
    · rw [if_pos h]; exact ok.some rfl
    · rw [if_neg h]; exact ok.some rfl
theorem chainI {f : List I_Column} {l : List I_Change} (hb : bS f) (hc : bCs l) : m_I_ChainOf N f l = some (if cO f l then (chs f l, true) else ([], false)) := by
  have hcl := hc.1
  have hl := hb.1
  refine ok.val ?_
  unfold m_I_ChainOf
  refine ok.eq (vFI hN hb) (ok.ite (fun hv => ok.ite (fun h8 => ok.some ?_) fun h8 => ?_) fun hv => ok.some ?_)
  · rw [if_neg fun e : cO f l => by have := e.2.1; omega]
  · refine ok.eq (show m_slices_Clone_I_Column N f = some f from appM0 (by omega)) (ok.call (P := fun o => (o = .inl (chs f l) ∧ gC f l) ∨ (o = .inr ([], false) ∧ ¬ gC f l)) (ok.each l.length (fun i s => s = ((i : Int), (List.range (i + 1)).map (fA f l)) ∧ ∀ k (h : k < l.length), k < i → poss (fA f l k) l[k]) _ ?_ ?_ N 0 _ (Nat.zero_le _) ⟨rfl, fun k h hk => by omega⟩ (by omega)) ?_)
    · rintro i s hi ⟨rfl, hg⟩
      have hf := vF_fA hv i (by omega) hg
      show ok (m_I_ChainOf_b1 N l (i : Int) _) _
      unfold m_I_ChainOf_b1
      refine ok.ift (by omega) (ok.eq (ixI_nat hi) (ok.eq (rng_ix (Nat.le_refl _)) (ok.eq (chFI hN (vF_bS hf) (hc.2 _ (List.getElem_mem _))) ?_)))
      by_cases hp : poss (fA f l i) l[i]
      · rw [if_pos ⟨hf, hp⟩]
        refine ok.bt rfl (ok.app (by simp; omega) (ok.chk (by omega) (ok.some ⟨?_, fun k hk hki => ?_⟩)))
        · rw [ext_fA hi]; simp
        · rcases Nat.lt_succ_iff_lt_or_eq.1 hki with h | rfl
          · exact hg k hk h
          · exact hp
      · rw [if_neg fun e => hp e.2]
        exact ok.bf rfl (ok.some (.inr ⟨rfl, fun h => hp (h i hi)⟩))
    · rintro s ⟨rfl, hg⟩
      show ok (m_I_ChainOf_b1 N l _ _) _
      unfold m_I_ChainOf_b1
      exact ok.iff (by omega) (ok.some (.inl ⟨rfl, fun k hk => hg k hk hk⟩))
    · rintro o (⟨rfl, h⟩ | ⟨rfl, h⟩)
      · rw [if_pos (show cO f l from ⟨hv, by omega, h⟩)]; exact ok.some rfl
      · rw [if_neg fun e : cO f l => h e.2.2]; exact ok.some rfl
  · rw [if_neg fun e : cO f l => hv e.1]
theorem vchainS {f : List I_Column} {l : List I_Change} (hb : bS f) (hc : bCs l) : m_S_validChain N f l = some (decide (cO f l)) := by
  refine bool_eq ?_
  unfold m_S_validChain
  refine ok.eq (vFS hN hb) (ok.ite (fun hv => ok.ite (fun h8 => ok.some ?_) fun h8 => ok.eq (formatsS hN hb.1 (vF_bN hv) hc) (ok.some ?_)) fun hv => ok.some ?_)
  · exact ⟨fun e => (by cases e), fun e => by have := e.2.1; omega⟩
  · by_cases hg : gC f l
    · rw [if_pos hg]; exact ⟨fun _ => ⟨hv, by omega, hg⟩, fun _ => rfl⟩
    · rw [if_neg hg]; exact ⟨fun e => (by cases e), fun e => (hg e.2.2).elim⟩
  · exact ⟨fun e => (by cases e), fun e => (hv e.1).elim⟩
theorem fitI {f : List I_Column} {r : List I_Value} (hb : bS f) (hr : bR r) : m_I_RowFits N f r = some (decide (vF f ∧ fitP f r)) := by
  have hrl := hr.1
  refine bool_eq ?_
  unfold m_I_RowFits fitP
  refine ok.eq (vFI hN hb) (ok.ite (fun hv => ok.ite (fun hl => ?_) fun hl => ok.some ⟨fun e => (by cases e), fun e => by have := e.2.1; omega⟩) fun hv => ok.some ⟨fun e => (by cases e), fun e => (hv e.1).elim⟩)
  refine ok.call (all_ok (n := r.length) 0 (fun i => ∀ (h : i < r.length) (h' : i < f.length), vV r[i] ∧ (r[i].kind = 0 ∨ r[i].kind = f[i].kind)) (by omega) (fun i hi _ => ?_) ?_) ?_
  · rw [Int.add_zero]
    have hi' : i < f.length := by omega
    show ok (m_I_RowFits_b1 N f r (i : Int)) _
    unfold m_I_RowFits_b1
    refine ok.ift (by omega) (ok.eq (ixI_nat hi) (ok.eq (vVI hN (hr.2 _ (List.getElem_mem _))) (ok.ite (fun hc => ok.ite (fun k0 => ok.chk (by omega) (ok.some (.inl ⟨rfl, fun _ _ => ⟨hc, .inl k0⟩⟩))) fun k0 => ok.eq (ixI_nat hi') (ok.ite (fun k1 => ok.chk (by omega) (ok.some (.inl ⟨rfl, fun _ _ => ⟨hc, .inr k1⟩⟩))) fun k1 => ok.some (.inr ⟨rfl, fun e => ?_⟩))) fun hc => ok.some (.inr ⟨rfl, fun e => hc (e hi hi').1⟩))))
    rcases (e hi hi').2 with e | e
    · exact k0 e
    · exact k1 e
  · rw [Int.add_zero]
    show m_I_RowFits_b1 N f r _ = _
    unfold m_I_RowFits_b1
    rw [decide_eq_false (by omega)]; rfl
  · rintro o (⟨rfl, hh⟩ | ⟨rfl, hh⟩)
    · exact ok.some ⟨fun _ => ⟨hv, by omega, fun i hi => hh i hi hi⟩, fun _ => rfl⟩
    · exact ok.some ⟨fun e => (by cases e), fun e => (hh fun k hk h => e.2.2 k h).elim⟩
theorem vrowS {r : List I_Value} (hr : bR r) : m_S_validRow N r = some (decide (vRow r)) := by
  have hrl := hr.1
  refine bool_eq ?_
  unfold m_S_validRow vRow
  refine ok.call (all_ok (n := r.length) 0 (fun i => ∀ (h : i < r.length), vV r[i]) (by omega) (fun i hi _ => ?_) ?_) ?_
  · rw [Int.add_zero]
    show ok (m_S_validRow_b1 N r (i : Int)) _
    unfold m_S_validRow_b1
    refine ok.ift (by omega) (ok.eq (ixI_nat hi) (ok.eq (vVS hN (hr.2 _ (List.getElem_mem _))) (ok.ite (fun hc => ok.chk (by omega) (ok.some (.inl ⟨rfl, fun _ => hc⟩))) fun hc => ok.some (.inr ⟨rfl, fun e => hc (e hi)⟩))))
  · rw [Int.add_zero]
    show m_S_validRow_b1 N r _ = _
    unfold m_S_validRow_b1
    rw [decide_eq_false (by omega)]; rfl
  · rintro o (⟨rfl, hh⟩ | ⟨rfl, hh⟩)
    · refine ok.some ?_
      rw [decide_eq_true_eq]
      exact ⟨fun e => ⟨by omega, fun i hi => hh i hi hi⟩, fun e => by have := e.1; omega⟩
    · exact ok.some ⟨fun e => (by cases e), fun e => (hh fun k hk h => e.2 k h).elim⟩
theorem fitS {f : List I_Column} {r : List I_Value} (hr : bR r) (hf : f.length ≤ 5) : m_S_fits N f r = some (decide (fitP f r)) := by
  have hrl := hr.1
  refine bool_eq ?_
  unfold m_S_fits
  refine ok.ite (fun hl => ?_) fun hl => ok.some ⟨fun e => (by cases e), fun e => by have := e.1; omega⟩
  refine ok.eq (vrowS hN hr) (ok.ite (fun hv => ?_) fun hv => ok.some ⟨fun e => (by cases e), fun e => (hv ⟨by omega, fun i hi => (e.2 i hi (by omega)).1⟩).elim⟩)
  unfold fitP
  refine ok.call (all_ok (n := r.length) 0 (fun i => ∀ (h : i < r.length) (h' : i < f.length), vV r[i] ∧ (r[i].kind = 0 ∨ r[i].kind = f[i].kind)) (by omega) (fun i hi _ => ?_) ?_) ?_
  · rw [Int.add_zero]
    have hi' : i < f.length := by omega
    have hc := hv.2 i hi
    show ok (m_S_fits_b1 N f r (i : Int)) _
    unfold m_S_fits_b1
    refine ok.ift (by omega) (ok.eq (ixI_nat hi) (ok.ite (fun k0 => ok.chk (by omega) (ok.some (.inl ⟨rfl, fun _ _ => ⟨hc, .inl k0⟩⟩))) fun k0 => ok.eq (ixI_nat hi) (ok.eq (ixI_nat hi') (ok.ite (fun k1 => ok.chk (by omega) (ok.some (.inl ⟨rfl, fun _ _ => ⟨hc, .inr k1⟩⟩))) fun k1 => ok.some (.inr ⟨rfl, fun e => ?_⟩)))))
    rcases (e hi hi').2 with e | e
    · exact k0 e
    · exact k1 e
  · rw [Int.add_zero]
    show m_S_fits_b1 N f r _ = _
    unfold m_S_fits_b1
    rw [decide_eq_false (by omega)]; rfl
  · rintro o (⟨rfl, hh⟩ | ⟨rfl, hh⟩)
    · exact ok.some ⟨fun _ => ⟨by omega, fun i hi => hh i hi hi⟩, fun _ => rfl⟩
    · exact ok.some ⟨fun e => (by cases e), fun e => (hh fun k hk h => e.2 k h).elim⟩
theorem chrowI {f : List I_Column} {r : List I_Value} {c : I_Change} (hv : vF f) (hf : fitP f r) (hp : poss f c) (hc : c.column.default.text.size ≤ 5000000) : m_I_ChangeRow N f r c = some (mv r c, true) := by
  have hl := hv.1
  have hrl := hf.1
  refine ok.val ?_
  unfold m_I_ChangeRow
  refine ok.eq (fitI hN (vF_bS hv) (fit_bR hf (by omega))) (ok.ift ⟨hv, hf⟩ (ok.eq (possI hN hc) (ok.ift hp (ok.eq (show m_slices_Clone_I_Value N r = some r from appM0 (by omega)) ?_))))
  unfold mv
  rcases hp with ⟨k, h1, h2, h3, h4⟩ | ⟨k, h1, h2, h3⟩ | ⟨k, h1, h2, h3⟩
  · refine ok.ift k (ok.eq (insM_eq ⟨h1, by omega⟩ (by omega)) (ok.some ?_))
    rw [if_pos k]
  · refine ok.iff (by omega) (ok.ift k (ok.chk (by omega) (ok.eq (delM_eq ⟨h1, by omega⟩) (ok.some ?_))))
    rw [if_neg (by omega), if_pos k]
  · have h2' : c.at_.toNat < r.length := by omega
    refine ok.iff (by omega) (ok.iff (by omega) (ok.eq (ixI_eq (n := c.at_.toNat) (by omega) h2') (ok.eq (widI hN (hf.2 _ h2' h2).1) (ok.some ?_))))
    rw [if_neg (by omega), if_neg (by omega), mod_eq h2']
theorem moveS {f : List I_Column} {r : List I_Value} {c : I_Change} (hv : vF f) (hf : fitP f r) (hp : poss f c) : m_S_move N r c = some (mv r c) := by
  have hl := hv.1
  have hrl := hf.1
  have hat := poss_at hp
  refine ok.val ?_
  unfold m_S_move
  refine ok.eq (subM_eq (by omega)) (ok.eq (appM0 (by simp; omega)) ?_)
  unfold mv
  rcases hp with ⟨k, h1, h2, h3, h4⟩ | ⟨k, h1, h2, h3⟩ | ⟨k, h1, h2, h3⟩
  · refine ok.ift k (ok.app (by simp; omega) (ok.eq (subM_eq (by omega)) (ok.app (by simp; omega) (ok.some ?_))))
    rw [if_pos k, ← ins_eq (by omega)]
    simp only [Int.toNat_zero, List.drop_zero, Nat.sub_zero, List.append_assoc, List.singleton_append]
    congr 2
    exact List.take_of_length_le (by simp)
  · refine ok.iff (by omega) (ok.iff (by omega) (ok.chk (by omega) (ok.eq (subM_eq (by omega)) (ok.app (by simp; omega) (ok.some ?_)))))
    rw [if_neg (by omega), if_pos k, List.eraseIdx_eq_take_drop_succ]
    have e : (c.at_ + 1).toNat = c.at_.toNat + 1 := by omega
    simp only [Int.toNat_zero, List.drop_zero, Nat.sub_zero, e]
    congr 1
    exact List.take_of_length_le (by simp)
  · have h2' : c.at_.toNat < r.length := by omega
    have hn := vV_num (hf.2 _ h2' h2).1
    refine ok.iff (by omega) (ok.ift k (ok.eq (ixI_eq (n := c.at_.toNat) (by omega) h2') (ok.eq (widS hN (by omega)) (ok.app (by simp; omega) (ok.chk (by omega) (ok.eq (subM_eq (by omega)) (ok.app (by simp; omega) (ok.some ?_))))))))
    rw [if_neg (by omega), if_neg (by omega), List.modify_eq_take_cons_drop h2']
    have e : (c.at_ + 1).toNat = c.at_.toNat + 1 := by omega
    simp only [Int.toNat_zero, List.drop_zero, Nat.sub_zero, e, List.append_assoc, List.singleton_append]
    congr 2
    exact List.take_of_length_le (by simp)
theorem readI {f : List I_Column} {l : List I_Change} {r : List I_Value} {a : Int} {n : Nat} (ho : cO f l) (hc : bCs l) (ha : a = n) (hn : n ≤ l.length) (hf : fitP (fA f l n) r) : m_I_ReadRow N f l a (l.length : Int) r = some (mA r l n l.length, true) := by
  subst ha
  have hcl := hc.1
  have hvn := cO_fA ho hn
  have hrl := hf.1
  have hvl := hvn.1
  refine ok.val ?_
  unfold m_I_ReadRow
  refine ok.eq (chainI hN (vF_bS ho.1) hc) ?_
  rw [if_pos ho]
  have hlen := chs_len f l
  refine ok.bt rfl (ok.iff (by omega) (ok.iff (by omega) (ok.iff (by dsimp only; omega) (ok.eq (chs_ix rfl hn) (ok.eq (fitI hN (vF_bS hvn) (fit_bR hf (by omega))) (ok.ift ⟨hvn, hf⟩ (ok.eq (show m_slices_Clone_I_Value N r = some r from appM0 (by omega)) ?_)))))))
  refine ok.call (P := fun o => o = .inl (mA r l n l.length)) (ok.each (l.length - n) (fun i s => s = (((n + i : Nat) : Int), mA r l n (n + i))) _ ?_ ?_ N 0 _ (Nat.zero_le _) (by rw [Nat.add_zero, mA_self]) (by omega)) ?_
  · rintro i s hi rfl
    show ok (m_I_ReadRow_b1 N l _ _ _ _) _
    unfold m_I_ReadRow_b1
    refine ok.ift (by omega) (ok.eq (chs_ix rfl (by omega)) (ok.eq (ixI_nat (by omega)) (ok.eq (chrowI hN (cO_fA ho (by omega)) (fit_mA ho.2.2 hf _ (by omega) (by omega)) (ho.2.2 (n + i) (by omega)) (hc.2 _ (List.getElem_mem _))) (ok.bt rfl (ok.chk (by omega) (ok.some ?_))))))
    rw [show n + (i + 1) = n + i + 1 from rfl, mA_succ r (by omega) (by omega)]; simp
  · rintro s rfl
    show ok (m_I_ReadRow_b1 N l _ _ _ _) _
    unfold m_I_ReadRow_b1
    refine ok.iff (by omega) (ok.some ?_)
    rw [show n + (l.length - n) = l.length by omega]
  · rintro o rfl
    exact ok.some rfl
theorem advS {f : List I_Column} {l : List I_Change} {r : List I_Value} {n : Nat} (ho : cO f l) (hn : n ≤ l.length) (hf : fitP (fA f l n) r) : m_S_advance N r (l.drop n) = some (mA r l n l.length) := by
  have h8 := ho.2.1
  have hvn := cO_fA ho hn
  have hrl := hf.1
  have hvl := hvn.1
  refine ok.val ?_
  unfold m_S_advance
  refine ok.eq (appM0 (by omega)) (ok.call (P := fun o => o = mA r l n l.length) (ok.each (l.length - n) (fun i s => s = ((i : Int), mA r l n (n + i))) _ ?_ ?_ N 0 _ (Nat.zero_le _) (by rw [Nat.add_zero, mA_self]; rfl) (by omega)) ?_)
  · rintro i s hi rfl
    show ok (m_S_advance_b1 N _ _ _) _
    unfold m_S_advance_b1
    have hd : i < (l.drop n).length := by simp; omega
    refine ok.ift (by simp; omega) (ok.eq (ixI_nat hd) ?_)
    have e : (l.drop n)[i] = l[n + i] := List.getElem_drop
    rw [e]
    refine ok.eq (moveS hN (cO_fA ho (by omega)) (fit_mA ho.2.2 hf _ (by omega) (by omega)) (ho.2.2 (n + i) (by omega))) (ok.chk (by omega) (ok.some ?_))
    rw [show n + (i + 1) = n + i + 1 from rfl, mA_succ r (by omega) (by omega)]; simp
  · rintro s rfl
    show ok (m_S_advance_b1 N _ _ _) _
    unfold m_S_advance_b1
    refine ok.iff (by simp) (ok.some ?_)
    rw [show n + (l.length - n) = l.length by omega]
  · rintro o rfl
    exact ok.some rfl
end
end V
end Go.Proofs.YtkjnnifnmoekjaaGreatDoor
namespace Go.Proofs.YtkjnnifnmoekjaaGreatDoor
namespace V
set_option linter.unusedVariables false
set_option linter.unusedSimpArgs false
set_option maxHeartbeats 1000000
/-- A row of a table that is valid. -/
def rV (t : I_Table) (r : I_Tagged) : Prop := 0 ≤ r.tag ∧ r.tag ≤ t.changes.length ∧ fitP (fA t.first t.changes r.tag.toNat) r.row
noncomputable instance (t : I_Table) (r : I_Tagged) : Decidable (rV t r) := Classical.propDecidable _
/-- A table that is valid. -/
def tV (t : I_Table) : Prop := cO t.first t.changes ∧ t.rows.length ≤ 10 ∧ ∀ i (h : i < t.rows.length), rV t t.rows[i]
noncomputable instance (t : I_Table) : Decidable (tV t) := Classical.propDecidable _
/-- A table is not too large. -/
structure bT (t : I_Table) : Prop where
  f : bS t.first
  c : bCs t.changes
  rl : t.rows.length ≤ 5000000
  r : ∀ i (h : i < t.rows.length), bR t.rows[i].row
/-- The last format. -/
def fL (t : I_Table) : List I_Column := fA t.first t.changes t.changes.length
theorem fL_v {t : I_Table} (h : tV t) : vF (fL t) := cO_fA h.1 (Nat.le_refl _)
theorem rV_bR {t : I_Table} {r : I_Tagged} (ho : cO t.first t.changes) (h : rV t r) : bR r.row := by
  have := (cO_fA ho (i := r.tag.toNat) (by have := h.2.1; omega)).1
  exact fit_bR h.2.2 (by omega)
/-- A row in the last format. -/
def adv (t : I_Table) (r : I_Tagged) : List I_Value := mA r.row t.changes r.tag.toNat t.changes.length
theorem adv_fit {t : I_Table} {r : I_Tagged} (h : tV t) (hr : rV t r) : fitP (fL t) (adv t r) := fit_mA h.1.2.2 hr.2.2 _ (by have := hr.2.1; omega) (Nat.le_refl _)
section
variable {α β : Type} (o : α → Bool) (a : α → α)
end
/-- The rows of a table in the last format. -/
noncomputable def tR (t : I_Table) : List (List I_Value) := if tV t then t.rows.map (adv t) else []
section
variable {N : Nat} (hN : 100000000 ≤ N)
include hN
theorem lastI {t : I_Table} (hb : bT t) : m_I_Table_lastFormat N t = some (if tV t then (fL t, true) else ([], false)) := by
  have hcl := hb.c.1
  have hrl := hb.rl
  refine ok.val ?_
  unfold m_I_Table_lastFormat
  refine ok.eq (chainI hN hb.f hb.c) ?_
  by_cases ho : cO t.first t.changes
  · rw [if_pos ho]
    have hlen := chs_len t.first t.changes
    refine ok.bt rfl (ok.ite (fun h10 => ok.some ?_) fun h10 => ?_)
    · rw [if_neg fun e : tV t => by have := e.2.1; omega]
    · refine ok.call (P := fun o => (o = .inl () ∧ ∀ i (h : i < t.rows.length), rV t t.rows[i]) ∨ (o = .inr ([], false) ∧ ¬ ∀ i (h : i < t.rows.length), rV t t.rows[i])) (ok.each t.rows.length (fun i s => s = (i : Int) ∧ ∀ k (h : k < t.rows.length), k < i → rV t t.rows[k]) _ ?_ ?_ N 0 _ (Nat.zero_le _) ⟨rfl, fun k h hk => by omega⟩ (by omega)) ?_
      · rintro i s hi ⟨rfl, hg⟩
        show ok (m_I_Table_lastFormat_b1 N t _ (i : Int)) _
        unfold m_I_Table_lastFormat_b1
        refine ok.ift (by omega) (ok.eq (ixI_nat hi) (ok.ite (fun c1 => ok.some (.inr ⟨rfl, fun e => by have := (e i hi).1; omega⟩)) fun c1 => ok.ite (fun c2 => ok.some (.inr ⟨rfl, fun e => ?_⟩)) fun c2 => ?_))
        · have := (e i hi).2.1
          dsimp only at c2; omega
        · have hr := hb.r i hi
          dsimp only at c2
          have hv := cO_fA ho (i := t.rows[i].tag.toNat) (by omega)
          refine ok.eq (chs_ix (n := t.rows[i].tag.toNat) (by omega) (by omega)) (ok.eq (fitI hN (vF_bS hv) hr) (ok.ite (fun c3 => ok.chk (by omega) (ok.some ⟨by simp, fun k hk hki => ?_⟩)) fun c3 => ok.some (.inr ⟨rfl, fun e => c3 ⟨hv, (e i hi).2.2⟩⟩)))
          rcases Nat.lt_succ_iff_lt_or_eq.1 hki with h | rfl
          · exact hg k hk h
          · exact ⟨by omega, by omega, c3.2⟩
      · rintro s ⟨rfl, hg⟩
        show ok (m_I_Table_lastFormat_b1 N t _ _) _
        unfold m_I_Table_lastFormat_b1
        exact ok.iff (by omega) (ok.some (.inl ⟨rfl, fun k hk => hg k hk hk⟩))
      · rintro o (⟨rfl, h⟩ | ⟨rfl, h⟩)
        · rw [if_pos (show tV t from ⟨ho, by omega, h⟩)]
          show ok (m_I_Table_lastFormat_k1 N t _) _
          unfold m_I_Table_lastFormat_k1
          refine ok.eq (show m_I_Table_last N t = some (t.changes.length : Int) from rfl) (ok.eq (chs_ix rfl (Nat.le_refl _)) (ok.some rfl))
        · rw [if_neg fun e : tV t => h e.2.2]; exact ok.some rfl
  · rw [if_neg ho, if_neg fun e : tV t => ho e.1]
    exact ok.bf rfl (ok.some rfl)
theorem validTI {t : I_Table} (hb : bT t) : m_I_ValidTable N t = some (decide (tV t)) := by
  refine ok.val ?_
  unfold m_I_ValidTable
  refine ok.eq (lastI hN hb) (ok.some ?_)
  by_cases h : tV t
  · rw [if_pos h, decide_eq_true h]
  · rw [if_neg h, decide_eq_false h]
theorem validTS {t : I_Table} (hb : bT t) : m_S_validTable N t = some (decide (tV t)) := by
  have hcl := hb.c.1
  have hrl := hb.rl
  refine bool_eq ?_
  unfold m_S_validTable
  refine ok.eq (vchainS hN hb.f hb.c) (ok.ite (fun ho => ok.ite (fun h10 => ok.some ⟨fun e => (by cases e), fun e => by have := e.2.1; omega⟩) fun h10 => ?_) fun ho => ok.some ⟨fun e => (by cases e), fun e => (ho e.1).elim⟩)
  refine ok.eq (formatsS hN hb.f.1 (vF_bN ho.1) hb.c) ?_
  rw [if_pos ho.2.2]
  refine ok.call (all_ok (n := t.rows.length) 0 (fun i => ∀ (h : i < t.rows.length), rV t t.rows[i]) (by omega) (fun i hi _ => ?_) ?_) ?_
  · rw [Int.add_zero]
    show ok (m_S_validTable_b1 N t _ (i : Int)) _
    unfold m_S_validTable_b1
    refine ok.ift (by omega) (ok.eq (ixI_nat hi) (ok.eq (inRange_eq N _ _ _) (ok.ite (fun c1 => ?_) fun c1 => ok.some (.inr ⟨rfl, fun e => c1 ⟨(e hi).1, (e hi).2.1⟩⟩))))
    have hr := hb.r i hi
    have hv := cO_fA ho (i := t.rows[i].tag.toNat) (by omega)
    refine ok.eq (ixI_nat hi) (ok.eq (chs_ix (n := t.rows[i].tag.toNat) (by omega) (by omega)) (ok.eq (ixI_nat hi) (ok.eq (fitS hN hr hv.1.2) (ok.ite (fun c3 => ok.chk (by omega) (ok.some (.inl ⟨rfl, fun _ => ⟨c1.1, c1.2, c3⟩⟩))) fun c3 => ok.some (.inr ⟨rfl, fun e => c3 (e hi).2.2⟩)))))
  · rw [Int.add_zero]
    show m_S_validTable_b1 N t _ _ = _
    unfold m_S_validTable_b1
    rw [decide_eq_false (by omega)]; rfl
  · rintro o (⟨rfl, hh⟩ | ⟨rfl, hh⟩)
    · exact ok.some ⟨fun _ => ⟨ho, by omega, fun i hi => hh i hi hi⟩, fun _ => rfl⟩
    · exact ok.some ⟨fun e => (by cases e), fun e => (hh fun k hk h => e.2.2 k h).elim⟩
theorem read1I {t : I_Table} {r : I_Tagged} (h : tV t) (hc : bCs t.changes) (hr : rV t r) : m_I_Table_read N t r = some (adv t r) := by
  unfold m_I_Table_read
  refine ok.val ?_
  refine ok.eq (show m_I_Table_last N t = some (t.changes.length : Int) from rfl) (ok.eq (readI hN h.1 hc (n := r.tag.toNat) (by have := hr.1; omega) (by have := hr.2.1; omega) hr.2.2) (ok.some rfl))
theorem adv1S {t : I_Table} {r : I_Tagged} (h : tV t) (hr : rV t r) : m_S_advance N r.row (t.changes.drop r.tag.toNat) = some (adv t r) := advS hN h.1 (by have := hr.2.1; omega) hr.2.2
omit hN in
theorem map_take {α β : Type} (f : α → β) {xs : List α} {i : Nat} (h : i < xs.length) : (xs.take (i + 1)).map f = (xs.take i).map f ++ [f xs[i]] := by rw [take_succ1 h, List.map_append]; rfl
theorem rowsI {t : I_Table} (hb : bT t) : m_I_TableRows N t = some (tR t) := by
  have hrl := hb.rl
  refine ok.val ?_
  unfold m_I_TableRows tR
  refine ok.eq (validTI hN hb) (ok.ite (fun h => ?_) fun h => ok.some (by rw [if_neg h]))
  rw [if_pos h]
  refine ok.call (P := fun o => o = t.rows.map (adv t)) (ok.each t.rows.length (fun i s => s = ((i : Int), (t.rows.take i).map (adv t))) _ ?_ ?_ N 0 _ (Nat.zero_le _) rfl (by omega)) ?_
  · rintro i s hi rfl
    show ok (m_I_TableRows_b1 N t (i : Int) _) _
    unfold m_I_TableRows_b1
    refine ok.ift (by omega) (ok.eq (ixI_nat hi) (ok.eq (read1I hN h hb.c (h.2.2 i hi)) (ok.app (by simp; omega) (ok.chk (by omega) (ok.some ?_)))))
    rw [map_take _ hi]; simp
  · rintro s rfl
    show ok (m_I_TableRows_b1 N t _ _) _
    unfold m_I_TableRows_b1
    refine ok.iff (by omega) (ok.some ?_)
    rw [List.take_length]
  · rintro o rfl
    exact ok.some rfl
theorem latestS {t : I_Table} (h : tV t) : m_S_latest N t = some (t.rows.map (adv t)) := by
  have hrl := h.2.1
  have h8 := h.1.2.1
  refine ok.val ?_
  unfold m_S_latest
  refine ok.call (P := fun o => o = t.rows.map (adv t)) (ok.each t.rows.length (fun i s => s = ((i : Int), (t.rows.take i).map (adv t))) _ ?_ ?_ N 0 _ (Nat.zero_le _) rfl (by omega)) ?_
  · rintro i s hi rfl
    show ok (m_S_latest_b1 N t (i : Int) _) _
    unfold m_S_latest_b1
    have hr := h.2.2 i hi
    have h1 := hr.1
    have h2 := hr.2.1
    refine ok.ift (by omega) (ok.eq (ixI_nat hi) (ok.eq (ixI_nat hi) (ok.eq (subM_eq (by omega)) ?_)))
    rw [Int.toNat_natCast, List.take_of_length_le (by rw [List.length_drop]; exact Nat.le_refl _)]
    refine ok.eq (adv1S hN h hr) (ok.app (by simp; omega) (ok.chk (by omega) (ok.some ?_)))
    rw [map_take _ hi]; simp
  · rintro s rfl
    show ok (m_S_latest_b1 N t _ _) _
    unfold m_S_latest_b1
    refine ok.iff (by omega) (ok.some ?_)
    rw [List.take_length]
  · rintro o rfl
    exact ok.some rfl
end
end V
end Go.Proofs.YtkjnnifnmoekjaaGreatDoor
