/- What the rows need, part 5. No condition. -/
import Derived.Test.YtkjnnifnmoekjaaGreatDoorQIcD
namespace Go.Proofs.YtkjnnifnmoekjaaGreatDoor
namespace V
open Enc (enc)
set_option linter.unusedVariables false
set_option linter.unusedSimpArgs false
set_option maxHeartbeats 4000000
set_option maxRecDepth 100000
open Go.RowKit
attribute [local irreducible] thA inA FinA eL
def m_slices_Clone_I_Value (N : Nat) (p_s : List I_Value) : Option (List I_Value) := appM 32 ([] : List I_Value) p_s
theorem w_slices_Clone_I_Value (N : Nat) (p_s : List I_Value) (r : List I_Value) (hh0 : m_slices_Clone_I_Value N p_s = some r) : FnX Tryz.prog 100 [] [sL p_s] (RE (.os 0 0 r.length) [⟨.tr (eL r), 39, 3⟩]) := by
  unfold m_slices_Clone_I_Value at hh0; have hr := (appM_spec hh0).1
  simp only [List.nil_append] at hr
  refine FnX.mk Tryz.func100 rfl rfl ?_; intro s hs; refine PC.seq ?_; refine PC.region ?_; refine PL.op rfl (Rd.asnT rfl) ?_; refine PL.nil ?_; refine thA_n ?_; (iterate 2 refine PC.seq ?_); refine PC.region ?_; refine PL.op rfl (Rd.moveT rfl) ?_; refine PL.eqNil rfl rfl rfl ?_; intro b hb; refine PL.nil ?_; refine thA_n ?_
  cases b with
  | true =>
    have h0 : p_s = [] := List.eq_nil_of_length_eq_zero (hb rfl); subst h0; subst hr; refine PC.cond_true rfl rfl ?_; refine PC.seq ?_; refine PC.region ?_; refine PL.op rfl (Rd.asnT rfl) ?_; refine PL.nil ?_; refine thA_n ?_; refine PC.ret ?_; refine thA_r ?_; exact FinA.mk (r := .os 0 0 0) (bl := [⟨.tr (eL ([] : List I_Value)), 39, 3⟩]) [none] (.inl rfl) rfl (rl := [.tmp 2]) (.tmp .nil) rfl rfl rfl (.osn rfl) ⟨ow_nil _, trivial⟩ ⟨rfl, rfl⟩
  | false =>
    clear hr
    refine PC.cond_false rfl rfl ?_; refine PC.skip ?_; refine thA_n ?_; refine PC.seq ?_; refine PC.region ?_; refine PL.ef rfl (Ef.lit0M I_Value) ?_; refine PL.op rfl (Rd.moveT rfl) ?_; refine PL.apM hs rfl rfl rfl rfl (SrcA.eL rfl) rfl rfl rfl rfl hh0 ?_; refine PL.op rfl (Rd.asnO rfl) ?_; refine PL.nil ?_; refine thA_n ?_; refine PC.ret ?_; exact FinA.mk (r := .os 0 0 r.length) (bl := [⟨.tr (eL r), 39, 3⟩]) [some 1] (.inl rfl) rfl (rl := [.tmp 2]) (.tmp .nil) rfl rfl rfl (.os rfl) ⟨⟨_, rfl, rfl, rfl, .tr _⟩, trivial⟩ ⟨rfl, rfl⟩
def m_I_ChangeRow (N : Nat) (p_f : (List I_Column)) (p_row : (List I_Value)) (p_c : I_Change) : Option ((List I_Value) × Bool) :=
  (m_I_RowFits N p_f p_row).bind fun r1 =>
  cond r1
    ((m_I_Change_possible N p_c p_f).bind fun r4 =>
    cond r4
      ((m_slices_Clone_I_Value N p_row).bind fun r7 =>
      cond (decide (p_c.kind = (1 : Int)))
        ((insM 32 r7 p_c.at_ p_c.column.default).bind fun xs10 =>
        some (xs10, true))
        (cond (decide (p_c.kind = (2 : Int)))
          ((chk (p_c.at_ + (1 : Int))).bind fun n13 =>
          (delM r7 p_c.at_ n13).bind fun xs15 =>
          some (xs15, true))
          ((ixI r7 p_c.at_).bind fun x17 =>
          (m_I_WidenValue N x17).bind fun r19 =>
          some ((r7.set p_c.at_.toNat r19), true))))
      (some (([] : List I_Value), false)))
    (some (([] : List I_Value), false))
theorem w_I_ChangeRow (N : Nat) (p_f : (List I_Column)) (p_row : (List I_Value)) (p_c : I_Change) (r : (List I_Value) × Bool) (hh0 : m_I_ChangeRow N p_f p_row p_c = some r) : FnX Tryz.prog 132 [] [sL p_f, sL p_row, .agg [iA p_c.kind, iA p_c.at_, iA p_c.column.kind, iA p_c.column.default.kind, iA p_c.column.default.num, sA p_c.column.default.text]] (RE (.tup [.os 0 0 r.1.length, bA r.2]) [⟨.tr (eL r.1), 39, 3⟩]) := by
  unfold m_I_ChangeRow at hh0; refine FnX.mk Tryz.func132 rfl rfl ?_; intro s hs; refine PC.seq ?_; refine PC.region ?_; refine PL.ef rfl (Ef.box rfl rfl rfl) ?_; refine PL.nm (.op 0 0) [some ⟨.mx [iA p_c.kind, iA p_c.at_, iA p_c.column.kind, iA p_c.column.default.kind, iA p_c.column.default.num, sA p_c.column.default.text], 128, 0⟩] rfl rfl ?_; (iterate 2 refine PL.op rfl (Rd.asnT rfl) ?_); refine PL.nil ?_; refine thA_n ?_; (iterate 2 refine PC.seq ?_); obtain ⟨r1, h_2, hh0⟩ := bind_some hh0; rcases cond_some hh0 with ⟨h_3, hh0⟩ | ⟨h_3, hh0⟩; rotate_left
  · refine PC.region ?_; (iterate 2 refine PL.op rfl (Rd.moveT rfl) ?_); refine PL.callM false [] (w_I_RowFits N p_f p_row r1 h_2) rfl Tryz.call105 rfl ⟨.t _, .t _, trivial⟩ rfl trivial (fun h => by cases h) ?_; refine PL.op rfl (Rd.unnot rfl) ?_; refine PL.op rfl (Rd.moveT rfl) ?_; (iterate 4 refine PL.guard_off rfl rfl (not_f h_3) ?_); refine PL.op rfl (Rd.pick_t rfl (not_f h_3)) ?_; refine PL.nil ?_; refine thA_n ?_; refine PC.cond_true rfl rfl ?_; refine PC.seq ?_; refine PC.region ?_; (iterate 2 refine PL.op rfl (Rd.asnT rfl) ?_); refine PL.nil ?_; refine thA_n ?_; refine PC.ret ?_; refine thA_r ?_; obtain rfl := some_in hh0; exact FinA.mk (r := .tup [.os 0 0 (((([] : List I_Value), false).1).length), bA ((([] : List I_Value), false).2)]) (bl := [⟨.tr (eL ((([] : List I_Value), false).1)), 39, 3⟩]) [none] (.inl rfl) rfl (rl := [.tmp 6, .tmp 7]) (.tmp (.tmp .nil)) rfl rfl rfl (.tupL ⟨.osn rfl, .t _, trivial⟩) ⟨ow_nil _, trivial⟩ ⟨rfl, rfl⟩
  obtain ⟨r4, h_5, hh0⟩ := bind_some hh0; refine PC.region ?_; (iterate 2 refine PL.op rfl (Rd.moveT rfl) ?_); refine PL.callM false [] (w_I_RowFits N p_f p_row r1 h_2) rfl Tryz.call105 rfl ⟨.t _, .t _, trivial⟩ rfl trivial (fun h => by cases h) ?_; refine PL.op rfl (Rd.unnot rfl) ?_; refine PL.op rfl (Rd.moveT rfl) ?_; refine PL.guard_on rfl (not_t h_3) ?_; refine PL.op rfl (Rd.loadBox rfl rfl rfl) ?_; refine PL.guard_on rfl (not_t h_3) ?_; refine PL.op rfl (Rd.moveT rfl) ?_; refine PL.guard_on rfl (not_t h_3) ?_; refine PL.callM false [] (w_I_Change_possible N p_c p_f r4 h_5) rfl Tryz.call152 rfl ⟨.aggL ⟨.t _, .t _, .t _, .t _, .t _, .t _, trivial⟩, .t _, trivial⟩ rfl trivial (fun h => by cases h) ?_; refine PL.guard_on rfl (not_t h_3) ?_; refine PL.op rfl (Rd.unnot rfl) ?_; refine PL.op rfl (Rd.pick_f rfl (not_t h_3)) ?_; refine PL.nil ?_; refine thA_n ?_; rcases cond_some hh0 with ⟨h_6, hh0⟩ | ⟨h_6, hh0⟩; rotate_left
  · refine PC.cond_true rfl (not_f h_6) ?_; refine PC.seq ?_; refine PC.region ?_; (iterate 2 refine PL.op rfl (Rd.asnT rfl) ?_); refine PL.nil ?_; refine thA_n ?_; refine PC.ret ?_; refine thA_r ?_; obtain rfl := some_in hh0; exact FinA.mk (r := .tup [.os 0 0 (((([] : List I_Value), false).1).length), bA ((([] : List I_Value), false).2)]) (bl := [⟨.tr (eL ((([] : List I_Value), false).1)), 39, 3⟩]) [none] (.inl rfl) rfl (rl := [.tmp 6, .tmp 7]) (.tmp (.tmp .nil)) rfl rfl rfl (.tupL ⟨.osn rfl, .t _, trivial⟩) ⟨ow_nil _, trivial⟩ ⟨rfl, rfl⟩
  refine PC.cond_false rfl (not_t h_6) ?_; refine PC.skip ?_; refine thA_n ?_; refine PC.seq ?_; obtain ⟨r7, h_8, hh0⟩ := bind_some hh0; refine PC.region ?_; refine PL.op rfl (Rd.moveT rfl) ?_; refine PL.callM false [] (w_slices_Clone_I_Value N p_row r7 h_8) rfl Tryz.call100 rfl ⟨.t _, trivial⟩ rfl trivial (fun h => by cases h) ?_; refine PL.nm (.os 1 0 r7.length) [some ⟨.mx [iA p_c.kind, iA p_c.at_, iA p_c.column.kind, iA p_c.column.default.kind, iA p_c.column.default.num, sA p_c.column.default.text], 128, 0⟩, some ⟨.tr (eL r7), 39, 3⟩] rfl rfl ?_; refine PL.op rfl (Rd.asnO rfl) ?_; refine PL.nil ?_; refine thA_n ?_; (iterate 2 refine PC.seq ?_); refine PC.region ?_; refine PL.op rfl (Rd.fieldO rfl rfl) ?_; refine PL.op rfl (Rd.loadO rfl rfl rfl) ?_; refine PL.nil ?_; refine thA_n ?_; refine PC.block ?_; refine PC.seq ?_; refine PC.region ?_; refine PL.op rfl (Rd.eql rfl rfl) ?_; refine PL.op rfl (Rd.asnT rfl) ?_; refine PL.nil ?_; refine thA_n ?_; rcases cond_some hh0 with ⟨h_9, hh0⟩ | ⟨h_9, hh0⟩
  · refine PC.cond_true rfl h_9 ?_; obtain ⟨xs10, h_11, hh0⟩ := bind_some hh0; refine PC.region ?_; refine PL.op rfl (Rd.moveO rfl) ?_; refine PL.op rfl (Rd.fieldO rfl rfl) ?_; refine PL.op rfl (Rd.loadO rfl rfl rfl) ?_; (iterate 2 refine PL.op rfl (Rd.fieldO rfl rfl) ?_); refine PL.op rfl (Rd.loadSub rfl rfl rfl rfl) ?_; refine PL.ef rfl (Ef.litM (α := I_Value) [p_c.column.default] [_] rfl rfl (by decide) rfl rfl rfl rfl) ?_; refine PL.nm (.os 2 0 1) [some ⟨.mx [iA p_c.kind, iA p_c.at_, iA p_c.column.kind, iA p_c.column.default.kind, iA p_c.column.default.num, sA p_c.column.default.text], 128, 0⟩, some ⟨.tr (eL r7), 39, 3⟩, some ⟨.tr (eL [p_c.column.default]), 39, 3⟩] rfl rfl ?_; refine PL.ins_Value hs rfl rfl rfl rfl rfl rfl rfl rfl rfl h_11 ?_; refine PL.nm (.os 3 0 xs10.length) [some ⟨.mx [iA p_c.kind, iA p_c.at_, iA p_c.column.kind, iA p_c.column.default.kind, iA p_c.column.default.num, sA p_c.column.default.text], 128, 0⟩, none, some ⟨.tr (eL [p_c.column.default]), 39, 3⟩, some ⟨.tr (eL xs10), 39, 3⟩] rfl rfl ?_; refine PL.op rfl (Rd.asnO rfl) ?_; refine PL.nil ?_; refine inA_n ?_; refine thA_n ?_; refine PC.seq ?_; refine PC.region ?_; refine PL.op rfl (Rd.moveO rfl) ?_; refine PL.op rfl (Rd.asnO rfl) ?_; refine PL.op rfl (Rd.asnT rfl) ?_; refine PL.nil ?_; refine thA_n ?_; refine PC.ret ?_; obtain rfl := some_in hh0; exact FinA.mk (r := .tup [.os 0 0 (((xs10, true).1).length), bA ((xs10, true).2)]) (bl := [⟨.tr (eL ((xs10, true).1)), 39, 3⟩]) [some 3] (.inl rfl) rfl (rl := [.tmp 6, .tmp 7]) (.tmp (.tmp .nil)) rfl rfl rfl (.tupL ⟨.os rfl, .t _, trivial⟩) ⟨⟨_, rfl, rfl, rfl, .tr _⟩, trivial⟩ ⟨rfl, rfl⟩
  refine PC.cond_false rfl h_9 ?_; refine PC.seq ?_; refine PC.region ?_; refine PL.op rfl (Rd.eql rfl rfl) ?_; refine PL.op rfl (Rd.asnT rfl) ?_; refine PL.nil ?_; refine thA_n ?_; rcases cond_some hh0 with ⟨h_12, hh0⟩ | ⟨h_12, hh0⟩
  · refine PC.cond_true rfl h_12 ?_; obtain ⟨n13, h_14, hh0⟩ := bind_some hh0; obtain ⟨xs15, h_16, hh0⟩ := bind_some hh0; refine PC.region ?_; refine PL.op rfl (Rd.moveO rfl) ?_; refine PL.op rfl (Rd.fieldO rfl rfl) ?_; refine PL.op rfl (Rd.loadO rfl rfl rfl) ?_; refine PL.op rfl (Rd.fieldO rfl rfl) ?_; refine PL.op rfl (Rd.loadO rfl rfl rfl) ?_; refine PL.op rfl (Rd.addM rfl rfl h_14) ?_; refine PL.del_Value hs rfl rfl rfl rfl rfl rfl rfl h_16 ?_; refine PL.nm (.os 2 0 xs15.length) [some ⟨.mx [iA p_c.kind, iA p_c.at_, iA p_c.column.kind, iA p_c.column.default.kind, iA p_c.column.default.num, sA p_c.column.default.text], 128, 0⟩, none, some ⟨.tr (eL xs15), 39, 3⟩] rfl rfl ?_; refine PL.op rfl (Rd.asnO rfl) ?_; refine PL.nil ?_; refine inA_n ?_; refine thA_n ?_; refine PC.seq ?_; refine PC.region ?_; refine PL.op rfl (Rd.moveO rfl) ?_; refine PL.op rfl (Rd.asnO rfl) ?_; refine PL.op rfl (Rd.asnT rfl) ?_; refine PL.nil ?_; refine thA_n ?_; refine PC.ret ?_; obtain rfl := some_in hh0; exact FinA.mk (r := .tup [.os 0 0 (((xs15, true).1).length), bA ((xs15, true).2)]) (bl := [⟨.tr (eL ((xs15, true).1)), 39, 3⟩]) [some 2] (.inl rfl) rfl (rl := [.tmp 6, .tmp 7]) (.tmp (.tmp .nil)) rfl rfl rfl (.tupL ⟨.os rfl, .t _, trivial⟩) ⟨⟨_, rfl, rfl, rfl, .tr _⟩, trivial⟩ ⟨rfl, rfl⟩
  refine PC.cond_false rfl h_12 ?_; obtain ⟨x17, h_18, hh0⟩ := bind_some hh0; obtain ⟨r19, h_20, hh0⟩ := bind_some hh0; refine PC.any (id := 5) 10 (.seg [0, 1, 2, 3, 4, 5, 6, 7, 8, 9] .done) [] rfl (by kernel_rfl) rfl ?_; refine PT.seg ?_; refine PR.op rfl (Rd.moveO rfl) ?_; refine PR.op rfl (Rd.fieldO rfl rfl) ?_; refine PR.op rfl (Rd.loadO rfl rfl rfl) ?_; refine PR.op rfl (Rd.moveO rfl) ?_; refine PR.op rfl (Rd.fieldO rfl rfl) ?_; refine PR.op rfl (Rd.loadO rfl rfl rfl) ?_; refine PR.ixOM rfl rfl rfl rfl (ixI_lt h_18) ?_; refine PR.op rfl (Rd.owMR rfl rfl h_18 rfl rfl) ?_; refine PR.callM false [] (w_I_WidenValue N x17 r19 h_20) rfl Tryz.call155 rfl ⟨.aggL ⟨.t _, .t _, .t _, trivial⟩, trivial⟩ rfl trivial (fun h => by cases h) rfl ?_; refine PR.ixOM rfl rfl rfl rfl (ixI_lt h_18) ?_; refine PR.nil ?_; refine PT.done ?_; refine PL.stRM r19 rfl rfl rfl rfl rfl h_18 rfl ?_; refine PL.nO [some ⟨.mx [iA p_c.kind, iA p_c.at_, iA p_c.column.kind, iA p_c.column.default.kind, iA p_c.column.default.num, sA p_c.column.default.text], 128, 0⟩, some ⟨.tr (eL (r7.set p_c.at_.toNat r19)), 39, 3⟩] rfl ?_; refine PL.nil ?_; refine inA_n ?_; refine thA_n ?_; refine PC.seq ?_; refine PC.region ?_; refine PL.op rfl (Rd.moveO rfl) ?_; refine PL.op rfl (Rd.asnO rfl) ?_; refine PL.op rfl (Rd.asnT rfl) ?_; refine PL.nil ?_; refine thA_n ?_; refine PC.ret ?_; obtain rfl := some_in hh0; exact FinA.mk (r := .tup [.os 0 0 ((((r7.set p_c.at_.toNat r19), true).1).length), bA (((r7.set p_c.at_.toNat r19), true).2)]) (bl := [⟨.tr (eL (((r7.set p_c.at_.toNat r19), true).1)), 39, 3⟩]) [some 1] (.inl rfl) rfl (rl := [.tmp 6, .tmp 7]) (.tmp (.tmp .nil)) rfl rfl rfl (.tupL ⟨.osE rfl (by simp only [List.length_set]), .t _, trivial⟩) ⟨⟨_, rfl, rfl, rfl, .tr _⟩, trivial⟩ ⟨rfl, rfl⟩
def m_I_ReadRow_k1 (N : Nat) (v26 : (List I_Value)) : Option ((List I_Value) × Bool) :=
  some (v26, true)
def m_I_ReadRow_b1 (N : Nat) (p_list : (List I_Change)) (p_to : Int) (r1 : ((List (List I_Column)) × Bool)) (i14 : Int) (v15 : (List I_Value)) : Option ((Int × (List I_Value)) ⊕ ((List I_Value) ⊕ ((List I_Value) × Bool))) :=
  cond (decide (i14 < p_to))
    ((ixI r1.1 i14).bind fun x33 =>
    (ixI p_list i14).bind fun x35 =>
    (m_I_ChangeRow N x33 v15 x35).bind fun r37 =>
    cond r37.2
      ((chk (i14 + (1 : Int))).bind fun n40 =>
      some (.inl (n40, r37.1)))
      (some (.inr (.inr (([] : List I_Value), false)))))
    (some (.inr (.inl v15)))
def m_I_ReadRow (N : Nat) (p_f : (List I_Column)) (p_list : (List I_Change)) (p_from : Int) (p_to : Int) (p_row : (List I_Value)) : Option ((List I_Value) × Bool) :=
  (m_I_ChainOf N p_f p_list).bind fun r1 =>
  cond r1.2
    (cond (decide (p_from < (0 : Int)))
      (some (([] : List I_Value), false))
      (cond (decide (p_to < p_from))
        (some (([] : List I_Value), false))
        (cond (decide ((r1.1.length : Int) ≤ p_to))
          (some (([] : List I_Value), false))
          ((ixI r1.1 p_from).bind fun x7 =>
          (m_I_RowFits N x7 p_row).bind fun r9 =>
          cond r9
            ((m_slices_Clone_I_Value N p_row).bind fun r12 =>
            (loopM (β := (List I_Value) ⊕ ((List I_Value) × Bool)) (fun s : Int × (List I_Value) => m_I_ReadRow_b1 N p_list p_to r1 s.1 s.2) N (p_from, r12)).bind fun o => match o with
            | .inl e =>
              m_I_ReadRow_k1 N e
            | .inr v =>
              some v)
            (some (([] : List I_Value), false))))))
    (some (([] : List I_Value), false))
theorem w_I_ReadRow (N : Nat) (p_f : (List I_Column)) (p_list : (List I_Change)) (p_from : Int) (p_to : Int) (p_row : (List I_Value)) (r : (List I_Value) × Bool) (hh0 : m_I_ReadRow N p_f p_list p_from p_to p_row = some r) : FnX Tryz.prog 101 [] [sL p_f, sL p_list, iA p_from, iA p_to, sL p_row] (RE (.tup [.os 0 0 r.1.length, bA r.2]) [⟨.tr (eL r.1), 39, 3⟩]) := by
  unfold m_I_ReadRow at hh0; refine FnX.mk Tryz.func101 rfl rfl ?_; intro s hs; refine PC.seq ?_; refine PC.region ?_; (iterate 2 refine PL.op rfl (Rd.asnT rfl) ?_); refine PL.nil ?_; refine thA_n ?_; refine PC.seq ?_; obtain ⟨r1, h_2, hh0⟩ := bind_some hh0; refine PC.region ?_; (iterate 2 refine PL.op rfl (Rd.moveT rfl) ?_); refine PL.callM false [] (w_I_ChainOf N p_f p_list r1 h_2) rfl Tryz.call104 rfl ⟨.t _, .t _, trivial⟩ rfl trivial (fun h => by cases h) ?_; refine PL.nm (.tup [.os 0 0 r1.1.length, bA r1.2]) [some ⟨.tr (eL r1.1), 33, 1⟩] rfl rfl ?_; refine PL.op rfl (Rd.moveU rfl) ?_; (iterate 2 refine PL.op rfl (Rd.extract rfl rfl) ?_); refine PL.op rfl (Rd.asnO rfl) ?_; refine PL.op rfl (Rd.asnT rfl) ?_; refine PL.nil ?_; refine thA_n ?_; (iterate 2 refine PC.seq ?_); rcases cond_some hh0 with ⟨h_3, hh0⟩ | ⟨h_3, hh0⟩; rotate_left
  · refine PC.region ?_; refine PL.op rfl (Rd.moveT rfl) ?_; refine PL.op rfl (Rd.unnot rfl) ?_; refine PL.op rfl (Rd.moveT rfl) ?_; (iterate 2 refine PL.guard_off rfl rfl (not_f h_3) ?_); refine PL.op rfl (Rd.pick_t rfl (not_f h_3)) ?_; refine PL.op rfl (Rd.moveT rfl) ?_; (iterate 3 refine PL.guard_off rfl rfl rfl ?_); refine PL.op rfl (Rd.pick_t rfl rfl) ?_; refine PL.op rfl (Rd.moveT rfl) ?_; (iterate 4 refine PL.guard_off rfl rfl rfl ?_); refine PL.op rfl (Rd.pick_t rfl rfl) ?_; refine PL.op rfl (Rd.moveT rfl) ?_; (iterate 7 refine PL.guard_off rfl rfl rfl ?_); refine PL.op rfl (Rd.pick_t rfl rfl) ?_; refine PL.nil ?_; refine thA_n ?_; refine PC.cond_true rfl rfl ?_; refine PC.seq ?_; refine PC.region ?_; (iterate 2 refine PL.op rfl (Rd.asnT rfl) ?_); refine PL.nil ?_; refine thA_n ?_; refine PC.ret ?_; refine thA_r ?_; obtain rfl := some_in hh0; exact FinA.mk (r := .tup [.os 0 0 (((([] : List I_Value), false).1).length), bA ((([] : List I_Value), false).2)]) (bl := [⟨.tr (eL ((([] : List I_Value), false).1)), 39, 3⟩]) [none] (.inl rfl) rfl (rl := [.tmp 10, .tmp 11]) (.tmp (.tmp .nil)) rfl rfl rfl (.tupL ⟨.osn rfl, .t _, trivial⟩) ⟨ow_nil _, trivial⟩ ⟨rfl, rfl⟩
  rcases cond_some hh0 with ⟨h_4, hh0⟩ | ⟨h_4, hh0⟩
  · refine PC.region ?_; refine PL.op rfl (Rd.moveT rfl) ?_; refine PL.op rfl (Rd.unnot rfl) ?_; refine PL.op rfl (Rd.moveT rfl) ?_; refine PL.guard_on rfl (not_t h_3) ?_; refine PL.op rfl (Rd.moveT rfl) ?_; refine PL.guard_on rfl (not_t h_3) ?_; refine PL.op rfl (Rd.lss rfl rfl) ?_; refine PL.op rfl (Rd.pick_f rfl (not_t h_3)) ?_; refine PL.op rfl (Rd.moveT rfl) ?_; (iterate 3 refine PL.guard_off rfl rfl h_4 ?_); refine PL.op rfl (Rd.pick_t rfl h_4) ?_; refine PL.op rfl (Rd.moveT rfl) ?_; (iterate 4 refine PL.guard_off rfl rfl rfl ?_); refine PL.op rfl (Rd.pick_t rfl rfl) ?_; refine PL.op rfl (Rd.moveT rfl) ?_; (iterate 7 refine PL.guard_off rfl rfl rfl ?_); refine PL.op rfl (Rd.pick_t rfl rfl) ?_; refine PL.nil ?_; refine thA_n ?_; refine PC.cond_true rfl rfl ?_; refine PC.seq ?_; refine PC.region ?_; (iterate 2 refine PL.op rfl (Rd.asnT rfl) ?_); refine PL.nil ?_; refine thA_n ?_; refine PC.ret ?_; refine thA_r ?_; obtain rfl := some_in hh0; exact FinA.mk (r := .tup [.os 0 0 (((([] : List I_Value), false).1).length), bA ((([] : List I_Value), false).2)]) (bl := [⟨.tr (eL ((([] : List I_Value), false).1)), 39, 3⟩]) [none] (.inl rfl) rfl (rl := [.tmp 10, .tmp 11]) (.tmp (.tmp .nil)) rfl rfl rfl (.tupL ⟨.osn rfl, .t _, trivial⟩) ⟨ow_nil _, trivial⟩ ⟨rfl, rfl⟩
  rcases cond_some hh0 with ⟨h_5, hh0⟩ | ⟨h_5, hh0⟩
  · refine PC.region ?_; refine PL.op rfl (Rd.moveT rfl) ?_; refine PL.op rfl (Rd.unnot rfl) ?_; refine PL.op rfl (Rd.moveT rfl) ?_; refine PL.guard_on rfl (not_t h_3) ?_; refine PL.op rfl (Rd.moveT rfl) ?_; refine PL.guard_on rfl (not_t h_3) ?_; refine PL.op rfl (Rd.lss rfl rfl) ?_; refine PL.op rfl (Rd.pick_f rfl (not_t h_3)) ?_; refine PL.op rfl (Rd.moveT rfl) ?_; refine PL.guard_on rfl h_4 ?_; refine PL.op rfl (Rd.moveT rfl) ?_; refine PL.guard_on rfl h_4 ?_; refine PL.op rfl (Rd.moveT rfl) ?_; refine PL.guard_on rfl h_4 ?_; refine PL.op rfl (Rd.lss rfl rfl) ?_; refine PL.op rfl (Rd.pick_f rfl h_4) ?_; refine PL.op rfl (Rd.moveT rfl) ?_; (iterate 4 refine PL.guard_off rfl rfl h_5 ?_); refine PL.op rfl (Rd.pick_t rfl h_5) ?_; refine PL.op rfl (Rd.moveT rfl) ?_; (iterate 7 refine PL.guard_off rfl rfl rfl ?_); refine PL.op rfl (Rd.pick_t rfl rfl) ?_; refine PL.nil ?_; refine thA_n ?_; refine PC.cond_true rfl rfl ?_; refine PC.seq ?_; refine PC.region ?_; (iterate 2 refine PL.op rfl (Rd.asnT rfl) ?_); refine PL.nil ?_; refine thA_n ?_; refine PC.ret ?_; refine thA_r ?_; obtain rfl := some_in hh0; exact FinA.mk (r := .tup [.os 0 0 (((([] : List I_Value), false).1).length), bA ((([] : List I_Value), false).2)]) (bl := [⟨.tr (eL ((([] : List I_Value), false).1)), 39, 3⟩]) [none] (.inl rfl) rfl (rl := [.tmp 10, .tmp 11]) (.tmp (.tmp .nil)) rfl rfl rfl (.tupL ⟨.osn rfl, .t _, trivial⟩) ⟨ow_nil _, trivial⟩ ⟨rfl, rfl⟩
  rcases cond_some hh0 with ⟨h_6, hh0⟩ | ⟨h_6, hh0⟩
  · refine PC.region ?_; refine PL.op rfl (Rd.moveT rfl) ?_; refine PL.op rfl (Rd.unnot rfl) ?_; refine PL.op rfl (Rd.moveT rfl) ?_; refine PL.guard_on rfl (not_t h_3) ?_; refine PL.op rfl (Rd.moveT rfl) ?_; refine PL.guard_on rfl (not_t h_3) ?_; refine PL.op rfl (Rd.lss rfl rfl) ?_; refine PL.op rfl (Rd.pick_f rfl (not_t h_3)) ?_; refine PL.op rfl (Rd.moveT rfl) ?_; refine PL.guard_on rfl h_4 ?_; refine PL.op rfl (Rd.moveT rfl) ?_; refine PL.guard_on rfl h_4 ?_; refine PL.op rfl (Rd.moveT rfl) ?_; refine PL.guard_on rfl h_4 ?_; refine PL.op rfl (Rd.lss rfl rfl) ?_; refine PL.op rfl (Rd.pick_f rfl h_4) ?_; refine PL.op rfl (Rd.moveT rfl) ?_; refine PL.guard_on rfl h_5 ?_; refine PL.op rfl (Rd.moveT rfl) ?_; refine PL.guard_on rfl h_5 ?_; refine PL.op rfl (Rd.moveO rfl) ?_; refine PL.guard_on rfl h_5 ?_; refine PL.op rfl (Rd.lenO rfl rfl) ?_; refine PL.guard_on rfl h_5 ?_; refine PL.op rfl (Rd.geq rfl rfl) ?_; refine PL.op rfl (Rd.pick_f rfl h_5) ?_; refine PL.op rfl (Rd.moveT rfl) ?_; (iterate 7 refine PL.guard_off rfl rfl h_6 ?_); refine PL.op rfl (Rd.pick_t rfl h_6) ?_; refine PL.nil ?_; refine thA_n ?_; refine PC.cond_true rfl rfl ?_; refine PC.seq ?_; refine PC.region ?_; (iterate 2 refine PL.op rfl (Rd.asnT rfl) ?_); refine PL.nil ?_; refine thA_n ?_; refine PC.ret ?_; refine thA_r ?_; obtain rfl := some_in hh0; exact FinA.mk (r := .tup [.os 0 0 (((([] : List I_Value), false).1).length), bA ((([] : List I_Value), false).2)]) (bl := [⟨.tr (eL ((([] : List I_Value), false).1)), 39, 3⟩]) [none] (.inl rfl) rfl (rl := [.tmp 10, .tmp 11]) (.tmp (.tmp .nil)) rfl rfl rfl (.tupL ⟨.osn rfl, .t _, trivial⟩) ⟨ow_nil _, trivial⟩ ⟨rfl, rfl⟩
  obtain ⟨x7, h_8, hh0⟩ := bind_some hh0; obtain ⟨r9, h_10, hh0⟩ := bind_some hh0; refine PC.region ?_; refine PL.op rfl (Rd.moveT rfl) ?_; refine PL.op rfl (Rd.unnot rfl) ?_; refine PL.op rfl (Rd.moveT rfl) ?_; refine PL.guard_on rfl (not_t h_3) ?_; refine PL.op rfl (Rd.moveT rfl) ?_; refine PL.guard_on rfl (not_t h_3) ?_; refine PL.op rfl (Rd.lss rfl rfl) ?_; refine PL.op rfl (Rd.pick_f rfl (not_t h_3)) ?_; refine PL.op rfl (Rd.moveT rfl) ?_; refine PL.guard_on rfl h_4 ?_; refine PL.op rfl (Rd.moveT rfl) ?_; refine PL.guard_on rfl h_4 ?_; refine PL.op rfl (Rd.moveT rfl) ?_; refine PL.guard_on rfl h_4 ?_; refine PL.op rfl (Rd.lss rfl rfl) ?_; refine PL.op rfl (Rd.pick_f rfl h_4) ?_; refine PL.op rfl (Rd.moveT rfl) ?_; refine PL.guard_on rfl h_5 ?_; refine PL.op rfl (Rd.moveT rfl) ?_; refine PL.guard_on rfl h_5 ?_; refine PL.op rfl (Rd.moveO rfl) ?_; refine PL.guard_on rfl h_5 ?_; refine PL.op rfl (Rd.lenO rfl rfl) ?_; refine PL.guard_on rfl h_5 ?_; refine PL.op rfl (Rd.geq rfl rfl) ?_; refine PL.op rfl (Rd.pick_f rfl h_5) ?_; refine PL.op rfl (Rd.moveT rfl) ?_; refine PL.guard_on rfl h_6 ?_; refine PL.op rfl (Rd.moveO rfl) ?_; refine PL.guard_on rfl h_6 ?_; refine PL.op rfl (Rd.moveT rfl) ?_; refine PL.guard_on rfl h_6 ?_; refine PL.op rfl (Rd.ixOM rfl rfl rfl (ixI_lt h_8)) ?_; refine PL.guard_on rfl h_6 ?_; refine PL.op rfl (Rd.owM1 rfl rfl h_8 rfl rfl) ?_; refine PL.guard_on rfl h_6 ?_; refine PL.op rfl (Rd.moveT rfl) ?_; refine PL.guard_on rfl h_6 ?_; refine PL.callM false [] (w_I_RowFits N x7 p_row r9 h_10) rfl Tryz.call105 rfl ⟨.t _, .t _, trivial⟩ rfl trivial (fun h => by cases h) ?_; refine PL.guard_on rfl h_6 ?_; refine PL.op rfl (Rd.unnot rfl) ?_; refine PL.op rfl (Rd.pick_f rfl h_6) ?_; refine PL.nil ?_; refine thA_n ?_; rcases cond_some hh0 with ⟨h_11, hh0⟩ | ⟨h_11, hh0⟩; rotate_left
  · refine PC.cond_true rfl (not_f h_11) ?_; refine PC.seq ?_; refine PC.region ?_; (iterate 2 refine PL.op rfl (Rd.asnT rfl) ?_); refine PL.nil ?_; refine thA_n ?_; refine PC.ret ?_; refine thA_r ?_; obtain rfl := some_in hh0; exact FinA.mk (r := .tup [.os 0 0 (((([] : List I_Value), false).1).length), bA ((([] : List I_Value), false).2)]) (bl := [⟨.tr (eL ((([] : List I_Value), false).1)), 39, 3⟩]) [none] (.inl rfl) rfl (rl := [.tmp 10, .tmp 11]) (.tmp (.tmp .nil)) rfl rfl rfl (.tupL ⟨.osn rfl, .t _, trivial⟩) ⟨ow_nil _, trivial⟩ ⟨rfl, rfl⟩
  refine PC.cond_false rfl (not_t h_11) ?_; refine PC.skip ?_; refine thA_n ?_; refine PC.seq ?_; obtain ⟨r12, h_13, hh0⟩ := bind_some hh0; refine PC.region ?_; refine PL.op rfl (Rd.moveT rfl) ?_; refine PL.callM false [] (w_slices_Clone_I_Value N p_row r12 h_13) rfl Tryz.call100 rfl ⟨.t _, trivial⟩ rfl trivial (fun h => by cases h) ?_; refine PL.nm (.os 1 0 r12.length) [some ⟨.tr (eL r1.1), 33, 1⟩, some ⟨.tr (eL r12), 39, 3⟩] rfl rfl ?_; refine PL.op rfl (Rd.asnO rfl) ?_; refine PL.nil ?_; refine thA_n ?_; (iterate 2 refine PC.seq ?_); refine PC.region ?_; refine PL.op rfl (Rd.moveT rfl) ?_; refine PL.op rfl (Rd.asnT rfl) ?_; refine PL.nil ?_; refine thA_n ?_; obtain ⟨o27, h_28, hh0⟩ := bind_some hh0; refine PC.cutE hs (fun x : (List I_Value) => [(14, .os 0 0 x.length)]) (fun x => [⟨.tr (eL x), 39, 3⟩]) (fun x => m_I_ReadRow_k1 N x = some r) ?_ ?_
  · refine PC.block ?_; refine PC.loop hs (fun x : Nat × (Int × (List I_Value)) => [(1, sL p_list), (3, iA p_to), (12, .os 0 0 r1.1.length), (14, .os 1 0 x.2.2.length), (15, iA x.2.1)]) (fun x => [⟨.tr (eL r1.1), 33, 1⟩, ⟨.tr (eL x.2.2), 39, 3⟩]) (fun x => loopM (β := (List I_Value) ⊕ ((List I_Value) × Bool)) (fun s : Int × (List I_Value) => m_I_ReadRow_b1 N p_list p_to r1 s.1 s.2) x.1 x.2 = some o27) (fun x => x.1) (N, (p_from, r12)) [some 0, some 1] ⟨rfl, rfl, ⟨⟨_, rfl, rfl, rfl, .tr _⟩, ⟨_, rfl, rfl, rfl, .tr _⟩, trivial⟩, ⟨.t _, .t _, .os rfl, .os rfl, .t _, trivial⟩⟩ h_28 ?_
    rintro ⟨f29_, i14, v15⟩ h_31
    obtain ⟨f29, y30, rfl, hh1, kk1⟩ := loopM_some h_31
    replace hh1 : m_I_ReadRow_b1 N p_list p_to r1 i14 v15 = some y30 := hh1
    unfold m_I_ReadRow_b1 at hh1; (iterate 2 refine PC.seq ?_); refine PC.region ?_; (iterate 2 refine PL.op rfl (Rd.moveT rfl) ?_); refine PL.op rfl (Rd.lss rfl rfl) ?_; refine PL.nil ?_; refine thA_n ?_; rcases cond_some hh1 with ⟨h_32, hh1⟩ | ⟨h_32, hh1⟩; rotate_left
    · refine PC.cond_false rfl h_32 ?_; refine PC.exit ?_; (iterate 2 refine thA_e ?_); refine inA_eq rfl ?_; refine thA_n ?_; obtain rfl := some_in hh1; obtain rfl : (.inl v15 : (List I_Value) ⊕ ((List I_Value) × Bool)) = o27 := kk1; exact ⟨v15, hh0, [some 1], ⟨rfl, rfl, ⟨⟨_, rfl, rfl, rfl, .tr _⟩, trivial⟩, ⟨.os rfl, trivial⟩⟩⟩
    refine PC.cond_true rfl h_32 ?_; refine PC.skip ?_; refine thA_n ?_; refine PC.seq ?_; refine PC.block ?_; refine PC.seq ?_; obtain ⟨x33, h_34, hh1⟩ := bind_some hh1; obtain ⟨x35, h_36, hh1⟩ := bind_some hh1; obtain ⟨r37, h_38, hh1⟩ := bind_some hh1; refine PC.any (id := 8) 15 (.seg [0, 1, 2, 3, 4, 5, 6, 7, 8, 9, 10, 11, 12, 13, 14] .done) [] rfl (by kernel_rfl) rfl ?_; refine PT.seg ?_; refine PR.op rfl (Rd.moveO rfl) ?_; refine PR.op rfl (Rd.moveT rfl) ?_; refine PR.ixOM rfl rfl rfl rfl (ixI_lt h_34) ?_; refine PR.op rfl (Rd.owM1 rfl rfl h_34 rfl rfl) ?_; refine PR.op rfl (Rd.moveO rfl) ?_; (iterate 2 refine PR.op rfl (Rd.moveT rfl) ?_); refine PR.op rfl (Rd.ixM rfl rfl h_36) ?_; refine PR.op rfl (Rd.elMR rfl h_36 rfl rfl) ?_; refine PR.callM true [] (w_I_ChangeRow N x33 v15 x35 r37 h_38) rfl Tryz.call132 rfl ⟨.t _, .own rfl (by first | decide | exact List.not_mem_nil) rfl rfl, .aggL ⟨.t _, .t _, .t _, .t _, .t _, .t _, trivial⟩, trivial⟩ rfl trivial (fun _ => ⟨⟨trivial, trivial, trivial⟩, (flat_cons flat_ow flat_nil)⟩) rfl ?_; refine PR.nm (.tup [.os 2 0 r37.1.length, bA r37.2]) [some ⟨.tr (eL r1.1), 33, 1⟩, some ⟨.tr (eL v15), 39, 3⟩, some ⟨.tr (eL r37.1), 39, 3⟩] rfl rfl ?_; refine PR.op rfl (Rd.moveU rfl) ?_; (iterate 2 refine PR.op rfl (Rd.extract rfl rfl) ?_); refine PR.op rfl (Rd.asnO rfl) ?_; refine PR.op rfl (Rd.asnT rfl) ?_; refine PR.nil ?_; refine PT.done ?_; refine PL.nil ?_; refine thA_n ?_; refine PC.seq ?_; refine PC.region ?_; refine PL.op rfl (Rd.moveT rfl) ?_; refine PL.op rfl (Rd.unnot rfl) ?_; refine PL.nil ?_; refine thA_n ?_; rcases cond_some hh1 with ⟨h_39, hh1⟩ | ⟨h_39, hh1⟩
    · refine PC.cond_false rfl (not_t h_39) ?_; refine PC.skip ?_; refine inA_n ?_; refine thA_n ?_; obtain ⟨n40, h_41, hh1⟩ := bind_some hh1; refine PC.region ?_; refine PL.op rfl (Rd.moveT rfl) ?_; refine PL.op rfl (Rd.addM rfl rfl h_41) ?_; refine PL.op rfl (Rd.asnT rfl) ?_; refine PL.nil ?_; obtain rfl := some_in hh1; refine thA_n ?_; exact ⟨(f29, (n40, r37.1)), Nat.lt_succ_self _, kk1, [some 0, some 2], ⟨rfl, rfl, ⟨⟨_, rfl, rfl, rfl, .tr _⟩, ⟨_, rfl, rfl, rfl, .tr _⟩, trivial⟩, ⟨.t _, .t _, .os rfl, .os rfl, .t _, trivial⟩⟩⟩
    refine PC.cond_true rfl (not_f h_39) ?_; refine PC.seq ?_; refine PC.region ?_; (iterate 2 refine PL.op rfl (Rd.asnT rfl) ?_); refine PL.nil ?_; refine thA_n ?_; refine PC.ret ?_; refine inA_r ?_; (iterate 2 refine thA_r ?_); refine inA_r ?_; refine thA_r ?_; obtain rfl := some_in hh1; obtain rfl : (.inr (([] : List I_Value), false) : (List I_Value) ⊕ ((List I_Value) × Bool)) = o27 := kk1; refine thA_r ?_; obtain rfl := some_in hh0; exact FinA.mk (r := .tup [.os 0 0 (((([] : List I_Value), false).1).length), bA ((([] : List I_Value), false).2)]) (bl := [⟨.tr (eL ((([] : List I_Value), false).1)), 39, 3⟩]) [none] (.inl rfl) rfl (rl := [.tmp 10, .tmp 11]) (.tmp (.tmp .nil)) rfl rfl rfl (.tupL ⟨.osn rfl, .t _, trivial⟩) ⟨ow_nil _, trivial⟩ ⟨rfl, rfl⟩
  clear hh0
  rintro v26 hh0
  replace hh0 : m_I_ReadRow_k1 N v26 = some r := hh0
  unfold m_I_ReadRow_k1 at hh0; refine thA_n ?_; refine PC.seq ?_; refine PC.region ?_; refine PL.op rfl (Rd.moveO rfl) ?_; refine PL.op rfl (Rd.asnO rfl) ?_; refine PL.op rfl (Rd.asnT rfl) ?_; refine PL.nil ?_; refine thA_n ?_; refine PC.ret ?_; obtain rfl := some_in hh0; exact FinA.mk (r := .tup [.os 0 0 (((v26, true).1).length), bA ((v26, true).2)]) (bl := [⟨.tr (eL ((v26, true).1)), 39, 3⟩]) [some 0] (.inl rfl) rfl (rl := [.tmp 10, .tmp 11]) (.tmp (.tmp .nil)) rfl rfl rfl (.tupL ⟨.os rfl, .t _, trivial⟩) ⟨⟨_, rfl, rfl, rfl, .tr _⟩, trivial⟩ ⟨rfl, rfl⟩
def m_I_Table_read (N : Nat) (p_t : I_Table) (p_r : I_Tagged) : Option ((List I_Value)) :=
  (m_I_Table_last N p_t).bind fun r1 =>
  (m_I_ReadRow N p_t.first p_t.changes p_r.tag r1 p_r.row).bind fun r3 =>
  some r3.1
theorem w_I_Table_read (N : Nat) (p_t : I_Table) (p_r : I_Tagged) (r : (List I_Value)) (hh0 : m_I_Table_read N p_t p_r = some r) : FnX Tryz.prog 63 [] [.agg [sL p_t.first, sL p_t.changes, sL p_t.rows], .agg [iA p_r.tag, sL p_r.row]] (RE (.os 0 0 r.length) [⟨.tr (eL r), 39, 3⟩]) := by
  unfold m_I_Table_read at hh0; refine FnX.mk Tryz.func63 rfl rfl ?_; intro s hs; refine PC.seq ?_; refine PC.region ?_; refine PL.ef rfl (Ef.box rfl rfl rfl) ?_; refine PL.nm (.op 0 0) [some ⟨.mx [sL p_t.first, sL p_t.changes, sL p_t.rows], 37, 0⟩] rfl rfl ?_; refine PL.ef rfl (Ef.box rfl rfl rfl) ?_; refine PL.nm (.op 1 0) [some ⟨.mx [sL p_t.first, sL p_t.changes, sL p_t.rows], 37, 0⟩, some ⟨.mx [iA p_r.tag, sL p_r.row], 96, 0⟩] rfl rfl ?_; refine PL.op rfl (Rd.asnT rfl) ?_; refine PL.nil ?_; refine thA_n ?_; refine PC.seq ?_; obtain ⟨r1, h_2, hh0⟩ := bind_some hh0; obtain ⟨r3, h_4, hh0⟩ := bind_some hh0; refine PC.any (id := 1) 16 (.seg [0, 1, 2, 3, 4, 5, 8, 9, 6, 7, 10, 11, 12, 13, 14, 15] .done) [] rfl (by kernel_rfl) rfl ?_; refine PT.seg ?_; refine PR.op rfl (Rd.fieldO rfl rfl) ?_; refine PR.op rfl (Rd.loadO rfl rfl rfl) ?_; refine PR.op rfl (Rd.fieldO rfl rfl) ?_; refine PR.op rfl (Rd.loadO rfl rfl rfl) ?_; refine PR.op rfl (Rd.fieldO rfl rfl) ?_; refine PR.op rfl (Rd.loadO rfl rfl rfl) ?_; refine PR.op rfl (Rd.fieldO rfl rfl) ?_; refine PR.op rfl (Rd.loadO rfl rfl rfl) ?_; refine PR.rdE rfl rfl (Rd.loadBox rfl rfl rfl) ?_; refine PR.callM false [] (w_I_Table_last N p_t r1 h_2) rfl Tryz.call62 rfl ⟨.aggL ⟨.t _, .t _, .t _, trivial⟩, trivial⟩ rfl trivial (fun h => by cases h) rfl ?_; refine PR.callM false [] (w_I_ReadRow N p_t.first p_t.changes p_r.tag r1 p_r.row r3 h_4) rfl Tryz.call101 rfl ⟨.t _, .t _, .t _, .t _, .t _, trivial⟩ rfl trivial (fun h => by cases h) rfl ?_; refine PR.nm (.tup [.os 2 0 r3.1.length, bA r3.2]) [some ⟨.mx [sL p_t.first, sL p_t.changes, sL p_t.rows], 37, 0⟩, some ⟨.mx [iA p_r.tag, sL p_r.row], 96, 0⟩, some ⟨.tr (eL r3.1), 39, 3⟩] rfl rfl ?_; refine PR.op rfl (Rd.moveU rfl) ?_; (iterate 2 refine PR.op rfl (Rd.extract rfl rfl) ?_); refine PR.op rfl (Rd.asnO rfl) ?_; refine PR.op rfl (Rd.asnT rfl) ?_; refine PR.nil ?_; refine PT.done ?_; refine PL.nil ?_; refine thA_n ?_; refine PC.seq ?_; refine PC.region ?_; refine PL.op rfl (Rd.moveO rfl) ?_; refine PL.op rfl (Rd.asnO rfl) ?_; refine PL.nil ?_; refine thA_n ?_; refine PC.ret ?_; obtain rfl := some_in hh0; exact FinA.mk (r := .os 0 0 r3.1.length) (bl := [⟨.tr (eL r3.1), 39, 3⟩]) [some 2] (.inl rfl) rfl (rl := [.tmp 4]) (.tmp .nil) rfl rfl rfl (.os rfl) ⟨⟨_, rfl, rfl, rfl, .tr _⟩, trivial⟩ ⟨rfl, rfl⟩
def m_I_TableRows_k1 (N : Nat) (v15 : (List (List I_Value))) : Option ((List (List I_Value))) :=
  some v15
def m_I_TableRows_b1 (N : Nat) (p_t : I_Table) (i4 : Int) (v5 : (List (List I_Value))) : Option ((Int × (List (List I_Value))) ⊕ (List (List I_Value))) :=
  cond (decide (i4 < (p_t.rows.length : Int)))
    ((ixI p_t.rows i4).bind fun x22 =>
    (m_I_Table_read N p_t x22).bind fun r24 =>
    (appM 24 v5 [r24]).bind fun xs26 =>
    (chk (i4 + (1 : Int))).bind fun n28 =>
    some (.inl (n28, xs26)))
    (some (.inr v5))
def m_I_TableRows (N : Nat) (p_t : I_Table) : Option ((List (List I_Value))) :=
  (m_I_ValidTable N p_t).bind fun r1 =>
  cond r1
    ((loopM (β := (List (List I_Value))) (fun s : Int × (List (List I_Value)) => m_I_TableRows_b1 N p_t s.1 s.2) N ((0 : Int), ([] : List (List I_Value)))).bind fun e =>
    m_I_TableRows_k1 N e)
    (some ([] : List (List I_Value)))
theorem w_I_TableRows (N : Nat) (p_t : I_Table) (r : (List (List I_Value))) (hh0 : m_I_TableRows N p_t = some r) : FnX Tryz.prog 83 [] [.agg [sL p_t.first, sL p_t.changes, sL p_t.rows]] (RE (.os 0 0 r.length) [⟨.tr (eL r), 71, 1⟩]) := by
  unfold m_I_TableRows at hh0; refine FnX.mk Tryz.func83 rfl rfl ?_; intro s hs; refine PC.seq ?_; refine PC.region ?_; refine PL.ef rfl (Ef.box rfl rfl rfl) ?_; refine PL.nm (.op 0 0) [some ⟨.mx [sL p_t.first, sL p_t.changes, sL p_t.rows], 37, 0⟩] rfl rfl ?_; refine PL.op rfl (Rd.asnT rfl) ?_; refine PL.nil ?_; refine thA_n ?_; (iterate 2 refine PC.seq ?_); obtain ⟨r1, h_2, hh0⟩ := bind_some hh0; refine PC.region ?_; refine PL.op rfl (Rd.loadBox rfl rfl rfl) ?_; refine PL.callM false [] (w_I_ValidTable N p_t r1 h_2) rfl Tryz.call28 rfl ⟨.aggL ⟨.t _, .t _, .t _, trivial⟩, trivial⟩ rfl trivial (fun h => by cases h) ?_; refine PL.op rfl (Rd.unnot rfl) ?_; refine PL.nil ?_; refine thA_n ?_; rcases cond_some hh0 with ⟨h_3, hh0⟩ | ⟨h_3, hh0⟩; rotate_left
  · refine PC.cond_true rfl (not_f h_3) ?_; refine PC.seq ?_; refine PC.region ?_; refine PL.op rfl (Rd.asnT rfl) ?_; refine PL.nil ?_; refine thA_n ?_; refine PC.ret ?_; refine thA_r ?_; obtain rfl := some_in hh0; exact FinA.mk (r := .os 0 0 0) (bl := [⟨.tr (eL ([] : List (List I_Value))), 71, 1⟩]) [none] (.inl rfl) rfl (rl := [.tmp 2]) (.tmp .nil) rfl rfl rfl (.osn rfl) ⟨ow_nil _, trivial⟩ ⟨rfl, rfl⟩
  refine PC.cond_false rfl (not_t h_3) ?_; refine PC.skip ?_; refine thA_n ?_; refine PC.seq ?_; refine PC.region ?_; refine PL.op rfl (Rd.asnT rfl) ?_; refine PL.nil ?_; refine thA_n ?_; (iterate 2 refine PC.seq ?_); refine PC.region ?_; refine PL.op rfl (Rd.fieldO rfl rfl) ?_; refine PL.op rfl (Rd.loadO rfl rfl rfl) ?_; refine PL.op rfl (Rd.lenT rfl) ?_; refine PL.op rfl (Rd.moveT rfl) ?_; refine PL.nil ?_; refine thA_n ?_; obtain ⟨o16, h_17, hh0⟩ := bind_some hh0; refine PC.cutE hs (fun x : (List (List I_Value)) => [(3, .os 0 0 x.length)]) (fun x => [⟨.tr (eL x), 71, 1⟩]) (fun x => m_I_TableRows_k1 N x = some r) ?_ ?_
  · refine PC.block ?_; refine PC.loop hs (fun x : Nat × (Int × (List (List I_Value))) => [(1, .op 0 0), (3, .os 1 0 x.2.2.length), (10, sL p_t.rows), (11, iA (p_t.rows.length : Int)), (12, iA x.2.1)]) (fun x => [⟨.mx [sL p_t.first, sL p_t.changes, sL p_t.rows], 37, 0⟩, ⟨.tr (eL x.2.2), 71, 1⟩]) (fun x => loopM (β := (List (List I_Value))) (fun s : Int × (List (List I_Value)) => m_I_TableRows_b1 N p_t s.1 s.2) x.1 x.2 = some o16) (fun x => x.1) (N, ((0 : Int), ([] : List (List I_Value)))) [some 0, none] ⟨rfl, rfl, ⟨⟨_, rfl, rfl, rfl, .mx ⟨.t _, .t _, .t _, trivial⟩⟩, ow_nil _, trivial⟩, ⟨.op rfl, .osn rfl, .t _, .t _, .t _, trivial⟩⟩ h_17 ?_
    rintro ⟨f18_, i4, v5⟩ h_20
    obtain ⟨f18, y19, rfl, hh1, kk1⟩ := loopM_some h_20
    replace hh1 : m_I_TableRows_b1 N p_t i4 v5 = some y19 := hh1
    unfold m_I_TableRows_b1 at hh1; refine PC.seq ?_; refine PC.region ?_; refine PL.op rfl (Rd.lss rfl rfl) ?_; refine PL.nil ?_; refine thA_n ?_; refine PC.seq ?_; rcases cond_some hh1 with ⟨h_21, hh1⟩ | ⟨h_21, hh1⟩; rotate_left
    · refine PC.cond_false rfl h_21 ?_; refine PC.exit ?_; (iterate 2 refine thA_e ?_); refine inA_eq rfl ?_; refine thA_n ?_; obtain rfl := some_in hh1; obtain rfl : (v5 : (List (List I_Value))) = o16 := kk1; exact ⟨v5, hh0, [some 1], ⟨rfl, rfl, ⟨⟨_, rfl, rfl, rfl, .tr _⟩, trivial⟩, ⟨.os rfl, trivial⟩⟩⟩
    refine PC.cond_true rfl h_21 ?_; refine PC.skip ?_; refine thA_n ?_; refine PC.seq ?_; refine PC.block ?_; refine PC.seq ?_; obtain ⟨x22, h_23, hh1⟩ := bind_some hh1; refine PC.region ?_; refine PL.op rfl (Rd.ixM rfl rfl h_23) ?_; refine PL.op rfl (Rd.elMR rfl h_23 rfl rfl) ?_; refine PL.ef rfl (Ef.alloc rfl rfl) ?_; refine PL.nm (.op 2 0) [some ⟨.mx [sL p_t.first, sL p_t.changes, sL p_t.rows], 37, 0⟩, some ⟨.tr (eL v5), 71, 1⟩, some ⟨.mx [iA (0 : Int), .t (.v (.slice none 0 0))], 96, 0⟩] rfl rfl ?_; refine PL.store rfl rfl rfl rfl rfl rfl rfl ?_; refine PL.nO [some ⟨.mx [sL p_t.first, sL p_t.changes, sL p_t.rows], 37, 0⟩, some ⟨.tr (eL v5), 71, 1⟩, some ⟨.mx [iA x22.tag, sL x22.row], 96, 0⟩] rfl ?_; refine PL.nil ?_; refine thA_n ?_; obtain ⟨r24, h_25, hh1⟩ := bind_some hh1; obtain ⟨xs26, h_27, hh1⟩ := bind_some hh1; refine PC.region ?_; refine PL.op rfl (Rd.moveO rfl) ?_; (iterate 2 refine PL.op rfl (Rd.loadBox rfl rfl rfl) ?_); refine PL.callM false [] (w_I_Table_read N p_t x22 r24 h_25) rfl Tryz.call63 rfl ⟨.aggL ⟨.t _, .t _, .t _, trivial⟩, .aggL ⟨.t _, .t _, trivial⟩, trivial⟩ rfl trivial (fun h => by cases h) ?_; refine PL.nm (.os 3 0 r24.length) [some ⟨.mx [sL p_t.first, sL p_t.changes, sL p_t.rows], 37, 0⟩, some ⟨.tr (eL v5), 71, 1⟩, some ⟨.mx [iA x22.tag, sL x22.row], 96, 0⟩, some ⟨.tr (eL r24), 39, 3⟩] rfl rfl ?_; refine PL.frz hs 3 4 [(19, sL r24)] [some ⟨.mx [sL p_t.first, sL p_t.changes, sL p_t.rows], 37, 0⟩, some ⟨.tr (eL v5), 71, 1⟩, some ⟨.mx [iA x22.tag, sL x22.row], 96, 0⟩, none] rfl rfl ⟨(.own rfl (by decide) rfl rfl), trivial⟩ ⟨⟨rfl, .inl rfl⟩, ⟨rfl, .inl rfl⟩, ⟨rfl, .inl rfl⟩, trivial⟩ ?_; refine PL.ef rfl (Ef.litM (α := (List I_Value)) [r24] [_] rfl rfl (by decide) rfl rfl rfl rfl) ?_; refine PL.nm (.os 4 0 1) [some ⟨.mx [sL p_t.first, sL p_t.changes, sL p_t.rows], 37, 0⟩, some ⟨.tr (eL v5), 71, 1⟩, some ⟨.mx [iA x22.tag, sL x22.row], 96, 0⟩, none, some ⟨.tr (eL [r24]), 71, 1⟩] rfl rfl ?_; refine PL.apM hs rfl rfl rfl rfl (SrcA.ownE rfl rfl rfl) rfl rfl rfl rfl h_27 ?_; refine PL.nm (.os 5 0 xs26.length) [some ⟨.mx [sL p_t.first, sL p_t.changes, sL p_t.rows], 37, 0⟩, none, some ⟨.mx [iA x22.tag, sL x22.row], 96, 0⟩, none, some ⟨.tr (eL [r24]), 71, 1⟩, some ⟨.tr (eL xs26), 71, 1⟩] rfl rfl ?_; refine PL.op rfl (Rd.asnO rfl) ?_; refine PL.nil ?_; refine inA_n ?_; refine thA_n ?_; obtain ⟨n28, h_29, hh1⟩ := bind_some hh1; refine PC.region ?_; refine PL.op rfl (Rd.addM rfl rfl h_29) ?_; refine PL.op rfl (Rd.moveT rfl) ?_; refine PL.nil ?_; obtain rfl := some_in hh1; refine thA_n ?_; exact ⟨(f18, (n28, xs26)), Nat.lt_succ_self _, kk1, [some 0, some 5], ⟨rfl, rfl, ⟨⟨_, rfl, rfl, rfl, .mx ⟨.t _, .t _, .t _, trivial⟩⟩, ⟨_, rfl, rfl, rfl, .tr _⟩, trivial⟩, ⟨.op rfl, .os rfl, .t _, .t _, .t _, trivial⟩⟩⟩
  clear hh0
  rintro v15 hh0
  replace hh0 : m_I_TableRows_k1 N v15 = some r := hh0
  unfold m_I_TableRows_k1 at hh0; refine thA_n ?_; refine PC.seq ?_; refine PC.region ?_; refine PL.op rfl (Rd.moveO rfl) ?_; refine PL.op rfl (Rd.asnO rfl) ?_; refine PL.nil ?_; refine thA_n ?_; refine PC.ret ?_; obtain rfl := some_in hh0; exact FinA.mk (r := .os 0 0 v15.length) (bl := [⟨.tr (eL v15), 71, 1⟩]) [some 0] (.inl rfl) rfl (rl := [.tmp 2]) (.tmp .nil) rfl rfl rfl (.os rfl) ⟨⟨_, rfl, rfl, rfl, .tr _⟩, trivial⟩ ⟨rfl, rfl⟩
def m_S_move (N : Nat) (p_row : (List I_Value)) (p_c : I_Change) : Option ((List I_Value)) :=
  (V.subM p_row (0 : Int) p_c.at_).bind fun xs1 =>
  (appM 32 ([] : List I_Value) xs1).bind fun xs3 =>
  cond (decide (p_c.kind = (1 : Int)))
    ((appM 32 xs3 [p_c.column.default]).bind fun xs6 =>
    (V.subM p_row p_c.at_ (p_row.length : Int)).bind fun xs8 =>
    (appM 32 xs6 xs8).bind fun xs10 =>
    some xs10)
    (cond (decide (p_c.kind = (3 : Int)))
      ((ixI p_row p_c.at_).bind fun x13 =>
      (m_S_widen N x13).bind fun r15 =>
      (appM 32 xs3 [r15]).bind fun xs17 =>
      (chk (p_c.at_ + (1 : Int))).bind fun n19 =>
      (V.subM p_row n19 (p_row.length : Int)).bind fun xs21 =>
      (appM 32 xs17 xs21).bind fun xs23 =>
      some xs23)
      ((chk (p_c.at_ + (1 : Int))).bind fun n25 =>
      (V.subM p_row n25 (p_row.length : Int)).bind fun xs27 =>
      (appM 32 xs3 xs27).bind fun xs29 =>
      some xs29))
theorem w_S_move (N : Nat) (p_row : (List I_Value)) (p_c : I_Change) (r : (List I_Value)) (hh0 : m_S_move N p_row p_c = some r) : FnX Tryz.prog 112 [] [sL p_row, .agg [iA p_c.kind, iA p_c.at_, iA p_c.column.kind, iA p_c.column.default.kind, iA p_c.column.default.num, sA p_c.column.default.text]] (RE (.os 0 0 r.length) [⟨.tr (eL r), 39, 3⟩]) := by
  unfold m_S_move at hh0; refine FnX.mk Tryz.func112 rfl rfl ?_; intro s hs; refine PC.seq ?_; refine PC.region ?_; refine PL.ef rfl (Ef.box rfl rfl rfl) ?_; refine PL.nm (.op 0 0) [some ⟨.mx [iA p_c.kind, iA p_c.at_, iA p_c.column.kind, iA p_c.column.default.kind, iA p_c.column.default.num, sA p_c.column.default.text], 128, 0⟩] rfl rfl ?_; refine PL.op rfl (Rd.asnT rfl) ?_; refine PL.nil ?_; refine thA_n ?_; refine PC.seq ?_; obtain ⟨xs1, h_2, hh0⟩ := bind_some hh0; obtain ⟨xs3, h_4, hh0⟩ := bind_some hh0; refine PC.region ?_; refine PL.ef rfl (Ef.lit0M I_Value) ?_; refine PL.nm (.os 1 0 0) [some ⟨.mx [iA p_c.kind, iA p_c.at_, iA p_c.column.kind, iA p_c.column.default.kind, iA p_c.column.default.num, sA p_c.column.default.text], 128, 0⟩, some ⟨.tr (eL ([] : List I_Value)), 39, 3⟩] rfl rfl ?_; refine PL.op rfl (Rd.moveT rfl) ?_; refine PL.op rfl (Rd.fieldO rfl rfl) ?_; refine PL.op rfl (Rd.loadO rfl rfl rfl) ?_; refine PL.op rfl (Rd.subTMH rfl rfl h_2) ?_; refine PL.apM hs rfl rfl rfl rfl (SrcA.eL rfl) rfl rfl rfl rfl h_4 ?_; refine PL.nm (.os 2 0 xs3.length) [some ⟨.mx [iA p_c.kind, iA p_c.at_, iA p_c.column.kind, iA p_c.column.default.kind, iA p_c.column.default.num, sA p_c.column.default.text], 128, 0⟩, none, some ⟨.tr (eL xs3), 39, 3⟩] rfl rfl ?_; refine PL.op rfl (Rd.asnO rfl) ?_; refine PL.nil ?_; refine thA_n ?_; (iterate 2 refine PC.seq ?_); refine PC.region ?_; refine PL.op rfl (Rd.fieldO rfl rfl) ?_; refine PL.op rfl (Rd.loadO rfl rfl rfl) ?_; refine PL.nil ?_; refine thA_n ?_; refine PC.block ?_; refine PC.seq ?_; refine PC.region ?_; refine PL.op rfl (Rd.eql rfl rfl) ?_; refine PL.op rfl (Rd.asnT rfl) ?_; refine PL.nil ?_; refine thA_n ?_; rcases cond_some hh0 with ⟨h_5, hh0⟩ | ⟨h_5, hh0⟩
  · refine PC.cond_true rfl h_5 ?_; refine PC.seq ?_; obtain ⟨xs6, h_7, hh0⟩ := bind_some hh0; obtain ⟨xs8, h_9, hh0⟩ := bind_some hh0; obtain ⟨xs10, h_11, hh0⟩ := bind_some hh0; refine PC.any (id := 4) 12 (.seg [0, 1, 2, 3, 6, 7, 8, 9, 4, 5, 10, 11] .done) [2] rfl (by kernel_rfl) rfl ?_; refine PT.seg ?_; refine PR.op rfl (Rd.moveO rfl) ?_; (iterate 2 refine PR.op rfl (Rd.fieldO rfl rfl) ?_); refine PR.op rfl (Rd.loadSub rfl rfl rfl rfl) ?_; refine PR.op rfl (Rd.moveT rfl) ?_; refine PR.op rfl (Rd.fieldO rfl rfl) ?_; refine PR.op rfl (Rd.loadO rfl rfl rfl) ?_; refine PR.op rfl (Rd.subTML rfl rfl h_9) ?_; refine PR.ef rfl rfl (Ef.litM (α := I_Value) [p_c.column.default] [_] rfl rfl (by decide) rfl rfl rfl rfl) ?_; refine PR.nm (.os 3 0 1) [some ⟨.mx [iA p_c.kind, iA p_c.at_, iA p_c.column.kind, iA p_c.column.default.kind, iA p_c.column.default.num, sA p_c.column.default.text], 128, 0⟩, none, some ⟨.tr (eL xs3), 39, 3⟩, some ⟨.tr (eL [p_c.column.default]), 39, 3⟩] rfl rfl ?_; refine PR.apMX hs rfl rfl rfl rfl (SrcA.ownE rfl rfl rfl) rfl rfl rfl rfl rfl h_7 ?_; refine PR.nm (.os 4 0 xs6.length) [some ⟨.mx [iA p_c.kind, iA p_c.at_, iA p_c.column.kind, iA p_c.column.default.kind, iA p_c.column.default.num, sA p_c.column.default.text], 128, 0⟩, none, none, some ⟨.tr (eL [p_c.column.default]), 39, 3⟩, some ⟨.tr (eL xs6), 39, 3⟩] rfl rfl ?_; refine PR.apM hs rfl rfl rfl rfl (SrcA.eL rfl) rfl rfl rfl rfl rfl h_11 ?_; refine PR.nm (.os 5 0 xs10.length) [some ⟨.mx [iA p_c.kind, iA p_c.at_, iA p_c.column.kind, iA p_c.column.default.kind, iA p_c.column.default.num, sA p_c.column.default.text], 128, 0⟩, none, none, some ⟨.tr (eL [p_c.column.default]), 39, 3⟩, none, some ⟨.tr (eL xs10), 39, 3⟩] rfl rfl ?_; refine PR.op rfl (Rd.asnO rfl) ?_; refine PR.nil ?_; refine PT.done ?_; refine PL.nil ?_; refine thA_n ?_; refine PC.ret ?_; refine inA_r ?_; refine thA_r ?_; obtain rfl := some_in hh0; exact FinA.mk (r := .os 0 0 xs10.length) (bl := [⟨.tr (eL xs10), 39, 3⟩]) [some 5] (.inl rfl) rfl (rl := [.tmp 4]) (.tmp .nil) rfl rfl rfl (.os rfl) ⟨⟨_, rfl, rfl, rfl, .tr _⟩, trivial⟩ ⟨rfl, rfl⟩
  refine PC.cond_false rfl h_5 ?_; refine PC.seq ?_; refine PC.region ?_; refine PL.op rfl (Rd.eql rfl rfl) ?_; refine PL.op rfl (Rd.asnT rfl) ?_; refine PL.nil ?_; refine thA_n ?_; rcases cond_some hh0 with ⟨h_12, hh0⟩ | ⟨h_12, hh0⟩; rotate_left
  · refine PC.cond_false rfl h_12 ?_; refine PC.skip ?_; refine inA_n ?_; refine thA_n ?_; refine PC.seq ?_; obtain ⟨n25, h_26, hh0⟩ := bind_some hh0; obtain ⟨xs27, h_28, hh0⟩ := bind_some hh0; obtain ⟨xs29, h_30, hh0⟩ := bind_some hh0; refine PC.region ?_; refine PL.op rfl (Rd.moveO rfl) ?_; refine PL.op rfl (Rd.moveT rfl) ?_; refine PL.op rfl (Rd.fieldO rfl rfl) ?_; refine PL.op rfl (Rd.loadO rfl rfl rfl) ?_; refine PL.op rfl (Rd.addM rfl rfl h_26) ?_; refine PL.op rfl (Rd.subTML rfl rfl h_28) ?_; refine PL.apM hs rfl rfl rfl rfl (SrcA.eL rfl) rfl rfl rfl rfl h_30 ?_; refine PL.nm (.os 3 0 xs29.length) [some ⟨.mx [iA p_c.kind, iA p_c.at_, iA p_c.column.kind, iA p_c.column.default.kind, iA p_c.column.default.num, sA p_c.column.default.text], 128, 0⟩, none, none, some ⟨.tr (eL xs29), 39, 3⟩] rfl rfl ?_; refine PL.op rfl (Rd.asnO rfl) ?_; refine PL.nil ?_; refine thA_n ?_; refine PC.ret ?_; obtain rfl := some_in hh0; exact FinA.mk (r := .os 0 0 xs29.length) (bl := [⟨.tr (eL xs29), 39, 3⟩]) [some 3] (.inl rfl) rfl (rl := [.tmp 4]) (.tmp .nil) rfl rfl rfl (.os rfl) ⟨⟨_, rfl, rfl, rfl, .tr _⟩, trivial⟩ ⟨rfl, rfl⟩
  refine PC.cond_true rfl h_12 ?_; refine PC.seq ?_; obtain ⟨x13, h_14, hh0⟩ := bind_some hh0; obtain ⟨r15, h_16, hh0⟩ := bind_some hh0; obtain ⟨xs17, h_18, hh0⟩ := bind_some hh0; obtain ⟨n19, h_20, hh0⟩ := bind_some hh0; obtain ⟨xs21, h_22, hh0⟩ := bind_some hh0; obtain ⟨xs23, h_24, hh0⟩ := bind_some hh0; refine PC.any (id := 6) 16 (.seg [0, 1, 2, 3, 4, 5, 9, 10, 11, 12, 13, 6, 7, 8, 14, 15] .done) [2] rfl (by kernel_rfl) rfl ?_; refine PT.seg ?_; refine PR.op rfl (Rd.moveO rfl) ?_; refine PR.op rfl (Rd.moveT rfl) ?_; refine PR.op rfl (Rd.fieldO rfl rfl) ?_; refine PR.op rfl (Rd.loadO rfl rfl rfl) ?_; refine PR.op rfl (Rd.ixM rfl rfl h_14) ?_; refine PR.op rfl (Rd.elMR rfl h_14 rfl rfl) ?_; refine PR.op rfl (Rd.moveT rfl) ?_; refine PR.op rfl (Rd.fieldO rfl rfl) ?_; refine PR.op rfl (Rd.loadO rfl rfl rfl) ?_; refine PR.op rfl (Rd.addM rfl rfl h_20) ?_; refine PR.op rfl (Rd.subTML rfl rfl h_22) ?_; refine PR.callM false [] (w_S_widen N x13 r15 h_16) rfl Tryz.call145 rfl ⟨.aggL ⟨.t _, .t _, .t _, trivial⟩, trivial⟩ rfl trivial (fun h => by cases h) rfl ?_; refine PR.ef rfl rfl (Ef.litM (α := I_Value) [r15] [_] rfl rfl (by decide) rfl rfl rfl rfl) ?_; refine PR.nm (.os 3 0 1) [some ⟨.mx [iA p_c.kind, iA p_c.at_, iA p_c.column.kind, iA p_c.column.default.kind, iA p_c.column.default.num, sA p_c.column.default.text], 128, 0⟩, none, some ⟨.tr (eL xs3), 39, 3⟩, some ⟨.tr (eL [r15]), 39, 3⟩] rfl rfl ?_; refine PR.apMX hs rfl rfl rfl rfl (SrcA.ownE rfl rfl rfl) rfl rfl rfl rfl rfl h_18 ?_; refine PR.nm (.os 4 0 xs17.length) [some ⟨.mx [iA p_c.kind, iA p_c.at_, iA p_c.column.kind, iA p_c.column.default.kind, iA p_c.column.default.num, sA p_c.column.default.text], 128, 0⟩, none, none, some ⟨.tr (eL [r15]), 39, 3⟩, some ⟨.tr (eL xs17), 39, 3⟩] rfl rfl ?_; refine PR.apM hs rfl rfl rfl rfl (SrcA.eL rfl) rfl rfl rfl rfl rfl h_24 ?_; refine PR.nm (.os 5 0 xs23.length) [some ⟨.mx [iA p_c.kind, iA p_c.at_, iA p_c.column.kind, iA p_c.column.default.kind, iA p_c.column.default.num, sA p_c.column.default.text], 128, 0⟩, none, none, some ⟨.tr (eL [r15]), 39, 3⟩, none, some ⟨.tr (eL xs23), 39, 3⟩] rfl rfl ?_; refine PR.op rfl (Rd.asnO rfl) ?_; refine PR.nil ?_; refine PT.done ?_; refine PL.nil ?_; refine thA_n ?_; refine PC.ret ?_; refine inA_r ?_; refine thA_r ?_; obtain rfl := some_in hh0; exact FinA.mk (r := .os 0 0 xs23.length) (bl := [⟨.tr (eL xs23), 39, 3⟩]) [some 5] (.inl rfl) rfl (rl := [.tmp 4]) (.tmp .nil) rfl rfl rfl (.os rfl) ⟨⟨_, rfl, rfl, rfl, .tr _⟩, trivial⟩ ⟨rfl, rfl⟩
def m_S_advance_k1 (N : Nat) (v12 : (List I_Value)) : Option ((List I_Value)) :=
  some v12
def m_S_advance_b1 (N : Nat) (p_list : (List I_Change)) (i3 : Int) (v4 : (List I_Value)) : Option ((Int × (List I_Value)) ⊕ (List I_Value)) :=
  cond (decide (i3 < (p_list.length : Int)))
    ((ixI p_list i3).bind fun x19 =>
    (m_S_move N v4 x19).bind fun r21 =>
    (chk (i3 + (1 : Int))).bind fun n23 =>
    some (.inl (n23, r21)))
    (some (.inr v4))
def m_S_advance (N : Nat) (p_row : (List I_Value)) (p_list : (List I_Change)) : Option ((List I_Value)) :=
  (appM 32 ([] : List I_Value) p_row).bind fun xs1 =>
  (loopM (β := (List I_Value)) (fun s : Int × (List I_Value) => m_S_advance_b1 N p_list s.1 s.2) N ((0 : Int), xs1)).bind fun e =>
  m_S_advance_k1 N e
theorem w_S_advance (N : Nat) (p_row : (List I_Value)) (p_list : (List I_Change)) (r : (List I_Value)) (hh0 : m_S_advance N p_row p_list = some r) : FnX Tryz.prog 78 [] [sL p_row, sL p_list] (RE (.os 0 0 r.length) [⟨.tr (eL r), 39, 3⟩]) := by
  unfold m_S_advance at hh0; refine FnX.mk Tryz.func78 rfl rfl ?_; intro s hs; refine PC.seq ?_; refine PC.region ?_; refine PL.op rfl (Rd.asnT rfl) ?_; refine PL.nil ?_; refine thA_n ?_; refine PC.seq ?_; obtain ⟨xs1, h_2, hh0⟩ := bind_some hh0; refine PC.region ?_; refine PL.ef rfl (Ef.lit0M I_Value) ?_; refine PL.nm (.os 0 0 0) [some ⟨.tr (eL ([] : List I_Value)), 39, 3⟩] rfl rfl ?_; refine PL.op rfl (Rd.moveT rfl) ?_; refine PL.apM hs rfl rfl rfl rfl (SrcA.eL rfl) rfl rfl rfl rfl h_2 ?_; refine PL.nm (.os 1 0 xs1.length) [none, some ⟨.tr (eL xs1), 39, 3⟩] rfl rfl ?_; refine PL.op rfl (Rd.asnO rfl) ?_; refine PL.nil ?_; refine thA_n ?_; (iterate 2 refine PC.seq ?_); refine PC.region ?_; refine PL.op rfl (Rd.asnT rfl) ?_; refine PL.nil ?_; refine thA_n ?_; obtain ⟨o13, h_14, hh0⟩ := bind_some hh0; refine PC.cutE hs (fun x : (List I_Value) => [(5, .os 0 0 x.length)]) (fun x => [⟨.tr (eL x), 39, 3⟩]) (fun x => m_S_advance_k1 N x = some r) ?_ ?_
  · refine PC.block ?_; refine PC.loop hs (fun x : Nat × (Int × (List I_Value)) => [(1, sL p_list), (5, .os 0 0 x.2.2.length), (6, iA x.2.1)]) (fun x => [⟨.tr (eL x.2.2), 39, 3⟩]) (fun x => loopM (β := (List I_Value)) (fun s : Int × (List I_Value) => m_S_advance_b1 N p_list s.1 s.2) x.1 x.2 = some o13) (fun x => x.1) (N, ((0 : Int), xs1)) [some 1] ⟨rfl, rfl, ⟨⟨_, rfl, rfl, rfl, .tr _⟩, trivial⟩, ⟨.t _, .os rfl, .t _, trivial⟩⟩ h_14 ?_
    rintro ⟨f15_, i3, v4⟩ h_17
    obtain ⟨f15, y16, rfl, hh1, kk1⟩ := loopM_some h_17
    replace hh1 : m_S_advance_b1 N p_list i3 v4 = some y16 := hh1
    unfold m_S_advance_b1 at hh1; (iterate 2 refine PC.seq ?_); refine PC.region ?_; (iterate 2 refine PL.op rfl (Rd.moveT rfl) ?_); refine PL.op rfl (Rd.lenT rfl) ?_; refine PL.op rfl (Rd.lss rfl rfl) ?_; refine PL.nil ?_; refine thA_n ?_; rcases cond_some hh1 with ⟨h_18, hh1⟩ | ⟨h_18, hh1⟩; rotate_left
    · refine PC.cond_false rfl h_18 ?_; refine PC.exit ?_; (iterate 2 refine thA_e ?_); refine inA_eq rfl ?_; refine thA_n ?_; obtain rfl := some_in hh1; obtain rfl : (v4 : (List I_Value)) = o13 := kk1; exact ⟨v4, hh0, [some 0], ⟨rfl, rfl, ⟨⟨_, rfl, rfl, rfl, .tr _⟩, trivial⟩, ⟨.os rfl, trivial⟩⟩⟩
    refine PC.cond_true rfl h_18 ?_; refine PC.skip ?_; refine thA_n ?_; refine PC.seq ?_; refine PC.block ?_; obtain ⟨x19, h_20, hh1⟩ := bind_some hh1; obtain ⟨r21, h_22, hh1⟩ := bind_some hh1; refine PC.region ?_; refine PL.op rfl (Rd.moveO rfl) ?_; (iterate 2 refine PL.op rfl (Rd.moveT rfl) ?_); refine PL.op rfl (Rd.ixM rfl rfl h_20) ?_; refine PL.op rfl (Rd.elMR rfl h_20 rfl rfl) ?_; refine PL.callM true [] (w_S_move N v4 x19 r21 h_22) rfl Tryz.call112 rfl ⟨.own rfl (by first | decide | exact List.not_mem_nil) rfl rfl, .aggL ⟨.t _, .t _, .t _, .t _, .t _, .t _, trivial⟩, trivial⟩ rfl trivial (fun _ => ⟨trivial, (flat_cons flat_ow flat_nil)⟩) ?_; refine PL.nm (.os 1 0 r21.length) [some ⟨.tr (eL v4), 39, 3⟩, some ⟨.tr (eL r21), 39, 3⟩] rfl rfl ?_; refine PL.op rfl (Rd.asnO rfl) ?_; refine PL.nil ?_; refine inA_n ?_; refine thA_n ?_; obtain ⟨n23, h_24, hh1⟩ := bind_some hh1; refine PC.region ?_; refine PL.op rfl (Rd.moveT rfl) ?_; refine PL.op rfl (Rd.addM rfl rfl h_24) ?_; refine PL.op rfl (Rd.asnT rfl) ?_; refine PL.nil ?_; obtain rfl := some_in hh1; refine thA_n ?_; exact ⟨(f15, (n23, r21)), Nat.lt_succ_self _, kk1, [some 1], ⟨rfl, rfl, ⟨⟨_, rfl, rfl, rfl, .tr _⟩, trivial⟩, ⟨.t _, .os rfl, .t _, trivial⟩⟩⟩
  clear hh0
  rintro v12 hh0
  replace hh0 : m_S_advance_k1 N v12 = some r := hh0
  unfold m_S_advance_k1 at hh0; refine thA_n ?_; refine PC.seq ?_; refine PC.region ?_; refine PL.op rfl (Rd.moveO rfl) ?_; refine PL.op rfl (Rd.asnO rfl) ?_; refine PL.nil ?_; refine thA_n ?_; refine PC.ret ?_; obtain rfl := some_in hh0; exact FinA.mk (r := .os 0 0 v12.length) (bl := [⟨.tr (eL v12), 39, 3⟩]) [some 0] (.inl rfl) rfl (rl := [.tmp 4]) (.tmp .nil) rfl rfl rfl (.os rfl) ⟨⟨_, rfl, rfl, rfl, .tr _⟩, trivial⟩ ⟨rfl, rfl⟩
def m_S_latest_k1 (N : Nat) (v16 : (List (List I_Value))) : Option ((List (List I_Value))) :=
  some v16
def m_S_latest_b1 (N : Nat) (p_t : I_Table) (i1 : Int) (v2 : (List (List I_Value))) : Option ((Int × (List (List I_Value))) ⊕ (List (List I_Value))) :=
  cond (decide (i1 < (p_t.rows.length : Int)))
    ((ixI p_t.rows i1).bind fun x23 =>
    (ixI p_t.rows i1).bind fun x25 =>
    (V.subM p_t.changes x25.tag (p_t.changes.length : Int)).bind fun xs27 =>
    (m_S_advance N x23.row xs27).bind fun r29 =>
    (appM 24 v2 [r29]).bind fun xs31 =>
    (chk (i1 + (1 : Int))).bind fun n33 =>
    some (.inl (n33, xs31)))
    (some (.inr v2))
def m_S_latest (N : Nat) (p_t : I_Table) : Option ((List (List I_Value))) :=
  (loopM (β := (List (List I_Value))) (fun s : Int × (List (List I_Value)) => m_S_latest_b1 N p_t s.1 s.2) N ((0 : Int), ([] : List (List I_Value)))).bind fun e =>
  m_S_latest_k1 N e
theorem w_S_latest (N : Nat) (p_t : I_Table) (r : (List (List I_Value))) (hh0 : m_S_latest N p_t = some r) : FnX Tryz.prog 38 [] [.agg [sL p_t.first, sL p_t.changes, sL p_t.rows]] (RE (.os 0 0 r.length) [⟨.tr (eL r), 71, 1⟩]) := by
  unfold m_S_latest at hh0; refine FnX.mk Tryz.func38 rfl rfl ?_; intro s hs; refine PC.seq ?_; refine PC.region ?_; refine PL.ef rfl (Ef.box rfl rfl rfl) ?_; refine PL.nm (.op 0 0) [some ⟨.mx [sL p_t.first, sL p_t.changes, sL p_t.rows], 37, 0⟩] rfl rfl ?_; refine PL.op rfl (Rd.asnT rfl) ?_; refine PL.nil ?_; refine thA_n ?_; refine PC.seq ?_; refine PC.region ?_; refine PL.ef rfl (Ef.lit0M (List I_Value)) ?_; refine PL.nm (.os 1 0 0) [some ⟨.mx [sL p_t.first, sL p_t.changes, sL p_t.rows], 37, 0⟩, some ⟨.tr (eL ([] : List (List I_Value))), 71, 1⟩] rfl rfl ?_; refine PL.op rfl (Rd.asnO rfl) ?_; refine PL.nil ?_; refine thA_n ?_; (iterate 2 refine PC.seq ?_); refine PC.region ?_; refine PL.op rfl (Rd.asnT rfl) ?_; refine PL.nil ?_; refine thA_n ?_; obtain ⟨o17, h_18, hh0⟩ := bind_some hh0; refine PC.cutE hs (fun x : (List (List I_Value)) => [(3, .os 0 0 x.length)]) (fun x => [⟨.tr (eL x), 71, 1⟩]) (fun x => m_S_latest_k1 N x = some r) ?_ ?_
  · refine PC.block ?_; refine PC.loop hs (fun x : Nat × (Int × (List (List I_Value))) => [(1, .op 0 0), (3, .os 1 0 x.2.2.length), (4, iA x.2.1)]) (fun x => [⟨.mx [sL p_t.first, sL p_t.changes, sL p_t.rows], 37, 0⟩, ⟨.tr (eL x.2.2), 71, 1⟩]) (fun x => loopM (β := (List (List I_Value))) (fun s : Int × (List (List I_Value)) => m_S_latest_b1 N p_t s.1 s.2) x.1 x.2 = some o17) (fun x => x.1) (N, ((0 : Int), ([] : List (List I_Value)))) [some 0, some 1] ⟨rfl, rfl, ⟨⟨_, rfl, rfl, rfl, .mx ⟨.t _, .t _, .t _, trivial⟩⟩, ⟨_, rfl, rfl, rfl, .tr _⟩, trivial⟩, ⟨.op rfl, .os rfl, .t _, trivial⟩⟩ h_18 ?_
    rintro ⟨f19_, i1, v2⟩ h_21
    obtain ⟨f19, y20, rfl, hh1, kk1⟩ := loopM_some h_21
    replace hh1 : m_S_latest_b1 N p_t i1 v2 = some y20 := hh1
    unfold m_S_latest_b1 at hh1; (iterate 2 refine PC.seq ?_); refine PC.region ?_; refine PL.op rfl (Rd.moveT rfl) ?_; refine PL.op rfl (Rd.fieldO rfl rfl) ?_; refine PL.op rfl (Rd.loadO rfl rfl rfl) ?_; refine PL.op rfl (Rd.lenT rfl) ?_; refine PL.op rfl (Rd.lss rfl rfl) ?_; refine PL.nil ?_; refine thA_n ?_; rcases cond_some hh1 with ⟨h_22, hh1⟩ | ⟨h_22, hh1⟩; rotate_left
    · refine PC.cond_false rfl h_22 ?_; refine PC.exit ?_; (iterate 2 refine thA_e ?_); refine inA_eq rfl ?_; refine thA_n ?_; obtain rfl := some_in hh1; obtain rfl : (v2 : (List (List I_Value))) = o17 := kk1; exact ⟨v2, hh0, [some 1], ⟨rfl, rfl, ⟨⟨_, rfl, rfl, rfl, .tr _⟩, trivial⟩, ⟨.os rfl, trivial⟩⟩⟩
    refine PC.cond_true rfl h_22 ?_; refine PC.skip ?_; refine thA_n ?_; refine PC.seq ?_; refine PC.block ?_; obtain ⟨x23, h_24, hh1⟩ := bind_some hh1; obtain ⟨x25, h_26, hh1⟩ := bind_some hh1; obtain ⟨xs27, h_28, hh1⟩ := bind_some hh1; obtain ⟨r29, h_30, hh1⟩ := bind_some hh1; obtain ⟨xs31, h_32, hh1⟩ := bind_some hh1; refine PC.any (id := 5) 18 (.seg [0, 1, 2, 3, 4, 5, 6, 7, 8, 9, 10, 11, 12, 13, 14, 15, 16, 17] .done) [] rfl (by kernel_rfl) rfl ?_; refine PT.seg ?_; refine PR.op rfl (Rd.moveO rfl) ?_; refine PR.op rfl (Rd.fieldO rfl rfl) ?_; refine PR.op rfl (Rd.loadO rfl rfl rfl) ?_; refine PR.op rfl (Rd.moveT rfl) ?_; refine PR.op rfl (Rd.ixM rfl rfl h_24) ?_; refine PR.op rfl (Rd.fieldT rfl) ?_; refine PR.op rfl (Rd.elMF (f := 1) rfl h_24 rfl rfl) ?_; refine PR.op rfl (Rd.fieldO rfl rfl) ?_; refine PR.op rfl (Rd.loadO rfl rfl rfl) ?_; refine PR.op rfl (Rd.fieldO rfl rfl) ?_; refine PR.op rfl (Rd.loadO rfl rfl rfl) ?_; refine PR.op rfl (Rd.moveT rfl) ?_; refine PR.op rfl (Rd.ixM rfl rfl h_26) ?_; refine PR.op rfl (Rd.fieldT rfl) ?_; refine PR.op rfl (Rd.elMF (f := 0) rfl h_26 rfl rfl) ?_; refine PR.op rfl (Rd.subTML rfl rfl h_28) ?_; refine PR.callM false [] (w_S_advance N x23.row xs27 r29 h_30) rfl Tryz.call78 rfl ⟨.t _, .t _, trivial⟩ rfl trivial (fun h => by cases h) rfl ?_; refine PR.nm (.os 2 0 r29.length) [some ⟨.mx [sL p_t.first, sL p_t.changes, sL p_t.rows], 37, 0⟩, some ⟨.tr (eL v2), 71, 1⟩, some ⟨.tr (eL r29), 39, 3⟩] rfl rfl ?_; refine PR.frz hs 2 3 [(29, sL r29)] [some ⟨.mx [sL p_t.first, sL p_t.changes, sL p_t.rows], 37, 0⟩, some ⟨.tr (eL v2), 71, 1⟩, none] rfl rfl rfl ⟨(.own rfl (by decide) rfl rfl), trivial⟩ ⟨⟨rfl, .inl rfl⟩, ⟨rfl, .inl rfl⟩, trivial⟩ ?_; refine PR.ef rfl rfl (Ef.litM (α := (List I_Value)) [r29] [_] rfl rfl (by decide) rfl rfl rfl rfl) ?_; refine PR.nm (.os 3 0 1) [some ⟨.mx [sL p_t.first, sL p_t.changes, sL p_t.rows], 37, 0⟩, some ⟨.tr (eL v2), 71, 1⟩, none, some ⟨.tr (eL [r29]), 71, 1⟩] rfl rfl ?_; refine PR.nil ?_; refine PT.done ?_; refine PL.apM hs rfl rfl rfl rfl (SrcA.ownE rfl rfl rfl) rfl rfl rfl rfl h_32 ?_; refine PL.nm (.os 4 0 xs31.length) [some ⟨.mx [sL p_t.first, sL p_t.changes, sL p_t.rows], 37, 0⟩, none, none, some ⟨.tr (eL [r29]), 71, 1⟩, some ⟨.tr (eL xs31), 71, 1⟩] rfl rfl ?_; refine PL.op rfl (Rd.asnO rfl) ?_; refine PL.nil ?_; refine inA_n ?_; refine thA_n ?_; obtain ⟨n33, h_34, hh1⟩ := bind_some hh1; refine PC.region ?_; refine PL.op rfl (Rd.moveT rfl) ?_; refine PL.op rfl (Rd.addM rfl rfl h_34) ?_; refine PL.op rfl (Rd.asnT rfl) ?_; refine PL.nil ?_; obtain rfl := some_in hh1; refine thA_n ?_; exact ⟨(f19, (n33, xs31)), Nat.lt_succ_self _, kk1, [some 0, some 4], ⟨rfl, rfl, ⟨⟨_, rfl, rfl, rfl, .mx ⟨.t _, .t _, .t _, trivial⟩⟩, ⟨_, rfl, rfl, rfl, .tr _⟩, trivial⟩, ⟨.op rfl, .os rfl, .t _, trivial⟩⟩⟩
  clear hh0
  rintro v16 hh0
  replace hh0 : m_S_latest_k1 N v16 = some r := hh0
  unfold m_S_latest_k1 at hh0; refine thA_n ?_; refine PC.seq ?_; refine PC.region ?_; refine PL.op rfl (Rd.moveO rfl) ?_; refine PL.op rfl (Rd.asnO rfl) ?_; refine PL.nil ?_; refine thA_n ?_; refine PC.ret ?_; obtain rfl := some_in hh0; exact FinA.mk (r := .os 0 0 v16.length) (bl := [⟨.tr (eL v16), 71, 1⟩]) [some 0] (.inl rfl) rfl (rl := [.tmp 2]) (.tmp .nil) rfl rfl rfl (.os rfl) ⟨⟨_, rfl, rfl, rfl, .tr _⟩, trivial⟩ ⟨rfl, rfl⟩
end V
end Go.Proofs.YtkjnnifnmoekjaaGreatDoor
namespace Go.Proofs.YtkjnnifnmoekjaaGreatDoor
namespace V
open Enc (enc)
set_option linter.unusedVariables false
set_option linter.unusedSimpArgs false
set_option maxHeartbeats 4000000
set_option maxRecDepth 100000
open Go.RowKit
attribute [local irreducible] thA inA FinA eL
structure I_Pair where
  key : ByteArray
  row : Int
deriving DecidableEq
instance : Enc I_Pair := ⟨fun x => [.v (.string x.key), .v (.int .i64 x.row)], 2, fun _ => rfl⟩
def m_I_columnOf_k1 (N : Nat) (v19 : (List I_Value)) : Option ((List I_Value) × Bool) :=
  some (v19, true)
def m_I_columnOf_b1 (N : Nat) (p_column : Int) (r6 : ((List (List I_Value)))) (i8 : Int) (v9 : (List I_Value)) : Option ((Int × (List I_Value)) ⊕ (List I_Value)) :=
  cond (decide (i8 < (r6.length : Int)))
    ((ixI r6 i8).bind fun x26 =>
    (ixI x26 p_column).bind fun x28 =>
    (appM 32 v9 [x28]).bind fun xs30 =>
    (chk (i8 + (1 : Int))).bind fun n32 =>
    some (.inl (n32, xs30)))
    (some (.inr v9))
def m_I_columnOf (N : Nat) (p_t : I_Table) (p_column : Int) : Option ((List I_Value) × Bool) :=
  (m_I_Table_lastFormat N p_t).bind fun r1 =>
  cond r1.2
    (cond (decide (p_column < (0 : Int)))
      (some (([] : List I_Value), false))
      (cond (decide ((r1.1.length : Int) ≤ p_column))
        (some (([] : List I_Value), false))
        ((m_I_TableRows N p_t).bind fun r6 =>
        (loopM (β := (List I_Value)) (fun s : Int × (List I_Value) => m_I_columnOf_b1 N p_column r6 s.1 s.2) N ((0 : Int), ([] : List I_Value))).bind fun e =>
        m_I_columnOf_k1 N e)))
    (some (([] : List I_Value), false))
theorem w_I_columnOf (N : Nat) (p_t : I_Table) (p_column : Int) (r : (List I_Value) × Bool) (hh0 : m_I_columnOf N p_t p_column = some r) : FnX Tryz.prog 43 [] [.agg [sL p_t.first, sL p_t.changes, sL p_t.rows], iA p_column] (RE (.tup [.os 0 0 r.1.length, bA r.2]) [⟨.tr (eL r.1), 39, 3⟩]) := by
  unfold m_I_columnOf at hh0; refine FnX.mk Tryz.func43 rfl rfl ?_; intro s hs; refine PC.seq ?_; refine PC.region ?_; refine PL.ef rfl (Ef.box rfl rfl rfl) ?_; refine PL.nm (.op 0 0) [some ⟨.mx [sL p_t.first, sL p_t.changes, sL p_t.rows], 37, 0⟩] rfl rfl ?_; (iterate 2 refine PL.op rfl (Rd.asnT rfl) ?_); refine PL.nil ?_; refine thA_n ?_; refine PC.seq ?_; obtain ⟨r1, h_2, hh0⟩ := bind_some hh0; refine PC.region ?_; refine PL.op rfl (Rd.loadBox rfl rfl rfl) ?_; refine PL.callM false [] (w_I_Table_lastFormat N p_t r1 h_2) rfl Tryz.call68 rfl ⟨.aggL ⟨.t _, .t _, .t _, trivial⟩, trivial⟩ rfl trivial (fun h => by cases h) ?_; refine PL.op rfl (Rd.moveU rfl) ?_; (iterate 2 refine PL.op rfl (Rd.extract rfl rfl) ?_); (iterate 2 refine PL.op rfl (Rd.asnT rfl) ?_); refine PL.nil ?_; refine thA_n ?_; (iterate 2 refine PC.seq ?_); rcases cond_some hh0 with ⟨h_3, hh0⟩ | ⟨h_3, hh0⟩; rotate_left
  · refine PC.region ?_; refine PL.op rfl (Rd.moveT rfl) ?_; refine PL.op rfl (Rd.unnot rfl) ?_; refine PL.op rfl (Rd.moveT rfl) ?_; (iterate 2 refine PL.guard_off rfl rfl (not_f h_3) ?_); refine PL.op rfl (Rd.pick_t rfl (not_f h_3)) ?_; refine PL.op rfl (Rd.moveT rfl) ?_; (iterate 4 refine PL.guard_off rfl rfl rfl ?_); refine PL.op rfl (Rd.pick_t rfl rfl) ?_; refine PL.nil ?_; refine thA_n ?_; refine PC.cond_true rfl rfl ?_; refine PC.seq ?_; refine PC.region ?_; (iterate 2 refine PL.op rfl (Rd.asnT rfl) ?_); refine PL.nil ?_; refine thA_n ?_; refine PC.ret ?_; refine thA_r ?_; obtain rfl := some_in hh0; exact FinA.mk (r := .tup [.os 0 0 (((([] : List I_Value), false).1).length), bA ((([] : List I_Value), false).2)]) (bl := [⟨.tr (eL ((([] : List I_Value), false).1)), 39, 3⟩]) [none] (.inl rfl) rfl (rl := [.tmp 4, .tmp 5]) (.tmp (.tmp .nil)) rfl rfl rfl (.tupL ⟨.osn rfl, .t _, trivial⟩) ⟨ow_nil _, trivial⟩ ⟨rfl, rfl⟩
  rcases cond_some hh0 with ⟨h_4, hh0⟩ | ⟨h_4, hh0⟩
  · refine PC.region ?_; refine PL.op rfl (Rd.moveT rfl) ?_; refine PL.op rfl (Rd.unnot rfl) ?_; refine PL.op rfl (Rd.moveT rfl) ?_; refine PL.guard_on rfl (not_t h_3) ?_; refine PL.op rfl (Rd.moveT rfl) ?_; refine PL.guard_on rfl (not_t h_3) ?_; refine PL.op rfl (Rd.lss rfl rfl) ?_; refine PL.op rfl (Rd.pick_f rfl (not_t h_3)) ?_; refine PL.op rfl (Rd.moveT rfl) ?_; (iterate 4 refine PL.guard_off rfl rfl h_4 ?_); refine PL.op rfl (Rd.pick_t rfl h_4) ?_; refine PL.nil ?_; refine thA_n ?_; refine PC.cond_true rfl rfl ?_; refine PC.seq ?_; refine PC.region ?_; (iterate 2 refine PL.op rfl (Rd.asnT rfl) ?_); refine PL.nil ?_; refine thA_n ?_; refine PC.ret ?_; refine thA_r ?_; obtain rfl := some_in hh0; exact FinA.mk (r := .tup [.os 0 0 (((([] : List I_Value), false).1).length), bA ((([] : List I_Value), false).2)]) (bl := [⟨.tr (eL ((([] : List I_Value), false).1)), 39, 3⟩]) [none] (.inl rfl) rfl (rl := [.tmp 4, .tmp 5]) (.tmp (.tmp .nil)) rfl rfl rfl (.tupL ⟨.osn rfl, .t _, trivial⟩) ⟨ow_nil _, trivial⟩ ⟨rfl, rfl⟩
  refine PC.region ?_; refine PL.op rfl (Rd.moveT rfl) ?_; refine PL.op rfl (Rd.unnot rfl) ?_; refine PL.op rfl (Rd.moveT rfl) ?_; refine PL.guard_on rfl (not_t h_3) ?_; refine PL.op rfl (Rd.moveT rfl) ?_; refine PL.guard_on rfl (not_t h_3) ?_; refine PL.op rfl (Rd.lss rfl rfl) ?_; refine PL.op rfl (Rd.pick_f rfl (not_t h_3)) ?_; refine PL.op rfl (Rd.moveT rfl) ?_; refine PL.guard_on rfl h_4 ?_; refine PL.op rfl (Rd.moveT rfl) ?_; refine PL.guard_on rfl h_4 ?_; refine PL.op rfl (Rd.moveT rfl) ?_; refine PL.guard_on rfl h_4 ?_; refine PL.op rfl (Rd.lenT rfl) ?_; refine PL.guard_on rfl h_4 ?_; refine PL.op rfl (Rd.geq rfl rfl) ?_; refine PL.op rfl (Rd.pick_f rfl h_4) ?_; refine PL.nil ?_; refine thA_n ?_; rcases cond_some hh0 with ⟨h_5, hh0⟩ | ⟨h_5, hh0⟩
  · refine PC.cond_true rfl h_5 ?_; refine PC.seq ?_; refine PC.region ?_; (iterate 2 refine PL.op rfl (Rd.asnT rfl) ?_); refine PL.nil ?_; refine thA_n ?_; refine PC.ret ?_; refine thA_r ?_; obtain rfl := some_in hh0; exact FinA.mk (r := .tup [.os 0 0 (((([] : List I_Value), false).1).length), bA ((([] : List I_Value), false).2)]) (bl := [⟨.tr (eL ((([] : List I_Value), false).1)), 39, 3⟩]) [none] (.inl rfl) rfl (rl := [.tmp 4, .tmp 5]) (.tmp (.tmp .nil)) rfl rfl rfl (.tupL ⟨.osn rfl, .t _, trivial⟩) ⟨ow_nil _, trivial⟩ ⟨rfl, rfl⟩
  refine PC.cond_false rfl h_5 ?_; refine PC.skip ?_; refine thA_n ?_; refine PC.seq ?_; refine PC.region ?_; refine PL.op rfl (Rd.asnT rfl) ?_; refine PL.nil ?_; refine thA_n ?_; (iterate 2 refine PC.seq ?_); obtain ⟨r6, h_7, hh0⟩ := bind_some hh0; refine PC.region ?_; refine PL.op rfl (Rd.loadBox rfl rfl rfl) ?_; refine PL.callM false [] (w_I_TableRows N p_t r6 h_7) rfl Tryz.call83 rfl ⟨.aggL ⟨.t _, .t _, .t _, trivial⟩, trivial⟩ rfl trivial (fun h => by cases h) ?_; refine PL.nm (.os 1 0 r6.length) [some ⟨.mx [sL p_t.first, sL p_t.changes, sL p_t.rows], 37, 0⟩, some ⟨.tr (eL r6), 71, 1⟩] rfl rfl ?_; refine PL.op rfl (Rd.lenO rfl rfl) ?_; refine PL.op rfl (Rd.moveT rfl) ?_; refine PL.nil ?_; refine thA_n ?_; obtain ⟨o20, h_21, hh0⟩ := bind_some hh0; refine PC.cutE hs (fun x : (List I_Value) => [(8, .os 0 0 x.length)]) (fun x => [⟨.tr (eL x), 39, 3⟩]) (fun x => m_I_columnOf_k1 N x = some r) ?_ ?_
  · refine PC.block ?_; refine PC.loop hs (fun x : Nat × (Int × (List I_Value)) => [(1, iA p_column), (8, .os 0 0 x.2.2.length), (29, .os 1 0 r6.length), (30, iA (r6.length : Int)), (31, iA x.2.1)]) (fun x => [⟨.tr (eL x.2.2), 39, 3⟩, ⟨.tr (eL r6), 71, 1⟩]) (fun x => loopM (β := (List I_Value)) (fun s : Int × (List I_Value) => m_I_columnOf_b1 N p_column r6 s.1 s.2) x.1 x.2 = some o20) (fun x => x.1) (N, ((0 : Int), ([] : List I_Value))) [none, some 1] ⟨rfl, rfl, ⟨ow_nil _, ⟨_, rfl, rfl, rfl, .tr _⟩, trivial⟩, ⟨.t _, .osn rfl, .os rfl, .t _, .t _, trivial⟩⟩ h_21 ?_
    rintro ⟨f22_, i8, v9⟩ h_24
    obtain ⟨f22, y23, rfl, hh1, kk1⟩ := loopM_some h_24
    replace hh1 : m_I_columnOf_b1 N p_column r6 i8 v9 = some y23 := hh1
    unfold m_I_columnOf_b1 at hh1; refine PC.seq ?_; refine PC.region ?_; refine PL.op rfl (Rd.lss rfl rfl) ?_; refine PL.nil ?_; refine thA_n ?_; refine PC.seq ?_; rcases cond_some hh1 with ⟨h_25, hh1⟩ | ⟨h_25, hh1⟩; rotate_left
    · refine PC.cond_false rfl h_25 ?_; refine PC.exit ?_; (iterate 2 refine thA_e ?_); refine inA_eq rfl ?_; refine thA_n ?_; obtain rfl := some_in hh1; obtain rfl : (v9 : (List I_Value)) = o20 := kk1; exact ⟨v9, hh0, [some 0], ⟨rfl, rfl, ⟨⟨_, rfl, rfl, rfl, .tr _⟩, trivial⟩, ⟨.os rfl, trivial⟩⟩⟩
    refine PC.cond_true rfl h_25 ?_; refine PC.skip ?_; refine thA_n ?_; refine PC.seq ?_; refine PC.block ?_; refine PC.seq ?_; obtain ⟨x26, h_27, hh1⟩ := bind_some hh1; refine PC.region ?_; refine PL.op rfl (Rd.ixOM rfl rfl rfl (ixI_lt h_27)) ?_; refine PL.op rfl (Rd.owM1 rfl rfl h_27 rfl rfl) ?_; refine PL.op rfl (Rd.asnT rfl) ?_; refine PL.nil ?_; refine thA_n ?_; obtain ⟨x28, h_29, hh1⟩ := bind_some hh1; obtain ⟨xs30, h_31, hh1⟩ := bind_some hh1; refine PC.region ?_; refine PL.op rfl (Rd.moveO rfl) ?_; (iterate 2 refine PL.op rfl (Rd.moveT rfl) ?_); refine PL.op rfl (Rd.ixM rfl rfl h_29) ?_; refine PL.op rfl (Rd.elMR rfl h_29 rfl rfl) ?_; refine PL.ef rfl (Ef.litM (α := I_Value) [x28] [_] rfl rfl (by decide) rfl rfl rfl rfl) ?_; refine PL.nm (.os 2 0 1) [some ⟨.tr (eL v9), 39, 3⟩, some ⟨.tr (eL r6), 71, 1⟩, some ⟨.tr (eL [x28]), 39, 3⟩] rfl rfl ?_; refine PL.apM hs rfl rfl rfl rfl (SrcA.ownE rfl rfl rfl) rfl rfl rfl rfl h_31 ?_; refine PL.nm (.os 3 0 xs30.length) [none, some ⟨.tr (eL r6), 71, 1⟩, some ⟨.tr (eL [x28]), 39, 3⟩, some ⟨.tr (eL xs30), 39, 3⟩] rfl rfl ?_; refine PL.op rfl (Rd.asnO rfl) ?_; refine PL.nil ?_; refine inA_n ?_; refine thA_n ?_; obtain ⟨n32, h_33, hh1⟩ := bind_some hh1; refine PC.region ?_; refine PL.op rfl (Rd.addM rfl rfl h_33) ?_; refine PL.op rfl (Rd.moveT rfl) ?_; refine PL.nil ?_; obtain rfl := some_in hh1; refine thA_n ?_; exact ⟨(f22, (n32, xs30)), Nat.lt_succ_self _, kk1, [some 3, some 1], ⟨rfl, rfl, ⟨⟨_, rfl, rfl, rfl, .tr _⟩, ⟨_, rfl, rfl, rfl, .tr _⟩, trivial⟩, ⟨.t _, .os rfl, .os rfl, .t _, .t _, trivial⟩⟩⟩
  clear hh0
  rintro v19 hh0
  replace hh0 : m_I_columnOf_k1 N v19 = some r := hh0
  unfold m_I_columnOf_k1 at hh0; refine thA_n ?_; refine PC.seq ?_; refine PC.region ?_; refine PL.op rfl (Rd.moveO rfl) ?_; refine PL.op rfl (Rd.asnO rfl) ?_; refine PL.op rfl (Rd.asnT rfl) ?_; refine PL.nil ?_; refine thA_n ?_; refine PC.ret ?_; obtain rfl := some_in hh0; exact FinA.mk (r := .tup [.os 0 0 (((v19, true).1).length), bA ((v19, true).2)]) (bl := [⟨.tr (eL ((v19, true).1)), 39, 3⟩]) [some 0] (.inl rfl) rfl (rl := [.tmp 4, .tmp 5]) (.tmp (.tmp .nil)) rfl rfl rfl (.tupL ⟨.os rfl, .t _, trivial⟩) ⟨⟨_, rfl, rfl, rfl, .tr _⟩, trivial⟩ ⟨rfl, rfl⟩
def m_cmp_isNaN_int_ (N : Nat) (p_x : Int) : Option (Bool) :=
  some (!decide (p_x = p_x))
theorem w_cmp_isNaN_int_ (N : Nat) (p_x : Int) (r : Bool) (hh0 : m_cmp_isNaN_int_ N p_x = some r) : FnX Tryz.prog 96 [] [iA p_x] (RE (bA r) []) := by
  unfold m_cmp_isNaN_int_ at hh0; refine FnX.mk Tryz.func96 rfl rfl ?_; intro s hs; refine PC.seq ?_; refine PC.region ?_; refine PL.op rfl (Rd.asnT rfl) ?_; refine PL.nil ?_; refine thA_n ?_; refine PC.seq ?_; refine PC.region ?_; (iterate 2 refine PL.op rfl (Rd.moveT rfl) ?_); refine PL.op rfl (Rd.neq rfl rfl) ?_; refine PL.op rfl (Rd.asnT rfl) ?_; refine PL.nil ?_; refine thA_n ?_; refine PC.ret ?_; obtain rfl := some_in hh0; exact FinA.mk (r := bA (!decide (p_x = p_x))) (bl := []) [] (.inl rfl) rfl (rl := [.tmp 2]) (.tmp .nil) rfl rfl rfl (.t _) trivial ⟨rfl, rfl⟩
def m_cmp_Compare_int_ (N : Nat) (p_x : Int) (p_y : Int) : Option (Int) :=
  (m_cmp_isNaN_int_ N p_x).bind fun r1 =>
  (m_cmp_isNaN_int_ N p_y).bind fun r3 =>
  cond r1
    (cond r3
      (some (0 : Int))
      (some (-1 : Int)))
    (cond r3
      (some (1 : Int))
      (cond (decide (p_x < p_y))
        (some (-1 : Int))
        (cond (decide (p_y < p_x))
          (some (1 : Int))
          (some (0 : Int)))))
theorem w_cmp_Compare_int_ (N : Nat) (p_x : Int) (p_y : Int) (r : Int) (hh0 : m_cmp_Compare_int_ N p_x p_y = some r) : FnX Tryz.prog 59 [] [iA p_x, iA p_y] (RE (iA r) []) := by
  unfold m_cmp_Compare_int_ at hh0; refine FnX.mk Tryz.func59 rfl rfl ?_; intro s hs; refine PC.seq ?_; refine PC.region ?_; refine PL.op rfl (Rd.asnT rfl) ?_; refine PL.nil ?_; refine thA_n ?_; refine PC.seq ?_; obtain ⟨r1, h_2, hh0⟩ := bind_some hh0; refine PC.region ?_; refine PL.op rfl (Rd.moveT rfl) ?_; refine PL.callM false [] (w_cmp_isNaN_int_ N p_x r1 h_2) rfl Tryz.call96 rfl ⟨.t _, trivial⟩ rfl trivial (fun h => by cases h) ?_; refine PL.op rfl (Rd.asnT rfl) ?_; refine PL.nil ?_; refine thA_n ?_; refine PC.seq ?_; obtain ⟨r3, h_4, hh0⟩ := bind_some hh0; refine PC.region ?_; refine PL.op rfl (Rd.moveT rfl) ?_; refine PL.callM false [] (w_cmp_isNaN_int_ N p_y r3 h_4) rfl Tryz.call96 rfl ⟨.t _, trivial⟩ rfl trivial (fun h => by cases h) ?_; refine PL.op rfl (Rd.asnT rfl) ?_; refine PL.nil ?_; refine thA_n ?_; (iterate 2 refine PC.seq ?_); refine PC.region ?_; refine PL.op rfl (Rd.moveT rfl) ?_; refine PL.nil ?_; refine thA_n ?_; rcases cond_some hh0 with ⟨h_5, hh0⟩ | ⟨h_5, hh0⟩
  · refine PC.cond_true rfl h_5 ?_; (iterate 2 refine PC.seq ?_); refine PC.region ?_; refine PL.op rfl (Rd.moveT rfl) ?_; refine PL.nil ?_; refine thA_n ?_; rcases cond_some hh0 with ⟨h_6, hh0⟩ | ⟨h_6, hh0⟩
    · refine PC.cond_true rfl h_6 ?_; refine PC.seq ?_; refine PC.region ?_; refine PL.op rfl (Rd.asnT rfl) ?_; refine PL.nil ?_; refine thA_n ?_; refine PC.ret ?_; (iterate 2 refine thA_r ?_); obtain rfl := some_in hh0; exact FinA.mk (r := iA (0 : Int)) (bl := []) [] (.inl rfl) rfl (rl := [.tmp 4]) (.tmp .nil) rfl rfl rfl (.t _) trivial ⟨rfl, rfl⟩
    refine PC.cond_false rfl h_6 ?_; refine PC.skip ?_; refine thA_n ?_; refine PC.seq ?_; refine PC.region ?_; refine PL.op rfl (Rd.asnT rfl) ?_; refine PL.nil ?_; refine thA_n ?_; refine PC.ret ?_; refine thA_r ?_; obtain rfl := some_in hh0; exact FinA.mk (r := iA (-1 : Int)) (bl := []) [] (.inl rfl) rfl (rl := [.tmp 4]) (.tmp .nil) rfl rfl rfl (.t _) trivial ⟨rfl, rfl⟩
  refine PC.cond_false rfl h_5 ?_; refine PC.skip ?_; refine thA_n ?_; (iterate 2 refine PC.seq ?_); refine PC.region ?_; refine PL.op rfl (Rd.moveT rfl) ?_; refine PL.nil ?_; refine thA_n ?_; rcases cond_some hh0 with ⟨h_7, hh0⟩ | ⟨h_7, hh0⟩
  · refine PC.cond_true rfl h_7 ?_; refine PC.seq ?_; refine PC.region ?_; refine PL.op rfl (Rd.asnT rfl) ?_; refine PL.nil ?_; refine thA_n ?_; refine PC.ret ?_; refine thA_r ?_; obtain rfl := some_in hh0; exact FinA.mk (r := iA (1 : Int)) (bl := []) [] (.inl rfl) rfl (rl := [.tmp 4]) (.tmp .nil) rfl rfl rfl (.t _) trivial ⟨rfl, rfl⟩
  refine PC.cond_false rfl h_7 ?_; refine PC.skip ?_; refine thA_n ?_; (iterate 2 refine PC.seq ?_); refine PC.region ?_; (iterate 2 refine PL.op rfl (Rd.moveT rfl) ?_); refine PL.op rfl (Rd.lss rfl rfl) ?_; refine PL.nil ?_; refine thA_n ?_; rcases cond_some hh0 with ⟨h_8, hh0⟩ | ⟨h_8, hh0⟩
  · refine PC.cond_true rfl h_8 ?_; refine PC.seq ?_; refine PC.region ?_; refine PL.op rfl (Rd.asnT rfl) ?_; refine PL.nil ?_; refine thA_n ?_; refine PC.ret ?_; refine thA_r ?_; obtain rfl := some_in hh0; exact FinA.mk (r := iA (-1 : Int)) (bl := []) [] (.inl rfl) rfl (rl := [.tmp 4]) (.tmp .nil) rfl rfl rfl (.t _) trivial ⟨rfl, rfl⟩
  refine PC.cond_false rfl h_8 ?_; refine PC.skip ?_; refine thA_n ?_; (iterate 2 refine PC.seq ?_); refine PC.region ?_; (iterate 2 refine PL.op rfl (Rd.moveT rfl) ?_); refine PL.op rfl (Rd.gtr rfl rfl) ?_; refine PL.nil ?_; refine thA_n ?_; rcases cond_some hh0 with ⟨h_9, hh0⟩ | ⟨h_9, hh0⟩
  · refine PC.cond_true rfl h_9 ?_; refine PC.seq ?_; refine PC.region ?_; refine PL.op rfl (Rd.asnT rfl) ?_; refine PL.nil ?_; refine thA_n ?_; refine PC.ret ?_; refine thA_r ?_; obtain rfl := some_in hh0; exact FinA.mk (r := iA (1 : Int)) (bl := []) [] (.inl rfl) rfl (rl := [.tmp 4]) (.tmp .nil) rfl rfl rfl (.t _) trivial ⟨rfl, rfl⟩
  refine PC.cond_false rfl h_9 ?_; refine PC.skip ?_; refine thA_n ?_; refine PC.seq ?_; refine PC.region ?_; refine PL.op rfl (Rd.asnT rfl) ?_; refine PL.nil ?_; refine thA_n ?_; refine PC.ret ?_; obtain rfl := some_in hh0; exact FinA.mk (r := iA (0 : Int)) (bl := []) [] (.inl rfl) rfl (rl := [.tmp 4]) (.tmp .nil) rfl rfl rfl (.t _) trivial ⟨rfl, rfl⟩
def m_cmp_isNaN_string_ (N : Nat) (p_x : ByteArray) : Option (Bool) :=
  some (!(p_x.toList == p_x.toList))
theorem w_cmp_isNaN_string_ (N : Nat) (p_x : ByteArray) (r : Bool) (hh0 : m_cmp_isNaN_string_ N p_x = some r) : FnX Tryz.prog 114 [] [sA p_x] (RE (bA r) []) := by
  unfold m_cmp_isNaN_string_ at hh0; refine FnX.mk Tryz.func114 rfl rfl ?_; intro s hs; refine PC.seq ?_; refine PC.region ?_; refine PL.op rfl (Rd.asnT rfl) ?_; refine PL.nil ?_; refine thA_n ?_; refine PC.seq ?_; refine PC.region ?_; (iterate 2 refine PL.op rfl (Rd.moveT rfl) ?_); refine PL.op rfl (Rd.neqS rfl rfl) ?_; refine PL.op rfl (Rd.asnT rfl) ?_; refine PL.nil ?_; refine thA_n ?_; refine PC.ret ?_; obtain rfl := some_in hh0; exact FinA.mk (r := bA (!(p_x.toList == p_x.toList))) (bl := []) [] (.inl rfl) rfl (rl := [.tmp 2]) (.tmp .nil) rfl rfl rfl (.t _) trivial ⟨rfl, rfl⟩
def m_cmp_Compare_string_ (N : Nat) (p_x : ByteArray) (p_y : ByteArray) : Option (Int) :=
  (m_cmp_isNaN_string_ N p_x).bind fun r1 =>
  (m_cmp_isNaN_string_ N p_y).bind fun r3 =>
  cond r1
    (cond r3
      (some (0 : Int))
      (some (-1 : Int)))
    (cond r3
      (some (1 : Int))
      (cond (Op.bytesLess p_x.toList p_y.toList)
        (some (-1 : Int))
        (cond (Op.bytesLess p_y.toList p_x.toList)
          (some (1 : Int))
          (some (0 : Int)))))
theorem w_cmp_Compare_string_ (N : Nat) (p_x : ByteArray) (p_y : ByteArray) (r : Int) (hh0 : m_cmp_Compare_string_ N p_x p_y = some r) : FnX Tryz.prog 84 [] [sA p_x, sA p_y] (RE (iA r) []) := by
  unfold m_cmp_Compare_string_ at hh0; refine FnX.mk Tryz.func84 rfl rfl ?_; intro s hs; refine PC.seq ?_; refine PC.region ?_; refine PL.op rfl (Rd.asnT rfl) ?_; refine PL.nil ?_; refine thA_n ?_; refine PC.seq ?_; obtain ⟨r1, h_2, hh0⟩ := bind_some hh0; refine PC.region ?_; refine PL.op rfl (Rd.moveT rfl) ?_; refine PL.callM false [] (w_cmp_isNaN_string_ N p_x r1 h_2) rfl Tryz.call114 rfl ⟨.t _, trivial⟩ rfl trivial (fun h => by cases h) ?_; refine PL.op rfl (Rd.asnT rfl) ?_; refine PL.nil ?_; refine thA_n ?_; refine PC.seq ?_; obtain ⟨r3, h_4, hh0⟩ := bind_some hh0; refine PC.region ?_; refine PL.op rfl (Rd.moveT rfl) ?_; refine PL.callM false [] (w_cmp_isNaN_string_ N p_y r3 h_4) rfl Tryz.call114 rfl ⟨.t _, trivial⟩ rfl trivial (fun h => by cases h) ?_; refine PL.op rfl (Rd.asnT rfl) ?_; refine PL.nil ?_; refine thA_n ?_; (iterate 2 refine PC.seq ?_); refine PC.region ?_; refine PL.op rfl (Rd.moveT rfl) ?_; refine PL.nil ?_; refine thA_n ?_; rcases cond_some hh0 with ⟨h_5, hh0⟩ | ⟨h_5, hh0⟩
  · refine PC.cond_true rfl h_5 ?_; (iterate 2 refine PC.seq ?_); refine PC.region ?_; refine PL.op rfl (Rd.moveT rfl) ?_; refine PL.nil ?_; refine thA_n ?_; rcases cond_some hh0 with ⟨h_6, hh0⟩ | ⟨h_6, hh0⟩
    · refine PC.cond_true rfl h_6 ?_; refine PC.seq ?_; refine PC.region ?_; refine PL.op rfl (Rd.asnT rfl) ?_; refine PL.nil ?_; refine thA_n ?_; refine PC.ret ?_; (iterate 2 refine thA_r ?_); obtain rfl := some_in hh0; exact FinA.mk (r := iA (0 : Int)) (bl := []) [] (.inl rfl) rfl (rl := [.tmp 4]) (.tmp .nil) rfl rfl rfl (.t _) trivial ⟨rfl, rfl⟩
    refine PC.cond_false rfl h_6 ?_; refine PC.skip ?_; refine thA_n ?_; refine PC.seq ?_; refine PC.region ?_; refine PL.op rfl (Rd.asnT rfl) ?_; refine PL.nil ?_; refine thA_n ?_; refine PC.ret ?_; refine thA_r ?_; obtain rfl := some_in hh0; exact FinA.mk (r := iA (-1 : Int)) (bl := []) [] (.inl rfl) rfl (rl := [.tmp 4]) (.tmp .nil) rfl rfl rfl (.t _) trivial ⟨rfl, rfl⟩
  refine PC.cond_false rfl h_5 ?_; refine PC.skip ?_; refine thA_n ?_; (iterate 2 refine PC.seq ?_); refine PC.region ?_; refine PL.op rfl (Rd.moveT rfl) ?_; refine PL.nil ?_; refine thA_n ?_; rcases cond_some hh0 with ⟨h_7, hh0⟩ | ⟨h_7, hh0⟩
  · refine PC.cond_true rfl h_7 ?_; refine PC.seq ?_; refine PC.region ?_; refine PL.op rfl (Rd.asnT rfl) ?_; refine PL.nil ?_; refine thA_n ?_; refine PC.ret ?_; refine thA_r ?_; obtain rfl := some_in hh0; exact FinA.mk (r := iA (1 : Int)) (bl := []) [] (.inl rfl) rfl (rl := [.tmp 4]) (.tmp .nil) rfl rfl rfl (.t _) trivial ⟨rfl, rfl⟩
  refine PC.cond_false rfl h_7 ?_; refine PC.skip ?_; refine thA_n ?_; (iterate 2 refine PC.seq ?_); refine PC.region ?_; (iterate 2 refine PL.op rfl (Rd.moveT rfl) ?_); refine PL.op rfl (Rd.lssS rfl rfl) ?_; refine PL.nil ?_; refine thA_n ?_; rcases cond_some hh0 with ⟨h_8, hh0⟩ | ⟨h_8, hh0⟩
  · refine PC.cond_true rfl h_8 ?_; refine PC.seq ?_; refine PC.region ?_; refine PL.op rfl (Rd.asnT rfl) ?_; refine PL.nil ?_; refine thA_n ?_; refine PC.ret ?_; refine thA_r ?_; obtain rfl := some_in hh0; exact FinA.mk (r := iA (-1 : Int)) (bl := []) [] (.inl rfl) rfl (rl := [.tmp 4]) (.tmp .nil) rfl rfl rfl (.t _) trivial ⟨rfl, rfl⟩
  refine PC.cond_false rfl h_8 ?_; refine PC.skip ?_; refine thA_n ?_; (iterate 2 refine PC.seq ?_); refine PC.region ?_; (iterate 2 refine PL.op rfl (Rd.moveT rfl) ?_); refine PL.op rfl (Rd.gtrS rfl rfl) ?_; refine PL.nil ?_; refine thA_n ?_; rcases cond_some hh0 with ⟨h_9, hh0⟩ | ⟨h_9, hh0⟩
  · refine PC.cond_true rfl h_9 ?_; refine PC.seq ?_; refine PC.region ?_; refine PL.op rfl (Rd.asnT rfl) ?_; refine PL.nil ?_; refine thA_n ?_; refine PC.ret ?_; refine thA_r ?_; obtain rfl := some_in hh0; exact FinA.mk (r := iA (1 : Int)) (bl := []) [] (.inl rfl) rfl (rl := [.tmp 4]) (.tmp .nil) rfl rfl rfl (.t _) trivial ⟨rfl, rfl⟩
  refine PC.cond_false rfl h_9 ?_; refine PC.skip ?_; refine thA_n ?_; refine PC.seq ?_; refine PC.region ?_; refine PL.op rfl (Rd.asnT rfl) ?_; refine PL.nil ?_; refine thA_n ?_; refine PC.ret ?_; obtain rfl := some_in hh0; exact FinA.mk (r := iA (0 : Int)) (bl := []) [] (.inl rfl) rfl (rl := [.tmp 4]) (.tmp .nil) rfl rfl rfl (.t _) trivial ⟨rfl, rfl⟩
def m_I_Value_compare (N : Nat) (p_v : I_Value) (p_w : I_Value) : Option (Int) :=
  cond (decide (p_v.kind = p_w.kind))
    (cond (decide (p_v.kind = (1 : Int)))
      ((m_cmp_Compare_int_ N p_v.num p_w.num).bind fun r3 =>
      some r3)
      ((m_cmp_Compare_string_ N p_v.text p_w.text).bind fun r5 =>
      some r5))
    ((m_cmp_Compare_int_ N p_v.kind p_w.kind).bind fun r7 =>
    some r7)
theorem w_I_Value_compare (N : Nat) (p_v : I_Value) (p_w : I_Value) (r : Int) (hh0 : m_I_Value_compare N p_v p_w = some r) : FnX Tryz.prog 44 [] [.agg [iA p_v.kind, iA p_v.num, sA p_v.text], .agg [iA p_w.kind, iA p_w.num, sA p_w.text]] (RE (iA r) []) := by
  unfold m_I_Value_compare at hh0; refine FnX.mk Tryz.func44 rfl rfl ?_; intro s hs; refine PC.seq ?_; refine PC.region ?_; refine PL.ef rfl (Ef.box rfl rfl rfl) ?_; refine PL.nm (.op 0 0) [some ⟨.mx [iA p_v.kind, iA p_v.num, sA p_v.text], 39, 0⟩] rfl rfl ?_; refine PL.ef rfl (Ef.box rfl rfl rfl) ?_; refine PL.nm (.op 1 0) [some ⟨.mx [iA p_v.kind, iA p_v.num, sA p_v.text], 39, 0⟩, some ⟨.mx [iA p_w.kind, iA p_w.num, sA p_w.text], 39, 0⟩] rfl rfl ?_; refine PL.op rfl (Rd.asnT rfl) ?_; refine PL.nil ?_; refine thA_n ?_; (iterate 2 refine PC.seq ?_); refine PC.region ?_; refine PL.op rfl (Rd.fieldO rfl rfl) ?_; refine PL.op rfl (Rd.loadO rfl rfl rfl) ?_; refine PL.op rfl (Rd.fieldO rfl rfl) ?_; refine PL.op rfl (Rd.loadO rfl rfl rfl) ?_; refine PL.op rfl (Rd.neq rfl rfl) ?_; refine PL.nil ?_; refine thA_n ?_; rcases cond_some hh0 with ⟨h_1, hh0⟩ | ⟨h_1, hh0⟩; rotate_left
  · refine PC.cond_true rfl (not_f h_1) ?_; refine PC.seq ?_; obtain ⟨r7, h_8, hh0⟩ := bind_some hh0; refine PC.region ?_; refine PL.op rfl (Rd.fieldO rfl rfl) ?_; refine PL.op rfl (Rd.loadO rfl rfl rfl) ?_; refine PL.op rfl (Rd.fieldO rfl rfl) ?_; refine PL.op rfl (Rd.loadO rfl rfl rfl) ?_; refine PL.callM false [] (w_cmp_Compare_int_ N p_v.kind p_w.kind r7 h_8) rfl Tryz.call59 rfl ⟨.t _, .t _, trivial⟩ rfl trivial (fun h => by cases h) ?_; refine PL.op rfl (Rd.asnT rfl) ?_; refine PL.nil ?_; refine thA_n ?_; refine PC.ret ?_; refine thA_r ?_; obtain rfl := some_in hh0; exact FinA.mk (r := iA r7) (bl := []) [] (.inl rfl) rfl (rl := [.tmp 4]) (.tmp .nil) rfl rfl rfl (.t _) trivial ⟨rfl, rfl⟩
  refine PC.cond_false rfl (not_t h_1) ?_; refine PC.skip ?_; refine thA_n ?_; (iterate 2 refine PC.seq ?_); refine PC.region ?_; refine PL.op rfl (Rd.fieldO rfl rfl) ?_; refine PL.op rfl (Rd.loadO rfl rfl rfl) ?_; refine PL.op rfl (Rd.eql rfl rfl) ?_; refine PL.nil ?_; refine thA_n ?_; rcases cond_some hh0 with ⟨h_2, hh0⟩ | ⟨h_2, hh0⟩
  · refine PC.cond_true rfl h_2 ?_; refine PC.seq ?_; obtain ⟨r3, h_4, hh0⟩ := bind_some hh0; refine PC.region ?_; refine PL.op rfl (Rd.fieldO rfl rfl) ?_; refine PL.op rfl (Rd.loadO rfl rfl rfl) ?_; refine PL.op rfl (Rd.fieldO rfl rfl) ?_; refine PL.op rfl (Rd.loadO rfl rfl rfl) ?_; refine PL.callM false [] (w_cmp_Compare_int_ N p_v.num p_w.num r3 h_4) rfl Tryz.call59 rfl ⟨.t _, .t _, trivial⟩ rfl trivial (fun h => by cases h) ?_; refine PL.op rfl (Rd.asnT rfl) ?_; refine PL.nil ?_; refine thA_n ?_; refine PC.ret ?_; refine thA_r ?_; obtain rfl := some_in hh0; exact FinA.mk (r := iA r3) (bl := []) [] (.inl rfl) rfl (rl := [.tmp 4]) (.tmp .nil) rfl rfl rfl (.t _) trivial ⟨rfl, rfl⟩
  refine PC.cond_false rfl h_2 ?_; refine PC.skip ?_; refine thA_n ?_; refine PC.seq ?_; obtain ⟨r5, h_6, hh0⟩ := bind_some hh0; refine PC.region ?_; refine PL.op rfl (Rd.fieldO rfl rfl) ?_; refine PL.op rfl (Rd.loadO rfl rfl rfl) ?_; refine PL.op rfl (Rd.fieldO rfl rfl) ?_; refine PL.op rfl (Rd.loadO rfl rfl rfl) ?_; refine PL.callM false [] (w_cmp_Compare_string_ N p_v.text p_w.text r5 h_6) rfl Tryz.call84 rfl ⟨.t _, .t _, trivial⟩ rfl trivial (fun h => by cases h) ?_; refine PL.op rfl (Rd.asnT rfl) ?_; refine PL.nil ?_; refine thA_n ?_; refine PC.ret ?_; obtain rfl := some_in hh0; exact FinA.mk (r := iA r5) (bl := []) [] (.inl rfl) rfl (rl := [.tmp 4]) (.tmp .nil) rfl rfl rfl (.t _) trivial ⟨rfl, rfl⟩
def m_I_ScanTable_k1 (N : Nat) (v29 : (List Int)) : Option ((List Int)) :=
  some v29
def m_I_ScanTable_b1 (N : Nat) (p_low : I_Value) (p_high : I_Value) (r1 : ((List I_Value) × Bool)) (i10 : Int) (v11 : (List Int)) : Option ((Int × (List Int)) ⊕ (List Int)) :=
  cond (decide (i10 < (r1.1.length : Int)))
    ((ixI r1.1 i10).bind fun x36 =>
    (m_I_Value_compare N x36 p_low).bind fun r38 =>
    cond (decide ((0 : Int) ≤ r38))
      ((m_I_Value_compare N x36 p_high).bind fun r41 =>
      cond (decide (r41 ≤ (0 : Int)))
        ((appM 8 v11 [i10]).bind fun xs44 =>
        (chk (i10 + (1 : Int))).bind fun n46 =>
        some (.inl (n46, xs44)))
        ((chk (i10 + (1 : Int))).bind fun n48 =>
        some (.inl (n48, v11))))
      ((chk (i10 + (1 : Int))).bind fun n50 =>
      some (.inl (n50, v11))))
    (some (.inr v11))
def m_I_ScanTable (N : Nat) (p_t : I_Table) (p_column : Int) (p_low : I_Value) (p_high : I_Value) : Option ((List Int)) :=
  (m_I_columnOf N p_t p_column).bind fun r1 =>
  cond r1.2
    ((m_I_ValidValue N p_low).bind fun r4 =>
    cond r4
      ((m_I_ValidValue N p_high).bind fun r7 =>
      cond r7
        ((loopM (β := (List Int)) (fun s : Int × (List Int) => m_I_ScanTable_b1 N p_low p_high r1 s.1 s.2) N ((0 : Int), ([] : List Int))).bind fun e =>
        m_I_ScanTable_k1 N e)
        (some ([] : List Int)))
      (some ([] : List Int)))
    (some ([] : List Int))
theorem w_I_ScanTable (N : Nat) (p_t : I_Table) (p_column : Int) (p_low : I_Value) (p_high : I_Value) (r : (List Int)) (hh0 : m_I_ScanTable N p_t p_column p_low p_high = some r) : FnX Tryz.prog 12 [] [.agg [sL p_t.first, sL p_t.changes, sL p_t.rows], iA p_column, .agg [iA p_low.kind, iA p_low.num, sA p_low.text], .agg [iA p_high.kind, iA p_high.num, sA p_high.text]] (RE (.os 0 0 r.length) [⟨.tr (eL r), 3, 1⟩]) := by
  unfold m_I_ScanTable at hh0; refine FnX.mk Tryz.func12 rfl rfl ?_; intro s hs; refine PC.seq ?_; refine PC.region ?_; refine PL.ef rfl (Ef.box rfl rfl rfl) ?_; refine PL.nm (.op 0 0) [some ⟨.mx [sL p_t.first, sL p_t.changes, sL p_t.rows], 37, 0⟩] rfl rfl ?_; refine PL.ef rfl (Ef.box rfl rfl rfl) ?_; refine PL.nm (.op 1 0) [some ⟨.mx [sL p_t.first, sL p_t.changes, sL p_t.rows], 37, 0⟩, some ⟨.mx [iA p_low.kind, iA p_low.num, sA p_low.text], 39, 0⟩] rfl rfl ?_; refine PL.ef rfl (Ef.box rfl rfl rfl) ?_; refine PL.nm (.op 2 0) [some ⟨.mx [sL p_t.first, sL p_t.changes, sL p_t.rows], 37, 0⟩, some ⟨.mx [iA p_low.kind, iA p_low.num, sA p_low.text], 39, 0⟩, some ⟨.mx [iA p_high.kind, iA p_high.num, sA p_high.text], 39, 0⟩] rfl rfl ?_; refine PL.op rfl (Rd.asnT rfl) ?_; refine PL.nil ?_; refine thA_n ?_; refine PC.seq ?_; obtain ⟨r1, h_2, hh0⟩ := bind_some hh0; refine PC.region ?_; refine PL.op rfl (Rd.loadBox rfl rfl rfl) ?_; refine PL.op rfl (Rd.moveT rfl) ?_; refine PL.callM false [] (w_I_columnOf N p_t p_column r1 h_2) rfl Tryz.call43 rfl ⟨.aggL ⟨.t _, .t _, .t _, trivial⟩, .t _, trivial⟩ rfl trivial (fun h => by cases h) ?_; refine PL.nm (.tup [.os 3 0 r1.1.length, bA r1.2]) [some ⟨.mx [sL p_t.first, sL p_t.changes, sL p_t.rows], 37, 0⟩, some ⟨.mx [iA p_low.kind, iA p_low.num, sA p_low.text], 39, 0⟩, some ⟨.mx [iA p_high.kind, iA p_high.num, sA p_high.text], 39, 0⟩, some ⟨.tr (eL r1.1), 39, 3⟩] rfl rfl ?_; refine PL.op rfl (Rd.moveU rfl) ?_; (iterate 2 refine PL.op rfl (Rd.extract rfl rfl) ?_); refine PL.op rfl (Rd.asnO rfl) ?_; refine PL.op rfl (Rd.asnT rfl) ?_; refine PL.nil ?_; refine thA_n ?_; (iterate 2 refine PC.seq ?_); rcases cond_some hh0 with ⟨h_3, hh0⟩ | ⟨h_3, hh0⟩; rotate_left
  · refine PC.region ?_; refine PL.op rfl (Rd.moveT rfl) ?_; refine PL.op rfl (Rd.unnot rfl) ?_; refine PL.op rfl (Rd.moveT rfl) ?_; (iterate 3 refine PL.guard_off rfl rfl (not_f h_3) ?_); refine PL.op rfl (Rd.pick_t rfl (not_f h_3)) ?_; refine PL.op rfl (Rd.moveT rfl) ?_; (iterate 3 refine PL.guard_off rfl rfl rfl ?_); refine PL.op rfl (Rd.pick_t rfl rfl) ?_; refine PL.nil ?_; refine thA_n ?_; refine PC.cond_true rfl rfl ?_; refine PC.seq ?_; refine PC.region ?_; refine PL.op rfl (Rd.asnT rfl) ?_; refine PL.nil ?_; refine thA_n ?_; refine PC.ret ?_; refine thA_r ?_; obtain rfl := some_in hh0; exact FinA.mk (r := .os 0 0 0) (bl := [⟨.tr (eL ([] : List Int)), 3, 1⟩]) [none] (.inl rfl) rfl (rl := [.tmp 8]) (.tmp .nil) rfl rfl rfl (.osn rfl) ⟨ow_nil _, trivial⟩ ⟨rfl, rfl⟩
  obtain ⟨r4, h_5, hh0⟩ := bind_some hh0; rcases cond_some hh0 with ⟨h_6, hh0⟩ | ⟨h_6, hh0⟩; rotate_left
  · refine PC.region ?_; refine PL.op rfl (Rd.moveT rfl) ?_; refine PL.op rfl (Rd.unnot rfl) ?_; refine PL.op rfl (Rd.moveT rfl) ?_; refine PL.guard_on rfl (not_t h_3) ?_; refine PL.op rfl (Rd.loadBox rfl rfl rfl) ?_; refine PL.guard_on rfl (not_t h_3) ?_; refine PL.callM false [] (w_I_ValidValue N p_low r4 h_5) rfl Tryz.call29 rfl ⟨.aggL ⟨.t _, .t _, .t _, trivial⟩, trivial⟩ rfl trivial (fun h => by cases h) ?_; refine PL.guard_on rfl (not_t h_3) ?_; refine PL.op rfl (Rd.unnot rfl) ?_; refine PL.op rfl (Rd.pick_f rfl (not_t h_3)) ?_; refine PL.op rfl (Rd.moveT rfl) ?_; (iterate 3 refine PL.guard_off rfl rfl (not_f h_6) ?_); refine PL.op rfl (Rd.pick_t rfl (not_f h_6)) ?_; refine PL.nil ?_; refine thA_n ?_; refine PC.cond_true rfl rfl ?_; refine PC.seq ?_; refine PC.region ?_; refine PL.op rfl (Rd.asnT rfl) ?_; refine PL.nil ?_; refine thA_n ?_; refine PC.ret ?_; refine thA_r ?_; obtain rfl := some_in hh0; exact FinA.mk (r := .os 0 0 0) (bl := [⟨.tr (eL ([] : List Int)), 3, 1⟩]) [none] (.inl rfl) rfl (rl := [.tmp 8]) (.tmp .nil) rfl rfl rfl (.osn rfl) ⟨ow_nil _, trivial⟩ ⟨rfl, rfl⟩
  obtain ⟨r7, h_8, hh0⟩ := bind_some hh0; refine PC.region ?_; refine PL.op rfl (Rd.moveT rfl) ?_; refine PL.op rfl (Rd.unnot rfl) ?_; refine PL.op rfl (Rd.moveT rfl) ?_; refine PL.guard_on rfl (not_t h_3) ?_; refine PL.op rfl (Rd.loadBox rfl rfl rfl) ?_; refine PL.guard_on rfl (not_t h_3) ?_; refine PL.callM false [] (w_I_ValidValue N p_low r4 h_5) rfl Tryz.call29 rfl ⟨.aggL ⟨.t _, .t _, .t _, trivial⟩, trivial⟩ rfl trivial (fun h => by cases h) ?_; refine PL.guard_on rfl (not_t h_3) ?_; refine PL.op rfl (Rd.unnot rfl) ?_; refine PL.op rfl (Rd.pick_f rfl (not_t h_3)) ?_; refine PL.op rfl (Rd.moveT rfl) ?_; refine PL.guard_on rfl (not_t h_6) ?_; refine PL.op rfl (Rd.loadBox rfl rfl rfl) ?_; refine PL.guard_on rfl (not_t h_6) ?_; refine PL.callM false [] (w_I_ValidValue N p_high r7 h_8) rfl Tryz.call29 rfl ⟨.aggL ⟨.t _, .t _, .t _, trivial⟩, trivial⟩ rfl trivial (fun h => by cases h) ?_; refine PL.guard_on rfl (not_t h_6) ?_; refine PL.op rfl (Rd.unnot rfl) ?_; refine PL.op rfl (Rd.pick_f rfl (not_t h_6)) ?_; refine PL.nil ?_; refine thA_n ?_; rcases cond_some hh0 with ⟨h_9, hh0⟩ | ⟨h_9, hh0⟩; rotate_left
  · refine PC.cond_true rfl (not_f h_9) ?_; refine PC.seq ?_; refine PC.region ?_; refine PL.op rfl (Rd.asnT rfl) ?_; refine PL.nil ?_; refine thA_n ?_; refine PC.ret ?_; refine thA_r ?_; obtain rfl := some_in hh0; exact FinA.mk (r := .os 0 0 0) (bl := [⟨.tr (eL ([] : List Int)), 3, 1⟩]) [none] (.inl rfl) rfl (rl := [.tmp 8]) (.tmp .nil) rfl rfl rfl (.osn rfl) ⟨ow_nil _, trivial⟩ ⟨rfl, rfl⟩
  refine PC.cond_false rfl (not_t h_9) ?_; refine PC.skip ?_; refine thA_n ?_; refine PC.seq ?_; refine PC.region ?_; refine PL.op rfl (Rd.asnT rfl) ?_; refine PL.nil ?_; refine thA_n ?_; (iterate 2 refine PC.seq ?_); refine PC.region ?_; refine PL.op rfl (Rd.moveO rfl) ?_; refine PL.op rfl (Rd.lenO rfl rfl) ?_; refine PL.op rfl (Rd.moveT rfl) ?_; refine PL.nil ?_; refine thA_n ?_; obtain ⟨o30, h_31, hh0⟩ := bind_some hh0; refine PC.cutE hs (fun x : (List Int) => [(11, .os 0 0 x.length)]) (fun x => [⟨.tr (eL x), 3, 1⟩]) (fun x => m_I_ScanTable_k1 N x = some r) ?_ ?_
  · refine PC.block ?_; refine PC.loop hs (fun x : Nat × (Int × (List Int)) => [(6, .op 0 0), (7, .op 1 0), (11, .os 2 0 x.2.2.length), (32, .os 3 0 r1.1.length), (33, iA (r1.1.length : Int)), (34, iA x.2.1)]) (fun x => [⟨.mx [iA p_low.kind, iA p_low.num, sA p_low.text], 39, 0⟩, ⟨.mx [iA p_high.kind, iA p_high.num, sA p_high.text], 39, 0⟩, ⟨.tr (eL x.2.2), 3, 1⟩, ⟨.tr (eL r1.1), 39, 3⟩]) (fun x => loopM (β := (List Int)) (fun s : Int × (List Int) => m_I_ScanTable_b1 N p_low p_high r1 s.1 s.2) x.1 x.2 = some o30) (fun x => x.1) (N, ((0 : Int), ([] : List Int))) [some 1, some 2, none, some 3] ⟨rfl, rfl, ⟨⟨_, rfl, rfl, rfl, .mx ⟨.t _, .t _, .t _, trivial⟩⟩, ⟨_, rfl, rfl, rfl, .mx ⟨.t _, .t _, .t _, trivial⟩⟩, ow_nil _, ⟨_, rfl, rfl, rfl, .tr _⟩, trivial⟩, ⟨.op rfl, .op rfl, .osn rfl, .os rfl, .t _, .t _, trivial⟩⟩ h_31 ?_
    rintro ⟨f32_, i10, v11⟩ h_34
    obtain ⟨f32, y33, rfl, hh1, kk1⟩ := loopM_some h_34
    replace hh1 : m_I_ScanTable_b1 N p_low p_high r1 i10 v11 = some y33 := hh1
    unfold m_I_ScanTable_b1 at hh1; refine PC.seq ?_; refine PC.region ?_; refine PL.op rfl (Rd.lss rfl rfl) ?_; refine PL.nil ?_; refine thA_n ?_; refine PC.seq ?_; rcases cond_some hh1 with ⟨h_35, hh1⟩ | ⟨h_35, hh1⟩; rotate_left
    · refine PC.cond_false rfl h_35 ?_; refine PC.exit ?_; (iterate 2 refine thA_e ?_); refine inA_eq rfl ?_; refine thA_n ?_; obtain rfl := some_in hh1; obtain rfl : (v11 : (List Int)) = o30 := kk1; exact ⟨v11, hh0, [some 2], ⟨rfl, rfl, ⟨⟨_, rfl, rfl, rfl, .tr _⟩, trivial⟩, ⟨.os rfl, trivial⟩⟩⟩
    refine PC.cond_true rfl h_35 ?_; refine PC.skip ?_; refine thA_n ?_; refine PC.seq ?_; refine PC.block ?_; refine PC.seq ?_; obtain ⟨x36, h_37, hh1⟩ := bind_some hh1; refine PC.region ?_; refine PL.op rfl (Rd.moveT rfl) ?_; refine PL.op rfl (Rd.ixOM rfl rfl rfl (ixI_lt h_37)) ?_; refine PL.op rfl (Rd.owMR rfl rfl h_37 rfl rfl) ?_; refine PL.ef rfl (Ef.alloc rfl rfl) ?_; refine PL.nm (.op 4 0) [some ⟨.mx [iA p_low.kind, iA p_low.num, sA p_low.text], 39, 0⟩, some ⟨.mx [iA p_high.kind, iA p_high.num, sA p_high.text], 39, 0⟩, some ⟨.tr (eL v11), 3, 1⟩, some ⟨.tr (eL r1.1), 39, 3⟩, some ⟨.mx [iA (0 : Int), iA (0 : Int), sA ByteArray.empty], 39, 0⟩] rfl rfl ?_; refine PL.op rfl (Rd.asnT rfl) ?_; refine PL.store rfl rfl rfl rfl rfl rfl rfl ?_; refine PL.nO [some ⟨.mx [iA p_low.kind, iA p_low.num, sA p_low.text], 39, 0⟩, some ⟨.mx [iA p_high.kind, iA p_high.num, sA p_high.text], 39, 0⟩, some ⟨.tr (eL v11), 3, 1⟩, some ⟨.tr (eL r1.1), 39, 3⟩, some ⟨.mx [iA x36.kind, iA x36.num, sA x36.text], 39, 0⟩] rfl ?_; refine PL.nil ?_; refine thA_n ?_; refine PC.seq ?_; obtain ⟨r38, h_39, hh1⟩ := bind_some hh1; rcases cond_some hh1 with ⟨h_40, hh1⟩ | ⟨h_40, hh1⟩; rotate_left
    · refine PC.region ?_; (iterate 2 refine PL.op rfl (Rd.loadBox rfl rfl rfl) ?_); refine PL.callM false [] (w_I_Value_compare N x36 p_low r38 h_39) rfl Tryz.call44 rfl ⟨.aggL ⟨.t _, .t _, .t _, trivial⟩, .aggL ⟨.t _, .t _, .t _, trivial⟩, trivial⟩ rfl trivial (fun h => by cases h) ?_; refine PL.op rfl (Rd.geq rfl rfl) ?_; refine PL.op rfl (Rd.moveT rfl) ?_; (iterate 4 refine PL.guard_off rfl rfl h_40 ?_); refine PL.op rfl (Rd.pick_f rfl h_40) ?_; refine PL.nil ?_; refine thA_n ?_; refine PC.cond_false rfl rfl ?_; refine PC.skip ?_; refine inA_n ?_; refine thA_n ?_; obtain ⟨n50, h_51, hh1⟩ := bind_some hh1; refine PC.region ?_; refine PL.op rfl (Rd.addM rfl rfl h_51) ?_; refine PL.op rfl (Rd.moveT rfl) ?_; refine PL.nil ?_; obtain rfl := some_in hh1; refine thA_n ?_; exact ⟨(f32, (n50, v11)), Nat.lt_succ_self _, kk1, [some 0, some 1, some 2, some 3], ⟨rfl, rfl, ⟨⟨_, rfl, rfl, rfl, .mx ⟨.t _, .t _, .t _, trivial⟩⟩, ⟨_, rfl, rfl, rfl, .mx ⟨.t _, .t _, .t _, trivial⟩⟩, ⟨_, rfl, rfl, rfl, .tr _⟩, ⟨_, rfl, rfl, rfl, .tr _⟩, trivial⟩, ⟨.op rfl, .op rfl, .os rfl, .os rfl, .t _, .t _, trivial⟩⟩⟩
    obtain ⟨r41, h_42, hh1⟩ := bind_some hh1; refine PC.region ?_; (iterate 2 refine PL.op rfl (Rd.loadBox rfl rfl rfl) ?_); refine PL.callM false [] (w_I_Value_compare N x36 p_low r38 h_39) rfl Tryz.call44 rfl ⟨.aggL ⟨.t _, .t _, .t _, trivial⟩, .aggL ⟨.t _, .t _, .t _, trivial⟩, trivial⟩ rfl trivial (fun h => by cases h) ?_; refine PL.op rfl (Rd.geq rfl rfl) ?_; refine PL.op rfl (Rd.moveT rfl) ?_; refine PL.guard_on rfl h_40 ?_; refine PL.op rfl (Rd.loadBox rfl rfl rfl) ?_; refine PL.guard_on rfl h_40 ?_; refine PL.op rfl (Rd.loadBox rfl rfl rfl) ?_; refine PL.guard_on rfl h_40 ?_; refine PL.callM false [] (w_I_Value_compare N x36 p_high r41 h_42) rfl Tryz.call44 rfl ⟨.aggL ⟨.t _, .t _, .t _, trivial⟩, .aggL ⟨.t _, .t _, .t _, trivial⟩, trivial⟩ rfl trivial (fun h => by cases h) ?_; refine PL.guard_on rfl h_40 ?_; refine PL.op rfl (Rd.leq rfl rfl) ?_; refine PL.op rfl (Rd.pick_t rfl h_40) ?_; refine PL.nil ?_; refine thA_n ?_; rcases cond_some hh1 with ⟨h_43, hh1⟩ | ⟨h_43, hh1⟩; rotate_left
    · refine PC.cond_false rfl h_43 ?_; refine PC.skip ?_; refine inA_n ?_; refine thA_n ?_; obtain ⟨n48, h_49, hh1⟩ := bind_some hh1; refine PC.region ?_; refine PL.op rfl (Rd.addM rfl rfl h_49) ?_; refine PL.op rfl (Rd.moveT rfl) ?_; refine PL.nil ?_; obtain rfl := some_in hh1; refine thA_n ?_; exact ⟨(f32, (n48, v11)), Nat.lt_succ_self _, kk1, [some 0, some 1, some 2, some 3], ⟨rfl, rfl, ⟨⟨_, rfl, rfl, rfl, .mx ⟨.t _, .t _, .t _, trivial⟩⟩, ⟨_, rfl, rfl, rfl, .mx ⟨.t _, .t _, .t _, trivial⟩⟩, ⟨_, rfl, rfl, rfl, .tr _⟩, ⟨_, rfl, rfl, rfl, .tr _⟩, trivial⟩, ⟨.op rfl, .op rfl, .os rfl, .os rfl, .t _, .t _, trivial⟩⟩⟩
    refine PC.cond_true rfl h_43 ?_; obtain ⟨xs44, h_45, hh1⟩ := bind_some hh1; refine PC.region ?_; refine PL.op rfl (Rd.moveO rfl) ?_; refine PL.op rfl (Rd.moveT rfl) ?_; refine PL.ef rfl (Ef.litM (α := Int) [i10] [_] rfl rfl (by decide) rfl rfl rfl rfl) ?_; refine PL.nm (.os 5 0 1) [some ⟨.mx [iA p_low.kind, iA p_low.num, sA p_low.text], 39, 0⟩, some ⟨.mx [iA p_high.kind, iA p_high.num, sA p_high.text], 39, 0⟩, some ⟨.tr (eL v11), 3, 1⟩, some ⟨.tr (eL r1.1), 39, 3⟩, some ⟨.mx [iA x36.kind, iA x36.num, sA x36.text], 39, 0⟩, some ⟨.tr (eL [i10]), 3, 1⟩] rfl rfl ?_; refine PL.apM hs rfl rfl rfl rfl (SrcA.ownE rfl rfl rfl) rfl rfl rfl rfl h_45 ?_; refine PL.nm (.os 6 0 xs44.length) [some ⟨.mx [iA p_low.kind, iA p_low.num, sA p_low.text], 39, 0⟩, some ⟨.mx [iA p_high.kind, iA p_high.num, sA p_high.text], 39, 0⟩, none, some ⟨.tr (eL r1.1), 39, 3⟩, some ⟨.mx [iA x36.kind, iA x36.num, sA x36.text], 39, 0⟩, some ⟨.tr (eL [i10]), 3, 1⟩, some ⟨.tr (eL xs44), 3, 1⟩] rfl rfl ?_; refine PL.op rfl (Rd.asnO rfl) ?_; refine PL.nil ?_; refine inA_n ?_; refine thA_n ?_; obtain ⟨n46, h_47, hh1⟩ := bind_some hh1; refine PC.region ?_; refine PL.op rfl (Rd.addM rfl rfl h_47) ?_; refine PL.op rfl (Rd.moveT rfl) ?_; refine PL.nil ?_; obtain rfl := some_in hh1; refine thA_n ?_; exact ⟨(f32, (n46, xs44)), Nat.lt_succ_self _, kk1, [some 0, some 1, some 6, some 3], ⟨rfl, rfl, ⟨⟨_, rfl, rfl, rfl, .mx ⟨.t _, .t _, .t _, trivial⟩⟩, ⟨_, rfl, rfl, rfl, .mx ⟨.t _, .t _, .t _, trivial⟩⟩, ⟨_, rfl, rfl, rfl, .tr _⟩, ⟨_, rfl, rfl, rfl, .tr _⟩, trivial⟩, ⟨.op rfl, .op rfl, .os rfl, .os rfl, .t _, .t _, trivial⟩⟩⟩
  clear hh0
  rintro v29 hh0
  replace hh0 : m_I_ScanTable_k1 N v29 = some r := hh0
  unfold m_I_ScanTable_k1 at hh0; refine thA_n ?_; refine PC.seq ?_; refine PC.region ?_; refine PL.op rfl (Rd.moveO rfl) ?_; refine PL.op rfl (Rd.asnO rfl) ?_; refine PL.nil ?_; refine thA_n ?_; refine PC.ret ?_; obtain rfl := some_in hh0; exact FinA.mk (r := .os 0 0 v29.length) (bl := [⟨.tr (eL v29), 3, 1⟩]) [some 0] (.inl rfl) rfl (rl := [.tmp 8]) (.tmp .nil) rfl rfl rfl (.os rfl) ⟨⟨_, rfl, rfl, rfl, .tr _⟩, trivial⟩ ⟨rfl, rfl⟩
def m_S_width (N : Nat) (p_t : I_Table) : Option (Int) :=
  (m_S_formats N p_t.first p_t.changes).bind fun r1 =>
  (ixI r1.1 (p_t.changes.length : Int)).bind fun x3 =>
  some (x3.length : Int)
theorem w_S_width (N : Nat) (p_t : I_Table) (r : Int) (hh0 : m_S_width N p_t = some r) : FnX Tryz.prog 36 [] [.agg [sL p_t.first, sL p_t.changes, sL p_t.rows]] (RE (iA r) []) := by
  unfold m_S_width at hh0; refine FnX.mk Tryz.func36 rfl rfl ?_; intro s hs; refine PC.seq ?_; refine PC.region ?_; refine PL.ef rfl (Ef.box rfl rfl rfl) ?_; refine PL.nm (.op 0 0) [some ⟨.mx [sL p_t.first, sL p_t.changes, sL p_t.rows], 37, 0⟩] rfl rfl ?_; refine PL.op rfl (Rd.asnT rfl) ?_; refine PL.nil ?_; refine thA_n ?_; refine PC.seq ?_; obtain ⟨r1, h_2, hh0⟩ := bind_some hh0; refine PC.region ?_; refine PL.op rfl (Rd.fieldO rfl rfl) ?_; refine PL.op rfl (Rd.loadO rfl rfl rfl) ?_; refine PL.op rfl (Rd.fieldO rfl rfl) ?_; refine PL.op rfl (Rd.loadO rfl rfl rfl) ?_; refine PL.callM false [] (w_S_formats N p_t.first p_t.changes r1 h_2) rfl Tryz.call75 rfl ⟨.t _, .t _, trivial⟩ rfl trivial (fun h => by cases h) ?_; refine PL.nm (.tup [.os 1 0 r1.1.length, bA r1.2]) [some ⟨.mx [sL p_t.first, sL p_t.changes, sL p_t.rows], 37, 0⟩, some ⟨.tr (eL r1.1), 33, 1⟩] rfl rfl ?_; refine PL.op rfl (Rd.moveU rfl) ?_; (iterate 2 refine PL.op rfl (Rd.extract rfl rfl) ?_); refine PL.op rfl (Rd.asnO rfl) ?_; refine PL.op rfl (Rd.asnT rfl) ?_; refine PL.nil ?_; refine thA_n ?_; refine PC.seq ?_; obtain ⟨x3, h_4, hh0⟩ := bind_some hh0; refine PC.region ?_; refine PL.op rfl (Rd.moveO rfl) ?_; refine PL.op rfl (Rd.fieldO rfl rfl) ?_; refine PL.op rfl (Rd.loadO rfl rfl rfl) ?_; refine PL.op rfl (Rd.lenT rfl) ?_; refine PL.op rfl (Rd.ixOM rfl rfl rfl (ixI_lt h_4)) ?_; refine PL.op rfl (Rd.owM1 rfl rfl h_4 rfl rfl) ?_; refine PL.op rfl (Rd.lenT rfl) ?_; refine PL.op rfl (Rd.asnT rfl) ?_; refine PL.nil ?_; refine thA_n ?_; refine PC.ret ?_; obtain rfl := some_in hh0; exact FinA.mk (r := iA (x3.length : Int)) (bl := []) [] (.inl rfl) rfl (rl := [.tmp 2]) (.tmp .nil) rfl rfl rfl (.t _) trivial ⟨rfl, rfl⟩
def m_S_toInt (N : Nat) (p_b : Bool) : Option (Int) :=
  cond p_b
    (some (1 : Int))
    (some (0 : Int))
theorem w_S_toInt (N : Nat) (p_b : Bool) (r : Int) (hh0 : m_S_toInt N p_b = some r) : FnX Tryz.prog 79 [] [bA p_b] (RE (iA r) []) := by
  unfold m_S_toInt at hh0; refine FnX.mk Tryz.func79 rfl rfl ?_; intro s hs; refine PC.seq ?_; refine PC.region ?_; refine PL.op rfl (Rd.asnT rfl) ?_; refine PL.nil ?_; refine thA_n ?_; (iterate 2 refine PC.seq ?_); refine PC.region ?_; refine PL.op rfl (Rd.moveT rfl) ?_; refine PL.nil ?_; refine thA_n ?_; rcases cond_some hh0 with ⟨h_1, hh0⟩ | ⟨h_1, hh0⟩
  · refine PC.cond_true rfl h_1 ?_; refine PC.seq ?_; refine PC.region ?_; refine PL.op rfl (Rd.asnT rfl) ?_; refine PL.nil ?_; refine thA_n ?_; refine PC.ret ?_; refine thA_r ?_; obtain rfl := some_in hh0; exact FinA.mk (r := iA (1 : Int)) (bl := []) [] (.inl rfl) rfl (rl := [.tmp 2]) (.tmp .nil) rfl rfl rfl (.t _) trivial ⟨rfl, rfl⟩
  refine PC.cond_false rfl h_1 ?_; refine PC.skip ?_; refine thA_n ?_; refine PC.seq ?_; refine PC.region ?_; refine PL.op rfl (Rd.asnT rfl) ?_; refine PL.nil ?_; refine thA_n ?_; refine PC.ret ?_; obtain rfl := some_in hh0; exact FinA.mk (r := iA (0 : Int)) (bl := []) [] (.inl rfl) rfl (rl := [.tmp 2]) (.tmp .nil) rfl rfl rfl (.t _) trivial ⟨rfl, rfl⟩
def m_S_compare (N : Nat) (p_a : I_Value) (p_b : I_Value) : Option (Int) :=
  cond (decide (p_a.kind = p_b.kind))
    (cond (decide (p_a.num = p_b.num))
      ((m_S_toInt N (Op.bytesLess p_b.text.toList p_a.text.toList)).bind fun r3 =>
      (m_S_toInt N (Op.bytesLess p_a.text.toList p_b.text.toList)).bind fun r5 =>
      (chk (r3 - r5)).bind fun n7 =>
      some n7)
      ((m_S_toInt N (decide (p_b.num < p_a.num))).bind fun r9 =>
      (m_S_toInt N (decide (p_a.num < p_b.num))).bind fun r11 =>
      (chk (r9 - r11)).bind fun n13 =>
      some n13))
    ((m_S_toInt N (decide (p_b.kind < p_a.kind))).bind fun r15 =>
    (m_S_toInt N (decide (p_a.kind < p_b.kind))).bind fun r17 =>
    (chk (r15 - r17)).bind fun n19 =>
    some n19)
theorem w_S_compare (N : Nat) (p_a : I_Value) (p_b : I_Value) (r : Int) (hh0 : m_S_compare N p_a p_b = some r) : FnX Tryz.prog 39 [] [.agg [iA p_a.kind, iA p_a.num, sA p_a.text], .agg [iA p_b.kind, iA p_b.num, sA p_b.text]] (RE (iA r) []) := by
  unfold m_S_compare at hh0; refine FnX.mk Tryz.func39 rfl rfl ?_; intro s hs; refine PC.seq ?_; refine PC.region ?_; refine PL.ef rfl (Ef.box rfl rfl rfl) ?_; refine PL.nm (.op 0 0) [some ⟨.mx [iA p_a.kind, iA p_a.num, sA p_a.text], 39, 0⟩] rfl rfl ?_; refine PL.ef rfl (Ef.box rfl rfl rfl) ?_; refine PL.nm (.op 1 0) [some ⟨.mx [iA p_a.kind, iA p_a.num, sA p_a.text], 39, 0⟩, some ⟨.mx [iA p_b.kind, iA p_b.num, sA p_b.text], 39, 0⟩] rfl rfl ?_; refine PL.op rfl (Rd.asnT rfl) ?_; refine PL.nil ?_; refine thA_n ?_; refine PC.seq ?_; refine PC.block ?_; refine PC.seq ?_; refine PC.region ?_; refine PL.op rfl (Rd.fieldO rfl rfl) ?_; refine PL.op rfl (Rd.loadO rfl rfl rfl) ?_; refine PL.op rfl (Rd.fieldO rfl rfl) ?_; refine PL.op rfl (Rd.loadO rfl rfl rfl) ?_; refine PL.op rfl (Rd.neq rfl rfl) ?_; refine PL.op rfl (Rd.asnT rfl) ?_; refine PL.nil ?_; refine thA_n ?_; rcases cond_some hh0 with ⟨h_1, hh0⟩ | ⟨h_1, hh0⟩; rotate_left
  · refine PC.cond_true rfl (not_f h_1) ?_; refine PC.seq ?_; obtain ⟨r15, h_16, hh0⟩ := bind_some hh0; obtain ⟨r17, h_18, hh0⟩ := bind_some hh0; obtain ⟨n19, h_20, hh0⟩ := bind_some hh0; refine PC.any (id := 2) 14 (.seg [0, 1, 2, 3, 4, 6, 7, 8, 9, 10, 5, 11, 12, 13] .done) [] rfl (by kernel_rfl) rfl ?_; refine PT.seg ?_; refine PR.op rfl (Rd.fieldO rfl rfl) ?_; refine PR.op rfl (Rd.loadO rfl rfl rfl) ?_; refine PR.op rfl (Rd.fieldO rfl rfl) ?_; refine PR.op rfl (Rd.loadO rfl rfl rfl) ?_; refine PR.op rfl (Rd.gtr rfl rfl) ?_; refine PR.op rfl (Rd.fieldO rfl rfl) ?_; refine PR.op rfl (Rd.loadO rfl rfl rfl) ?_; refine PR.op rfl (Rd.fieldO rfl rfl) ?_; refine PR.op rfl (Rd.loadO rfl rfl rfl) ?_; refine PR.op rfl (Rd.lss rfl rfl) ?_; refine PR.callM false [] (w_S_toInt N (decide (p_b.kind < p_a.kind)) r15 h_16) rfl Tryz.call79 rfl ⟨.t _, trivial⟩ rfl trivial (fun h => by cases h) rfl ?_; refine PR.callM false [] (w_S_toInt N (decide (p_a.kind < p_b.kind)) r17 h_18) rfl Tryz.call79 rfl ⟨.t _, trivial⟩ rfl trivial (fun h => by cases h) rfl ?_; refine PR.op rfl (Rd.subM rfl rfl h_20) ?_; refine PR.op rfl (Rd.asnT rfl) ?_; refine PR.nil ?_; refine PT.done ?_; refine PL.nil ?_; refine thA_n ?_; refine PC.ret ?_; refine inA_r ?_; refine thA_r ?_; obtain rfl := some_in hh0; exact FinA.mk (r := iA n19) (bl := []) [] (.inl rfl) rfl (rl := [.tmp 4]) (.tmp .nil) rfl rfl rfl (.t _) trivial ⟨rfl, rfl⟩
  refine PC.cond_false rfl (not_t h_1) ?_; refine PC.seq ?_; refine PC.region ?_; refine PL.op rfl (Rd.fieldO rfl rfl) ?_; refine PL.op rfl (Rd.loadO rfl rfl rfl) ?_; refine PL.op rfl (Rd.fieldO rfl rfl) ?_; refine PL.op rfl (Rd.loadO rfl rfl rfl) ?_; refine PL.op rfl (Rd.neq rfl rfl) ?_; refine PL.op rfl (Rd.asnT rfl) ?_; refine PL.nil ?_; refine thA_n ?_; rcases cond_some hh0 with ⟨h_2, hh0⟩ | ⟨h_2, hh0⟩; rotate_left
  · refine PC.cond_true rfl (not_f h_2) ?_; refine PC.seq ?_; obtain ⟨r9, h_10, hh0⟩ := bind_some hh0; obtain ⟨r11, h_12, hh0⟩ := bind_some hh0; obtain ⟨n13, h_14, hh0⟩ := bind_some hh0; refine PC.any (id := 4) 14 (.seg [0, 1, 2, 3, 4, 6, 7, 8, 9, 10, 5, 11, 12, 13] .done) [] rfl (by kernel_rfl) rfl ?_; refine PT.seg ?_; refine PR.op rfl (Rd.fieldO rfl rfl) ?_; refine PR.op rfl (Rd.loadO rfl rfl rfl) ?_; refine PR.op rfl (Rd.fieldO rfl rfl) ?_; refine PR.op rfl (Rd.loadO rfl rfl rfl) ?_; refine PR.op rfl (Rd.gtr rfl rfl) ?_; refine PR.op rfl (Rd.fieldO rfl rfl) ?_; refine PR.op rfl (Rd.loadO rfl rfl rfl) ?_; refine PR.op rfl (Rd.fieldO rfl rfl) ?_; refine PR.op rfl (Rd.loadO rfl rfl rfl) ?_; refine PR.op rfl (Rd.lss rfl rfl) ?_; refine PR.callM false [] (w_S_toInt N (decide (p_b.num < p_a.num)) r9 h_10) rfl Tryz.call79 rfl ⟨.t _, trivial⟩ rfl trivial (fun h => by cases h) rfl ?_; refine PR.callM false [] (w_S_toInt N (decide (p_a.num < p_b.num)) r11 h_12) rfl Tryz.call79 rfl ⟨.t _, trivial⟩ rfl trivial (fun h => by cases h) rfl ?_; refine PR.op rfl (Rd.subM rfl rfl h_14) ?_; refine PR.op rfl (Rd.asnT rfl) ?_; refine PR.nil ?_; refine PT.done ?_; refine PL.nil ?_; refine thA_n ?_; refine PC.ret ?_; refine inA_r ?_; refine thA_r ?_; obtain rfl := some_in hh0; exact FinA.mk (r := iA n13) (bl := []) [] (.inl rfl) rfl (rl := [.tmp 4]) (.tmp .nil) rfl rfl rfl (.t _) trivial ⟨rfl, rfl⟩
  refine PC.cond_false rfl (not_t h_2) ?_; refine PC.skip ?_; refine inA_n ?_; refine thA_n ?_; refine PC.seq ?_; obtain ⟨r3, h_4, hh0⟩ := bind_some hh0; obtain ⟨r5, h_6, hh0⟩ := bind_some hh0; obtain ⟨n7, h_8, hh0⟩ := bind_some hh0; refine PC.any (id := 5) 14 (.seg [0, 1, 2, 3, 4, 6, 7, 8, 9, 10, 5, 11, 12, 13] .done) [] rfl (by kernel_rfl) rfl ?_; refine PT.seg ?_; refine PR.op rfl (Rd.fieldO rfl rfl) ?_; refine PR.op rfl (Rd.loadO rfl rfl rfl) ?_; refine PR.op rfl (Rd.fieldO rfl rfl) ?_; refine PR.op rfl (Rd.loadO rfl rfl rfl) ?_; refine PR.op rfl (Rd.gtrS rfl rfl) ?_; refine PR.op rfl (Rd.fieldO rfl rfl) ?_; refine PR.op rfl (Rd.loadO rfl rfl rfl) ?_; refine PR.op rfl (Rd.fieldO rfl rfl) ?_; refine PR.op rfl (Rd.loadO rfl rfl rfl) ?_; refine PR.op rfl (Rd.lssS rfl rfl) ?_; refine PR.callM false [] (w_S_toInt N (Op.bytesLess p_b.text.toList p_a.text.toList) r3 h_4) rfl Tryz.call79 rfl ⟨.t _, trivial⟩ rfl trivial (fun h => by cases h) rfl ?_; refine PR.callM false [] (w_S_toInt N (Op.bytesLess p_a.text.toList p_b.text.toList) r5 h_6) rfl Tryz.call79 rfl ⟨.t _, trivial⟩ rfl trivial (fun h => by cases h) rfl ?_; refine PR.op rfl (Rd.subM rfl rfl h_8) ?_; refine PR.op rfl (Rd.asnT rfl) ?_; refine PR.nil ?_; refine PT.done ?_; refine PL.nil ?_; refine thA_n ?_; refine PC.ret ?_; obtain rfl := some_in hh0; exact FinA.mk (r := iA n7) (bl := []) [] (.inl rfl) rfl (rl := [.tmp 4]) (.tmp .nil) rfl rfl rfl (.t _) trivial ⟨rfl, rfl⟩
def m_S_ScanTable_k1 (N : Nat) (v42 : (List Int)) : Option ((List Int)) :=
  some v42
def m_S_ScanTable_b1 (N : Nat) (p_column : Int) (p_low : I_Value) (p_high : I_Value) (r17 : ((List (List I_Value)))) (i19 : Int) (v20 : (List Int)) : Option ((Int × (List Int)) ⊕ (List Int)) :=
  cond (decide (i19 < (r17.length : Int)))
    ((ixI r17 i19).bind fun x49 =>
    (ixI x49 p_column).bind fun x51 =>
    (m_S_compare N p_low x51).bind fun r53 =>
    cond (decide (r53 ≤ (0 : Int)))
      ((ixI x49 p_column).bind fun x56 =>
      (m_S_compare N x56 p_high).bind fun r58 =>
      cond (decide (r58 ≤ (0 : Int)))
        ((appM 8 v20 [i19]).bind fun xs61 =>
        (chk (i19 + (1 : Int))).bind fun n63 =>
        some (.inl (n63, xs61)))
        ((chk (i19 + (1 : Int))).bind fun n65 =>
        some (.inl (n65, v20))))
      ((chk (i19 + (1 : Int))).bind fun n67 =>
      some (.inl (n67, v20))))
    (some (.inr v20))
def m_S_ScanTable (N : Nat) (p_t : I_Table) (p_column : Int) (p_low : I_Value) (p_high : I_Value) : Option ((List Int)) :=
  (m_S_validTable N p_t).bind fun r1 =>
  cond r1
    ((m_S_width N p_t).bind fun r4 =>
    (chk (r4 - (1 : Int))).bind fun n6 =>
    (m_S_inRange N p_column (0 : Int) n6).bind fun r8 =>
    cond r8
      ((m_S_validValue N p_low).bind fun r11 =>
      cond r11
        ((m_S_validValue N p_high).bind fun r14 =>
        cond r14
          ((m_S_latest N p_t).bind fun r17 =>
          (loopM (β := (List Int)) (fun s : Int × (List Int) => m_S_ScanTable_b1 N p_column p_low p_high r17 s.1 s.2) N ((0 : Int), ([] : List Int))).bind fun e =>
          m_S_ScanTable_k1 N e)
          (some ([] : List Int)))
        (some ([] : List Int)))
      (some ([] : List Int)))
    (some ([] : List Int))
theorem w_S_ScanTable (N : Nat) (p_t : I_Table) (p_column : Int) (p_low : I_Value) (p_high : I_Value) (r : (List Int)) (hh0 : m_S_ScanTable N p_t p_column p_low p_high = some r) : FnX Tryz.prog 9 [] [.agg [sL p_t.first, sL p_t.changes, sL p_t.rows], iA p_column, .agg [iA p_low.kind, iA p_low.num, sA p_low.text], .agg [iA p_high.kind, iA p_high.num, sA p_high.text]] (RE (.os 0 0 r.length) [⟨.tr (eL r), 3, 1⟩]) := by
  unfold m_S_ScanTable at hh0; refine FnX.mk Tryz.func9 rfl rfl ?_; intro s hs; refine PC.seq ?_; refine PC.region ?_; refine PL.ef rfl (Ef.box rfl rfl rfl) ?_; refine PL.nm (.op 0 0) [some ⟨.mx [sL p_t.first, sL p_t.changes, sL p_t.rows], 37, 0⟩] rfl rfl ?_; refine PL.ef rfl (Ef.box rfl rfl rfl) ?_; refine PL.nm (.op 1 0) [some ⟨.mx [sL p_t.first, sL p_t.changes, sL p_t.rows], 37, 0⟩, some ⟨.mx [iA p_low.kind, iA p_low.num, sA p_low.text], 39, 0⟩] rfl rfl ?_; refine PL.ef rfl (Ef.box rfl rfl rfl) ?_; refine PL.nm (.op 2 0) [some ⟨.mx [sL p_t.first, sL p_t.changes, sL p_t.rows], 37, 0⟩, some ⟨.mx [iA p_low.kind, iA p_low.num, sA p_low.text], 39, 0⟩, some ⟨.mx [iA p_high.kind, iA p_high.num, sA p_high.text], 39, 0⟩] rfl rfl ?_; refine PL.op rfl (Rd.asnT rfl) ?_; refine PL.nil ?_; refine thA_n ?_; refine PC.seq ?_; refine PC.region ?_; refine PL.ef rfl (Ef.lit0M Int) ?_; refine PL.nm (.os 3 0 0) [some ⟨.mx [sL p_t.first, sL p_t.changes, sL p_t.rows], 37, 0⟩, some ⟨.mx [iA p_low.kind, iA p_low.num, sA p_low.text], 39, 0⟩, some ⟨.mx [iA p_high.kind, iA p_high.num, sA p_high.text], 39, 0⟩, some ⟨.tr (eL ([] : List Int)), 3, 1⟩] rfl rfl ?_; refine PL.op rfl (Rd.asnO rfl) ?_; refine PL.nil ?_; refine thA_n ?_; (iterate 2 refine PC.seq ?_); obtain ⟨r1, h_2, hh0⟩ := bind_some hh0; rcases cond_some hh0 with ⟨h_3, hh0⟩ | ⟨h_3, hh0⟩; rotate_left
  · refine PC.region ?_; refine PL.op rfl (Rd.loadBox rfl rfl rfl) ?_; refine PL.callM false [] (w_S_validTable N p_t r1 h_2) rfl Tryz.call34 rfl ⟨.aggL ⟨.t _, .t _, .t _, trivial⟩, trivial⟩ rfl trivial (fun h => by cases h) ?_; refine PL.op rfl (Rd.unnot rfl) ?_; refine PL.op rfl (Rd.moveT rfl) ?_; (iterate 6 refine PL.guard_off rfl rfl (not_f h_3) ?_); refine PL.op rfl (Rd.pick_t rfl (not_f h_3)) ?_; refine PL.op rfl (Rd.moveT rfl) ?_; (iterate 3 refine PL.guard_off rfl rfl rfl ?_); refine PL.op rfl (Rd.pick_t rfl rfl) ?_; refine PL.op rfl (Rd.moveT rfl) ?_; (iterate 3 refine PL.guard_off rfl rfl rfl ?_); refine PL.op rfl (Rd.pick_t rfl rfl) ?_; refine PL.nil ?_; refine thA_n ?_; refine PC.cond_true rfl rfl ?_; refine PC.seq ?_; refine PC.region ?_; refine PL.op rfl (Rd.asnT rfl) ?_; refine PL.nil ?_; refine thA_n ?_; refine PC.ret ?_; refine thA_r ?_; obtain rfl := some_in hh0; exact FinA.mk (r := .os 0 0 0) (bl := [⟨.tr (eL ([] : List Int)), 3, 1⟩]) [none] (.inl rfl) rfl (rl := [.tmp 8]) (.tmp .nil) rfl rfl rfl (.osn rfl) ⟨ow_nil _, trivial⟩ ⟨rfl, rfl⟩
  obtain ⟨r4, h_5, hh0⟩ := bind_some hh0; obtain ⟨n6, h_7, hh0⟩ := bind_some hh0; obtain ⟨r8, h_9, hh0⟩ := bind_some hh0; rcases cond_some hh0 with ⟨h_10, hh0⟩ | ⟨h_10, hh0⟩; rotate_left
  · refine PC.region ?_; refine PL.op rfl (Rd.loadBox rfl rfl rfl) ?_; refine PL.callM false [] (w_S_validTable N p_t r1 h_2) rfl Tryz.call34 rfl ⟨.aggL ⟨.t _, .t _, .t _, trivial⟩, trivial⟩ rfl trivial (fun h => by cases h) ?_; refine PL.op rfl (Rd.unnot rfl) ?_; refine PL.op rfl (Rd.moveT rfl) ?_; refine PL.guard_on rfl (not_t h_3) ?_; refine PL.op rfl (Rd.moveT rfl) ?_; refine PL.guard_on rfl (not_t h_3) ?_; refine PL.op rfl (Rd.loadBox rfl rfl rfl) ?_; refine PL.guard_on rfl (not_t h_3) ?_; refine PL.callM false [] (w_S_width N p_t r4 h_5) rfl Tryz.call36 rfl ⟨.aggL ⟨.t _, .t _, .t _, trivial⟩, trivial⟩ rfl trivial (fun h => by cases h) ?_; refine PL.guard_on rfl (not_t h_3) ?_; refine PL.op rfl (Rd.subM rfl rfl h_7) ?_; refine PL.guard_on rfl (not_t h_3) ?_; refine PL.callM false [] (w_S_inRange N p_column (0 : Int) n6 r8 h_9) rfl Tryz.call35 rfl ⟨.t _, .t _, .t _, trivial⟩ rfl trivial (fun h => by cases h) ?_; refine PL.guard_on rfl (not_t h_3) ?_; refine PL.op rfl (Rd.unnot rfl) ?_; refine PL.op rfl (Rd.pick_f rfl (not_t h_3)) ?_; refine PL.op rfl (Rd.moveT rfl) ?_; (iterate 3 refine PL.guard_off rfl rfl (not_f h_10) ?_); refine PL.op rfl (Rd.pick_t rfl (not_f h_10)) ?_; refine PL.op rfl (Rd.moveT rfl) ?_; (iterate 3 refine PL.guard_off rfl rfl rfl ?_); refine PL.op rfl (Rd.pick_t rfl rfl) ?_; refine PL.nil ?_; refine thA_n ?_; refine PC.cond_true rfl rfl ?_; refine PC.seq ?_; refine PC.region ?_; refine PL.op rfl (Rd.asnT rfl) ?_; refine PL.nil ?_; refine thA_n ?_; refine PC.ret ?_; refine thA_r ?_; obtain rfl := some_in hh0; exact FinA.mk (r := .os 0 0 0) (bl := [⟨.tr (eL ([] : List Int)), 3, 1⟩]) [none] (.inl rfl) rfl (rl := [.tmp 8]) (.tmp .nil) rfl rfl rfl (.osn rfl) ⟨ow_nil _, trivial⟩ ⟨rfl, rfl⟩
  obtain ⟨r11, h_12, hh0⟩ := bind_some hh0; rcases cond_some hh0 with ⟨h_13, hh0⟩ | ⟨h_13, hh0⟩; rotate_left
  · refine PC.region ?_; refine PL.op rfl (Rd.loadBox rfl rfl rfl) ?_; refine PL.callM false [] (w_S_validTable N p_t r1 h_2) rfl Tryz.call34 rfl ⟨.aggL ⟨.t _, .t _, .t _, trivial⟩, trivial⟩ rfl trivial (fun h => by cases h) ?_; refine PL.op rfl (Rd.unnot rfl) ?_; refine PL.op rfl (Rd.moveT rfl) ?_; refine PL.guard_on rfl (not_t h_3) ?_; refine PL.op rfl (Rd.moveT rfl) ?_; refine PL.guard_on rfl (not_t h_3) ?_; refine PL.op rfl (Rd.loadBox rfl rfl rfl) ?_; refine PL.guard_on rfl (not_t h_3) ?_; refine PL.callM false [] (w_S_width N p_t r4 h_5) rfl Tryz.call36 rfl ⟨.aggL ⟨.t _, .t _, .t _, trivial⟩, trivial⟩ rfl trivial (fun h => by cases h) ?_; refine PL.guard_on rfl (not_t h_3) ?_; refine PL.op rfl (Rd.subM rfl rfl h_7) ?_; refine PL.guard_on rfl (not_t h_3) ?_; refine PL.callM false [] (w_S_inRange N p_column (0 : Int) n6 r8 h_9) rfl Tryz.call35 rfl ⟨.t _, .t _, .t _, trivial⟩ rfl trivial (fun h => by cases h) ?_; refine PL.guard_on rfl (not_t h_3) ?_; refine PL.op rfl (Rd.unnot rfl) ?_; refine PL.op rfl (Rd.pick_f rfl (not_t h_3)) ?_; refine PL.op rfl (Rd.moveT rfl) ?_; refine PL.guard_on rfl (not_t h_10) ?_; refine PL.op rfl (Rd.loadBox rfl rfl rfl) ?_; refine PL.guard_on rfl (not_t h_10) ?_; refine PL.callM false [] (w_S_validValue N p_low r11 h_12) rfl Tryz.call37 rfl ⟨.aggL ⟨.t _, .t _, .t _, trivial⟩, trivial⟩ rfl trivial (fun h => by cases h) ?_; refine PL.guard_on rfl (not_t h_10) ?_; refine PL.op rfl (Rd.unnot rfl) ?_; refine PL.op rfl (Rd.pick_f rfl (not_t h_10)) ?_; refine PL.op rfl (Rd.moveT rfl) ?_; (iterate 3 refine PL.guard_off rfl rfl (not_f h_13) ?_); refine PL.op rfl (Rd.pick_t rfl (not_f h_13)) ?_; refine PL.nil ?_; refine thA_n ?_; refine PC.cond_true rfl rfl ?_; refine PC.seq ?_; refine PC.region ?_; refine PL.op rfl (Rd.asnT rfl) ?_; refine PL.nil ?_; refine thA_n ?_; refine PC.ret ?_; refine thA_r ?_; obtain rfl := some_in hh0; exact FinA.mk (r := .os 0 0 0) (bl := [⟨.tr (eL ([] : List Int)), 3, 1⟩]) [none] (.inl rfl) rfl (rl := [.tmp 8]) (.tmp .nil) rfl rfl rfl (.osn rfl) ⟨ow_nil _, trivial⟩ ⟨rfl, rfl⟩
  obtain ⟨r14, h_15, hh0⟩ := bind_some hh0; refine PC.region ?_; refine PL.op rfl (Rd.loadBox rfl rfl rfl) ?_; refine PL.callM false [] (w_S_validTable N p_t r1 h_2) rfl Tryz.call34 rfl ⟨.aggL ⟨.t _, .t _, .t _, trivial⟩, trivial⟩ rfl trivial (fun h => by cases h) ?_; refine PL.op rfl (Rd.unnot rfl) ?_; refine PL.op rfl (Rd.moveT rfl) ?_; refine PL.guard_on rfl (not_t h_3) ?_; refine PL.op rfl (Rd.moveT rfl) ?_; refine PL.guard_on rfl (not_t h_3) ?_; refine PL.op rfl (Rd.loadBox rfl rfl rfl) ?_; refine PL.guard_on rfl (not_t h_3) ?_; refine PL.callM false [] (w_S_width N p_t r4 h_5) rfl Tryz.call36 rfl ⟨.aggL ⟨.t _, .t _, .t _, trivial⟩, trivial⟩ rfl trivial (fun h => by cases h) ?_; refine PL.guard_on rfl (not_t h_3) ?_; refine PL.op rfl (Rd.subM rfl rfl h_7) ?_; refine PL.guard_on rfl (not_t h_3) ?_; refine PL.callM false [] (w_S_inRange N p_column (0 : Int) n6 r8 h_9) rfl Tryz.call35 rfl ⟨.t _, .t _, .t _, trivial⟩ rfl trivial (fun h => by cases h) ?_; refine PL.guard_on rfl (not_t h_3) ?_; refine PL.op rfl (Rd.unnot rfl) ?_; refine PL.op rfl (Rd.pick_f rfl (not_t h_3)) ?_; refine PL.op rfl (Rd.moveT rfl) ?_; refine PL.guard_on rfl (not_t h_10) ?_; refine PL.op rfl (Rd.loadBox rfl rfl rfl) ?_; refine PL.guard_on rfl (not_t h_10) ?_; refine PL.callM false [] (w_S_validValue N p_low r11 h_12) rfl Tryz.call37 rfl ⟨.aggL ⟨.t _, .t _, .t _, trivial⟩, trivial⟩ rfl trivial (fun h => by cases h) ?_; refine PL.guard_on rfl (not_t h_10) ?_; refine PL.op rfl (Rd.unnot rfl) ?_; refine PL.op rfl (Rd.pick_f rfl (not_t h_10)) ?_; refine PL.op rfl (Rd.moveT rfl) ?_; refine PL.guard_on rfl (not_t h_13) ?_; refine PL.op rfl (Rd.loadBox rfl rfl rfl) ?_; refine PL.guard_on rfl (not_t h_13) ?_; refine PL.callM false [] (w_S_validValue N p_high r14 h_15) rfl Tryz.call37 rfl ⟨.aggL ⟨.t _, .t _, .t _, trivial⟩, trivial⟩ rfl trivial (fun h => by cases h) ?_; refine PL.guard_on rfl (not_t h_13) ?_; refine PL.op rfl (Rd.unnot rfl) ?_; refine PL.op rfl (Rd.pick_f rfl (not_t h_13)) ?_; refine PL.nil ?_; refine thA_n ?_; rcases cond_some hh0 with ⟨h_16, hh0⟩ | ⟨h_16, hh0⟩; rotate_left
  · refine PC.cond_true rfl (not_f h_16) ?_; refine PC.seq ?_; refine PC.region ?_; refine PL.op rfl (Rd.asnT rfl) ?_; refine PL.nil ?_; refine thA_n ?_; refine PC.ret ?_; refine thA_r ?_; obtain rfl := some_in hh0; exact FinA.mk (r := .os 0 0 0) (bl := [⟨.tr (eL ([] : List Int)), 3, 1⟩]) [none] (.inl rfl) rfl (rl := [.tmp 8]) (.tmp .nil) rfl rfl rfl (.osn rfl) ⟨ow_nil _, trivial⟩ ⟨rfl, rfl⟩
  refine PC.cond_false rfl (not_t h_16) ?_; refine PC.skip ?_; refine thA_n ?_; refine PC.seq ?_; obtain ⟨r17, h_18, hh0⟩ := bind_some hh0; refine PC.region ?_; refine PL.op rfl (Rd.loadBox rfl rfl rfl) ?_; refine PL.callM false [] (w_S_latest N p_t r17 h_18) rfl Tryz.call38 rfl ⟨.aggL ⟨.t _, .t _, .t _, trivial⟩, trivial⟩ rfl trivial (fun h => by cases h) ?_; refine PL.nm (.os 4 0 r17.length) [some ⟨.mx [sL p_t.first, sL p_t.changes, sL p_t.rows], 37, 0⟩, some ⟨.mx [iA p_low.kind, iA p_low.num, sA p_low.text], 39, 0⟩, some ⟨.mx [iA p_high.kind, iA p_high.num, sA p_high.text], 39, 0⟩, some ⟨.tr (eL ([] : List Int)), 3, 1⟩, some ⟨.tr (eL r17), 71, 1⟩] rfl rfl ?_; refine PL.op rfl (Rd.asnO rfl) ?_; refine PL.nil ?_; refine thA_n ?_; (iterate 2 refine PC.seq ?_); refine PC.region ?_; refine PL.op rfl (Rd.asnT rfl) ?_; refine PL.nil ?_; refine thA_n ?_; obtain ⟨o43, h_44, hh0⟩ := bind_some hh0; refine PC.cutE hs (fun x : (List Int) => [(9, .os 0 0 x.length)]) (fun x => [⟨.tr (eL x), 3, 1⟩]) (fun x => m_S_ScanTable_k1 N x = some r) ?_ ?_
  · refine PC.block ?_; refine PC.loop hs (fun x : Nat × (Int × (List Int)) => [(1, iA p_column), (6, .op 0 0), (7, .op 1 0), (9, .os 2 0 x.2.2.length), (10, .os 3 0 r17.length), (11, iA x.2.1)]) (fun x => [⟨.mx [iA p_low.kind, iA p_low.num, sA p_low.text], 39, 0⟩, ⟨.mx [iA p_high.kind, iA p_high.num, sA p_high.text], 39, 0⟩, ⟨.tr (eL x.2.2), 3, 1⟩, ⟨.tr (eL r17), 71, 1⟩]) (fun x => loopM (β := (List Int)) (fun s : Int × (List Int) => m_S_ScanTable_b1 N p_column p_low p_high r17 s.1 s.2) x.1 x.2 = some o43) (fun x => x.1) (N, ((0 : Int), ([] : List Int))) [some 1, some 2, some 3, some 4] ⟨rfl, rfl, ⟨⟨_, rfl, rfl, rfl, .mx ⟨.t _, .t _, .t _, trivial⟩⟩, ⟨_, rfl, rfl, rfl, .mx ⟨.t _, .t _, .t _, trivial⟩⟩, ⟨_, rfl, rfl, rfl, .tr _⟩, ⟨_, rfl, rfl, rfl, .tr _⟩, trivial⟩, ⟨.t _, .op rfl, .op rfl, .os rfl, .os rfl, .t _, trivial⟩⟩ h_44 ?_
    rintro ⟨f45_, i19, v20⟩ h_47
    obtain ⟨f45, y46, rfl, hh1, kk1⟩ := loopM_some h_47
    replace hh1 : m_S_ScanTable_b1 N p_column p_low p_high r17 i19 v20 = some y46 := hh1
    unfold m_S_ScanTable_b1 at hh1; (iterate 2 refine PC.seq ?_); refine PC.region ?_; refine PL.op rfl (Rd.moveT rfl) ?_; refine PL.op rfl (Rd.moveO rfl) ?_; refine PL.op rfl (Rd.lenO rfl rfl) ?_; refine PL.op rfl (Rd.lss rfl rfl) ?_; refine PL.nil ?_; refine thA_n ?_; rcases cond_some hh1 with ⟨h_48, hh1⟩ | ⟨h_48, hh1⟩; rotate_left
    · refine PC.cond_false rfl h_48 ?_; refine PC.exit ?_; (iterate 2 refine thA_e ?_); refine inA_eq rfl ?_; refine thA_n ?_; obtain rfl := some_in hh1; obtain rfl : (v20 : (List Int)) = o43 := kk1; exact ⟨v20, hh0, [some 2], ⟨rfl, rfl, ⟨⟨_, rfl, rfl, rfl, .tr _⟩, trivial⟩, ⟨.os rfl, trivial⟩⟩⟩
    refine PC.cond_true rfl h_48 ?_; refine PC.skip ?_; refine thA_n ?_; refine PC.seq ?_; refine PC.block ?_; refine PC.seq ?_; obtain ⟨x49, h_50, hh1⟩ := bind_some hh1; obtain ⟨x51, h_52, hh1⟩ := bind_some hh1; obtain ⟨r53, h_54, hh1⟩ := bind_some hh1; rcases cond_some hh1 with ⟨h_55, hh1⟩ | ⟨h_55, hh1⟩; rotate_left
    · refine PC.any (id := 8) 22 (.seg [0, 1, 2, 3, 4, 5, 6, 7, 8, 9, 10, 11, 12, 13, 14, 15, 16, 17, 18, 19, 20, 21] .done) [] rfl (by kernel_rfl) rfl ?_; refine PT.seg ?_; refine PR.op rfl (Rd.loadBox rfl rfl rfl) ?_; refine PR.op rfl (Rd.moveO rfl) ?_; refine PR.op rfl (Rd.moveT rfl) ?_; refine PR.ixOM rfl rfl rfl rfl (ixI_lt h_50) ?_; refine PR.op rfl (Rd.owM1 rfl rfl h_50 rfl rfl) ?_; refine PR.op rfl (Rd.moveT rfl) ?_; refine PR.op rfl (Rd.ixM rfl rfl h_52) ?_; refine PR.op rfl (Rd.elMR rfl h_52 rfl rfl) ?_; refine PR.callM false [] (w_S_compare N p_low x51 r53 h_54) rfl Tryz.call39 rfl ⟨.aggL ⟨.t _, .t _, .t _, trivial⟩, .aggL ⟨.t _, .t _, .t _, trivial⟩, trivial⟩ rfl trivial (fun h => by cases h) rfl ?_; refine PR.op rfl (Rd.leq rfl rfl) ?_; refine PR.op rfl (Rd.moveT rfl) ?_; (iterate 10 refine PR.guard_off rfl rfl h_55 ?_); refine PR.op rfl (Rd.pick_f rfl h_55) ?_; refine PR.nil ?_; refine PT.done ?_; refine PL.nil ?_; refine thA_n ?_; refine PC.cond_false rfl rfl ?_; refine PC.skip ?_; refine inA_n ?_; refine thA_n ?_; obtain ⟨n67, h_68, hh1⟩ := bind_some hh1; refine PC.region ?_; refine PL.op rfl (Rd.moveT rfl) ?_; refine PL.op rfl (Rd.addM rfl rfl h_68) ?_; refine PL.op rfl (Rd.asnT rfl) ?_; refine PL.nil ?_; obtain rfl := some_in hh1; refine thA_n ?_; exact ⟨(f45, (n67, v20)), Nat.lt_succ_self _, kk1, [some 0, some 1, some 2, some 3], ⟨rfl, rfl, ⟨⟨_, rfl, rfl, rfl, .mx ⟨.t _, .t _, .t _, trivial⟩⟩, ⟨_, rfl, rfl, rfl, .mx ⟨.t _, .t _, .t _, trivial⟩⟩, ⟨_, rfl, rfl, rfl, .tr _⟩, ⟨_, rfl, rfl, rfl, .tr _⟩, trivial⟩, ⟨.t _, .op rfl, .op rfl, .os rfl, .os rfl, .t _, trivial⟩⟩⟩
    obtain ⟨x56, h_57, hh1⟩ := bind_some hh1; obtain ⟨r58, h_59, hh1⟩ := bind_some hh1; refine PC.any (id := 8) 22 (.seg [0, 1, 2, 3, 4, 5, 6, 7, 8, 9, 10, 11, 12, 13, 14, 15, 16, 17, 18, 19, 20, 21] .done) [] rfl (by kernel_rfl) rfl ?_; refine PT.seg ?_; refine PR.op rfl (Rd.loadBox rfl rfl rfl) ?_; refine PR.op rfl (Rd.moveO rfl) ?_; refine PR.op rfl (Rd.moveT rfl) ?_; refine PR.ixOM rfl rfl rfl rfl (ixI_lt h_50) ?_; refine PR.op rfl (Rd.owM1 rfl rfl h_50 rfl rfl) ?_; refine PR.op rfl (Rd.moveT rfl) ?_; refine PR.op rfl (Rd.ixM rfl rfl h_52) ?_; refine PR.op rfl (Rd.elMR rfl h_52 rfl rfl) ?_; refine PR.callM false [] (w_S_compare N p_low x51 r53 h_54) rfl Tryz.call39 rfl ⟨.aggL ⟨.t _, .t _, .t _, trivial⟩, .aggL ⟨.t _, .t _, .t _, trivial⟩, trivial⟩ rfl trivial (fun h => by cases h) rfl ?_; refine PR.op rfl (Rd.leq rfl rfl) ?_; refine PR.op rfl (Rd.moveT rfl) ?_; refine PR.guard_on rfl rfl h_55 ?_; refine PR.op rfl (Rd.moveO rfl) ?_; refine PR.guard_on rfl rfl h_55 ?_; refine PR.op rfl (Rd.moveT rfl) ?_; refine PR.guard_on rfl rfl h_55 ?_; refine PR.ixOM rfl rfl rfl rfl (ixI_lt h_50) ?_; refine PR.guard_on rfl rfl h_55 ?_; refine PR.op rfl (Rd.owM1 rfl rfl h_50 rfl rfl) ?_; refine PR.guard_on rfl rfl h_55 ?_; refine PR.op rfl (Rd.moveT rfl) ?_; refine PR.guard_on rfl rfl h_55 ?_; refine PR.op rfl (Rd.ixM rfl rfl h_57) ?_; refine PR.guard_on rfl rfl h_55 ?_; refine PR.op rfl (Rd.elMR rfl h_57 rfl rfl) ?_; refine PR.guard_on rfl rfl h_55 ?_; refine PR.op rfl (Rd.loadBox rfl rfl rfl) ?_; refine PR.guard_on rfl rfl h_55 ?_; refine PR.callM false [] (w_S_compare N x56 p_high r58 h_59) rfl Tryz.call39 rfl ⟨.aggL ⟨.t _, .t _, .t _, trivial⟩, .aggL ⟨.t _, .t _, .t _, trivial⟩, trivial⟩ rfl trivial (fun h => by cases h) rfl ?_; refine PR.guard_on rfl rfl h_55 ?_; refine PR.op rfl (Rd.leq rfl rfl) ?_; refine PR.op rfl (Rd.pick_t rfl h_55) ?_; refine PR.nil ?_; refine PT.done ?_; refine PL.nil ?_; refine thA_n ?_; rcases cond_some hh1 with ⟨h_60, hh1⟩ | ⟨h_60, hh1⟩; rotate_left
    · refine PC.cond_false rfl h_60 ?_; refine PC.skip ?_; refine inA_n ?_; refine thA_n ?_; obtain ⟨n65, h_66, hh1⟩ := bind_some hh1; refine PC.region ?_; refine PL.op rfl (Rd.moveT rfl) ?_; refine PL.op rfl (Rd.addM rfl rfl h_66) ?_; refine PL.op rfl (Rd.asnT rfl) ?_; refine PL.nil ?_; obtain rfl := some_in hh1; refine thA_n ?_; exact ⟨(f45, (n65, v20)), Nat.lt_succ_self _, kk1, [some 0, some 1, some 2, some 3], ⟨rfl, rfl, ⟨⟨_, rfl, rfl, rfl, .mx ⟨.t _, .t _, .t _, trivial⟩⟩, ⟨_, rfl, rfl, rfl, .mx ⟨.t _, .t _, .t _, trivial⟩⟩, ⟨_, rfl, rfl, rfl, .tr _⟩, ⟨_, rfl, rfl, rfl, .tr _⟩, trivial⟩, ⟨.t _, .op rfl, .op rfl, .os rfl, .os rfl, .t _, trivial⟩⟩⟩
    refine PC.cond_true rfl h_60 ?_; obtain ⟨xs61, h_62, hh1⟩ := bind_some hh1; refine PC.region ?_; refine PL.op rfl (Rd.moveO rfl) ?_; refine PL.op rfl (Rd.moveT rfl) ?_; refine PL.ef rfl (Ef.litM (α := Int) [i19] [_] rfl rfl (by decide) rfl rfl rfl rfl) ?_; refine PL.nm (.os 4 0 1) [some ⟨.mx [iA p_low.kind, iA p_low.num, sA p_low.text], 39, 0⟩, some ⟨.mx [iA p_high.kind, iA p_high.num, sA p_high.text], 39, 0⟩, some ⟨.tr (eL v20), 3, 1⟩, some ⟨.tr (eL r17), 71, 1⟩, some ⟨.tr (eL [i19]), 3, 1⟩] rfl rfl ?_; refine PL.apM hs rfl rfl rfl rfl (SrcA.ownE rfl rfl rfl) rfl rfl rfl rfl h_62 ?_; refine PL.nm (.os 5 0 xs61.length) [some ⟨.mx [iA p_low.kind, iA p_low.num, sA p_low.text], 39, 0⟩, some ⟨.mx [iA p_high.kind, iA p_high.num, sA p_high.text], 39, 0⟩, none, some ⟨.tr (eL r17), 71, 1⟩, some ⟨.tr (eL [i19]), 3, 1⟩, some ⟨.tr (eL xs61), 3, 1⟩] rfl rfl ?_; refine PL.op rfl (Rd.asnO rfl) ?_; refine PL.nil ?_; refine inA_n ?_; refine thA_n ?_; obtain ⟨n63, h_64, hh1⟩ := bind_some hh1; refine PC.region ?_; refine PL.op rfl (Rd.moveT rfl) ?_; refine PL.op rfl (Rd.addM rfl rfl h_64) ?_; refine PL.op rfl (Rd.asnT rfl) ?_; refine PL.nil ?_; obtain rfl := some_in hh1; refine thA_n ?_; exact ⟨(f45, (n63, xs61)), Nat.lt_succ_self _, kk1, [some 0, some 1, some 5, some 3], ⟨rfl, rfl, ⟨⟨_, rfl, rfl, rfl, .mx ⟨.t _, .t _, .t _, trivial⟩⟩, ⟨_, rfl, rfl, rfl, .mx ⟨.t _, .t _, .t _, trivial⟩⟩, ⟨_, rfl, rfl, rfl, .tr _⟩, ⟨_, rfl, rfl, rfl, .tr _⟩, trivial⟩, ⟨.t _, .op rfl, .op rfl, .os rfl, .os rfl, .t _, trivial⟩⟩⟩
  clear hh0
  rintro v42 hh0
  replace hh0 : m_S_ScanTable_k1 N v42 = some r := hh0
  unfold m_S_ScanTable_k1 at hh0; refine thA_n ?_; refine PC.seq ?_; refine PC.region ?_; refine PL.op rfl (Rd.moveO rfl) ?_; refine PL.op rfl (Rd.asnO rfl) ?_; refine PL.nil ?_; refine thA_n ?_; refine PC.ret ?_; obtain rfl := some_in hh0; exact FinA.mk (r := .os 0 0 v42.length) (bl := [⟨.tr (eL v42), 3, 1⟩]) [some 0] (.inl rfl) rfl (rl := [.tmp 8]) (.tmp .nil) rfl rfl rfl (.os rfl) ⟨⟨_, rfl, rfl, rfl, .tr _⟩, trivial⟩ ⟨rfl, rfl⟩
def m_I_validRow_k1 (N : Nat) : Option (Bool) :=
  some true
def m_I_validRow_b1 (N : Nat) (p_row : (List I_Value)) (i2 : Int) : Option (Int ⊕ (Unit ⊕ Bool)) :=
  cond (decide (i2 < (p_row.length : Int)))
    ((ixI p_row i2).bind fun x17 =>
    (m_I_ValidValue N x17).bind fun r19 =>
    cond r19
      ((chk (i2 + (1 : Int))).bind fun n22 =>
      some (.inl n22))
      (some (.inr (.inr false))))
    (some (.inr (.inl ())))
def m_I_validRow (N : Nat) (p_row : (List I_Value)) : Option (Bool) :=
  cond (decide ((5 : Int) < (p_row.length : Int)))
    (some false)
    ((loopM (β := Unit ⊕ Bool) (fun s : Int => m_I_validRow_b1 N p_row s) N (0 : Int)).bind fun o => match o with
    | .inl e =>
      m_I_validRow_k1 N 
    | .inr v =>
      some v)
theorem w_I_validRow (N : Nat) (p_row : (List I_Value)) (r : Bool) (hh0 : m_I_validRow N p_row = some r) : FnX Tryz.prog 93 [] [sL p_row] (RE (bA r) []) := by
  unfold m_I_validRow at hh0; refine FnX.mk Tryz.func93 rfl rfl ?_; intro s hs; refine PC.seq ?_; refine PC.region ?_; refine PL.op rfl (Rd.asnT rfl) ?_; refine PL.nil ?_; refine thA_n ?_; (iterate 2 refine PC.seq ?_); refine PC.region ?_; refine PL.op rfl (Rd.moveT rfl) ?_; refine PL.op rfl (Rd.lenT rfl) ?_; refine PL.op rfl (Rd.gtr rfl rfl) ?_; refine PL.nil ?_; refine thA_n ?_; rcases cond_some hh0 with ⟨h_1, hh0⟩ | ⟨h_1, hh0⟩
  · refine PC.cond_true rfl h_1 ?_; refine PC.seq ?_; refine PC.region ?_; refine PL.op rfl (Rd.asnT rfl) ?_; refine PL.nil ?_; refine thA_n ?_; refine PC.ret ?_; refine thA_r ?_; obtain rfl := some_in hh0; exact FinA.mk (r := bA false) (bl := []) [] (.inl rfl) rfl (rl := [.tmp 2]) (.tmp .nil) rfl rfl rfl (.t _) trivial ⟨rfl, rfl⟩
  refine PC.cond_false rfl h_1 ?_; refine PC.skip ?_; refine thA_n ?_; (iterate 2 refine PC.seq ?_); refine PC.region ?_; refine PL.op rfl (Rd.moveT rfl) ?_; refine PL.op rfl (Rd.lenT rfl) ?_; refine PL.op rfl (Rd.moveT rfl) ?_; refine PL.nil ?_; refine thA_n ?_; obtain ⟨o11, h_12, hh0⟩ := bind_some hh0; refine PC.cutE hs (fun x : Unit => []) (fun x => []) (fun x => m_I_validRow_k1 N  = some r) ?_ ?_
  · refine PC.block ?_; refine PC.loop hs (fun x : Nat × (Int) => [(8, sL p_row), (9, iA (p_row.length : Int)), (10, iA x.2)]) (fun x => []) (fun x => loopM (β := Unit ⊕ Bool) (fun s : Int => m_I_validRow_b1 N p_row s) x.1 x.2 = some o11) (fun x => x.1) (N, (0 : Int)) [] ⟨rfl, rfl, trivial, ⟨.t _, .t _, .t _, trivial⟩⟩ h_12 ?_
    rintro ⟨f13_, i2⟩ h_15
    obtain ⟨f13, y14, rfl, hh1, kk1⟩ := loopM_some h_15
    replace hh1 : m_I_validRow_b1 N p_row i2 = some y14 := hh1
    unfold m_I_validRow_b1 at hh1; refine PC.seq ?_; refine PC.region ?_; refine PL.op rfl (Rd.lss rfl rfl) ?_; refine PL.nil ?_; refine thA_n ?_; refine PC.seq ?_; rcases cond_some hh1 with ⟨h_16, hh1⟩ | ⟨h_16, hh1⟩; rotate_left
    · refine PC.cond_false rfl h_16 ?_; refine PC.exit ?_; (iterate 2 refine thA_e ?_); refine inA_eq rfl ?_; refine thA_n ?_; obtain rfl := some_in hh1; obtain rfl : (.inl () : Unit ⊕ Bool) = o11 := kk1; exact ⟨(), hh0, [], ⟨rfl, rfl, trivial, trivial⟩⟩
    refine PC.cond_true rfl h_16 ?_; refine PC.skip ?_; refine thA_n ?_; refine PC.seq ?_; refine PC.block ?_; refine PC.seq ?_; obtain ⟨x17, h_18, hh1⟩ := bind_some hh1; refine PC.region ?_; refine PL.op rfl (Rd.ixM rfl rfl h_18) ?_; refine PL.op rfl (Rd.elMR rfl h_18 rfl rfl) ?_; refine PL.ef rfl (Ef.alloc rfl rfl) ?_; refine PL.nm (.op 0 0) [some ⟨.mx [iA (0 : Int), iA (0 : Int), sA ByteArray.empty], 39, 0⟩] rfl rfl ?_; refine PL.store rfl rfl rfl rfl rfl rfl rfl ?_; refine PL.nO [some ⟨.mx [iA x17.kind, iA x17.num, sA x17.text], 39, 0⟩] rfl ?_; refine PL.nil ?_; refine thA_n ?_; refine PC.seq ?_; obtain ⟨r19, h_20, hh1⟩ := bind_some hh1; refine PC.region ?_; refine PL.op rfl (Rd.loadBox rfl rfl rfl) ?_; refine PL.callM false [] (w_I_ValidValue N x17 r19 h_20) rfl Tryz.call29 rfl ⟨.aggL ⟨.t _, .t _, .t _, trivial⟩, trivial⟩ rfl trivial (fun h => by cases h) ?_; refine PL.op rfl (Rd.unnot rfl) ?_; refine PL.nil ?_; refine thA_n ?_; rcases cond_some hh1 with ⟨h_21, hh1⟩ | ⟨h_21, hh1⟩
    · refine PC.cond_false rfl (not_t h_21) ?_; refine PC.skip ?_; refine inA_n ?_; refine thA_n ?_; obtain ⟨n22, h_23, hh1⟩ := bind_some hh1; refine PC.region ?_; refine PL.op rfl (Rd.addM rfl rfl h_23) ?_; refine PL.op rfl (Rd.moveT rfl) ?_; refine PL.nil ?_; obtain rfl := some_in hh1; refine thA_n ?_; exact ⟨(f13, n22), Nat.lt_succ_self _, kk1, [], ⟨rfl, rfl, trivial, ⟨.t _, .t _, .t _, trivial⟩⟩⟩
    refine PC.cond_true rfl (not_f h_21) ?_; refine PC.seq ?_; refine PC.region ?_; refine PL.op rfl (Rd.asnT rfl) ?_; refine PL.nil ?_; refine thA_n ?_; refine PC.ret ?_; refine inA_r ?_; (iterate 2 refine thA_r ?_); refine inA_r ?_; refine thA_r ?_; obtain rfl := some_in hh1; obtain rfl : (.inr false : Unit ⊕ Bool) = o11 := kk1; refine thA_r ?_; obtain rfl := some_in hh0; exact FinA.mk (r := bA false) (bl := []) [] (.inl rfl) rfl (rl := [.tmp 2]) (.tmp .nil) rfl rfl rfl (.t _) trivial ⟨rfl, rfl⟩
  clear hh0
  rintro ⟨⟩ hh0
  replace hh0 : m_I_validRow_k1 N  = some r := hh0
  unfold m_I_validRow_k1 at hh0; refine thA_n ?_; refine PC.seq ?_; refine PC.region ?_; refine PL.op rfl (Rd.asnT rfl) ?_; refine PL.nil ?_; refine thA_n ?_; refine PC.ret ?_; obtain rfl := some_in hh0; exact FinA.mk (r := bA true) (bl := []) [] (.inl rfl) rfl (rl := [.tmp 2]) (.tmp .nil) rfl rfl rfl (.t _) trivial ⟨rfl, rfl⟩
def m_I_EncodeKey_k1 (N : Nat) (v49 : (List UInt8)) : Option (ByteArray) :=
  some (b2s v49)
def m_I_EncodeKey_b1 (N : Nat) (p_row : (List I_Value)) (i4 : Int) (v5 : (List UInt8)) : Option ((Int × (List UInt8)) ⊕ (List UInt8)) :=
  cond (decide (i4 < (p_row.length : Int)))
    ((ixI p_row i4).bind fun x56 =>
    cond (decide (x56.kind = (0 : Int)))
      ((appM 1 v5 [(97 : UInt8)]).bind fun xs59 =>
      (chk (i4 + (1 : Int))).bind fun n61 =>
      some (.inl (n61, xs59)))
      (cond (decide (x56.kind = (1 : Int)))
        ((chk (x56.num + (999999 : Int))).bind fun n64 =>
        (quoM n64 (200000 : Int)).bind fun n66 =>
        (chk ((48 : Int) + n66)).bind fun n68 =>
        (quoM n64 (4000 : Int)).bind fun n70 =>
        (remM n70 (50 : Int)).bind fun n72 =>
        (chk ((32 : Int) + n72)).bind fun n74 =>
        (quoM n64 (80 : Int)).bind fun n76 =>
        (remM n76 (50 : Int)).bind fun n78 =>
        (chk ((32 : Int) + n78)).bind fun n80 =>
        (remM n64 (80 : Int)).bind fun n82 =>
        (chk ((32 : Int) + n82)).bind fun n84 =>
        (appM 1 v5 [(98 : UInt8), (i2b n68), (i2b n74), (i2b n80), (i2b n84)]).bind fun xs86 =>
        (chk (i4 + (1 : Int))).bind fun n88 =>
        some (.inl (n88, xs86)))
        ((appM 1 v5 [(99 : UInt8)]).bind fun xs90 =>
        (appM 1 xs90 (bytesL x56.text)).bind fun xs92 =>
        (appM 1 xs92 [(1 : UInt8)]).bind fun xs94 =>
        (chk (i4 + (1 : Int))).bind fun n96 =>
        some (.inl (n96, xs94)))))
    (some (.inr v5))
def m_I_EncodeKey (N : Nat) (p_row : (List I_Value)) : Option (ByteArray) :=
  (m_I_validRow N p_row).bind fun r1 =>
  cond r1
    ((loopM (β := (List UInt8)) (fun s : Int × (List UInt8) => m_I_EncodeKey_b1 N p_row s.1 s.2) N ((0 : Int), ([] : List UInt8))).bind fun e =>
    m_I_EncodeKey_k1 N e)
    (some ByteArray.empty)
theorem w_I_EncodeKey (N : Nat) (p_row : (List I_Value)) (r : ByteArray) (hh0 : m_I_EncodeKey N p_row = some r) : FnX Tryz.prog 54 [] [sL p_row] (RE (sA r) []) := by
  unfold m_I_EncodeKey at hh0; refine FnX.mk Tryz.func54 rfl rfl ?_; intro s hs; refine PC.seq ?_; refine PC.region ?_; refine PL.op rfl (Rd.asnT rfl) ?_; refine PL.nil ?_; refine thA_n ?_; (iterate 2 refine PC.seq ?_); obtain ⟨r1, h_2, hh0⟩ := bind_some hh0; refine PC.region ?_; refine PL.op rfl (Rd.moveT rfl) ?_; refine PL.callM false [] (w_I_validRow N p_row r1 h_2) rfl Tryz.call93 rfl ⟨.t _, trivial⟩ rfl trivial (fun h => by cases h) ?_; refine PL.op rfl (Rd.unnot rfl) ?_; refine PL.nil ?_; refine thA_n ?_; rcases cond_some hh0 with ⟨h_3, hh0⟩ | ⟨h_3, hh0⟩; rotate_left
  · refine PC.cond_true rfl (not_f h_3) ?_; refine PC.seq ?_; refine PC.region ?_; refine PL.op rfl (Rd.asnT rfl) ?_; refine PL.nil ?_; refine thA_n ?_; refine PC.ret ?_; refine thA_r ?_; obtain rfl := some_in hh0; exact FinA.mk (r := sA ByteArray.empty) (bl := []) [] (.inl rfl) rfl (rl := [.tmp 2]) (.tmp .nil) rfl rfl rfl (.t _) trivial ⟨rfl, rfl⟩
  refine PC.cond_false rfl (not_t h_3) ?_; refine PC.skip ?_; refine thA_n ?_; refine PC.seq ?_; refine PC.region ?_; refine PL.op rfl (Rd.asnT rfl) ?_; refine PL.nil ?_; refine thA_n ?_; (iterate 2 refine PC.seq ?_); refine PC.region ?_; refine PL.op rfl (Rd.moveT rfl) ?_; refine PL.op rfl (Rd.lenT rfl) ?_; refine PL.op rfl (Rd.moveT rfl) ?_; refine PL.nil ?_; refine thA_n ?_; obtain ⟨o50, h_51, hh0⟩ := bind_some hh0; refine PC.cutE hs (fun x : (List UInt8) => [(3, .os 0 0 x.length)]) (fun x => [⟨.tr (eL x), 5, 1⟩]) (fun x => m_I_EncodeKey_k1 N x = some r) ?_ ?_
  · refine PC.block ?_; refine PC.loop hs (fun x : Nat × (Int × (List UInt8)) => [(3, .os 0 0 x.2.2.length), (10, sL p_row), (11, iA (p_row.length : Int)), (12, iA x.2.1)]) (fun x => [⟨.tr (eL x.2.2), 5, 1⟩]) (fun x => loopM (β := (List UInt8)) (fun s : Int × (List UInt8) => m_I_EncodeKey_b1 N p_row s.1 s.2) x.1 x.2 = some o50) (fun x => x.1) (N, ((0 : Int), ([] : List UInt8))) [none] ⟨rfl, rfl, ⟨ow_nil _, trivial⟩, ⟨.osn rfl, .t _, .t _, .t _, trivial⟩⟩ h_51 ?_
    rintro ⟨f52_, i4, v5⟩ h_54
    obtain ⟨f52, y53, rfl, hh1, kk1⟩ := loopM_some h_54
    replace hh1 : m_I_EncodeKey_b1 N p_row i4 v5 = some y53 := hh1
    unfold m_I_EncodeKey_b1 at hh1; refine PC.seq ?_; refine PC.region ?_; refine PL.op rfl (Rd.lss rfl rfl) ?_; refine PL.nil ?_; refine thA_n ?_; refine PC.seq ?_; rcases cond_some hh1 with ⟨h_55, hh1⟩ | ⟨h_55, hh1⟩; rotate_left
    · refine PC.cond_false rfl h_55 ?_; refine PC.exit ?_; (iterate 2 refine thA_e ?_); refine inA_eq rfl ?_; refine thA_n ?_; obtain rfl := some_in hh1; obtain rfl : (v5 : (List UInt8)) = o50 := kk1; exact ⟨v5, hh0, [some 0], ⟨rfl, rfl, ⟨⟨_, rfl, rfl, rfl, .tr _⟩, trivial⟩, ⟨.os rfl, trivial⟩⟩⟩
    refine PC.cond_true rfl h_55 ?_; refine PC.skip ?_; refine thA_n ?_; refine PC.seq ?_; refine PC.block ?_; refine PC.seq ?_; obtain ⟨x56, h_57, hh1⟩ := bind_some hh1; refine PC.region ?_; refine PL.op rfl (Rd.ixM rfl rfl h_57) ?_; refine PL.op rfl (Rd.elMR rfl h_57 rfl rfl) ?_; refine PL.ef rfl (Ef.alloc rfl rfl) ?_; refine PL.nm (.op 1 0) [some ⟨.tr (eL v5), 5, 1⟩, some ⟨.mx [iA (0 : Int), iA (0 : Int), sA ByteArray.empty], 39, 0⟩] rfl rfl ?_; refine PL.store rfl rfl rfl rfl rfl rfl rfl ?_; refine PL.nO [some ⟨.tr (eL v5), 5, 1⟩, some ⟨.mx [iA x56.kind, iA x56.num, sA x56.text], 39, 0⟩] rfl ?_; refine PL.nil ?_; refine thA_n ?_; refine PC.seq ?_; refine PC.region ?_; refine PL.op rfl (Rd.fieldO rfl rfl) ?_; refine PL.op rfl (Rd.loadO rfl rfl rfl) ?_; refine PL.nil ?_; refine thA_n ?_; refine PC.block ?_; refine PC.seq ?_; refine PC.region ?_; refine PL.op rfl (Rd.eql rfl rfl) ?_; refine PL.op rfl (Rd.asnT rfl) ?_; refine PL.nil ?_; refine thA_n ?_; rcases cond_some hh1 with ⟨h_58, hh1⟩ | ⟨h_58, hh1⟩
    · refine PC.cond_true rfl h_58 ?_; obtain ⟨xs59, h_60, hh1⟩ := bind_some hh1; refine PC.region ?_; refine PL.op rfl (Rd.moveO rfl) ?_; refine PL.ef rfl (Ef.litM (α := UInt8) [(97 : UInt8)] [_] rfl rfl (by decide) rfl rfl rfl rfl) ?_; refine PL.nm (.os 2 0 1) [some ⟨.tr (eL v5), 5, 1⟩, some ⟨.mx [iA x56.kind, iA x56.num, sA x56.text], 39, 0⟩, some ⟨.tr (eL [(97 : UInt8)]), 5, 1⟩] rfl rfl ?_; refine PL.apM hs rfl rfl rfl rfl (SrcA.ownE rfl rfl rfl) rfl rfl rfl rfl h_60 ?_; refine PL.nm (.os 3 0 xs59.length) [none, some ⟨.mx [iA x56.kind, iA x56.num, sA x56.text], 39, 0⟩, some ⟨.tr (eL [(97 : UInt8)]), 5, 1⟩, some ⟨.tr (eL xs59), 5, 1⟩] rfl rfl ?_; refine PL.op rfl (Rd.asnO rfl) ?_; refine PL.nil ?_; (iterate 2 refine inA_n ?_); refine thA_n ?_; obtain ⟨n61, h_62, hh1⟩ := bind_some hh1; refine PC.region ?_; refine PL.op rfl (Rd.addM rfl rfl h_62) ?_; refine PL.op rfl (Rd.moveT rfl) ?_; refine PL.nil ?_; obtain rfl := some_in hh1; refine thA_n ?_; exact ⟨(f52, (n61, xs59)), Nat.lt_succ_self _, kk1, [some 3], ⟨rfl, rfl, ⟨⟨_, rfl, rfl, rfl, .tr _⟩, trivial⟩, ⟨.os rfl, .t _, .t _, .t _, trivial⟩⟩⟩
    refine PC.cond_false rfl h_58 ?_; refine PC.seq ?_; refine PC.region ?_; refine PL.op rfl (Rd.eql rfl rfl) ?_; refine PL.op rfl (Rd.asnT rfl) ?_; refine PL.nil ?_; refine thA_n ?_; rcases cond_some hh1 with ⟨h_63, hh1⟩ | ⟨h_63, hh1⟩; rotate_left
    · refine PC.cond_false rfl h_63 ?_; refine PC.seq ?_; obtain ⟨xs90, h_91, hh1⟩ := bind_some hh1; refine PC.region ?_; refine PL.op rfl (Rd.moveO rfl) ?_; refine PL.ef rfl (Ef.litM (α := UInt8) [(99 : UInt8)] [_] rfl rfl (by decide) rfl rfl rfl rfl) ?_; refine PL.nm (.os 2 0 1) [some ⟨.tr (eL v5), 5, 1⟩, some ⟨.mx [iA x56.kind, iA x56.num, sA x56.text], 39, 0⟩, some ⟨.tr (eL [(99 : UInt8)]), 5, 1⟩] rfl rfl ?_; refine PL.apM hs rfl rfl rfl rfl (SrcA.ownE rfl rfl rfl) rfl rfl rfl rfl h_91 ?_; refine PL.nm (.os 3 0 xs90.length) [none, some ⟨.mx [iA x56.kind, iA x56.num, sA x56.text], 39, 0⟩, some ⟨.tr (eL [(99 : UInt8)]), 5, 1⟩, some ⟨.tr (eL xs90), 5, 1⟩] rfl rfl ?_; refine PL.op rfl (Rd.asnO rfl) ?_; refine PL.nil ?_; refine thA_n ?_; refine PC.seq ?_; obtain ⟨xs92, h_93, hh1⟩ := bind_some hh1; refine PC.region ?_; refine PL.op rfl (Rd.moveO rfl) ?_; refine PL.op rfl (Rd.fieldO rfl rfl) ?_; refine PL.op rfl (Rd.loadO rfl rfl rfl) ?_; refine PL.apS hs rfl rfl rfl rfl (by kernel_rfl) rfl rfl h_93 ?_; refine PL.nm (.os 4 0 xs92.length) [none, some ⟨.mx [iA x56.kind, iA x56.num, sA x56.text], 39, 0⟩, some ⟨.tr (eL [(99 : UInt8)]), 5, 1⟩, none, some ⟨.tr (eL xs92), 5, 1⟩] rfl rfl ?_; refine PL.op rfl (Rd.asnO rfl) ?_; refine PL.nil ?_; refine thA_n ?_; obtain ⟨xs94, h_95, hh1⟩ := bind_some hh1; refine PC.region ?_; refine PL.op rfl (Rd.moveO rfl) ?_; refine PL.ef rfl (Ef.litM (α := UInt8) [(1 : UInt8)] [_] rfl rfl (by decide) rfl rfl rfl rfl) ?_; refine PL.nm (.os 5 0 1) [none, some ⟨.mx [iA x56.kind, iA x56.num, sA x56.text], 39, 0⟩, some ⟨.tr (eL [(99 : UInt8)]), 5, 1⟩, none, some ⟨.tr (eL xs92), 5, 1⟩, some ⟨.tr (eL [(1 : UInt8)]), 5, 1⟩] rfl rfl ?_; refine PL.apM hs rfl rfl rfl rfl (SrcA.ownE rfl rfl rfl) rfl rfl rfl rfl h_95 ?_; refine PL.nm (.os 6 0 xs94.length) [none, some ⟨.mx [iA x56.kind, iA x56.num, sA x56.text], 39, 0⟩, some ⟨.tr (eL [(99 : UInt8)]), 5, 1⟩, none, none, some ⟨.tr (eL [(1 : UInt8)]), 5, 1⟩, some ⟨.tr (eL xs94), 5, 1⟩] rfl rfl ?_; refine PL.op rfl (Rd.asnO rfl) ?_; refine PL.nil ?_; (iterate 2 refine inA_n ?_); refine thA_n ?_; obtain ⟨n96, h_97, hh1⟩ := bind_some hh1; refine PC.region ?_; refine PL.op rfl (Rd.addM rfl rfl h_97) ?_; refine PL.op rfl (Rd.moveT rfl) ?_; refine PL.nil ?_; obtain rfl := some_in hh1; refine thA_n ?_; exact ⟨(f52, (n96, xs94)), Nat.lt_succ_self _, kk1, [some 6], ⟨rfl, rfl, ⟨⟨_, rfl, rfl, rfl, .tr _⟩, trivial⟩, ⟨.os rfl, .t _, .t _, .t _, trivial⟩⟩⟩
    refine PC.cond_true rfl h_63 ?_; refine PC.seq ?_; obtain ⟨n64, h_65, hh1⟩ := bind_some hh1; refine PC.region ?_; refine PL.op rfl (Rd.fieldO rfl rfl) ?_; refine PL.op rfl (Rd.loadO rfl rfl rfl) ?_; refine PL.op rfl (Rd.addM rfl rfl h_65) ?_; refine PL.op rfl (Rd.asnT rfl) ?_; refine PL.nil ?_; refine thA_n ?_; obtain ⟨n66, h_67, hh1⟩ := bind_some hh1; obtain ⟨n68, h_69, hh1⟩ := bind_some hh1; obtain ⟨n70, h_71, hh1⟩ := bind_some hh1; obtain ⟨n72, h_73, hh1⟩ := bind_some hh1; obtain ⟨n74, h_75, hh1⟩ := bind_some hh1; obtain ⟨n76, h_77, hh1⟩ := bind_some hh1; obtain ⟨n78, h_79, hh1⟩ := bind_some hh1; obtain ⟨n80, h_81, hh1⟩ := bind_some hh1; obtain ⟨n82, h_83, hh1⟩ := bind_some hh1; obtain ⟨n84, h_85, hh1⟩ := bind_some hh1; obtain ⟨xs86, h_87, hh1⟩ := bind_some hh1; refine PC.region ?_; refine PL.op rfl (Rd.moveO rfl) ?_; refine PL.op rfl (Rd.moveT rfl) ?_; refine PL.op rfl (Rd.quoM rfl rfl h_67) ?_; refine PL.op rfl (Rd.addM rfl rfl h_69) ?_; refine PL.op rfl (Rd.toU8 rfl) ?_; refine PL.op rfl (Rd.moveT rfl) ?_; refine PL.op rfl (Rd.quoM rfl rfl h_71) ?_; refine PL.op rfl (Rd.remM rfl rfl h_73) ?_; refine PL.op rfl (Rd.addM rfl rfl h_75) ?_; refine PL.op rfl (Rd.toU8 rfl) ?_; refine PL.op rfl (Rd.moveT rfl) ?_; refine PL.op rfl (Rd.quoM rfl rfl h_77) ?_; refine PL.op rfl (Rd.remM rfl rfl h_79) ?_; refine PL.op rfl (Rd.addM rfl rfl h_81) ?_; refine PL.op rfl (Rd.toU8 rfl) ?_; refine PL.op rfl (Rd.moveT rfl) ?_; refine PL.op rfl (Rd.remM rfl rfl h_83) ?_; refine PL.op rfl (Rd.addM rfl rfl h_85) ?_; refine PL.op rfl (Rd.toU8 rfl) ?_; refine PL.ef rfl (Ef.litM (α := UInt8) [(98 : UInt8), (i2b n68), (i2b n74), (i2b n80), (i2b n84)] [_, _, _, _, _] rfl rfl (by decide) rfl rfl rfl rfl) ?_; refine PL.nm (.os 2 0 5) [some ⟨.tr (eL v5), 5, 1⟩, some ⟨.mx [iA x56.kind, iA x56.num, sA x56.text], 39, 0⟩, some ⟨.tr (eL [(98 : UInt8), (i2b n68), (i2b n74), (i2b n80), (i2b n84)]), 5, 1⟩] rfl rfl ?_; refine PL.apM hs rfl rfl rfl rfl (SrcA.ownE rfl rfl rfl) rfl rfl rfl rfl h_87 ?_; refine PL.nm (.os 3 0 xs86.length) [none, some ⟨.mx [iA x56.kind, iA x56.num, sA x56.text], 39, 0⟩, some ⟨.tr (eL [(98 : UInt8), (i2b n68), (i2b n74), (i2b n80), (i2b n84)]), 5, 1⟩, some ⟨.tr (eL xs86), 5, 1⟩] rfl rfl ?_; refine PL.op rfl (Rd.asnO rfl) ?_; refine PL.nil ?_; (iterate 2 refine inA_n ?_); refine thA_n ?_; obtain ⟨n88, h_89, hh1⟩ := bind_some hh1; refine PC.region ?_; refine PL.op rfl (Rd.addM rfl rfl h_89) ?_; refine PL.op rfl (Rd.moveT rfl) ?_; refine PL.nil ?_; obtain rfl := some_in hh1; refine thA_n ?_; exact ⟨(f52, (n88, xs86)), Nat.lt_succ_self _, kk1, [some 3], ⟨rfl, rfl, ⟨⟨_, rfl, rfl, rfl, .tr _⟩, trivial⟩, ⟨.os rfl, .t _, .t _, .t _, trivial⟩⟩⟩
  clear hh0
  rintro v49 hh0
  replace hh0 : m_I_EncodeKey_k1 N v49 = some r := hh0
  unfold m_I_EncodeKey_k1 at hh0; refine thA_n ?_; refine PC.seq ?_; refine PC.region ?_; refine PL.op rfl (Rd.moveO rfl) ?_; refine PL.op rfl (Rd.b2sO rfl rfl rfl) ?_; refine PL.op rfl (Rd.asnT rfl) ?_; refine PL.nil ?_; refine thA_n ?_; refine PC.ret ?_; obtain rfl := some_in hh0; exact FinA.mk (r := sA (b2s v49)) (bl := []) [] (.inl rfl) rfl (rl := [.tmp 2]) (.tmp .nil) rfl rfl rfl (.t _) trivial ⟨rfl, rfl⟩
def m_slices_insertionSortCmpFunc_I_Pair__k2 (N : Nat) (p_cmp : I_Pair → I_Pair → Option Int) (v64 : (List I_Pair)) : Option ((List I_Pair)) :=
  some v64
def m_slices_insertionSortCmpFunc_I_Pair__k3 (N : Nat) (p_cmp : I_Pair → I_Pair → Option Int) (i3 : Int) (v97 : (List I_Pair)) : Option ((Int × (List I_Pair)) ⊕ (List I_Pair)) :=
  (chk (i3 + (1 : Int))).bind fun n103 =>
  some (.inl (n103, v97))
def m_slices_insertionSortCmpFunc_I_Pair__b3 (N : Nat) (p_cmp : I_Pair → I_Pair → Option Int) (p_a : Int) (i71 : Int) (v72 : (List I_Pair)) : Option ((Int × (List I_Pair)) ⊕ (List I_Pair)) :=
  cond (decide (p_a < i71))
    ((ixI v72 i71).bind fun x106 =>
    (chk (i71 - (1 : Int))).bind fun n108 =>
    (ixI v72 n108).bind fun x110 =>
    (p_cmp x106 x110).bind fun r112 =>
    cond (decide (r112 < (0 : Int)))
      ((chk (i71 - (1 : Int))).bind fun n115 =>
      (chk (i71 - (1 : Int))).bind fun n117 =>
      (ixI v72 n117).bind fun x119 =>
      (ixI v72 i71).bind fun x121 =>
      (ixI (v72.set i71.toNat x119) n115).bind fun x123 =>
      (chk (i71 - (1 : Int))).bind fun n125 =>
      some (.inl (n125, ((v72.set i71.toNat x119).set n115.toNat x121))))
      (some (.inr v72)))
    (some (.inr v72))
def m_slices_insertionSortCmpFunc_I_Pair__b2 (N : Nat) (p_cmp : I_Pair → I_Pair → Option Int) (p_a : Int) (p_b : Int) (i3 : Int) (v4 : (List I_Pair)) : Option ((Int × (List I_Pair)) ⊕ (List I_Pair)) :=
  cond (decide (i3 < p_b))
    ((loopM (β := (List I_Pair)) (fun s : Int × (List I_Pair) => m_slices_insertionSortCmpFunc_I_Pair__b3 N p_cmp p_a s.1 s.2) N (i3, v4)).bind fun e =>
    m_slices_insertionSortCmpFunc_I_Pair__k3 N p_cmp i3 e)
    (some (.inr v4))
def m_slices_insertionSortCmpFunc_I_Pair_ (N : Nat) (p_data : (List I_Pair)) (p_a : Int) (p_b : Int) (p_cmp : I_Pair → I_Pair → Option Int) : Option ((List I_Pair)) :=
  (chk (p_a + (1 : Int))).bind fun n1 =>
  (loopM (β := (List I_Pair)) (fun s : Int × (List I_Pair) => m_slices_insertionSortCmpFunc_I_Pair__b2 N p_cmp p_a p_b s.1 s.2) N (n1, p_data)).bind fun e =>
  m_slices_insertionSortCmpFunc_I_Pair__k2 N p_cmp e
theorem w_slices_insertionSortCmpFunc_I_Pair_ (N : Nat) (p_data : (List I_Pair)) (p_a : Int) (p_b : Int) (p_cmp : I_Pair → I_Pair → Option Int) (g_p_cmp : FuncId) (c_p_cmp : List Tr) (hr_p_cmp : ∀ args w, (callFunc g_p_cmp args).run Tryz.prog w = .ok (.enter g_p_cmp args) w) (hp_p_cmp : ∀ (a0 : I_Pair) (a1 : I_Pair) r, p_cmp a0 a1 = some r → Fn Tryz.prog g_p_cmp ((.agg [sA a0.key, iA a0.row]) :: (.agg [sA a1.key, iA a1.row]) :: c_p_cmp.map .t) (RE (iA r) [])) (r : (List I_Pair)) (hh0 : m_slices_insertionSortCmpFunc_I_Pair_ N p_data p_a p_b p_cmp = some r) : FnX Tryz.prog 121 [⟨.tr (eL p_data), 53, 2⟩] [.os 0 0 p_data.length, iA p_a, iA p_b, .t (.fn (.func g_p_cmp) c_p_cmp)] (RE (.tup []) [⟨.tr (eL r), 53, 2⟩]) := by
  unfold m_slices_insertionSortCmpFunc_I_Pair_ at hh0; refine FnX.mk Tryz.func121 rfl rfl ?_; intro s hs; refine PC.seq ?_; obtain ⟨n1, h_2, hh0⟩ := bind_some hh0; refine PC.region ?_; refine PL.op rfl (Rd.moveT rfl) ?_; refine PL.op rfl (Rd.addM rfl rfl h_2) ?_; refine PL.op rfl (Rd.asnT rfl) ?_; refine PL.nil ?_; refine thA_n ?_; obtain ⟨o65, h_66, hh0⟩ := bind_some hh0; refine PC.cutE hs (fun x : (List I_Pair) => []) (fun x => [⟨.tr (eL x), 53, 2⟩]) (fun x => m_slices_insertionSortCmpFunc_I_Pair__k2 N p_cmp x = some r) ?_ ?_
  · refine PC.block ?_; refine PC.loop hs (fun x : Nat × (Int × (List I_Pair)) => [(0, .os 0 0 x.2.2.length), (1, iA p_a), (2, iA p_b), (3, .t (.fn (.func g_p_cmp) c_p_cmp)), (8, iA x.2.1)]) (fun x => [⟨.tr (eL x.2.2), 53, 2⟩]) (fun x => loopM (β := (List I_Pair)) (fun s : Int × (List I_Pair) => m_slices_insertionSortCmpFunc_I_Pair__b2 N p_cmp p_a p_b s.1 s.2) x.1 x.2 = some o65) (fun x => x.1) (N, (n1, p_data)) [some 0] ⟨rfl, rfl, ⟨⟨_, rfl, rfl, rfl, .tr _⟩, trivial⟩, ⟨.os rfl, .t _, .t _, .t _, .t _, trivial⟩⟩ h_66 ?_
    rintro ⟨f67_, i3, v4⟩ h_69
    obtain ⟨f67, y68, rfl, hh1, kk1⟩ := loopM_some h_69
    replace hh1 : m_slices_insertionSortCmpFunc_I_Pair__b2 N p_cmp p_a p_b i3 v4 = some y68 := hh1
    unfold m_slices_insertionSortCmpFunc_I_Pair__b2 at hh1; (iterate 2 refine PC.seq ?_); refine PC.region ?_; (iterate 2 refine PL.op rfl (Rd.moveT rfl) ?_); refine PL.op rfl (Rd.lss rfl rfl) ?_; refine PL.nil ?_; refine thA_n ?_; rcases cond_some hh1 with ⟨h_70, hh1⟩ | ⟨h_70, hh1⟩; rotate_left
    · refine PC.cond_false rfl h_70 ?_; refine PC.exit ?_; (iterate 2 refine thA_e ?_); refine inA_eq rfl ?_; refine thA_n ?_; obtain rfl := some_in hh1; obtain rfl : (v4 : (List I_Pair)) = o65 := kk1; exact ⟨v4, hh0, [some 0], ⟨rfl, rfl, ⟨⟨_, rfl, rfl, rfl, .tr _⟩, trivial⟩, trivial⟩⟩
    refine PC.cond_true rfl h_70 ?_; refine PC.skip ?_; refine thA_n ?_; refine PC.seq ?_; refine PC.block ?_; refine PC.seq ?_; refine PC.region ?_; refine PL.op rfl (Rd.moveT rfl) ?_; refine PL.op rfl (Rd.asnT rfl) ?_; refine PL.nil ?_; refine thA_n ?_; obtain ⟨o98, h_99, hh1⟩ := bind_some hh1; refine PC.cutE hs (fun x : (List I_Pair) => [(0, .os 0 0 x.length), (1, iA p_a), (2, iA p_b), (3, .t (.fn (.func g_p_cmp) c_p_cmp)), (8, iA i3)]) (fun x => [⟨.tr (eL x), 53, 2⟩]) (fun x => m_slices_insertionSortCmpFunc_I_Pair__k3 N p_cmp i3 x = some y68) ?_ ?_
    · refine PC.block ?_; refine PC.loop hs (fun x : Nat × (Int × (List I_Pair)) => [(0, .os 0 0 x.2.2.length), (1, iA p_a), (2, iA p_b), (3, .t (.fn (.func g_p_cmp) c_p_cmp)), (8, iA i3), (9, iA x.2.1)]) (fun x => [⟨.tr (eL x.2.2), 53, 2⟩]) (fun x => loopM (β := (List I_Pair)) (fun s : Int × (List I_Pair) => m_slices_insertionSortCmpFunc_I_Pair__b3 N p_cmp p_a s.1 s.2) x.1 x.2 = some o98) (fun x => x.1) (N, (i3, v4)) [some 0] ⟨rfl, rfl, ⟨⟨_, rfl, rfl, rfl, .tr _⟩, trivial⟩, ⟨.os rfl, .t _, .t _, .t _, .t _, .t _, trivial⟩⟩ h_99 ?_
      rintro ⟨f100_, i71, v72⟩ h_102
      obtain ⟨f100, y101, rfl, hh2, kk2⟩ := loopM_some h_102
      replace hh2 : m_slices_insertionSortCmpFunc_I_Pair__b3 N p_cmp p_a i71 v72 = some y101 := hh2
      unfold m_slices_insertionSortCmpFunc_I_Pair__b3 at hh2; refine PC.seq ?_; rcases cond_some hh2 with ⟨h_105, hh2⟩ | ⟨h_105, hh2⟩; rotate_left
      · refine PC.cut hs (fun _ : Unit => [(0, .os 0 0 v72.length), (1, iA p_a), (2, iA p_b), (3, .t (.fn (.func g_p_cmp) c_p_cmp)), (8, iA i3), (9, iA i71), (34, bA false)]) (fun _ => [⟨.tr (eL v72), 53, 2⟩]) (fun _ => True) ?_ ?_
        · refine PC.any (id := 4) 17 (.seg [0, 1, 2, 3, 4, 5, 6, 7, 9, 10, 11, 12] (.fork (.seg [8, 13, 14, 15, 16] .done) (.seg [13, 8, 14, 15, 16] .done))) [] rfl (by kernel_rfl) rfl ?_; refine PT.seg ?_; (iterate 2 refine PR.op rfl (Rd.moveT rfl) ?_); refine PR.op rfl (Rd.gtr rfl rfl) ?_; refine PR.op rfl (Rd.moveT rfl) ?_; (iterate 8 refine PR.guard_off rfl rfl h_105 ?_); refine PR.nil ?_; refine PT.fork ?_ ?_
          · refine PT.seg ?_; (iterate 4 refine PR.guard_off rfl rfl h_105 ?_); refine PR.op rfl (Rd.pick_f rfl h_105) ?_; refine PR.nil ?_; refine PT.done ?_; refine PL.nil ?_; refine thA_n ?_; exact ⟨(), trivial, [some 0], ⟨rfl, rfl, ⟨⟨_, rfl, rfl, rfl, .tr _⟩, trivial⟩, ⟨.os rfl, .t _, .t _, .t _, .t _, .t _, .t _, trivial⟩⟩⟩
          refine PT.seg ?_; (iterate 4 refine PR.guard_off rfl rfl h_105 ?_); refine PR.op rfl (Rd.pick_f rfl h_105) ?_; refine PR.nil ?_; refine PT.done ?_; refine PL.nil ?_; refine thA_n ?_; exact ⟨(), trivial, [some 0], ⟨rfl, rfl, ⟨⟨_, rfl, rfl, rfl, .tr _⟩, trivial⟩, ⟨.os rfl, .t _, .t _, .t _, .t _, .t _, .t _, trivial⟩⟩⟩
        rintro ⟨⟩ -
        refine PC.cond_false rfl rfl ?_; refine PC.exit ?_; (iterate 2 refine thA_e ?_); refine inA_eq rfl ?_; refine thA_n ?_; obtain rfl := some_in hh2; obtain rfl : (v72 : (List I_Pair)) = o98 := kk2; exact ⟨v72, hh1, [some 0], ⟨rfl, rfl, ⟨⟨_, rfl, rfl, rfl, .tr _⟩, trivial⟩, ⟨.os rfl, .t _, .t _, .t _, .t _, trivial⟩⟩⟩
      obtain ⟨x106, h_107, hh2⟩ := bind_some hh2; obtain ⟨n108, h_109, hh2⟩ := bind_some hh2; obtain ⟨x110, h_111, hh2⟩ := bind_some hh2; obtain ⟨r112, h_113, hh2⟩ := bind_some hh2; refine PC.cut hs (fun _ : Unit => [(0, .os 0 0 v72.length), (1, iA p_a), (2, iA p_b), (3, .t (.fn (.func g_p_cmp) c_p_cmp)), (8, iA i3), (9, iA i71), (34, bA (decide (r112 < (0 : Int))))]) (fun _ => [⟨.tr (eL v72), 53, 2⟩]) (fun _ => True) ?_ ?_
      · refine PC.any (id := 4) 17 (.seg [0, 1, 2, 3, 4, 5, 6, 7, 9, 10, 11, 12] (.fork (.seg [8, 13, 14, 15, 16] .done) (.seg [13, 8, 14, 15, 16] .done))) [] rfl (by kernel_rfl) rfl ?_; refine PT.seg ?_; (iterate 2 refine PR.op rfl (Rd.moveT rfl) ?_); refine PR.op rfl (Rd.gtr rfl rfl) ?_; refine PR.op rfl (Rd.moveT rfl) ?_; refine PR.guard_on rfl rfl h_105 ?_; refine PR.op rfl (Rd.moveT rfl) ?_; refine PR.guard_on rfl rfl h_105 ?_; refine PR.op rfl (Rd.moveO rfl) ?_; refine PR.guard_on rfl rfl h_105 ?_; refine PR.op rfl (Rd.moveT rfl) ?_; refine PR.guard_on rfl rfl h_105 ?_; refine PR.ixOM rfl rfl rfl rfl (ixI_lt h_107) ?_; refine PR.guard_on rfl rfl h_105 ?_; refine PR.op rfl (Rd.moveO rfl) ?_; refine PR.guard_on rfl rfl h_105 ?_; refine PR.op rfl (Rd.moveT rfl) ?_; refine PR.guard_on rfl rfl h_105 ?_; refine PR.op rfl (Rd.subM rfl rfl h_109) ?_; refine PR.guard_on rfl rfl h_105 ?_; refine PR.ixOM rfl rfl rfl rfl (ixI_lt h_111) ?_; refine PR.nil ?_; refine PT.fork ?_ ?_
        · refine PT.seg ?_; refine PR.guard_on rfl rfl h_105 ?_; refine PR.rdE rfl rfl (Rd.owMR rfl rfl h_107 rfl rfl) ?_; refine PR.guard_on rfl rfl h_105 ?_; refine PR.rdE rfl rfl (Rd.owMR rfl rfl h_111 rfl rfl) ?_; refine PR.guard_on rfl rfl h_105 ?_; refine PR.callF2M (hp_p_cmp x106 x110 _ h_113) rfl rfl rfl rfl hr_p_cmp (.aggL (by repeat (first | exact trivial | refine ⟨.t _, ?_⟩))) (.aggL (by repeat (first | exact trivial | refine ⟨.t _, ?_⟩))) ?_; refine PR.guard_on rfl rfl h_105 ?_; refine PR.op rfl (Rd.lss rfl rfl) ?_; refine PR.op rfl (Rd.pick_t rfl h_105) ?_; refine PR.nil ?_; refine PT.done ?_; refine PL.nil ?_; refine thA_n ?_; exact ⟨(), trivial, [some 0], ⟨rfl, rfl, ⟨⟨_, rfl, rfl, rfl, .tr _⟩, trivial⟩, ⟨.os rfl, .t _, .t _, .t _, .t _, .t _, .t _, trivial⟩⟩⟩
        refine PT.seg ?_; refine PR.guard_on rfl rfl h_105 ?_; refine PR.rdE rfl rfl (Rd.owMR rfl rfl h_111 rfl rfl) ?_; refine PR.guard_on rfl rfl h_105 ?_; refine PR.rdE rfl rfl (Rd.owMR rfl rfl h_107 rfl rfl) ?_; refine PR.guard_on rfl rfl h_105 ?_; refine PR.callF2M (hp_p_cmp x106 x110 _ h_113) rfl rfl rfl rfl hr_p_cmp (.aggL (by repeat (first | exact trivial | refine ⟨.t _, ?_⟩))) (.aggL (by repeat (first | exact trivial | refine ⟨.t _, ?_⟩))) ?_; refine PR.guard_on rfl rfl h_105 ?_; refine PR.op rfl (Rd.lss rfl rfl) ?_; refine PR.op rfl (Rd.pick_t rfl h_105) ?_; refine PR.nil ?_; refine PT.done ?_; refine PL.nil ?_; refine thA_n ?_; exact ⟨(), trivial, [some 0], ⟨rfl, rfl, ⟨⟨_, rfl, rfl, rfl, .tr _⟩, trivial⟩, ⟨.os rfl, .t _, .t _, .t _, .t _, .t _, .t _, trivial⟩⟩⟩
      rintro ⟨⟩ -
      rcases cond_some hh2 with ⟨h_114, hh2⟩ | ⟨h_114, hh2⟩; rotate_left
      · refine PC.cond_false rfl h_114 ?_; refine PC.exit ?_; (iterate 2 refine thA_e ?_); refine inA_eq rfl ?_; refine thA_n ?_; obtain rfl := some_in hh2; obtain rfl : (v72 : (List I_Pair)) = o98 := kk2; exact ⟨v72, hh1, [some 0], ⟨rfl, rfl, ⟨⟨_, rfl, rfl, rfl, .tr _⟩, trivial⟩, ⟨.os rfl, .t _, .t _, .t _, .t _, trivial⟩⟩⟩
      refine PC.cond_true rfl h_114 ?_; refine PC.skip ?_; refine thA_n ?_; refine PC.seq ?_; refine PC.block ?_; obtain ⟨n115, h_116, hh2⟩ := bind_some hh2; obtain ⟨n117, h_118, hh2⟩ := bind_some hh2; obtain ⟨x119, h_120, hh2⟩ := bind_some hh2; obtain ⟨x121, h_122, hh2⟩ := bind_some hh2; obtain ⟨x123, h_124, hh2⟩ := bind_some hh2; refine PC.any (id := 6) 18 (.seg [0, 1, 2, 3, 4, 5, 6, 7, 8, 10, 11, 12] (.fork (.seg [9, 13, 14, 15, 16, 17] .done) (.seg [13, 9, 14, 15, 16, 17] .done))) [0] rfl (by kernel_rfl) rfl ?_; refine PT.seg ?_; refine PR.op rfl (Rd.moveO rfl) ?_; refine PR.op rfl (Rd.moveT rfl) ?_; refine PR.op rfl (Rd.moveO rfl) ?_; refine PR.op rfl (Rd.moveT rfl) ?_; refine PR.op rfl (Rd.subM rfl rfl h_116) ?_; refine PR.op rfl (Rd.moveO rfl) ?_; refine PR.op rfl (Rd.moveT rfl) ?_; refine PR.op rfl (Rd.subM rfl rfl h_118) ?_; refine PR.ixOM rfl rfl rfl rfl (ixI_lt h_120) ?_; refine PR.op rfl (Rd.moveO rfl) ?_; refine PR.op rfl (Rd.moveT rfl) ?_; refine PR.ixOM rfl rfl rfl rfl (ixI_lt h_122) ?_; refine PR.nil ?_; refine PT.fork ?_ ?_
      · refine PT.seg ?_; refine PR.rdE rfl rfl (Rd.owMR rfl rfl h_120 rfl rfl) ?_; refine PR.rdE rfl rfl (Rd.owMR rfl rfl h_122 rfl rfl) ?_; refine PR.ixOM rfl rfl rfl rfl (ixI_lt h_122) ?_; refine PR.stRM x119 rfl rfl rfl rfl rfl h_122 rfl rfl ?_; refine PR.nO [some ⟨.tr (eL (v72.set i71.toNat x119)), 53, 2⟩] rfl ?_; refine PR.ixOM rfl rfl rfl rfl (by have hq := ixI_lt h_124; simp only [List.length_set] at hq ⊢; exact hq) ?_; refine PR.stRM x121 rfl rfl rfl rfl rfl h_124 rfl rfl ?_; refine PR.nO [some ⟨.tr (eL ((v72.set i71.toNat x119).set n115.toNat x121)), 53, 2⟩] rfl ?_; refine PR.nil ?_; refine PT.done ?_; refine PL.nil ?_; refine inA_n ?_; refine thA_n ?_; obtain ⟨n125, h_126, hh2⟩ := bind_some hh2; refine PC.region ?_; refine PL.op rfl (Rd.moveT rfl) ?_; refine PL.op rfl (Rd.subM rfl rfl h_126) ?_; refine PL.op rfl (Rd.asnT rfl) ?_; refine PL.nil ?_; obtain rfl := some_in hh2; refine thA_n ?_; exact ⟨(f100, (n125, ((v72.set i71.toNat x119).set n115.toNat x121))), Nat.lt_succ_self _, kk2, [some 0], ⟨rfl, rfl, ⟨⟨_, rfl, rfl, rfl, .tr _⟩, trivial⟩, ⟨.osE rfl (by simp only [List.length_set]), .t _, .t _, .t _, .t _, .t _, trivial⟩⟩⟩
      refine PT.seg ?_; refine PR.rdE rfl rfl (Rd.owMR rfl rfl h_122 rfl rfl) ?_; refine PR.rdE rfl rfl (Rd.owMR rfl rfl h_120 rfl rfl) ?_; refine PR.ixOM rfl rfl rfl rfl (ixI_lt h_122) ?_; refine PR.stRM x119 rfl rfl rfl rfl rfl h_122 rfl rfl ?_; refine PR.nO [some ⟨.tr (eL (v72.set i71.toNat x119)), 53, 2⟩] rfl ?_; refine PR.ixOM rfl rfl rfl rfl (by have hq := ixI_lt h_124; simp only [List.length_set] at hq ⊢; exact hq) ?_; refine PR.stRM x121 rfl rfl rfl rfl rfl h_124 rfl rfl ?_; refine PR.nO [some ⟨.tr (eL ((v72.set i71.toNat x119).set n115.toNat x121)), 53, 2⟩] rfl ?_; refine PR.nil ?_; refine PT.done ?_; refine PL.nil ?_; refine inA_n ?_; refine thA_n ?_; obtain ⟨n127, h_128, hh2⟩ := bind_some hh2; refine PC.region ?_; refine PL.op rfl (Rd.moveT rfl) ?_; refine PL.op rfl (Rd.subM rfl rfl h_128) ?_; refine PL.op rfl (Rd.asnT rfl) ?_; refine PL.nil ?_; obtain rfl := some_in hh2; refine thA_n ?_; exact ⟨(f100, (n127, ((v72.set i71.toNat x119).set n115.toNat x121))), Nat.lt_succ_self _, kk2, [some 0], ⟨rfl, rfl, ⟨⟨_, rfl, rfl, rfl, .tr _⟩, trivial⟩, ⟨.osE rfl (by simp only [List.length_set]), .t _, .t _, .t _, .t _, .t _, trivial⟩⟩⟩
    clear hh1
    rintro v97 hh1
    replace hh1 : m_slices_insertionSortCmpFunc_I_Pair__k3 N p_cmp i3 v97 = some y68 := hh1
    unfold m_slices_insertionSortCmpFunc_I_Pair__k3 at hh1; refine inA_n ?_; refine thA_n ?_; obtain ⟨n103, h_104, hh1⟩ := bind_some hh1; refine PC.region ?_; refine PL.op rfl (Rd.moveT rfl) ?_; refine PL.op rfl (Rd.addM rfl rfl h_104) ?_; refine PL.op rfl (Rd.asnT rfl) ?_; refine PL.nil ?_; obtain rfl := some_in hh1; refine thA_n ?_; exact ⟨(f67, (n103, v97)), Nat.lt_succ_self _, kk1, [some 0], ⟨rfl, rfl, ⟨⟨_, rfl, rfl, rfl, .tr _⟩, trivial⟩, ⟨.os rfl, .t _, .t _, .t _, .t _, trivial⟩⟩⟩
  clear hh0
  rintro v64 hh0
  replace hh0 : m_slices_insertionSortCmpFunc_I_Pair__k2 N p_cmp v64 = some r := hh0
  unfold m_slices_insertionSortCmpFunc_I_Pair__k2 at hh0; obtain rfl := some_in hh0; exact FinA.mk (r := .tup []) (bl := [⟨.tr (eL v64), 53, 2⟩]) [some 0] (.inr rfl) rfl (rl := []) (.nil) rfl rfl rfl (.tupL trivial) ⟨⟨_, rfl, rfl, rfl, .tr _⟩, trivial⟩ ⟨rfl, rfl⟩
theorem len_slices_insertionSortCmpFunc_I_Pair_ (N : Nat) (p_x : List I_Pair) (p_a p_b : Int) (p_cmp : I_Pair → I_Pair → Option Int) (r : List I_Pair) (h : m_slices_insertionSortCmpFunc_I_Pair_ N p_x p_a p_b p_cmp = some r) : r.length = p_x.length := by
  unfold m_slices_insertionSortCmpFunc_I_Pair_ at h; obtain ⟨n1, _, h⟩ := bind_some h; obtain ⟨o, h1, h2⟩ := bind_some h; unfold m_slices_insertionSortCmpFunc_I_Pair__k2 at h2; cases h2; refine al.loop (fun s => s.2.length = p_x.length) (fun b => b.length = p_x.length) ?_ N _ rfl _ h1
  rintro ⟨i, v⟩ hv
  show al (m_slices_insertionSortCmpFunc_I_Pair__b2 N p_cmp p_a p_b i v) _
  unfold m_slices_insertionSortCmpFunc_I_Pair__b2; refine al.cond (fun _ => al.bind fun e he => ?_) (fun _ => al.some hv)
  have hl : e.length = p_x.length := by
    refine al.loop (fun s => s.2.length = p_x.length) (fun b => b.length = p_x.length) ?_ N _ hv _ he
    rintro ⟨j, u⟩ hu
    show al (m_slices_insertionSortCmpFunc_I_Pair__b3 N p_cmp p_a j u) _
    unfold m_slices_insertionSortCmpFunc_I_Pair__b3
    repeat' (first | exact al.some hu | (refine al.cond (fun _ => ?_) (fun _ => ?_)) | (refine al.bind (fun _ _ => ?_)) | (refine al.some ?_; simpa only [List.length_set] using hu))
  unfold m_slices_insertionSortCmpFunc_I_Pair__k3; exact al.bind fun _ _ => al.some hl
def m_slices_pdqsortCmpFunc_I_Pair__b1 (N : Nat) (p_cmp : I_Pair → I_Pair → Option Int) (p_data : (List I_Pair)) (p_a : Int) (p_b : Int) (p_limit : Int) : Option (Unit ⊕ (List I_Pair)) :=
  (chk (p_b - p_a)).bind fun n12 =>
  cond (decide (n12 ≤ (12 : Int)))
    ((m_slices_insertionSortCmpFunc_I_Pair_ N p_data p_a p_b p_cmp).bind fun r15 =>
    some (.inr r15))
    (cond (decide (p_limit = (0 : Int)))
      (none)
      (none))
def m_slices_pdqsortCmpFunc_I_Pair_ (N : Nat) (p_data : (List I_Pair)) (p_a : Int) (p_b : Int) (p_limit : Int) (p_cmp : I_Pair → I_Pair → Option Int) : Option ((List I_Pair)) :=
  (loopM (β := (List I_Pair)) (fun _ : Unit => m_slices_pdqsortCmpFunc_I_Pair__b1 N p_cmp p_data p_a p_b p_limit) N ()).bind fun v =>
  some v
theorem w_slices_pdqsortCmpFunc_I_Pair_ (N : Nat) (p_data : (List I_Pair)) (p_a : Int) (p_b : Int) (p_limit : Int) (p_cmp : I_Pair → I_Pair → Option Int) (g_p_cmp : FuncId) (c_p_cmp : List Tr) (hr_p_cmp : ∀ args w, (callFunc g_p_cmp args).run Tryz.prog w = .ok (.enter g_p_cmp args) w) (hp_p_cmp : ∀ (a0 : I_Pair) (a1 : I_Pair) r, p_cmp a0 a1 = some r → Fn Tryz.prog g_p_cmp ((.agg [sA a0.key, iA a0.row]) :: (.agg [sA a1.key, iA a1.row]) :: c_p_cmp.map .t) (RE (iA r) [])) (r : (List I_Pair)) (hh0 : m_slices_pdqsortCmpFunc_I_Pair_ N p_data p_a p_b p_limit p_cmp = some r) : FnX Tryz.prog 94 [⟨.tr (eL p_data), 53, 2⟩] [.os 0 0 p_data.length, iA p_a, iA p_b, iA p_limit, .t (.fn (.func g_p_cmp) c_p_cmp)] (RE (.tup []) [⟨.tr (eL r), 53, 2⟩]) := by
  unfold m_slices_pdqsortCmpFunc_I_Pair_ at hh0; refine FnX.mk Tryz.func94 rfl rfl ?_; intro s hs; refine PC.seq ?_; refine PC.region ?_; refine PL.op rfl (Rd.asnT rfl) ?_; refine PL.nil ?_; refine thA_n ?_; refine PC.seq ?_; refine PC.region ?_; refine PL.op rfl (Rd.asnT rfl) ?_; refine PL.nil ?_; refine thA_n ?_; obtain ⟨o7, h_8, hh0⟩ := bind_some hh0; refine PC.block ?_; refine PC.loop hs (fun x : Nat × (Unit) => [(0, .os 0 0 p_data.length), (1, iA p_a), (2, iA p_b), (3, iA p_limit), (4, .t (.fn (.func g_p_cmp) c_p_cmp)), (10, bA true), (11, bA true)]) (fun x => [⟨.tr (eL p_data), 53, 2⟩]) (fun x => loopM (β := (List I_Pair)) (fun _ : Unit => m_slices_pdqsortCmpFunc_I_Pair__b1 N p_cmp p_data p_a p_b p_limit) x.1 x.2 = some o7) (fun x => x.1) (N, ()) [some 0] ⟨rfl, rfl, ⟨⟨_, rfl, rfl, rfl, .tr _⟩, trivial⟩, ⟨.os rfl, .t _, .t _, .t _, .t _, .t _, .t _, trivial⟩⟩ h_8 ?_
  rintro ⟨f9_, ⟨⟩⟩ h_11
  obtain ⟨f9, y10, rfl, hh1, kk1⟩ := loopM_some h_11
  replace hh1 : m_slices_pdqsortCmpFunc_I_Pair__b1 N p_cmp p_data p_a p_b p_limit  = some y10 := hh1
  unfold m_slices_pdqsortCmpFunc_I_Pair__b1 at hh1; refine PC.block ?_; refine PC.seq ?_; obtain ⟨n12, h_13, hh1⟩ := bind_some hh1; refine PC.region ?_; (iterate 2 refine PL.op rfl (Rd.moveT rfl) ?_); refine PL.op rfl (Rd.subM rfl rfl h_13) ?_; refine PL.op rfl (Rd.asnT rfl) ?_; refine PL.nil ?_; refine thA_n ?_; (iterate 2 refine PC.seq ?_); refine PC.region ?_; refine PL.op rfl (Rd.moveT rfl) ?_; refine PL.op rfl (Rd.leq rfl rfl) ?_; refine PL.nil ?_; refine thA_n ?_; rcases cond_some hh1 with ⟨h_14, hh1⟩ | ⟨h_14, hh1⟩; rotate_left
  · refine PC.cond_false rfl h_14 ?_; refine PC.skip ?_; refine thA_n ?_; (iterate 2 refine PC.seq ?_); refine PC.region ?_; refine PL.op rfl (Rd.moveT rfl) ?_; refine PL.op rfl (Rd.eql rfl rfl) ?_; refine PL.nil ?_; refine thA_n ?_; rcases cond_some hh1 with ⟨h_17, hh1⟩ | ⟨h_17, hh1⟩
    · refine PC.cond_true rfl h_17 ?_; refine PC.seq ?_; cases hh1
    refine PC.cond_false rfl h_17 ?_; refine PC.skip ?_; refine thA_n ?_; (iterate 2 refine PC.seq ?_); refine PC.region ?_; refine PL.op rfl (Rd.moveT rfl) ?_; refine PL.op rfl (Rd.unnot rfl) ?_; refine PL.nil ?_; refine thA_n ?_; refine PC.cond_false rfl (not_t rfl) ?_; refine PC.skip ?_; refine thA_n ?_; refine PC.seq ?_; cases hh1
  refine PC.cond_true rfl h_14 ?_; refine PC.seq ?_; obtain ⟨r15, h_16, hh1⟩ := bind_some hh1; refine PC.region ?_; refine PL.op rfl (Rd.moveO rfl) ?_; (iterate 3 refine PL.op rfl (Rd.moveT rfl) ?_); refine PL.callM false [0] (w_slices_insertionSortCmpFunc_I_Pair_ N p_data p_a p_b p_cmp g_p_cmp c_p_cmp hr_p_cmp hp_p_cmp r15 h_16) rfl Tryz.call121 rfl ⟨.os rfl, .t _, .t _, .t _, trivial⟩ rfl ⟨⟨_, rfl, rfl, rfl, .tr _⟩, trivial⟩ (fun h => by cases h) ?_; refine PL.nm (.tup []) [some ⟨.tr (eL r15), 53, 2⟩] rfl rfl ?_; refine PL.nil ?_; refine thA_n ?_; refine PC.ret ?_; refine thA_r ?_; refine inA_r ?_; refine thA_r ?_; refine inA_r ?_; obtain rfl := some_in hh1; obtain rfl : (r15 : (List I_Pair)) = o7 := kk1; obtain rfl := some_in hh0; exact FinA.mk (r := .tup []) (bl := [⟨.tr (eL r15), 53, 2⟩]) [some 0] (.inl rfl) rfl (rl := []) (.nil) rfl rfl rfl (.tupL trivial) ⟨⟨_, rfl, rfl, rfl, .tr _⟩, trivial⟩ ⟨rfl, rfl⟩
theorem len_slices_pdqsortCmpFunc_I_Pair_ (N : Nat) (p_x : List I_Pair) (p_a p_b p_limit : Int) (p_cmp : I_Pair → I_Pair → Option Int) (r : List I_Pair) (h : m_slices_pdqsortCmpFunc_I_Pair_ N p_x p_a p_b p_limit p_cmp = some r) : r.length = p_x.length := by
  unfold m_slices_pdqsortCmpFunc_I_Pair_ at h; obtain ⟨o, h1, h2⟩ := bind_some h; cases h2; refine al.loop (fun _ => True) (fun b => b.length = p_x.length) ?_ N _ trivial _ h1
  rintro ⟨⟩ -
  show al (m_slices_pdqsortCmpFunc_I_Pair__b1 N p_cmp p_x p_a p_b p_limit) _
  unfold m_slices_pdqsortCmpFunc_I_Pair__b1; refine al.bind fun n _ => al.cond (fun _ => al.bind fun e he => ?_) (fun _ => al.cond (fun _ => al.none) (fun _ => al.none)); exact al.some (len_slices_insertionSortCmpFunc_I_Pair_ N _ _ _ _ _ he)
def m_slices_SortFunc_I_Pair (N : Nat) (p_x : (List I_Pair)) (p_cmp : I_Pair → I_Pair → Option Int) : Option ((List I_Pair)) :=
  (u64M (p_x.length : Int)).bind fun n1 =>
  (m_bits_Len N n1).bind fun n3 =>
  (m_slices_pdqsortCmpFunc_I_Pair_ N p_x (0 : Int) (p_x.length : Int) n3 p_cmp).bind fun r5 =>
  some r5
theorem w_slices_SortFunc_I_Pair (N : Nat) (p_x : (List I_Pair)) (p_cmp : I_Pair → I_Pair → Option Int) (g_p_cmp : FuncId) (c_p_cmp : List Tr) (hr_p_cmp : ∀ args w, (callFunc g_p_cmp args).run Tryz.prog w = .ok (.enter g_p_cmp args) w) (hp_p_cmp : ∀ (a0 : I_Pair) (a1 : I_Pair) r, p_cmp a0 a1 = some r → Fn Tryz.prog g_p_cmp ((.agg [sA a0.key, iA a0.row]) :: (.agg [sA a1.key, iA a1.row]) :: c_p_cmp.map .t) (RE (iA r) [])) (r : (List I_Pair)) (hh0 : m_slices_SortFunc_I_Pair N p_x p_cmp = some r) : FnX Tryz.prog 55 [⟨.tr (eL p_x), 53, 2⟩] [.os 0 0 p_x.length, .t (.fn (.func g_p_cmp) c_p_cmp)] (RE (.tup []) [⟨.tr (eL r), 53, 2⟩]) := by
  unfold m_slices_SortFunc_I_Pair at hh0; refine FnX.mk Tryz.func55 rfl rfl ?_; intro s hs; refine PC.seq ?_; refine PC.region ?_; refine PL.op rfl (Rd.moveO rfl) ?_; refine PL.op rfl (Rd.lenO rfl rfl) ?_; refine PL.op rfl (Rd.asnT rfl) ?_; refine PL.nil ?_; refine thA_n ?_; obtain ⟨n1, h_2, hh0⟩ := bind_some hh0; obtain ⟨n3, h_4, hh0⟩ := bind_some hh0; obtain ⟨r5, h_6, hh0⟩ := bind_some hh0; refine PC.region ?_; refine PL.op rfl (Rd.moveO rfl) ?_; (iterate 2 refine PL.op rfl (Rd.moveT rfl) ?_); refine PL.op rfl (Rd.toU64M rfl h_2) ?_; refine PL.callM false [] (w_bits_Len N n1 n3 h_4) rfl Tryz.call95 rfl ⟨.t _, trivial⟩ rfl trivial (fun h => by cases h) ?_; refine PL.op rfl (Rd.moveT rfl) ?_; refine PL.callM false [0] (w_slices_pdqsortCmpFunc_I_Pair_ N p_x (0 : Int) (p_x.length : Int) n3 p_cmp g_p_cmp c_p_cmp hr_p_cmp hp_p_cmp r5 h_6) rfl Tryz.call94 rfl ⟨.os rfl, .t _, .t _, .t _, .t _, trivial⟩ rfl ⟨⟨_, rfl, rfl, rfl, .tr _⟩, trivial⟩ (fun h => by cases h) ?_; refine PL.nm (.tup []) [some ⟨.tr (eL r5), 53, 2⟩] rfl rfl ?_; refine PL.nil ?_; obtain rfl := some_in hh0; exact FinA.mk (r := .tup []) (bl := [⟨.tr (eL r5), 53, 2⟩]) [some 0] (.inr rfl) rfl (rl := []) (.nil) rfl rfl rfl (.tupL trivial) ⟨⟨_, rfl, rfl, rfl, .tr _⟩, trivial⟩ ⟨rfl, rfl⟩
theorem len_slices_SortFunc_I_Pair (N : Nat) (p_x : List I_Pair) (p_cmp : I_Pair → I_Pair → Option Int) (r : List I_Pair) (h : m_slices_SortFunc_I_Pair N p_x p_cmp = some r) : r.length = p_x.length := by
  unfold m_slices_SortFunc_I_Pair at h; obtain ⟨n1, _, h⟩ := bind_some h; obtain ⟨n3, _, h⟩ := bind_some h; obtain ⟨r5, h5, h⟩ := bind_some h; cases h; exact len_slices_pdqsortCmpFunc_I_Pair_ N _ _ _ _ _ _ h5
def m_I_CompareKeys (N : Nat) (p_a : ByteArray) (p_b : ByteArray) : Option (Int) :=
  (m_cmp_Compare_string_ N p_a p_b).bind fun r1 =>
  some r1
theorem w_I_CompareKeys (N : Nat) (p_a : ByteArray) (p_b : ByteArray) (r : Int) (hh0 : m_I_CompareKeys N p_a p_b = some r) : FnX Tryz.prog 58 [] [sA p_a, sA p_b] (RE (iA r) []) := by
  unfold m_I_CompareKeys at hh0; refine FnX.mk Tryz.func58 rfl rfl ?_; intro s hs; refine PC.seq ?_; refine PC.region ?_; refine PL.op rfl (Rd.asnT rfl) ?_; refine PL.nil ?_; refine thA_n ?_; refine PC.seq ?_; obtain ⟨r1, h_2, hh0⟩ := bind_some hh0; refine PC.region ?_; (iterate 2 refine PL.op rfl (Rd.moveT rfl) ?_); refine PL.callM false [] (w_cmp_Compare_string_ N p_a p_b r1 h_2) rfl Tryz.call84 rfl ⟨.t _, .t _, trivial⟩ rfl trivial (fun h => by cases h) ?_; refine PL.op rfl (Rd.asnT rfl) ?_; refine PL.nil ?_; refine thA_n ?_; refine PC.ret ?_; obtain rfl := some_in hh0; exact FinA.mk (r := iA r1) (bl := []) [] (.inl rfl) rfl (rl := [.tmp 4]) (.tmp .nil) rfl rfl rfl (.t _) trivial ⟨rfl, rfl⟩
def m_cmp_Or_int__k1 (N : Nat) : Option (Int) :=
  some (0 : Int)
def m_cmp_Or_int__b1 (N : Nat) (p_vals : (List Int)) (i1 : Int) : Option (Int ⊕ (Unit ⊕ Int)) :=
  cond (decide (i1 < (p_vals.length : Int)))
    ((ixI p_vals i1).bind fun x14 =>
    cond (decide (x14 = (0 : Int)))
      ((chk (i1 + (1 : Int))).bind fun n17 =>
      some (.inl n17))
      (some (.inr (.inr x14))))
    (some (.inr (.inl ())))
def m_cmp_Or_int_ (N : Nat) (p_vals : (List Int)) : Option (Int) :=
  (loopM (β := Unit ⊕ Int) (fun s : Int => m_cmp_Or_int__b1 N p_vals s) N (0 : Int)).bind fun o => match o with
  | .inl e =>
    m_cmp_Or_int__k1 N 
  | .inr v =>
    some v
theorem w_cmp_Or_int_ (N : Nat) (p_vals : (List Int)) (r : Int) (hh0 : m_cmp_Or_int_ N p_vals = some r) : FnX Tryz.prog 57 [] [sL p_vals] (RE (iA r) []) := by
  unfold m_cmp_Or_int_ at hh0; refine FnX.mk Tryz.func57 rfl rfl ?_; intro s hs; refine PC.seq ?_; refine PC.region ?_; refine PL.op rfl (Rd.asnT rfl) ?_; refine PL.nil ?_; refine thA_n ?_; refine PC.seq ?_; refine PC.region ?_; refine PL.op rfl (Rd.asnT rfl) ?_; refine PL.nil ?_; refine thA_n ?_; (iterate 2 refine PC.seq ?_); refine PC.region ?_; refine PL.op rfl (Rd.moveT rfl) ?_; refine PL.op rfl (Rd.lenT rfl) ?_; refine PL.op rfl (Rd.moveT rfl) ?_; refine PL.nil ?_; refine thA_n ?_; obtain ⟨o8, h_9, hh0⟩ := bind_some hh0; refine PC.cutE hs (fun x : Unit => [(3, iA (0 : Int))]) (fun x => []) (fun x => m_cmp_Or_int__k1 N  = some r) ?_ ?_
  · refine PC.block ?_; refine PC.loop hs (fun x : Nat × (Int) => [(3, iA (0 : Int)), (6, sL p_vals), (7, iA (p_vals.length : Int)), (8, iA x.2)]) (fun x => []) (fun x => loopM (β := Unit ⊕ Int) (fun s : Int => m_cmp_Or_int__b1 N p_vals s) x.1 x.2 = some o8) (fun x => x.1) (N, (0 : Int)) [] ⟨rfl, rfl, trivial, ⟨.t _, .t _, .t _, .t _, trivial⟩⟩ h_9 ?_
    rintro ⟨f10_, i1⟩ h_12
    obtain ⟨f10, y11, rfl, hh1, kk1⟩ := loopM_some h_12
    replace hh1 : m_cmp_Or_int__b1 N p_vals i1 = some y11 := hh1
    unfold m_cmp_Or_int__b1 at hh1; refine PC.seq ?_; refine PC.region ?_; refine PL.op rfl (Rd.lss rfl rfl) ?_; refine PL.nil ?_; refine thA_n ?_; refine PC.seq ?_; rcases cond_some hh1 with ⟨h_13, hh1⟩ | ⟨h_13, hh1⟩; rotate_left
    · refine PC.cond_false rfl h_13 ?_; refine PC.exit ?_; (iterate 2 refine thA_e ?_); refine inA_eq rfl ?_; refine thA_n ?_; obtain rfl := some_in hh1; obtain rfl : (.inl () : Unit ⊕ Int) = o8 := kk1; exact ⟨(), hh0, [], ⟨rfl, rfl, trivial, ⟨.t _, trivial⟩⟩⟩
    refine PC.cond_true rfl h_13 ?_; refine PC.skip ?_; refine thA_n ?_; refine PC.seq ?_; refine PC.block ?_; refine PC.seq ?_; obtain ⟨x14, h_15, hh1⟩ := bind_some hh1; refine PC.region ?_; refine PL.op rfl (Rd.ixM rfl rfl h_15) ?_; refine PL.op rfl (Rd.elM1 rfl h_15 rfl rfl) ?_; refine PL.op rfl (Rd.asnT rfl) ?_; refine PL.nil ?_; refine thA_n ?_; refine PC.seq ?_; refine PC.region ?_; (iterate 2 refine PL.op rfl (Rd.moveT rfl) ?_); refine PL.op rfl (Rd.neq rfl rfl) ?_; refine PL.nil ?_; refine thA_n ?_; rcases cond_some hh1 with ⟨h_16, hh1⟩ | ⟨h_16, hh1⟩
    · refine PC.cond_false rfl (not_t h_16) ?_; refine PC.skip ?_; refine inA_n ?_; refine thA_n ?_; obtain ⟨n17, h_18, hh1⟩ := bind_some hh1; refine PC.region ?_; refine PL.op rfl (Rd.addM rfl rfl h_18) ?_; refine PL.op rfl (Rd.moveT rfl) ?_; refine PL.nil ?_; obtain rfl := some_in hh1; refine thA_n ?_; exact ⟨(f10, n17), Nat.lt_succ_self _, kk1, [], ⟨rfl, rfl, trivial, ⟨.t _, .t _, .t _, .t _, trivial⟩⟩⟩
    refine PC.cond_true rfl (not_f h_16) ?_; refine PC.seq ?_; refine PC.region ?_; refine PL.op rfl (Rd.moveT rfl) ?_; refine PL.op rfl (Rd.asnT rfl) ?_; refine PL.nil ?_; refine thA_n ?_; refine PC.ret ?_; refine inA_r ?_; (iterate 2 refine thA_r ?_); refine inA_r ?_; refine thA_r ?_; obtain rfl := some_in hh1; obtain rfl : (.inr x14 : Unit ⊕ Int) = o8 := kk1; refine thA_r ?_; obtain rfl := some_in hh0; exact FinA.mk (r := iA x14) (bl := []) [] (.inl rfl) rfl (rl := [.tmp 2]) (.tmp .nil) rfl rfl rfl (.t _) trivial ⟨rfl, rfl⟩
  clear hh0
  rintro ⟨⟩ hh0
  replace hh0 : m_cmp_Or_int__k1 N  = some r := hh0
  unfold m_cmp_Or_int__k1 at hh0; refine thA_n ?_; refine PC.seq ?_; refine PC.region ?_; refine PL.op rfl (Rd.moveT rfl) ?_; refine PL.op rfl (Rd.asnT rfl) ?_; refine PL.nil ?_; refine thA_n ?_; refine PC.ret ?_; obtain rfl := some_in hh0; exact FinA.mk (r := iA (0 : Int)) (bl := []) [] (.inl rfl) rfl (rl := [.tmp 2]) (.tmp .nil) rfl rfl rfl (.t _) trivial ⟨rfl, rfl⟩
def m_I_IndexColumn_1 (N : Nat) (p_a : I_Pair) (p_b : I_Pair) : Option (Int) :=
  (m_I_CompareKeys N p_a.key p_b.key).bind fun r1 =>
  (m_cmp_Compare_int_ N p_a.row p_b.row).bind fun r3 =>
  (m_cmp_Or_int_ N [r1, r3]).bind fun r5 =>
  some r5
theorem w_I_IndexColumn_1 (N : Nat) (p_a : I_Pair) (p_b : I_Pair) (r : Int) (hh0 : m_I_IndexColumn_1 N p_a p_b = some r) : FnX Tryz.prog 56 [] [.agg [sA p_a.key, iA p_a.row], .agg [sA p_b.key, iA p_b.row]] (RE (iA r) []) := by
  unfold m_I_IndexColumn_1 at hh0; refine FnX.mk Tryz.func56 rfl rfl ?_; intro s hs; refine PC.seq ?_; refine PC.region ?_; refine PL.ef rfl (Ef.box rfl rfl rfl) ?_; refine PL.nm (.op 0 0) [some ⟨.mx [sA p_a.key, iA p_a.row], 53, 0⟩] rfl rfl ?_; refine PL.ef rfl (Ef.box rfl rfl rfl) ?_; refine PL.nm (.op 1 0) [some ⟨.mx [sA p_a.key, iA p_a.row], 53, 0⟩, some ⟨.mx [sA p_b.key, iA p_b.row], 53, 0⟩] rfl rfl ?_; refine PL.op rfl (Rd.asnT rfl) ?_; refine PL.nil ?_; refine thA_n ?_; refine PC.seq ?_; obtain ⟨r1, h_2, hh0⟩ := bind_some hh0; obtain ⟨r3, h_4, hh0⟩ := bind_some hh0; obtain ⟨r5, h_6, hh0⟩ := bind_some hh0; refine PC.any (id := 1) 13 (.seg [0, 1, 2, 3, 5, 6, 7, 8, 4, 9, 10, 11, 12] .done) [] rfl (by kernel_rfl) rfl ?_; refine PT.seg ?_; refine PR.op rfl (Rd.fieldO rfl rfl) ?_; refine PR.op rfl (Rd.loadO rfl rfl rfl) ?_; refine PR.op rfl (Rd.fieldO rfl rfl) ?_; refine PR.op rfl (Rd.loadO rfl rfl rfl) ?_; refine PR.op rfl (Rd.fieldO rfl rfl) ?_; refine PR.op rfl (Rd.loadO rfl rfl rfl) ?_; refine PR.op rfl (Rd.fieldO rfl rfl) ?_; refine PR.op rfl (Rd.loadO rfl rfl rfl) ?_; refine PR.callM false [] (w_I_CompareKeys N p_a.key p_b.key r1 h_2) rfl Tryz.call58 rfl ⟨.t _, .t _, trivial⟩ rfl trivial (fun h => by cases h) rfl ?_; refine PR.callM false [] (w_cmp_Compare_int_ N p_a.row p_b.row r3 h_4) rfl Tryz.call59 rfl ⟨.t _, .t _, trivial⟩ rfl trivial (fun h => by cases h) rfl ?_; refine PR.ef rfl rfl (Ef.litM (α := Int) [r1, r3] [_, _] rfl rfl (by decide) rfl rfl rfl rfl) ?_; refine PR.nm (.os 2 0 2) [some ⟨.mx [sA p_a.key, iA p_a.row], 53, 0⟩, some ⟨.mx [sA p_b.key, iA p_b.row], 53, 0⟩, some ⟨.tr (eL [r1, r3]), 3, 1⟩] rfl rfl ?_; refine PR.callM true [] (w_cmp_Or_int_ N [r1, r3] r5 h_6) rfl Tryz.call57 rfl ⟨.own rfl (by first | decide | exact List.not_mem_nil) rfl rfl, trivial⟩ rfl trivial (fun _ => ⟨trivial, flat_nil⟩) rfl ?_; refine PR.op rfl (Rd.asnT rfl) ?_; refine PR.nil ?_; refine PT.done ?_; refine PL.nil ?_; refine thA_n ?_; refine PC.ret ?_; obtain rfl := some_in hh0; exact FinA.mk (r := iA r5) (bl := []) [] (.inl rfl) rfl (rl := [.tmp 4]) (.tmp .nil) rfl rfl rfl (.t _) trivial ⟨rfl, rfl⟩
def m_I_IndexColumn_k1 (N : Nat) (v15 : (List I_Pair)) : Option ((List I_Pair)) :=
  (m_slices_SortFunc_I_Pair N v15 (fun a0 a1 => m_I_IndexColumn_1 N a0 a1)).bind fun r21 =>
  some r21
def m_I_IndexColumn_b1 (N : Nat) (r1 : ((List I_Value) × Bool)) (i4 : Int) (v5 : (List I_Pair)) : Option ((Int × (List I_Pair)) ⊕ (List I_Pair)) :=
  cond (decide (i4 < (r1.1.length : Int)))
    ((ixI r1.1 i4).bind fun x24 =>
    (m_I_EncodeKey N [x24]).bind fun r26 =>
    (appM 24 v5 [(I_Pair.mk r26 i4)]).bind fun xs28 =>
    (chk (i4 + (1 : Int))).bind fun n30 =>
    some (.inl (n30, xs28)))
    (some (.inr v5))
def m_I_IndexColumn (N : Nat) (p_t : I_Table) (p_column : Int) : Option ((List I_Pair)) :=
  (m_I_columnOf N p_t p_column).bind fun r1 =>
  cond r1.2
    ((loopM (β := (List I_Pair)) (fun s : Int × (List I_Pair) => m_I_IndexColumn_b1 N r1 s.1 s.2) N ((0 : Int), ([] : List I_Pair))).bind fun e =>
    m_I_IndexColumn_k1 N e)
    (some ([] : List I_Pair))
theorem w_I_IndexColumn (N : Nat) (p_t : I_Table) (p_column : Int) (r : (List I_Pair)) (hh0 : m_I_IndexColumn N p_t p_column = some r) : FnX Tryz.prog 19 [] [.agg [sL p_t.first, sL p_t.changes, sL p_t.rows], iA p_column] (RE (.os 0 0 r.length) [⟨.tr (eL r), 53, 2⟩]) := by
  unfold m_I_IndexColumn at hh0; refine FnX.mk Tryz.func19 rfl rfl ?_; intro s hs; refine PC.seq ?_; refine PC.region ?_; refine PL.ef rfl (Ef.box rfl rfl rfl) ?_; refine PL.nm (.op 0 0) [some ⟨.mx [sL p_t.first, sL p_t.changes, sL p_t.rows], 37, 0⟩] rfl rfl ?_; refine PL.op rfl (Rd.asnT rfl) ?_; refine PL.nil ?_; refine thA_n ?_; refine PC.seq ?_; obtain ⟨r1, h_2, hh0⟩ := bind_some hh0; refine PC.region ?_; refine PL.op rfl (Rd.loadBox rfl rfl rfl) ?_; refine PL.op rfl (Rd.moveT rfl) ?_; refine PL.callM false [] (w_I_columnOf N p_t p_column r1 h_2) rfl Tryz.call43 rfl ⟨.aggL ⟨.t _, .t _, .t _, trivial⟩, .t _, trivial⟩ rfl trivial (fun h => by cases h) ?_; refine PL.nm (.tup [.os 1 0 r1.1.length, bA r1.2]) [some ⟨.mx [sL p_t.first, sL p_t.changes, sL p_t.rows], 37, 0⟩, some ⟨.tr (eL r1.1), 39, 3⟩] rfl rfl ?_; refine PL.op rfl (Rd.moveU rfl) ?_; (iterate 2 refine PL.op rfl (Rd.extract rfl rfl) ?_); refine PL.op rfl (Rd.asnO rfl) ?_; refine PL.op rfl (Rd.asnT rfl) ?_; refine PL.nil ?_; refine thA_n ?_; (iterate 2 refine PC.seq ?_); refine PC.region ?_; refine PL.op rfl (Rd.moveT rfl) ?_; refine PL.op rfl (Rd.unnot rfl) ?_; refine PL.nil ?_; refine thA_n ?_; rcases cond_some hh0 with ⟨h_3, hh0⟩ | ⟨h_3, hh0⟩; rotate_left
  · refine PC.cond_true rfl (not_f h_3) ?_; refine PC.seq ?_; refine PC.region ?_; refine PL.op rfl (Rd.asnT rfl) ?_; refine PL.nil ?_; refine thA_n ?_; refine PC.ret ?_; refine thA_r ?_; obtain rfl := some_in hh0; exact FinA.mk (r := .os 0 0 0) (bl := [⟨.tr (eL ([] : List I_Pair)), 53, 2⟩]) [none] (.inl rfl) rfl (rl := [.tmp 4]) (.tmp .nil) rfl rfl rfl (.osn rfl) ⟨ow_nil _, trivial⟩ ⟨rfl, rfl⟩
  refine PC.cond_false rfl (not_t h_3) ?_; refine PC.skip ?_; refine thA_n ?_; refine PC.seq ?_; refine PC.region ?_; refine PL.op rfl (Rd.asnT rfl) ?_; refine PL.nil ?_; refine thA_n ?_; (iterate 2 refine PC.seq ?_); refine PC.region ?_; refine PL.op rfl (Rd.moveO rfl) ?_; refine PL.op rfl (Rd.lenO rfl rfl) ?_; refine PL.op rfl (Rd.moveT rfl) ?_; refine PL.nil ?_; refine thA_n ?_; obtain ⟨o16, h_17, hh0⟩ := bind_some hh0; refine PC.cutE hs (fun x : (List I_Pair) => [(7, .os 0 0 x.length)]) (fun x => [⟨.tr (eL x), 53, 2⟩]) (fun x => m_I_IndexColumn_k1 N x = some r) ?_ ?_
  · refine PC.block ?_; refine PC.loop hs (fun x : Nat × (Int × (List I_Pair)) => [(7, .os 0 0 x.2.2.length), (18, .os 1 0 r1.1.length), (19, iA (r1.1.length : Int)), (20, iA x.2.1)]) (fun x => [⟨.tr (eL x.2.2), 53, 2⟩, ⟨.tr (eL r1.1), 39, 3⟩]) (fun x => loopM (β := (List I_Pair)) (fun s : Int × (List I_Pair) => m_I_IndexColumn_b1 N r1 s.1 s.2) x.1 x.2 = some o16) (fun x => x.1) (N, ((0 : Int), ([] : List I_Pair))) [none, some 1] ⟨rfl, rfl, ⟨ow_nil _, ⟨_, rfl, rfl, rfl, .tr _⟩, trivial⟩, ⟨.osn rfl, .os rfl, .t _, .t _, trivial⟩⟩ h_17 ?_
    rintro ⟨f18_, i4, v5⟩ h_20
    obtain ⟨f18, y19, rfl, hh1, kk1⟩ := loopM_some h_20
    replace hh1 : m_I_IndexColumn_b1 N r1 i4 v5 = some y19 := hh1
    unfold m_I_IndexColumn_b1 at hh1; refine PC.seq ?_; refine PC.region ?_; refine PL.op rfl (Rd.lss rfl rfl) ?_; refine PL.nil ?_; refine thA_n ?_; refine PC.seq ?_; rcases cond_some hh1 with ⟨h_23, hh1⟩ | ⟨h_23, hh1⟩; rotate_left
    · refine PC.cond_false rfl h_23 ?_; refine PC.exit ?_; (iterate 2 refine thA_e ?_); refine inA_eq rfl ?_; refine thA_n ?_; obtain rfl := some_in hh1; obtain rfl : (v5 : (List I_Pair)) = o16 := kk1; exact ⟨v5, hh0, [some 0], ⟨rfl, rfl, ⟨⟨_, rfl, rfl, rfl, .tr _⟩, trivial⟩, ⟨.os rfl, trivial⟩⟩⟩
    refine PC.cond_true rfl h_23 ?_; refine PC.skip ?_; refine thA_n ?_; refine PC.seq ?_; refine PC.block ?_; refine PC.seq ?_; obtain ⟨x24, h_25, hh1⟩ := bind_some hh1; refine PC.region ?_; refine PL.op rfl (Rd.moveT rfl) ?_; refine PL.op rfl (Rd.ixOM rfl rfl rfl (ixI_lt h_25)) ?_; refine PL.op rfl (Rd.owMR rfl rfl h_25 rfl rfl) ?_; refine PL.ef rfl (Ef.alloc rfl rfl) ?_; refine PL.nm (.op 2 0) [some ⟨.tr (eL v5), 53, 2⟩, some ⟨.tr (eL r1.1), 39, 3⟩, some ⟨.mx [iA (0 : Int), iA (0 : Int), sA ByteArray.empty], 39, 0⟩] rfl rfl ?_; refine PL.op rfl (Rd.asnT rfl) ?_; refine PL.store rfl rfl rfl rfl rfl rfl rfl ?_; refine PL.nO [some ⟨.tr (eL v5), 53, 2⟩, some ⟨.tr (eL r1.1), 39, 3⟩, some ⟨.mx [iA x24.kind, iA x24.num, sA x24.text], 39, 0⟩] rfl ?_; refine PL.nil ?_; refine thA_n ?_; obtain ⟨r26, h_27, hh1⟩ := bind_some hh1; obtain ⟨xs28, h_29, hh1⟩ := bind_some hh1; refine PC.region ?_; refine PL.op rfl (Rd.moveO rfl) ?_; refine PL.op rfl (Rd.loadBox rfl rfl rfl) ?_; refine PL.ef rfl (Ef.litM (α := I_Value) [x24] [_] rfl rfl (by decide) rfl rfl rfl rfl) ?_; refine PL.nm (.os 3 0 1) [some ⟨.tr (eL v5), 53, 2⟩, some ⟨.tr (eL r1.1), 39, 3⟩, some ⟨.mx [iA x24.kind, iA x24.num, sA x24.text], 39, 0⟩, some ⟨.tr (eL [x24]), 39, 3⟩] rfl rfl ?_; refine PL.callM true [] (w_I_EncodeKey N [x24] r26 h_27) rfl Tryz.call54 rfl ⟨.own rfl (by first | decide | exact List.not_mem_nil) rfl rfl, trivial⟩ rfl trivial (fun _ => ⟨trivial, flat_nil⟩) ?_; refine PL.op rfl (Rd.moveT rfl) ?_; refine PL.op rfl (Rd.build rfl rfl rfl rfl) ?_; refine PL.ef rfl (Ef.litM (α := I_Pair) [(I_Pair.mk r26 i4)] [_] rfl rfl (by decide) rfl rfl rfl rfl) ?_; refine PL.nm (.os 4 0 1) [some ⟨.tr (eL v5), 53, 2⟩, some ⟨.tr (eL r1.1), 39, 3⟩, some ⟨.mx [iA x24.kind, iA x24.num, sA x24.text], 39, 0⟩, some ⟨.tr (eL [x24]), 39, 3⟩, some ⟨.tr (eL [(I_Pair.mk r26 i4)]), 53, 2⟩] rfl rfl ?_; refine PL.apM hs rfl rfl rfl rfl (SrcA.ownE rfl rfl rfl) rfl rfl rfl rfl h_29 ?_; refine PL.nm (.os 5 0 xs28.length) [none, some ⟨.tr (eL r1.1), 39, 3⟩, some ⟨.mx [iA x24.kind, iA x24.num, sA x24.text], 39, 0⟩, some ⟨.tr (eL [x24]), 39, 3⟩, some ⟨.tr (eL [(I_Pair.mk r26 i4)]), 53, 2⟩, some ⟨.tr (eL xs28), 53, 2⟩] rfl rfl ?_; refine PL.op rfl (Rd.asnO rfl) ?_; refine PL.nil ?_; refine inA_n ?_; refine thA_n ?_; obtain ⟨n30, h_31, hh1⟩ := bind_some hh1; refine PC.region ?_; refine PL.op rfl (Rd.addM rfl rfl h_31) ?_; refine PL.op rfl (Rd.moveT rfl) ?_; refine PL.nil ?_; obtain rfl := some_in hh1; refine thA_n ?_; exact ⟨(f18, (n30, xs28)), Nat.lt_succ_self _, kk1, [some 5, some 1], ⟨rfl, rfl, ⟨⟨_, rfl, rfl, rfl, .tr _⟩, ⟨_, rfl, rfl, rfl, .tr _⟩, trivial⟩, ⟨.os rfl, .os rfl, .t _, .t _, trivial⟩⟩⟩
  clear hh0
  rintro v15 hh0
  replace hh0 : m_I_IndexColumn_k1 N v15 = some r := hh0
  unfold m_I_IndexColumn_k1 at hh0; refine thA_n ?_; refine PC.seq ?_; obtain ⟨r21, h_22, hh0⟩ := bind_some hh0; refine PC.region ?_; refine PL.op rfl (Rd.moveO rfl) ?_; refine PL.callM false [0] (w_slices_SortFunc_I_Pair N v15 (fun a0 a1 => m_I_IndexColumn_1 N a0 a1) 56 [] Tryz.call56 (fun a0 a1 r h => w_I_IndexColumn_1 N a0 a1 r h) r21 h_22) rfl Tryz.call55 rfl ⟨.os rfl, Sb.fntL trivial, trivial⟩ rfl ⟨⟨_, rfl, rfl, rfl, .tr _⟩, trivial⟩ (fun h => by cases h) ?_; refine PL.nm (.tup []) [some ⟨.tr (eL r21), 53, 2⟩] rfl rfl ?_; refine PL.nil ?_; refine thA_n ?_; refine PC.seq ?_; refine PC.region ?_; refine PL.op rfl (Rd.moveO rfl) ?_; refine PL.op rfl (Rd.asnO rfl) ?_; refine PL.nil ?_; refine thA_n ?_; refine PC.ret ?_; obtain rfl := some_in hh0; exact FinA.mk (r := .os 0 0 r21.length) (bl := [⟨.tr (eL r21), 53, 2⟩]) [some 0] (.inl rfl) rfl (rl := [.tmp 4]) (.tmp .nil) rfl rfl rfl (.osE rfl (by simp only [List.length_set, len_slices_SortFunc_I_Pair N _ _ _ h_22])) ⟨⟨_, rfl, rfl, rfl, .tr _⟩, trivial⟩ ⟨rfl, rfl⟩
def m_S_encodeNum (N : Nat) (p_n : Int) : Option (ByteArray) :=
  (chk (p_n + (999999 : Int))).bind fun n1 =>
  (quoM n1 (200000 : Int)).bind fun n3 =>
  (chk ((48 : Int) + n3)).bind fun n5 =>
  (quoM n1 (4000 : Int)).bind fun n7 =>
  (remM n7 (50 : Int)).bind fun n9 =>
  (chk ((32 : Int) + n9)).bind fun n11 =>
  (quoM n1 (80 : Int)).bind fun n13 =>
  (remM n13 (50 : Int)).bind fun n15 =>
  (chk ((32 : Int) + n15)).bind fun n17 =>
  (remM n1 (80 : Int)).bind fun n19 =>
  (chk ((32 : Int) + n19)).bind fun n21 =>
  some (b2s [(i2b n5), (i2b n11), (i2b n17), (i2b n21)])
def m_S_encodeKey_k1 (N : Nat) (i35 : ByteArray) : Option (ByteArray) :=
  some i35
def m_S_encodeKey_b1 (N : Nat) (p_row : (List I_Value)) (i1 : ByteArray) (i2 : Int) : Option ((ByteArray × Int) ⊕ ByteArray) :=
  cond (decide (i2 < (p_row.length : Int)))
    ((ixI p_row i2).bind fun x42 =>
    cond (decide (x42.kind = (0 : Int)))
      ((addS i1 (ByteArray.mk #[97])).bind fun s45 =>
      (chk (i2 + (1 : Int))).bind fun n47 =>
      some (.inl (s45, n47)))
      (cond (decide (x42.kind = (1 : Int)))
        ((addS i1 (ByteArray.mk #[98])).bind fun s50 =>
        (ixI p_row i2).bind fun x52 =>
        (m_S_encodeNum N x52.num).bind fun r54 =>
        (addS s50 r54).bind fun s56 =>
        (chk (i2 + (1 : Int))).bind fun n58 =>
        some (.inl (s56, n58)))
        (cond (decide (x42.kind = (2 : Int)))
          ((addS i1 (ByteArray.mk #[99])).bind fun s61 =>
          (ixI p_row i2).bind fun x63 =>
          (addS s61 x63.text).bind fun s65 =>
          (addS s65 (ByteArray.mk #[1])).bind fun s67 =>
          (chk (i2 + (1 : Int))).bind fun n69 =>
          some (.inl (s67, n69)))
          ((chk (i2 + (1 : Int))).bind fun n71 =>
          some (.inl (i1, n71))))))
    (some (.inr i1))
def m_S_encodeKey (N : Nat) (p_row : (List I_Value)) : Option (ByteArray) :=
  (loopM (β := ByteArray) (fun s : ByteArray × Int => m_S_encodeKey_b1 N p_row s.1 s.2) N (ByteArray.empty, (0 : Int))).bind fun e =>
  m_S_encodeKey_k1 N e
end V
end Go.Proofs.YtkjnnifnmoekjaaGreatDoor
namespace Go.Proofs.YtkjnnifnmoekjaaGreatDoor
namespace V
set_option linter.unusedVariables false
set_option linter.unusedSimpArgs false
set_option maxHeartbeats 1000000
/-- A number's four bytes. -/
def numB (n : Int) : List UInt8 := [i2b (48 + (n + 999999) / 200000), i2b (32 + (n + 999999) / 4000 % 50), i2b (32 + (n + 999999) / 80 % 50), i2b (32 + (n + 999999) % 80)]
/-- A value's bytes. -/
def keyB (v : I_Value) : List UInt8 := if v.kind = 0 then [97] else if v.kind = 1 then 98 :: numB v.num else 99 :: (bytesL v.text ++ [1])
/-- The key of one value. -/
def keyP (v : I_Value) : ByteArray := b2s (keyB v)
theorem b2s_app (xs ys : List UInt8) : b2s (xs ++ ys) = b2s xs ++ b2s ys := by
  apply ByteArray.ext
  rw [ByteArray.data_append]
  unfold b2s
  simp
theorem b2s_bytes (u : ByteArray) : b2s (bytesL u) = u := by
  apply ByteArray.ext
  unfold b2s bytesL
  simp
section
variable {N : Nat} (hN : 100000000 ≤ N)
include hN
omit hN in
theorem encodeNum_ok {n : Int} (h : -999999 ≤ n ∧ n ≤ 999999) : m_S_encodeNum N n = some (b2s (numB n)) := by
  refine ok.val ?_
  unfold m_S_encodeNum numB
  refine ok.chk (by omega) ?_
  refine ok.eq (quoM_eq (by omega)) (ok.chk (by omega) (ok.eq (quoM_eq (by omega)) (ok.eq (remM_eq (by omega)) (ok.chk (by omega) (ok.eq (quoM_eq (by omega)) (ok.eq (remM_eq (by omega)) (ok.chk (by omega) (ok.eq (remM_eq (by omega)) (ok.chk (by omega) (ok.some rfl)))))))))) 
omit hN in
theorem loopM_1 {S β : Type} {body : S → Option (S ⊕ β)} {s s' : S} {b : β} (hN : 2 ≤ N) (h1 : body s = some (.inl s')) (h2 : body s' = some (.inr b)) : loopM body N s = some b := by
  obtain ⟨M, rfl⟩ : ∃ M, N = M + 2 := ⟨N - 2, by omega⟩
  unfold loopM
  rw [h1]
  show loopM body (M + 1) s' = _
  unfold loopM
  rw [h2]
theorem keyS {v : I_Value} (h : vV v) : m_S_encodeKey N [v] = some (keyP v) := by
  have h0 : ixI [v] (0 : Int) = some v := rfl
  have e0 : ByteArray.empty.size = 0 := rfl
  have e1 : (ByteArray.mk #[97]).size = 1 := rfl
  have e2 : (ByteArray.mk #[98]).size = 1 := rfl
  have e3 : (ByteArray.mk #[99]).size = 1 := rfl
  have e4 : (ByteArray.mk #[1]).size = 1 := rfl
  have hb : m_S_encodeKey_b1 N [v] ByteArray.empty 0 = some (.inl (keyP v, 1)) := by
    refine ok.val ?_
    unfold m_S_encodeKey_b1
    refine ok.ift (by simp) (ok.eq h0 ?_)
    unfold keyP keyB
    rcases h with ⟨k, n, t⟩ | ⟨k, n1, n2, t⟩ | ⟨k, n, t⟩
    · refine ok.ift k (ok.eq (addS_eq (by omega)) (ok.chk (by omega) (ok.some ?_)))
      rw [if_pos k]; rfl
    · have hl : (b2s (numB v.num)).size = 4 := rfl
      refine ok.iff (by omega) (ok.ift k (ok.eq (addS_eq (by omega)) (ok.eq h0 (ok.eq (encodeNum_ok ⟨n1, n2⟩) (ok.eq (addS_eq ?_) (ok.chk (by omega) (ok.some ?_)))))))
      · rw [ByteArray.size_append]; omega
      · have : b2s (98 :: numB v.num) = b2s ([98] ++ numB v.num) := rfl
        rw [if_neg (by omega), if_pos k, this, b2s_app]
        have : ByteArray.empty ++ ByteArray.mk #[98] = b2s [98] := rfl
        rw [this]; rfl
    · have hs := t.1
      refine ok.iff (by omega) (ok.iff (by omega) (ok.ift k (ok.eq (addS_eq (by omega)) (ok.eq h0 (ok.eq (addS_eq ?_) (ok.eq (addS_eq ?_) (ok.chk (by omega) (ok.some ?_))))))))
      · rw [ByteArray.size_append]; omega
      · rw [ByteArray.size_append, ByteArray.size_append]; omega
      · have : b2s (99 :: (bytesL v.text ++ [1])) = b2s ([99] ++ bytesL v.text ++ [1]) := rfl
        rw [if_neg (by omega), if_neg (by omega), this, b2s_app, b2s_app, b2s_bytes]
        have : ByteArray.empty ++ ByteArray.mk #[99] = b2s [99] := rfl
        rw [this]; rfl
  have he : m_S_encodeKey_b1 N [v] (keyP v) 1 = some (.inr (keyP v)) := by
    unfold m_S_encodeKey_b1
    rw [decide_eq_false (by simp)]; rfl
  unfold m_S_encodeKey
  rw [loopM_1 (by omega) hb he]; rfl
theorem keyI {v : I_Value} (h : vV v) (hbd : v.text.size ≤ 5000000) : m_I_EncodeKey N [v] = some (keyP v) := by
  have h0 : ixI [v] (0 : Int) = some v := rfl
  have hrow : m_I_validRow N [v] = some true := by
    have hb : m_I_validRow_b1 N [v] 0 = some (.inl 1) := by
      refine ok.val ?_
      unfold m_I_validRow_b1
      exact ok.ift (by simp) (ok.eq h0 (ok.eq (vVI hN hbd) (ok.ift h (ok.chk (by decide) (ok.some rfl)))))
    have he : m_I_validRow_b1 N [v] 1 = some (.inr (.inl ())) := rfl
    unfold m_I_validRow
    rw [decide_eq_false (by simp), cond_false, loopM_1 (by omega) hb he]; rfl
  have hb : m_I_EncodeKey_b1 N [v] 0 [] = some (.inl (1, keyB v)) := by
    refine ok.val ?_
    unfold m_I_EncodeKey_b1
    refine ok.ift (by simp) (ok.eq h0 ?_)
    unfold keyB numB
    rcases h with ⟨k, n, t⟩ | ⟨k, n1, n2, t⟩ | ⟨k, n, t⟩
    · refine ok.ift k (ok.app (by decide) (ok.chk (by decide) (ok.some ?_)))
      rw [if_pos k]; rfl
    · refine ok.iff (by omega) (ok.ift k (ok.chk (by omega) ?_))
      refine ok.eq (quoM_eq (by omega)) (ok.chk (by omega) (ok.eq (quoM_eq (by omega)) (ok.eq (remM_eq (by omega)) (ok.chk (by omega) (ok.eq (quoM_eq (by omega)) (ok.eq (remM_eq (by omega)) (ok.chk (by omega) (ok.eq (remM_eq (by omega)) (ok.chk (by omega) (ok.app ⟨by simp, by simp⟩ (ok.chk (by decide) (ok.some ?_))))))))))))
      rw [if_neg (by omega), if_pos k]; rfl
    · have hs := t.1
      have hl := bytesL_len v.text
      refine ok.iff (by omega) (ok.iff (by omega) (ok.app ⟨by simp, by simp⟩ (ok.app ⟨?_, ?_⟩ (ok.app ⟨?_, ?_⟩ (ok.chk (by decide) (ok.some ?_))))))
      · simp only [List.nil_append, List.length_cons, List.length_nil, hl]; omega
      · simp only [List.nil_append, List.length_cons, List.length_nil, hl]; omega
      · simp only [List.nil_append, List.length_append, List.length_cons, List.length_nil, hl]; omega
      · simp only [List.nil_append, List.length_append, List.length_cons, List.length_nil, hl]; omega
      · rw [if_neg (by omega), if_neg (by omega)]; rfl
  have he : m_I_EncodeKey_b1 N [v] 1 (keyB v) = some (.inr (keyB v)) := by
    unfold m_I_EncodeKey_b1
    rw [decide_eq_false (by simp)]; rfl
  unfold m_I_EncodeKey
  rw [hrow]
  show (loopM _ N _).bind _ = _
  rw [loopM_1 (s' := ((1 : Int), keyB v)) (by omega) hb he]; rfl
end
end V
end Go.Proofs.YtkjnnifnmoekjaaGreatDoor
namespace Go.Proofs.YtkjnnifnmoekjaaGreatDoor
namespace V
set_option linter.unusedVariables false
set_option linter.unusedSimpArgs false
set_option maxHeartbeats 1000000
theorem bl_asym {x y : List UInt8} (h : Op.bytesLess x y = true) : Op.bytesLess y x = false := by
  have := bl_total x y
  rw [h, Bool.true_or] at this
  simpa using this.symm
section
variable {α : Type} {lt : α → α → Bool}
/-- x goes ahead of the last ones that are greater. -/
def insR (lt : α → α → Bool) (x : α) (l : List α) : List α := (l.reverse.dropWhile (lt x)).reverse ++ x :: (l.reverse.takeWhile (lt x)).reverse
theorem insR_t {x q : α} {l : List α} (h : lt x q = true) : insR lt x (l ++ [q]) = insR lt x l ++ [q] := by
  simp [insR, List.takeWhile_cons, List.dropWhile_cons, h]
theorem insR_f {x q : α} {l : List α} (h : lt x q = false) : insR lt x (l ++ [q]) = l ++ [q] ++ [x] := by
  simp [insR, List.takeWhile_cons, List.dropWhile_cons, h]
theorem insR_perm (x : α) (l : List α) : (insR lt x l).Perm (x :: l) := by
  have h : (l.reverse.dropWhile (lt x)).reverse ++ (l.reverse.takeWhile (lt x)).reverse = l := by
    rw [← List.reverse_append, List.takeWhile_append_dropWhile, List.reverse_reverse]
  have h2 : (insR lt x l).Perm (x :: ((l.reverse.dropWhile (lt x)).reverse ++ (l.reverse.takeWhile (lt x)).reverse)) := List.perm_middle
  rwa [h] at h2
theorem snoc_cases (l : List α) : l = [] ∨ ∃ A q, l = A ++ [q] := by
  rcases h : l.reverse with _ | ⟨q, A⟩
  · exact .inl (by simpa using h)
  · exact .inr ⟨A.reverse, q, by rw [← List.reverse_reverse l, h]; simp⟩
/-- All put in, one after the other. -/
def insA (lt : α → α → Bool) (l : List α) : List α := l.foldl (fun S p => insR lt p S) []
theorem insA_snoc (l : List α) (x : α) : insA lt (l ++ [x]) = insR lt x (insA lt l) := by simp [insA]
theorem insA_take {l : List α} {i : Nat} (h : i < l.length) : insA lt (l.take (i + 1)) = insR lt l[i] (insA lt (l.take i)) := by
  rw [take_succ1 h, insA_snoc]
theorem insA_perm : ∀ (n : Nat) (l : List α), l.length = n → (insA lt l).Perm l
  | 0, l, h => by
    obtain rfl := List.eq_nil_of_length_eq_zero h
    exact .refl _
  | n + 1, l, h => by
    rcases snoc_cases l with rfl | ⟨A, q, rfl⟩
    · simp at h
    rw [insA_snoc]
    refine (insR_perm q _).trans (((insA_perm n A (by simpa using h)).cons q).trans ?_)
    exact List.perm_append_singleton q A |>.symm
theorem insA_len (l : List α) : (insA lt l).length = l.length := (insA_perm _ l rfl).length_eq
/-- The loop that lets one sink in. -/
theorem insR_loop {x : α} {body : Int × List α → Option ((Int × List α) ⊕ List α)} {G : α → Prop} {m : Nat}
    (h1 : ∀ A q C, (A ++ q :: x :: C).length = m → G q → lt x q = true → body (((A.length + 1 : Nat) : Int), A ++ q :: x :: C) = some (.inl ((A.length : Int), A ++ x :: q :: C)))
    (h2 : ∀ A q C, (A ++ q :: x :: C).length = m → G q → lt x q = false → body (((A.length + 1 : Nat) : Int), A ++ q :: x :: C) = some (.inr (A ++ q :: x :: C)))
    (h3 : ∀ C, (x :: C).length = m → body (0, x :: C) = some (.inr (x :: C))) :
    ∀ (n N : Nat) (A C : List α), A.length = n → (A ++ x :: C).length = m → n < N → (∀ q ∈ A, G q) → loopM body N ((A.length : Int), A ++ x :: C) = some (insR lt x A ++ C)
  | n, 0, A, C, _, _, h, _ => by omega
  | 0, N + 1, A, C, hA, hm, _, _ => by
    obtain rfl := List.eq_nil_of_length_eq_zero hA
    unfold loopM
    have e : body ((([] : List α).length : Int), [] ++ x :: C) = some (.inr (x :: C)) := h3 C hm
    rw [e]; rfl
  | n + 1, N + 1, A, C, hA, hm, hN, hG => by
    rcases snoc_cases A with rfl | ⟨B, q, rfl⟩
    · simp at hA
    have hB : B.length = n := by simpa using hA
    have hm' : (B ++ q :: x :: C).length = m := by rw [← hm]; simp
    have hq := hG q (by simp)
    have e0 : B ++ [q] ++ x :: C = B ++ q :: x :: C := by simp
    have e1 : (((B ++ [q]).length : Nat) : Int) = ((B.length + 1 : Nat) : Int) := by simp
    unfold loopM
    rw [e0, e1]
    cases hl : lt x q with
    | true =>
      rw [h1 B q C hm' hq hl]
      show loopM body N ((B.length : Int), B ++ x :: q :: C) = _
      rw [insR_loop h1 h2 h3 n N B (q :: C) hB (by rw [← hm']; simp) (by omega) (fun a ha => hG a (by simp [ha])), insR_t hl]
      simp
    | false =>
      rw [h2 B q C hm' hq hl, insR_f hl]
      simp
end
/-- What the functions do where they change places. -/
theorem swap_set {α : Type} (A C : List α) (q x : α) : ((A ++ q :: x :: C).set (A.length + 1) q).set A.length x = A ++ x :: q :: C := by
  rw [List.set_append_right _ _ (by omega), List.set_append_right _ _ (by simp)]
  simp
theorem at_0 {α : Type} (A C : List α) (q : α) : ixI (A ++ q :: C) ((A.length : Nat) : Int) = some q := by
  rw [ixI_nat (by simp)]; simp
theorem at_1 {α : Type} (A C : List α) (q x : α) : ixI (A ++ q :: x :: C) ((A.length + 1 : Nat) : Int) = some x := by
  rw [ixI_nat (by simp)]; simp
end V
end Go.Proofs.YtkjnnifnmoekjaaGreatDoor
namespace Go.Proofs.YtkjnnifnmoekjaaGreatDoor
namespace V
set_option linter.unusedVariables false
set_option linter.unusedSimpArgs false
set_option maxHeartbeats 1000000
/-- A column that is valid. -/
def cV (c : I_Column) : Prop := (c.kind = 1 ∨ c.kind = 2) ∧ vV c.default ∧ (c.default.kind = 0 ∨ c.default.kind = c.kind)
noncomputable instance (c : I_Column) : Decidable (cV c) := Classical.propDecidable _
/-- A format that is valid. -/
def vF (f : List I_Column) : Prop := (1 ≤ f.length ∧ f.length ≤ 5) ∧ ∀ i (h : i < f.length), cV f[i]
noncomputable instance (f : List I_Column) : Decidable (vF f) := Classical.propDecidable _
/-- A change that is possible. -/
def poss (f : List I_Column) (c : I_Change) : Prop := (c.kind = 1 ∧ 0 ≤ c.at_ ∧ c.at_ ≤ f.length ∧ f.length < 5 ∧ cV c.column) ∨ (c.kind = 2 ∧ 0 ≤ c.at_ ∧ c.at_ < f.length ∧ 1 < f.length) ∨ (c.kind = 3 ∧ 0 ≤ c.at_ ∧ ∃ h : c.at_.toNat < f.length, f[c.at_.toNat].kind = 1)
noncomputable instance (f : List I_Column) (c : I_Change) : Decidable (poss f c) := Classical.propDecidable _
/-- A number made a text. -/
def wid (v : I_Value) : I_Value := if v.kind = 1 then ⟨2, 0, itoaB v.num⟩ else v
/-- A format after a change. -/
def chF (f : List I_Column) (c : I_Change) : List I_Column := if c.kind = 1 then f.insertIdx c.at_.toNat c.column else if c.kind = 2 then f.eraseIdx c.at_.toNat else f.modify c.at_.toNat fun x => ⟨2, wid x.default⟩
/-- A row after a change. -/
def mv (r : List I_Value) (c : I_Change) : List I_Value := if c.kind = 1 then r.insertIdx c.at_.toNat c.column.default else if c.kind = 2 then r.eraseIdx c.at_.toNat else r.modify c.at_.toNat wid
/-- A row has a format. -/
def fitP (f : List I_Column) (r : List I_Value) : Prop := r.length = f.length ∧ ∀ i (h : i < r.length) (h' : i < f.length), vV r[i] ∧ (r[i].kind = 0 ∨ r[i].kind = f[i].kind)
noncomputable instance (f : List I_Column) (r : List I_Value) : Decidable (fitP f r) := Classical.propDecidable _
/-- Texts are not too long. -/
def bS (f : List I_Column) : Prop := f.length ≤ 5000000 ∧ ∀ c ∈ f, c.default.text.size ≤ 5000000
/-- Numbers are not too large. -/
def bN (f : List I_Column) : Prop := ∀ c ∈ f, -1000000000 ≤ c.default.num ∧ c.default.num ≤ 1000000000
theorem vV_size {v : I_Value} (h : vV v) : v.text.size ≤ 12 := by
  rcases h with h | h | h
  · rw [h.2.2]; exact Nat.zero_le _
  · rw [h.2.2.2]; exact Nat.zero_le _
  · exact h.2.2.1
theorem vV_num {v : I_Value} (h : vV v) : -999999 ≤ v.num ∧ v.num ≤ 999999 := by rcases h with h | h | h <;> omega
theorem vV_wid {v : I_Value} (h : vV v) : vV (wid v) ∧ ((wid v).kind = 0 ∨ (wid v).kind = 2) := by
  unfold wid
  split
  · rename_i hk
    exact ⟨.inr (.inr ⟨rfl, rfl, itoaB_ok (vV_num h)⟩), .inr rfl⟩
  · rename_i hk
    exact ⟨h, by rcases h with h | h | h <;> omega⟩
theorem vF_bS {f : List I_Column} (h : vF f) : bS f := ⟨by have := h.1; omega, fun c hc => by
  obtain ⟨i, hi, rfl⟩ := List.mem_iff_getElem.1 hc
  have := vV_size (h.2 i hi).2.1; omega⟩
theorem vF_bN {f : List I_Column} (h : vF f) : bN f := fun c hc => by
  obtain ⟨i, hi, rfl⟩ := List.mem_iff_getElem.1 hc
  have := vV_num (h.2 i hi).2.1; omega
theorem wid_num {v : I_Value} (h : -1000000000 ≤ v.num ∧ v.num ≤ 1000000000) : -1000000000 ≤ (wid v).num ∧ (wid v).num ≤ 1000000000 := by
  unfold wid; split
  · dsimp only; omega
  · exact h
theorem poss_at {f : List I_Column} {c : I_Change} (h : poss f c) : 0 ≤ c.at_ ∧ c.at_ ≤ f.length := by
  rcases h with h | h | ⟨h1, h2, h3, h4⟩ <;> omega
theorem bN_chF {f : List I_Column} {c : I_Change} (h : bN f) (hp : poss f c) : bN (chF f c) := by
  intro x hx
  unfold chF at hx
  rcases hp with ⟨k, h1, h2, h3, h4⟩ | ⟨k, h1, h2, h3⟩ | ⟨k, h1, h2, h3⟩
  · rw [if_pos k, List.mem_insertIdx (by omega)] at hx
    rcases hx with rfl | hx
    · have := vV_num h4.2.1; omega
    · exact h x hx
  · rw [if_neg (by omega), if_pos k] at hx
    exact h x (List.mem_of_mem_eraseIdx hx)
  · rw [if_neg (by omega), if_neg (by omega)] at hx
    obtain ⟨i, hi, rfl⟩ := List.mem_iff_getElem.1 hx
    rw [List.getElem_modify]
    split
    · exact wid_num (h _ (List.getElem_mem _))
    · exact h _ (List.getElem_mem _)
theorem vF_chF {f : List I_Column} {c : I_Change} (h : vF f) (hp : poss f c) : vF (chF f c) := by
  unfold chF
  obtain ⟨hl, h⟩ := h
  rcases hp with ⟨k, h1, h2, h3, h4⟩ | ⟨k, h1, h2, h3⟩ | ⟨k, h1, h2, h3⟩
  · rw [if_pos k]
    refine ⟨by rw [List.length_insertIdx]; split <;> omega, fun i hi => ?_⟩
    rw [List.getElem_insertIdx]
    split
    · exact h _ _
    · split
      · exact h4
      · exact h _ _
  · rw [if_neg (by omega), if_pos k]
    refine ⟨by rw [List.length_eraseIdx]; split <;> omega, fun i hi => ?_⟩
    rw [List.getElem_eraseIdx]
    split <;> exact h _ _
  · rw [if_neg (by omega), if_neg (by omega)]
    refine ⟨by rw [List.length_modify]; omega, fun i hi => ?_⟩
    rw [List.getElem_modify]
    split
    · have := vV_wid (h i (by rw [List.length_modify] at hi; exact hi)).2.1
      exact ⟨.inr rfl, this.1, this.2⟩
    · exact h _ _
theorem fit_mv {f : List I_Column} {c : I_Change} {r : List I_Value} (h : fitP f r) (hp : poss f c) : fitP (chF f c) (mv r c) := by
  obtain ⟨hl, h⟩ := h
  unfold chF mv
  rcases hp with ⟨k, h1, h2, h3, h4⟩ | ⟨k, h1, h2, h3⟩ | ⟨k, h1, h2, h3⟩
  · rw [if_pos k, if_pos k]
    refine ⟨by rw [List.length_insertIdx, List.length_insertIdx, hl], fun i hi hi' => ?_⟩
    rw [List.length_insertIdx, if_pos (by omega)] at hi hi'
    rw [List.getElem_insertIdx, List.getElem_insertIdx]
    by_cases a1 : i < c.at_.toNat
    · rw [dif_pos a1, dif_pos a1]; exact h _ _ _
    · rw [dif_neg a1, dif_neg a1]
      by_cases a2 : i = c.at_.toNat
      · rw [dif_pos a2, dif_pos a2]; exact ⟨h4.2.1, h4.2.2⟩
      · rw [dif_neg a2, dif_neg a2]; exact h _ _ _
  · rw [if_neg (by omega), if_pos k, if_neg (by omega), if_pos k]
    refine ⟨by rw [List.length_eraseIdx, List.length_eraseIdx, hl], fun i hi hi' => ?_⟩
    rw [List.getElem_eraseIdx, List.getElem_eraseIdx]
    split <;> exact h _ _ _
  · rw [if_neg (by omega), if_neg (by omega), if_neg (by omega), if_neg (by omega)]
    refine ⟨by rw [List.length_modify, List.length_modify, hl], fun i hi hi' => ?_⟩
    rw [List.length_modify] at hi hi'
    rw [List.getElem_modify, List.getElem_modify]
    by_cases a : c.at_.toNat = i
    · rw [if_pos a, if_pos a]
      exact vV_wid (h i hi hi').1
    · rw [if_neg a, if_neg a]; exact h _ _ _
theorem mod_eq {α : Type} {xs : List α} {i : Nat} {f : α → α} (h : i < xs.length) : xs.modify i f = xs.set i (f xs[i]) := by
  apply List.ext_getElem
  · rw [List.length_modify, List.length_set]
  · intro k h1 h2
    rw [List.getElem_modify, List.getElem_set]
    by_cases a : i = k
    · subst a; simp
    · rw [if_neg a, if_neg a]
theorem ins_eq {α : Type} {xs : List α} {i : Nat} {a : α} (h : i ≤ xs.length) : xs.take i ++ a :: xs.drop i = xs.insertIdx i a := by
  apply List.ext_getElem
  · rw [List.length_insertIdx, if_pos h]; simp; omega
  · intro k h1 h2
    rw [List.getElem_insertIdx]
    by_cases a1 : k < i
    · rw [dif_pos a1, List.getElem_append_left (by simp; omega), List.getElem_take]
    · rw [dif_neg a1, List.getElem_append_right (by simp; omega)]
      simp only [List.length_take, Nat.min_eq_left h]
      by_cases a2 : k = i
      · subst a2; simp
      · rw [dif_neg a2]
        obtain ⟨m, hm⟩ : ∃ m, k - i = m + 1 := ⟨k - i - 1, by omega⟩
        simp only [hm, List.getElem_cons_succ, List.getElem_drop]
        congr 1; omega
theorem insM_eq {α : Type} {w : Nat} {xs : List α} {i : Int} {a : α} (h : 0 ≤ i ∧ i ≤ (xs.length : Int)) (hw : (xs.length + 1) * w ≤ 140737488355328 ∧ xs.length + 1 ≤ 4611686018427387904) : insM w xs i a = some (xs.insertIdx i.toNat a) := by
  unfold insM; rw [if_pos ⟨h.1, h.2, hw.1, hw.2⟩, ins_eq (by omega)]
theorem delM_eq {α : Type} {xs : List α} {i : Int} (h : 0 ≤ i ∧ i < (xs.length : Int)) : delM xs i (i + 1) = some (xs.eraseIdx i.toNat) := by
  unfold delM; rw [if_pos ⟨h.1, by omega, by omega, by omega⟩, List.eraseIdx_eq_take_drop_succ]
  congr 3; omega
theorem appM0 {α : Type} {w : Nat} {xs : List α} (h : xs.length * w ≤ 140737488355328 ∧ xs.length ≤ 4611686018427387904) : appM w [] xs = some xs := by
  rw [appM_eq (by simpa using h)]; rfl
section
variable {N : Nat} (hN : 100000000 ≤ N)
include hN
theorem cVI {c : I_Column} (h : c.default.text.size ≤ 5000000) : m_I_Column_valid N c = some (decide (cV c)) := by
  refine bool_eq ?_
  unfold m_I_Column_valid cV
  refine ok.ite (fun k1 => ok.eq (vVI hN h) (ok.ite (fun n0 => ok.ite (fun n1 => ok.some ?_) fun n1 => ok.some ?_) fun n0 => ok.some ?_)) fun k1 => ok.ite (fun k2 => ok.eq (vVI hN h) (ok.ite (fun n0 => ok.ite (fun n1 => ok.some ?_) fun n1 => ok.some ?_) fun n0 => ok.some ?_)) fun k2 => ok.some ?_
  · exact ⟨fun _ => ⟨.inl k1, n0, .inr n1⟩, fun _ => rfl⟩
  · rw [decide_eq_true_eq]; exact ⟨fun e => ⟨.inl k1, n0, .inl e⟩, fun e => by rcases e.2.2 with e | e; exact e; exact (n1 e).elim⟩
  · exact ⟨fun e => (by cases e), fun e => (n0 e.2.1).elim⟩
  · exact ⟨fun _ => ⟨.inr k2, n0, .inr n1⟩, fun _ => rfl⟩
  · rw [decide_eq_true_eq]; exact ⟨fun e => ⟨.inr k2, n0, .inl e⟩, fun e => by rcases e.2.2 with e | e; exact e; exact (n1 e).elim⟩
  · exact ⟨fun e => (by cases e), fun e => (n0 e.2.1).elim⟩
  · exact ⟨fun e => (by cases e), fun e => by rcases e.1 with e | e; exact (k1 e).elim; exact (k2 e).elim⟩
theorem cVS {c : I_Column} (h : c.default.text.size ≤ 5000000) : m_S_validColumn N c = some (decide (cV c)) := by
  refine bool_eq ?_
  unfold m_S_validColumn cV
  refine ok.eq (inRange_eq N _ _ _) (ok.ite (fun k1 => ok.eq (vVS hN h) (ok.ite (fun n0 => ok.ite (fun n1 => ok.some ?_) fun n1 => ok.some ?_) fun n0 => ok.some ?_)) fun k2 => ok.some ?_)
  · exact ⟨fun _ => ⟨by omega, n0, .inl n1⟩, fun _ => rfl⟩
  · rw [decide_eq_true_eq]; exact ⟨fun e => ⟨by omega, n0, .inr e⟩, fun e => by rcases e.2.2 with e | e; exact (n1 e).elim; exact e⟩
  · exact ⟨fun e => (by cases e), fun e => (n0 e.2.1).elim⟩
  · exact ⟨fun e => (by cases e), fun e => by omega⟩
theorem vFI {f : List I_Column} (h : bS f) : m_I_ValidFormat N f = some (decide (vF f)) := by
  have hl := h.1
  refine bool_eq ?_
  unfold m_I_ValidFormat vF
  refine ok.ite (fun h1 => ok.some ⟨fun e => (by cases e), fun e => by omega⟩) fun h1 => ok.ite (fun h2 => ok.some ⟨fun e => (by cases e), fun e => by omega⟩) fun h2 => ?_
  refine ok.call (all_ok (n := f.length) 0 (fun i => ∀ h : i < f.length, cV f[i]) (by omega) (fun i hi _ => ?_) ?_) ?_
  · rw [Int.add_zero]
    show ok (m_I_ValidFormat_b1 N f (i : Int)) _
    unfold m_I_ValidFormat_b1
    refine ok.ift (by omega) (ok.eq (ixI_nat hi) (ok.eq (cVI hN (h.2 _ (List.getElem_mem _))) (ok.ite (fun hc => ok.chk (by omega) (ok.some (.inl ⟨rfl, fun _ => hc⟩))) fun hc => ok.some (.inr ⟨rfl, fun e => hc (e hi)⟩))))
  · rw [Int.add_zero]
    show m_I_ValidFormat_b1 N f _ = _
    unfold m_I_ValidFormat_b1
    rw [decide_eq_false (by omega)]; rfl
  · rintro o (⟨rfl, hh⟩ | ⟨rfl, hh⟩)
    · exact ok.some ⟨fun _ => ⟨by omega, fun i hi => hh i hi hi⟩, fun _ => rfl⟩
    · exact ok.some ⟨fun e => (by cases e), fun e => (hh fun k hk h => e.2 k h).elim⟩
theorem vFS {f : List I_Column} (h : bS f) : m_S_validFormat N f = some (decide (vF f)) := by
  have hl := h.1
  refine bool_eq ?_
  unfold m_S_validFormat vF
  refine ok.call (all_ok (n := f.length) 0 (fun i => ∀ h : i < f.length, cV f[i]) (by omega) (fun i hi _ => ?_) ?_) ?_
  · rw [Int.add_zero]
    show ok (m_S_validFormat_b1 N f (i : Int)) _
    unfold m_S_validFormat_b1
    refine ok.ift (by omega) (ok.eq (ixI_nat hi) (ok.eq (cVS hN (h.2 _ (List.getElem_mem _))) (ok.ite (fun hc => ok.chk (by omega) (ok.some (.inl ⟨rfl, fun _ => hc⟩))) fun hc => ok.some (.inr ⟨rfl, fun e => hc (e hi)⟩))))
  · rw [Int.add_zero]
    show m_S_validFormat_b1 N f _ = _
    unfold m_S_validFormat_b1
    rw [decide_eq_false (by omega)]; rfl
  · rintro o (⟨rfl, hh⟩ | ⟨rfl, hh⟩)
    · refine ok.eq (inRange_eq N _ _ _) (ok.some ?_)
      rw [decide_eq_true_eq]
      exact ⟨fun e => ⟨by omega, fun i hi => hh i hi hi⟩, fun e => by omega⟩
    · exact ok.some ⟨fun e => (by cases e), fun e => (hh fun k hk h => e.2 k h).elim⟩
theorem possI {f : List I_Column} {c : I_Change} (h : c.column.default.text.size ≤ 5000000) : m_I_Change_possible N c f = some (decide (poss f c)) := by
  refine bool_eq ?_
  unfold m_I_Change_possible poss
  refine ok.ite (fun k1 => ok.ite (fun a1 => ok.ite (fun a2 => ok.ite (fun a3 => ok.eq (cVI hN h) (ok.some ?_)) fun a3 => ok.some ?_) fun a2 => ok.some ?_) fun a1 => ok.some ?_) fun k1 => ok.ite (fun k2 => ok.ite (fun a1 => ok.ite (fun a2 => ok.some ?_) fun a2 => ok.some ?_) fun a1 => ok.some ?_) fun k2 => ok.ite (fun k3 => ok.ite (fun a1 => ok.ite (fun a2 => ok.ix a1 a2 fun n hn he => ok.some ?_) fun a2 => ok.some ?_) fun a1 => ok.some ?_) fun k3 => ok.some ?_
  · rw [decide_eq_true_eq]; exact ⟨fun e => .inl ⟨k1, a1, a2, by omega, e⟩, fun e => by rcases e with e | e | e; exact e.2.2.2.2; omega; omega⟩
  · exact ⟨fun e => (by cases e), fun e => by omega⟩
  · exact ⟨fun e => (by cases e), fun e => by omega⟩
  · exact ⟨fun e => (by cases e), fun e => by omega⟩
  · rw [decide_eq_true_eq]; exact ⟨fun e => .inr (.inl ⟨k2, a1, a2, by omega⟩), fun e => by omega⟩
  · exact ⟨fun e => (by cases e), fun e => by omega⟩
  · exact ⟨fun e => (by cases e), fun e => by omega⟩
  · have he' : c.at_.toNat = n := by omega
    subst he'
    rw [decide_eq_true_eq]; exact ⟨fun e => .inr (.inr ⟨k3, a1, hn, e⟩), fun e => by rcases e with e | e | ⟨e1, e2, e3, e4⟩; omega; omega; exact e4⟩
  · exact ⟨fun e => (by cases e), fun e => by rcases e with e | e | ⟨e1, e2, e3, e4⟩ <;> omega⟩
  · exact ⟨fun e => (by cases e), fun e => by omega⟩
  · exact ⟨fun e => (by cases e), fun e => by omega⟩
theorem widI {v : I_Value} (h : vV v) : m_I_WidenValue N v = some (wid v) := by
  have hs := vV_size h
  have hn := vV_num h
  refine ok.val ?_
  unfold m_I_WidenValue wid
  refine ok.eq (vVI hN (by omega)) (ok.ift h (ok.ite (fun k => ok.eq (v := itoaB v.num) ?_ (ok.some ?_)) fun k => ok.some ?_))
  · unfold m_strconv_Itoa; rw [if_pos (by omega)]
  · rw [if_pos k]
  · rw [if_neg k]
theorem widS {v : I_Value} (h : -1000000000 ≤ v.num ∧ v.num ≤ 1000000000) : m_S_widen N v = some (wid v) := by
  refine ok.val ?_
  unfold m_S_widen wid
  refine ok.ite (fun k => ok.eq (decimal_ok (by omega) h) (ok.some ?_)) fun k => ok.some ?_
  · rw [if_pos k]
  · rw [if_neg k]
theorem chFI {f : List I_Column} {c : I_Change} (h : bS f) (hc : c.column.default.text.size ≤ 5000000) : m_I_ChangeFormat N f c = some (if vF f ∧ poss f c then (chF f c, true) else ([], false)) := by
  refine ok.val ?_
  unfold m_I_ChangeFormat
  refine ok.eq (vFI hN h) (ok.ite (fun hv => ok.eq (possI hN hc) (ok.ite (fun hp => ?_) fun hp => ok.some ?_)) fun hv => ok.some ?_)
  · rw [if_pos ⟨hv, hp⟩]
    have hl := hv.1
    refine ok.eq (show m_slices_Clone_I_Column N f = some f from appM0 (by omega)) ?_
    unfold chF
    rcases hp with ⟨k, h1, h2, h3, h4⟩ | ⟨k, h1, h2, h3⟩ | ⟨k, h1, h2, h3⟩
    · refine ok.ift k (ok.eq (insM_eq ⟨h1, h2⟩ (by omega)) (ok.some ?_))
      rw [if_pos k]
    · refine ok.iff (by omega) (ok.ift k (ok.chk (by omega) (ok.eq (delM_eq ⟨h1, h2⟩) (ok.some ?_))))
      rw [if_neg (by omega), if_pos k]
    · refine ok.iff (by omega) (ok.iff (by omega) (ok.eq (ixI_eq (n := c.at_.toNat) (by omega) h2) (ok.eq (widI hN (hv.2 _ _).2.1) (ok.some ?_))))
      rw [if_neg (by omega), if_neg (by omega), mod_eq h2]
  · rw [if_neg fun e => hp e.2]
  · rw [if_neg fun e => hv e.1]
theorem chFS {f : List I_Column} {c : I_Change} (hl : f.length ≤ 5000000) (h : bN f) (hc : c.column.default.text.size ≤ 5000000) : m_S_change N f c = some (if poss f c then (chF f c, true) else ([], false)) := by
  refine ok.val ?_
  unfold m_S_change
  have hcp : ∀ g : List I_Column, g.length ≤ 5000000 → m_S_copyColumns N g = some g := fun g hg => by
    unfold m_S_copyColumns
    rw [appM0 (by omega)]; rfl
  refine ok.ite (fun k => ok.eq (inRange_eq N _ _ _) (ok.ite (fun a => ok.eq (cVS hN hc) (ok.ite (fun b => ok.ite (fun l => ?_) fun l => ok.some ?_) fun b => ok.some ?_)) fun a => ok.some ?_)) fun k => ok.ite (fun k2 => ok.chk (by omega) (ok.eq (inRange_eq N _ _ _) (ok.ite (fun a => ok.ite (fun l => ?_) fun l => ok.some ?_) fun a => ok.some ?_))) fun k2 => ok.ite (fun k3 => ok.chk (by omega) (ok.eq (inRange_eq N _ _ _) (ok.ite (fun a => ok.ix (by omega) (by omega) fun n hn he => ok.ite (fun k1 => ok.eq (hcp _ hl) (ok.eq (ixI_eq he hn) (ok.eq (widS hN (h _ (List.getElem_mem _))) (ok.eq (ixI_eq he hn) (ok.some ?_))))) fun k1 => ok.some ?_) fun a => ok.some ?_))) fun k3 => ok.some ?_
  · have hp : poss f c := .inl ⟨k, a.1, a.2, by omega, b⟩
    rw [if_pos hp]
    refine ok.eq (subM_eq (by omega)) (ok.eq (hcp _ (by simp; omega)) (ok.app (by simp; omega) (ok.eq (subM_eq (by omega)) (ok.app (by simp; omega) (ok.some ?_)))))
    unfold chF
    rw [if_pos k, ← ins_eq (by omega)]
    simp only [Int.toNat_zero, List.drop_zero, Nat.sub_zero, List.append_assoc, List.singleton_append]
    congr 4
    exact List.take_of_length_le (by simp)
  · rw [if_neg]; rintro (e | e | ⟨e1, e2, e3, e4⟩) <;> omega
  · rw [if_neg]; rintro (e | e | ⟨e1, e2, e3, e4⟩); exact b e.2.2.2.2; omega; omega
  · rw [if_neg]; rintro (e | e | ⟨e1, e2, e3, e4⟩) <;> omega
  · have hp : poss f c := .inr (.inl ⟨k2, a.1, by omega, by omega⟩)
    rw [if_pos hp]
    refine ok.eq (subM_eq (by omega)) (ok.eq (hcp _ (by simp; omega)) (ok.chk (by omega) (ok.eq (subM_eq (by omega)) (ok.app (by simp; omega) (ok.some ?_)))))
    unfold chF
    rw [if_neg (by omega), if_pos k2, List.eraseIdx_eq_take_drop_succ]
    simp only [Int.toNat_zero, List.drop_zero, Nat.sub_zero]
    have e : (c.at_ + 1).toNat = c.at_.toNat + 1 := by omega
    rw [e]
    congr 2
    exact List.take_of_length_le (by simp)
  · rw [if_neg]; rintro (e | e | ⟨e1, e2, e3, e4⟩) <;> omega
  · rw [if_neg]; rintro (e | e | ⟨e1, e2, e3, e4⟩) <;> omega
  · obtain rfl : n = c.at_.toNat := by omega
    have hp : poss f c := .inr (.inr ⟨k3, by omega, hn, k1⟩)
    rw [if_pos hp]
    unfold chF
    rw [if_neg (by omega), if_neg (by omega), mod_eq hn]
  · obtain rfl : n = c.at_.toNat := by omega
    rw [if_neg]; rintro (e | e | ⟨e1, e2, e3, e4⟩); omega; omega; exact k1 e4
  · rw [if_neg]; rintro (e | e | ⟨e1, e2, e3, e4⟩) <;> omega
  · rw [if_neg]; rintro (e | e | ⟨e1, e2, e3, e4⟩) <;> omega
end
end V
end Go.Proofs.YtkjnnifnmoekjaaGreatDoor
