/- What the rows need, part 7. No condition. -/
import Derived.Test.YthhlkedkeefgnaaDoorRows
import Derived.ProofKit
import Derived.Deep.Slices
import Derived.LaidMore
import Derived.LaidSub
import Derived.LaidHandle
import Derived.OpenShut
import Derived.Lib.LaidTab
import Derived.Test.YthhlkedkeefgnaaDoorQXaF
namespace Go.Proofs.YthhlkedkeefgnaaDoor
namespace V
open Enc (enc)
set_option linter.unusedVariables false
set_option linter.unusedSimpArgs false
set_option maxHeartbeats 4000000
set_option maxRecDepth 100000
open Go.RowKit
attribute [local irreducible] thA inA FinA eL
def m_L_FnValidTable (N : Nat) (p_code : (List UInt8)) : Option (Bool) :=
  cond (decide ((1048576 : Int) < (p_code.length : Int)))
    (some true)
    ((m_S_DrawValidTable N p_code).bind fun r2 =>
    (m_I_ValidTable N r2).bind fun r4 =>
    (m_S_ValidTable N r2).bind fun r6 =>
    cond (r4 == r6)
      (cond r4
        (cond (decide ((r2.rows.length : Int) = (0 : Int)))
          ((m_S_ValidTable N r2).bind fun r11 =>
          some (r4 == r11))
          ((chk ((r2.rows.length : Int) - (1 : Int))).bind fun n13 =>
          (V.subM r2.rows (0 : Int) n13).bind fun xs15 =>
          (m_I_ValidTable N (I_Table.mk r2.first r2.changes xs15)).bind fun r17 =>
          some r17))
        ((m_S_ValidTable N r2).bind fun r19 =>
        some (r4 == r19)))
      ((m_S_ValidTable N r2).bind fun r21 =>
      some (r4 == r21)))
theorem w_L_FnValidTable (N : Nat) (p_code : (List UInt8)) (r : Bool) (hh0 : m_L_FnValidTable N p_code = some r) : FnX Tryd.prog 3 [] [sL p_code] (RE (bA r) []) := by
  unfold m_L_FnValidTable at hh0; refine FnX.mk Tryd.func3 rfl rfl ?_; intro s hs; refine PC.seq ?_; refine PC.region ?_; refine PL.op rfl (Rd.asnT rfl) ?_; refine PL.nil ?_; refine thA_n ?_; (iterate 2 refine PC.seq ?_); refine PC.region ?_; refine PL.op rfl (Rd.moveT rfl) ?_; refine PL.op rfl (Rd.lenT rfl) ?_; refine PL.op rfl (Rd.gtr rfl rfl) ?_; refine PL.nil ?_; refine thA_n ?_; rcases cond_some hh0 with ⟨h_1, hh0⟩ | ⟨h_1, hh0⟩
  · refine PC.cond_true rfl h_1 ?_; refine PC.seq ?_; refine PC.region ?_; refine PL.op rfl (Rd.asnT rfl) ?_; refine PL.nil ?_; refine thA_n ?_; refine PC.ret ?_; refine thA_r ?_; obtain rfl := some_in hh0; exact FinA.mk (r := bA true) (bl := []) [] (.inl rfl) rfl (rl := [.tmp 2]) (.tmp .nil) rfl rfl rfl (.t _) trivial ⟨rfl, rfl⟩
  refine PC.cond_false rfl h_1 ?_; refine PC.skip ?_; refine thA_n ?_; refine PC.seq ?_; obtain ⟨r2, h_3, hh0⟩ := bind_some hh0; refine PC.region ?_; refine PL.op rfl (Rd.moveT rfl) ?_; refine PL.callM false [] (w_S_DrawValidTable N p_code r2 h_3) rfl Tryd.call15 rfl ⟨.t _, trivial⟩ rfl trivial (fun h => by cases h) ?_; refine PL.nm (.agg [sL r2.first, sL r2.changes, .os 0 0 r2.rows.length]) [some ⟨.tr (eL r2.rows), 52, 2⟩] rfl rfl ?_; refine PL.frz hs 0 1 [(9, .agg [sL r2.first, sL r2.changes, sL r2.rows])] [none] rfl rfl ⟨(.aggL ⟨(.t _), (.t _), (.own rfl (by decide) rfl rfl), trivial⟩), trivial⟩ trivial ?_; refine PL.nm (.agg [sL r2.first, sL r2.changes, sL r2.rows]) [none] rfl rfl ?_; refine PL.ef rfl (Ef.alloc rfl rfl) ?_; refine PL.nm (.op 1 0) [none, some ⟨.mx [.t (.v (.slice none 0 0)), .t (.v (.slice none 0 0)), .t (.v (.slice none 0 0))], 27, 0⟩] rfl rfl ?_; refine PL.store rfl rfl rfl rfl rfl rfl rfl ?_; refine PL.nO [none, some ⟨.mx [sL r2.first, sL r2.changes, sL r2.rows], 27, 0⟩] rfl ?_; refine PL.nil ?_; refine thA_n ?_; refine PC.seq ?_; obtain ⟨r4, h_5, hh0⟩ := bind_some hh0; refine PC.region ?_; refine PL.op rfl (Rd.loadBox rfl rfl rfl) ?_; refine PL.callM false [] (w_I_ValidTable N r2 r4 h_5) rfl Tryd.call16 rfl ⟨.aggL ⟨.t _, .t _, .t _, trivial⟩, trivial⟩ rfl trivial (fun h => by cases h) ?_; refine PL.op rfl (Rd.asnT rfl) ?_; refine PL.nil ?_; refine thA_n ?_; (iterate 2 refine PC.seq ?_); obtain ⟨r6, h_7, hh0⟩ := bind_some hh0; rcases cond_some hh0 with ⟨h_8, hh0⟩ | ⟨h_8, hh0⟩; rotate_left
  · refine PC.region ?_; refine PL.op rfl (Rd.moveT rfl) ?_; refine PL.op rfl (Rd.loadBox rfl rfl rfl) ?_; refine PL.callM false [] (w_S_ValidTable N r2 r6 h_7) rfl Tryd.call17 rfl ⟨.aggL ⟨.t _, .t _, .t _, trivial⟩, trivial⟩ rfl trivial (fun h => by cases h) ?_; refine PL.op rfl (Rd.neqB rfl rfl) ?_; refine PL.op rfl (Rd.moveT rfl) ?_; (iterate 2 refine PL.guard_off rfl rfl (not_f h_8) ?_); refine PL.op rfl (Rd.pick_t rfl (not_f h_8)) ?_; refine PL.op rfl (Rd.moveT rfl) ?_; (iterate 4 refine PL.guard_off rfl rfl rfl ?_); refine PL.op rfl (Rd.pick_t rfl rfl) ?_; refine PL.nil ?_; refine thA_n ?_; refine PC.cond_true rfl rfl ?_; refine PC.seq ?_; obtain ⟨r21, h_22, hh0⟩ := bind_some hh0; refine PC.region ?_; refine PL.op rfl (Rd.moveT rfl) ?_; refine PL.op rfl (Rd.loadBox rfl rfl rfl) ?_; refine PL.callM false [] (w_S_ValidTable N r2 r21 h_22) rfl Tryd.call17 rfl ⟨.aggL ⟨.t _, .t _, .t _, trivial⟩, trivial⟩ rfl trivial (fun h => by cases h) ?_; refine PL.op rfl (Rd.eqlB rfl rfl) ?_; refine PL.op rfl (Rd.asnT rfl) ?_; refine PL.nil ?_; refine thA_n ?_; refine PC.ret ?_; refine thA_r ?_; obtain rfl := some_in hh0; exact FinA.mk (r := bA (r4 == r21)) (bl := []) [] (.inl rfl) rfl (rl := [.tmp 2]) (.tmp .nil) rfl rfl rfl (.t _) trivial ⟨rfl, rfl⟩
  rcases cond_some hh0 with ⟨h_9, hh0⟩ | ⟨h_9, hh0⟩; rotate_left
  · refine PC.region ?_; refine PL.op rfl (Rd.moveT rfl) ?_; refine PL.op rfl (Rd.loadBox rfl rfl rfl) ?_; refine PL.callM false [] (w_S_ValidTable N r2 r6 h_7) rfl Tryd.call17 rfl ⟨.aggL ⟨.t _, .t _, .t _, trivial⟩, trivial⟩ rfl trivial (fun h => by cases h) ?_; refine PL.op rfl (Rd.neqB rfl rfl) ?_; refine PL.op rfl (Rd.moveT rfl) ?_; refine PL.guard_on rfl (not_t h_8) ?_; refine PL.op rfl (Rd.moveT rfl) ?_; refine PL.guard_on rfl (not_t h_8) ?_; refine PL.op rfl (Rd.unnot rfl) ?_; refine PL.op rfl (Rd.pick_f rfl (not_t h_8)) ?_; refine PL.op rfl (Rd.moveT rfl) ?_; (iterate 4 refine PL.guard_off rfl rfl (not_f h_9) ?_); refine PL.op rfl (Rd.pick_t rfl (not_f h_9)) ?_; refine PL.nil ?_; refine thA_n ?_; refine PC.cond_true rfl rfl ?_; refine PC.seq ?_; obtain ⟨r19, h_20, hh0⟩ := bind_some hh0; refine PC.region ?_; refine PL.op rfl (Rd.moveT rfl) ?_; refine PL.op rfl (Rd.loadBox rfl rfl rfl) ?_; refine PL.callM false [] (w_S_ValidTable N r2 r19 h_20) rfl Tryd.call17 rfl ⟨.aggL ⟨.t _, .t _, .t _, trivial⟩, trivial⟩ rfl trivial (fun h => by cases h) ?_; refine PL.op rfl (Rd.eqlB rfl rfl) ?_; refine PL.op rfl (Rd.asnT rfl) ?_; refine PL.nil ?_; refine thA_n ?_; refine PC.ret ?_; refine thA_r ?_; obtain rfl := some_in hh0; exact FinA.mk (r := bA (r4 == r19)) (bl := []) [] (.inl rfl) rfl (rl := [.tmp 2]) (.tmp .nil) rfl rfl rfl (.t _) trivial ⟨rfl, rfl⟩
  refine PC.region ?_; refine PL.op rfl (Rd.moveT rfl) ?_; refine PL.op rfl (Rd.loadBox rfl rfl rfl) ?_; refine PL.callM false [] (w_S_ValidTable N r2 r6 h_7) rfl Tryd.call17 rfl ⟨.aggL ⟨.t _, .t _, .t _, trivial⟩, trivial⟩ rfl trivial (fun h => by cases h) ?_; refine PL.op rfl (Rd.neqB rfl rfl) ?_; refine PL.op rfl (Rd.moveT rfl) ?_; refine PL.guard_on rfl (not_t h_8) ?_; refine PL.op rfl (Rd.moveT rfl) ?_; refine PL.guard_on rfl (not_t h_8) ?_; refine PL.op rfl (Rd.unnot rfl) ?_; refine PL.op rfl (Rd.pick_f rfl (not_t h_8)) ?_; refine PL.op rfl (Rd.moveT rfl) ?_; refine PL.guard_on rfl (not_t h_9) ?_; refine PL.op rfl (Rd.fieldO rfl rfl) ?_; refine PL.guard_on rfl (not_t h_9) ?_; refine PL.op rfl (Rd.loadO rfl rfl rfl) ?_; refine PL.guard_on rfl (not_t h_9) ?_; refine PL.op rfl (Rd.lenT rfl) ?_; refine PL.guard_on rfl (not_t h_9) ?_; refine PL.op rfl (Rd.eql rfl rfl) ?_; refine PL.op rfl (Rd.pick_f rfl (not_t h_9)) ?_; refine PL.nil ?_; refine thA_n ?_; rcases cond_some hh0 with ⟨h_10, hh0⟩ | ⟨h_10, hh0⟩
  · refine PC.cond_true rfl h_10 ?_; refine PC.seq ?_; obtain ⟨r11, h_12, hh0⟩ := bind_some hh0; refine PC.region ?_; refine PL.op rfl (Rd.moveT rfl) ?_; refine PL.op rfl (Rd.loadBox rfl rfl rfl) ?_; refine PL.callM false [] (w_S_ValidTable N r2 r11 h_12) rfl Tryd.call17 rfl ⟨.aggL ⟨.t _, .t _, .t _, trivial⟩, trivial⟩ rfl trivial (fun h => by cases h) ?_; refine PL.op rfl (Rd.eqlB rfl rfl) ?_; refine PL.op rfl (Rd.asnT rfl) ?_; refine PL.nil ?_; refine thA_n ?_; refine PC.ret ?_; refine thA_r ?_; obtain rfl := some_in hh0; exact FinA.mk (r := bA (r4 == r11)) (bl := []) [] (.inl rfl) rfl (rl := [.tmp 2]) (.tmp .nil) rfl rfl rfl (.t _) trivial ⟨rfl, rfl⟩
  refine PC.cond_false rfl h_10 ?_; refine PC.skip ?_; refine thA_n ?_; refine PC.seq ?_; obtain ⟨n13, h_14, hh0⟩ := bind_some hh0; obtain ⟨xs15, h_16, hh0⟩ := bind_some hh0; obtain ⟨r17, h_18, hh0⟩ := bind_some hh0; refine PC.any (id := 7) 14 (.seg [0, 1, 2, 3, 4, 5, 6, 7, 8, 9, 10, 11, 12, 13] .done) [] rfl (by kernel_rfl) rfl ?_; refine PT.seg ?_; refine PR.op rfl (Rd.fieldO rfl rfl) ?_; refine PR.op rfl (Rd.loadO rfl rfl rfl) ?_; refine PR.op rfl (Rd.fieldO rfl rfl) ?_; refine PR.op rfl (Rd.loadO rfl rfl rfl) ?_; refine PR.op rfl (Rd.fieldO rfl rfl) ?_; refine PR.op rfl (Rd.loadO rfl rfl rfl) ?_; refine PR.op rfl (Rd.fieldO rfl rfl) ?_; refine PR.op rfl (Rd.loadO rfl rfl rfl) ?_; refine PR.op rfl (Rd.lenT rfl) ?_; refine PR.op rfl (Rd.subM rfl rfl h_14) ?_; refine PR.op rfl (Rd.subTMH rfl rfl h_16) ?_; refine PR.op rfl (Rd.build rfl rfl rfl rfl) ?_; refine PR.callM false [] (w_I_ValidTable N (I_Table.mk r2.first r2.changes xs15) r17 h_18) rfl Tryd.call16 rfl ⟨.aggL ⟨.t _, .t _, .t _, trivial⟩, trivial⟩ rfl trivial (fun h => by cases h) rfl ?_; refine PR.op rfl (Rd.asnT rfl) ?_; refine PR.nil ?_; refine PT.done ?_; refine PL.nil ?_; refine thA_n ?_; refine PC.ret ?_; obtain rfl := some_in hh0; exact FinA.mk (r := bA r17) (bl := []) [] (.inl rfl) rfl (rl := [.tmp 2]) (.tmp .nil) rfl rfl rfl (.t _) trivial ⟨rfl, rfl⟩
def m_L_FnOldRows (N : Nat) (p_code : (List UInt8)) : Option (Bool) :=
  cond (decide ((1048576 : Int) < (p_code.length : Int)))
    (some true)
    ((m_S_DrawOldRows N p_code).bind fun r2 =>
    (m_I_OldRows N r2).bind fun r4 =>
    (m_S_OldRows N r2).bind fun r6 =>
    cond (decide (r4 = r6))
      (cond (decide (r4 < (0 : Int)))
        ((m_S_OldRows N r2).bind fun r10 =>
        some (decide (r4 = r10)))
        ((m_I_RewriteRows N r2 r4).bind fun r12 =>
        (m_I_OldRows N r12).bind fun r14 =>
        cond (decide (r14 = (0 : Int)))
          (cond (decide (r4 ≤ (r2.rows.length : Int)))
            (cond (decide ((0 : Int) < (r2.changes.length : Int)))
              (some true)
              (some (decide (r4 = (0 : Int)))))
            (some false))
          (some false)))
      ((m_S_OldRows N r2).bind fun r19 =>
      some (decide (r4 = r19))))
theorem w_L_FnOldRows (N : Nat) (p_code : (List UInt8)) (r : Bool) (hh0 : m_L_FnOldRows N p_code = some r) : FnX Tryd.prog 4 [] [sL p_code] (RE (bA r) []) := by
  unfold m_L_FnOldRows at hh0; refine FnX.mk Tryd.func4 rfl rfl ?_; intro s hs; refine PC.seq ?_; refine PC.region ?_; refine PL.op rfl (Rd.asnT rfl) ?_; refine PL.nil ?_; refine thA_n ?_; (iterate 2 refine PC.seq ?_); refine PC.region ?_; refine PL.op rfl (Rd.moveT rfl) ?_; refine PL.op rfl (Rd.lenT rfl) ?_; refine PL.op rfl (Rd.gtr rfl rfl) ?_; refine PL.nil ?_; refine thA_n ?_; rcases cond_some hh0 with ⟨h_1, hh0⟩ | ⟨h_1, hh0⟩
  · refine PC.cond_true rfl h_1 ?_; refine PC.seq ?_; refine PC.region ?_; refine PL.op rfl (Rd.asnT rfl) ?_; refine PL.nil ?_; refine thA_n ?_; refine PC.ret ?_; refine thA_r ?_; obtain rfl := some_in hh0; exact FinA.mk (r := bA true) (bl := []) [] (.inl rfl) rfl (rl := [.tmp 2]) (.tmp .nil) rfl rfl rfl (.t _) trivial ⟨rfl, rfl⟩
  refine PC.cond_false rfl h_1 ?_; refine PC.skip ?_; refine thA_n ?_; refine PC.seq ?_; obtain ⟨r2, h_3, hh0⟩ := bind_some hh0; refine PC.region ?_; refine PL.op rfl (Rd.moveT rfl) ?_; refine PL.callM false [] (w_S_DrawOldRows N p_code r2 h_3) rfl Tryd.call18 rfl ⟨.t _, trivial⟩ rfl trivial (fun h => by cases h) ?_; refine PL.nm (.agg [sL r2.first, sL r2.changes, .os 0 0 r2.rows.length]) [some ⟨.tr (eL r2.rows), 52, 2⟩] rfl rfl ?_; refine PL.frz hs 0 1 [(9, .agg [sL r2.first, sL r2.changes, sL r2.rows])] [none] rfl rfl ⟨(.aggL ⟨(.t _), (.t _), (.own rfl (by decide) rfl rfl), trivial⟩), trivial⟩ trivial ?_; refine PL.nm (.agg [sL r2.first, sL r2.changes, sL r2.rows]) [none] rfl rfl ?_; refine PL.ef rfl (Ef.alloc rfl rfl) ?_; refine PL.nm (.op 1 0) [none, some ⟨.mx [.t (.v (.slice none 0 0)), .t (.v (.slice none 0 0)), .t (.v (.slice none 0 0))], 27, 0⟩] rfl rfl ?_; refine PL.store rfl rfl rfl rfl rfl rfl rfl ?_; refine PL.nO [none, some ⟨.mx [sL r2.first, sL r2.changes, sL r2.rows], 27, 0⟩] rfl ?_; refine PL.nil ?_; refine thA_n ?_; refine PC.seq ?_; obtain ⟨r4, h_5, hh0⟩ := bind_some hh0; refine PC.region ?_; refine PL.op rfl (Rd.loadBox rfl rfl rfl) ?_; refine PL.callM false [] (w_I_OldRows N r2 r4 h_5) rfl Tryd.call19 rfl ⟨.aggL ⟨.t _, .t _, .t _, trivial⟩, trivial⟩ rfl trivial (fun h => by cases h) ?_; refine PL.op rfl (Rd.asnT rfl) ?_; refine PL.nil ?_; refine thA_n ?_; (iterate 2 refine PC.seq ?_); obtain ⟨r6, h_7, hh0⟩ := bind_some hh0; rcases cond_some hh0 with ⟨h_8, hh0⟩ | ⟨h_8, hh0⟩; rotate_left
  · refine PC.region ?_; refine PL.op rfl (Rd.moveT rfl) ?_; refine PL.op rfl (Rd.loadBox rfl rfl rfl) ?_; refine PL.callM false [] (w_S_OldRows N r2 r6 h_7) rfl Tryd.call20 rfl ⟨.aggL ⟨.t _, .t _, .t _, trivial⟩, trivial⟩ rfl trivial (fun h => by cases h) ?_; refine PL.op rfl (Rd.neq rfl rfl) ?_; refine PL.op rfl (Rd.moveT rfl) ?_; (iterate 2 refine PL.guard_off rfl rfl (not_f h_8) ?_); refine PL.op rfl (Rd.pick_t rfl (not_f h_8)) ?_; refine PL.nil ?_; refine thA_n ?_; refine PC.cond_true rfl rfl ?_; refine PC.seq ?_; obtain ⟨r19, h_20, hh0⟩ := bind_some hh0; refine PC.region ?_; refine PL.op rfl (Rd.moveT rfl) ?_; refine PL.op rfl (Rd.loadBox rfl rfl rfl) ?_; refine PL.callM false [] (w_S_OldRows N r2 r19 h_20) rfl Tryd.call20 rfl ⟨.aggL ⟨.t _, .t _, .t _, trivial⟩, trivial⟩ rfl trivial (fun h => by cases h) ?_; refine PL.op rfl (Rd.eql rfl rfl) ?_; refine PL.op rfl (Rd.asnT rfl) ?_; refine PL.nil ?_; refine thA_n ?_; refine PC.ret ?_; refine thA_r ?_; obtain rfl := some_in hh0; exact FinA.mk (r := bA (decide (r4 = r19))) (bl := []) [] (.inl rfl) rfl (rl := [.tmp 2]) (.tmp .nil) rfl rfl rfl (.t _) trivial ⟨rfl, rfl⟩
  refine PC.region ?_; refine PL.op rfl (Rd.moveT rfl) ?_; refine PL.op rfl (Rd.loadBox rfl rfl rfl) ?_; refine PL.callM false [] (w_S_OldRows N r2 r6 h_7) rfl Tryd.call20 rfl ⟨.aggL ⟨.t _, .t _, .t _, trivial⟩, trivial⟩ rfl trivial (fun h => by cases h) ?_; refine PL.op rfl (Rd.neq rfl rfl) ?_; refine PL.op rfl (Rd.moveT rfl) ?_; refine PL.guard_on rfl (not_t h_8) ?_; refine PL.op rfl (Rd.moveT rfl) ?_; refine PL.guard_on rfl (not_t h_8) ?_; refine PL.op rfl (Rd.lss rfl rfl) ?_; refine PL.op rfl (Rd.pick_f rfl (not_t h_8)) ?_; refine PL.nil ?_; refine thA_n ?_; rcases cond_some hh0 with ⟨h_9, hh0⟩ | ⟨h_9, hh0⟩
  · refine PC.cond_true rfl h_9 ?_; refine PC.seq ?_; obtain ⟨r10, h_11, hh0⟩ := bind_some hh0; refine PC.region ?_; refine PL.op rfl (Rd.moveT rfl) ?_; refine PL.op rfl (Rd.loadBox rfl rfl rfl) ?_; refine PL.callM false [] (w_S_OldRows N r2 r10 h_11) rfl Tryd.call20 rfl ⟨.aggL ⟨.t _, .t _, .t _, trivial⟩, trivial⟩ rfl trivial (fun h => by cases h) ?_; refine PL.op rfl (Rd.eql rfl rfl) ?_; refine PL.op rfl (Rd.asnT rfl) ?_; refine PL.nil ?_; refine thA_n ?_; refine PC.ret ?_; refine thA_r ?_; obtain rfl := some_in hh0; exact FinA.mk (r := bA (decide (r4 = r10))) (bl := []) [] (.inl rfl) rfl (rl := [.tmp 2]) (.tmp .nil) rfl rfl rfl (.t _) trivial ⟨rfl, rfl⟩
  refine PC.cond_false rfl h_9 ?_; refine PC.skip ?_; refine thA_n ?_; refine PC.seq ?_; obtain ⟨r12, h_13, hh0⟩ := bind_some hh0; obtain ⟨r14, h_15, hh0⟩ := bind_some hh0; rcases cond_some hh0 with ⟨h_16, hh0⟩ | ⟨h_16, hh0⟩; rotate_left
  · refine PC.region ?_; refine PL.op rfl (Rd.loadBox rfl rfl rfl) ?_; refine PL.op rfl (Rd.moveT rfl) ?_; refine PL.callM false [] (w_I_RewriteRows N r2 r4 r12 h_13) rfl Tryd.call21 rfl ⟨.aggL ⟨.t _, .t _, .t _, trivial⟩, .t _, trivial⟩ rfl trivial (fun h => by cases h) ?_; refine PL.nm (.agg [.os 2 0 r12.first.length, .os 3 0 r12.changes.length, .os 4 0 r12.rows.length]) [none, some ⟨.mx [sL r2.first, sL r2.changes, sL r2.rows], 27, 0⟩, some ⟨.tr (eL r12.first), 64, 4⟩, some ⟨.tr (eL r12.changes), 66, 6⟩, some ⟨.tr (eL r12.rows), 52, 2⟩] rfl rfl ?_; refine PL.frz hs 2 5 [(26, .agg [sL r12.first, .os 3 0 r12.changes.length, .os 4 0 r12.rows.length])] [none, some ⟨.mx [sL r2.first, sL r2.changes, sL r2.rows], 27, 0⟩, none, some ⟨.tr (eL r12.changes), 66, 6⟩, some ⟨.tr (eL r12.rows), 52, 2⟩] rfl rfl ⟨(.aggL ⟨(.own rfl (by decide) rfl rfl), (.os rfl), (.os rfl), trivial⟩), trivial⟩ ⟨⟨rfl, .inl rfl⟩, ⟨rfl, .inl rfl⟩, ⟨rfl, .inl rfl⟩, trivial⟩ ?_; refine PL.frz hs 3 5 [(26, .agg [sL r12.first, sL r12.changes, .os 4 0 r12.rows.length])] [none, some ⟨.mx [sL r2.first, sL r2.changes, sL r2.rows], 27, 0⟩, none, none, some ⟨.tr (eL r12.rows), 52, 2⟩] rfl rfl ⟨(.aggL ⟨(.t _), (.own rfl (by decide) rfl rfl), (.os rfl), trivial⟩), trivial⟩ ⟨⟨rfl, .inl rfl⟩, ⟨rfl, .inl rfl⟩, trivial⟩ ?_; refine PL.frz hs 4 5 [(26, .agg [sL r12.first, sL r12.changes, sL r12.rows])] [none, some ⟨.mx [sL r2.first, sL r2.changes, sL r2.rows], 27, 0⟩, none, none, none] rfl rfl ⟨(.aggL ⟨(.t _), (.t _), (.own rfl (by decide) rfl rfl), trivial⟩), trivial⟩ ⟨⟨rfl, .inl rfl⟩, trivial⟩ ?_; refine PL.nm (.agg [sL r12.first, sL r12.changes, sL r12.rows]) [none, some ⟨.mx [sL r2.first, sL r2.changes, sL r2.rows], 27, 0⟩, none, none, none] rfl rfl ?_; refine PL.callM false [] (w_I_OldRows N r12 r14 h_15) rfl Tryd.call19 rfl ⟨.aggL ⟨.t _, .t _, .t _, trivial⟩, trivial⟩ rfl trivial (fun h => by cases h) ?_; refine PL.op rfl (Rd.eql rfl rfl) ?_; refine PL.op rfl (Rd.moveT rfl) ?_; (iterate 5 refine PL.guard_off rfl rfl h_16 ?_); refine PL.op rfl (Rd.pick_f rfl h_16) ?_; refine PL.op rfl (Rd.moveT rfl) ?_; (iterate 5 refine PL.guard_off rfl rfl rfl ?_); (iterate 2 refine PL.guard_un rfl rfl ?_); refine PL.guard_off rfl rfl rfl ?_; refine PL.op rfl (Rd.pick_f rfl rfl) ?_; refine PL.op rfl (Rd.asnT rfl) ?_; refine PL.nil ?_; refine thA_n ?_; refine PC.ret ?_; obtain rfl := some_in hh0; exact FinA.mk (r := bA false) (bl := []) [] (.inl rfl) rfl (rl := [.tmp 2]) (.tmp .nil) rfl rfl rfl (.t _) trivial ⟨rfl, rfl⟩
  rcases cond_some hh0 with ⟨h_17, hh0⟩ | ⟨h_17, hh0⟩; rotate_left
  · refine PC.region ?_; refine PL.op rfl (Rd.loadBox rfl rfl rfl) ?_; refine PL.op rfl (Rd.moveT rfl) ?_; refine PL.callM false [] (w_I_RewriteRows N r2 r4 r12 h_13) rfl Tryd.call21 rfl ⟨.aggL ⟨.t _, .t _, .t _, trivial⟩, .t _, trivial⟩ rfl trivial (fun h => by cases h) ?_; refine PL.nm (.agg [.os 2 0 r12.first.length, .os 3 0 r12.changes.length, .os 4 0 r12.rows.length]) [none, some ⟨.mx [sL r2.first, sL r2.changes, sL r2.rows], 27, 0⟩, some ⟨.tr (eL r12.first), 64, 4⟩, some ⟨.tr (eL r12.changes), 66, 6⟩, some ⟨.tr (eL r12.rows), 52, 2⟩] rfl rfl ?_; refine PL.frz hs 2 5 [(26, .agg [sL r12.first, .os 3 0 r12.changes.length, .os 4 0 r12.rows.length])] [none, some ⟨.mx [sL r2.first, sL r2.changes, sL r2.rows], 27, 0⟩, none, some ⟨.tr (eL r12.changes), 66, 6⟩, some ⟨.tr (eL r12.rows), 52, 2⟩] rfl rfl ⟨(.aggL ⟨(.own rfl (by decide) rfl rfl), (.os rfl), (.os rfl), trivial⟩), trivial⟩ ⟨⟨rfl, .inl rfl⟩, ⟨rfl, .inl rfl⟩, ⟨rfl, .inl rfl⟩, trivial⟩ ?_; refine PL.frz hs 3 5 [(26, .agg [sL r12.first, sL r12.changes, .os 4 0 r12.rows.length])] [none, some ⟨.mx [sL r2.first, sL r2.changes, sL r2.rows], 27, 0⟩, none, none, some ⟨.tr (eL r12.rows), 52, 2⟩] rfl rfl ⟨(.aggL ⟨(.t _), (.own rfl (by decide) rfl rfl), (.os rfl), trivial⟩), trivial⟩ ⟨⟨rfl, .inl rfl⟩, ⟨rfl, .inl rfl⟩, trivial⟩ ?_; refine PL.frz hs 4 5 [(26, .agg [sL r12.first, sL r12.changes, sL r12.rows])] [none, some ⟨.mx [sL r2.first, sL r2.changes, sL r2.rows], 27, 0⟩, none, none, none] rfl rfl ⟨(.aggL ⟨(.t _), (.t _), (.own rfl (by decide) rfl rfl), trivial⟩), trivial⟩ ⟨⟨rfl, .inl rfl⟩, trivial⟩ ?_; refine PL.nm (.agg [sL r12.first, sL r12.changes, sL r12.rows]) [none, some ⟨.mx [sL r2.first, sL r2.changes, sL r2.rows], 27, 0⟩, none, none, none] rfl rfl ?_; refine PL.callM false [] (w_I_OldRows N r12 r14 h_15) rfl Tryd.call19 rfl ⟨.aggL ⟨.t _, .t _, .t _, trivial⟩, trivial⟩ rfl trivial (fun h => by cases h) ?_; refine PL.op rfl (Rd.eql rfl rfl) ?_; refine PL.op rfl (Rd.moveT rfl) ?_; refine PL.guard_on rfl h_16 ?_; refine PL.op rfl (Rd.moveT rfl) ?_; refine PL.guard_on rfl h_16 ?_; refine PL.op rfl (Rd.fieldO rfl rfl) ?_; refine PL.guard_on rfl h_16 ?_; refine PL.op rfl (Rd.loadO rfl rfl rfl) ?_; refine PL.guard_on rfl h_16 ?_; refine PL.op rfl (Rd.lenT rfl) ?_; refine PL.guard_on rfl h_16 ?_; refine PL.op rfl (Rd.leq rfl rfl) ?_; refine PL.op rfl (Rd.pick_t rfl h_16) ?_; refine PL.op rfl (Rd.moveT rfl) ?_; (iterate 5 refine PL.guard_off rfl rfl h_17 ?_); (iterate 2 refine PL.guard_un rfl rfl ?_); refine PL.guard_off rfl rfl h_17 ?_; refine PL.op rfl (Rd.pick_f rfl h_17) ?_; refine PL.op rfl (Rd.asnT rfl) ?_; refine PL.nil ?_; refine thA_n ?_; refine PC.ret ?_; obtain rfl := some_in hh0; exact FinA.mk (r := bA false) (bl := []) [] (.inl rfl) rfl (rl := [.tmp 2]) (.tmp .nil) rfl rfl rfl (.t _) trivial ⟨rfl, rfl⟩
  rcases cond_some hh0 with ⟨h_18, hh0⟩ | ⟨h_18, hh0⟩
  · refine PC.region ?_; refine PL.op rfl (Rd.loadBox rfl rfl rfl) ?_; refine PL.op rfl (Rd.moveT rfl) ?_; refine PL.callM false [] (w_I_RewriteRows N r2 r4 r12 h_13) rfl Tryd.call21 rfl ⟨.aggL ⟨.t _, .t _, .t _, trivial⟩, .t _, trivial⟩ rfl trivial (fun h => by cases h) ?_; refine PL.nm (.agg [.os 2 0 r12.first.length, .os 3 0 r12.changes.length, .os 4 0 r12.rows.length]) [none, some ⟨.mx [sL r2.first, sL r2.changes, sL r2.rows], 27, 0⟩, some ⟨.tr (eL r12.first), 64, 4⟩, some ⟨.tr (eL r12.changes), 66, 6⟩, some ⟨.tr (eL r12.rows), 52, 2⟩] rfl rfl ?_; refine PL.frz hs 2 5 [(26, .agg [sL r12.first, .os 3 0 r12.changes.length, .os 4 0 r12.rows.length])] [none, some ⟨.mx [sL r2.first, sL r2.changes, sL r2.rows], 27, 0⟩, none, some ⟨.tr (eL r12.changes), 66, 6⟩, some ⟨.tr (eL r12.rows), 52, 2⟩] rfl rfl ⟨(.aggL ⟨(.own rfl (by decide) rfl rfl), (.os rfl), (.os rfl), trivial⟩), trivial⟩ ⟨⟨rfl, .inl rfl⟩, ⟨rfl, .inl rfl⟩, ⟨rfl, .inl rfl⟩, trivial⟩ ?_; refine PL.frz hs 3 5 [(26, .agg [sL r12.first, sL r12.changes, .os 4 0 r12.rows.length])] [none, some ⟨.mx [sL r2.first, sL r2.changes, sL r2.rows], 27, 0⟩, none, none, some ⟨.tr (eL r12.rows), 52, 2⟩] rfl rfl ⟨(.aggL ⟨(.t _), (.own rfl (by decide) rfl rfl), (.os rfl), trivial⟩), trivial⟩ ⟨⟨rfl, .inl rfl⟩, ⟨rfl, .inl rfl⟩, trivial⟩ ?_; refine PL.frz hs 4 5 [(26, .agg [sL r12.first, sL r12.changes, sL r12.rows])] [none, some ⟨.mx [sL r2.first, sL r2.changes, sL r2.rows], 27, 0⟩, none, none, none] rfl rfl ⟨(.aggL ⟨(.t _), (.t _), (.own rfl (by decide) rfl rfl), trivial⟩), trivial⟩ ⟨⟨rfl, .inl rfl⟩, trivial⟩ ?_; refine PL.nm (.agg [sL r12.first, sL r12.changes, sL r12.rows]) [none, some ⟨.mx [sL r2.first, sL r2.changes, sL r2.rows], 27, 0⟩, none, none, none] rfl rfl ?_; refine PL.callM false [] (w_I_OldRows N r12 r14 h_15) rfl Tryd.call19 rfl ⟨.aggL ⟨.t _, .t _, .t _, trivial⟩, trivial⟩ rfl trivial (fun h => by cases h) ?_; refine PL.op rfl (Rd.eql rfl rfl) ?_; refine PL.op rfl (Rd.moveT rfl) ?_; refine PL.guard_on rfl h_16 ?_; refine PL.op rfl (Rd.moveT rfl) ?_; refine PL.guard_on rfl h_16 ?_; refine PL.op rfl (Rd.fieldO rfl rfl) ?_; refine PL.guard_on rfl h_16 ?_; refine PL.op rfl (Rd.loadO rfl rfl rfl) ?_; refine PL.guard_on rfl h_16 ?_; refine PL.op rfl (Rd.lenT rfl) ?_; refine PL.guard_on rfl h_16 ?_; refine PL.op rfl (Rd.leq rfl rfl) ?_; refine PL.op rfl (Rd.pick_t rfl h_16) ?_; refine PL.op rfl (Rd.moveT rfl) ?_; refine PL.guard_on rfl h_17 ?_; refine PL.op rfl (Rd.fieldO rfl rfl) ?_; refine PL.guard_on rfl h_17 ?_; refine PL.op rfl (Rd.loadO rfl rfl rfl) ?_; refine PL.guard_on rfl h_17 ?_; refine PL.op rfl (Rd.lenT rfl) ?_; refine PL.guard_on rfl h_17 ?_; refine PL.op rfl (Rd.gtr rfl rfl) ?_; refine PL.guard_on rfl h_17 ?_; refine PL.op rfl (Rd.moveT rfl) ?_; (iterate 2 refine PL.guard_off rfl rfl h_18 ?_); refine PL.guard_on rfl h_17 ?_; refine PL.op rfl (Rd.pick_t rfl h_18) ?_; refine PL.op rfl (Rd.pick_t rfl h_17) ?_; refine PL.op rfl (Rd.asnT rfl) ?_; refine PL.nil ?_; refine thA_n ?_; refine PC.ret ?_; obtain rfl := some_in hh0; exact FinA.mk (r := bA true) (bl := []) [] (.inl rfl) rfl (rl := [.tmp 2]) (.tmp .nil) rfl rfl rfl (.t _) trivial ⟨rfl, rfl⟩
  refine PC.region ?_; refine PL.op rfl (Rd.loadBox rfl rfl rfl) ?_; refine PL.op rfl (Rd.moveT rfl) ?_; refine PL.callM false [] (w_I_RewriteRows N r2 r4 r12 h_13) rfl Tryd.call21 rfl ⟨.aggL ⟨.t _, .t _, .t _, trivial⟩, .t _, trivial⟩ rfl trivial (fun h => by cases h) ?_; refine PL.nm (.agg [.os 2 0 r12.first.length, .os 3 0 r12.changes.length, .os 4 0 r12.rows.length]) [none, some ⟨.mx [sL r2.first, sL r2.changes, sL r2.rows], 27, 0⟩, some ⟨.tr (eL r12.first), 64, 4⟩, some ⟨.tr (eL r12.changes), 66, 6⟩, some ⟨.tr (eL r12.rows), 52, 2⟩] rfl rfl ?_; refine PL.frz hs 2 5 [(26, .agg [sL r12.first, .os 3 0 r12.changes.length, .os 4 0 r12.rows.length])] [none, some ⟨.mx [sL r2.first, sL r2.changes, sL r2.rows], 27, 0⟩, none, some ⟨.tr (eL r12.changes), 66, 6⟩, some ⟨.tr (eL r12.rows), 52, 2⟩] rfl rfl ⟨(.aggL ⟨(.own rfl (by decide) rfl rfl), (.os rfl), (.os rfl), trivial⟩), trivial⟩ ⟨⟨rfl, .inl rfl⟩, ⟨rfl, .inl rfl⟩, ⟨rfl, .inl rfl⟩, trivial⟩ ?_; refine PL.frz hs 3 5 [(26, .agg [sL r12.first, sL r12.changes, .os 4 0 r12.rows.length])] [none, some ⟨.mx [sL r2.first, sL r2.changes, sL r2.rows], 27, 0⟩, none, none, some ⟨.tr (eL r12.rows), 52, 2⟩] rfl rfl ⟨(.aggL ⟨(.t _), (.own rfl (by decide) rfl rfl), (.os rfl), trivial⟩), trivial⟩ ⟨⟨rfl, .inl rfl⟩, ⟨rfl, .inl rfl⟩, trivial⟩ ?_; refine PL.frz hs 4 5 [(26, .agg [sL r12.first, sL r12.changes, sL r12.rows])] [none, some ⟨.mx [sL r2.first, sL r2.changes, sL r2.rows], 27, 0⟩, none, none, none] rfl rfl ⟨(.aggL ⟨(.t _), (.t _), (.own rfl (by decide) rfl rfl), trivial⟩), trivial⟩ ⟨⟨rfl, .inl rfl⟩, trivial⟩ ?_; refine PL.nm (.agg [sL r12.first, sL r12.changes, sL r12.rows]) [none, some ⟨.mx [sL r2.first, sL r2.changes, sL r2.rows], 27, 0⟩, none, none, none] rfl rfl ?_; refine PL.callM false [] (w_I_OldRows N r12 r14 h_15) rfl Tryd.call19 rfl ⟨.aggL ⟨.t _, .t _, .t _, trivial⟩, trivial⟩ rfl trivial (fun h => by cases h) ?_; refine PL.op rfl (Rd.eql rfl rfl) ?_; refine PL.op rfl (Rd.moveT rfl) ?_; refine PL.guard_on rfl h_16 ?_; refine PL.op rfl (Rd.moveT rfl) ?_; refine PL.guard_on rfl h_16 ?_; refine PL.op rfl (Rd.fieldO rfl rfl) ?_; refine PL.guard_on rfl h_16 ?_; refine PL.op rfl (Rd.loadO rfl rfl rfl) ?_; refine PL.guard_on rfl h_16 ?_; refine PL.op rfl (Rd.lenT rfl) ?_; refine PL.guard_on rfl h_16 ?_; refine PL.op rfl (Rd.leq rfl rfl) ?_; refine PL.op rfl (Rd.pick_t rfl h_16) ?_; refine PL.op rfl (Rd.moveT rfl) ?_; refine PL.guard_on rfl h_17 ?_; refine PL.op rfl (Rd.fieldO rfl rfl) ?_; refine PL.guard_on rfl h_17 ?_; refine PL.op rfl (Rd.loadO rfl rfl rfl) ?_; refine PL.guard_on rfl h_17 ?_; refine PL.op rfl (Rd.lenT rfl) ?_; refine PL.guard_on rfl h_17 ?_; refine PL.op rfl (Rd.gtr rfl rfl) ?_; refine PL.guard_on rfl h_17 ?_; refine PL.op rfl (Rd.moveT rfl) ?_; refine PL.guard_on rfl h_18 ?_; refine PL.op rfl (Rd.moveT rfl) ?_; refine PL.guard_on rfl h_18 ?_; refine PL.op rfl (Rd.eql rfl rfl) ?_; refine PL.guard_on rfl h_17 ?_; refine PL.op rfl (Rd.pick_f rfl h_18) ?_; refine PL.op rfl (Rd.pick_t rfl h_17) ?_; refine PL.op rfl (Rd.asnT rfl) ?_; refine PL.nil ?_; refine thA_n ?_; refine PC.ret ?_; obtain rfl := some_in hh0; exact FinA.mk (r := bA (decide (r4 = (0 : Int)))) (bl := []) [] (.inl rfl) rfl (rl := [.tmp 2]) (.tmp .nil) rfl rfl rfl (.t _) trivial ⟨rfl, rfl⟩
def m_L_equalRow_k1 (N : Nat) : Option (Bool) :=
  some true
def m_L_equalRow_b1 (N : Nat) (p_a : (List I_Value)) (p_b : (List I_Value)) (i2 : Int) : Option (Int ⊕ (Unit ⊕ Bool)) :=
  cond (decide (i2 < (p_a.length : Int)))
    ((ixI p_a i2).bind fun x17 =>
    (ixI p_b i2).bind fun x19 =>
    cond (decide (x17 = x19))
      ((chk (i2 + (1 : Int))).bind fun n22 =>
      some (.inl n22))
      (some (.inr (.inr false))))
    (some (.inr (.inl ())))
def m_L_equalRow (N : Nat) (p_a : (List I_Value)) (p_b : (List I_Value)) : Option (Bool) :=
  cond (decide ((p_a.length : Int) = (p_b.length : Int)))
    ((loopM (β := Unit ⊕ Bool) (fun s : Int => m_L_equalRow_b1 N p_a p_b s) N (0 : Int)).bind fun o => match o with
    | .inl e =>
      m_L_equalRow_k1 N 
    | .inr v =>
      some v)
    (some false)
theorem w_L_equalRow (N : Nat) (p_a : (List I_Value)) (p_b : (List I_Value)) (r : Bool) (hh0 : m_L_equalRow N p_a p_b = some r) : FnX Tryd.prog 31 [] [sL p_a, sL p_b] (RE (bA r) []) := by
  unfold m_L_equalRow at hh0; refine FnX.mk Tryd.func31 rfl rfl ?_; intro s hs; refine PC.seq ?_; refine PC.region ?_; refine PL.op rfl (Rd.asnT rfl) ?_; refine PL.nil ?_; refine thA_n ?_; (iterate 2 refine PC.seq ?_); refine PC.region ?_; refine PL.op rfl (Rd.moveT rfl) ?_; refine PL.op rfl (Rd.lenT rfl) ?_; refine PL.op rfl (Rd.moveT rfl) ?_; refine PL.op rfl (Rd.lenT rfl) ?_; refine PL.op rfl (Rd.neq rfl rfl) ?_; refine PL.nil ?_; refine thA_n ?_; rcases cond_some hh0 with ⟨h_1, hh0⟩ | ⟨h_1, hh0⟩; rotate_left
  · refine PC.cond_true rfl (not_f h_1) ?_; refine PC.seq ?_; refine PC.region ?_; refine PL.op rfl (Rd.asnT rfl) ?_; refine PL.nil ?_; refine thA_n ?_; refine PC.ret ?_; refine thA_r ?_; obtain rfl := some_in hh0; exact FinA.mk (r := bA false) (bl := []) [] (.inl rfl) rfl (rl := [.tmp 4]) (.tmp .nil) rfl rfl rfl (.t _) trivial ⟨rfl, rfl⟩
  refine PC.cond_false rfl (not_t h_1) ?_; refine PC.skip ?_; refine thA_n ?_; (iterate 2 refine PC.seq ?_); refine PC.region ?_; refine PL.op rfl (Rd.asnT rfl) ?_; refine PL.nil ?_; refine thA_n ?_; obtain ⟨o11, h_12, hh0⟩ := bind_some hh0; refine PC.cutE hs (fun x : Unit => []) (fun x => []) (fun x => m_L_equalRow_k1 N  = some r) ?_ ?_
  · refine PC.block ?_; refine PC.loop hs (fun x : Nat × (Int) => [(0, sL p_a), (1, sL p_b), (5, iA x.2)]) (fun x => []) (fun x => loopM (β := Unit ⊕ Bool) (fun s : Int => m_L_equalRow_b1 N p_a p_b s) x.1 x.2 = some o11) (fun x => x.1) (N, (0 : Int)) [] ⟨rfl, rfl, trivial, ⟨.t _, .t _, .t _, trivial⟩⟩ h_12 ?_
    rintro ⟨f13_, i2⟩ h_15
    obtain ⟨f13, y14, rfl, hh1, kk1⟩ := loopM_some h_15
    replace hh1 : m_L_equalRow_b1 N p_a p_b i2 = some y14 := hh1
    unfold m_L_equalRow_b1 at hh1; (iterate 2 refine PC.seq ?_); refine PC.region ?_; (iterate 2 refine PL.op rfl (Rd.moveT rfl) ?_); refine PL.op rfl (Rd.lenT rfl) ?_; refine PL.op rfl (Rd.lss rfl rfl) ?_; refine PL.nil ?_; refine thA_n ?_; rcases cond_some hh1 with ⟨h_16, hh1⟩ | ⟨h_16, hh1⟩; rotate_left
    · refine PC.cond_false rfl h_16 ?_; refine PC.exit ?_; (iterate 2 refine thA_e ?_); refine inA_eq rfl ?_; refine thA_n ?_; obtain rfl := some_in hh1; obtain rfl : (.inl () : Unit ⊕ Bool) = o11 := kk1; exact ⟨(), hh0, [], ⟨rfl, rfl, trivial, trivial⟩⟩
    refine PC.cond_true rfl h_16 ?_; refine PC.skip ?_; refine thA_n ?_; refine PC.seq ?_; refine PC.block ?_; refine PC.seq ?_; obtain ⟨x17, h_18, hh1⟩ := bind_some hh1; obtain ⟨x19, h_20, hh1⟩ := bind_some hh1; refine PC.any (id := 6) 9 (.seg [0, 1, 2, 3, 4, 5, 6, 7, 8] .done) [] rfl (by kernel_rfl) rfl ?_; refine PT.seg ?_; (iterate 2 refine PR.op rfl (Rd.moveT rfl) ?_); refine PR.op rfl (Rd.ixM rfl rfl h_18) ?_; refine PR.op rfl (Rd.elMR rfl h_18 rfl rfl) ?_; (iterate 2 refine PR.op rfl (Rd.moveT rfl) ?_); refine PR.op rfl (Rd.ixM rfl rfl h_20) ?_; refine PR.op rfl (Rd.elMR rfl h_20 rfl rfl) ?_; refine PR.op rfl (Rd.neqE (a := x17) (b := x19) rfl rfl rfl rfl) ?_; refine PR.nil ?_; refine PT.done ?_; refine PL.nil ?_; refine thA_n ?_; rcases cond_some hh1 with ⟨h_21, hh1⟩ | ⟨h_21, hh1⟩
    · refine PC.cond_false rfl (not_t h_21) ?_; refine PC.skip ?_; refine inA_n ?_; refine thA_n ?_; obtain ⟨n22, h_23, hh1⟩ := bind_some hh1; refine PC.region ?_; refine PL.op rfl (Rd.moveT rfl) ?_; refine PL.op rfl (Rd.addM rfl rfl h_23) ?_; refine PL.op rfl (Rd.asnT rfl) ?_; refine PL.nil ?_; obtain rfl := some_in hh1; refine thA_n ?_; exact ⟨(f13, n22), Nat.lt_succ_self _, kk1, [], ⟨rfl, rfl, trivial, ⟨.t _, .t _, .t _, trivial⟩⟩⟩
    refine PC.cond_true rfl (not_f h_21) ?_; refine PC.seq ?_; refine PC.region ?_; refine PL.op rfl (Rd.asnT rfl) ?_; refine PL.nil ?_; refine thA_n ?_; refine PC.ret ?_; refine inA_r ?_; (iterate 2 refine thA_r ?_); refine inA_r ?_; refine thA_r ?_; obtain rfl := some_in hh1; obtain rfl : (.inr false : Unit ⊕ Bool) = o11 := kk1; refine thA_r ?_; obtain rfl := some_in hh0; exact FinA.mk (r := bA false) (bl := []) [] (.inl rfl) rfl (rl := [.tmp 4]) (.tmp .nil) rfl rfl rfl (.t _) trivial ⟨rfl, rfl⟩
  clear hh0
  rintro ⟨⟩ hh0
  replace hh0 : m_L_equalRow_k1 N  = some r := hh0
  unfold m_L_equalRow_k1 at hh0; refine thA_n ?_; refine PC.seq ?_; refine PC.region ?_; refine PL.op rfl (Rd.asnT rfl) ?_; refine PL.nil ?_; refine thA_n ?_; refine PC.ret ?_; obtain rfl := some_in hh0; exact FinA.mk (r := bA true) (bl := []) [] (.inl rfl) rfl (rl := [.tmp 4]) (.tmp .nil) rfl rfl rfl (.t _) trivial ⟨rfl, rfl⟩
def m_L_equalRows_k1 (N : Nat) : Option (Bool) :=
  some true
def m_L_equalRows_b1 (N : Nat) (p_a : (List (List I_Value))) (p_b : (List (List I_Value))) (i2 : Int) : Option (Int ⊕ (Unit ⊕ Bool)) :=
  cond (decide (i2 < (p_a.length : Int)))
    ((ixI p_a i2).bind fun x19 =>
    (ixI p_b i2).bind fun x21 =>
    (m_L_equalRow N x19 x21).bind fun r23 =>
    cond r23
      ((chk (i2 + (1 : Int))).bind fun n26 =>
      some (.inl n26))
      (some (.inr (.inr false))))
    (some (.inr (.inl ())))
def m_L_equalRows (N : Nat) (p_a : (List (List I_Value))) (p_b : (List (List I_Value))) : Option (Bool) :=
  cond (decide ((p_a.length : Int) = (p_b.length : Int)))
    ((loopM (β := Unit ⊕ Bool) (fun s : Int => m_L_equalRows_b1 N p_a p_b s) N (0 : Int)).bind fun o => match o with
    | .inl e =>
      m_L_equalRows_k1 N 
    | .inr v =>
      some v)
    (some false)
theorem w_L_equalRows (N : Nat) (p_a : (List (List I_Value))) (p_b : (List (List I_Value))) (r : Bool) (hh0 : m_L_equalRows N p_a p_b = some r) : FnX Tryd.prog 27 [] [sL p_a, sL p_b] (RE (bA r) []) := by
  unfold m_L_equalRows at hh0; refine FnX.mk Tryd.func27 rfl rfl ?_; intro s hs; refine PC.seq ?_; refine PC.region ?_; refine PL.op rfl (Rd.asnT rfl) ?_; refine PL.nil ?_; refine thA_n ?_; (iterate 2 refine PC.seq ?_); refine PC.region ?_; refine PL.op rfl (Rd.moveT rfl) ?_; refine PL.op rfl (Rd.lenT rfl) ?_; refine PL.op rfl (Rd.moveT rfl) ?_; refine PL.op rfl (Rd.lenT rfl) ?_; refine PL.op rfl (Rd.neq rfl rfl) ?_; refine PL.nil ?_; refine thA_n ?_; rcases cond_some hh0 with ⟨h_1, hh0⟩ | ⟨h_1, hh0⟩; rotate_left
  · refine PC.cond_true rfl (not_f h_1) ?_; refine PC.seq ?_; refine PC.region ?_; refine PL.op rfl (Rd.asnT rfl) ?_; refine PL.nil ?_; refine thA_n ?_; refine PC.ret ?_; refine thA_r ?_; obtain rfl := some_in hh0; exact FinA.mk (r := bA false) (bl := []) [] (.inl rfl) rfl (rl := [.tmp 4]) (.tmp .nil) rfl rfl rfl (.t _) trivial ⟨rfl, rfl⟩
  refine PC.cond_false rfl (not_t h_1) ?_; refine PC.skip ?_; refine thA_n ?_; (iterate 2 refine PC.seq ?_); refine PC.region ?_; refine PL.op rfl (Rd.asnT rfl) ?_; refine PL.nil ?_; refine thA_n ?_; obtain ⟨o13, h_14, hh0⟩ := bind_some hh0; refine PC.cutE hs (fun x : Unit => []) (fun x => []) (fun x => m_L_equalRows_k1 N  = some r) ?_ ?_
  · refine PC.block ?_; refine PC.loop hs (fun x : Nat × (Int) => [(0, sL p_a), (1, sL p_b), (5, iA x.2)]) (fun x => []) (fun x => loopM (β := Unit ⊕ Bool) (fun s : Int => m_L_equalRows_b1 N p_a p_b s) x.1 x.2 = some o13) (fun x => x.1) (N, (0 : Int)) [] ⟨rfl, rfl, trivial, ⟨.t _, .t _, .t _, trivial⟩⟩ h_14 ?_
    rintro ⟨f15_, i2⟩ h_17
    obtain ⟨f15, y16, rfl, hh1, kk1⟩ := loopM_some h_17
    replace hh1 : m_L_equalRows_b1 N p_a p_b i2 = some y16 := hh1
    unfold m_L_equalRows_b1 at hh1; (iterate 2 refine PC.seq ?_); refine PC.region ?_; (iterate 2 refine PL.op rfl (Rd.moveT rfl) ?_); refine PL.op rfl (Rd.lenT rfl) ?_; refine PL.op rfl (Rd.lss rfl rfl) ?_; refine PL.nil ?_; refine thA_n ?_; rcases cond_some hh1 with ⟨h_18, hh1⟩ | ⟨h_18, hh1⟩; rotate_left
    · refine PC.cond_false rfl h_18 ?_; refine PC.exit ?_; (iterate 2 refine thA_e ?_); refine inA_eq rfl ?_; refine thA_n ?_; obtain rfl := some_in hh1; obtain rfl : (.inl () : Unit ⊕ Bool) = o13 := kk1; exact ⟨(), hh0, [], ⟨rfl, rfl, trivial, trivial⟩⟩
    refine PC.cond_true rfl h_18 ?_; refine PC.skip ?_; refine thA_n ?_; refine PC.seq ?_; refine PC.block ?_; refine PC.seq ?_; obtain ⟨x19, h_20, hh1⟩ := bind_some hh1; obtain ⟨x21, h_22, hh1⟩ := bind_some hh1; obtain ⟨r23, h_24, hh1⟩ := bind_some hh1; refine PC.any (id := 6) 10 (.seg [0, 1, 2, 3, 4, 5, 6, 7, 8, 9] .done) [] rfl (by kernel_rfl) rfl ?_; refine PT.seg ?_; (iterate 2 refine PR.op rfl (Rd.moveT rfl) ?_); refine PR.op rfl (Rd.ixM rfl rfl h_20) ?_; refine PR.op rfl (Rd.elM1 rfl h_20 rfl rfl) ?_; (iterate 2 refine PR.op rfl (Rd.moveT rfl) ?_); refine PR.op rfl (Rd.ixM rfl rfl h_22) ?_; refine PR.op rfl (Rd.elM1 rfl h_22 rfl rfl) ?_; refine PR.callM false [] (w_L_equalRow N x19 x21 r23 h_24) rfl Tryd.call31 rfl ⟨.t _, .t _, trivial⟩ rfl trivial (fun h => by cases h) rfl ?_; refine PR.op rfl (Rd.unnot rfl) ?_; refine PR.nil ?_; refine PT.done ?_; refine PL.nil ?_; refine thA_n ?_; rcases cond_some hh1 with ⟨h_25, hh1⟩ | ⟨h_25, hh1⟩
    · refine PC.cond_false rfl (not_t h_25) ?_; refine PC.skip ?_; refine inA_n ?_; refine thA_n ?_; obtain ⟨n26, h_27, hh1⟩ := bind_some hh1; refine PC.region ?_; refine PL.op rfl (Rd.moveT rfl) ?_; refine PL.op rfl (Rd.addM rfl rfl h_27) ?_; refine PL.op rfl (Rd.asnT rfl) ?_; refine PL.nil ?_; obtain rfl := some_in hh1; refine thA_n ?_; exact ⟨(f15, n26), Nat.lt_succ_self _, kk1, [], ⟨rfl, rfl, trivial, ⟨.t _, .t _, .t _, trivial⟩⟩⟩
    refine PC.cond_true rfl (not_f h_25) ?_; refine PC.seq ?_; refine PC.region ?_; refine PL.op rfl (Rd.asnT rfl) ?_; refine PL.nil ?_; refine thA_n ?_; refine PC.ret ?_; refine inA_r ?_; (iterate 2 refine thA_r ?_); refine inA_r ?_; refine thA_r ?_; obtain rfl := some_in hh1; obtain rfl : (.inr false : Unit ⊕ Bool) = o13 := kk1; refine thA_r ?_; obtain rfl := some_in hh0; exact FinA.mk (r := bA false) (bl := []) [] (.inl rfl) rfl (rl := [.tmp 4]) (.tmp .nil) rfl rfl rfl (.t _) trivial ⟨rfl, rfl⟩
  clear hh0
  rintro ⟨⟩ hh0
  replace hh0 : m_L_equalRows_k1 N  = some r := hh0
  unfold m_L_equalRows_k1 at hh0; refine thA_n ?_; refine PC.seq ?_; refine PC.region ?_; refine PL.op rfl (Rd.asnT rfl) ?_; refine PL.nil ?_; refine thA_n ?_; refine PC.ret ?_; obtain rfl := some_in hh0; exact FinA.mk (r := bA true) (bl := []) [] (.inl rfl) rfl (rl := [.tmp 4]) (.tmp .nil) rfl rfl rfl (.t _) trivial ⟨rfl, rfl⟩
def m_L_FnTableRows_k1 (N : Nat) (r2 : (I_Table)) (r4 : ((List (List I_Value)))) : Option (Bool) :=
  some (decide ((r4.length : Int) = (r2.rows.length : Int)))
def m_L_FnTableRows_b1 (N : Nat) (r2 : (I_Table)) (r4 : ((List (List I_Value)))) (r16 : ((List (List I_Column)) × Bool)) (r18 : Int) : Option (Int ⊕ (Unit ⊕ Bool)) :=
  cond (decide (r18 < (r4.length : Int)))
    (cond (decide (r18 < (r2.rows.length : Int)))
      ((ixI r2.rows r18).bind fun x52 =>
      (ixI r2.rows r18).bind fun x54 =>
      (m_I_ReadRow N r2.first r2.changes x52.tag (r2.changes.length : Int) x54.row).bind fun r56 =>
      cond r16.2
        (cond r56.2
          ((ixI r4 r18).bind fun x60 =>
          (m_L_equalRow N r56.1 x60).bind fun r62 =>
          cond r62
            ((chk ((r16.1.length : Int) - (1 : Int))).bind fun n65 =>
            (ixI r16.1 n65).bind fun x67 =>
            (ixI r4 r18).bind fun x69 =>
            (m_I_RowFits N x67 x69).bind fun r71 =>
            cond r71
              ((chk (r18 + (1 : Int))).bind fun n74 =>
              some (.inl n74))
              (some (.inr (.inr false))))
            (some (.inr (.inr false))))
          (some (.inr (.inr false))))
        (some (.inr (.inr false))))
      (some (.inr (.inl ()))))
    (some (.inr (.inl ())))
def m_L_FnTableRows (N : Nat) (p_code : (List UInt8)) : Option (Bool) :=
  cond (decide ((1048576 : Int) < (p_code.length : Int)))
    (some true)
    ((m_S_DrawTableRows N p_code).bind fun r2 =>
    (m_I_TableRows N r2).bind fun r4 =>
    (m_S_TableRows N r2).bind fun r6 =>
    (m_L_equalRows N r4 r6).bind fun r8 =>
    cond r8
      (cond (decide ((r4.length : Int) = (0 : Int)))
        ((m_S_TableRows N r2).bind fun r12 =>
        (m_L_equalRows N r4 r12).bind fun r14 =>
        some r14)
        ((m_I_ChainOf N r2.first r2.changes).bind fun r16 =>
        (loopM (β := Unit ⊕ Bool) (fun s : Int => m_L_FnTableRows_b1 N r2 r4 r16 s) N (0 : Int)).bind fun o => match o with
        | .inl e =>
          m_L_FnTableRows_k1 N r2 r4 
        | .inr v =>
          some v))
      ((m_S_TableRows N r2).bind fun r76 =>
      (m_L_equalRows N r4 r76).bind fun r78 =>
      some r78))
theorem w_L_FnTableRows (N : Nat) (p_code : (List UInt8)) (r : Bool) (hh0 : m_L_FnTableRows N p_code = some r) : FnX Tryd.prog 6 [] [sL p_code] (RE (bA r) []) := by
  unfold m_L_FnTableRows at hh0; refine FnX.mk Tryd.func6 rfl rfl ?_; intro s hs; refine PC.seq ?_; refine PC.region ?_; refine PL.op rfl (Rd.asnT rfl) ?_; refine PL.nil ?_; refine thA_n ?_; (iterate 2 refine PC.seq ?_); refine PC.region ?_; refine PL.op rfl (Rd.moveT rfl) ?_; refine PL.op rfl (Rd.lenT rfl) ?_; refine PL.op rfl (Rd.gtr rfl rfl) ?_; refine PL.nil ?_; refine thA_n ?_; rcases cond_some hh0 with ⟨h_1, hh0⟩ | ⟨h_1, hh0⟩
  · refine PC.cond_true rfl h_1 ?_; refine PC.seq ?_; refine PC.region ?_; refine PL.op rfl (Rd.asnT rfl) ?_; refine PL.nil ?_; refine thA_n ?_; refine PC.ret ?_; refine thA_r ?_; obtain rfl := some_in hh0; exact FinA.mk (r := bA true) (bl := []) [] (.inl rfl) rfl (rl := [.tmp 2]) (.tmp .nil) rfl rfl rfl (.t _) trivial ⟨rfl, rfl⟩
  refine PC.cond_false rfl h_1 ?_; refine PC.skip ?_; refine thA_n ?_; refine PC.seq ?_; obtain ⟨r2, h_3, hh0⟩ := bind_some hh0; refine PC.region ?_; refine PL.op rfl (Rd.moveT rfl) ?_; refine PL.callM false [] (w_S_DrawTableRows N p_code r2 h_3) rfl Tryd.call25 rfl ⟨.t _, trivial⟩ rfl trivial (fun h => by cases h) ?_; refine PL.nm (.agg [sL r2.first, sL r2.changes, .os 0 0 r2.rows.length]) [some ⟨.tr (eL r2.rows), 52, 2⟩] rfl rfl ?_; refine PL.frz hs 0 1 [(14, .agg [sL r2.first, sL r2.changes, sL r2.rows])] [none] rfl rfl ⟨(.aggL ⟨(.t _), (.t _), (.own rfl (by decide) rfl rfl), trivial⟩), trivial⟩ trivial ?_; refine PL.nm (.agg [sL r2.first, sL r2.changes, sL r2.rows]) [none] rfl rfl ?_; refine PL.ef rfl (Ef.alloc rfl rfl) ?_; refine PL.nm (.op 1 0) [none, some ⟨.mx [.t (.v (.slice none 0 0)), .t (.v (.slice none 0 0)), .t (.v (.slice none 0 0))], 27, 0⟩] rfl rfl ?_; refine PL.store rfl rfl rfl rfl rfl rfl rfl ?_; refine PL.nO [none, some ⟨.mx [sL r2.first, sL r2.changes, sL r2.rows], 27, 0⟩] rfl ?_; refine PL.nil ?_; refine thA_n ?_; refine PC.seq ?_; obtain ⟨r4, h_5, hh0⟩ := bind_some hh0; refine PC.region ?_; refine PL.op rfl (Rd.loadBox rfl rfl rfl) ?_; refine PL.callM false [] (w_I_TableRows N r2 r4 h_5) rfl Tryd.call26 rfl ⟨.aggL ⟨.t _, .t _, .t _, trivial⟩, trivial⟩ rfl trivial (fun h => by cases h) ?_; refine PL.nm (.os 2 0 r4.length) [none, some ⟨.mx [sL r2.first, sL r2.changes, sL r2.rows], 27, 0⟩, some ⟨.tr (eL r4), 48, 1⟩] rfl rfl ?_; refine PL.frz hs 2 3 [(16, sL r4)] [none, some ⟨.mx [sL r2.first, sL r2.changes, sL r2.rows], 27, 0⟩, none] rfl rfl ⟨(.own rfl (by decide) rfl rfl), trivial⟩ ⟨⟨rfl, .inl rfl⟩, trivial⟩ ?_; refine PL.nm (sL r4) [none, some ⟨.mx [sL r2.first, sL r2.changes, sL r2.rows], 27, 0⟩, none] rfl rfl ?_; refine PL.op rfl (Rd.asnT rfl) ?_; refine PL.nil ?_; refine thA_n ?_; (iterate 2 refine PC.seq ?_); obtain ⟨r6, h_7, hh0⟩ := bind_some hh0; obtain ⟨r8, h_9, hh0⟩ := bind_some hh0; rcases cond_some hh0 with ⟨h_10, hh0⟩ | ⟨h_10, hh0⟩; rotate_left
  · refine PC.region ?_; refine PL.op rfl (Rd.moveT rfl) ?_; refine PL.op rfl (Rd.loadBox rfl rfl rfl) ?_; refine PL.callM false [] (w_S_TableRows N r2 r6 h_7) rfl Tryd.call28 rfl ⟨.aggL ⟨.t _, .t _, .t _, trivial⟩, trivial⟩ rfl trivial (fun h => by cases h) ?_; refine PL.nm (.os 3 0 r6.length) [none, some ⟨.mx [sL r2.first, sL r2.changes, sL r2.rows], 27, 0⟩, none, some ⟨.tr (eL r6), 48, 1⟩] rfl rfl ?_; refine PL.frz hs 3 4 [(19, sL r6)] [none, some ⟨.mx [sL r2.first, sL r2.changes, sL r2.rows], 27, 0⟩, none, none] rfl rfl ⟨(.own rfl (by decide) rfl rfl), trivial⟩ ⟨⟨rfl, .inl rfl⟩, trivial⟩ ?_; refine PL.nm (sL r6) [none, some ⟨.mx [sL r2.first, sL r2.changes, sL r2.rows], 27, 0⟩, none, none] rfl rfl ?_; refine PL.callM false [] (w_L_equalRows N r4 r6 r8 h_9) rfl Tryd.call27 rfl ⟨.t _, .t _, trivial⟩ rfl trivial (fun h => by cases h) ?_; refine PL.op rfl (Rd.unnot rfl) ?_; refine PL.op rfl (Rd.moveT rfl) ?_; (iterate 3 refine PL.guard_off rfl rfl (not_f h_10) ?_); refine PL.op rfl (Rd.pick_t rfl (not_f h_10)) ?_; refine PL.nil ?_; refine thA_n ?_; refine PC.cond_true rfl rfl ?_; refine PC.seq ?_; obtain ⟨r76, h_77, hh0⟩ := bind_some hh0; obtain ⟨r78, h_79, hh0⟩ := bind_some hh0; refine PC.region ?_; refine PL.op rfl (Rd.moveT rfl) ?_; refine PL.op rfl (Rd.loadBox rfl rfl rfl) ?_; refine PL.callM false [] (w_S_TableRows N r2 r76 h_77) rfl Tryd.call28 rfl ⟨.aggL ⟨.t _, .t _, .t _, trivial⟩, trivial⟩ rfl trivial (fun h => by cases h) ?_; refine PL.nm (.os 4 0 r76.length) [none, some ⟨.mx [sL r2.first, sL r2.changes, sL r2.rows], 27, 0⟩, none, none, some ⟨.tr (eL r76), 48, 1⟩] rfl rfl ?_; refine PL.frz hs 4 5 [(29, sL r76)] [none, some ⟨.mx [sL r2.first, sL r2.changes, sL r2.rows], 27, 0⟩, none, none, none] rfl rfl ⟨(.own rfl (by decide) rfl rfl), trivial⟩ ⟨⟨rfl, .inl rfl⟩, trivial⟩ ?_; refine PL.nm (sL r76) [none, some ⟨.mx [sL r2.first, sL r2.changes, sL r2.rows], 27, 0⟩, none, none, none] rfl rfl ?_; refine PL.callM false [] (w_L_equalRows N r4 r76 r78 h_79) rfl Tryd.call27 rfl ⟨.t _, .t _, trivial⟩ rfl trivial (fun h => by cases h) ?_; refine PL.op rfl (Rd.asnT rfl) ?_; refine PL.nil ?_; refine thA_n ?_; refine PC.ret ?_; refine thA_r ?_; obtain rfl := some_in hh0; exact FinA.mk (r := bA r78) (bl := []) [] (.inl rfl) rfl (rl := [.tmp 2]) (.tmp .nil) rfl rfl rfl (.t _) trivial ⟨rfl, rfl⟩
  refine PC.region ?_; refine PL.op rfl (Rd.moveT rfl) ?_; refine PL.op rfl (Rd.loadBox rfl rfl rfl) ?_; refine PL.callM false [] (w_S_TableRows N r2 r6 h_7) rfl Tryd.call28 rfl ⟨.aggL ⟨.t _, .t _, .t _, trivial⟩, trivial⟩ rfl trivial (fun h => by cases h) ?_; refine PL.nm (.os 3 0 r6.length) [none, some ⟨.mx [sL r2.first, sL r2.changes, sL r2.rows], 27, 0⟩, none, some ⟨.tr (eL r6), 48, 1⟩] rfl rfl ?_; refine PL.frz hs 3 4 [(19, sL r6)] [none, some ⟨.mx [sL r2.first, sL r2.changes, sL r2.rows], 27, 0⟩, none, none] rfl rfl ⟨(.own rfl (by decide) rfl rfl), trivial⟩ ⟨⟨rfl, .inl rfl⟩, trivial⟩ ?_; refine PL.nm (sL r6) [none, some ⟨.mx [sL r2.first, sL r2.changes, sL r2.rows], 27, 0⟩, none, none] rfl rfl ?_; refine PL.callM false [] (w_L_equalRows N r4 r6 r8 h_9) rfl Tryd.call27 rfl ⟨.t _, .t _, trivial⟩ rfl trivial (fun h => by cases h) ?_; refine PL.op rfl (Rd.unnot rfl) ?_; refine PL.op rfl (Rd.moveT rfl) ?_; refine PL.guard_on rfl (not_t h_10) ?_; refine PL.op rfl (Rd.moveT rfl) ?_; refine PL.guard_on rfl (not_t h_10) ?_; refine PL.op rfl (Rd.lenT rfl) ?_; refine PL.guard_on rfl (not_t h_10) ?_; refine PL.op rfl (Rd.eql rfl rfl) ?_; refine PL.op rfl (Rd.pick_f rfl (not_t h_10)) ?_; refine PL.nil ?_; refine thA_n ?_; rcases cond_some hh0 with ⟨h_11, hh0⟩ | ⟨h_11, hh0⟩
  · refine PC.cond_true rfl h_11 ?_; refine PC.seq ?_; obtain ⟨r12, h_13, hh0⟩ := bind_some hh0; obtain ⟨r14, h_15, hh0⟩ := bind_some hh0; refine PC.region ?_; refine PL.op rfl (Rd.moveT rfl) ?_; refine PL.op rfl (Rd.loadBox rfl rfl rfl) ?_; refine PL.callM false [] (w_S_TableRows N r2 r12 h_13) rfl Tryd.call28 rfl ⟨.aggL ⟨.t _, .t _, .t _, trivial⟩, trivial⟩ rfl trivial (fun h => by cases h) ?_; refine PL.nm (.os 4 0 r12.length) [none, some ⟨.mx [sL r2.first, sL r2.changes, sL r2.rows], 27, 0⟩, none, none, some ⟨.tr (eL r12), 48, 1⟩] rfl rfl ?_; refine PL.frz hs 4 5 [(29, sL r12)] [none, some ⟨.mx [sL r2.first, sL r2.changes, sL r2.rows], 27, 0⟩, none, none, none] rfl rfl ⟨(.own rfl (by decide) rfl rfl), trivial⟩ ⟨⟨rfl, .inl rfl⟩, trivial⟩ ?_; refine PL.nm (sL r12) [none, some ⟨.mx [sL r2.first, sL r2.changes, sL r2.rows], 27, 0⟩, none, none, none] rfl rfl ?_; refine PL.callM false [] (w_L_equalRows N r4 r12 r14 h_15) rfl Tryd.call27 rfl ⟨.t _, .t _, trivial⟩ rfl trivial (fun h => by cases h) ?_; refine PL.op rfl (Rd.asnT rfl) ?_; refine PL.nil ?_; refine thA_n ?_; refine PC.ret ?_; refine thA_r ?_; obtain rfl := some_in hh0; exact FinA.mk (r := bA r14) (bl := []) [] (.inl rfl) rfl (rl := [.tmp 2]) (.tmp .nil) rfl rfl rfl (.t _) trivial ⟨rfl, rfl⟩
  refine PC.cond_false rfl h_11 ?_; refine PC.skip ?_; refine thA_n ?_; refine PC.seq ?_; obtain ⟨r16, h_17, hh0⟩ := bind_some hh0; refine PC.region ?_; refine PL.op rfl (Rd.fieldO rfl rfl) ?_; refine PL.op rfl (Rd.loadO rfl rfl rfl) ?_; refine PL.op rfl (Rd.fieldO rfl rfl) ?_; refine PL.op rfl (Rd.loadO rfl rfl rfl) ?_; refine PL.callM false [] (w_I_ChainOf N r2.first r2.changes r16 h_17) rfl Tryd.call29 rfl ⟨.t _, .t _, trivial⟩ rfl trivial (fun h => by cases h) ?_; refine PL.nm (.tup [.os 4 0 r16.1.length, bA r16.2]) [none, some ⟨.mx [sL r2.first, sL r2.changes, sL r2.rows], 27, 0⟩, none, none, some ⟨.tr (eL r16.1), 23, 1⟩] rfl rfl ?_; refine PL.frz hs 4 5 [(36, .tup [sL r16.1, bA r16.2])] [none, some ⟨.mx [sL r2.first, sL r2.changes, sL r2.rows], 27, 0⟩, none, none, none] rfl rfl ⟨(.tupL ⟨(.own rfl (by decide) rfl rfl), (.t _), trivial⟩), trivial⟩ ⟨⟨rfl, .inl rfl⟩, trivial⟩ ?_; refine PL.nm (.tup [sL r16.1, bA r16.2]) [none, some ⟨.mx [sL r2.first, sL r2.changes, sL r2.rows], 27, 0⟩, none, none, none] rfl rfl ?_; refine PL.op rfl (Rd.moveU rfl) ?_; (iterate 2 refine PL.op rfl (Rd.extract rfl rfl) ?_); (iterate 2 refine PL.op rfl (Rd.asnT rfl) ?_); refine PL.nil ?_; refine thA_n ?_; (iterate 2 refine PC.seq ?_); refine PC.region ?_; refine PL.op rfl (Rd.asnT rfl) ?_; refine PL.nil ?_; refine thA_n ?_; obtain ⟨o45, h_46, hh0⟩ := bind_some hh0; refine PC.cutE hs (fun x : Unit => [(3, .op 0 0), (4, sL r4)]) (fun x => [⟨.mx [sL r2.first, sL r2.changes, sL r2.rows], 27, 0⟩]) (fun x => m_L_FnTableRows_k1 N r2 r4  = some r) ?_ ?_
  · refine PC.block ?_; refine PC.loop hs (fun x : Nat × (Int) => [(3, .op 0 0), (4, sL r4), (5, sL r16.1), (6, bA r16.2), (7, iA x.2)]) (fun x => [⟨.mx [sL r2.first, sL r2.changes, sL r2.rows], 27, 0⟩]) (fun x => loopM (β := Unit ⊕ Bool) (fun s : Int => m_L_FnTableRows_b1 N r2 r4 r16 s) x.1 x.2 = some o45) (fun x => x.1) (N, (0 : Int)) [some 1] ⟨rfl, rfl, ⟨⟨_, rfl, rfl, rfl, .mx ⟨.t _, .t _, .t _, trivial⟩⟩, trivial⟩, ⟨.op rfl, .t _, .t _, .t _, .t _, trivial⟩⟩ h_46 ?_
    rintro ⟨f47_, r18⟩ h_49
    obtain ⟨f47, y48, rfl, hh1, kk1⟩ := loopM_some h_49
    replace hh1 : m_L_FnTableRows_b1 N r2 r4 r16 r18 = some y48 := hh1
    unfold m_L_FnTableRows_b1 at hh1; (iterate 2 refine PC.seq ?_); rcases cond_some hh1 with ⟨h_50, hh1⟩ | ⟨h_50, hh1⟩; rotate_left
    · refine PC.region ?_; (iterate 2 refine PL.op rfl (Rd.moveT rfl) ?_); refine PL.op rfl (Rd.lenT rfl) ?_; refine PL.op rfl (Rd.lss rfl rfl) ?_; refine PL.op rfl (Rd.moveT rfl) ?_; (iterate 5 refine PL.guard_off rfl rfl h_50 ?_); refine PL.op rfl (Rd.pick_f rfl h_50) ?_; refine PL.nil ?_; refine thA_n ?_; refine PC.cond_false rfl rfl ?_; refine PC.exit ?_; (iterate 2 refine thA_e ?_); refine inA_eq rfl ?_; refine thA_n ?_; obtain rfl := some_in hh1; obtain rfl : (.inl () : Unit ⊕ Bool) = o45 := kk1; exact ⟨(), hh0, [some 0], ⟨rfl, rfl, ⟨⟨_, rfl, rfl, rfl, .mx ⟨.t _, .t _, .t _, trivial⟩⟩, trivial⟩, ⟨.op rfl, .t _, trivial⟩⟩⟩
    refine PC.region ?_; (iterate 2 refine PL.op rfl (Rd.moveT rfl) ?_); refine PL.op rfl (Rd.lenT rfl) ?_; refine PL.op rfl (Rd.lss rfl rfl) ?_; refine PL.op rfl (Rd.moveT rfl) ?_; refine PL.guard_on rfl h_50 ?_; refine PL.op rfl (Rd.moveT rfl) ?_; refine PL.guard_on rfl h_50 ?_; refine PL.op rfl (Rd.fieldO rfl rfl) ?_; refine PL.guard_on rfl h_50 ?_; refine PL.op rfl (Rd.loadO rfl rfl rfl) ?_; refine PL.guard_on rfl h_50 ?_; refine PL.op rfl (Rd.lenT rfl) ?_; refine PL.guard_on rfl h_50 ?_; refine PL.op rfl (Rd.lss rfl rfl) ?_; refine PL.op rfl (Rd.pick_t rfl h_50) ?_; refine PL.nil ?_; refine thA_n ?_; rcases cond_some hh1 with ⟨h_51, hh1⟩ | ⟨h_51, hh1⟩; rotate_left
    · refine PC.cond_false rfl h_51 ?_; refine PC.exit ?_; (iterate 2 refine thA_e ?_); refine inA_eq rfl ?_; refine thA_n ?_; obtain rfl := some_in hh1; obtain rfl : (.inl () : Unit ⊕ Bool) = o45 := kk1; exact ⟨(), hh0, [some 0], ⟨rfl, rfl, ⟨⟨_, rfl, rfl, rfl, .mx ⟨.t _, .t _, .t _, trivial⟩⟩, trivial⟩, ⟨.op rfl, .t _, trivial⟩⟩⟩
    refine PC.cond_true rfl h_51 ?_; refine PC.skip ?_; refine thA_n ?_; refine PC.seq ?_; refine PC.block ?_; refine PC.seq ?_; obtain ⟨x52, h_53, hh1⟩ := bind_some hh1; obtain ⟨x54, h_55, hh1⟩ := bind_some hh1; obtain ⟨r56, h_57, hh1⟩ := bind_some hh1; refine PC.any (id := 11) 25 (.seg [0, 1, 2, 3, 4, 5, 6, 7, 8, 9, 10, 11, 12, 13, 14, 15, 16, 17, 18, 19, 20, 21, 22, 23, 24] .done) [] rfl (by kernel_rfl) rfl ?_; refine PT.seg ?_; refine PR.op rfl (Rd.fieldO rfl rfl) ?_; refine PR.op rfl (Rd.loadO rfl rfl rfl) ?_; refine PR.op rfl (Rd.fieldO rfl rfl) ?_; refine PR.op rfl (Rd.loadO rfl rfl rfl) ?_; refine PR.op rfl (Rd.fieldO rfl rfl) ?_; refine PR.op rfl (Rd.loadO rfl rfl rfl) ?_; refine PR.op rfl (Rd.moveT rfl) ?_; refine PR.op rfl (Rd.ixM rfl rfl h_53) ?_; refine PR.op rfl (Rd.fieldT rfl) ?_; refine PR.op rfl (Rd.elMF (f := 0) rfl h_53 rfl rfl) ?_; refine PR.op rfl (Rd.fieldO rfl rfl) ?_; refine PR.op rfl (Rd.loadO rfl rfl rfl) ?_; refine PR.op rfl (Rd.lenT rfl) ?_; refine PR.op rfl (Rd.fieldO rfl rfl) ?_; refine PR.op rfl (Rd.loadO rfl rfl rfl) ?_; refine PR.op rfl (Rd.moveT rfl) ?_; refine PR.op rfl (Rd.ixM rfl rfl h_55) ?_; refine PR.op rfl (Rd.fieldT rfl) ?_; refine PR.op rfl (Rd.elMF (f := 1) rfl h_55 rfl rfl) ?_; refine PR.callM false [] (w_I_ReadRow N r2.first r2.changes x52.tag (r2.changes.length : Int) x54.row r56 h_57) rfl Tryd.call30 rfl ⟨.t _, .t _, .t _, .t _, .t _, trivial⟩ rfl trivial (fun h => by cases h) rfl ?_; refine PR.nm (.tup [.os 1 0 r56.1.length, bA r56.2]) [some ⟨.mx [sL r2.first, sL r2.changes, sL r2.rows], 27, 0⟩, some ⟨.tr (eL r56.1), 62, 3⟩] rfl rfl ?_; refine PR.frz hs 1 2 [(72, .tup [sL r56.1, bA r56.2])] [some ⟨.mx [sL r2.first, sL r2.changes, sL r2.rows], 27, 0⟩, none] rfl rfl rfl ⟨(.tupL ⟨(.own rfl (by decide) rfl rfl), (.t _), trivial⟩), trivial⟩ ⟨⟨rfl, .inl rfl⟩, trivial⟩ ?_; refine PR.nm (.tup [sL r56.1, bA r56.2]) [some ⟨.mx [sL r2.first, sL r2.changes, sL r2.rows], 27, 0⟩, none] rfl rfl ?_; refine PR.op rfl (Rd.moveU rfl) ?_; (iterate 2 refine PR.op rfl (Rd.extract rfl rfl) ?_); (iterate 2 refine PR.op rfl (Rd.asnT rfl) ?_); refine PR.nil ?_; refine PT.done ?_; refine PL.nil ?_; refine thA_n ?_; refine PC.seq ?_; rcases cond_some hh1 with ⟨h_58, hh1⟩ | ⟨h_58, hh1⟩; rotate_left
    · refine PC.any (id := 12) 29 (.seg [0, 1, 2, 3, 4, 5, 6, 7, 8, 9, 10, 11, 12, 13, 14, 15, 16, 17, 18, 19, 20, 21, 22, 23, 24, 25, 26, 27, 28] .done) [] rfl (by kernel_rfl) rfl ?_; refine PT.seg ?_; refine PR.op rfl (Rd.moveT rfl) ?_; refine PR.op rfl (Rd.unnot rfl) ?_; refine PR.op rfl (Rd.moveT rfl) ?_; (iterate 2 refine PR.guard_off rfl rfl (not_f h_58) ?_); refine PR.op rfl (Rd.pick_t rfl (not_f h_58)) ?_; refine PR.op rfl (Rd.moveT rfl) ?_; (iterate 7 refine PR.guard_off rfl rfl rfl ?_); refine PR.op rfl (Rd.pick_t rfl rfl) ?_; refine PR.op rfl (Rd.moveT rfl) ?_; (iterate 12 refine PR.guard_off rfl rfl rfl ?_); refine PR.op rfl (Rd.pick_t rfl rfl) ?_; refine PR.nil ?_; refine PT.done ?_; refine PL.nil ?_; refine thA_n ?_; refine PC.cond_true rfl rfl ?_; refine PC.seq ?_; refine PC.region ?_; refine PL.op rfl (Rd.asnT rfl) ?_; refine PL.nil ?_; refine thA_n ?_; refine PC.ret ?_; refine inA_r ?_; (iterate 2 refine thA_r ?_); refine inA_r ?_; refine thA_r ?_; obtain rfl := some_in hh1; obtain rfl : (.inr false : Unit ⊕ Bool) = o45 := kk1; refine thA_r ?_; obtain rfl := some_in hh0; exact FinA.mk (r := bA false) (bl := []) [] (.inl rfl) rfl (rl := [.tmp 2]) (.tmp .nil) rfl rfl rfl (.t _) trivial ⟨rfl, rfl⟩
    rcases cond_some hh1 with ⟨h_59, hh1⟩ | ⟨h_59, hh1⟩; rotate_left
    · refine PC.any (id := 12) 29 (.seg [0, 1, 2, 3, 4, 5, 6, 7, 8, 9, 10, 11, 12, 13, 14, 15, 16, 17, 18, 19, 20, 21, 22, 23, 24, 25, 26, 27, 28] .done) [] rfl (by kernel_rfl) rfl ?_; refine PT.seg ?_; refine PR.op rfl (Rd.moveT rfl) ?_; refine PR.op rfl (Rd.unnot rfl) ?_; refine PR.op rfl (Rd.moveT rfl) ?_; refine PR.guard_on rfl rfl (not_t h_58) ?_; refine PR.op rfl (Rd.moveT rfl) ?_; refine PR.guard_on rfl rfl (not_t h_58) ?_; refine PR.op rfl (Rd.unnot rfl) ?_; refine PR.op rfl (Rd.pick_f rfl (not_t h_58)) ?_; refine PR.op rfl (Rd.moveT rfl) ?_; (iterate 7 refine PR.guard_off rfl rfl (not_f h_59) ?_); refine PR.op rfl (Rd.pick_t rfl (not_f h_59)) ?_; refine PR.op rfl (Rd.moveT rfl) ?_; (iterate 12 refine PR.guard_off rfl rfl rfl ?_); refine PR.op rfl (Rd.pick_t rfl rfl) ?_; refine PR.nil ?_; refine PT.done ?_; refine PL.nil ?_; refine thA_n ?_; refine PC.cond_true rfl rfl ?_; refine PC.seq ?_; refine PC.region ?_; refine PL.op rfl (Rd.asnT rfl) ?_; refine PL.nil ?_; refine thA_n ?_; refine PC.ret ?_; refine inA_r ?_; (iterate 2 refine thA_r ?_); refine inA_r ?_; refine thA_r ?_; obtain rfl := some_in hh1; obtain rfl : (.inr false : Unit ⊕ Bool) = o45 := kk1; refine thA_r ?_; obtain rfl := some_in hh0; exact FinA.mk (r := bA false) (bl := []) [] (.inl rfl) rfl (rl := [.tmp 2]) (.tmp .nil) rfl rfl rfl (.t _) trivial ⟨rfl, rfl⟩
    obtain ⟨x60, h_61, hh1⟩ := bind_some hh1; obtain ⟨r62, h_63, hh1⟩ := bind_some hh1; rcases cond_some hh1 with ⟨h_64, hh1⟩ | ⟨h_64, hh1⟩; rotate_left
    · refine PC.any (id := 12) 29 (.seg [0, 1, 2, 3, 4, 5, 6, 7, 8, 9, 10, 11, 12, 13, 14, 15, 16, 17, 18, 19, 20, 21, 22, 23, 24, 25, 26, 27, 28] .done) [] rfl (by kernel_rfl) rfl ?_; refine PT.seg ?_; refine PR.op rfl (Rd.moveT rfl) ?_; refine PR.op rfl (Rd.unnot rfl) ?_; refine PR.op rfl (Rd.moveT rfl) ?_; refine PR.guard_on rfl rfl (not_t h_58) ?_; refine PR.op rfl (Rd.moveT rfl) ?_; refine PR.guard_on rfl rfl (not_t h_58) ?_; refine PR.op rfl (Rd.unnot rfl) ?_; refine PR.op rfl (Rd.pick_f rfl (not_t h_58)) ?_; refine PR.op rfl (Rd.moveT rfl) ?_; refine PR.guard_on rfl rfl (not_t h_59) ?_; refine PR.op rfl (Rd.moveT rfl) ?_; refine PR.guard_on rfl rfl (not_t h_59) ?_; refine PR.op rfl (Rd.moveT rfl) ?_; refine PR.guard_on rfl rfl (not_t h_59) ?_; refine PR.op rfl (Rd.moveT rfl) ?_; refine PR.guard_on rfl rfl (not_t h_59) ?_; refine PR.op rfl (Rd.ixM rfl rfl h_61) ?_; refine PR.guard_on rfl rfl (not_t h_59) ?_; refine PR.op rfl (Rd.elM1 rfl h_61 rfl rfl) ?_; refine PR.guard_on rfl rfl (not_t h_59) ?_; refine PR.callM false [] (w_L_equalRow N r56.1 x60 r62 h_63) rfl Tryd.call31 rfl ⟨.t _, .t _, trivial⟩ rfl trivial (fun h => by cases h) rfl ?_; refine PR.guard_on rfl rfl (not_t h_59) ?_; refine PR.op rfl (Rd.unnot rfl) ?_; refine PR.op rfl (Rd.pick_f rfl (not_t h_59)) ?_; refine PR.op rfl (Rd.moveT rfl) ?_; (iterate 12 refine PR.guard_off rfl rfl (not_f h_64) ?_); refine PR.op rfl (Rd.pick_t rfl (not_f h_64)) ?_; refine PR.nil ?_; refine PT.done ?_; refine PL.nil ?_; refine thA_n ?_; refine PC.cond_true rfl rfl ?_; refine PC.seq ?_; refine PC.region ?_; refine PL.op rfl (Rd.asnT rfl) ?_; refine PL.nil ?_; refine thA_n ?_; refine PC.ret ?_; refine inA_r ?_; (iterate 2 refine thA_r ?_); refine inA_r ?_; refine thA_r ?_; obtain rfl := some_in hh1; obtain rfl : (.inr false : Unit ⊕ Bool) = o45 := kk1; refine thA_r ?_; obtain rfl := some_in hh0; exact FinA.mk (r := bA false) (bl := []) [] (.inl rfl) rfl (rl := [.tmp 2]) (.tmp .nil) rfl rfl rfl (.t _) trivial ⟨rfl, rfl⟩
    obtain ⟨n65, h_66, hh1⟩ := bind_some hh1; obtain ⟨x67, h_68, hh1⟩ := bind_some hh1; obtain ⟨x69, h_70, hh1⟩ := bind_some hh1; obtain ⟨r71, h_72, hh1⟩ := bind_some hh1; refine PC.any (id := 12) 29 (.seg [0, 1, 2, 3, 4, 5, 6, 7, 8, 9, 10, 11, 12, 13, 14, 15, 16, 17, 18, 19, 20, 21, 22, 23, 24, 25, 26, 27, 28] .done) [] rfl (by kernel_rfl) rfl ?_; refine PT.seg ?_; refine PR.op rfl (Rd.moveT rfl) ?_; refine PR.op rfl (Rd.unnot rfl) ?_; refine PR.op rfl (Rd.moveT rfl) ?_; refine PR.guard_on rfl rfl (not_t h_58) ?_; refine PR.op rfl (Rd.moveT rfl) ?_; refine PR.guard_on rfl rfl (not_t h_58) ?_; refine PR.op rfl (Rd.unnot rfl) ?_; refine PR.op rfl (Rd.pick_f rfl (not_t h_58)) ?_; refine PR.op rfl (Rd.moveT rfl) ?_; refine PR.guard_on rfl rfl (not_t h_59) ?_; refine PR.op rfl (Rd.moveT rfl) ?_; refine PR.guard_on rfl rfl (not_t h_59) ?_; refine PR.op rfl (Rd.moveT rfl) ?_; refine PR.guard_on rfl rfl (not_t h_59) ?_; refine PR.op rfl (Rd.moveT rfl) ?_; refine PR.guard_on rfl rfl (not_t h_59) ?_; refine PR.op rfl (Rd.ixM rfl rfl h_61) ?_; refine PR.guard_on rfl rfl (not_t h_59) ?_; refine PR.op rfl (Rd.elM1 rfl h_61 rfl rfl) ?_; refine PR.guard_on rfl rfl (not_t h_59) ?_; refine PR.callM false [] (w_L_equalRow N r56.1 x60 r62 h_63) rfl Tryd.call31 rfl ⟨.t _, .t _, trivial⟩ rfl trivial (fun h => by cases h) rfl ?_; refine PR.guard_on rfl rfl (not_t h_59) ?_; refine PR.op rfl (Rd.unnot rfl) ?_; refine PR.op rfl (Rd.pick_f rfl (not_t h_59)) ?_; refine PR.op rfl (Rd.moveT rfl) ?_; refine PR.guard_on rfl rfl (not_t h_64) ?_; refine PR.op rfl (Rd.moveT rfl) ?_; refine PR.guard_on rfl rfl (not_t h_64) ?_; refine PR.op rfl (Rd.moveT rfl) ?_; refine PR.guard_on rfl rfl (not_t h_64) ?_; refine PR.op rfl (Rd.lenT rfl) ?_; refine PR.guard_on rfl rfl (not_t h_64) ?_; refine PR.op rfl (Rd.subM rfl rfl h_66) ?_; refine PR.guard_on rfl rfl (not_t h_64) ?_; refine PR.op rfl (Rd.ixM rfl rfl h_68) ?_; refine PR.guard_on rfl rfl (not_t h_64) ?_; refine PR.op rfl (Rd.elM1 rfl h_68 rfl rfl) ?_; refine PR.guard_on rfl rfl (not_t h_64) ?_; refine PR.op rfl (Rd.moveT rfl) ?_; refine PR.guard_on rfl rfl (not_t h_64) ?_; refine PR.op rfl (Rd.moveT rfl) ?_; refine PR.guard_on rfl rfl (not_t h_64) ?_; refine PR.op rfl (Rd.ixM rfl rfl h_70) ?_; refine PR.guard_on rfl rfl (not_t h_64) ?_; refine PR.op rfl (Rd.elM1 rfl h_70 rfl rfl) ?_; refine PR.guard_on rfl rfl (not_t h_64) ?_; refine PR.callM false [] (w_I_RowFits N x67 x69 r71 h_72) rfl Tryd.call32 rfl ⟨.t _, .t _, trivial⟩ rfl trivial (fun h => by cases h) rfl ?_; refine PR.guard_on rfl rfl (not_t h_64) ?_; refine PR.op rfl (Rd.unnot rfl) ?_; refine PR.op rfl (Rd.pick_f rfl (not_t h_64)) ?_; refine PR.nil ?_; refine PT.done ?_; refine PL.nil ?_; refine thA_n ?_; rcases cond_some hh1 with ⟨h_73, hh1⟩ | ⟨h_73, hh1⟩; rotate_left
    · refine PC.cond_true rfl (not_f h_73) ?_; refine PC.seq ?_; refine PC.region ?_; refine PL.op rfl (Rd.asnT rfl) ?_; refine PL.nil ?_; refine thA_n ?_; refine PC.ret ?_; refine inA_r ?_; (iterate 2 refine thA_r ?_); refine inA_r ?_; refine thA_r ?_; obtain rfl := some_in hh1; obtain rfl : (.inr false : Unit ⊕ Bool) = o45 := kk1; refine thA_r ?_; obtain rfl := some_in hh0; exact FinA.mk (r := bA false) (bl := []) [] (.inl rfl) rfl (rl := [.tmp 2]) (.tmp .nil) rfl rfl rfl (.t _) trivial ⟨rfl, rfl⟩
    refine PC.cond_false rfl (not_t h_73) ?_; refine PC.skip ?_; refine inA_n ?_; refine thA_n ?_; obtain ⟨n74, h_75, hh1⟩ := bind_some hh1; refine PC.region ?_; refine PL.op rfl (Rd.moveT rfl) ?_; refine PL.op rfl (Rd.addM rfl rfl h_75) ?_; refine PL.op rfl (Rd.asnT rfl) ?_; refine PL.nil ?_; obtain rfl := some_in hh1; refine thA_n ?_; exact ⟨(f47, n74), Nat.lt_succ_self _, kk1, [some 0], ⟨rfl, rfl, ⟨⟨_, rfl, rfl, rfl, .mx ⟨.t _, .t _, .t _, trivial⟩⟩, trivial⟩, ⟨.op rfl, .t _, .t _, .t _, .t _, trivial⟩⟩⟩
  clear hh0
  rintro ⟨⟩ hh0
  replace hh0 : m_L_FnTableRows_k1 N r2 r4  = some r := hh0
  unfold m_L_FnTableRows_k1 at hh0; refine thA_n ?_; refine PC.seq ?_; refine PC.region ?_; refine PL.op rfl (Rd.moveT rfl) ?_; refine PL.op rfl (Rd.lenT rfl) ?_; refine PL.op rfl (Rd.fieldO rfl rfl) ?_; refine PL.op rfl (Rd.loadO rfl rfl rfl) ?_; refine PL.op rfl (Rd.lenT rfl) ?_; refine PL.op rfl (Rd.eql rfl rfl) ?_; refine PL.op rfl (Rd.asnT rfl) ?_; refine PL.nil ?_; refine thA_n ?_; refine PC.ret ?_; obtain rfl := some_in hh0; exact FinA.mk (r := bA (decide ((r4.length : Int) = (r2.rows.length : Int)))) (bl := []) [] (.inl rfl) rfl (rl := [.tmp 2]) (.tmp .nil) rfl rfl rfl (.t _) trivial ⟨rfl, rfl⟩
end V
end Go.Proofs.YthhlkedkeefgnaaDoor
namespace Go.Proofs.YthhlkedkeefgnaaDoor
namespace V
open Enc (enc)
set_option linter.unusedVariables false
set_option linter.unusedSimpArgs false
set_option maxHeartbeats 4000000
set_option maxRecDepth 100000
open Go.RowKit
attribute [local irreducible] thA inA FinA eL
end V
end Go.Proofs.YthhlkedkeefgnaaDoor
namespace Go.Proofs.YthhlkedkeefgnaaDoor
namespace V
open Enc (enc)
set_option linter.unusedVariables false
set_option linter.unusedSimpArgs false
set_option maxHeartbeats 4000000
set_option maxRecDepth 100000
open Go.RowKit
attribute [local irreducible] thA inA FinA eL
end V
end Go.Proofs.YthhlkedkeefgnaaDoor
namespace Go.Proofs.YthhlkedkeefgnaaDoor
namespace V
open Enc (enc)
set_option linter.unusedVariables false
set_option linter.unusedSimpArgs false
set_option maxHeartbeats 4000000
set_option maxRecDepth 100000
open Go.RowKit
attribute [local irreducible] thA inA FinA eL
end V
end Go.Proofs.YthhlkedkeefgnaaDoor
namespace Go.Proofs.YthhlkedkeefgnaaDoor
namespace V
set_option linter.unusedVariables false
set_option linter.unusedSimpArgs false
set_option maxHeartbeats 1000000
theorem cut_ix {α : Type} {A xs : List α} {i : Nat} (hA : A.length = i) (h : i < xs.length) : ixI (A ++ xs.drop i) (i : Int) = some xs[i] := by
  rw [ixI_nat (by simp; omega), List.getElem_append_right (by omega)]
  congr 1
  rw [List.getElem_drop]; congr 1; omega
theorem cut_set {α : Type} {A xs : List α} {i : Nat} (hA : A.length = i) (h : i < xs.length) (y : α) : (A ++ xs.drop i).set i y = (A ++ [y]) ++ xs.drop (i + 1) := by
  rw [List.drop_eq_getElem_cons h, List.set_append_right _ _ (by omega), hA, Nat.sub_self, List.set_cons_zero, List.append_assoc, List.singleton_append]
theorem cut_same {α : Type} {A xs : List α} {i : Nat} (h : i < xs.length) : A ++ xs.drop i = (A ++ [xs[i]]) ++ xs.drop (i + 1) := by
  rw [List.drop_eq_getElem_cons h, List.append_assoc, List.singleton_append]
/-- A loop that finds nothing to stop at. -/
theorem loop_self {body : Int → Option (Int ⊕ (Unit ⊕ Bool))} {N n : Nat} (hN : n < N) (h : ∀ i, i < n → body (i : Int) = some (.inl ((i : Int) + 1))) (he : body (n : Int) = some (.inr (.inl ()))) : loopM body N (0 : Int) = some (.inl ()) := by
  have : ok (loopM body N (0 : Int)) fun o => o = .inl () := by
    refine ok.each n (fun i s => s = (i : Int)) _ ?_ ?_ N 0 _ (Nat.zero_le _) rfl (by omega)
    · rintro i s hi rfl
      rw [h i hi]; exact ok.some (by simp)
    · rintro s rfl
      rw [he]; exact ok.some rfl
  exact ok.val this
section
variable {N : Nat} (hN : 100000000 ≤ N)
include hN
theorem cloneI {t : I_Table} (hb : bT t) : m_I_Table_clone N t = some t := by
  have hfl := hb.f.1
  have hcl := hb.c.1
  have hrl := hb.rl
  refine ok.val ?_
  unfold m_I_Table_clone
  refine ok.eq (show m_slices_Clone_I_Column N t.first = some t.first from appM0 (by omega)) (ok.eq (show m_slices_Clone_I_Change N t.changes = some t.changes from appM0 (by omega)) ?_)
  refine ok.call (P := fun o => o = t.rows) (ok.each t.rows.length (fun i s => s = ((i : Int), t.rows.take i)) _ ?_ ?_ N 0 _ (Nat.zero_le _) rfl (by omega)) ?_
  · rintro i s hi rfl
    show ok (m_I_Table_clone_b1 N t (i : Int) _) _
    unfold m_I_Table_clone_b1
    have hr := (hb.r i hi).1
    refine ok.ift (by omega) (ok.eq (ixI_nat hi) (ok.eq (show m_slices_Clone_I_Value N t.rows[i].row = some t.rows[i].row from appM0 (by omega)) (ok.app (by simp; omega) (ok.chk (by omega) (ok.some ?_)))))
    refine Prod.ext (by simp) ?_
    show _ = t.rows.take (i + 1)
    rw [take_succ1 hi]
  · rintro s rfl
    show ok (m_I_Table_clone_b1 N t _ _) _
    unfold m_I_Table_clone_b1
    refine ok.iff (by omega) (ok.some ?_)
    rw [List.take_length]
  · rintro o rfl
    exact ok.some rfl
omit hN in
theorem rwL_take (t : I_Table) (n : Nat) {i : Nat} (h : i < t.rows.length) : rwL (oldB t) (toL t) n (t.rows.take (i + 1)) = rwL (oldB t) (toL t) n (t.rows.take i) ++ [if oldB t t.rows[i] = true ∧ 0 < n - (t.rows.take i).countP (oldB t) then toL t t.rows[i] else t.rows[i]] := by
  rw [take_succ1 h, rwL_app, rwL_one]
theorem rewI {t : I_Table} {k : Int} (hb : bT t) (hk : k ≤ 9223372036854775807) : m_I_RewriteRows N t k = some (if tV t ∧ 0 ≤ k then rwT t k.toNat else noT) := by
  have hrl := hb.rl
  refine ok.val ?_
  unfold m_I_RewriteRows
  refine ok.eq (validTI hN hb) (ok.ite (fun hv => ok.ite (fun h0 => ok.some ?_) fun h0 => ?_) fun hv => ok.some ?_)
  · rw [if_neg (by omega)]; rfl
  · rw [if_pos ⟨hv, by omega⟩]
    obtain ⟨n, rfl⟩ : ∃ n : Nat, k = n := ⟨k.toNat, by omega⟩
    rw [Int.toNat_natCast]
    refine ok.eq (cloneI hN hb) ?_
    refine ok.call (P := fun o => o = rwL (oldB t) (toL t) n t.rows) (ok.each t.rows.length (fun i s => s = ((i : Int), ((n - (t.rows.take i).countP (oldB t) : Nat) : Int), rwL (oldB t) (toL t) n (t.rows.take i) ++ t.rows.drop i)) _ ?_ ?_ N 0 _ (Nat.zero_le _) (by simp [rwL]) (by omega)) ?_
    · rintro i s hi rfl
      show ok (m_I_RewriteRows_b1 N t _ (i : Int) _ _) _
      unfold m_I_RewriteRows_b1
      dsimp only
      have hA : (rwL (oldB t) (toL t) n (t.rows.take i)).length = i := by rw [rwL_len, List.length_take]; omega
      refine ok.ift (by omega) (ok.eq (cut_ix hA hi) (ok.ite (fun hm => ok.eq (show m_I_Table_last N t = some (t.changes.length : Int) from rfl) (ok.ite (fun c => ok.chk (by omega) (ok.some ?_)) fun c => ok.eq (show m_I_Table_last N t = some (t.changes.length : Int) from rfl) (ok.eq (read1I hN hv hb.c (hv.2.2 i hi)) (ok.chk (by omega) (ok.chk (by omega) (ok.some ?_)))))) fun hm => ok.chk (by omega) (ok.some ?_)))
      · have ho : ¬ oldB t t.rows[i] = true := by unfold oldB; simp [c]
        rw [rwL_take t n hi, if_neg (fun e => ho e.1), count_take _ hi, if_neg ho, cut_same hi]; simp
      · have ho : oldB t t.rows[i] = true := by unfold oldB; simp [c]
        rw [rwL_take t n hi, if_pos ⟨ho, by omega⟩, count_take _ hi, if_pos ho, Int.toNat_natCast, cut_set hA hi]
        refine Prod.ext (by simp) (Prod.ext ?_ rfl)
        show ((n - (t.rows.take i).countP (oldB t) : Nat) : Int) - 1 = ((n - ((t.rows.take i).countP (oldB t) + 1) : Nat) : Int)
        omega
      · rw [rwL_take t n hi, if_neg (fun e => by have := e.2; omega), cut_same hi]
        refine Prod.ext (by simp) (Prod.ext ?_ rfl)
        show ((n - (t.rows.take i).countP (oldB t) : Nat) : Int) = ((n - (t.rows.take (i + 1)).countP (oldB t) : Nat) : Int)
        rw [count_take _ hi]; omega
    · rintro s rfl
      show ok (m_I_RewriteRows_b1 N t _ _ _ _) _
      unfold m_I_RewriteRows_b1
      dsimp only
      refine ok.iff (by omega) (ok.some ?_)
      rw [List.take_length, List.drop_length, List.append_nil]
    · rintro o rfl
      exact ok.some rfl
  · rw [if_neg fun e => hv e.1]; rfl
theorem eqRow {r : List I_Value} (hl : r.length ≤ 5000000) : m_L_equalRow N r r = some true := by
  refine ok.val ?_
  unfold m_L_equalRow
  refine ok.ift rfl (ok.eq (loop_self (n := r.length) (by omega) (fun i hi => ?_) ?_) (ok.some rfl))
  · show m_L_equalRow_b1 N r r (i : Int) = _
    unfold m_L_equalRow_b1
    exact ok.val (ok.ift (by omega) (ok.eq (ixI_nat hi) (ok.eq (ixI_nat hi) (ok.ift rfl (ok.chk (by omega) (ok.some rfl))))))
  · show m_L_equalRow_b1 N r r _ = _
    unfold m_L_equalRow_b1
    rw [decide_eq_false (by omega)]; rfl
theorem eqRows {r : List (List I_Value)} (hl : r.length ≤ 5000000) (h : ∀ i (h : i < r.length), r[i].length ≤ 5000000) : m_L_equalRows N r r = some true := by
  refine ok.val ?_
  unfold m_L_equalRows
  refine ok.ift rfl (ok.eq (loop_self (n := r.length) (by omega) (fun i hi => ?_) ?_) (ok.some rfl))
  · show m_L_equalRows_b1 N r r (i : Int) = _
    unfold m_L_equalRows_b1
    exact ok.val (ok.ift (by omega) (ok.eq (ixI_nat hi) (ok.eq (ixI_nat hi) (ok.eq (eqRow hN (h i hi)) (ok.bt rfl (ok.chk (by omega) (ok.some rfl)))))))
  · show m_L_equalRows_b1 N r r _ = _
    unfold m_L_equalRows_b1
    rw [decide_eq_false (by omega)]; rfl
end
end V
end Go.Proofs.YthhlkedkeefgnaaDoor
namespace Go.Proofs.YthhlkedkeefgnaaDoor
namespace V
set_option linter.unusedVariables false
set_option linter.unusedSimpArgs false
section
variable {α : Type} (mk : α → Int → α) (c : α → Nat)
theorem take_succ' {xs : List α} {i : Nat} (h : i < xs.length) : xs.take (i + 1) = xs.take i ++ [xs[i]] := by rw [List.take_add_one, List.getElem?_eq_getElem h]; rfl
/-- A loop that copies element by element into a new slice. -/
theorem to_loop {β : Type} {body : Int × List β → Option ((Int × List β) ⊕ List β)} {N : Nat} (xs : List α) (f : α → β) (z : List β) (hz : z.length = xs.length) (hN : xs.length < N)
    (h : ∀ (i : Nat) (hi : i < xs.length) (v : List β), v.length = xs.length → body ((i : Int), v) = some (.inl ((i : Int) + 1, v.set i (f xs[i]))))
    (he : ∀ v : List β, body ((xs.length : Int), v) = some (.inr v)) : loopM body N (0, z) = some (xs.map f) := by
  have key := ok.loop (body := body) (fun s => ∃ i : Nat, i ≤ xs.length ∧ s = ((i : Int), (xs.map f).take i ++ z.drop i)) (fun s => ((xs.length : Int) - s.1).toNat) (fun r => r = xs.map f) ?_ N (0, z) ⟨0, Nat.zero_le _, by simp⟩ (by simp; omega)
  · obtain ⟨r, e, rfl⟩ := key; exact e
  rintro _ ⟨i, hi, rfl⟩
  have hl : ((xs.map f).take i ++ z.drop i).length = xs.length := by simp; omega
  rcases Nat.lt_or_ge i xs.length with hlt | hge
  · refine ok.of (h i hlt _ hl) ⟨⟨i + 1, hlt, ?_⟩, by simp; omega⟩
    refine Prod.ext (by simp) ?_
    show ((xs.map f).take i ++ z.drop i).set i _ = _
    rw [List.set_append_right _ _ (by simp; exact Nat.min_le_left _ _), take_succ' (by simpa using hlt)]
    simp only [List.length_take, List.length_map, Nat.min_eq_left hi, Nat.sub_self, List.append_assoc]
    congr 1
    rw [List.drop_eq_getElem_cons (show i < z.length by omega), List.set_cons_zero, List.getElem_map]
    rfl
  · obtain rfl : i = xs.length := by omega
    refine ok.of (he _) ?_
    rw [List.take_of_length_le (by simp), List.drop_of_length_le (by omega), List.append_nil]
end
end V
end Go.Proofs.YthhlkedkeefgnaaDoor
namespace Go.Proofs.YthhlkedkeefgnaaDoor
namespace V
open Enc (enc)
set_option linter.unusedVariables false
set_option linter.unusedSimpArgs false
open Go.RowKit Go.ChangeShapes Go.WideShapes Go.ChangeAt
/-- Cells that stand for trees. -/
def TL (w : World) (U : Nat → Prop) (cs : List Tr) (ys : List Value) : Prop :=
  ys.length = cs.length ∧ (∀ y, y ∈ ys → y.oneCell' = true) ∧ ∀ (j : Nat) c y, cs[j]? = some c → ys[j]? = some y → TRel w U c y
theorem TL.nil {w : World} {U : Nat → Prop} : TL w U [] [] := ⟨rfl, fun y h => (List.not_mem_nil h).elim, fun j c y h => by simp at h⟩
theorem TL.app {w : World} {U : Nat → Prop} {cs ds : List Tr} {ys zs : List Value} (h1 : TL w U cs ys) (h2 : TL w U ds zs) : TL w U (cs ++ ds) (ys ++ zs) := by
  refine ⟨by simp [h1.1, h2.1], fun y h => (List.mem_append.1 h).elim (h1.2.1 y) (h2.2.1 y), fun j c y hc hy => ?_⟩
  rcases Nat.lt_or_ge j cs.length with hj | hj
  · rw [List.getElem?_append_left hj] at hc
    rw [List.getElem?_append_left (by rw [h1.1]; exact hj)] at hy
    exact h1.2.2 j c y hc hy
  · rw [List.getElem?_append_right hj] at hc
    rw [List.getElem?_append_right (by rw [h1.1]; exact hj), h1.1] at hy
    exact h2.2.2 _ c y hc hy
theorem TL.one {w : World} {U : Nat → Prop} {c : Tr} {y : Value} (h1 : y.oneCell' = true) (h : TRel w U c y) : TL w U [c] [y] := by
  refine ⟨rfl, fun z hz => by simp at hz; subst hz; exact h1, fun j d z hc hz => ?_⟩
  cases j with
  | zero => simp at hc hz; subst hc hz; exact h
  | succ j => simp at hc
/-- Plain data as Go can hold it. -/
class Szd (α : Type) where szd : α → Prop
open Szd (szd)
instance : Szd Int := ⟨fun n => -9223372036854775808 ≤ n ∧ n ≤ 9223372036854775807⟩
instance : Szd Bool := ⟨fun _ => True⟩
instance : Szd UInt8 := ⟨fun _ => True⟩
instance : Szd ByteArray := ⟨fun s => s.size ≤ 9223372036854775807⟩
instance {α : Type} [Szd α] : Szd (List α) := ⟨fun xs => xs.length ≤ 9223372036854775807 ∧ ∀ x ∈ xs, szd x⟩
/-- What the rows read at a type is some plain value. -/
class Opn (P : Program) (α : Type) [Enc α] [Szd α] (t : TypeId) : Prop where
  opn : ∀ {H : Type} {en : TypeId × Value → H} {W : World} {fuel : Nat} {cs : List Value} {x : DataW H × List MemPlace}, DataW.trod en P W 0 (fun _ => true) true fuel t cs = some x → ∃ a : α, TL W (· < W.heap.size) (enc a) cs ∧ szd a
section
variable {P : Program} {t : TypeId}
theorem Opn.int (ht : P.underlying t = some (.int .i64)) : Opn P Int t := ⟨fun h => by
  obtain ⟨n, rfl, rfl, hw⟩ := DataW.trod_int ht h
  exact ⟨n, TL.one rfl (.v _ rfl), by simpa [Lit.wf, IntKind.min, IntKind.max, IntKind.signed, IntKind.bits, szd] using hw⟩⟩
theorem Opn.u8 (ht : P.underlying t = some (.int .u8)) : Opn P UInt8 t := ⟨fun h => by
  obtain ⟨n, rfl, rfl, hw⟩ := DataW.trod_int ht h
  have hn : 0 ≤ n ∧ n ≤ 255 := by simpa [Lit.wf, IntKind.min, IntKind.max, IntKind.signed, IntKind.bits] using hw
  obtain ⟨k, rfl⟩ := Int.eq_ofNat_of_zero_le hn.1
  refine ⟨UInt8.ofNat k, TL.one rfl ?_, trivial⟩
  have : (UInt8.ofNat k).toNat = k := UInt8.toNat_ofNat_of_lt' (by show k < 256; omega)
  rw [this]; exact .v _ rfl⟩
theorem Opn.str (ht : P.underlying t = some .string) : Opn P ByteArray t := ⟨fun h => by
  obtain ⟨n, rfl, rfl, hw⟩ := DataW.trod_string ht h
  exact ⟨n, TL.one rfl (.v _ rfl), hw⟩⟩
theorem spot_none {w : World} {a : Addr} {v : Value} (h : w.cell? a = some v) : a.spot = none := by
  unfold World.cell? at h
  split at h
  · split at h
    · cases h
    · simpa using ‹¬ a.spot.isSome = true›
  · cases h
theorem cell_lt {w : World} {a : Addr} {v : Value} (h : w.cell? a = some v) : a.block < w.heap.size := by
  unfold World.cell? at h
  split at h
  · rename_i hq
    exact (Array.getElem?_eq_some_iff.1 hq).1
  · cases h
theorem addr_add' {B o j : Nat} : Addr.add ⟨B, o, none⟩ j = ⟨B, o + j, none⟩ := by unfold Addr.add; split <;> simp_all
theorem addr_add2 (a : Addr) (i j : Nat) : (a.add i).add j = a.add (i + j) := by unfold Addr.add; by_cases hi : i = 0 <;> by_cases hj : j = 0 <;> simp [hi, hj, Nat.add_assoc]
theorem Opn.sl {α : Type} [F : Enc α] [Szd α] {e : TypeId} (ht : P.underlying t = some (.slice e)) (hc : P.cellsOf e = F.k) (hpos : 0 < F.k) [E : Opn P α e] : Opn P (List α) t := ⟨fun {H en W fuel cs x} h => by
  rcases Go.Deep.open_slice ht h with ⟨rfl, rfl⟩ | ⟨a, len, cap, m, n, D, Pl, rfl, _, hl, hm, hmm, rfl, hel⟩
  · exact ⟨[], TL.one rfl .nil, by simp, fun x hx => by cases hx⟩
  · simp only [if_pos] at hmm
    have hm' : cap ≤ 9223372036854775807 := hm
    -- the elements, one by one
    have key : ∀ k, k ≤ len → ∃ (xs : List α) (ys : List Value), xs.length = k ∧ TL W (· < W.heap.size) (eL xs) ys ∧ (∀ x ∈ xs, szd x) ∧ ∀ (j : Nat) y, ys[j]? = some y → W.cell? (a.add j) = some y := by
      intro k
      induction k with
      | zero => intro _; exact ⟨[], [], rfl, TL.nil, fun x hx => (List.not_mem_nil hx).elim, fun j y hy => (by simp at hy)⟩
      | succ k ih =>
        intro hk
        obtain ⟨xs, ys, h1, h2, h3, h4⟩ := ih (by omega)
        obtain ⟨cs', h5, h6⟩ := hel k (by omega)
        obtain ⟨x, h7, h8⟩ := E.opn h6
        obtain ⟨_, hcl, hcg⟩ := World.cells?_some h5
        have hyl : ys.length = k * F.k := by rw [h2.1, eL_len, h1]
        refine ⟨xs ++ [x], ys ++ cs', by simp [h1], ?_, fun y hy => ?_, fun j y hy => ?_⟩
        · rw [eL_app, eL_one]; exact h2.app h7
        · rcases List.mem_append.1 hy with hy | hy
          · exact h3 y hy
          · simp at hy; subst hy; exact h8
        · rcases Nat.lt_or_ge j ys.length with hj | hj
          · rw [List.getElem?_append_left hj] at hy; exact h4 j y hy
          · rw [List.getElem?_append_right hj] at hy
            have hjl := (List.getElem?_eq_some_iff.1 hy).1
            have := hcg (j - ys.length) (by omega)
            rw [hy, hyl] at this
            rw [addr_add2, hc] at this
            rw [← this]
            congr 2; omega
    obtain ⟨xs, ys, h1, h2, h3, h4⟩ := key len (Nat.le_refl _)
    subst h1
    refine ⟨xs, ?_, by show xs.length ≤ 9223372036854775807; omega, h3⟩
    by_cases h0 : xs.length = 0
    · obtain rfl := List.eq_nil_of_length_eq_zero h0
      exact TL.one rfl (.sl0 _ _)
    · have hne : 0 < ys.length := by rw [h2.1, eL_len]; exact Nat.mul_pos (by omega) hpos
      have c0 := h4 0 _ (List.getElem?_eq_getElem hne)
      have hsp : a.spot = none := spot_none (by simpa [Addr.add] using c0)
      have hb := cell_lt c0
      obtain ⟨B, o, s⟩ := a
      simp only at hsp; subst hsp
      rw [addr_add'] at hb
      exact TL.one rfl (.sl B o xs.length cap (eL xs) ys hb h2.1 h2.2.1 (fun j y hy => by have := h4 j y hy; rwa [addr_add'] at this) h2.2.2 hl)⟩
/-- The fields of a struct, one after the other. -/
theorem opn_fields {H : Type} {en : TypeId × Value → H} {W : World} {fs : Array Field} {fuel : Nat} {cs : List Value} {x : DataW H × List MemPlace} (ht : P.underlying t = some (.struct fs)) (h : DataW.trod en P W 0 (fun _ => true) true fuel t cs = some x) :
    cs.length = P.cellsOf t ∧ ∀ (i : Nat) (f : Field), fs[i]? = some f → ∃ n y, DataW.trod en P W 0 (fun _ => true) true n f.type ((cs.drop f.offset).take (P.cellsOf f.type)) = some y := by
  obtain ⟨xs, n, rfl, rfl, h1, h2, h3⟩ := DataW.trod_struct ht h
  refine ⟨h1, fun i f hf => ?_⟩
  have := h3 i f hf
  obtain ⟨hi, _⟩ := Array.getElem?_eq_some_iff.1 hf
  exact ⟨n, xs[i], by rw [this, List.getElem?_eq_getElem (by omega)]⟩
/-- An argument of a law. -/
theorem Opn.arg {α : Type} [F : Enc α] [Szd α] {H : Type} {en : TypeId × Value → H} {W : World} {v : Value} {d : DataW H} {ps : List MemPlace} (E : Opn P α t) (hk : ∀ a : α, (enc a).length = 1) (hv : v.cells = #[v]) (h : DataW.Trod en P W 0 (fun _ => true) true t v d ps) :
    ∃ a : α, (∀ M, ∀ c, (enc a)[0]? = some c → Rel W (· < W.heap.size) M (.t c) v) ∧ szd a := by
  obtain ⟨fuel, hf⟩ := h
  rw [hv] at hf
  obtain ⟨a, h1, h2⟩ := E.opn hf
  exact ⟨a, fun M c hc => .t _ _ (h1.2.2 0 c v hc rfl), h2⟩
theorem Opn.argS {α : Type} [F : Enc α] [Szd α] {H : Type} {en : TypeId × Value → H} {W : World} {cs : Array Value} {d : DataW H} {ps : List MemPlace} (E : Opn P α t) (h : DataW.Trod en P W 0 (fun _ => true) true t (.agg cs) d ps) :
    ∃ a : α, (∀ M, Rel W (· < W.heap.size) M (.agg ((enc a).map .t)) (.agg cs)) ∧ szd a := by
  obtain ⟨fuel, hf⟩ := h
  obtain ⟨a, h1, h2⟩ := E.opn hf
  refine ⟨a, fun M => ?_, h2⟩
  have h1' : TL W (· < W.heap.size) (enc a) cs.toList := h1
  have : Rel W (· < W.heap.size) M (.agg ((enc a).map .t)) (.agg cs.toList.toArray) := .agg _ _ (by simp [h1'.1]) h1'.2.1 fun j c y hc hy => by
    rw [List.getElem?_map] at hc
    obtain ⟨c', hc', rfl⟩ := Option.map_eq_some_iff.1 hc
    exact .t _ _ (h1'.2.2 j c' y hc' hy)
  simpa using this
theorem TL.step {W : World} {U : Nat → Prop} {c d : List Tr} {cs : List Value} {i j m : Nat} (h : TL W U c ((cs.drop i).take m)) (hr : TL W U d (cs.drop j)) (hj : j = i + m) : TL W U (c ++ d) (cs.drop i) := by
  have := h.app hr
  rw [hj, ← List.drop_drop, List.take_append_drop] at this
  exact this
theorem TL.fin {W : World} {U : Nat → Prop} {cs : List Value} {k : Nat} (h : cs.length = k) : TL W U [] (cs.drop k) := by
  rw [List.drop_of_length_le (by omega)]; exact TL.nil
theorem args1 {w : World} {U : Nat → Prop} {M : Mp} {a : AV} {y : Value} (h : Rel w U M a y) : ArgsRel w U M [a] [y] :=
  ⟨rfl, fun i c z hc hz => by
    match i with
    | 0 => cases hc; cases hz; exact h
    | i + 1 => simp at hc⟩
theorem own : ownKnob Tryd.prog.godebug = none := by kernel_rfl
theorem laidOut : laidOutB Tryd.prog = true := by kernel_rfl
/-- What the call of a law comes to, from the start of a run. -/
theorem law_run {f : FuncId} {args : List AV} {av : List Value} {W : World} (ht : TabOk W (· < W.heap.size)) (hc : FnX P f [] args (RE (bA true) [])) (ha : ArgsRel W (· < W.heap.size) [] args av) : Calls P f av.toArray W fun e W' => e = .returned (.bool true) ∧ Below W.heap.size W W' := by
  have := hc ⟨W, [], (· < W.heap.size)⟩ (· < W.heap.size) av ?_ (fun B h => h) ha
  · refine this.mono ?_
    rintro e w' ⟨v, r, bl, M', U', rfl, ⟨rfl, rfl⟩, h3, h4⟩
    cases h3 with | t _ _ h =>
    cases h
    refine ⟨rfl, ?_⟩
    exact h4.base.below
  · have hno : ∀ B, ¬ InM [] B := fun B ⟨b, p, h, _⟩ => by simp at h
    exact ⟨BelowX.refl _ _, fun b x h => by simp at h, rfl, fun B h => (hno B h).elim, fun B h => (hno B h).elim, fun b b' p p' B h => by simp at h, fun f F h => by simp at h, fun b ob x h => by simp at h, fun B h => ⟨⟨h, hno B⟩, .inl h⟩, ht⟩
end
end V
end Go.Proofs.YthhlkedkeefgnaaDoor
namespace Go.Proofs.YthhlkedkeefgnaaDoor
namespace V
set_option linter.unusedVariables false
set_option maxRecDepth 100000
theorem mayEnter_of {P : Program} {c : List Char} {rest : List (List Char)} (h : behindMainWord (wordsSigns P.initOrder.toList) = c :: rest)
    (h1 : ((stripLifts liftWords (c :: rest)).2.head? == some "cut".toList) = true) (h2 : ((stripLifts liftWords (c :: rest)).1.contains "finals" || !P.laysLater) = true)
    (h3 : ((stripLifts liftWords (c :: rest)).1.contains "reflectrows" || !P.bearsReflect) = true) (h4 : ((stripLifts liftWords (c :: rest)).1.contains "reflectrows" || !(stripLifts liftWords (c :: rest)).1.contains "leanrows") = true)
    (h5 : P.doorFits (stripLifts liftWords (c :: rest)).1 = true) : P.mayEnter = true := by
  unfold Program.mayEnter
  rw [h]
  simp only [h1, h2, h3, h4, h5, Bool.and_true, Bool.or_true]
theorem lifted_of {P : Program} {b : Bool} (h : P.liftsFinal = false) (hb : b = false) : (b == P.liftsFinal) = true := by rw [h, hb]; rfl
theorem make_of {P : Program} {m : Make} (h : P.make = some .cut) (hm : m = .cut) : (P.make == some m) = true := by rw [h, hm]; rfl
theorem iniT : Tryd.prog.initOrder = String.ofList (List.map Char.ofNat [104, 97, 114, 110, 101, 115, 115, 32, 97, 48, 54, 53, 101, 56, 53, 98, 53, 52, 98, 50, 57, 50, 97, 48, 49, 48, 48, 97, 102, 51, 51, 54, 48, 101, 54, 102, 49, 102, 55, 52, 102, 52, 49, 49, 102, 53, 55, 99, 48, 100, 55, 55, 53, 57, 51, 53, 51, 54, 56, 55, 98, 50, 55, 101, 98, 101, 55, 56, 97, 56, 48, 53, 32, 99, 117, 116, 32, 97, 116, 32, 108, 111, 111, 112, 46, 101, 120, 97, 109, 112, 108, 101, 47, 115, 99, 104, 101, 109, 97, 109, 105, 103, 114, 97, 116, 105, 111, 110, 47, 108, 97, 119, 115, 46, 70, 110, 86, 97, 108, 105, 100, 84, 97, 98, 108, 101, 32, 108, 111, 111, 112, 46, 101, 120, 97, 109, 112, 108, 101, 47, 115, 99, 104, 101, 109, 97, 109, 105, 103, 114, 97, 116, 105, 111, 110, 47, 108, 97, 119, 115, 46, 70, 110, 79, 108, 100, 82, 111, 119, 115, 32, 108, 111, 111, 112, 46, 101, 120, 97, 109, 112, 108, 101, 47, 115, 99, 104, 101, 109, 97, 109, 105, 103, 114, 97, 116, 105, 111, 110, 47, 108, 97, 119, 115, 46, 70, 110, 69, 120, 97, 99, 116, 86, 97, 108, 105, 100, 84, 97, 98, 108, 101, 32, 108, 111, 111, 112, 46, 101, 120, 97, 109, 112, 108, 101, 47, 115, 99, 104, 101, 109, 97, 109, 105, 103, 114, 97, 116, 105, 111, 110, 47, 108, 97, 119, 115, 46, 70, 110, 84, 97, 98, 108, 101, 82, 111, 119, 115, 32, 108, 111, 111, 112, 46, 101, 120, 97, 109, 112, 108, 101, 47, 115, 99, 104, 101, 109, 97, 109, 105, 103, 114, 97, 116, 105, 111, 110, 47, 108, 97, 119, 115, 46, 70, 110, 69, 120, 97, 99, 116, 79, 108, 100, 82, 111, 119, 115, 32, 108, 111, 111, 112, 46, 101, 120, 97, 109, 112, 108, 101, 47, 115, 99, 104, 101, 109, 97, 109, 105, 103, 114, 97, 116, 105, 111, 110, 47, 108, 97, 119, 115, 46, 70, 110, 82, 101, 119, 114, 105, 116, 101, 82, 111, 119, 115, 83, 116, 101, 112, 115, 32, 108, 111, 111, 112, 46, 101, 120, 97, 109, 112, 108, 101, 47, 115, 99, 104, 101, 109, 97, 109, 105, 103, 114, 97, 116, 105, 111, 110, 47, 108, 97, 119, 115, 46, 70, 110, 73, 110, 115, 101, 114, 116, 82, 111, 119, 82, 101, 119, 114, 105, 116, 101, 32, 108, 111, 111, 112, 46, 101, 120, 97, 109, 112, 108, 101, 47, 115, 99, 104, 101, 109, 97, 109, 105, 103, 114, 97, 116, 105, 111, 110, 47, 108, 97, 119, 115, 46, 70, 110, 65, 108, 116, 101, 114, 84, 97, 98, 108, 101, 32, 108, 111, 111, 112, 46, 101, 120, 97, 109, 112, 108, 101, 47, 115, 99, 104, 101, 109, 97, 109, 105, 103, 114, 97, 116, 105, 111, 110, 47, 108, 97, 119, 115, 46, 70, 110, 73, 110, 115, 101, 114, 116, 82, 111, 119, 32, 108, 111, 111, 112, 46, 101, 120, 97, 109, 112, 108, 101, 47, 115, 99, 104, 101, 109, 97, 109, 105, 103, 114, 97, 116, 105, 111, 110, 47, 108, 97, 119, 115, 46, 70, 110, 82, 101, 119, 114, 105, 116, 101, 82, 111, 119, 115, 32, 108, 111, 111, 112, 46, 101, 120, 97, 109, 112, 108, 101, 47, 115, 99, 104, 101, 109, 97, 109, 105, 103, 114, 97, 116, 105, 111, 110, 47, 108, 97, 119, 115, 46, 70, 110, 69, 120, 97, 99, 116, 65, 108, 116, 101, 114, 84, 97, 98, 108, 101, 32, 108, 111, 111, 112, 46, 101, 120, 97, 109, 112, 108, 101, 47, 115, 99, 104, 101, 109, 97, 109, 105, 103, 114, 97, 116, 105, 111, 110, 47, 108, 97, 119, 115, 46, 70, 110, 69, 120, 97, 99, 116, 73, 110, 115, 101, 114, 116, 82, 111, 119]) := by kernel_rfl
theorem iniW : behindMainWord (wordsSigns Tryd.prog.initOrder.toList) = List.map Char.ofNat [99, 117, 116] :: List.map (List.map Char.ofNat) [[97, 116], [108, 111, 111, 112, 46, 101, 120, 97, 109, 112, 108, 101, 47, 115, 99, 104, 101, 109, 97, 109, 105, 103, 114, 97, 116, 105, 111, 110, 47, 108, 97, 119, 115, 46, 70, 110, 86, 97, 108, 105, 100, 84, 97, 98, 108, 101], [108, 111, 111, 112, 46, 101, 120, 97, 109, 112, 108, 101, 47, 115, 99, 104, 101, 109, 97, 109, 105, 103, 114, 97, 116, 105, 111, 110, 47, 108, 97, 119, 115, 46, 70, 110, 79, 108, 100, 82, 111, 119, 115], [108, 111, 111, 112, 46, 101, 120, 97, 109, 112, 108, 101, 47, 115, 99, 104, 101, 109, 97, 109, 105, 103, 114, 97, 116, 105, 111, 110, 47, 108, 97, 119, 115, 46, 70, 110, 69, 120, 97, 99, 116, 86, 97, 108, 105, 100, 84, 97, 98, 108, 101], [108, 111, 111, 112, 46, 101, 120, 97, 109, 112, 108, 101, 47, 115, 99, 104, 101, 109, 97, 109, 105, 103, 114, 97, 116, 105, 111, 110, 47, 108, 97, 119, 115, 46, 70, 110, 84, 97, 98, 108, 101, 82, 111, 119, 115], [108, 111, 111, 112, 46, 101, 120, 97, 109, 112, 108, 101, 47, 115, 99, 104, 101, 109, 97, 109, 105, 103, 114, 97, 116, 105, 111, 110, 47, 108, 97, 119, 115, 46, 70, 110, 69, 120, 97, 99, 116, 79, 108, 100, 82, 111, 119, 115], [108, 111, 111, 112, 46, 101, 120, 97, 109, 112, 108, 101, 47, 115, 99, 104, 101, 109, 97, 109, 105, 103, 114, 97, 116, 105, 111, 110, 47, 108, 97, 119, 115, 46, 70, 110, 82, 101, 119, 114, 105, 116, 101, 82, 111, 119, 115, 83, 116, 101, 112, 115], [108, 111, 111, 112, 46, 101, 120, 97, 109, 112, 108, 101, 47, 115, 99, 104, 101, 109, 97, 109, 105, 103, 114, 97, 116, 105, 111, 110, 47, 108, 97, 119, 115, 46, 70, 110, 73, 110, 115, 101, 114, 116, 82, 111, 119, 82, 101, 119, 114, 105, 116, 101], [108, 111, 111, 112, 46, 101, 120, 97, 109, 112, 108, 101, 47, 115, 99, 104, 101, 109, 97, 109, 105, 103, 114, 97, 116, 105, 111, 110, 47, 108, 97, 119, 115, 46, 70, 110, 65, 108, 116, 101, 114, 84, 97, 98, 108, 101], [108, 111, 111, 112, 46, 101, 120, 97, 109, 112, 108, 101, 47, 115, 99, 104, 101, 109, 97, 109, 105, 103, 114, 97, 116, 105, 111, 110, 47, 108, 97, 119, 115, 46, 70, 110, 73, 110, 115, 101, 114, 116, 82, 111, 119], [108, 111, 111, 112, 46, 101, 120, 97, 109, 112, 108, 101, 47, 115, 99, 104, 101, 109, 97, 109, 105, 103, 114, 97, 116, 105, 111, 110, 47, 108, 97, 119, 115, 46, 70, 110, 82, 101, 119, 114, 105, 116, 101, 82, 111, 119, 115], [108, 111, 111, 112, 46, 101, 120, 97, 109, 112, 108, 101, 47, 115, 99, 104, 101, 109, 97, 109, 105, 103, 114, 97, 116, 105, 111, 110, 47, 108, 97, 119, 115, 46, 70, 110, 69, 120, 97, 99, 116, 65, 108, 116, 101, 114, 84, 97, 98, 108, 101], [108, 111, 111, 112, 46, 101, 120, 97, 109, 112, 108, 101, 47, 115, 99, 104, 101, 109, 97, 109, 105, 103, 114, 97, 116, 105, 111, 110, 47, 108, 97, 119, 115, 46, 70, 110, 69, 120, 97, 99, 116, 73, 110, 115, 101, 114, 116, 82, 111, 119]] := by rw [iniT, String.toList_ofList]; kernel_rfl
theorem mayE : Tryd.prog.mayEnter = true := mayEnter_of iniW (by kernel_rfl) (by kernel_rfl) (by kernel_rfl) (by kernel_rfl) (by kernel_rfl)
theorem liftE : Tryd.prog.liftsFinal = false := by
  unfold Program.liftsFinal Program.headLifts
  rw [iniW]
  kernel_rfl
theorem make_cut {P : Program} {c : List Char} {rest : List (List Char)} (h : behindMainWord (wordsSigns P.initOrder.toList) = c :: rest) (h1 : (c == "gc".toList || c == "spec".toList) = false) (h2 : (c == "cut".toList || (c == "finals".toList && rest.head? == some "cut".toList)) = true) : P.make = some .cut := by
  unfold Program.make
  rw [h]
  simp only [h1, h2, if_true, Bool.false_eq_true, if_false]
theorem makeE : Tryd.prog.make = some .cut := make_cut iniW (by kernel_rfl) (by kernel_rfl)
end V
end Go.Proofs.YthhlkedkeefgnaaDoor
namespace Go.Proofs.YthhlkedkeefgnaaDoor
namespace V
set_option linter.unusedVariables false
set_option maxRecDepth 100000
open Go.ChangeShapes Go.WideShapes Go.ChangeAt Go.RowKit
/-- What the rows list. -/
def seatLaid : List (String × DataW Unit) := [("math/bits.deBruijn32tab", Rows.laid_math_bits_deBruijn32tab), ("math/bits.deBruijn64tab", Rows.laid_math_bits_deBruijn64tab), ("internal/strconv.uint64pow10", Rows.laid_internal_strconv_uint64pow10)]
/-- How many steps the door's run takes. -/
def doorN : Nat := 24
theorem door_met (os : Os) (args : Array Value) : laidMetH Tryd.prog seatLaid ((World.doorLaid Tryd.prog doorN os).forCall (fun _ _ => 0) ⟨#[], args, []⟩).memory :=
  laidMetH_of_parts3 (fuel := 8) (laidMet_of_run' 8 (by kernel_rfl) (by kernel_rfl)) (by kernel_rfl) (by kernel_rfl)
theorem gPow : Tryd.prog.globalNamed "internal/strconv.uint64pow10" = some 0 := by kernel_rfl
theorem tPow : (Tryd.prog.globals[0]?).map (·.type) = some 167 := by kernel_rfl
theorem onePow : (seatLaid.filter fun x => x.1 == "internal/strconv.uint64pow10") = [("internal/strconv.uint64pow10", Lib.tabData .u64 Lib.pow10Tab)] := by kernel_rfl
theorem tabOk_laid {W : World} (h : laidMetH Tryd.prog seatLaid W) : TabOk W (· < W.heap.size) := by
  rw [MakeChecks.laidMetH_plain _ _ _ (by kernel_rfl)] at h
  have h2 := laidMet.filter (fun x => x.1 == "internal/strconv.uint64pow10") h
  rw [onePow] at h2
  have h3 := Lib.tabIs_of_head gPow tPow Tryd.underlying167 Tryd.underlying162 (by kernel_rfl) (by kernel_rfl) h2
  exact ⟨0, gPow, cell_lt (h3.cell gPow 0 (by decide)), h3⟩
end V
end Go.Proofs.YthhlkedkeefgnaaDoor
namespace Go.Proofs.YthhlkedkeefgnaaDoor
namespace V
open Enc (enc)
set_option linter.unusedVariables false
set_option linter.unusedSimpArgs false
set_option maxHeartbeats 4000000
set_option maxRecDepth 100000
open Go.RowKit
attribute [local irreducible] thA inA FinA eL
open Szd (szd)
open Go.ChangeShapes Go.WideShapes Go.ChangeAt
instance : Opn Tryd.prog UInt8 5 := Opn.u8 Tryd.underlying5
instance : Opn Tryd.prog (List UInt8) 22 := Opn.sl Tryd.underlying22 (by kernel_rfl) (by decide)
end V
end Go.Proofs.YthhlkedkeefgnaaDoor
