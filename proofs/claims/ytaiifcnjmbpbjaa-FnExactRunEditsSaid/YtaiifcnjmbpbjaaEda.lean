/- Edits: the functions of the program and of the reference. No condition. -/
import Derived.Test.YtaiifcnjmbpbjaaFnEq
import Derived.Test.YtaiifcnjmbpbjaaGenD
namespace Go.Proofs.Ytaiifcnjmbpbjaa
namespace V
open Enc (enc)
set_option linter.unusedVariables false
set_option linter.unusedSimpArgs false
set_option maxHeartbeats 4000000
set_option maxRecDepth 100000
open Go.RowKit
attribute [local irreducible] thA inA FinA eL

structure I_Edit where
  owner : Int
  thing : Int
  old_ : Int
  new_ : Int
deriving DecidableEq
instance : Enc I_Edit := ⟨fun x => [.v (.int .i64 x.owner), .v (.int .i64 x.thing), .v (.int .i64 x.old_), .v (.int .i64 x.new_)], 4, fun _ => rfl⟩
instance : EncF I_Edit := ⟨fun _ c h => by simp [enc] at h; rcases h with h | h | h | h <;> exact ⟨_, h⟩⟩
def m_I_validStore_k1 (N : Nat) : Option (Bool) :=
  some true
def m_I_validStore_b1 (N : Nat) (p_s : (List Int)) (i3 : Int) : Option (Int ⊕ (Unit ⊕ Bool)) :=
  cond (decide (i3 < (p_s.length : Int)))
    ((ixI p_s i3).bind fun x17 =>
    cond (decide (x17 < (0 : Int)))
      (some (.inr (.inr false)))
      (cond (decide ((999999 : Int) < x17))
        (some (.inr (.inr false)))
        ((chk (i3 + (1 : Int))).bind fun n21 =>
        some (.inl n21))))
    (some (.inr (.inl ())))
def m_I_validStore (N : Nat) (p_s : (List Int)) : Option (Bool) :=
  cond (decide ((p_s.length : Int) < (1 : Int)))
    (some false)
    (cond (decide ((6 : Int) < (p_s.length : Int)))
      (some false)
      ((loopM (β := Unit ⊕ Bool) (fun s : Int => m_I_validStore_b1 N p_s s) N (0 : Int)).bind fun o => match o with
      | .inl e =>
        m_I_validStore_k1 N 
      | .inr v =>
        some v))
theorem w_I_validStore (N : Nat) (p_s : (List Int)) (r : Bool) (hh0 : m_I_validStore N p_s = some r) : FnX Try.prog 17 [] [sL p_s] (RE (bA r) []) := by
  unfold m_I_validStore at hh0
  refine FnX.mk Try.func17 rfl rfl ?_
  intro s hs
  refine PC.seq ?_
  refine PC.region ?_
  refine PL.op rfl (Rd.asnT rfl) ?_
  refine PL.nil ?_
  refine thA_n ?_
  refine PC.seq ?_
  refine PC.seq ?_
  rcases cond_some hh0 with ⟨h_1, hh0⟩ | ⟨h_1, hh0⟩
  · refine PC.region ?_
    refine PL.op rfl (Rd.moveT rfl) ?_
    refine PL.op rfl (Rd.lenT rfl) ?_
    refine PL.op rfl (Rd.lss rfl rfl) ?_
    refine PL.op rfl (Rd.moveT rfl) ?_
    refine PL.guard_off rfl rfl h_1 ?_
    refine PL.guard_off rfl rfl h_1 ?_
    refine PL.guard_off rfl rfl h_1 ?_
    refine PL.op rfl (Rd.pick_t rfl h_1) ?_
    refine PL.nil ?_
    refine thA_n ?_
    refine PC.cond_true rfl rfl ?_
    refine PC.seq ?_
    refine PC.region ?_
    refine PL.op rfl (Rd.asnT rfl) ?_
    refine PL.nil ?_
    refine thA_n ?_
    refine PC.ret ?_
    refine thA_r ?_
    obtain rfl := some_in hh0
    exact FinA.mk (r := bA false) (bl := []) [] (.inl rfl) rfl (rl := [.tmp 2]) (.tmp .nil) rfl rfl rfl (.t _) trivial ⟨rfl, rfl⟩
  refine PC.region ?_
  refine PL.op rfl (Rd.moveT rfl) ?_
  refine PL.op rfl (Rd.lenT rfl) ?_
  refine PL.op rfl (Rd.lss rfl rfl) ?_
  refine PL.op rfl (Rd.moveT rfl) ?_
  refine PL.guard_on rfl h_1 ?_
  refine PL.op rfl (Rd.moveT rfl) ?_
  refine PL.guard_on rfl h_1 ?_
  refine PL.op rfl (Rd.lenT rfl) ?_
  refine PL.guard_on rfl h_1 ?_
  refine PL.op rfl (Rd.gtr rfl rfl) ?_
  refine PL.op rfl (Rd.pick_f rfl h_1) ?_
  refine PL.nil ?_
  refine thA_n ?_
  rcases cond_some hh0 with ⟨h_2, hh0⟩ | ⟨h_2, hh0⟩
  · refine PC.cond_true rfl h_2 ?_
    refine PC.seq ?_
    refine PC.region ?_
    refine PL.op rfl (Rd.asnT rfl) ?_
    refine PL.nil ?_
    refine thA_n ?_
    refine PC.ret ?_
    refine thA_r ?_
    obtain rfl := some_in hh0
    exact FinA.mk (r := bA false) (bl := []) [] (.inl rfl) rfl (rl := [.tmp 2]) (.tmp .nil) rfl rfl rfl (.t _) trivial ⟨rfl, rfl⟩
  refine PC.cond_false rfl h_2 ?_
  refine PC.skip ?_
  refine thA_n ?_
  refine PC.seq ?_
  refine PC.seq ?_
  refine PC.region ?_
  refine PL.op rfl (Rd.moveT rfl) ?_
  refine PL.op rfl (Rd.lenT rfl) ?_
  refine PL.op rfl (Rd.moveT rfl) ?_
  refine PL.nil ?_
  refine thA_n ?_
  obtain ⟨o11, h_12, hh0⟩ := bind_some hh0
  refine PC.cutE hs (fun x : Unit => []) (fun x => []) (fun x => m_I_validStore_k1 N  = some r) ?_ ?_
  · refine PC.block ?_
    refine PC.loop hs (fun x : Nat × (Int) => [(13, sL p_s), (14, iA (p_s.length : Int)), (15, iA x.2)]) (fun x => []) (fun x => loopM (β := Unit ⊕ Bool) (fun s : Int => m_I_validStore_b1 N p_s s) x.1 x.2 = some o11) (fun x => x.1) (N, (0 : Int)) [] ⟨rfl, rfl, trivial, ⟨.t _, .t _, .t _, trivial⟩⟩ h_12 ?_
    rintro ⟨f13_, i3⟩ h_15
    obtain ⟨f13, y14, rfl, hh1, kk1⟩ := loopM_some h_15
    replace hh1 : m_I_validStore_b1 N p_s i3 = some y14 := hh1
    unfold m_I_validStore_b1 at hh1
    refine PC.seq ?_
    refine PC.region ?_
    refine PL.op rfl (Rd.lss rfl rfl) ?_
    refine PL.nil ?_
    refine thA_n ?_
    refine PC.seq ?_
    rcases cond_some hh1 with ⟨h_16, hh1⟩ | ⟨h_16, hh1⟩
    rotate_left
    · refine PC.cond_false rfl h_16 ?_
      refine PC.exit ?_
      refine thA_e ?_
      refine thA_e ?_
      refine inA_eq rfl ?_
      refine thA_n ?_
      obtain rfl := some_in hh1
      obtain rfl : (.inl () : Unit ⊕ Bool) = o11 := kk1
      exact ⟨(), hh0, [], ⟨rfl, rfl, trivial, trivial⟩⟩
    refine PC.cond_true rfl h_16 ?_
    refine PC.skip ?_
    refine thA_n ?_
    refine PC.seq ?_
    refine PC.block ?_
    refine PC.seq ?_
    obtain ⟨x17, h_18, hh1⟩ := bind_some hh1
    refine PC.region ?_
    refine PL.op rfl (Rd.ixM rfl rfl h_18) ?_
    refine PL.op rfl (Rd.elM1 rfl h_18 rfl rfl) ?_
    refine PL.op rfl (Rd.asnT rfl) ?_
    refine PL.nil ?_
    refine thA_n ?_
    refine PC.seq ?_
    rcases cond_some hh1 with ⟨h_19, hh1⟩ | ⟨h_19, hh1⟩
    · refine PC.region ?_
      refine PL.op rfl (Rd.moveT rfl) ?_
      refine PL.op rfl (Rd.lss rfl rfl) ?_
      refine PL.op rfl (Rd.moveT rfl) ?_
      refine PL.guard_off rfl rfl h_19 ?_
      refine PL.guard_off rfl rfl h_19 ?_
      refine PL.op rfl (Rd.pick_t rfl h_19) ?_
      refine PL.nil ?_
      refine thA_n ?_
      refine PC.cond_true rfl rfl ?_
      refine PC.seq ?_
      refine PC.region ?_
      refine PL.op rfl (Rd.asnT rfl) ?_
      refine PL.nil ?_
      refine thA_n ?_
      refine PC.ret ?_
      refine inA_r ?_
      refine thA_r ?_
      refine thA_r ?_
      refine inA_r ?_
      refine thA_r ?_
      obtain rfl := some_in hh1
      obtain rfl : (.inr false : Unit ⊕ Bool) = o11 := kk1
      refine thA_r ?_
      obtain rfl := some_in hh0
      exact FinA.mk (r := bA false) (bl := []) [] (.inl rfl) rfl (rl := [.tmp 2]) (.tmp .nil) rfl rfl rfl (.t _) trivial ⟨rfl, rfl⟩
    refine PC.region ?_
    refine PL.op rfl (Rd.moveT rfl) ?_
    refine PL.op rfl (Rd.lss rfl rfl) ?_
    refine PL.op rfl (Rd.moveT rfl) ?_
    refine PL.guard_on rfl h_19 ?_
    refine PL.op rfl (Rd.moveT rfl) ?_
    refine PL.guard_on rfl h_19 ?_
    refine PL.op rfl (Rd.gtr rfl rfl) ?_
    refine PL.op rfl (Rd.pick_f rfl h_19) ?_
    refine PL.nil ?_
    refine thA_n ?_
    rcases cond_some hh1 with ⟨h_20, hh1⟩ | ⟨h_20, hh1⟩
    rotate_left
    · refine PC.cond_false rfl h_20 ?_
      refine PC.skip ?_
      refine inA_n ?_
      refine thA_n ?_
      obtain ⟨n21, h_22, hh1⟩ := bind_some hh1
      refine PC.region ?_
      refine PL.op rfl (Rd.addM rfl rfl h_22) ?_
      refine PL.op rfl (Rd.moveT rfl) ?_
      refine PL.nil ?_
      obtain rfl := some_in hh1
      refine thA_n ?_
      exact ⟨(f13, n21), Nat.lt_succ_self _, kk1, [], ⟨rfl, rfl, trivial, ⟨.t _, .t _, .t _, trivial⟩⟩⟩
    refine PC.cond_true rfl h_20 ?_
    refine PC.seq ?_
    refine PC.region ?_
    refine PL.op rfl (Rd.asnT rfl) ?_
    refine PL.nil ?_
    refine thA_n ?_
    refine PC.ret ?_
    refine inA_r ?_
    refine thA_r ?_
    refine thA_r ?_
    refine inA_r ?_
    refine thA_r ?_
    obtain rfl := some_in hh1
    obtain rfl : (.inr false : Unit ⊕ Bool) = o11 := kk1
    refine thA_r ?_
    obtain rfl := some_in hh0
    exact FinA.mk (r := bA false) (bl := []) [] (.inl rfl) rfl (rl := [.tmp 2]) (.tmp .nil) rfl rfl rfl (.t _) trivial ⟨rfl, rfl⟩
  clear hh0
  rintro ⟨⟩ hh0
  replace hh0 : m_I_validStore_k1 N  = some r := hh0
  unfold m_I_validStore_k1 at hh0
  refine thA_n ?_
  refine PC.seq ?_
  refine PC.region ?_
  refine PL.op rfl (Rd.asnT rfl) ?_
  refine PL.nil ?_
  refine thA_n ?_
  refine PC.ret ?_
  obtain rfl := some_in hh0
  exact FinA.mk (r := bA true) (bl := []) [] (.inl rfl) rfl (rl := [.tmp 2]) (.tmp .nil) rfl rfl rfl (.t _) trivial ⟨rfl, rfl⟩

def m_slices_Clone_int (N : Nat) (p_s : List Int) : Option (List Int) := appM 8 ([] : List Int) p_s
theorem w_slices_Clone_int (N : Nat) (p_s : List Int) (r : List Int) (hh0 : m_slices_Clone_int N p_s = some r) : FnX Try.prog 18 [] [sL p_s] (RE (.os 0 0 r.length) [⟨.tr (eL r), 3, 1⟩]) := by
  unfold m_slices_Clone_int at hh0
  have hr := (appM_spec hh0).1
  simp only [List.nil_append] at hr
  refine FnX.mk Try.func18 rfl rfl ?_
  intro s hs
  refine PC.seq ?_
  refine PC.region ?_
  refine PL.op rfl (Rd.asnT rfl) ?_
  refine PL.nil ?_
  refine thA_n ?_
  refine PC.seq ?_
  refine PC.seq ?_
  refine PC.region ?_
  refine PL.op rfl (Rd.moveT rfl) ?_
  refine PL.eqNil rfl rfl rfl ?_
  intro b hb
  refine PL.nil ?_
  refine thA_n ?_
  cases b with
  | true =>
    have h0 : p_s = [] := List.eq_nil_of_length_eq_zero (hb rfl)
    subst h0; subst hr
    refine PC.cond_true rfl rfl ?_
    refine PC.seq ?_
    refine PC.region ?_
    refine PL.op rfl (Rd.asnT rfl) ?_
    refine PL.nil ?_
    refine thA_n ?_
    refine PC.ret ?_
    refine thA_r ?_
    exact FinA.mk (r := .os 0 0 0) (bl := [⟨.tr (eL ([] : List Int)), 3, 1⟩]) [none] (.inl rfl) rfl (rl := [.tmp 2]) (.tmp .nil) rfl rfl rfl (.osn rfl) ⟨ow_nil _, trivial⟩ ⟨rfl, rfl⟩
  | false =>
    clear hr
    refine PC.cond_false rfl rfl ?_
    refine PC.skip ?_
    refine thA_n ?_
    refine PC.seq ?_
    refine PC.region ?_
    refine PL.ef rfl (Ef.lit0M Int) ?_
    refine PL.op rfl (Rd.moveT rfl) ?_
    refine PL.apM hs rfl rfl rfl rfl (SrcA.eL rfl) rfl rfl rfl rfl hh0 ?_
    refine PL.op rfl (Rd.asnO rfl) ?_
    refine PL.nil ?_
    refine thA_n ?_
    refine PC.ret ?_
    exact FinA.mk (r := .os 0 0 r.length) (bl := [⟨.tr (eL r), 3, 1⟩]) [some 1] (.inl rfl) rfl (rl := [.tmp 2]) (.tmp .nil) rfl rfl rfl (.os rfl) ⟨⟨_, rfl, rfl, rfl, .tr _⟩, trivial⟩ ⟨rfl, rfl⟩

def m_I_Edit_possible (N : Nat) (p_e : I_Edit) (p_s : (List Int)) : Option (Bool) :=
  cond (decide (p_e.owner < (0 : Int)))
    (some false)
    (cond (decide ((7 : Int) < p_e.owner))
      (some false)
      (cond (decide (p_e.thing < (0 : Int)))
        (some false)
        (cond (decide ((p_s.length : Int) ≤ p_e.thing))
          (some false)
          (cond (decide ((0 : Int) ≤ p_e.new_))
            (cond (decide (p_e.new_ ≤ (999999 : Int)))
              ((ixI p_s p_e.thing).bind fun x7 =>
              some (decide (x7 = p_e.old_)))
              (some false))
            (some false)))))
theorem w_I_Edit_possible (N : Nat) (p_e : I_Edit) (p_s : (List Int)) (r : Bool) (hh0 : m_I_Edit_possible N p_e p_s = some r) : FnX Try.prog 19 [] [.agg [iA p_e.owner, iA p_e.thing, iA p_e.old_, iA p_e.new_], sL p_s] (RE (bA r) []) := by
  unfold m_I_Edit_possible at hh0
  refine FnX.mk Try.func19 rfl rfl ?_
  intro s hs
  refine PC.seq ?_
  refine PC.region ?_
  refine PL.ef rfl (Ef.box rfl rfl rfl) ?_
  refine PL.nm (.op 0 0) [some ⟨.mx [iA p_e.owner, iA p_e.thing, iA p_e.old_, iA p_e.new_], 38, 0⟩] rfl rfl ?_
  refine PL.op rfl (Rd.asnT rfl) ?_
  refine PL.nil ?_
  refine thA_n ?_
  refine PC.seq ?_
  refine PC.seq ?_
  rcases cond_some hh0 with ⟨h_1, hh0⟩ | ⟨h_1, hh0⟩
  · refine PC.region ?_
    refine PL.op rfl (Rd.fieldO rfl rfl) ?_
    refine PL.op rfl (Rd.loadO rfl rfl rfl) ?_
    refine PL.op rfl (Rd.lss rfl rfl) ?_
    refine PL.op rfl (Rd.moveT rfl) ?_
    refine PL.guard_off rfl rfl h_1 ?_
    refine PL.guard_off rfl rfl h_1 ?_
    refine PL.guard_off rfl rfl h_1 ?_
    refine PL.op rfl (Rd.pick_t rfl h_1) ?_
    refine PL.op rfl (Rd.moveT rfl) ?_
    refine PL.guard_off rfl rfl rfl ?_
    refine PL.guard_off rfl rfl rfl ?_
    refine PL.guard_off rfl rfl rfl ?_
    refine PL.op rfl (Rd.pick_t rfl rfl) ?_
    refine PL.op rfl (Rd.moveT rfl) ?_
    refine PL.guard_off rfl rfl rfl ?_
    refine PL.guard_off rfl rfl rfl ?_
    refine PL.guard_off rfl rfl rfl ?_
    refine PL.guard_off rfl rfl rfl ?_
    refine PL.guard_off rfl rfl rfl ?_
    refine PL.op rfl (Rd.pick_t rfl rfl) ?_
    refine PL.nil ?_
    refine thA_n ?_
    refine PC.cond_true rfl rfl ?_
    refine PC.seq ?_
    refine PC.region ?_
    refine PL.op rfl (Rd.asnT rfl) ?_
    refine PL.nil ?_
    refine thA_n ?_
    refine PC.ret ?_
    refine thA_r ?_
    obtain rfl := some_in hh0
    exact FinA.mk (r := bA false) (bl := []) [] (.inl rfl) rfl (rl := [.tmp 4]) (.tmp .nil) rfl rfl rfl (.t _) trivial ⟨rfl, rfl⟩
  rcases cond_some hh0 with ⟨h_2, hh0⟩ | ⟨h_2, hh0⟩
  · refine PC.region ?_
    refine PL.op rfl (Rd.fieldO rfl rfl) ?_
    refine PL.op rfl (Rd.loadO rfl rfl rfl) ?_
    refine PL.op rfl (Rd.lss rfl rfl) ?_
    refine PL.op rfl (Rd.moveT rfl) ?_
    refine PL.guard_on rfl h_1 ?_
    refine PL.op rfl (Rd.fieldO rfl rfl) ?_
    refine PL.guard_on rfl h_1 ?_
    refine PL.op rfl (Rd.loadO rfl rfl rfl) ?_
    refine PL.guard_on rfl h_1 ?_
    refine PL.op rfl (Rd.gtr rfl rfl) ?_
    refine PL.op rfl (Rd.pick_f rfl h_1) ?_
    refine PL.op rfl (Rd.moveT rfl) ?_
    refine PL.guard_off rfl rfl h_2 ?_
    refine PL.guard_off rfl rfl h_2 ?_
    refine PL.guard_off rfl rfl h_2 ?_
    refine PL.op rfl (Rd.pick_t rfl h_2) ?_
    refine PL.op rfl (Rd.moveT rfl) ?_
    refine PL.guard_off rfl rfl rfl ?_
    refine PL.guard_off rfl rfl rfl ?_
    refine PL.guard_off rfl rfl rfl ?_
    refine PL.guard_off rfl rfl rfl ?_
    refine PL.guard_off rfl rfl rfl ?_
    refine PL.op rfl (Rd.pick_t rfl rfl) ?_
    refine PL.nil ?_
    refine thA_n ?_
    refine PC.cond_true rfl rfl ?_
    refine PC.seq ?_
    refine PC.region ?_
    refine PL.op rfl (Rd.asnT rfl) ?_
    refine PL.nil ?_
    refine thA_n ?_
    refine PC.ret ?_
    refine thA_r ?_
    obtain rfl := some_in hh0
    exact FinA.mk (r := bA false) (bl := []) [] (.inl rfl) rfl (rl := [.tmp 4]) (.tmp .nil) rfl rfl rfl (.t _) trivial ⟨rfl, rfl⟩
  rcases cond_some hh0 with ⟨h_3, hh0⟩ | ⟨h_3, hh0⟩
  · refine PC.region ?_
    refine PL.op rfl (Rd.fieldO rfl rfl) ?_
    refine PL.op rfl (Rd.loadO rfl rfl rfl) ?_
    refine PL.op rfl (Rd.lss rfl rfl) ?_
    refine PL.op rfl (Rd.moveT rfl) ?_
    refine PL.guard_on rfl h_1 ?_
    refine PL.op rfl (Rd.fieldO rfl rfl) ?_
    refine PL.guard_on rfl h_1 ?_
    refine PL.op rfl (Rd.loadO rfl rfl rfl) ?_
    refine PL.guard_on rfl h_1 ?_
    refine PL.op rfl (Rd.gtr rfl rfl) ?_
    refine PL.op rfl (Rd.pick_f rfl h_1) ?_
    refine PL.op rfl (Rd.moveT rfl) ?_
    refine PL.guard_on rfl h_2 ?_
    refine PL.op rfl (Rd.fieldO rfl rfl) ?_
    refine PL.guard_on rfl h_2 ?_
    refine PL.op rfl (Rd.loadO rfl rfl rfl) ?_
    refine PL.guard_on rfl h_2 ?_
    refine PL.op rfl (Rd.lss rfl rfl) ?_
    refine PL.op rfl (Rd.pick_f rfl h_2) ?_
    refine PL.op rfl (Rd.moveT rfl) ?_
    refine PL.guard_off rfl rfl h_3 ?_
    refine PL.guard_off rfl rfl h_3 ?_
    refine PL.guard_off rfl rfl h_3 ?_
    refine PL.guard_off rfl rfl h_3 ?_
    refine PL.guard_off rfl rfl h_3 ?_
    refine PL.op rfl (Rd.pick_t rfl h_3) ?_
    refine PL.nil ?_
    refine thA_n ?_
    refine PC.cond_true rfl rfl ?_
    refine PC.seq ?_
    refine PC.region ?_
    refine PL.op rfl (Rd.asnT rfl) ?_
    refine PL.nil ?_
    refine thA_n ?_
    refine PC.ret ?_
    refine thA_r ?_
    obtain rfl := some_in hh0
    exact FinA.mk (r := bA false) (bl := []) [] (.inl rfl) rfl (rl := [.tmp 4]) (.tmp .nil) rfl rfl rfl (.t _) trivial ⟨rfl, rfl⟩
  refine PC.region ?_
  refine PL.op rfl (Rd.fieldO rfl rfl) ?_
  refine PL.op rfl (Rd.loadO rfl rfl rfl) ?_
  refine PL.op rfl (Rd.lss rfl rfl) ?_
  refine PL.op rfl (Rd.moveT rfl) ?_
  refine PL.guard_on rfl h_1 ?_
  refine PL.op rfl (Rd.fieldO rfl rfl) ?_
  refine PL.guard_on rfl h_1 ?_
  refine PL.op rfl (Rd.loadO rfl rfl rfl) ?_
  refine PL.guard_on rfl h_1 ?_
  refine PL.op rfl (Rd.gtr rfl rfl) ?_
  refine PL.op rfl (Rd.pick_f rfl h_1) ?_
  refine PL.op rfl (Rd.moveT rfl) ?_
  refine PL.guard_on rfl h_2 ?_
  refine PL.op rfl (Rd.fieldO rfl rfl) ?_
  refine PL.guard_on rfl h_2 ?_
  refine PL.op rfl (Rd.loadO rfl rfl rfl) ?_
  refine PL.guard_on rfl h_2 ?_
  refine PL.op rfl (Rd.lss rfl rfl) ?_
  refine PL.op rfl (Rd.pick_f rfl h_2) ?_
  refine PL.op rfl (Rd.moveT rfl) ?_
  refine PL.guard_on rfl h_3 ?_
  refine PL.op rfl (Rd.fieldO rfl rfl) ?_
  refine PL.guard_on rfl h_3 ?_
  refine PL.op rfl (Rd.loadO rfl rfl rfl) ?_
  refine PL.guard_on rfl h_3 ?_
  refine PL.op rfl (Rd.moveT rfl) ?_
  refine PL.guard_on rfl h_3 ?_
  refine PL.op rfl (Rd.lenT rfl) ?_
  refine PL.guard_on rfl h_3 ?_
  refine PL.op rfl (Rd.geq rfl rfl) ?_
  refine PL.op rfl (Rd.pick_f rfl h_3) ?_
  refine PL.nil ?_
  refine thA_n ?_
  rcases cond_some hh0 with ⟨h_4, hh0⟩ | ⟨h_4, hh0⟩
  · refine PC.cond_true rfl h_4 ?_
    refine PC.seq ?_
    refine PC.region ?_
    refine PL.op rfl (Rd.asnT rfl) ?_
    refine PL.nil ?_
    refine thA_n ?_
    refine PC.ret ?_
    refine thA_r ?_
    obtain rfl := some_in hh0
    exact FinA.mk (r := bA false) (bl := []) [] (.inl rfl) rfl (rl := [.tmp 4]) (.tmp .nil) rfl rfl rfl (.t _) trivial ⟨rfl, rfl⟩
  refine PC.cond_false rfl h_4 ?_
  refine PC.skip ?_
  refine thA_n ?_
  refine PC.seq ?_
  rcases cond_some hh0 with ⟨h_5, hh0⟩ | ⟨h_5, hh0⟩
  rotate_left
  · refine PC.any (id := 3) 19 (.seg [0, 1, 2, 3, 4, 5, 6, 7, 8, 9, 10, 11, 12, 13, 14, 15, 16, 17, 18] .done) [] rfl (by kernel_rfl) rfl ?_
    refine PT.seg ?_
    refine PR.op rfl (Rd.fieldO rfl rfl) ?_
    refine PR.op rfl (Rd.loadO rfl rfl rfl) ?_
    refine PR.op rfl (Rd.geq rfl rfl) ?_
    refine PR.op rfl (Rd.moveT rfl) ?_
    refine PR.guard_off rfl rfl h_5 ?_
    refine PR.guard_off rfl rfl h_5 ?_
    refine PR.guard_off rfl rfl h_5 ?_
    refine PR.op rfl (Rd.pick_f rfl h_5) ?_
    refine PR.op rfl (Rd.moveT rfl) ?_
    refine PR.guard_off rfl rfl rfl ?_
    refine PR.guard_off rfl rfl rfl ?_
    refine PR.guard_off rfl rfl rfl ?_
    refine PR.guard_off rfl rfl rfl ?_
    refine PR.guard_off rfl rfl rfl ?_
    refine PR.guard_off rfl rfl rfl ?_
    refine PR.guard_off rfl rfl rfl ?_
    refine PR.guard_off rfl rfl rfl ?_
    refine PR.op rfl (Rd.pick_f rfl rfl) ?_
    refine PR.op rfl (Rd.asnT rfl) ?_
    refine PR.nil ?_
    refine PT.done ?_
    refine PL.nil ?_
    refine thA_n ?_
    refine PC.ret ?_
    obtain rfl := some_in hh0
    exact FinA.mk (r := bA false) (bl := []) [] (.inl rfl) rfl (rl := [.tmp 4]) (.tmp .nil) rfl rfl rfl (.t _) trivial ⟨rfl, rfl⟩
  rcases cond_some hh0 with ⟨h_6, hh0⟩ | ⟨h_6, hh0⟩
  rotate_left
  · refine PC.any (id := 3) 19 (.seg [0, 1, 2, 3, 4, 5, 6, 7, 8, 9, 10, 11, 12, 13, 14, 15, 16, 17, 18] .done) [] rfl (by kernel_rfl) rfl ?_
    refine PT.seg ?_
    refine PR.op rfl (Rd.fieldO rfl rfl) ?_
    refine PR.op rfl (Rd.loadO rfl rfl rfl) ?_
    refine PR.op rfl (Rd.geq rfl rfl) ?_
    refine PR.op rfl (Rd.moveT rfl) ?_
    refine PR.guard_on rfl rfl h_5 ?_
    refine PR.op rfl (Rd.fieldO rfl rfl) ?_
    refine PR.guard_on rfl rfl h_5 ?_
    refine PR.op rfl (Rd.loadO rfl rfl rfl) ?_
    refine PR.guard_on rfl rfl h_5 ?_
    refine PR.op rfl (Rd.leq rfl rfl) ?_
    refine PR.op rfl (Rd.pick_t rfl h_5) ?_
    refine PR.op rfl (Rd.moveT rfl) ?_
    refine PR.guard_off rfl rfl h_6 ?_
    refine PR.guard_off rfl rfl h_6 ?_
    refine PR.guard_off rfl rfl h_6 ?_
    refine PR.guard_off rfl rfl h_6 ?_
    refine PR.guard_off rfl rfl h_6 ?_
    refine PR.guard_off rfl rfl h_6 ?_
    refine PR.guard_off rfl rfl h_6 ?_
    refine PR.guard_off rfl rfl h_6 ?_
    refine PR.op rfl (Rd.pick_f rfl h_6) ?_
    refine PR.op rfl (Rd.asnT rfl) ?_
    refine PR.nil ?_
    refine PT.done ?_
    refine PL.nil ?_
    refine thA_n ?_
    refine PC.ret ?_
    obtain rfl := some_in hh0
    exact FinA.mk (r := bA false) (bl := []) [] (.inl rfl) rfl (rl := [.tmp 4]) (.tmp .nil) rfl rfl rfl (.t _) trivial ⟨rfl, rfl⟩
  obtain ⟨x7, h_8, hh0⟩ := bind_some hh0
  refine PC.any (id := 3) 19 (.seg [0, 1, 2, 3, 4, 5, 6, 7, 8, 9, 10, 11, 12, 13, 14, 15, 16, 17, 18] .done) [] rfl (by kernel_rfl) rfl ?_
  refine PT.seg ?_
  refine PR.op rfl (Rd.fieldO rfl rfl) ?_
  refine PR.op rfl (Rd.loadO rfl rfl rfl) ?_
  refine PR.op rfl (Rd.geq rfl rfl) ?_
  refine PR.op rfl (Rd.moveT rfl) ?_
  refine PR.guard_on rfl rfl h_5 ?_
  refine PR.op rfl (Rd.fieldO rfl rfl) ?_
  refine PR.guard_on rfl rfl h_5 ?_
  refine PR.op rfl (Rd.loadO rfl rfl rfl) ?_
  refine PR.guard_on rfl rfl h_5 ?_
  refine PR.op rfl (Rd.leq rfl rfl) ?_
  refine PR.op rfl (Rd.pick_t rfl h_5) ?_
  refine PR.op rfl (Rd.moveT rfl) ?_
  refine PR.guard_on rfl rfl h_6 ?_
  refine PR.op rfl (Rd.moveT rfl) ?_
  refine PR.guard_on rfl rfl h_6 ?_
  refine PR.op rfl (Rd.fieldO rfl rfl) ?_
  refine PR.guard_on rfl rfl h_6 ?_
  refine PR.op rfl (Rd.loadO rfl rfl rfl) ?_
  refine PR.guard_on rfl rfl h_6 ?_
  refine PR.op rfl (Rd.ixM rfl rfl h_8) ?_
  refine PR.guard_on rfl rfl h_6 ?_
  refine PR.op rfl (Rd.elM1 rfl h_8 rfl rfl) ?_
  refine PR.guard_on rfl rfl h_6 ?_
  refine PR.op rfl (Rd.fieldO rfl rfl) ?_
  refine PR.guard_on rfl rfl h_6 ?_
  refine PR.op rfl (Rd.loadO rfl rfl rfl) ?_
  refine PR.guard_on rfl rfl h_6 ?_
  refine PR.op rfl (Rd.eql rfl rfl) ?_
  refine PR.op rfl (Rd.pick_t rfl h_6) ?_
  refine PR.op rfl (Rd.asnT rfl) ?_
  refine PR.nil ?_
  refine PT.done ?_
  refine PL.nil ?_
  refine thA_n ?_
  refine PC.ret ?_
  obtain rfl := some_in hh0
  exact FinA.mk (r := bA (decide (x7 = p_e.old_))) (bl := []) [] (.inl rfl) rfl (rl := [.tmp 4]) (.tmp .nil) rfl rfl rfl (.t _) trivial ⟨rfl, rfl⟩

def m_I_RunEdits_k1 (N : Nat) (v19 : (List Int)) : Option ((List Int) × Bool) :=
  some (v19, true)
def m_I_RunEdits_b1 (N : Nat) (p_list : (List I_Edit)) (i7 : Int) (v8 : (List Int)) : Option ((Int × (List Int)) ⊕ ((List Int) ⊕ ((List Int) × Bool))) :=
  cond (decide (i7 < (p_list.length : Int)))
    ((ixI p_list i7).bind fun x26 =>
    (m_I_Edit_possible N x26 v8).bind fun r28 =>
    cond r28
      ((ixI v8 x26.thing).bind fun x31 =>
      (chk (i7 + (1 : Int))).bind fun n33 =>
      some (.inl (n33, (v8.set x26.thing.toNat x26.new_))))
      (some (.inr (.inr (([] : List Int), false)))))
    (some (.inr (.inl v8)))
def m_I_RunEdits (N : Nat) (p_s : (List Int)) (p_list : (List I_Edit)) : Option ((List Int) × Bool) :=
  (m_I_validStore N p_s).bind fun r1 =>
  cond r1
    (cond (decide ((20 : Int) < (p_list.length : Int)))
      (some (([] : List Int), false))
      ((m_slices_Clone_int N p_s).bind fun r5 =>
      (loopM (β := (List Int) ⊕ ((List Int) × Bool)) (fun s : Int × (List Int) => m_I_RunEdits_b1 N p_list s.1 s.2) N ((0 : Int), r5)).bind fun o => match o with
      | .inl e =>
        m_I_RunEdits_k1 N e
      | .inr v =>
        some v))
    (some (([] : List Int), false))
theorem w_I_RunEdits (N : Nat) (p_s : (List Int)) (p_list : (List I_Edit)) (r : (List Int) × Bool) (hh0 : m_I_RunEdits N p_s p_list = some r) : FnX Try.prog 8 [] [sL p_s, sL p_list] (RE (.tup [.os 0 0 r.1.length, bA r.2]) [⟨.tr (eL r.1), 3, 1⟩]) := by
  unfold m_I_RunEdits at hh0
  refine FnX.mk Try.func8 rfl rfl ?_
  intro s hs
  refine PC.seq ?_
  refine PC.region ?_
  refine PL.op rfl (Rd.asnT rfl) ?_
  refine PL.op rfl (Rd.asnT rfl) ?_
  refine PL.nil ?_
  refine thA_n ?_
  refine PC.seq ?_
  refine PC.seq ?_
  obtain ⟨r1, h_2, hh0⟩ := bind_some hh0
  rcases cond_some hh0 with ⟨h_3, hh0⟩ | ⟨h_3, hh0⟩
  rotate_left
  · refine PC.region ?_
    refine PL.op rfl (Rd.moveT rfl) ?_
    refine PL.callM false [] (w_I_validStore N p_s r1 h_2) rfl Try.call17 rfl ⟨.t _, trivial⟩ rfl trivial (fun h => by cases h) ?_
    refine PL.op rfl (Rd.unnot rfl) ?_
    refine PL.op rfl (Rd.moveT rfl) ?_
    refine PL.guard_off rfl rfl (not_f h_3) ?_
    refine PL.guard_off rfl rfl (not_f h_3) ?_
    refine PL.guard_off rfl rfl (not_f h_3) ?_
    refine PL.op rfl (Rd.pick_t rfl (not_f h_3)) ?_
    refine PL.nil ?_
    refine thA_n ?_
    refine PC.cond_true rfl rfl ?_
    refine PC.seq ?_
    refine PC.region ?_
    refine PL.op rfl (Rd.asnT rfl) ?_
    refine PL.op rfl (Rd.asnT rfl) ?_
    refine PL.nil ?_
    refine thA_n ?_
    refine PC.ret ?_
    refine thA_r ?_
    obtain rfl := some_in hh0
    exact FinA.mk (r := .tup [.os 0 0 (((([] : List Int), false).1).length), bA ((([] : List Int), false).2)]) (bl := [⟨.tr (eL ((([] : List Int), false).1)), 3, 1⟩]) [none] (.inl rfl) rfl (rl := [.tmp 4, .tmp 5]) (.tmp (.tmp .nil)) rfl rfl rfl (.tupL ⟨.osn rfl, .t _, trivial⟩) ⟨ow_nil _, trivial⟩ ⟨rfl, rfl⟩
  refine PC.region ?_
  refine PL.op rfl (Rd.moveT rfl) ?_
  refine PL.callM false [] (w_I_validStore N p_s r1 h_2) rfl Try.call17 rfl ⟨.t _, trivial⟩ rfl trivial (fun h => by cases h) ?_
  refine PL.op rfl (Rd.unnot rfl) ?_
  refine PL.op rfl (Rd.moveT rfl) ?_
  refine PL.guard_on rfl (not_t h_3) ?_
  refine PL.op rfl (Rd.moveT rfl) ?_
  refine PL.guard_on rfl (not_t h_3) ?_
  refine PL.op rfl (Rd.lenT rfl) ?_
  refine PL.guard_on rfl (not_t h_3) ?_
  refine PL.op rfl (Rd.gtr rfl rfl) ?_
  refine PL.op rfl (Rd.pick_f rfl (not_t h_3)) ?_
  refine PL.nil ?_
  refine thA_n ?_
  rcases cond_some hh0 with ⟨h_4, hh0⟩ | ⟨h_4, hh0⟩
  · refine PC.cond_true rfl h_4 ?_
    refine PC.seq ?_
    refine PC.region ?_
    refine PL.op rfl (Rd.asnT rfl) ?_
    refine PL.op rfl (Rd.asnT rfl) ?_
    refine PL.nil ?_
    refine thA_n ?_
    refine PC.ret ?_
    refine thA_r ?_
    obtain rfl := some_in hh0
    exact FinA.mk (r := .tup [.os 0 0 (((([] : List Int), false).1).length), bA ((([] : List Int), false).2)]) (bl := [⟨.tr (eL ((([] : List Int), false).1)), 3, 1⟩]) [none] (.inl rfl) rfl (rl := [.tmp 4, .tmp 5]) (.tmp (.tmp .nil)) rfl rfl rfl (.tupL ⟨.osn rfl, .t _, trivial⟩) ⟨ow_nil _, trivial⟩ ⟨rfl, rfl⟩
  refine PC.cond_false rfl h_4 ?_
  refine PC.skip ?_
  refine thA_n ?_
  refine PC.seq ?_
  obtain ⟨r5, h_6, hh0⟩ := bind_some hh0
  refine PC.region ?_
  refine PL.op rfl (Rd.moveT rfl) ?_
  refine PL.callM false [] (w_slices_Clone_int N p_s r5 h_6) rfl Try.call18 rfl ⟨.t _, trivial⟩ rfl trivial (fun h => by cases h) ?_
  refine PL.nm (.os 0 0 r5.length) [some ⟨.tr (eL r5), 3, 1⟩] rfl rfl ?_
  refine PL.op rfl (Rd.asnO rfl) ?_
  refine PL.nil ?_
  refine thA_n ?_
  refine PC.seq ?_
  refine PC.seq ?_
  refine PC.region ?_
  refine PL.op rfl (Rd.moveT rfl) ?_
  refine PL.op rfl (Rd.lenT rfl) ?_
  refine PL.op rfl (Rd.moveT rfl) ?_
  refine PL.nil ?_
  refine thA_n ?_
  obtain ⟨o20, h_21, hh0⟩ := bind_some hh0
  refine PC.cutE hs (fun x : (List Int) => [(6, .os 0 0 x.length)]) (fun x => [⟨.tr (eL x), 3, 1⟩]) (fun x => m_I_RunEdits_k1 N x = some r) ?_ ?_
  · refine PC.block ?_
    refine PC.loop hs (fun x : Nat × (Int × (List Int)) => [(6, .os 0 0 x.2.2.length), (19, sL p_list), (20, iA (p_list.length : Int)), (21, iA x.2.1)]) (fun x => [⟨.tr (eL x.2.2), 3, 1⟩]) (fun x => loopM (β := (List Int) ⊕ ((List Int) × Bool)) (fun s : Int × (List Int) => m_I_RunEdits_b1 N p_list s.1 s.2) x.1 x.2 = some o20) (fun x => x.1) (N, ((0 : Int), r5)) [some 0] ⟨rfl, rfl, ⟨⟨_, rfl, rfl, rfl, .tr _⟩, trivial⟩, ⟨.os rfl, .t _, .t _, .t _, trivial⟩⟩ h_21 ?_
    rintro ⟨f22_, i7, v8⟩ h_24
    obtain ⟨f22, y23, rfl, hh1, kk1⟩ := loopM_some h_24
    replace hh1 : m_I_RunEdits_b1 N p_list i7 v8 = some y23 := hh1
    unfold m_I_RunEdits_b1 at hh1
    refine PC.seq ?_
    refine PC.region ?_
    refine PL.op rfl (Rd.lss rfl rfl) ?_
    refine PL.nil ?_
    refine thA_n ?_
    refine PC.seq ?_
    rcases cond_some hh1 with ⟨h_25, hh1⟩ | ⟨h_25, hh1⟩
    rotate_left
    · refine PC.cond_false rfl h_25 ?_
      refine PC.exit ?_
      refine thA_e ?_
      refine thA_e ?_
      refine inA_eq rfl ?_
      refine thA_n ?_
      obtain rfl := some_in hh1
      obtain rfl : (.inl v8 : (List Int) ⊕ ((List Int) × Bool)) = o20 := kk1
      exact ⟨v8, hh0, [some 0], ⟨rfl, rfl, ⟨⟨_, rfl, rfl, rfl, .tr _⟩, trivial⟩, ⟨.os rfl, trivial⟩⟩⟩
    refine PC.cond_true rfl h_25 ?_
    refine PC.skip ?_
    refine thA_n ?_
    refine PC.seq ?_
    refine PC.block ?_
    refine PC.seq ?_
    obtain ⟨x26, h_27, hh1⟩ := bind_some hh1
    refine PC.region ?_
    refine PL.op rfl (Rd.ixM rfl rfl h_27) ?_
    refine PL.op rfl (Rd.elMR rfl h_27 rfl rfl) ?_
    refine PL.ef rfl (Ef.alloc rfl rfl) ?_
    refine PL.nm (.op 1 0) [some ⟨.tr (eL v8), 3, 1⟩, some ⟨.mx [iA (0 : Int), iA (0 : Int), iA (0 : Int), iA (0 : Int)], 38, 0⟩] rfl rfl ?_
    refine PL.store rfl rfl rfl rfl rfl rfl rfl ?_
    refine PL.nO [some ⟨.tr (eL v8), 3, 1⟩, some ⟨.mx [iA x26.owner, iA x26.thing, iA x26.old_, iA x26.new_], 38, 0⟩] rfl ?_
    refine PL.nil ?_
    refine thA_n ?_
    refine PC.seq ?_
    refine PC.seq ?_
    obtain ⟨r28, h_29, hh1⟩ := bind_some hh1
    refine PC.region ?_
    refine PL.op rfl (Rd.loadBox rfl rfl rfl) ?_
    refine PL.op rfl (Rd.moveO rfl) ?_
    refine PL.callM true [] (w_I_Edit_possible N x26 v8 r28 h_29) rfl Try.call19 rfl ⟨.aggL ⟨.t _, .t _, .t _, .t _, trivial⟩, .own rfl (by first | decide | exact List.not_mem_nil) rfl rfl, trivial⟩ rfl trivial (fun _ => ⟨trivial, flat_nil⟩) ?_
    refine PL.op rfl (Rd.unnot rfl) ?_
    refine PL.nil ?_
    refine thA_n ?_
    rcases cond_some hh1 with ⟨h_30, hh1⟩ | ⟨h_30, hh1⟩
    rotate_left
    · refine PC.cond_true rfl (not_f h_30) ?_
      refine PC.seq ?_
      refine PC.region ?_
      refine PL.op rfl (Rd.asnT rfl) ?_
      refine PL.op rfl (Rd.asnT rfl) ?_
      refine PL.nil ?_
      refine thA_n ?_
      refine PC.ret ?_
      refine thA_r ?_
      refine inA_r ?_
      refine thA_r ?_
      refine thA_r ?_
      refine inA_r ?_
      refine thA_r ?_
      obtain rfl := some_in hh1
      obtain rfl : (.inr (([] : List Int), false) : (List Int) ⊕ ((List Int) × Bool)) = o20 := kk1
      refine thA_r ?_
      obtain rfl := some_in hh0
      exact FinA.mk (r := .tup [.os 0 0 (((([] : List Int), false).1).length), bA ((([] : List Int), false).2)]) (bl := [⟨.tr (eL ((([] : List Int), false).1)), 3, 1⟩]) [none] (.inl rfl) rfl (rl := [.tmp 4, .tmp 5]) (.tmp (.tmp .nil)) rfl rfl rfl (.tupL ⟨.osn rfl, .t _, trivial⟩) ⟨ow_nil _, trivial⟩ ⟨rfl, rfl⟩
    refine PC.cond_false rfl (not_t h_30) ?_
    refine PC.skip ?_
    refine thA_n ?_
    obtain ⟨x31, h_32, hh1⟩ := bind_some hh1
    refine PC.region ?_
    refine PL.op rfl (Rd.moveO rfl) ?_
    refine PL.op rfl (Rd.fieldO rfl rfl) ?_
    refine PL.op rfl (Rd.loadO rfl rfl rfl) ?_
    refine PL.op rfl (Rd.fieldO rfl rfl) ?_
    refine PL.op rfl (Rd.loadO rfl rfl rfl) ?_
    refine PL.op rfl (Rd.ixOM rfl rfl rfl (ixI_lt h_32)) ?_
    refine PL.stRM x26.new_ rfl rfl rfl rfl rfl h_32 rfl ?_
    refine PL.nO [some ⟨.tr (eL (v8.set x26.thing.toNat x26.new_)), 3, 1⟩, some ⟨.mx [iA x26.owner, iA x26.thing, iA x26.old_, iA x26.new_], 38, 0⟩] rfl ?_
    refine PL.nil ?_
    refine inA_n ?_
    refine thA_n ?_
    obtain ⟨n33, h_34, hh1⟩ := bind_some hh1
    refine PC.region ?_
    refine PL.op rfl (Rd.addM rfl rfl h_34) ?_
    refine PL.op rfl (Rd.moveT rfl) ?_
    refine PL.nil ?_
    obtain rfl := some_in hh1
    refine thA_n ?_
    exact ⟨(f22, (n33, (v8.set x26.thing.toNat x26.new_))), Nat.lt_succ_self _, kk1, [some 0], ⟨rfl, rfl, ⟨⟨_, rfl, rfl, rfl, .tr _⟩, trivial⟩, ⟨.osE rfl (by simp only [List.length_set]), .t _, .t _, .t _, trivial⟩⟩⟩
  clear hh0
  rintro v19 hh0
  replace hh0 : m_I_RunEdits_k1 N v19 = some r := hh0
  unfold m_I_RunEdits_k1 at hh0
  refine thA_n ?_
  refine PC.seq ?_
  refine PC.region ?_
  refine PL.op rfl (Rd.moveO rfl) ?_
  refine PL.op rfl (Rd.asnO rfl) ?_
  refine PL.op rfl (Rd.asnT rfl) ?_
  refine PL.nil ?_
  refine thA_n ?_
  refine PC.ret ?_
  obtain rfl := some_in hh0
  exact FinA.mk (r := .tup [.os 0 0 (((v19, true).1).length), bA ((v19, true).2)]) (bl := [⟨.tr (eL ((v19, true).1)), 3, 1⟩]) [some 0] (.inl rfl) rfl (rl := [.tmp 4, .tmp 5]) (.tmp (.tmp .nil)) rfl rfl rfl (.tupL ⟨.os rfl, .t _, trivial⟩) ⟨⟨_, rfl, rfl, rfl, .tr _⟩, trivial⟩ ⟨rfl, rfl⟩

def m_S_inRange (N : Nat) (p_n : Int) (p_low : Int) (p_high : Int) : Option (Bool) :=
  cond (decide (p_low ≤ p_n))
    (some (decide (p_n ≤ p_high)))
    (some false)
theorem w_S_inRange (N : Nat) (p_n : Int) (p_low : Int) (p_high : Int) (r : Bool) (hh0 : m_S_inRange N p_n p_low p_high = some r) : FnX Try.prog 25 [] [iA p_n, iA p_low, iA p_high] (RE (bA r) []) := by
  unfold m_S_inRange at hh0
  refine FnX.mk Try.func25 rfl rfl ?_
  intro s hs
  refine PC.seq ?_
  refine PC.region ?_
  refine PL.op rfl (Rd.asnT rfl) ?_
  refine PL.nil ?_
  refine thA_n ?_
  refine PC.seq ?_
  rcases cond_some hh0 with ⟨h_1, hh0⟩ | ⟨h_1, hh0⟩
  rotate_left
  · refine PC.region ?_
    refine PL.op rfl (Rd.moveT rfl) ?_
    refine PL.op rfl (Rd.moveT rfl) ?_
    refine PL.op rfl (Rd.leq rfl rfl) ?_
    refine PL.op rfl (Rd.moveT rfl) ?_
    refine PL.guard_off rfl rfl h_1 ?_
    refine PL.guard_off rfl rfl h_1 ?_
    refine PL.guard_off rfl rfl h_1 ?_
    refine PL.op rfl (Rd.pick_f rfl h_1) ?_
    refine PL.op rfl (Rd.asnT rfl) ?_
    refine PL.nil ?_
    refine thA_n ?_
    refine PC.ret ?_
    obtain rfl := some_in hh0
    exact FinA.mk (r := bA false) (bl := []) [] (.inl rfl) rfl (rl := [.tmp 6]) (.tmp .nil) rfl rfl rfl (.t _) trivial ⟨rfl, rfl⟩
  refine PC.region ?_
  refine PL.op rfl (Rd.moveT rfl) ?_
  refine PL.op rfl (Rd.moveT rfl) ?_
  refine PL.op rfl (Rd.leq rfl rfl) ?_
  refine PL.op rfl (Rd.moveT rfl) ?_
  refine PL.guard_on rfl h_1 ?_
  refine PL.op rfl (Rd.moveT rfl) ?_
  refine PL.guard_on rfl h_1 ?_
  refine PL.op rfl (Rd.moveT rfl) ?_
  refine PL.guard_on rfl h_1 ?_
  refine PL.op rfl (Rd.leq rfl rfl) ?_
  refine PL.op rfl (Rd.pick_t rfl h_1) ?_
  refine PL.op rfl (Rd.asnT rfl) ?_
  refine PL.nil ?_
  refine thA_n ?_
  refine PC.ret ?_
  obtain rfl := some_in hh0
  exact FinA.mk (r := bA (decide (p_n ≤ p_high))) (bl := []) [] (.inl rfl) rfl (rl := [.tmp 6]) (.tmp .nil) rfl rfl rfl (.t _) trivial ⟨rfl, rfl⟩

def m_S_allIn_k1 (N : Nat) : Option (Bool) :=
  some true
def m_S_allIn_b1 (N : Nat) (p_list : (List Int)) (p_low : Int) (p_high : Int) (i1 : Int) : Option (Int ⊕ (Unit ⊕ Bool)) :=
  cond (decide (i1 < (p_list.length : Int)))
    ((ixI p_list i1).bind fun x16 =>
    (m_S_inRange N x16 p_low p_high).bind fun r18 =>
    cond r18
      ((chk (i1 + (1 : Int))).bind fun n21 =>
      some (.inl n21))
      (some (.inr (.inr false))))
    (some (.inr (.inl ())))
def m_S_allIn (N : Nat) (p_list : (List Int)) (p_low : Int) (p_high : Int) : Option (Bool) :=
  (loopM (β := Unit ⊕ Bool) (fun s : Int => m_S_allIn_b1 N p_list p_low p_high s) N (0 : Int)).bind fun o => match o with
  | .inl e =>
    m_S_allIn_k1 N 
  | .inr v =>
    some v
theorem w_S_allIn (N : Nat) (p_list : (List Int)) (p_low : Int) (p_high : Int) (r : Bool) (hh0 : m_S_allIn N p_list p_low p_high = some r) : FnX Try.prog 26 [] [sL p_list, iA p_low, iA p_high] (RE (bA r) []) := by
  unfold m_S_allIn at hh0
  refine FnX.mk Try.func26 rfl rfl ?_
  intro s hs
  refine PC.seq ?_
  refine PC.region ?_
  refine PL.op rfl (Rd.asnT rfl) ?_
  refine PL.nil ?_
  refine thA_n ?_
  refine PC.seq ?_
  refine PC.seq ?_
  refine PC.region ?_
  refine PL.op rfl (Rd.asnT rfl) ?_
  refine PL.nil ?_
  refine thA_n ?_
  obtain ⟨o10, h_11, hh0⟩ := bind_some hh0
  refine PC.cutE hs (fun x : Unit => []) (fun x => []) (fun x => m_S_allIn_k1 N  = some r) ?_ ?_
  · refine PC.block ?_
    refine PC.loop hs (fun x : Nat × (Int) => [(0, sL p_list), (1, iA p_low), (2, iA p_high), (7, iA x.2)]) (fun x => []) (fun x => loopM (β := Unit ⊕ Bool) (fun s : Int => m_S_allIn_b1 N p_list p_low p_high s) x.1 x.2 = some o10) (fun x => x.1) (N, (0 : Int)) [] ⟨rfl, rfl, trivial, ⟨.t _, .t _, .t _, .t _, trivial⟩⟩ h_11 ?_
    rintro ⟨f12_, i1⟩ h_14
    obtain ⟨f12, y13, rfl, hh1, kk1⟩ := loopM_some h_14
    replace hh1 : m_S_allIn_b1 N p_list p_low p_high i1 = some y13 := hh1
    unfold m_S_allIn_b1 at hh1
    refine PC.seq ?_
    refine PC.seq ?_
    refine PC.region ?_
    refine PL.op rfl (Rd.moveT rfl) ?_
    refine PL.op rfl (Rd.moveT rfl) ?_
    refine PL.op rfl (Rd.lenT rfl) ?_
    refine PL.op rfl (Rd.lss rfl rfl) ?_
    refine PL.nil ?_
    refine thA_n ?_
    rcases cond_some hh1 with ⟨h_15, hh1⟩ | ⟨h_15, hh1⟩
    rotate_left
    · refine PC.cond_false rfl h_15 ?_
      refine PC.exit ?_
      refine thA_e ?_
      refine thA_e ?_
      refine inA_eq rfl ?_
      refine thA_n ?_
      obtain rfl := some_in hh1
      obtain rfl : (.inl () : Unit ⊕ Bool) = o10 := kk1
      exact ⟨(), hh0, [], ⟨rfl, rfl, trivial, trivial⟩⟩
    refine PC.cond_true rfl h_15 ?_
    refine PC.skip ?_
    refine thA_n ?_
    refine PC.seq ?_
    refine PC.block ?_
    refine PC.seq ?_
    obtain ⟨x16, h_17, hh1⟩ := bind_some hh1
    obtain ⟨r18, h_19, hh1⟩ := bind_some hh1
    refine PC.region ?_
    refine PL.op rfl (Rd.moveT rfl) ?_
    refine PL.op rfl (Rd.moveT rfl) ?_
    refine PL.op rfl (Rd.ixM rfl rfl h_17) ?_
    refine PL.op rfl (Rd.elM1 rfl h_17 rfl rfl) ?_
    refine PL.op rfl (Rd.moveT rfl) ?_
    refine PL.op rfl (Rd.moveT rfl) ?_
    refine PL.callM false [] (w_S_inRange N x16 p_low p_high r18 h_19) rfl Try.call25 rfl ⟨.t _, .t _, .t _, trivial⟩ rfl trivial (fun h => by cases h) ?_
    refine PL.op rfl (Rd.unnot rfl) ?_
    refine PL.nil ?_
    refine thA_n ?_
    rcases cond_some hh1 with ⟨h_20, hh1⟩ | ⟨h_20, hh1⟩
    · refine PC.cond_false rfl (not_t h_20) ?_
      refine PC.skip ?_
      refine inA_n ?_
      refine thA_n ?_
      obtain ⟨n21, h_22, hh1⟩ := bind_some hh1
      refine PC.region ?_
      refine PL.op rfl (Rd.moveT rfl) ?_
      refine PL.op rfl (Rd.addM rfl rfl h_22) ?_
      refine PL.op rfl (Rd.asnT rfl) ?_
      refine PL.nil ?_
      obtain rfl := some_in hh1
      refine thA_n ?_
      exact ⟨(f12, n21), Nat.lt_succ_self _, kk1, [], ⟨rfl, rfl, trivial, ⟨.t _, .t _, .t _, .t _, trivial⟩⟩⟩
    refine PC.cond_true rfl (not_f h_20) ?_
    refine PC.seq ?_
    refine PC.region ?_
    refine PL.op rfl (Rd.asnT rfl) ?_
    refine PL.nil ?_
    refine thA_n ?_
    refine PC.ret ?_
    refine inA_r ?_
    refine thA_r ?_
    refine thA_r ?_
    refine inA_r ?_
    refine thA_r ?_
    obtain rfl := some_in hh1
    obtain rfl : (.inr false : Unit ⊕ Bool) = o10 := kk1
    refine thA_r ?_
    obtain rfl := some_in hh0
    exact FinA.mk (r := bA false) (bl := []) [] (.inl rfl) rfl (rl := [.tmp 6]) (.tmp .nil) rfl rfl rfl (.t _) trivial ⟨rfl, rfl⟩
  clear hh0
  rintro ⟨⟩ hh0
  replace hh0 : m_S_allIn_k1 N  = some r := hh0
  unfold m_S_allIn_k1 at hh0
  refine thA_n ?_
  refine PC.seq ?_
  refine PC.region ?_
  refine PL.op rfl (Rd.asnT rfl) ?_
  refine PL.nil ?_
  refine thA_n ?_
  refine PC.ret ?_
  obtain rfl := some_in hh0
  exact FinA.mk (r := bA true) (bl := []) [] (.inl rfl) rfl (rl := [.tmp 6]) (.tmp .nil) rfl rfl rfl (.t _) trivial ⟨rfl, rfl⟩

def m_S_validStore (N : Nat) (p_s : (List Int)) : Option (Bool) :=
  (m_S_inRange N (p_s.length : Int) (1 : Int) (6 : Int)).bind fun r1 =>
  cond r1
    ((m_S_allIn N p_s (0 : Int) (999999 : Int)).bind fun r4 =>
    some r4)
    (some false)
theorem w_S_validStore (N : Nat) (p_s : (List Int)) (r : Bool) (hh0 : m_S_validStore N p_s = some r) : FnX Try.prog 21 [] [sL p_s] (RE (bA r) []) := by
  unfold m_S_validStore at hh0
  refine FnX.mk Try.func21 rfl rfl ?_
  intro s hs
  refine PC.seq ?_
  refine PC.region ?_
  refine PL.op rfl (Rd.asnT rfl) ?_
  refine PL.nil ?_
  refine thA_n ?_
  refine PC.seq ?_
  obtain ⟨r1, h_2, hh0⟩ := bind_some hh0
  rcases cond_some hh0 with ⟨h_3, hh0⟩ | ⟨h_3, hh0⟩
  rotate_left
  · refine PC.region ?_
    refine PL.op rfl (Rd.moveT rfl) ?_
    refine PL.op rfl (Rd.lenT rfl) ?_
    refine PL.callM false [] (w_S_inRange N (p_s.length : Int) (1 : Int) (6 : Int) r1 h_2) rfl Try.call25 rfl ⟨.t _, .t _, .t _, trivial⟩ rfl trivial (fun h => by cases h) ?_
    refine PL.op rfl (Rd.moveT rfl) ?_
    refine PL.guard_off rfl rfl h_3 ?_
    refine PL.guard_off rfl rfl h_3 ?_
    refine PL.op rfl (Rd.pick_f rfl h_3) ?_
    refine PL.op rfl (Rd.asnT rfl) ?_
    refine PL.nil ?_
    refine thA_n ?_
    refine PC.ret ?_
    obtain rfl := some_in hh0
    exact FinA.mk (r := bA false) (bl := []) [] (.inl rfl) rfl (rl := [.tmp 2]) (.tmp .nil) rfl rfl rfl (.t _) trivial ⟨rfl, rfl⟩
  obtain ⟨r4, h_5, hh0⟩ := bind_some hh0
  refine PC.region ?_
  refine PL.op rfl (Rd.moveT rfl) ?_
  refine PL.op rfl (Rd.lenT rfl) ?_
  refine PL.callM false [] (w_S_inRange N (p_s.length : Int) (1 : Int) (6 : Int) r1 h_2) rfl Try.call25 rfl ⟨.t _, .t _, .t _, trivial⟩ rfl trivial (fun h => by cases h) ?_
  refine PL.op rfl (Rd.moveT rfl) ?_
  refine PL.guard_on rfl h_3 ?_
  refine PL.op rfl (Rd.moveT rfl) ?_
  refine PL.guard_on rfl h_3 ?_
  refine PL.callM false [] (w_S_allIn N p_s (0 : Int) (999999 : Int) r4 h_5) rfl Try.call26 rfl ⟨.t _, .t _, .t _, trivial⟩ rfl trivial (fun h => by cases h) ?_
  refine PL.op rfl (Rd.pick_t rfl h_3) ?_
  refine PL.op rfl (Rd.asnT rfl) ?_
  refine PL.nil ?_
  refine thA_n ?_
  refine PC.ret ?_
  obtain rfl := some_in hh0
  exact FinA.mk (r := bA r4) (bl := []) [] (.inl rfl) rfl (rl := [.tmp 2]) (.tmp .nil) rfl rfl rfl (.t _) trivial ⟨rfl, rfl⟩

def m_S_validEdit (N : Nat) (p_s : (List Int)) (p_e : I_Edit) : Option (Bool) :=
  (m_S_inRange N p_e.owner (0 : Int) (7 : Int)).bind fun r1 =>
  cond r1
    ((chk ((p_s.length : Int) - (1 : Int))).bind fun n4 =>
    (m_S_inRange N p_e.thing (0 : Int) n4).bind fun r6 =>
    cond r6
      ((ixI p_s p_e.thing).bind fun x9 =>
      cond (decide (x9 = p_e.old_))
        ((m_S_inRange N p_e.new_ (0 : Int) (999999 : Int)).bind fun r12 =>
        some r12)
        (some false))
      (some false))
    (some false)
theorem w_S_validEdit (N : Nat) (p_s : (List Int)) (p_e : I_Edit) (r : Bool) (hh0 : m_S_validEdit N p_s p_e = some r) : FnX Try.prog 22 [] [sL p_s, .agg [iA p_e.owner, iA p_e.thing, iA p_e.old_, iA p_e.new_]] (RE (bA r) []) := by
  unfold m_S_validEdit at hh0
  refine FnX.mk Try.func22 rfl rfl ?_
  intro s hs
  refine PC.seq ?_
  refine PC.region ?_
  refine PL.ef rfl (Ef.box rfl rfl rfl) ?_
  refine PL.nm (.op 0 0) [some ⟨.mx [iA p_e.owner, iA p_e.thing, iA p_e.old_, iA p_e.new_], 38, 0⟩] rfl rfl ?_
  refine PL.op rfl (Rd.asnT rfl) ?_
  refine PL.nil ?_
  refine thA_n ?_
  refine PC.seq ?_
  obtain ⟨r1, h_2, hh0⟩ := bind_some hh0
  rcases cond_some hh0 with ⟨h_3, hh0⟩ | ⟨h_3, hh0⟩
  rotate_left
  · refine PC.any (id := 1) 27 (.seg [0, 1, 2, 3, 4, 5, 6, 7, 8, 9, 10, 11, 12, 13, 14, 15, 16, 17, 18, 19, 20, 21, 22, 23, 24, 25, 26] .done) [] rfl (by kernel_rfl) rfl ?_
    refine PT.seg ?_
    refine PR.op rfl (Rd.fieldO rfl rfl) ?_
    refine PR.op rfl (Rd.loadO rfl rfl rfl) ?_
    refine PR.callM false [] (w_S_inRange N p_e.owner (0 : Int) (7 : Int) r1 h_2) rfl Try.call25 rfl ⟨.t _, .t _, .t _, trivial⟩ rfl trivial (fun h => by cases h) rfl ?_
    refine PR.op rfl (Rd.moveT rfl) ?_
    refine PR.guard_off rfl rfl h_3 ?_
    refine PR.guard_off rfl rfl h_3 ?_
    refine PR.guard_off rfl rfl h_3 ?_
    refine PR.guard_off rfl rfl h_3 ?_
    refine PR.guard_off rfl rfl h_3 ?_
    refine PR.guard_off rfl rfl h_3 ?_
    refine PR.op rfl (Rd.pick_f rfl h_3) ?_
    refine PR.op rfl (Rd.moveT rfl) ?_
    refine PR.guard_off rfl rfl rfl ?_
    refine PR.guard_off rfl rfl rfl ?_
    refine PR.guard_off rfl rfl rfl ?_
    refine PR.guard_off rfl rfl rfl ?_
    refine PR.guard_off rfl rfl rfl ?_
    refine PR.guard_off rfl rfl rfl ?_
    refine PR.guard_off rfl rfl rfl ?_
    refine PR.guard_off rfl rfl rfl ?_
    refine PR.op rfl (Rd.pick_f rfl rfl) ?_
    refine PR.op rfl (Rd.moveT rfl) ?_
    refine PR.guard_off rfl rfl rfl ?_
    refine PR.guard_off rfl rfl rfl ?_
    refine PR.guard_off rfl rfl rfl ?_
    refine PR.op rfl (Rd.pick_f rfl rfl) ?_
    refine PR.op rfl (Rd.asnT rfl) ?_
    refine PR.nil ?_
    refine PT.done ?_
    refine PL.nil ?_
    refine thA_n ?_
    refine PC.ret ?_
    obtain rfl := some_in hh0
    exact FinA.mk (r := bA false) (bl := []) [] (.inl rfl) rfl (rl := [.tmp 4]) (.tmp .nil) rfl rfl rfl (.t _) trivial ⟨rfl, rfl⟩
  obtain ⟨n4, h_5, hh0⟩ := bind_some hh0
  obtain ⟨r6, h_7, hh0⟩ := bind_some hh0
  rcases cond_some hh0 with ⟨h_8, hh0⟩ | ⟨h_8, hh0⟩
  rotate_left
  · refine PC.any (id := 1) 27 (.seg [0, 1, 2, 3, 4, 5, 6, 7, 8, 9, 10, 11, 12, 13, 14, 15, 16, 17, 18, 19, 20, 21, 22, 23, 24, 25, 26] .done) [] rfl (by kernel_rfl) rfl ?_
    refine PT.seg ?_
    refine PR.op rfl (Rd.fieldO rfl rfl) ?_
    refine PR.op rfl (Rd.loadO rfl rfl rfl) ?_
    refine PR.callM false [] (w_S_inRange N p_e.owner (0 : Int) (7 : Int) r1 h_2) rfl Try.call25 rfl ⟨.t _, .t _, .t _, trivial⟩ rfl trivial (fun h => by cases h) rfl ?_
    refine PR.op rfl (Rd.moveT rfl) ?_
    refine PR.guard_on rfl rfl h_3 ?_
    refine PR.op rfl (Rd.fieldO rfl rfl) ?_
    refine PR.guard_on rfl rfl h_3 ?_
    refine PR.op rfl (Rd.loadO rfl rfl rfl) ?_
    refine PR.guard_on rfl rfl h_3 ?_
    refine PR.op rfl (Rd.moveT rfl) ?_
    refine PR.guard_on rfl rfl h_3 ?_
    refine PR.op rfl (Rd.lenT rfl) ?_
    refine PR.guard_on rfl rfl h_3 ?_
    refine PR.op rfl (Rd.subM rfl rfl h_5) ?_
    refine PR.guard_on rfl rfl h_3 ?_
    refine PR.callM false [] (w_S_inRange N p_e.thing (0 : Int) n4 r6 h_7) rfl Try.call25 rfl ⟨.t _, .t _, .t _, trivial⟩ rfl trivial (fun h => by cases h) rfl ?_
    refine PR.op rfl (Rd.pick_t rfl h_3) ?_
    refine PR.op rfl (Rd.moveT rfl) ?_
    refine PR.guard_off rfl rfl h_8 ?_
    refine PR.guard_off rfl rfl h_8 ?_
    refine PR.guard_off rfl rfl h_8 ?_
    refine PR.guard_off rfl rfl h_8 ?_
    refine PR.guard_off rfl rfl h_8 ?_
    refine PR.guard_off rfl rfl h_8 ?_
    refine PR.guard_off rfl rfl h_8 ?_
    refine PR.guard_off rfl rfl h_8 ?_
    refine PR.op rfl (Rd.pick_f rfl h_8) ?_
    refine PR.op rfl (Rd.moveT rfl) ?_
    refine PR.guard_off rfl rfl rfl ?_
    refine PR.guard_off rfl rfl rfl ?_
    refine PR.guard_off rfl rfl rfl ?_
    refine PR.op rfl (Rd.pick_f rfl rfl) ?_
    refine PR.op rfl (Rd.asnT rfl) ?_
    refine PR.nil ?_
    refine PT.done ?_
    refine PL.nil ?_
    refine thA_n ?_
    refine PC.ret ?_
    obtain rfl := some_in hh0
    exact FinA.mk (r := bA false) (bl := []) [] (.inl rfl) rfl (rl := [.tmp 4]) (.tmp .nil) rfl rfl rfl (.t _) trivial ⟨rfl, rfl⟩
  obtain ⟨x9, h_10, hh0⟩ := bind_some hh0
  rcases cond_some hh0 with ⟨h_11, hh0⟩ | ⟨h_11, hh0⟩
  rotate_left
  · refine PC.any (id := 1) 27 (.seg [0, 1, 2, 3, 4, 5, 6, 7, 8, 9, 10, 11, 12, 13, 14, 15, 16, 17, 18, 19, 20, 21, 22, 23, 24, 25, 26] .done) [] rfl (by kernel_rfl) rfl ?_
    refine PT.seg ?_
    refine PR.op rfl (Rd.fieldO rfl rfl) ?_
    refine PR.op rfl (Rd.loadO rfl rfl rfl) ?_
    refine PR.callM false [] (w_S_inRange N p_e.owner (0 : Int) (7 : Int) r1 h_2) rfl Try.call25 rfl ⟨.t _, .t _, .t _, trivial⟩ rfl trivial (fun h => by cases h) rfl ?_
    refine PR.op rfl (Rd.moveT rfl) ?_
    refine PR.guard_on rfl rfl h_3 ?_
    refine PR.op rfl (Rd.fieldO rfl rfl) ?_
    refine PR.guard_on rfl rfl h_3 ?_
    refine PR.op rfl (Rd.loadO rfl rfl rfl) ?_
    refine PR.guard_on rfl rfl h_3 ?_
    refine PR.op rfl (Rd.moveT rfl) ?_
    refine PR.guard_on rfl rfl h_3 ?_
    refine PR.op rfl (Rd.lenT rfl) ?_
    refine PR.guard_on rfl rfl h_3 ?_
    refine PR.op rfl (Rd.subM rfl rfl h_5) ?_
    refine PR.guard_on rfl rfl h_3 ?_
    refine PR.callM false [] (w_S_inRange N p_e.thing (0 : Int) n4 r6 h_7) rfl Try.call25 rfl ⟨.t _, .t _, .t _, trivial⟩ rfl trivial (fun h => by cases h) rfl ?_
    refine PR.op rfl (Rd.pick_t rfl h_3) ?_
    refine PR.op rfl (Rd.moveT rfl) ?_
    refine PR.guard_on rfl rfl h_8 ?_
    refine PR.op rfl (Rd.moveT rfl) ?_
    refine PR.guard_on rfl rfl h_8 ?_
    refine PR.op rfl (Rd.fieldO rfl rfl) ?_
    refine PR.guard_on rfl rfl h_8 ?_
    refine PR.op rfl (Rd.loadO rfl rfl rfl) ?_
    refine PR.guard_on rfl rfl h_8 ?_
    refine PR.op rfl (Rd.ixM rfl rfl h_10) ?_
    refine PR.guard_on rfl rfl h_8 ?_
    refine PR.op rfl (Rd.elM1 rfl h_10 rfl rfl) ?_
    refine PR.guard_on rfl rfl h_8 ?_
    refine PR.op rfl (Rd.fieldO rfl rfl) ?_
    refine PR.guard_on rfl rfl h_8 ?_
    refine PR.op rfl (Rd.loadO rfl rfl rfl) ?_
    refine PR.guard_on rfl rfl h_8 ?_
    refine PR.op rfl (Rd.eql rfl rfl) ?_
    refine PR.op rfl (Rd.pick_t rfl h_8) ?_
    refine PR.op rfl (Rd.moveT rfl) ?_
    refine PR.guard_off rfl rfl h_11 ?_
    refine PR.guard_off rfl rfl h_11 ?_
    refine PR.guard_off rfl rfl h_11 ?_
    refine PR.op rfl (Rd.pick_f rfl h_11) ?_
    refine PR.op rfl (Rd.asnT rfl) ?_
    refine PR.nil ?_
    refine PT.done ?_
    refine PL.nil ?_
    refine thA_n ?_
    refine PC.ret ?_
    obtain rfl := some_in hh0
    exact FinA.mk (r := bA false) (bl := []) [] (.inl rfl) rfl (rl := [.tmp 4]) (.tmp .nil) rfl rfl rfl (.t _) trivial ⟨rfl, rfl⟩
  obtain ⟨r12, h_13, hh0⟩ := bind_some hh0
  refine PC.any (id := 1) 27 (.seg [0, 1, 2, 3, 4, 5, 6, 7, 8, 9, 10, 11, 12, 13, 14, 15, 16, 17, 18, 19, 20, 21, 22, 23, 24, 25, 26] .done) [] rfl (by kernel_rfl) rfl ?_
  refine PT.seg ?_
  refine PR.op rfl (Rd.fieldO rfl rfl) ?_
  refine PR.op rfl (Rd.loadO rfl rfl rfl) ?_
  refine PR.callM false [] (w_S_inRange N p_e.owner (0 : Int) (7 : Int) r1 h_2) rfl Try.call25 rfl ⟨.t _, .t _, .t _, trivial⟩ rfl trivial (fun h => by cases h) rfl ?_
  refine PR.op rfl (Rd.moveT rfl) ?_
  refine PR.guard_on rfl rfl h_3 ?_
  refine PR.op rfl (Rd.fieldO rfl rfl) ?_
  refine PR.guard_on rfl rfl h_3 ?_
  refine PR.op rfl (Rd.loadO rfl rfl rfl) ?_
  refine PR.guard_on rfl rfl h_3 ?_
  refine PR.op rfl (Rd.moveT rfl) ?_
  refine PR.guard_on rfl rfl h_3 ?_
  refine PR.op rfl (Rd.lenT rfl) ?_
  refine PR.guard_on rfl rfl h_3 ?_
  refine PR.op rfl (Rd.subM rfl rfl h_5) ?_
  refine PR.guard_on rfl rfl h_3 ?_
  refine PR.callM false [] (w_S_inRange N p_e.thing (0 : Int) n4 r6 h_7) rfl Try.call25 rfl ⟨.t _, .t _, .t _, trivial⟩ rfl trivial (fun h => by cases h) rfl ?_
  refine PR.op rfl (Rd.pick_t rfl h_3) ?_
  refine PR.op rfl (Rd.moveT rfl) ?_
  refine PR.guard_on rfl rfl h_8 ?_
  refine PR.op rfl (Rd.moveT rfl) ?_
  refine PR.guard_on rfl rfl h_8 ?_
  refine PR.op rfl (Rd.fieldO rfl rfl) ?_
  refine PR.guard_on rfl rfl h_8 ?_
  refine PR.op rfl (Rd.loadO rfl rfl rfl) ?_
  refine PR.guard_on rfl rfl h_8 ?_
  refine PR.op rfl (Rd.ixM rfl rfl h_10) ?_
  refine PR.guard_on rfl rfl h_8 ?_
  refine PR.op rfl (Rd.elM1 rfl h_10 rfl rfl) ?_
  refine PR.guard_on rfl rfl h_8 ?_
  refine PR.op rfl (Rd.fieldO rfl rfl) ?_
  refine PR.guard_on rfl rfl h_8 ?_
  refine PR.op rfl (Rd.loadO rfl rfl rfl) ?_
  refine PR.guard_on rfl rfl h_8 ?_
  refine PR.op rfl (Rd.eql rfl rfl) ?_
  refine PR.op rfl (Rd.pick_t rfl h_8) ?_
  refine PR.op rfl (Rd.moveT rfl) ?_
  refine PR.guard_on rfl rfl h_11 ?_
  refine PR.op rfl (Rd.fieldO rfl rfl) ?_
  refine PR.guard_on rfl rfl h_11 ?_
  refine PR.op rfl (Rd.loadO rfl rfl rfl) ?_
  refine PR.guard_on rfl rfl h_11 ?_
  refine PR.callM false [] (w_S_inRange N p_e.new_ (0 : Int) (999999 : Int) r12 h_13) rfl Try.call25 rfl ⟨.t _, .t _, .t _, trivial⟩ rfl trivial (fun h => by cases h) rfl ?_
  refine PR.op rfl (Rd.pick_t rfl h_11) ?_
  refine PR.op rfl (Rd.asnT rfl) ?_
  refine PR.nil ?_
  refine PT.done ?_
  refine PL.nil ?_
  refine thA_n ?_
  refine PC.ret ?_
  obtain rfl := some_in hh0
  exact FinA.mk (r := bA r12) (bl := []) [] (.inl rfl) rfl (rl := [.tmp 4]) (.tmp .nil) rfl rfl rfl (.t _) trivial ⟨rfl, rfl⟩

def m_S_copyInts (N : Nat) (p_list : (List Int)) : Option ((List Int)) :=
  (appM 8 ([] : List Int) p_list).bind fun xs1 =>
  some xs1
theorem w_S_copyInts (N : Nat) (p_list : (List Int)) (r : (List Int)) (hh0 : m_S_copyInts N p_list = some r) : FnX Try.prog 24 [] [sL p_list] (RE (.os 0 0 r.length) [⟨.tr (eL r), 3, 1⟩]) := by
  unfold m_S_copyInts at hh0
  refine FnX.mk Try.func24 rfl rfl ?_
  intro s hs
  refine PC.seq ?_
  refine PC.region ?_
  refine PL.op rfl (Rd.asnT rfl) ?_
  refine PL.nil ?_
  refine thA_n ?_
  refine PC.seq ?_
  obtain ⟨xs1, h_2, hh0⟩ := bind_some hh0
  refine PC.region ?_
  refine PL.ef rfl (Ef.lit0M Int) ?_
  refine PL.nm (.os 0 0 0) [some ⟨.tr (eL ([] : List Int)), 3, 1⟩] rfl rfl ?_
  refine PL.op rfl (Rd.moveT rfl) ?_
  refine PL.apM hs rfl rfl rfl rfl (SrcA.eL rfl) rfl rfl rfl rfl h_2 ?_
  refine PL.nm (.os 1 0 xs1.length) [none, some ⟨.tr (eL xs1), 3, 1⟩] rfl rfl ?_
  refine PL.op rfl (Rd.asnO rfl) ?_
  refine PL.nil ?_
  refine thA_n ?_
  refine PC.ret ?_
  obtain rfl := some_in hh0
  exact FinA.mk (r := .os 0 0 xs1.length) (bl := [⟨.tr (eL xs1), 3, 1⟩]) [some 1] (.inl rfl) rfl (rl := [.tmp 2]) (.tmp .nil) rfl rfl rfl (.os rfl) ⟨⟨_, rfl, rfl, rfl, .tr _⟩, trivial⟩ ⟨rfl, rfl⟩

def m_S_redo (N : Nat) (p_s : (List Int)) (p_e : I_Edit) : Option ((List Int)) :=
  (m_S_copyInts N p_s).bind fun r1 =>
  (ixI r1 p_e.thing).bind fun x3 =>
  some (r1.set p_e.thing.toNat p_e.new_)
theorem w_S_redo (N : Nat) (p_s : (List Int)) (p_e : I_Edit) (r : (List Int)) (hh0 : m_S_redo N p_s p_e = some r) : FnX Try.prog 23 [] [sL p_s, .agg [iA p_e.owner, iA p_e.thing, iA p_e.old_, iA p_e.new_]] (RE (.os 0 0 r.length) [⟨.tr (eL r), 3, 1⟩]) := by
  unfold m_S_redo at hh0
  refine FnX.mk Try.func23 rfl rfl ?_
  intro s hs
  refine PC.seq ?_
  refine PC.region ?_
  refine PL.ef rfl (Ef.box rfl rfl rfl) ?_
  refine PL.nm (.op 0 0) [some ⟨.mx [iA p_e.owner, iA p_e.thing, iA p_e.old_, iA p_e.new_], 38, 0⟩] rfl rfl ?_
  refine PL.op rfl (Rd.asnT rfl) ?_
  refine PL.nil ?_
  refine thA_n ?_
  refine PC.seq ?_
  obtain ⟨r1, h_2, hh0⟩ := bind_some hh0
  refine PC.region ?_
  refine PL.op rfl (Rd.moveT rfl) ?_
  refine PL.callM false [] (w_S_copyInts N p_s r1 h_2) rfl Try.call24 rfl ⟨.t _, trivial⟩ rfl trivial (fun h => by cases h) ?_
  refine PL.nm (.os 1 0 r1.length) [some ⟨.mx [iA p_e.owner, iA p_e.thing, iA p_e.old_, iA p_e.new_], 38, 0⟩, some ⟨.tr (eL r1), 3, 1⟩] rfl rfl ?_
  refine PL.op rfl (Rd.asnO rfl) ?_
  refine PL.nil ?_
  refine thA_n ?_
  refine PC.seq ?_
  obtain ⟨x3, h_4, hh0⟩ := bind_some hh0
  refine PC.region ?_
  refine PL.op rfl (Rd.moveO rfl) ?_
  refine PL.op rfl (Rd.fieldO rfl rfl) ?_
  refine PL.op rfl (Rd.loadO rfl rfl rfl) ?_
  refine PL.op rfl (Rd.fieldO rfl rfl) ?_
  refine PL.op rfl (Rd.loadO rfl rfl rfl) ?_
  refine PL.op rfl (Rd.ixOM rfl rfl rfl (ixI_lt h_4)) ?_
  refine PL.stRM p_e.new_ rfl rfl rfl rfl rfl h_4 rfl ?_
  refine PL.nO [some ⟨.mx [iA p_e.owner, iA p_e.thing, iA p_e.old_, iA p_e.new_], 38, 0⟩, some ⟨.tr (eL (r1.set p_e.thing.toNat p_e.new_)), 3, 1⟩] rfl ?_
  refine PL.nil ?_
  refine thA_n ?_
  refine PC.seq ?_
  refine PC.region ?_
  refine PL.op rfl (Rd.moveO rfl) ?_
  refine PL.op rfl (Rd.asnO rfl) ?_
  refine PL.nil ?_
  refine thA_n ?_
  refine PC.ret ?_
  obtain rfl := some_in hh0
  exact FinA.mk (r := .os 0 0 ((r1.set p_e.thing.toNat p_e.new_).length)) (bl := [⟨.tr (eL (r1.set p_e.thing.toNat p_e.new_)), 3, 1⟩]) [some 1] (.inl rfl) rfl (rl := [.tmp 4]) (.tmp .nil) rfl rfl rfl (.osE rfl (by simp only [List.length_set])) ⟨⟨_, rfl, rfl, rfl, .tr _⟩, trivial⟩ ⟨rfl, rfl⟩

def m_S_validEdits_k1 (N : Nat) : Option (Bool) :=
  some true
def m_S_validEdits_b1 (N : Nat) (p_list : (List I_Edit)) (s5 : (List Int)) (i6 : Int) : Option (((List Int) × Int) ⊕ (Unit ⊕ Bool)) :=
  cond (decide (i6 < (p_list.length : Int)))
    ((ixI p_list i6).bind fun x25 =>
    (m_S_validEdit N s5 x25).bind fun r27 =>
    cond r27
      ((ixI p_list i6).bind fun x30 =>
      (m_S_redo N s5 x30).bind fun r32 =>
      (chk (i6 + (1 : Int))).bind fun n34 =>
      some (.inl (r32, n34)))
      (some (.inr (.inr false))))
    (some (.inr (.inl ())))
def m_S_validEdits (N : Nat) (p_s : (List Int)) (p_list : (List I_Edit)) : Option (Bool) :=
  (m_S_validStore N p_s).bind fun r1 =>
  cond r1
    (cond (decide ((20 : Int) < (p_list.length : Int)))
      (some false)
      ((loopM (β := Unit ⊕ Bool) (fun s : (List Int) × Int => m_S_validEdits_b1 N p_list s.1 s.2) N (p_s, (0 : Int))).bind fun o => match o with
      | .inl e =>
        m_S_validEdits_k1 N 
      | .inr v =>
        some v))
    (some false)
theorem w_S_validEdits (N : Nat) (p_s : (List Int)) (p_list : (List I_Edit)) (r : Bool) (hh0 : m_S_validEdits N p_s p_list = some r) : FnX Try.prog 14 [] [sL p_s, sL p_list] (RE (bA r) []) := by
  unfold m_S_validEdits at hh0
  refine FnX.mk Try.func14 rfl rfl ?_
  intro s hs
  refine PC.seq ?_
  refine PC.region ?_
  refine PL.op rfl (Rd.asnT rfl) ?_
  refine PL.nil ?_
  refine thA_n ?_
  refine PC.seq ?_
  refine PC.seq ?_
  obtain ⟨r1, h_2, hh0⟩ := bind_some hh0
  rcases cond_some hh0 with ⟨h_3, hh0⟩ | ⟨h_3, hh0⟩
  rotate_left
  · refine PC.region ?_
    refine PL.op rfl (Rd.moveT rfl) ?_
    refine PL.callM false [] (w_S_validStore N p_s r1 h_2) rfl Try.call21 rfl ⟨.t _, trivial⟩ rfl trivial (fun h => by cases h) ?_
    refine PL.op rfl (Rd.unnot rfl) ?_
    refine PL.op rfl (Rd.moveT rfl) ?_
    refine PL.guard_off rfl rfl (not_f h_3) ?_
    refine PL.guard_off rfl rfl (not_f h_3) ?_
    refine PL.guard_off rfl rfl (not_f h_3) ?_
    refine PL.op rfl (Rd.pick_t rfl (not_f h_3)) ?_
    refine PL.nil ?_
    refine thA_n ?_
    refine PC.cond_true rfl rfl ?_
    refine PC.seq ?_
    refine PC.region ?_
    refine PL.op rfl (Rd.asnT rfl) ?_
    refine PL.nil ?_
    refine thA_n ?_
    refine PC.ret ?_
    refine thA_r ?_
    obtain rfl := some_in hh0
    exact FinA.mk (r := bA false) (bl := []) [] (.inl rfl) rfl (rl := [.tmp 4]) (.tmp .nil) rfl rfl rfl (.t _) trivial ⟨rfl, rfl⟩
  refine PC.region ?_
  refine PL.op rfl (Rd.moveT rfl) ?_
  refine PL.callM false [] (w_S_validStore N p_s r1 h_2) rfl Try.call21 rfl ⟨.t _, trivial⟩ rfl trivial (fun h => by cases h) ?_
  refine PL.op rfl (Rd.unnot rfl) ?_
  refine PL.op rfl (Rd.moveT rfl) ?_
  refine PL.guard_on rfl (not_t h_3) ?_
  refine PL.op rfl (Rd.moveT rfl) ?_
  refine PL.guard_on rfl (not_t h_3) ?_
  refine PL.op rfl (Rd.lenT rfl) ?_
  refine PL.guard_on rfl (not_t h_3) ?_
  refine PL.op rfl (Rd.gtr rfl rfl) ?_
  refine PL.op rfl (Rd.pick_f rfl (not_t h_3)) ?_
  refine PL.nil ?_
  refine thA_n ?_
  rcases cond_some hh0 with ⟨h_4, hh0⟩ | ⟨h_4, hh0⟩
  · refine PC.cond_true rfl h_4 ?_
    refine PC.seq ?_
    refine PC.region ?_
    refine PL.op rfl (Rd.asnT rfl) ?_
    refine PL.nil ?_
    refine thA_n ?_
    refine PC.ret ?_
    refine thA_r ?_
    obtain rfl := some_in hh0
    exact FinA.mk (r := bA false) (bl := []) [] (.inl rfl) rfl (rl := [.tmp 4]) (.tmp .nil) rfl rfl rfl (.t _) trivial ⟨rfl, rfl⟩
  refine PC.cond_false rfl h_4 ?_
  refine PC.skip ?_
  refine thA_n ?_
  refine PC.seq ?_
  refine PC.seq ?_
  refine PC.region ?_
  refine PL.op rfl (Rd.asnT rfl) ?_
  refine PL.nil ?_
  refine thA_n ?_
  obtain ⟨o19, h_20, hh0⟩ := bind_some hh0
  refine PC.cutE hs (fun x : Unit => []) (fun x => []) (fun x => m_S_validEdits_k1 N  = some r) ?_ ?_
  · refine PC.block ?_
    refine PC.loop hs (fun x : Nat × ((List Int) × Int) => [(0, sL x.2.1), (1, sL p_list), (5, iA x.2.2)]) (fun x => []) (fun x => loopM (β := Unit ⊕ Bool) (fun s : (List Int) × Int => m_S_validEdits_b1 N p_list s.1 s.2) x.1 x.2 = some o19) (fun x => x.1) (N, (p_s, (0 : Int))) [] ⟨rfl, rfl, trivial, ⟨.t _, .t _, .t _, trivial⟩⟩ h_20 ?_
    rintro ⟨f21_, s5, i6⟩ h_23
    obtain ⟨f21, y22, rfl, hh1, kk1⟩ := loopM_some h_23
    replace hh1 : m_S_validEdits_b1 N p_list s5 i6 = some y22 := hh1
    unfold m_S_validEdits_b1 at hh1
    refine PC.seq ?_
    refine PC.seq ?_
    refine PC.region ?_
    refine PL.op rfl (Rd.moveT rfl) ?_
    refine PL.op rfl (Rd.moveT rfl) ?_
    refine PL.op rfl (Rd.lenT rfl) ?_
    refine PL.op rfl (Rd.lss rfl rfl) ?_
    refine PL.nil ?_
    refine thA_n ?_
    rcases cond_some hh1 with ⟨h_24, hh1⟩ | ⟨h_24, hh1⟩
    rotate_left
    · refine PC.cond_false rfl h_24 ?_
      refine PC.exit ?_
      refine thA_e ?_
      refine thA_e ?_
      refine inA_eq rfl ?_
      refine thA_n ?_
      obtain rfl := some_in hh1
      obtain rfl : (.inl () : Unit ⊕ Bool) = o19 := kk1
      exact ⟨(), hh0, [], ⟨rfl, rfl, trivial, trivial⟩⟩
    refine PC.cond_true rfl h_24 ?_
    refine PC.skip ?_
    refine thA_n ?_
    refine PC.seq ?_
    refine PC.block ?_
    refine PC.seq ?_
    refine PC.seq ?_
    obtain ⟨x25, h_26, hh1⟩ := bind_some hh1
    obtain ⟨r27, h_28, hh1⟩ := bind_some hh1
    refine PC.region ?_
    refine PL.op rfl (Rd.moveT rfl) ?_
    refine PL.op rfl (Rd.moveT rfl) ?_
    refine PL.op rfl (Rd.moveT rfl) ?_
    refine PL.op rfl (Rd.ixM rfl rfl h_26) ?_
    refine PL.op rfl (Rd.elMR rfl h_26 rfl rfl) ?_
    refine PL.callM false [] (w_S_validEdit N s5 x25 r27 h_28) rfl Try.call22 rfl ⟨.t _, .aggL ⟨.t _, .t _, .t _, .t _, trivial⟩, trivial⟩ rfl trivial (fun h => by cases h) ?_
    refine PL.op rfl (Rd.unnot rfl) ?_
    refine PL.nil ?_
    refine thA_n ?_
    rcases cond_some hh1 with ⟨h_29, hh1⟩ | ⟨h_29, hh1⟩
    rotate_left
    · refine PC.cond_true rfl (not_f h_29) ?_
      refine PC.seq ?_
      refine PC.region ?_
      refine PL.op rfl (Rd.asnT rfl) ?_
      refine PL.nil ?_
      refine thA_n ?_
      refine PC.ret ?_
      refine thA_r ?_
      refine inA_r ?_
      refine thA_r ?_
      refine thA_r ?_
      refine inA_r ?_
      refine thA_r ?_
      obtain rfl := some_in hh1
      obtain rfl : (.inr false : Unit ⊕ Bool) = o19 := kk1
      refine thA_r ?_
      obtain rfl := some_in hh0
      exact FinA.mk (r := bA false) (bl := []) [] (.inl rfl) rfl (rl := [.tmp 4]) (.tmp .nil) rfl rfl rfl (.t _) trivial ⟨rfl, rfl⟩
    refine PC.cond_false rfl (not_t h_29) ?_
    refine PC.skip ?_
    refine thA_n ?_
    obtain ⟨x30, h_31, hh1⟩ := bind_some hh1
    obtain ⟨r32, h_33, hh1⟩ := bind_some hh1
    refine PC.region ?_
    refine PL.op rfl (Rd.moveT rfl) ?_
    refine PL.op rfl (Rd.moveT rfl) ?_
    refine PL.op rfl (Rd.moveT rfl) ?_
    refine PL.op rfl (Rd.ixM rfl rfl h_31) ?_
    refine PL.op rfl (Rd.elMR rfl h_31 rfl rfl) ?_
    refine PL.callM false [] (w_S_redo N s5 x30 r32 h_33) rfl Try.call23 rfl ⟨.t _, .aggL ⟨.t _, .t _, .t _, .t _, trivial⟩, trivial⟩ rfl trivial (fun h => by cases h) ?_
    refine PL.nm (.os 0 0 r32.length) [some ⟨.tr (eL r32), 3, 1⟩] rfl rfl ?_
    refine PL.op rfl (Rd.asnO rfl) ?_
    refine PL.nil ?_
    refine inA_n ?_
    refine thA_n ?_
    obtain ⟨n34, h_35, hh1⟩ := bind_some hh1
    refine PC.region ?_
    refine PL.op rfl (Rd.moveT rfl) ?_
    refine PL.op rfl (Rd.addM rfl rfl h_35) ?_
    refine PL.op rfl (Rd.asnT rfl) ?_
    refine PL.nil ?_
    obtain rfl := some_in hh1
    refine thA_n ?_
    exact ⟨(f21, (r32, n34)), Nat.lt_succ_self _, kk1, [], ⟨rfl, rfl, trivial, ⟨.own rfl (by first | decide | exact List.not_mem_nil) rfl rfl, .t _, .t _, trivial⟩⟩⟩
  clear hh0
  rintro ⟨⟩ hh0
  replace hh0 : m_S_validEdits_k1 N  = some r := hh0
  unfold m_S_validEdits_k1 at hh0
  refine thA_n ?_
  refine PC.seq ?_
  refine PC.region ?_
  refine PL.op rfl (Rd.asnT rfl) ?_
  refine PL.nil ?_
  refine thA_n ?_
  refine PC.ret ?_
  obtain rfl := some_in hh0
  exact FinA.mk (r := bA true) (bl := []) [] (.inl rfl) rfl (rl := [.tmp 4]) (.tmp .nil) rfl rfl rfl (.t _) trivial ⟨rfl, rfl⟩

def m_S_run_k1 (N : Nat) (v14 : (List Int)) : Option ((List Int)) :=
  some v14
def m_S_run_b1 (N : Nat) (p_list : (List I_Edit)) (i3 : Int) (v4 : (List Int)) : Option ((Int × (List Int)) ⊕ (List Int)) :=
  cond (decide (i3 < (p_list.length : Int)))
    ((ixI p_list i3).bind fun x21 =>
    (ixI p_list i3).bind fun x23 =>
    (ixI v4 x21.thing).bind fun x25 =>
    (chk (i3 + (1 : Int))).bind fun n27 =>
    some (.inl (n27, (v4.set x21.thing.toNat x23.new_))))
    (some (.inr v4))
def m_S_run (N : Nat) (p_s : (List Int)) (p_list : (List I_Edit)) : Option ((List Int)) :=
  (m_S_copyInts N p_s).bind fun r1 =>
  (loopM (β := (List Int)) (fun s : Int × (List Int) => m_S_run_b1 N p_list s.1 s.2) N ((0 : Int), r1)).bind fun e =>
  m_S_run_k1 N e
theorem w_S_run (N : Nat) (p_s : (List Int)) (p_list : (List I_Edit)) (r : (List Int)) (hh0 : m_S_run N p_s p_list = some r) : FnX Try.prog 15 [] [sL p_s, sL p_list] (RE (.os 0 0 r.length) [⟨.tr (eL r), 3, 1⟩]) := by
  unfold m_S_run at hh0
  refine FnX.mk Try.func15 rfl rfl ?_
  intro s hs
  refine PC.seq ?_
  refine PC.region ?_
  refine PL.op rfl (Rd.asnT rfl) ?_
  refine PL.nil ?_
  refine thA_n ?_
  refine PC.seq ?_
  obtain ⟨r1, h_2, hh0⟩ := bind_some hh0
  refine PC.region ?_
  refine PL.op rfl (Rd.moveT rfl) ?_
  refine PL.callM false [] (w_S_copyInts N p_s r1 h_2) rfl Try.call24 rfl ⟨.t _, trivial⟩ rfl trivial (fun h => by cases h) ?_
  refine PL.nm (.os 0 0 r1.length) [some ⟨.tr (eL r1), 3, 1⟩] rfl rfl ?_
  refine PL.op rfl (Rd.asnO rfl) ?_
  refine PL.nil ?_
  refine thA_n ?_
  refine PC.seq ?_
  refine PC.seq ?_
  refine PC.region ?_
  refine PL.op rfl (Rd.asnT rfl) ?_
  refine PL.nil ?_
  refine thA_n ?_
  obtain ⟨o15, h_16, hh0⟩ := bind_some hh0
  refine PC.cutE hs (fun x : (List Int) => [(5, .os 0 0 x.length)]) (fun x => [⟨.tr (eL x), 3, 1⟩]) (fun x => m_S_run_k1 N x = some r) ?_ ?_
  · refine PC.block ?_
    refine PC.loop hs (fun x : Nat × (Int × (List Int)) => [(1, sL p_list), (5, .os 0 0 x.2.2.length), (6, iA x.2.1)]) (fun x => [⟨.tr (eL x.2.2), 3, 1⟩]) (fun x => loopM (β := (List Int)) (fun s : Int × (List Int) => m_S_run_b1 N p_list s.1 s.2) x.1 x.2 = some o15) (fun x => x.1) (N, ((0 : Int), r1)) [some 0] ⟨rfl, rfl, ⟨⟨_, rfl, rfl, rfl, .tr _⟩, trivial⟩, ⟨.t _, .os rfl, .t _, trivial⟩⟩ h_16 ?_
    rintro ⟨f17_, i3, v4⟩ h_19
    obtain ⟨f17, y18, rfl, hh1, kk1⟩ := loopM_some h_19
    replace hh1 : m_S_run_b1 N p_list i3 v4 = some y18 := hh1
    unfold m_S_run_b1 at hh1
    refine PC.seq ?_
    refine PC.seq ?_
    refine PC.region ?_
    refine PL.op rfl (Rd.moveT rfl) ?_
    refine PL.op rfl (Rd.moveT rfl) ?_
    refine PL.op rfl (Rd.lenT rfl) ?_
    refine PL.op rfl (Rd.lss rfl rfl) ?_
    refine PL.nil ?_
    refine thA_n ?_
    rcases cond_some hh1 with ⟨h_20, hh1⟩ | ⟨h_20, hh1⟩
    rotate_left
    · refine PC.cond_false rfl h_20 ?_
      refine PC.exit ?_
      refine thA_e ?_
      refine thA_e ?_
      refine inA_eq rfl ?_
      refine thA_n ?_
      obtain rfl := some_in hh1
      obtain rfl : (v4 : (List Int)) = o15 := kk1
      exact ⟨v4, hh0, [some 0], ⟨rfl, rfl, ⟨⟨_, rfl, rfl, rfl, .tr _⟩, trivial⟩, ⟨.os rfl, trivial⟩⟩⟩
    refine PC.cond_true rfl h_20 ?_
    refine PC.skip ?_
    refine thA_n ?_
    refine PC.seq ?_
    refine PC.block ?_
    obtain ⟨x21, h_22, hh1⟩ := bind_some hh1
    obtain ⟨x23, h_24, hh1⟩ := bind_some hh1
    obtain ⟨x25, h_26, hh1⟩ := bind_some hh1
    refine PC.any (id := 5) 12 (.seg [0, 1, 2, 3, 4, 5, 6, 7, 8, 9, 10, 11] .done) [] rfl (by kernel_rfl) rfl ?_
    refine PT.seg ?_
    refine PR.op rfl (Rd.moveO rfl) ?_
    refine PR.op rfl (Rd.moveT rfl) ?_
    refine PR.op rfl (Rd.moveT rfl) ?_
    refine PR.op rfl (Rd.ixM rfl rfl h_22) ?_
    refine PR.op rfl (Rd.fieldT rfl) ?_
    refine PR.op rfl (Rd.elMF (f := 1) rfl h_22 rfl rfl) ?_
    refine PR.op rfl (Rd.moveT rfl) ?_
    refine PR.op rfl (Rd.moveT rfl) ?_
    refine PR.op rfl (Rd.ixM rfl rfl h_24) ?_
    refine PR.op rfl (Rd.fieldT rfl) ?_
    refine PR.op rfl (Rd.elMF (f := 3) rfl h_24 rfl rfl) ?_
    refine PR.op rfl (Rd.ixOM rfl rfl rfl (ixI_lt h_26)) ?_
    refine PR.nil ?_
    refine PT.done ?_
    refine PL.stRM x23.new_ rfl rfl rfl rfl rfl h_26 rfl ?_
    refine PL.nO [some ⟨.tr (eL (v4.set x21.thing.toNat x23.new_)), 3, 1⟩] rfl ?_
    refine PL.nil ?_
    refine inA_n ?_
    refine thA_n ?_
    obtain ⟨n27, h_28, hh1⟩ := bind_some hh1
    refine PC.region ?_
    refine PL.op rfl (Rd.moveT rfl) ?_
    refine PL.op rfl (Rd.addM rfl rfl h_28) ?_
    refine PL.op rfl (Rd.asnT rfl) ?_
    refine PL.nil ?_
    obtain rfl := some_in hh1
    refine thA_n ?_
    exact ⟨(f17, (n27, (v4.set x21.thing.toNat x23.new_))), Nat.lt_succ_self _, kk1, [some 0], ⟨rfl, rfl, ⟨⟨_, rfl, rfl, rfl, .tr _⟩, trivial⟩, ⟨.t _, .osE rfl (by simp only [List.length_set]), .t _, trivial⟩⟩⟩
  clear hh0
  rintro v14 hh0
  replace hh0 : m_S_run_k1 N v14 = some r := hh0
  unfold m_S_run_k1 at hh0
  refine thA_n ?_
  refine PC.seq ?_
  refine PC.region ?_
  refine PL.op rfl (Rd.moveO rfl) ?_
  refine PL.op rfl (Rd.asnO rfl) ?_
  refine PL.nil ?_
  refine thA_n ?_
  refine PC.ret ?_
  obtain rfl := some_in hh0
  exact FinA.mk (r := .os 0 0 v14.length) (bl := [⟨.tr (eL v14), 3, 1⟩]) [some 0] (.inl rfl) rfl (rl := [.tmp 4]) (.tmp .nil) rfl rfl rfl (.os rfl) ⟨⟨_, rfl, rfl, rfl, .tr _⟩, trivial⟩ ⟨rfl, rfl⟩

def m_S_RunEdits (N : Nat) (p_s : (List Int)) (p_list : (List I_Edit)) : Option ((List Int) × Bool) :=
  (m_S_validEdits N p_s p_list).bind fun r1 =>
  cond r1
    ((m_S_run N p_s p_list).bind fun r4 =>
    some (r4, true))
    (some (([] : List Int), false))
theorem w_S_RunEdits (N : Nat) (p_s : (List Int)) (p_list : (List I_Edit)) (r : (List Int) × Bool) (hh0 : m_S_RunEdits N p_s p_list = some r) : FnX Try.prog 5 [] [sL p_s, sL p_list] (RE (.tup [.os 0 0 r.1.length, bA r.2]) [⟨.tr (eL r.1), 3, 1⟩]) := by
  unfold m_S_RunEdits at hh0
  refine FnX.mk Try.func5 rfl rfl ?_
  intro s hs
  refine PC.seq ?_
  refine PC.region ?_
  refine PL.op rfl (Rd.asnT rfl) ?_
  refine PL.op rfl (Rd.asnT rfl) ?_
  refine PL.nil ?_
  refine thA_n ?_
  refine PC.seq ?_
  refine PC.seq ?_
  obtain ⟨r1, h_2, hh0⟩ := bind_some hh0
  refine PC.region ?_
  refine PL.op rfl (Rd.moveT rfl) ?_
  refine PL.op rfl (Rd.moveT rfl) ?_
  refine PL.callM false [] (w_S_validEdits N p_s p_list r1 h_2) rfl Try.call14 rfl ⟨.t _, .t _, trivial⟩ rfl trivial (fun h => by cases h) ?_
  refine PL.op rfl (Rd.unnot rfl) ?_
  refine PL.nil ?_
  refine thA_n ?_
  rcases cond_some hh0 with ⟨h_3, hh0⟩ | ⟨h_3, hh0⟩
  rotate_left
  · refine PC.cond_true rfl (not_f h_3) ?_
    refine PC.seq ?_
    refine PC.region ?_
    refine PL.op rfl (Rd.asnT rfl) ?_
    refine PL.op rfl (Rd.asnT rfl) ?_
    refine PL.nil ?_
    refine thA_n ?_
    refine PC.ret ?_
    refine thA_r ?_
    obtain rfl := some_in hh0
    exact FinA.mk (r := .tup [.os 0 0 (((([] : List Int), false).1).length), bA ((([] : List Int), false).2)]) (bl := [⟨.tr (eL ((([] : List Int), false).1)), 3, 1⟩]) [none] (.inl rfl) rfl (rl := [.tmp 4, .tmp 5]) (.tmp (.tmp .nil)) rfl rfl rfl (.tupL ⟨.osn rfl, .t _, trivial⟩) ⟨ow_nil _, trivial⟩ ⟨rfl, rfl⟩
  refine PC.cond_false rfl (not_t h_3) ?_
  refine PC.skip ?_
  refine thA_n ?_
  refine PC.seq ?_
  obtain ⟨r4, h_5, hh0⟩ := bind_some hh0
  refine PC.region ?_
  refine PL.op rfl (Rd.moveT rfl) ?_
  refine PL.op rfl (Rd.moveT rfl) ?_
  refine PL.callM false [] (w_S_run N p_s p_list r4 h_5) rfl Try.call15 rfl ⟨.t _, .t _, trivial⟩ rfl trivial (fun h => by cases h) ?_
  refine PL.nm (.os 0 0 r4.length) [some ⟨.tr (eL r4), 3, 1⟩] rfl rfl ?_
  refine PL.op rfl (Rd.asnO rfl) ?_
  refine PL.op rfl (Rd.asnT rfl) ?_
  refine PL.nil ?_
  refine thA_n ?_
  refine PC.ret ?_
  obtain rfl := some_in hh0
  exact FinA.mk (r := .tup [.os 0 0 (((r4, true).1).length), bA ((r4, true).2)]) (bl := [⟨.tr (eL ((r4, true).1)), 3, 1⟩]) [some 0] (.inl rfl) rfl (rl := [.tmp 4, .tmp 5]) (.tmp (.tmp .nil)) rfl rfl rfl (.tupL ⟨.os rfl, .t _, trivial⟩) ⟨⟨_, rfl, rfl, rfl, .tr _⟩, trivial⟩ ⟨rfl, rfl⟩

end V
end Go.Proofs.Ytaiifcnjmbpbjaa
