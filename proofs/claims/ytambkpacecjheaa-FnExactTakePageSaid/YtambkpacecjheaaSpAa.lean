/- Space: the functions of the program and of the reference. No condition. -/
import Derived.Test.YtambkpacecjheaaRdra
namespace Go.Proofs.Ytambkpacecjheaa
namespace V
open Enc (enc)
set_option linter.unusedVariables false
set_option linter.unusedSimpArgs false
set_option maxHeartbeats 4000000
set_option maxRecDepth 100000
open Go.RowKit
attribute [local irreducible] thA inA FinA eL

structure I_Hold where
  page : Int
  since : Int
deriving DecidableEq
instance : Enc I_Hold := ⟨fun x => [.v (.int .i64 x.page), .v (.int .i64 x.since)], 2, fun _ => rfl⟩
instance : EncF I_Hold := ⟨fun _ c h => by simp [enc] at h; rcases h with h | h <;> exact ⟨_, h⟩⟩
instance : EncI I_Hold := ⟨fun a b h => by rcases a with ⟨_, _⟩; rcases b with ⟨_, _⟩; simp [enc] at h; simp [h]⟩
instance : CEq Try.prog 42 [1, 1] := ⟨by kernel_rfl, by kernel_rfl, by kernel_rfl⟩
structure I_Space where
  pages : Int
  free : List Int
  held : List I_Hold
deriving DecidableEq
instance : Enc I_Space := ⟨fun x => [.v (.int .i64 x.pages), .sl x.free.length (eL x.free), .sl x.held.length (eL x.held)], 3, fun _ => rfl⟩
def m_I_Space_inUse_k3 (N : Nat) (v117 : (List Bool)) : Option ((List Bool) × Bool) :=
  (arrM 16 v117).bind fun xs123 =>
  (arrM 16 [false, false, false, false, false, false, false, false, false, false, false, false, false, false, false, false]).bind fun xs125 =>
  (arrM 16 xs123).bind fun xs127 =>
  some (xs127, true)
def m_I_Space_inUse_b3 (N : Nat) (p_s : I_Space) (i67 : Int) (v68 : (List Bool)) : Option ((Int × (List Bool)) ⊕ ((List Bool) ⊕ ((List Bool) × Bool))) :=
  cond (decide (i67 < (p_s.held.length : Int)))
    ((ixI p_s.held i67).bind fun x130 =>
    cond (decide (x130.page < (0 : Int)))
      ((arrM 16 v68).bind fun xs138 =>
      (arrM 16 [false, false, false, false, false, false, false, false, false, false, false, false, false, false, false, false]).bind fun xs140 =>
      (arrM 16 xs138).bind fun xs142 =>
      some (.inr (.inr (xs142, false))))
      (cond (decide (p_s.pages ≤ x130.page))
        ((arrM 16 v68).bind fun xs144 =>
        (arrM 16 [false, false, false, false, false, false, false, false, false, false, false, false, false, false, false, false]).bind fun xs146 =>
        (arrM 16 xs144).bind fun xs148 =>
        some (.inr (.inr (xs148, false))))
        ((ixA 16 v68 x130.page).bind fun x134 =>
        cond x134
          (cond (decide (x130.since < (0 : Int)))
            ((arrM 16 v68).bind fun xs150 =>
            (arrM 16 [false, false, false, false, false, false, false, false, false, false, false, false, false, false, false, false]).bind fun xs152 =>
            (arrM 16 xs150).bind fun xs154 =>
            some (.inr (.inr (xs154, false))))
            (cond (decide ((9999 : Int) < x130.since))
              ((arrM 16 v68).bind fun xs157 =>
              (arrM 16 [false, false, false, false, false, false, false, false, false, false, false, false, false, false, false, false]).bind fun xs159 =>
              (arrM 16 xs157).bind fun xs161 =>
              some (.inr (.inr (xs161, false))))
              (cond (decide ((0 : Int) < i67))
                ((chk (i67 - (1 : Int))).bind fun n164 =>
                (ixI p_s.held n164).bind fun x166 =>
                cond (decide (x130.since < x166.since))
                  ((arrM 16 v68).bind fun xs169 =>
                  (arrM 16 [false, false, false, false, false, false, false, false, false, false, false, false, false, false, false, false]).bind fun xs171 =>
                  (arrM 16 xs169).bind fun xs173 =>
                  some (.inr (.inr (xs173, false))))
                  ((ixA 16 v68 x130.page).bind fun x175 =>
                  (chk (i67 + (1 : Int))).bind fun n177 =>
                  some (.inl (n177, (v68.set x130.page.toNat false)))))
                ((ixA 16 v68 x130.page).bind fun x179 =>
                (chk (i67 + (1 : Int))).bind fun n181 =>
                some (.inl (n181, (v68.set x130.page.toNat false)))))))
          ((arrM 16 v68).bind fun xs183 =>
          (arrM 16 [false, false, false, false, false, false, false, false, false, false, false, false, false, false, false, false]).bind fun xs185 =>
          (arrM 16 xs183).bind fun xs187 =>
          some (.inr (.inr (xs187, false)))))))
    (some (.inr (.inl v68)))
def m_I_Space_inUse_k2 (N : Nat) (p_s : I_Space) (v61 : (List Bool)) : Option ((List Bool) × Bool) :=
  (loopM (β := (List Bool) ⊕ ((List Bool) × Bool)) (fun s : Int × (List Bool) => m_I_Space_inUse_b3 N p_s s.1 s.2) N ((0 : Int), v61)).bind fun o => match o with
  | .inl e =>
    m_I_Space_inUse_k3 N e
  | .inr v =>
    some v
def m_I_Space_inUse_b2 (N : Nat) (p_s : I_Space) (i28 : Int) (v29 : (List Bool)) : Option ((Int × (List Bool)) ⊕ ((List Bool) ⊕ ((List Bool) × Bool))) :=
  cond (decide (i28 < (p_s.free.length : Int)))
    ((ixI p_s.free i28).bind fun x190 =>
    cond (decide (x190 < (0 : Int)))
      ((arrM 16 v29).bind fun xs199 =>
      (arrM 16 [false, false, false, false, false, false, false, false, false, false, false, false, false, false, false, false]).bind fun xs201 =>
      (arrM 16 xs199).bind fun xs203 =>
      some (.inr (.inr (xs203, false))))
      (cond (decide (p_s.pages ≤ x190))
        ((arrM 16 v29).bind fun xs205 =>
        (arrM 16 [false, false, false, false, false, false, false, false, false, false, false, false, false, false, false, false]).bind fun xs207 =>
        (arrM 16 xs205).bind fun xs209 =>
        some (.inr (.inr (xs209, false))))
        (cond (decide ((0 : Int) < i28))
          ((chk (i28 - (1 : Int))).bind fun n195 =>
          (ixI p_s.free n195).bind fun x197 =>
          cond (decide (x190 ≤ x197))
            ((arrM 16 v29).bind fun xs212 =>
            (arrM 16 [false, false, false, false, false, false, false, false, false, false, false, false, false, false, false, false]).bind fun xs214 =>
            (arrM 16 xs212).bind fun xs216 =>
            some (.inr (.inr (xs216, false))))
            ((ixA 16 v29 x190).bind fun x218 =>
            (chk (i28 + (1 : Int))).bind fun n220 =>
            some (.inl (n220, (v29.set x190.toNat false)))))
          ((ixA 16 v29 x190).bind fun x222 =>
          (chk (i28 + (1 : Int))).bind fun n224 =>
          some (.inl (n224, (v29.set x190.toNat false)))))))
    (some (.inr (.inl v29)))
def m_I_Space_inUse_k1 (N : Nat) (p_s : I_Space) (v22 : (List Bool)) : Option ((List Bool) × Bool) :=
  (loopM (β := (List Bool) ⊕ ((List Bool) × Bool)) (fun s : Int × (List Bool) => m_I_Space_inUse_b2 N p_s s.1 s.2) N ((0 : Int), v22)).bind fun o => match o with
  | .inl e =>
    m_I_Space_inUse_k2 N p_s e
  | .inr v =>
    some v
def m_I_Space_inUse_b1 (N : Nat) (p_s : I_Space) (i15 : Int) (v16 : (List Bool)) : Option ((Int × (List Bool)) ⊕ (List Bool)) :=
  cond (decide (i15 < p_s.pages))
    ((ixA 16 v16 i15).bind fun x227 =>
    (chk (i15 + (1 : Int))).bind fun n229 =>
    some (.inl (n229, (v16.set i15.toNat true))))
    (some (.inr v16))
def m_I_Space_inUse (N : Nat) (p_s : I_Space) : Option ((List Bool) × Bool) :=
  cond (decide (p_s.pages < (0 : Int)))
    ((arrM 16 [false, false, false, false, false, false, false, false, false, false, false, false, false, false, false, false]).bind fun xs2 =>
    (arrM 16 [false, false, false, false, false, false, false, false, false, false, false, false, false, false, false, false]).bind fun xs4 =>
    (arrM 16 xs2).bind fun xs6 =>
    some (xs6, false))
    (cond (decide ((16 : Int) < p_s.pages))
      ((arrM 16 [false, false, false, false, false, false, false, false, false, false, false, false, false, false, false, false]).bind fun xs9 =>
      (arrM 16 [false, false, false, false, false, false, false, false, false, false, false, false, false, false, false, false]).bind fun xs11 =>
      (arrM 16 xs9).bind fun xs13 =>
      some (xs13, false))
      ((loopM (β := (List Bool)) (fun s : Int × (List Bool) => m_I_Space_inUse_b1 N p_s s.1 s.2) N ((0 : Int), [false, false, false, false, false, false, false, false, false, false, false, false, false, false, false, false])).bind fun e =>
      m_I_Space_inUse_k1 N p_s e))
theorem w_I_Space_inUse (N : Nat) (p_s : I_Space) (r : (List Bool) × Bool) (hh0 : m_I_Space_inUse N p_s = some r) : FnX Try.prog 46 [] [.agg [iA p_s.pages, sL p_s.free, sL p_s.held]] (RE (.tup [.agg ((eL r.1).map .t), bA r.2]) []) := by
  unfold m_I_Space_inUse at hh0
  refine FnX.mk Try.func46 rfl rfl ?_
  intro s hs
  refine PC.seq ?_
  refine PC.region ?_
  refine PL.ef rfl (Ef.box rfl rfl rfl) ?_
  refine PL.nm (.op 0 0) [some ⟨.mx [iA p_s.pages, sL p_s.free, sL p_s.held], 30, 0⟩] rfl rfl ?_
  refine PL.ef rfl (Ef.conv (c := .mx [bA false, bA false, bA false, bA false, bA false, bA false, bA false, bA false, bA false, bA false, bA false, bA false, bA false, bA false, bA false, bA false]) (c' := .tr (eL ([false, false, false, false, false, false, false, false, false, false, false, false, false, false, false, false]))) (by with_unfolding_all rfl) (Ef.alloc rfl rfl)) ?_
  refine PL.nm (.op 1 0) [some ⟨.mx [iA p_s.pages, sL p_s.free, sL p_s.held], 30, 0⟩, some ⟨.tr (eL ([false, false, false, false, false, false, false, false, false, false, false, false, false, false, false, false])), 59, 0⟩] rfl rfl ?_
  refine PL.op rfl (Rd.asnT rfl) ?_
  refine PL.nil ?_
  refine thA_n ?_
  refine PC.seq ?_
  refine PC.region ?_
  refine PL.ef rfl (Ef.conv (c := .mx [bA false, bA false, bA false, bA false, bA false, bA false, bA false, bA false, bA false, bA false, bA false, bA false, bA false, bA false, bA false, bA false]) (c' := .tr (eL ([false, false, false, false, false, false, false, false, false, false, false, false, false, false, false, false]))) (by with_unfolding_all rfl) (Ef.alloc rfl rfl)) ?_
  refine PL.nm (.op 2 0) [some ⟨.mx [iA p_s.pages, sL p_s.free, sL p_s.held], 30, 0⟩, some ⟨.tr (eL ([false, false, false, false, false, false, false, false, false, false, false, false, false, false, false, false])), 59, 0⟩, some ⟨.tr (eL ([false, false, false, false, false, false, false, false, false, false, false, false, false, false, false, false])), 59, 0⟩] rfl rfl ?_
  refine PL.nil ?_
  refine thA_n ?_
  refine PC.seq ?_
  refine PC.seq ?_
  rcases cond_some hh0 with ⟨h_1, hh0⟩ | ⟨h_1, hh0⟩
  · refine PC.region ?_
    refine PL.op rfl (Rd.fieldO rfl rfl) ?_
    refine PL.op rfl (Rd.loadO rfl rfl rfl) ?_
    refine PL.op rfl (Rd.lss rfl rfl) ?_
    refine PL.op rfl (Rd.moveT rfl) ?_
    refine PL.guard_off rfl rfl h_1 ?_
    refine PL.guard_off rfl rfl h_1 ?_
    refine PL.guard_off rfl rfl h_1 ?_
    refine PL.op rfl (Rd.pick_t rfl h_1) ?_
    refine PL.nil ?_
    refine thA_n ?_
    refine PC.cond_true rfl rfl ?_
    refine PC.seq ?_
    obtain ⟨xs2, h_3, hh0⟩ := bind_some hh0
    obtain ⟨xs4, h_5, hh0⟩ := bind_some hh0
    refine PC.region ?_
    refine PL.op rfl (Rd.loadArr (q := 16) rfl rfl h_3 rfl) ?_
    refine PL.stArr (q := 16) rfl rfl rfl h_5 (arrM_self h_3) rfl ?_
    refine PL.nO [some ⟨.mx [iA p_s.pages, sL p_s.free, sL p_s.held], 30, 0⟩, some ⟨.tr (eL (xs2)), 59, 0⟩, some ⟨.tr (eL ([false, false, false, false, false, false, false, false, false, false, false, false, false, false, false, false])), 59, 0⟩] rfl ?_
    refine PL.op rfl (Rd.asnT rfl) ?_
    refine PL.nil ?_
    refine thA_n ?_
    refine PC.ret ?_
    refine thA_r ?_
    obtain ⟨xs6, h_7, hh0⟩ := bind_some hh0
    obtain rfl := some_in hh0
    exact FinA.mk (r := .tup [.agg ((eL ((xs6, false).1)).map .t), bA ((xs6, false).2)]) (bl := []) [] (.inl rfl) rfl (rl := [.cell 2 59, .tmp 3]) (.cellA (q := 16) rfl rfl h_7 rfl (.tmp .nil)) rfl rfl rfl (.tupL ⟨(Sb.aggS' _), .t _, trivial⟩) trivial ⟨rfl, rfl⟩
  refine PC.region ?_
  refine PL.op rfl (Rd.fieldO rfl rfl) ?_
  refine PL.op rfl (Rd.loadO rfl rfl rfl) ?_
  refine PL.op rfl (Rd.lss rfl rfl) ?_
  refine PL.op rfl (Rd.moveT rfl) ?_
  refine PL.guard_on rfl h_1 ?_
  refine PL.op rfl (Rd.fieldO rfl rfl) ?_
  refine PL.guard_on rfl h_1 ?_
  refine PL.op rfl (Rd.loadO rfl rfl rfl) ?_
  refine PL.guard_on rfl h_1 ?_
  refine PL.op rfl (Rd.gtr rfl rfl) ?_
  refine PL.op rfl (Rd.pick_f rfl h_1) ?_
  refine PL.nil ?_
  refine thA_n ?_
  rcases cond_some hh0 with ⟨h_8, hh0⟩ | ⟨h_8, hh0⟩
  · refine PC.cond_true rfl h_8 ?_
    refine PC.seq ?_
    obtain ⟨xs9, h_10, hh0⟩ := bind_some hh0
    obtain ⟨xs11, h_12, hh0⟩ := bind_some hh0
    refine PC.region ?_
    refine PL.op rfl (Rd.loadArr (q := 16) rfl rfl h_10 rfl) ?_
    refine PL.stArr (q := 16) rfl rfl rfl h_12 (arrM_self h_10) rfl ?_
    refine PL.nO [some ⟨.mx [iA p_s.pages, sL p_s.free, sL p_s.held], 30, 0⟩, some ⟨.tr (eL (xs9)), 59, 0⟩, some ⟨.tr (eL ([false, false, false, false, false, false, false, false, false, false, false, false, false, false, false, false])), 59, 0⟩] rfl ?_
    refine PL.op rfl (Rd.asnT rfl) ?_
    refine PL.nil ?_
    refine thA_n ?_
    refine PC.ret ?_
    refine thA_r ?_
    obtain ⟨xs13, h_14, hh0⟩ := bind_some hh0
    obtain rfl := some_in hh0
    exact FinA.mk (r := .tup [.agg ((eL ((xs13, false).1)).map .t), bA ((xs13, false).2)]) (bl := []) [] (.inl rfl) rfl (rl := [.cell 2 59, .tmp 3]) (.cellA (q := 16) rfl rfl h_14 rfl (.tmp .nil)) rfl rfl rfl (.tupL ⟨(Sb.aggS' _), .t _, trivial⟩) trivial ⟨rfl, rfl⟩
  refine PC.cond_false rfl h_8 ?_
  refine PC.skip ?_
  refine thA_n ?_
  refine PC.seq ?_
  refine PC.seq ?_
  refine PC.region ?_
  refine PL.op rfl (Rd.fieldO rfl rfl) ?_
  refine PL.op rfl (Rd.loadO rfl rfl rfl) ?_
  refine PL.op rfl (Rd.moveT rfl) ?_
  refine PL.nil ?_
  refine thA_n ?_
  obtain ⟨o23, h_24, hh0⟩ := bind_some hh0
  refine PC.cutE hs (fun x : (List Bool) => [(1, .op 0 0), (2, .op 1 0), (4, .op 2 0)]) (fun x => [⟨.mx [iA p_s.pages, sL p_s.free, sL p_s.held], 30, 0⟩, ⟨.tr (eL ([false, false, false, false, false, false, false, false, false, false, false, false, false, false, false, false])), 59, 0⟩, ⟨.tr (eL (x)), 59, 0⟩]) (fun x => m_I_Space_inUse_k1 N p_s x = some r) ?_ ?_
  · refine PC.block ?_
    refine PC.loop hs (fun x : Nat × (Int × (List Bool)) => [(1, .op 0 0), (2, .op 1 0), (4, .op 2 0), (20, iA p_s.pages), (21, iA x.2.1)]) (fun x => [⟨.mx [iA p_s.pages, sL p_s.free, sL p_s.held], 30, 0⟩, ⟨.tr (eL ([false, false, false, false, false, false, false, false, false, false, false, false, false, false, false, false])), 59, 0⟩, ⟨.tr (eL (x.2.2)), 59, 0⟩]) (fun x => loopM (β := (List Bool)) (fun s : Int × (List Bool) => m_I_Space_inUse_b1 N p_s s.1 s.2) x.1 x.2 = some o23) (fun x => x.1) (N, ((0 : Int), [false, false, false, false, false, false, false, false, false, false, false, false, false, false, false, false])) [some 0, some 1, some 2] ⟨rfl, rfl, ⟨⟨_, rfl, rfl, rfl, .mx ⟨.t _, .t _, .t _, trivial⟩⟩, ⟨_, rfl, rfl, rfl, .tr _⟩, ⟨_, rfl, rfl, rfl, .tr _⟩, trivial⟩, ⟨.op rfl, .op rfl, .op rfl, .t _, .t _, trivial⟩⟩ h_24 ?_
    rintro ⟨f25_, i15, v16⟩ h_27
    obtain ⟨f25, y26, rfl, hh1, kk1⟩ := loopM_some h_27
    replace hh1 : m_I_Space_inUse_b1 N p_s i15 v16 = some y26 := hh1
    unfold m_I_Space_inUse_b1 at hh1
    refine PC.seq ?_
    refine PC.region ?_
    refine PL.op rfl (Rd.lss rfl rfl) ?_
    refine PL.nil ?_
    refine thA_n ?_
    refine PC.seq ?_
    rcases cond_some hh1 with ⟨h_226, hh1⟩ | ⟨h_226, hh1⟩
    rotate_left
    · refine PC.cond_false rfl h_226 ?_
      refine PC.exit ?_
      refine thA_e ?_
      refine thA_e ?_
      refine inA_eq rfl ?_
      refine thA_n ?_
      obtain rfl := some_in hh1
      obtain rfl : (v16 : (List Bool)) = o23 := kk1
      exact ⟨v16, hh0, [some 0, some 1, some 2], ⟨rfl, rfl, ⟨⟨_, rfl, rfl, rfl, .mx ⟨.t _, .t _, .t _, trivial⟩⟩, ⟨_, rfl, rfl, rfl, .tr _⟩, ⟨_, rfl, rfl, rfl, .tr _⟩, trivial⟩, ⟨.op rfl, .op rfl, .op rfl, trivial⟩⟩⟩
    refine PC.cond_true rfl h_226 ?_
    refine PC.skip ?_
    refine thA_n ?_
    refine PC.seq ?_
    refine PC.block ?_
    refine PC.seq ?_
    refine PC.region ?_
    refine PL.op rfl (Rd.moveT rfl) ?_
    refine PL.op rfl (Rd.asnT rfl) ?_
    refine PL.nil ?_
    refine thA_n ?_
    obtain ⟨x227, h_228, hh1⟩ := bind_some hh1
    refine PC.region ?_
    refine PL.op rfl (Rd.moveT rfl) ?_
    refine PL.op rfl (Rd.ixAM rfl rfl rfl h_228) ?_
    refine PL.stRM true rfl rfl rfl rfl rfl (ixA_I h_228) rfl ?_
    refine PL.nO [some ⟨.mx [iA p_s.pages, sL p_s.free, sL p_s.held], 30, 0⟩, some ⟨.tr (eL ([false, false, false, false, false, false, false, false, false, false, false, false, false, false, false, false])), 59, 0⟩, some ⟨.tr (eL ((v16.set i15.toNat true))), 59, 0⟩] rfl ?_
    refine PL.nil ?_
    refine inA_n ?_
    refine thA_n ?_
    obtain ⟨n229, h_230, hh1⟩ := bind_some hh1
    refine PC.region ?_
    refine PL.op rfl (Rd.addM rfl rfl h_230) ?_
    refine PL.op rfl (Rd.moveT rfl) ?_
    refine PL.nil ?_
    obtain rfl := some_in hh1
    refine thA_n ?_
    exact ⟨(f25, (n229, (v16.set i15.toNat true))), Nat.lt_succ_self _, kk1, [some 0, some 1, some 2], ⟨rfl, rfl, ⟨⟨_, rfl, rfl, rfl, .mx ⟨.t _, .t _, .t _, trivial⟩⟩, ⟨_, rfl, rfl, rfl, .tr _⟩, ⟨_, rfl, rfl, rfl, .tr _⟩, trivial⟩, ⟨.op rfl, .op rfl, .op rfl, .t _, .t _, trivial⟩⟩⟩
  clear hh0
  rintro v22 hh0
  replace hh0 : m_I_Space_inUse_k1 N p_s v22 = some r := hh0
  unfold m_I_Space_inUse_k1 at hh0
  refine thA_n ?_
  refine PC.seq ?_
  refine PC.seq ?_
  refine PC.region ?_
  refine PL.op rfl (Rd.fieldO rfl rfl) ?_
  refine PL.op rfl (Rd.loadO rfl rfl rfl) ?_
  refine PL.op rfl (Rd.lenT rfl) ?_
  refine PL.op rfl (Rd.moveT rfl) ?_
  refine PL.nil ?_
  refine thA_n ?_
  obtain ⟨o62, h_63, hh0⟩ := bind_some hh0
  refine PC.cutE hs (fun x : (List Bool) => [(1, .op 0 0), (2, .op 1 0), (4, .op 2 0)]) (fun x => [⟨.mx [iA p_s.pages, sL p_s.free, sL p_s.held], 30, 0⟩, ⟨.tr (eL ([false, false, false, false, false, false, false, false, false, false, false, false, false, false, false, false])), 59, 0⟩, ⟨.tr (eL (x)), 59, 0⟩]) (fun x => m_I_Space_inUse_k2 N p_s x = some r) ?_ ?_
  · refine PC.block ?_
    refine PC.loop hs (fun x : Nat × (Int × (List Bool)) => [(1, .op 0 0), (2, .op 1 0), (4, .op 2 0), (28, sL p_s.free), (29, iA (p_s.free.length : Int)), (30, iA x.2.1)]) (fun x => [⟨.mx [iA p_s.pages, sL p_s.free, sL p_s.held], 30, 0⟩, ⟨.tr (eL ([false, false, false, false, false, false, false, false, false, false, false, false, false, false, false, false])), 59, 0⟩, ⟨.tr (eL (x.2.2)), 59, 0⟩]) (fun x => loopM (β := (List Bool) ⊕ ((List Bool) × Bool)) (fun s : Int × (List Bool) => m_I_Space_inUse_b2 N p_s s.1 s.2) x.1 x.2 = some o62) (fun x => x.1) (N, ((0 : Int), v22)) [some 0, some 1, some 2] ⟨rfl, rfl, ⟨⟨_, rfl, rfl, rfl, .mx ⟨.t _, .t _, .t _, trivial⟩⟩, ⟨_, rfl, rfl, rfl, .tr _⟩, ⟨_, rfl, rfl, rfl, .tr _⟩, trivial⟩, ⟨.op rfl, .op rfl, .op rfl, .t _, .t _, .t _, trivial⟩⟩ h_63 ?_
    rintro ⟨f64_, i28, v29⟩ h_66
    obtain ⟨f64, y65, rfl, hh1, kk1⟩ := loopM_some h_66
    replace hh1 : m_I_Space_inUse_b2 N p_s i28 v29 = some y65 := hh1
    unfold m_I_Space_inUse_b2 at hh1
    refine PC.seq ?_
    refine PC.region ?_
    refine PL.op rfl (Rd.lss rfl rfl) ?_
    refine PL.nil ?_
    refine thA_n ?_
    refine PC.seq ?_
    rcases cond_some hh1 with ⟨h_189, hh1⟩ | ⟨h_189, hh1⟩
    rotate_left
    · refine PC.cond_false rfl h_189 ?_
      refine PC.exit ?_
      refine thA_e ?_
      refine thA_e ?_
      refine inA_eq rfl ?_
      refine thA_n ?_
      obtain rfl := some_in hh1
      obtain rfl : (.inl v29 : (List Bool) ⊕ ((List Bool) × Bool)) = o62 := kk1
      exact ⟨v29, hh0, [some 0, some 1, some 2], ⟨rfl, rfl, ⟨⟨_, rfl, rfl, rfl, .mx ⟨.t _, .t _, .t _, trivial⟩⟩, ⟨_, rfl, rfl, rfl, .tr _⟩, ⟨_, rfl, rfl, rfl, .tr _⟩, trivial⟩, ⟨.op rfl, .op rfl, .op rfl, trivial⟩⟩⟩
    refine PC.cond_true rfl h_189 ?_
    refine PC.skip ?_
    refine thA_n ?_
    refine PC.seq ?_
    refine PC.block ?_
    refine PC.seq ?_
    obtain ⟨x190, h_191, hh1⟩ := bind_some hh1
    refine PC.region ?_
    refine PL.op rfl (Rd.moveT rfl) ?_
    refine PL.op rfl (Rd.ixM rfl rfl h_191) ?_
    refine PL.op rfl (Rd.elM1 rfl h_191 rfl rfl) ?_
    refine PL.op rfl (Rd.asnT rfl) ?_
    refine PL.op rfl (Rd.asnT rfl) ?_
    refine PL.nil ?_
    refine thA_n ?_
    refine PC.seq ?_
    refine PC.seq ?_
    rcases cond_some hh1 with ⟨h_192, hh1⟩ | ⟨h_192, hh1⟩
    · refine PC.region ?_
      refine PL.op rfl (Rd.moveT rfl) ?_
      refine PL.op rfl (Rd.lss rfl rfl) ?_
      refine PL.op rfl (Rd.moveT rfl) ?_
      refine PL.guard_off rfl rfl h_192 ?_
      refine PL.guard_off rfl rfl h_192 ?_
      refine PL.guard_off rfl rfl h_192 ?_
      refine PL.guard_off rfl rfl h_192 ?_
      refine PL.op rfl (Rd.pick_t rfl h_192) ?_
      refine PL.op rfl (Rd.moveT rfl) ?_
      refine PL.guard_off rfl rfl rfl ?_
      refine PL.guard_off rfl rfl rfl ?_
      refine PL.guard_off rfl rfl rfl ?_
      refine PL.guard_un rfl rfl ?_
      refine PL.guard_un rfl rfl ?_
      refine PL.guard_un rfl rfl ?_
      refine PL.guard_un rfl rfl ?_
      refine PL.guard_un rfl rfl ?_
      refine PL.guard_un rfl rfl ?_
      refine PL.guard_un rfl rfl ?_
      refine PL.guard_un rfl rfl ?_
      refine PL.guard_off rfl rfl rfl ?_
      refine PL.op rfl (Rd.pick_t rfl rfl) ?_
      refine PL.nil ?_
      refine thA_n ?_
      refine PC.cond_true rfl rfl ?_
      refine PC.seq ?_
      obtain ⟨xs199, h_200, hh1⟩ := bind_some hh1
      obtain ⟨xs201, h_202, hh1⟩ := bind_some hh1
      refine PC.region ?_
      refine PL.op rfl (Rd.loadArr (q := 16) rfl rfl h_200 rfl) ?_
      refine PL.stArr (q := 16) rfl rfl rfl h_202 (arrM_self h_200) rfl ?_
      refine PL.nO [some ⟨.mx [iA p_s.pages, sL p_s.free, sL p_s.held], 30, 0⟩, some ⟨.tr (eL (xs199)), 59, 0⟩, some ⟨.tr (eL (v29)), 59, 0⟩] rfl ?_
      refine PL.op rfl (Rd.asnT rfl) ?_
      refine PL.nil ?_
      refine thA_n ?_
      refine PC.ret ?_
      refine thA_r ?_
      refine inA_r ?_
      refine thA_r ?_
      refine thA_r ?_
      refine inA_r ?_
      refine thA_r ?_
      obtain ⟨xs203, h_204, hh1⟩ := bind_some hh1
      obtain rfl := some_in hh1
      obtain rfl : (.inr (xs203, false) : (List Bool) ⊕ ((List Bool) × Bool)) = o62 := kk1
      refine thA_r ?_
      obtain rfl := some_in hh0
      exact FinA.mk (r := .tup [.agg ((eL ((xs203, false).1)).map .t), bA ((xs203, false).2)]) (bl := []) [] (.inl rfl) rfl (rl := [.cell 2 59, .tmp 3]) (.cellA (q := 16) rfl rfl h_204 rfl (.tmp .nil)) rfl rfl rfl (.tupL ⟨(Sb.aggS' _), .t _, trivial⟩) trivial ⟨rfl, rfl⟩
    rcases cond_some hh1 with ⟨h_193, hh1⟩ | ⟨h_193, hh1⟩
    · refine PC.region ?_
      refine PL.op rfl (Rd.moveT rfl) ?_
      refine PL.op rfl (Rd.lss rfl rfl) ?_
      refine PL.op rfl (Rd.moveT rfl) ?_
      refine PL.guard_on rfl h_192 ?_
      refine PL.op rfl (Rd.moveT rfl) ?_
      refine PL.guard_on rfl h_192 ?_
      refine PL.op rfl (Rd.fieldO rfl rfl) ?_
      refine PL.guard_on rfl h_192 ?_
      refine PL.op rfl (Rd.loadO rfl rfl rfl) ?_
      refine PL.guard_on rfl h_192 ?_
      refine PL.op rfl (Rd.geq rfl rfl) ?_
      refine PL.op rfl (Rd.pick_f rfl h_192) ?_
      refine PL.op rfl (Rd.moveT rfl) ?_
      refine PL.guard_off rfl rfl h_193 ?_
      refine PL.guard_off rfl rfl h_193 ?_
      refine PL.guard_off rfl rfl h_193 ?_
      refine PL.guard_un rfl rfl ?_
      refine PL.guard_un rfl rfl ?_
      refine PL.guard_un rfl rfl ?_
      refine PL.guard_un rfl rfl ?_
      refine PL.guard_un rfl rfl ?_
      refine PL.guard_un rfl rfl ?_
      refine PL.guard_un rfl rfl ?_
      refine PL.guard_un rfl rfl ?_
      refine PL.guard_off rfl rfl h_193 ?_
      refine PL.op rfl (Rd.pick_t rfl h_193) ?_
      refine PL.nil ?_
      refine thA_n ?_
      refine PC.cond_true rfl rfl ?_
      refine PC.seq ?_
      obtain ⟨xs205, h_206, hh1⟩ := bind_some hh1
      obtain ⟨xs207, h_208, hh1⟩ := bind_some hh1
      refine PC.region ?_
      refine PL.op rfl (Rd.loadArr (q := 16) rfl rfl h_206 rfl) ?_
      refine PL.stArr (q := 16) rfl rfl rfl h_208 (arrM_self h_206) rfl ?_
      refine PL.nO [some ⟨.mx [iA p_s.pages, sL p_s.free, sL p_s.held], 30, 0⟩, some ⟨.tr (eL (xs205)), 59, 0⟩, some ⟨.tr (eL (v29)), 59, 0⟩] rfl ?_
      refine PL.op rfl (Rd.asnT rfl) ?_
      refine PL.nil ?_
      refine thA_n ?_
      refine PC.ret ?_
      refine thA_r ?_
      refine inA_r ?_
      refine thA_r ?_
      refine thA_r ?_
      refine inA_r ?_
      refine thA_r ?_
      obtain ⟨xs209, h_210, hh1⟩ := bind_some hh1
      obtain rfl := some_in hh1
      obtain rfl : (.inr (xs209, false) : (List Bool) ⊕ ((List Bool) × Bool)) = o62 := kk1
      refine thA_r ?_
      obtain rfl := some_in hh0
      exact FinA.mk (r := .tup [.agg ((eL ((xs209, false).1)).map .t), bA ((xs209, false).2)]) (bl := []) [] (.inl rfl) rfl (rl := [.cell 2 59, .tmp 3]) (.cellA (q := 16) rfl rfl h_210 rfl (.tmp .nil)) rfl rfl rfl (.tupL ⟨(Sb.aggS' _), .t _, trivial⟩) trivial ⟨rfl, rfl⟩
    rcases cond_some hh1 with ⟨h_194, hh1⟩ | ⟨h_194, hh1⟩
    rotate_left
    · refine PC.region ?_
      refine PL.op rfl (Rd.moveT rfl) ?_
      refine PL.op rfl (Rd.lss rfl rfl) ?_
      refine PL.op rfl (Rd.moveT rfl) ?_
      refine PL.guard_on rfl h_192 ?_
      refine PL.op rfl (Rd.moveT rfl) ?_
      refine PL.guard_on rfl h_192 ?_
      refine PL.op rfl (Rd.fieldO rfl rfl) ?_
      refine PL.guard_on rfl h_192 ?_
      refine PL.op rfl (Rd.loadO rfl rfl rfl) ?_
      refine PL.guard_on rfl h_192 ?_
      refine PL.op rfl (Rd.geq rfl rfl) ?_
      refine PL.op rfl (Rd.pick_f rfl h_192) ?_
      refine PL.op rfl (Rd.moveT rfl) ?_
      refine PL.guard_on rfl h_193 ?_
      refine PL.op rfl (Rd.moveT rfl) ?_
      refine PL.guard_on rfl h_193 ?_
      refine PL.op rfl (Rd.gtr rfl rfl) ?_
      refine PL.guard_on rfl h_193 ?_
      refine PL.op rfl (Rd.moveT rfl) ?_
      refine PL.guard_off rfl rfl h_194 ?_
      refine PL.guard_off rfl rfl h_194 ?_
      refine PL.guard_off rfl rfl h_194 ?_
      refine PL.guard_off rfl rfl h_194 ?_
      refine PL.guard_off rfl rfl h_194 ?_
      refine PL.guard_off rfl rfl h_194 ?_
      refine PL.guard_off rfl rfl h_194 ?_
      refine PL.guard_off rfl rfl h_194 ?_
      refine PL.guard_on rfl h_193 ?_
      refine PL.op rfl (Rd.pick_f rfl h_194) ?_
      refine PL.op rfl (Rd.pick_f rfl h_193) ?_
      refine PL.nil ?_
      refine thA_n ?_
      refine PC.cond_false rfl rfl ?_
      refine PC.skip ?_
      refine thA_n ?_
      obtain ⟨x222, h_223, hh1⟩ := bind_some hh1
      refine PC.region ?_
      refine PL.op rfl (Rd.moveT rfl) ?_
      refine PL.op rfl (Rd.ixAM rfl rfl rfl h_223) ?_
      refine PL.stRM false rfl rfl rfl rfl rfl (ixA_I h_223) rfl ?_
      refine PL.nO [some ⟨.mx [iA p_s.pages, sL p_s.free, sL p_s.held], 30, 0⟩, some ⟨.tr (eL ([false, false, false, false, false, false, false, false, false, false, false, false, false, false, false, false])), 59, 0⟩, some ⟨.tr (eL ((v29.set x190.toNat false))), 59, 0⟩] rfl ?_
      refine PL.nil ?_
      refine inA_n ?_
      refine thA_n ?_
      obtain ⟨n224, h_225, hh1⟩ := bind_some hh1
      refine PC.region ?_
      refine PL.op rfl (Rd.addM rfl rfl h_225) ?_
      refine PL.op rfl (Rd.moveT rfl) ?_
      refine PL.nil ?_
      obtain rfl := some_in hh1
      refine thA_n ?_
      exact ⟨(f64, (n224, (v29.set x190.toNat false))), Nat.lt_succ_self _, kk1, [some 0, some 1, some 2], ⟨rfl, rfl, ⟨⟨_, rfl, rfl, rfl, .mx ⟨.t _, .t _, .t _, trivial⟩⟩, ⟨_, rfl, rfl, rfl, .tr _⟩, ⟨_, rfl, rfl, rfl, .tr _⟩, trivial⟩, ⟨.op rfl, .op rfl, .op rfl, .t _, .t _, .t _, trivial⟩⟩⟩
    obtain ⟨n195, h_196, hh1⟩ := bind_some hh1
    obtain ⟨x197, h_198, hh1⟩ := bind_some hh1
    refine PC.region ?_
    refine PL.op rfl (Rd.moveT rfl) ?_
    refine PL.op rfl (Rd.lss rfl rfl) ?_
    refine PL.op rfl (Rd.moveT rfl) ?_
    refine PL.guard_on rfl h_192 ?_
    refine PL.op rfl (Rd.moveT rfl) ?_
    refine PL.guard_on rfl h_192 ?_
    refine PL.op rfl (Rd.fieldO rfl rfl) ?_
    refine PL.guard_on rfl h_192 ?_
    refine PL.op rfl (Rd.loadO rfl rfl rfl) ?_
    refine PL.guard_on rfl h_192 ?_
    refine PL.op rfl (Rd.geq rfl rfl) ?_
    refine PL.op rfl (Rd.pick_f rfl h_192) ?_
    refine PL.op rfl (Rd.moveT rfl) ?_
    refine PL.guard_on rfl h_193 ?_
    refine PL.op rfl (Rd.moveT rfl) ?_
    refine PL.guard_on rfl h_193 ?_
    refine PL.op rfl (Rd.gtr rfl rfl) ?_
    refine PL.guard_on rfl h_193 ?_
    refine PL.op rfl (Rd.moveT rfl) ?_
    refine PL.guard_on rfl h_194 ?_
    refine PL.op rfl (Rd.fieldO rfl rfl) ?_
    refine PL.guard_on rfl h_194 ?_
    refine PL.op rfl (Rd.loadO rfl rfl rfl) ?_
    refine PL.guard_on rfl h_194 ?_
    refine PL.op rfl (Rd.moveT rfl) ?_
    refine PL.guard_on rfl h_194 ?_
    refine PL.op rfl (Rd.subM rfl rfl h_196) ?_
    refine PL.guard_on rfl h_194 ?_
    refine PL.op rfl (Rd.ixM rfl rfl h_198) ?_
    refine PL.guard_on rfl h_194 ?_
    refine PL.op rfl (Rd.elM1 rfl h_198 rfl rfl) ?_
    refine PL.guard_on rfl h_194 ?_
    refine PL.op rfl (Rd.moveT rfl) ?_
    refine PL.guard_on rfl h_194 ?_
    refine PL.op rfl (Rd.geq rfl rfl) ?_
    refine PL.guard_on rfl h_193 ?_
    refine PL.op rfl (Rd.pick_t rfl h_194) ?_
    refine PL.op rfl (Rd.pick_f rfl h_193) ?_
    refine PL.nil ?_
    refine thA_n ?_
    rcases cond_some hh1 with ⟨h_211, hh1⟩ | ⟨h_211, hh1⟩
    · refine PC.cond_true rfl h_211 ?_
      refine PC.seq ?_
      obtain ⟨xs212, h_213, hh1⟩ := bind_some hh1
      obtain ⟨xs214, h_215, hh1⟩ := bind_some hh1
      refine PC.region ?_
      refine PL.op rfl (Rd.loadArr (q := 16) rfl rfl h_213 rfl) ?_
      refine PL.stArr (q := 16) rfl rfl rfl h_215 (arrM_self h_213) rfl ?_
      refine PL.nO [some ⟨.mx [iA p_s.pages, sL p_s.free, sL p_s.held], 30, 0⟩, some ⟨.tr (eL (xs212)), 59, 0⟩, some ⟨.tr (eL (v29)), 59, 0⟩] rfl ?_
      refine PL.op rfl (Rd.asnT rfl) ?_
      refine PL.nil ?_
      refine thA_n ?_
      refine PC.ret ?_
      refine thA_r ?_
      refine inA_r ?_
      refine thA_r ?_
      refine thA_r ?_
      refine inA_r ?_
      refine thA_r ?_
      obtain ⟨xs216, h_217, hh1⟩ := bind_some hh1
      obtain rfl := some_in hh1
      obtain rfl : (.inr (xs216, false) : (List Bool) ⊕ ((List Bool) × Bool)) = o62 := kk1
      refine thA_r ?_
      obtain rfl := some_in hh0
      exact FinA.mk (r := .tup [.agg ((eL ((xs216, false).1)).map .t), bA ((xs216, false).2)]) (bl := []) [] (.inl rfl) rfl (rl := [.cell 2 59, .tmp 3]) (.cellA (q := 16) rfl rfl h_217 rfl (.tmp .nil)) rfl rfl rfl (.tupL ⟨(Sb.aggS' _), .t _, trivial⟩) trivial ⟨rfl, rfl⟩
    refine PC.cond_false rfl h_211 ?_
    refine PC.skip ?_
    refine thA_n ?_
    obtain ⟨x218, h_219, hh1⟩ := bind_some hh1
    refine PC.region ?_
    refine PL.op rfl (Rd.moveT rfl) ?_
    refine PL.op rfl (Rd.ixAM rfl rfl rfl h_219) ?_
    refine PL.stRM false rfl rfl rfl rfl rfl (ixA_I h_219) rfl ?_
    refine PL.nO [some ⟨.mx [iA p_s.pages, sL p_s.free, sL p_s.held], 30, 0⟩, some ⟨.tr (eL ([false, false, false, false, false, false, false, false, false, false, false, false, false, false, false, false])), 59, 0⟩, some ⟨.tr (eL ((v29.set x190.toNat false))), 59, 0⟩] rfl ?_
    refine PL.nil ?_
    refine inA_n ?_
    refine thA_n ?_
    obtain ⟨n220, h_221, hh1⟩ := bind_some hh1
    refine PC.region ?_
    refine PL.op rfl (Rd.addM rfl rfl h_221) ?_
    refine PL.op rfl (Rd.moveT rfl) ?_
    refine PL.nil ?_
    obtain rfl := some_in hh1
    refine thA_n ?_
    exact ⟨(f64, (n220, (v29.set x190.toNat false))), Nat.lt_succ_self _, kk1, [some 0, some 1, some 2], ⟨rfl, rfl, ⟨⟨_, rfl, rfl, rfl, .mx ⟨.t _, .t _, .t _, trivial⟩⟩, ⟨_, rfl, rfl, rfl, .tr _⟩, ⟨_, rfl, rfl, rfl, .tr _⟩, trivial⟩, ⟨.op rfl, .op rfl, .op rfl, .t _, .t _, .t _, trivial⟩⟩⟩
  clear hh0
  rintro v61 hh0
  replace hh0 : m_I_Space_inUse_k2 N p_s v61 = some r := hh0
  unfold m_I_Space_inUse_k2 at hh0
  refine thA_n ?_
  refine PC.seq ?_
  refine PC.seq ?_
  refine PC.region ?_
  refine PL.op rfl (Rd.fieldO rfl rfl) ?_
  refine PL.op rfl (Rd.loadO rfl rfl rfl) ?_
  refine PL.op rfl (Rd.lenT rfl) ?_
  refine PL.op rfl (Rd.moveT rfl) ?_
  refine PL.nil ?_
  refine thA_n ?_
  obtain ⟨o118, h_119, hh0⟩ := bind_some hh0
  refine PC.cutE hs (fun x : (List Bool) => [(2, .op 0 0), (4, .op 1 0)]) (fun x => [⟨.tr (eL ([false, false, false, false, false, false, false, false, false, false, false, false, false, false, false, false])), 59, 0⟩, ⟨.tr (eL (x)), 59, 0⟩]) (fun x => m_I_Space_inUse_k3 N x = some r) ?_ ?_
  · refine PC.block ?_
    refine PC.loop hs (fun x : Nat × (Int × (List Bool)) => [(1, .op 0 0), (2, .op 1 0), (4, .op 2 0), (62, sL p_s.held), (63, iA (p_s.held.length : Int)), (64, iA x.2.1)]) (fun x => [⟨.mx [iA p_s.pages, sL p_s.free, sL p_s.held], 30, 0⟩, ⟨.tr (eL ([false, false, false, false, false, false, false, false, false, false, false, false, false, false, false, false])), 59, 0⟩, ⟨.tr (eL (x.2.2)), 59, 0⟩]) (fun x => loopM (β := (List Bool) ⊕ ((List Bool) × Bool)) (fun s : Int × (List Bool) => m_I_Space_inUse_b3 N p_s s.1 s.2) x.1 x.2 = some o118) (fun x => x.1) (N, ((0 : Int), v61)) [some 0, some 1, some 2] ⟨rfl, rfl, ⟨⟨_, rfl, rfl, rfl, .mx ⟨.t _, .t _, .t _, trivial⟩⟩, ⟨_, rfl, rfl, rfl, .tr _⟩, ⟨_, rfl, rfl, rfl, .tr _⟩, trivial⟩, ⟨.op rfl, .op rfl, .op rfl, .t _, .t _, .t _, trivial⟩⟩ h_119 ?_
    rintro ⟨f120_, i67, v68⟩ h_122
    obtain ⟨f120, y121, rfl, hh1, kk1⟩ := loopM_some h_122
    replace hh1 : m_I_Space_inUse_b3 N p_s i67 v68 = some y121 := hh1
    unfold m_I_Space_inUse_b3 at hh1
    refine PC.seq ?_
    refine PC.region ?_
    refine PL.op rfl (Rd.lss rfl rfl) ?_
    refine PL.nil ?_
    refine thA_n ?_
    refine PC.seq ?_
    rcases cond_some hh1 with ⟨h_129, hh1⟩ | ⟨h_129, hh1⟩
    rotate_left
    · refine PC.cond_false rfl h_129 ?_
      refine PC.exit ?_
      refine thA_e ?_
      refine thA_e ?_
      refine inA_eq rfl ?_
      refine thA_n ?_
      obtain rfl := some_in hh1
      obtain rfl : (.inl v68 : (List Bool) ⊕ ((List Bool) × Bool)) = o118 := kk1
      exact ⟨v68, hh0, [some 1, some 2], ⟨rfl, rfl, ⟨⟨_, rfl, rfl, rfl, .tr _⟩, ⟨_, rfl, rfl, rfl, .tr _⟩, trivial⟩, ⟨.op rfl, .op rfl, trivial⟩⟩⟩
    refine PC.cond_true rfl h_129 ?_
    refine PC.skip ?_
    refine thA_n ?_
    refine PC.seq ?_
    refine PC.block ?_
    refine PC.seq ?_
    obtain ⟨x130, h_131, hh1⟩ := bind_some hh1
    refine PC.region ?_
    refine PL.op rfl (Rd.moveT rfl) ?_
    refine PL.op rfl (Rd.ixM rfl rfl h_131) ?_
    refine PL.op rfl (Rd.elMR rfl h_131 rfl rfl) ?_
    refine PL.ef rfl (Ef.alloc rfl rfl) ?_
    refine PL.nm (.op 3 0) [some ⟨.mx [iA p_s.pages, sL p_s.free, sL p_s.held], 30, 0⟩, some ⟨.tr (eL ([false, false, false, false, false, false, false, false, false, false, false, false, false, false, false, false])), 59, 0⟩, some ⟨.tr (eL (v68)), 59, 0⟩, some ⟨.mx [iA (0 : Int), iA (0 : Int)], 42, 0⟩] rfl rfl ?_
    refine PL.op rfl (Rd.asnT rfl) ?_
    refine PL.store rfl rfl rfl rfl rfl rfl rfl ?_
    refine PL.nO [some ⟨.mx [iA p_s.pages, sL p_s.free, sL p_s.held], 30, 0⟩, some ⟨.tr (eL ([false, false, false, false, false, false, false, false, false, false, false, false, false, false, false, false])), 59, 0⟩, some ⟨.tr (eL (v68)), 59, 0⟩, some ⟨.mx [iA x130.page, iA x130.since], 42, 0⟩] rfl ?_
    refine PL.nil ?_
    refine thA_n ?_
    refine PC.seq ?_
    refine PC.seq ?_
    rcases cond_some hh1 with ⟨h_132, hh1⟩ | ⟨h_132, hh1⟩
    · refine PC.region ?_
      refine PL.op rfl (Rd.fieldO rfl rfl) ?_
      refine PL.op rfl (Rd.loadO rfl rfl rfl) ?_
      refine PL.op rfl (Rd.lss rfl rfl) ?_
      refine PL.op rfl (Rd.moveT rfl) ?_
      refine PL.guard_off rfl rfl h_132 ?_
      refine PL.guard_off rfl rfl h_132 ?_
      refine PL.guard_off rfl rfl h_132 ?_
      refine PL.guard_off rfl rfl h_132 ?_
      refine PL.guard_off rfl rfl h_132 ?_
      refine PL.op rfl (Rd.pick_t rfl h_132) ?_
      refine PL.op rfl (Rd.moveT rfl) ?_
      refine PL.guard_off rfl rfl rfl ?_
      refine PL.guard_off rfl rfl rfl ?_
      refine PL.guard_off rfl rfl rfl ?_
      refine PL.guard_off rfl rfl rfl ?_
      refine PL.guard_off rfl rfl rfl ?_
      refine PL.op rfl (Rd.pick_t rfl rfl) ?_
      refine PL.op rfl (Rd.moveT rfl) ?_
      refine PL.guard_off rfl rfl rfl ?_
      refine PL.guard_off rfl rfl rfl ?_
      refine PL.guard_off rfl rfl rfl ?_
      refine PL.op rfl (Rd.pick_t rfl rfl) ?_
      refine PL.op rfl (Rd.moveT rfl) ?_
      refine PL.guard_off rfl rfl rfl ?_
      refine PL.guard_off rfl rfl rfl ?_
      refine PL.guard_off rfl rfl rfl ?_
      refine PL.op rfl (Rd.pick_t rfl rfl) ?_
      refine PL.nil ?_
      refine thA_n ?_
      refine PC.cond_true rfl rfl ?_
      refine PC.seq ?_
      obtain ⟨xs138, h_139, hh1⟩ := bind_some hh1
      obtain ⟨xs140, h_141, hh1⟩ := bind_some hh1
      refine PC.region ?_
      refine PL.op rfl (Rd.loadArr (q := 16) rfl rfl h_139 rfl) ?_
      refine PL.stArr (q := 16) rfl rfl rfl h_141 (arrM_self h_139) rfl ?_
      refine PL.nO [some ⟨.mx [iA p_s.pages, sL p_s.free, sL p_s.held], 30, 0⟩, some ⟨.tr (eL (xs138)), 59, 0⟩, some ⟨.tr (eL (v68)), 59, 0⟩, some ⟨.mx [iA x130.page, iA x130.since], 42, 0⟩] rfl ?_
      refine PL.op rfl (Rd.asnT rfl) ?_
      refine PL.nil ?_
      refine thA_n ?_
      refine PC.ret ?_
      refine thA_r ?_
      refine inA_r ?_
      refine thA_r ?_
      refine thA_r ?_
      refine inA_r ?_
      refine thA_r ?_
      obtain ⟨xs142, h_143, hh1⟩ := bind_some hh1
      obtain rfl := some_in hh1
      obtain rfl : (.inr (xs142, false) : (List Bool) ⊕ ((List Bool) × Bool)) = o118 := kk1
      refine thA_r ?_
      obtain rfl := some_in hh0
      exact FinA.mk (r := .tup [.agg ((eL ((xs142, false).1)).map .t), bA ((xs142, false).2)]) (bl := []) [] (.inl rfl) rfl (rl := [.cell 2 59, .tmp 3]) (.cellA (q := 16) rfl rfl h_143 rfl (.tmp .nil)) rfl rfl rfl (.tupL ⟨(Sb.aggS' _), .t _, trivial⟩) trivial ⟨rfl, rfl⟩
    rcases cond_some hh1 with ⟨h_133, hh1⟩ | ⟨h_133, hh1⟩
    · refine PC.region ?_
      refine PL.op rfl (Rd.fieldO rfl rfl) ?_
      refine PL.op rfl (Rd.loadO rfl rfl rfl) ?_
      refine PL.op rfl (Rd.lss rfl rfl) ?_
      refine PL.op rfl (Rd.moveT rfl) ?_
      refine PL.guard_on rfl h_132 ?_
      refine PL.op rfl (Rd.fieldO rfl rfl) ?_
      refine PL.guard_on rfl h_132 ?_
      refine PL.op rfl (Rd.loadO rfl rfl rfl) ?_
      refine PL.guard_on rfl h_132 ?_
      refine PL.op rfl (Rd.fieldO rfl rfl) ?_
      refine PL.guard_on rfl h_132 ?_
      refine PL.op rfl (Rd.loadO rfl rfl rfl) ?_
      refine PL.guard_on rfl h_132 ?_
      refine PL.op rfl (Rd.geq rfl rfl) ?_
      refine PL.op rfl (Rd.pick_f rfl h_132) ?_
      refine PL.op rfl (Rd.moveT rfl) ?_
      refine PL.guard_off rfl rfl h_133 ?_
      refine PL.guard_off rfl rfl h_133 ?_
      refine PL.guard_off rfl rfl h_133 ?_
      refine PL.guard_off rfl rfl h_133 ?_
      refine PL.guard_off rfl rfl h_133 ?_
      refine PL.op rfl (Rd.pick_t rfl h_133) ?_
      refine PL.op rfl (Rd.moveT rfl) ?_
      refine PL.guard_off rfl rfl rfl ?_
      refine PL.guard_off rfl rfl rfl ?_
      refine PL.guard_off rfl rfl rfl ?_
      refine PL.op rfl (Rd.pick_t rfl rfl) ?_
      refine PL.op rfl (Rd.moveT rfl) ?_
      refine PL.guard_off rfl rfl rfl ?_
      refine PL.guard_off rfl rfl rfl ?_
      refine PL.guard_off rfl rfl rfl ?_
      refine PL.op rfl (Rd.pick_t rfl rfl) ?_
      refine PL.nil ?_
      refine thA_n ?_
      refine PC.cond_true rfl rfl ?_
      refine PC.seq ?_
      obtain ⟨xs144, h_145, hh1⟩ := bind_some hh1
      obtain ⟨xs146, h_147, hh1⟩ := bind_some hh1
      refine PC.region ?_
      refine PL.op rfl (Rd.loadArr (q := 16) rfl rfl h_145 rfl) ?_
      refine PL.stArr (q := 16) rfl rfl rfl h_147 (arrM_self h_145) rfl ?_
      refine PL.nO [some ⟨.mx [iA p_s.pages, sL p_s.free, sL p_s.held], 30, 0⟩, some ⟨.tr (eL (xs144)), 59, 0⟩, some ⟨.tr (eL (v68)), 59, 0⟩, some ⟨.mx [iA x130.page, iA x130.since], 42, 0⟩] rfl ?_
      refine PL.op rfl (Rd.asnT rfl) ?_
      refine PL.nil ?_
      refine thA_n ?_
      refine PC.ret ?_
      refine thA_r ?_
      refine inA_r ?_
      refine thA_r ?_
      refine thA_r ?_
      refine inA_r ?_
      refine thA_r ?_
      obtain ⟨xs148, h_149, hh1⟩ := bind_some hh1
      obtain rfl := some_in hh1
      obtain rfl : (.inr (xs148, false) : (List Bool) ⊕ ((List Bool) × Bool)) = o118 := kk1
      refine thA_r ?_
      obtain rfl := some_in hh0
      exact FinA.mk (r := .tup [.agg ((eL ((xs148, false).1)).map .t), bA ((xs148, false).2)]) (bl := []) [] (.inl rfl) rfl (rl := [.cell 2 59, .tmp 3]) (.cellA (q := 16) rfl rfl h_149 rfl (.tmp .nil)) rfl rfl rfl (.tupL ⟨(Sb.aggS' _), .t _, trivial⟩) trivial ⟨rfl, rfl⟩
    obtain ⟨x134, h_135, hh1⟩ := bind_some hh1
    rcases cond_some hh1 with ⟨h_136, hh1⟩ | ⟨h_136, hh1⟩
    rotate_left
    · refine PC.region ?_
      refine PL.op rfl (Rd.fieldO rfl rfl) ?_
      refine PL.op rfl (Rd.loadO rfl rfl rfl) ?_
      refine PL.op rfl (Rd.lss rfl rfl) ?_
      refine PL.op rfl (Rd.moveT rfl) ?_
      refine PL.guard_on rfl h_132 ?_
      refine PL.op rfl (Rd.fieldO rfl rfl) ?_
      refine PL.guard_on rfl h_132 ?_
      refine PL.op rfl (Rd.loadO rfl rfl rfl) ?_
      refine PL.guard_on rfl h_132 ?_
      refine PL.op rfl (Rd.fieldO rfl rfl) ?_
      refine PL.guard_on rfl h_132 ?_
      refine PL.op rfl (Rd.loadO rfl rfl rfl) ?_
      refine PL.guard_on rfl h_132 ?_
      refine PL.op rfl (Rd.geq rfl rfl) ?_
      refine PL.op rfl (Rd.pick_f rfl h_132) ?_
      refine PL.op rfl (Rd.moveT rfl) ?_
      refine PL.guard_on rfl h_133 ?_
      refine PL.op rfl (Rd.fieldO rfl rfl) ?_
      refine PL.guard_on rfl h_133 ?_
      refine PL.op rfl (Rd.loadO rfl rfl rfl) ?_
      refine PL.guard_on rfl h_133 ?_
      refine PL.op rfl (Rd.ixAM rfl rfl rfl h_135) ?_
      refine PL.guard_on rfl h_133 ?_
      refine PL.op rfl (Rd.owM1 rfl rfl (ixA_I h_135) rfl rfl) ?_
      refine PL.guard_on rfl h_133 ?_
      refine PL.op rfl (Rd.unnot rfl) ?_
      refine PL.op rfl (Rd.pick_f rfl h_133) ?_
      refine PL.op rfl (Rd.moveT rfl) ?_
      refine PL.guard_off rfl rfl (not_f h_136) ?_
      refine PL.guard_off rfl rfl (not_f h_136) ?_
      refine PL.guard_off rfl rfl (not_f h_136) ?_
      refine PL.op rfl (Rd.pick_t rfl (not_f h_136)) ?_
      refine PL.op rfl (Rd.moveT rfl) ?_
      refine PL.guard_off rfl rfl rfl ?_
      refine PL.guard_off rfl rfl rfl ?_
      refine PL.guard_off rfl rfl rfl ?_
      refine PL.op rfl (Rd.pick_t rfl rfl) ?_
      refine PL.nil ?_
      refine thA_n ?_
      refine PC.cond_true rfl rfl ?_
      refine PC.seq ?_
      obtain ⟨xs183, h_184, hh1⟩ := bind_some hh1
      obtain ⟨xs185, h_186, hh1⟩ := bind_some hh1
      refine PC.region ?_
      refine PL.op rfl (Rd.loadArr (q := 16) rfl rfl h_184 rfl) ?_
      refine PL.stArr (q := 16) rfl rfl rfl h_186 (arrM_self h_184) rfl ?_
      refine PL.nO [some ⟨.mx [iA p_s.pages, sL p_s.free, sL p_s.held], 30, 0⟩, some ⟨.tr (eL (xs183)), 59, 0⟩, some ⟨.tr (eL (v68)), 59, 0⟩, some ⟨.mx [iA x130.page, iA x130.since], 42, 0⟩] rfl ?_
      refine PL.op rfl (Rd.asnT rfl) ?_
      refine PL.nil ?_
      refine thA_n ?_
      refine PC.ret ?_
      refine thA_r ?_
      refine inA_r ?_
      refine thA_r ?_
      refine thA_r ?_
      refine inA_r ?_
      refine thA_r ?_
      obtain ⟨xs187, h_188, hh1⟩ := bind_some hh1
      obtain rfl := some_in hh1
      obtain rfl : (.inr (xs187, false) : (List Bool) ⊕ ((List Bool) × Bool)) = o118 := kk1
      refine thA_r ?_
      obtain rfl := some_in hh0
      exact FinA.mk (r := .tup [.agg ((eL ((xs187, false).1)).map .t), bA ((xs187, false).2)]) (bl := []) [] (.inl rfl) rfl (rl := [.cell 2 59, .tmp 3]) (.cellA (q := 16) rfl rfl h_188 rfl (.tmp .nil)) rfl rfl rfl (.tupL ⟨(Sb.aggS' _), .t _, trivial⟩) trivial ⟨rfl, rfl⟩
    rcases cond_some hh1 with ⟨h_137, hh1⟩ | ⟨h_137, hh1⟩
    · refine PC.region ?_
      refine PL.op rfl (Rd.fieldO rfl rfl) ?_
      refine PL.op rfl (Rd.loadO rfl rfl rfl) ?_
      refine PL.op rfl (Rd.lss rfl rfl) ?_
      refine PL.op rfl (Rd.moveT rfl) ?_
      refine PL.guard_on rfl h_132 ?_
      refine PL.op rfl (Rd.fieldO rfl rfl) ?_
      refine PL.guard_on rfl h_132 ?_
      refine PL.op rfl (Rd.loadO rfl rfl rfl) ?_
      refine PL.guard_on rfl h_132 ?_
      refine PL.op rfl (Rd.fieldO rfl rfl) ?_
      refine PL.guard_on rfl h_132 ?_
      refine PL.op rfl (Rd.loadO rfl rfl rfl) ?_
      refine PL.guard_on rfl h_132 ?_
      refine PL.op rfl (Rd.geq rfl rfl) ?_
      refine PL.op rfl (Rd.pick_f rfl h_132) ?_
      refine PL.op rfl (Rd.moveT rfl) ?_
      refine PL.guard_on rfl h_133 ?_
      refine PL.op rfl (Rd.fieldO rfl rfl) ?_
      refine PL.guard_on rfl h_133 ?_
      refine PL.op rfl (Rd.loadO rfl rfl rfl) ?_
      refine PL.guard_on rfl h_133 ?_
      refine PL.op rfl (Rd.ixAM rfl rfl rfl h_135) ?_
      refine PL.guard_on rfl h_133 ?_
      refine PL.op rfl (Rd.owM1 rfl rfl (ixA_I h_135) rfl rfl) ?_
      refine PL.guard_on rfl h_133 ?_
      refine PL.op rfl (Rd.unnot rfl) ?_
      refine PL.op rfl (Rd.pick_f rfl h_133) ?_
      refine PL.op rfl (Rd.moveT rfl) ?_
      refine PL.guard_on rfl (not_t h_136) ?_
      refine PL.op rfl (Rd.fieldO rfl rfl) ?_
      refine PL.guard_on rfl (not_t h_136) ?_
      refine PL.op rfl (Rd.loadO rfl rfl rfl) ?_
      refine PL.guard_on rfl (not_t h_136) ?_
      refine PL.op rfl (Rd.lss rfl rfl) ?_
      refine PL.op rfl (Rd.pick_f rfl (not_t h_136)) ?_
      refine PL.op rfl (Rd.moveT rfl) ?_
      refine PL.guard_off rfl rfl h_137 ?_
      refine PL.guard_off rfl rfl h_137 ?_
      refine PL.guard_off rfl rfl h_137 ?_
      refine PL.op rfl (Rd.pick_t rfl h_137) ?_
      refine PL.nil ?_
      refine thA_n ?_
      refine PC.cond_true rfl rfl ?_
      refine PC.seq ?_
      obtain ⟨xs150, h_151, hh1⟩ := bind_some hh1
      obtain ⟨xs152, h_153, hh1⟩ := bind_some hh1
      refine PC.region ?_
      refine PL.op rfl (Rd.loadArr (q := 16) rfl rfl h_151 rfl) ?_
      refine PL.stArr (q := 16) rfl rfl rfl h_153 (arrM_self h_151) rfl ?_
      refine PL.nO [some ⟨.mx [iA p_s.pages, sL p_s.free, sL p_s.held], 30, 0⟩, some ⟨.tr (eL (xs150)), 59, 0⟩, some ⟨.tr (eL (v68)), 59, 0⟩, some ⟨.mx [iA x130.page, iA x130.since], 42, 0⟩] rfl ?_
      refine PL.op rfl (Rd.asnT rfl) ?_
      refine PL.nil ?_
      refine thA_n ?_
      refine PC.ret ?_
      refine thA_r ?_
      refine inA_r ?_
      refine thA_r ?_
      refine thA_r ?_
      refine inA_r ?_
      refine thA_r ?_
      obtain ⟨xs154, h_155, hh1⟩ := bind_some hh1
      obtain rfl := some_in hh1
      obtain rfl : (.inr (xs154, false) : (List Bool) ⊕ ((List Bool) × Bool)) = o118 := kk1
      refine thA_r ?_
      obtain rfl := some_in hh0
      exact FinA.mk (r := .tup [.agg ((eL ((xs154, false).1)).map .t), bA ((xs154, false).2)]) (bl := []) [] (.inl rfl) rfl (rl := [.cell 2 59, .tmp 3]) (.cellA (q := 16) rfl rfl h_155 rfl (.tmp .nil)) rfl rfl rfl (.tupL ⟨(Sb.aggS' _), .t _, trivial⟩) trivial ⟨rfl, rfl⟩
    refine PC.region ?_
    refine PL.op rfl (Rd.fieldO rfl rfl) ?_
    refine PL.op rfl (Rd.loadO rfl rfl rfl) ?_
    refine PL.op rfl (Rd.lss rfl rfl) ?_
    refine PL.op rfl (Rd.moveT rfl) ?_
    refine PL.guard_on rfl h_132 ?_
    refine PL.op rfl (Rd.fieldO rfl rfl) ?_
    refine PL.guard_on rfl h_132 ?_
    refine PL.op rfl (Rd.loadO rfl rfl rfl) ?_
    refine PL.guard_on rfl h_132 ?_
    refine PL.op rfl (Rd.fieldO rfl rfl) ?_
    refine PL.guard_on rfl h_132 ?_
    refine PL.op rfl (Rd.loadO rfl rfl rfl) ?_
    refine PL.guard_on rfl h_132 ?_
    refine PL.op rfl (Rd.geq rfl rfl) ?_
    refine PL.op rfl (Rd.pick_f rfl h_132) ?_
    refine PL.op rfl (Rd.moveT rfl) ?_
    refine PL.guard_on rfl h_133 ?_
    refine PL.op rfl (Rd.fieldO rfl rfl) ?_
    refine PL.guard_on rfl h_133 ?_
    refine PL.op rfl (Rd.loadO rfl rfl rfl) ?_
    refine PL.guard_on rfl h_133 ?_
    refine PL.op rfl (Rd.ixAM rfl rfl rfl h_135) ?_
    refine PL.guard_on rfl h_133 ?_
    refine PL.op rfl (Rd.owM1 rfl rfl (ixA_I h_135) rfl rfl) ?_
    refine PL.guard_on rfl h_133 ?_
    refine PL.op rfl (Rd.unnot rfl) ?_
    refine PL.op rfl (Rd.pick_f rfl h_133) ?_
    refine PL.op rfl (Rd.moveT rfl) ?_
    refine PL.guard_on rfl (not_t h_136) ?_
    refine PL.op rfl (Rd.fieldO rfl rfl) ?_
    refine PL.guard_on rfl (not_t h_136) ?_
    refine PL.op rfl (Rd.loadO rfl rfl rfl) ?_
    refine PL.guard_on rfl (not_t h_136) ?_
    refine PL.op rfl (Rd.lss rfl rfl) ?_
    refine PL.op rfl (Rd.pick_f rfl (not_t h_136)) ?_
    refine PL.op rfl (Rd.moveT rfl) ?_
    refine PL.guard_on rfl h_137 ?_
    refine PL.op rfl (Rd.fieldO rfl rfl) ?_
    refine PL.guard_on rfl h_137 ?_
    refine PL.op rfl (Rd.loadO rfl rfl rfl) ?_
    refine PL.guard_on rfl h_137 ?_
    refine PL.op rfl (Rd.gtr rfl rfl) ?_
    refine PL.op rfl (Rd.pick_f rfl h_137) ?_
    refine PL.nil ?_
    refine thA_n ?_
    rcases cond_some hh1 with ⟨h_156, hh1⟩ | ⟨h_156, hh1⟩
    · refine PC.cond_true rfl h_156 ?_
      refine PC.seq ?_
      obtain ⟨xs157, h_158, hh1⟩ := bind_some hh1
      obtain ⟨xs159, h_160, hh1⟩ := bind_some hh1
      refine PC.region ?_
      refine PL.op rfl (Rd.loadArr (q := 16) rfl rfl h_158 rfl) ?_
      refine PL.stArr (q := 16) rfl rfl rfl h_160 (arrM_self h_158) rfl ?_
      refine PL.nO [some ⟨.mx [iA p_s.pages, sL p_s.free, sL p_s.held], 30, 0⟩, some ⟨.tr (eL (xs157)), 59, 0⟩, some ⟨.tr (eL (v68)), 59, 0⟩, some ⟨.mx [iA x130.page, iA x130.since], 42, 0⟩] rfl ?_
      refine PL.op rfl (Rd.asnT rfl) ?_
      refine PL.nil ?_
      refine thA_n ?_
      refine PC.ret ?_
      refine thA_r ?_
      refine inA_r ?_
      refine thA_r ?_
      refine thA_r ?_
      refine inA_r ?_
      refine thA_r ?_
      obtain ⟨xs161, h_162, hh1⟩ := bind_some hh1
      obtain rfl := some_in hh1
      obtain rfl : (.inr (xs161, false) : (List Bool) ⊕ ((List Bool) × Bool)) = o118 := kk1
      refine thA_r ?_
      obtain rfl := some_in hh0
      exact FinA.mk (r := .tup [.agg ((eL ((xs161, false).1)).map .t), bA ((xs161, false).2)]) (bl := []) [] (.inl rfl) rfl (rl := [.cell 2 59, .tmp 3]) (.cellA (q := 16) rfl rfl h_162 rfl (.tmp .nil)) rfl rfl rfl (.tupL ⟨(Sb.aggS' _), .t _, trivial⟩) trivial ⟨rfl, rfl⟩
    refine PC.cond_false rfl h_156 ?_
    refine PC.skip ?_
    refine thA_n ?_
    refine PC.seq ?_
    refine PC.seq ?_
    rcases cond_some hh1 with ⟨h_163, hh1⟩ | ⟨h_163, hh1⟩
    rotate_left
    · refine PC.any (id := 21) 14 (.seg [0, 1, 2, 3, 4, 5, 6, 7, 8, 9, 10, 11, 12, 13] .done) [] rfl (by kernel_rfl) rfl ?_
      refine PT.seg ?_
      refine PR.op rfl (Rd.moveT rfl) ?_
      refine PR.op rfl (Rd.gtr rfl rfl) ?_
      refine PR.op rfl (Rd.moveT rfl) ?_
      refine PR.guard_off rfl rfl h_163 ?_
      refine PR.guard_off rfl rfl h_163 ?_
      refine PR.guard_off rfl rfl h_163 ?_
      refine PR.guard_off rfl rfl h_163 ?_
      refine PR.guard_off rfl rfl h_163 ?_
      refine PR.guard_off rfl rfl h_163 ?_
      refine PR.guard_off rfl rfl h_163 ?_
      refine PR.guard_off rfl rfl h_163 ?_
      refine PR.guard_off rfl rfl h_163 ?_
      refine PR.guard_off rfl rfl h_163 ?_
      refine PR.op rfl (Rd.pick_f rfl h_163) ?_
      refine PR.nil ?_
      refine PT.done ?_
      refine PL.nil ?_
      refine thA_n ?_
      refine PC.cond_false rfl rfl ?_
      refine PC.skip ?_
      refine thA_n ?_
      obtain ⟨x179, h_180, hh1⟩ := bind_some hh1
      refine PC.region ?_
      refine PL.op rfl (Rd.fieldO rfl rfl) ?_
      refine PL.op rfl (Rd.loadO rfl rfl rfl) ?_
      refine PL.op rfl (Rd.ixAM rfl rfl rfl h_180) ?_
      refine PL.stRM false rfl rfl rfl rfl rfl (ixA_I h_180) rfl ?_
      refine PL.nO [some ⟨.mx [iA p_s.pages, sL p_s.free, sL p_s.held], 30, 0⟩, some ⟨.tr (eL ([false, false, false, false, false, false, false, false, false, false, false, false, false, false, false, false])), 59, 0⟩, some ⟨.tr (eL ((v68.set x130.page.toNat false))), 59, 0⟩, some ⟨.mx [iA x130.page, iA x130.since], 42, 0⟩] rfl ?_
      refine PL.nil ?_
      refine inA_n ?_
      refine thA_n ?_
      obtain ⟨n181, h_182, hh1⟩ := bind_some hh1
      refine PC.region ?_
      refine PL.op rfl (Rd.addM rfl rfl h_182) ?_
      refine PL.op rfl (Rd.moveT rfl) ?_
      refine PL.nil ?_
      obtain rfl := some_in hh1
      refine thA_n ?_
      exact ⟨(f120, (n181, (v68.set x130.page.toNat false))), Nat.lt_succ_self _, kk1, [some 0, some 1, some 2], ⟨rfl, rfl, ⟨⟨_, rfl, rfl, rfl, .mx ⟨.t _, .t _, .t _, trivial⟩⟩, ⟨_, rfl, rfl, rfl, .tr _⟩, ⟨_, rfl, rfl, rfl, .tr _⟩, trivial⟩, ⟨.op rfl, .op rfl, .op rfl, .t _, .t _, .t _, trivial⟩⟩⟩
    obtain ⟨n164, h_165, hh1⟩ := bind_some hh1
    obtain ⟨x166, h_167, hh1⟩ := bind_some hh1
    refine PC.any (id := 21) 14 (.seg [0, 1, 2, 3, 4, 5, 6, 7, 8, 9, 10, 11, 12, 13] .done) [] rfl (by kernel_rfl) rfl ?_
    refine PT.seg ?_
    refine PR.op rfl (Rd.moveT rfl) ?_
    refine PR.op rfl (Rd.gtr rfl rfl) ?_
    refine PR.op rfl (Rd.moveT rfl) ?_
    refine PR.guard_on rfl rfl h_163 ?_
    refine PR.op rfl (Rd.fieldO rfl rfl) ?_
    refine PR.guard_on rfl rfl h_163 ?_
    refine PR.op rfl (Rd.loadO rfl rfl rfl) ?_
    refine PR.guard_on rfl rfl h_163 ?_
    refine PR.op rfl (Rd.moveT rfl) ?_
    refine PR.guard_on rfl rfl h_163 ?_
    refine PR.op rfl (Rd.subM rfl rfl h_165) ?_
    refine PR.guard_on rfl rfl h_163 ?_
    refine PR.op rfl (Rd.ixM rfl rfl h_167) ?_
    refine PR.guard_on rfl rfl h_163 ?_
    refine PR.op rfl (Rd.fieldT rfl) ?_
    refine PR.guard_on rfl rfl h_163 ?_
    refine PR.op rfl (Rd.elMF (f := 1) rfl h_167 rfl rfl) ?_
    refine PR.guard_on rfl rfl h_163 ?_
    refine PR.op rfl (Rd.fieldO rfl rfl) ?_
    refine PR.guard_on rfl rfl h_163 ?_
    refine PR.op rfl (Rd.loadO rfl rfl rfl) ?_
    refine PR.guard_on rfl rfl h_163 ?_
    refine PR.op rfl (Rd.gtr rfl rfl) ?_
    refine PR.op rfl (Rd.pick_t rfl h_163) ?_
    refine PR.nil ?_
    refine PT.done ?_
    refine PL.nil ?_
    refine thA_n ?_
    rcases cond_some hh1 with ⟨h_168, hh1⟩ | ⟨h_168, hh1⟩
    · refine PC.cond_true rfl h_168 ?_
      refine PC.seq ?_
      obtain ⟨xs169, h_170, hh1⟩ := bind_some hh1
      obtain ⟨xs171, h_172, hh1⟩ := bind_some hh1
      refine PC.region ?_
      refine PL.op rfl (Rd.loadArr (q := 16) rfl rfl h_170 rfl) ?_
      refine PL.stArr (q := 16) rfl rfl rfl h_172 (arrM_self h_170) rfl ?_
      refine PL.nO [some ⟨.mx [iA p_s.pages, sL p_s.free, sL p_s.held], 30, 0⟩, some ⟨.tr (eL (xs169)), 59, 0⟩, some ⟨.tr (eL (v68)), 59, 0⟩, some ⟨.mx [iA x130.page, iA x130.since], 42, 0⟩] rfl ?_
      refine PL.op rfl (Rd.asnT rfl) ?_
      refine PL.nil ?_
      refine thA_n ?_
      refine PC.ret ?_
      refine thA_r ?_
      refine inA_r ?_
      refine thA_r ?_
      refine thA_r ?_
      refine inA_r ?_
      refine thA_r ?_
      obtain ⟨xs173, h_174, hh1⟩ := bind_some hh1
      obtain rfl := some_in hh1
      obtain rfl : (.inr (xs173, false) : (List Bool) ⊕ ((List Bool) × Bool)) = o118 := kk1
      refine thA_r ?_
      obtain rfl := some_in hh0
      exact FinA.mk (r := .tup [.agg ((eL ((xs173, false).1)).map .t), bA ((xs173, false).2)]) (bl := []) [] (.inl rfl) rfl (rl := [.cell 2 59, .tmp 3]) (.cellA (q := 16) rfl rfl h_174 rfl (.tmp .nil)) rfl rfl rfl (.tupL ⟨(Sb.aggS' _), .t _, trivial⟩) trivial ⟨rfl, rfl⟩
    refine PC.cond_false rfl h_168 ?_
    refine PC.skip ?_
    refine thA_n ?_
    obtain ⟨x175, h_176, hh1⟩ := bind_some hh1
    refine PC.region ?_
    refine PL.op rfl (Rd.fieldO rfl rfl) ?_
    refine PL.op rfl (Rd.loadO rfl rfl rfl) ?_
    refine PL.op rfl (Rd.ixAM rfl rfl rfl h_176) ?_
    refine PL.stRM false rfl rfl rfl rfl rfl (ixA_I h_176) rfl ?_
    refine PL.nO [some ⟨.mx [iA p_s.pages, sL p_s.free, sL p_s.held], 30, 0⟩, some ⟨.tr (eL ([false, false, false, false, false, false, false, false, false, false, false, false, false, false, false, false])), 59, 0⟩, some ⟨.tr (eL ((v68.set x130.page.toNat false))), 59, 0⟩, some ⟨.mx [iA x130.page, iA x130.since], 42, 0⟩] rfl ?_
    refine PL.nil ?_
    refine inA_n ?_
    refine thA_n ?_
    obtain ⟨n177, h_178, hh1⟩ := bind_some hh1
    refine PC.region ?_
    refine PL.op rfl (Rd.addM rfl rfl h_178) ?_
    refine PL.op rfl (Rd.moveT rfl) ?_
    refine PL.nil ?_
    obtain rfl := some_in hh1
    refine thA_n ?_
    exact ⟨(f120, (n177, (v68.set x130.page.toNat false))), Nat.lt_succ_self _, kk1, [some 0, some 1, some 2], ⟨rfl, rfl, ⟨⟨_, rfl, rfl, rfl, .mx ⟨.t _, .t _, .t _, trivial⟩⟩, ⟨_, rfl, rfl, rfl, .tr _⟩, ⟨_, rfl, rfl, rfl, .tr _⟩, trivial⟩, ⟨.op rfl, .op rfl, .op rfl, .t _, .t _, .t _, trivial⟩⟩⟩
  clear hh0
  rintro v117 hh0
  replace hh0 : m_I_Space_inUse_k3 N v117 = some r := hh0
  unfold m_I_Space_inUse_k3 at hh0
  refine thA_n ?_
  refine PC.seq ?_
  obtain ⟨xs123, h_124, hh0⟩ := bind_some hh0
  obtain ⟨xs125, h_126, hh0⟩ := bind_some hh0
  refine PC.region ?_
  refine PL.op rfl (Rd.loadArr (q := 16) rfl rfl h_124 rfl) ?_
  refine PL.stArr (q := 16) rfl rfl rfl h_126 (arrM_self h_124) rfl ?_
  refine PL.nO [some ⟨.tr (eL (xs123)), 59, 0⟩, some ⟨.tr (eL (v117)), 59, 0⟩] rfl ?_
  refine PL.op rfl (Rd.asnT rfl) ?_
  refine PL.nil ?_
  refine thA_n ?_
  refine PC.ret ?_
  obtain ⟨xs127, h_128, hh0⟩ := bind_some hh0
  obtain rfl := some_in hh0
  exact FinA.mk (r := .tup [.agg ((eL ((xs127, true).1)).map .t), bA ((xs127, true).2)]) (bl := []) [] (.inl rfl) rfl (rl := [.cell 2 59, .tmp 3]) (.cellA (q := 16) rfl rfl h_128 rfl (.tmp .nil)) rfl rfl rfl (.tupL ⟨(Sb.aggS' _), .t _, trivial⟩) trivial ⟨rfl, rfl⟩

def m_I_ValidSpace (N : Nat) (p_s : I_Space) : Option (Bool) :=
  (m_I_Space_inUse N p_s).bind fun r1 =>
  (arrM 16 [false, false, false, false, false, false, false, false, false, false, false, false, false, false, false, false]).bind fun xs3 =>
  (arrM 16 r1.1).bind fun xs5 =>
  some r1.2
theorem w_I_ValidSpace (N : Nat) (p_s : I_Space) (r : Bool) (hh0 : m_I_ValidSpace N p_s = some r) : FnX Try.prog 17 [] [.agg [iA p_s.pages, sL p_s.free, sL p_s.held]] (RE (bA r) []) := by
  unfold m_I_ValidSpace at hh0
  refine FnX.mk Try.func17 rfl rfl ?_
  intro s hs
  refine PC.seq ?_
  refine PC.region ?_
  refine PL.ef rfl (Ef.box rfl rfl rfl) ?_
  refine PL.nm (.op 0 0) [some ⟨.mx [iA p_s.pages, sL p_s.free, sL p_s.held], 30, 0⟩] rfl rfl ?_
  refine PL.op rfl (Rd.asnT rfl) ?_
  refine PL.nil ?_
  refine thA_n ?_
  refine PC.seq ?_
  obtain ⟨r1, h_2, hh0⟩ := bind_some hh0
  obtain ⟨xs3, h_4, hh0⟩ := bind_some hh0
  obtain ⟨xs5, h_6, hh0⟩ := bind_some hh0
  refine PC.region ?_
  refine PL.op rfl (Rd.loadBox rfl rfl rfl) ?_
  refine PL.callM false [] (w_I_Space_inUse N p_s r1 h_2) rfl Try.call46 rfl ⟨.aggL ⟨.t _, .t _, .t _, trivial⟩, trivial⟩ rfl trivial (fun h => by cases h) ?_
  refine PL.nm (.tup [.agg ((eL r1.1).map .t), bA r1.2]) _ (by simp only [AV.ren, AV.renL, renL_t]) rfl ?_
  refine PL.op rfl (Rd.moveU rfl) ?_
  refine PL.op rfl (Rd.extract rfl rfl) ?_
  refine PL.op rfl (Rd.extract rfl rfl) ?_
  refine PL.ef rfl (Ef.conv (c := .mx [bA false, bA false, bA false, bA false, bA false, bA false, bA false, bA false, bA false, bA false, bA false, bA false, bA false, bA false, bA false, bA false]) (c' := .tr (eL ([false, false, false, false, false, false, false, false, false, false, false, false, false, false, false, false]))) (by with_unfolding_all rfl) (Ef.alloc rfl rfl)) ?_
  refine PL.nm (.op 1 0) [some ⟨.mx [iA p_s.pages, sL p_s.free, sL p_s.held], 30, 0⟩, some ⟨.tr (eL ([false, false, false, false, false, false, false, false, false, false, false, false, false, false, false, false])), 59, 0⟩] rfl rfl ?_
  refine PL.stArr (q := 16) rfl rfl rfl h_4 (by obtain ⟨e, _⟩ := arrM_spec h_6; rw [← e] at h_6; exact h_6) rfl ?_
  refine PL.nO [some ⟨.mx [iA p_s.pages, sL p_s.free, sL p_s.held], 30, 0⟩, some ⟨.tr (eL (r1.1)), 59, 0⟩] rfl ?_
  refine PL.op rfl (Rd.asnT rfl) ?_
  refine PL.nil ?_
  refine thA_n ?_
  refine PC.seq ?_
  refine PC.region ?_
  refine PL.op rfl (Rd.moveT rfl) ?_
  refine PL.op rfl (Rd.asnT rfl) ?_
  refine PL.nil ?_
  refine thA_n ?_
  refine PC.ret ?_
  obtain rfl := some_in hh0
  exact FinA.mk (r := bA r1.2) (bl := []) [] (.inl rfl) rfl (rl := [.tmp 2]) (.tmp .nil) rfl rfl rfl (.t _) trivial ⟨rfl, rfl⟩

def m_slices_Clone_int (N : Nat) (p_s : List Int) : Option (List Int) := appM 8 ([] : List Int) p_s
theorem w_slices_Clone_int (N : Nat) (p_s : List Int) (r : List Int) (hh0 : m_slices_Clone_int N p_s = some r) : FnX Try.prog 58 [] [sL p_s] (RE (.os 0 0 r.length) [⟨.tr (eL r), 3, 1⟩]) := by
  unfold m_slices_Clone_int at hh0
  have hr := (appM_spec hh0).1
  simp only [List.nil_append] at hr
  refine FnX.mk Try.func58 rfl rfl ?_
  intro s hs
  refine PC.seq ?_
  refine PC.region ?_
  refine PL.op rfl (Rd.asnT rfl) ?_
  refine PL.nil ?_
  refine thA_n ?_
  refine PC.seq ?_
  refine PC.seq ?_
  refine PC.region ?_
  refine PL.op rfl (Rd.moveT rfl) ?_
  refine PL.eqNil rfl rfl rfl ?_
  intro b hb
  refine PL.nil ?_
  refine thA_n ?_
  cases b with
  | true =>
    have h0 : p_s = [] := List.eq_nil_of_length_eq_zero (hb rfl)
    subst h0; subst hr
    refine PC.cond_true rfl rfl ?_
    refine PC.seq ?_
    refine PC.region ?_
    refine PL.op rfl (Rd.asnT rfl) ?_
    refine PL.nil ?_
    refine thA_n ?_
    refine PC.ret ?_
    refine thA_r ?_
    exact FinA.mk (r := .os 0 0 0) (bl := [⟨.tr (eL ([] : List Int)), 3, 1⟩]) [none] (.inl rfl) rfl (rl := [.tmp 2]) (.tmp .nil) rfl rfl rfl (.osn rfl) ⟨ow_nil _, trivial⟩ ⟨rfl, rfl⟩
  | false =>
    clear hr
    refine PC.cond_false rfl rfl ?_
    refine PC.skip ?_
    refine thA_n ?_
    refine PC.seq ?_
    refine PC.region ?_
    refine PL.ef rfl (Ef.lit0M Int) ?_
    refine PL.op rfl (Rd.moveT rfl) ?_
    refine PL.apM hs rfl rfl rfl rfl (SrcA.eL rfl) rfl rfl rfl rfl hh0 ?_
    refine PL.op rfl (Rd.asnO rfl) ?_
    refine PL.nil ?_
    refine thA_n ?_
    refine PC.ret ?_
    exact FinA.mk (r := .os 0 0 r.length) (bl := [⟨.tr (eL r), 3, 1⟩]) [some 1] (.inl rfl) rfl (rl := [.tmp 2]) (.tmp .nil) rfl rfl rfl (.os rfl) ⟨⟨_, rfl, rfl, rfl, .tr _⟩, trivial⟩ ⟨rfl, rfl⟩

def m_slices_Clone_I_Hold (N : Nat) (p_s : List I_Hold) : Option (List I_Hold) := appM 16 ([] : List I_Hold) p_s
theorem w_slices_Clone_I_Hold (N : Nat) (p_s : List I_Hold) (r : List I_Hold) (hh0 : m_slices_Clone_I_Hold N p_s = some r) : FnX Try.prog 67 [] [sL p_s] (RE (.os 0 0 r.length) [⟨.tr (eL r), 42, 2⟩]) := by
  unfold m_slices_Clone_I_Hold at hh0
  have hr := (appM_spec hh0).1
  simp only [List.nil_append] at hr
  refine FnX.mk Try.func67 rfl rfl ?_
  intro s hs
  refine PC.seq ?_
  refine PC.region ?_
  refine PL.op rfl (Rd.asnT rfl) ?_
  refine PL.nil ?_
  refine thA_n ?_
  refine PC.seq ?_
  refine PC.seq ?_
  refine PC.region ?_
  refine PL.op rfl (Rd.moveT rfl) ?_
  refine PL.eqNil rfl rfl rfl ?_
  intro b hb
  refine PL.nil ?_
  refine thA_n ?_
  cases b with
  | true =>
    have h0 : p_s = [] := List.eq_nil_of_length_eq_zero (hb rfl)
    subst h0; subst hr
    refine PC.cond_true rfl rfl ?_
    refine PC.seq ?_
    refine PC.region ?_
    refine PL.op rfl (Rd.asnT rfl) ?_
    refine PL.nil ?_
    refine thA_n ?_
    refine PC.ret ?_
    refine thA_r ?_
    exact FinA.mk (r := .os 0 0 0) (bl := [⟨.tr (eL ([] : List I_Hold)), 42, 2⟩]) [none] (.inl rfl) rfl (rl := [.tmp 2]) (.tmp .nil) rfl rfl rfl (.osn rfl) ⟨ow_nil _, trivial⟩ ⟨rfl, rfl⟩
  | false =>
    clear hr
    refine PC.cond_false rfl rfl ?_
    refine PC.skip ?_
    refine thA_n ?_
    refine PC.seq ?_
    refine PC.region ?_
    refine PL.ef rfl (Ef.lit0M I_Hold) ?_
    refine PL.op rfl (Rd.moveT rfl) ?_
    refine PL.apM hs rfl rfl rfl rfl (SrcA.eL rfl) rfl rfl rfl rfl hh0 ?_
    refine PL.op rfl (Rd.asnO rfl) ?_
    refine PL.nil ?_
    refine thA_n ?_
    refine PC.ret ?_
    exact FinA.mk (r := .os 0 0 r.length) (bl := [⟨.tr (eL r), 42, 2⟩]) [some 1] (.inl rfl) rfl (rl := [.tmp 2]) (.tmp .nil) rfl rfl rfl (.os rfl) ⟨⟨_, rfl, rfl, rfl, .tr _⟩, trivial⟩ ⟨rfl, rfl⟩

def m_I_Space_clone (N : Nat) (p_s : I_Space) : Option (I_Space) :=
  (m_slices_Clone_int N p_s.free).bind fun r1 =>
  (m_slices_Clone_I_Hold N p_s.held).bind fun r3 =>
  some (I_Space.mk p_s.pages r1 r3)
theorem w_I_Space_clone (N : Nat) (p_s : I_Space) (r : I_Space) (hh0 : m_I_Space_clone N p_s = some r) : FnX Try.prog 53 [] [.agg [iA p_s.pages, sL p_s.free, sL p_s.held]] (RE (.agg [iA r.pages, .os 0 0 r.free.length, .os 1 0 r.held.length]) [⟨.tr (eL r.free), 3, 1⟩, ⟨.tr (eL r.held), 42, 2⟩]) := by
  unfold m_I_Space_clone at hh0
  refine FnX.mk Try.func53 rfl rfl ?_
  intro s hs
  refine PC.seq ?_
  refine PC.region ?_
  refine PL.ef rfl (Ef.box rfl rfl rfl) ?_
  refine PL.nm (.op 0 0) [some ⟨.mx [iA p_s.pages, sL p_s.free, sL p_s.held], 30, 0⟩] rfl rfl ?_
  refine PL.ef rfl (Ef.alloc rfl rfl) ?_
  refine PL.nm (.op 1 0) [some ⟨.mx [iA p_s.pages, sL p_s.free, sL p_s.held], 30, 0⟩, some ⟨.mx [iA (0 : Int), .t (.v (.slice none 0 0)), .t (.v (.slice none 0 0))], 30, 0⟩] rfl rfl ?_
  refine PL.nil ?_
  refine thA_n ?_
  refine PC.seq ?_
  obtain ⟨r1, h_2, hh0⟩ := bind_some hh0
  obtain ⟨r3, h_4, hh0⟩ := bind_some hh0
  refine PC.any (id := 1) 9 (.seg [0, 1, 2, 3, 5, 6, 4, 7, 8] .done) [] rfl (by kernel_rfl) rfl ?_
  refine PT.seg ?_
  refine PR.op rfl (Rd.fieldO rfl rfl) ?_
  refine PR.op rfl (Rd.loadO rfl rfl rfl) ?_
  refine PR.op rfl (Rd.fieldO rfl rfl) ?_
  refine PR.op rfl (Rd.loadO rfl rfl rfl) ?_
  refine PR.op rfl (Rd.fieldO rfl rfl) ?_
  refine PR.op rfl (Rd.loadO rfl rfl rfl) ?_
  refine PR.callM false [] (w_slices_Clone_int N p_s.free r1 h_2) rfl Try.call58 rfl ⟨.t _, trivial⟩ rfl trivial (fun h => by cases h) rfl ?_
  refine PR.nm (.os 2 0 r1.length) [some ⟨.mx [iA p_s.pages, sL p_s.free, sL p_s.held], 30, 0⟩, some ⟨.mx [iA (0 : Int), .t (.v (.slice none 0 0)), .t (.v (.slice none 0 0))], 30, 0⟩, some ⟨.tr (eL r1), 3, 1⟩] rfl rfl ?_
  refine PR.callM false [] (w_slices_Clone_I_Hold N p_s.held r3 h_4) rfl Try.call67 rfl ⟨.t _, trivial⟩ rfl trivial (fun h => by cases h) rfl ?_
  refine PR.nm (.os 3 0 r3.length) [some ⟨.mx [iA p_s.pages, sL p_s.free, sL p_s.held], 30, 0⟩, some ⟨.mx [iA (0 : Int), .t (.v (.slice none 0 0)), .t (.v (.slice none 0 0))], 30, 0⟩, some ⟨.tr (eL r1), 3, 1⟩, some ⟨.tr (eL r3), 42, 2⟩] rfl rfl ?_
  refine PR.op rfl (Rd.build rfl rfl rfl rfl) ?_
  refine PR.nil ?_
  refine PT.done ?_
  refine PL.store rfl rfl rfl rfl rfl rfl rfl ?_
  refine PL.nO [some ⟨.mx [iA p_s.pages, sL p_s.free, sL p_s.held], 30, 0⟩, some ⟨.mx [iA p_s.pages, .os 2 0 r1.length, .os 3 0 r3.length], 30, 0⟩, some ⟨.tr (eL r1), 3, 1⟩, some ⟨.tr (eL r3), 42, 2⟩] rfl ?_
  refine PL.nil ?_
  refine thA_n ?_
  refine PC.ret ?_
  obtain rfl := some_in hh0
  exact FinA.mk (r := .agg [iA p_s.pages, .os 0 0 r1.length, .os 1 0 r3.length]) (bl := [⟨.tr (eL r1), 3, 1⟩, ⟨.tr (eL r3), 42, 2⟩]) [some 2, some 3] (.inl rfl) rfl (rl := [.cell 2 30]) (.cellN rfl rfl rfl rfl .nil) rfl rfl rfl (.aggL ⟨.t _, .os rfl, .os rfl, trivial⟩) ⟨⟨_, rfl, rfl, rfl, .tr _⟩, ⟨_, rfl, rfl, rfl, .tr _⟩, trivial⟩ ⟨rfl, rfl⟩

def m_I_HoldPage (N : Nat) (p_s : I_Space) (p_page : Int) (p_since : Int) : Option (I_Space × Bool) :=
  (m_I_Space_inUse N p_s).bind fun r1 =>
  (arrM 16 [false, false, false, false, false, false, false, false, false, false, false, false, false, false, false, false]).bind fun xs3 =>
  (arrM 16 r1.1).bind fun xs5 =>
  cond r1.2
    (cond (decide (p_page < (0 : Int)))
      (some ((I_Space.mk (0 : Int) ([] : List Int) ([] : List I_Hold)), false))
      (cond (decide (p_s.pages ≤ p_page))
        (some ((I_Space.mk (0 : Int) ([] : List Int) ([] : List I_Hold)), false))
        ((ixA 16 r1.1 p_page).bind fun x10 =>
        cond x10
          (cond (decide (p_since < (0 : Int)))
            (some ((I_Space.mk (0 : Int) ([] : List Int) ([] : List I_Hold)), false))
            (cond (decide ((9999 : Int) < p_since))
              (some ((I_Space.mk (0 : Int) ([] : List Int) ([] : List I_Hold)), false))
              (cond (decide ((0 : Int) < (p_s.held.length : Int)))
                ((chk ((p_s.held.length : Int) - (1 : Int))).bind fun n16 =>
                (ixI p_s.held n16).bind fun x18 =>
                cond (decide (p_since < x18.since))
                  (some ((I_Space.mk (0 : Int) ([] : List Int) ([] : List I_Hold)), false))
                  ((m_I_Space_clone N p_s).bind fun r21 =>
                  (appM 16 r21.held [(I_Hold.mk p_page p_since)]).bind fun xs23 =>
                  some ((I_Space.mk r21.pages r21.free xs23), true)))
                ((m_I_Space_clone N p_s).bind fun r25 =>
                (appM 16 r25.held [(I_Hold.mk p_page p_since)]).bind fun xs27 =>
                some ((I_Space.mk r25.pages r25.free xs27), true)))))
          (some ((I_Space.mk (0 : Int) ([] : List Int) ([] : List I_Hold)), false)))))
    (some ((I_Space.mk (0 : Int) ([] : List Int) ([] : List I_Hold)), false))
theorem w_I_HoldPage (N : Nat) (p_s : I_Space) (p_page : Int) (p_since : Int) (r : I_Space × Bool) (hh0 : m_I_HoldPage N p_s p_page p_since = some r) : FnX Try.prog 28 [] [.agg [iA p_s.pages, sL p_s.free, sL p_s.held], iA p_page, iA p_since] (RE (.tup [.agg [iA r.1.pages, .os 0 0 r.1.free.length, .os 1 0 r.1.held.length], bA r.2]) [⟨.tr (eL r.1.free), 3, 1⟩, ⟨.tr (eL r.1.held), 42, 2⟩]) := by
  unfold m_I_HoldPage at hh0
  refine FnX.mk Try.func28 rfl rfl ?_
  intro s hs
  refine PC.seq ?_
  refine PC.region ?_
  refine PL.ef rfl (Ef.box rfl rfl rfl) ?_
  refine PL.nm (.op 0 0) [some ⟨.mx [iA p_s.pages, sL p_s.free, sL p_s.held], 30, 0⟩] rfl rfl ?_
  refine PL.ef rfl (Ef.alloc rfl rfl) ?_
  refine PL.nm (.op 1 0) [some ⟨.mx [iA p_s.pages, sL p_s.free, sL p_s.held], 30, 0⟩, some ⟨.mx [iA (0 : Int), .t (.v (.slice none 0 0)), .t (.v (.slice none 0 0))], 30, 0⟩] rfl rfl ?_
  refine PL.op rfl (Rd.asnT rfl) ?_
  refine PL.nil ?_
  refine thA_n ?_
  refine PC.seq ?_
  obtain ⟨r1, h_2, hh0⟩ := bind_some hh0
  obtain ⟨xs3, h_4, hh0⟩ := bind_some hh0
  obtain ⟨xs5, h_6, hh0⟩ := bind_some hh0
  refine PC.region ?_
  refine PL.op rfl (Rd.loadBox rfl rfl rfl) ?_
  refine PL.callM false [] (w_I_Space_inUse N p_s r1 h_2) rfl Try.call46 rfl ⟨.aggL ⟨.t _, .t _, .t _, trivial⟩, trivial⟩ rfl trivial (fun h => by cases h) ?_
  refine PL.nm (.tup [.agg ((eL r1.1).map .t), bA r1.2]) _ (by simp only [AV.ren, AV.renL, renL_t]) rfl ?_
  refine PL.op rfl (Rd.moveU rfl) ?_
  refine PL.op rfl (Rd.extract rfl rfl) ?_
  refine PL.op rfl (Rd.extract rfl rfl) ?_
  refine PL.ef rfl (Ef.conv (c := .mx [bA false, bA false, bA false, bA false, bA false, bA false, bA false, bA false, bA false, bA false, bA false, bA false, bA false, bA false, bA false, bA false]) (c' := .tr (eL ([false, false, false, false, false, false, false, false, false, false, false, false, false, false, false, false]))) (by with_unfolding_all rfl) (Ef.alloc rfl rfl)) ?_
  refine PL.nm (.op 2 0) [some ⟨.mx [iA p_s.pages, sL p_s.free, sL p_s.held], 30, 0⟩, some ⟨.mx [iA (0 : Int), .t (.v (.slice none 0 0)), .t (.v (.slice none 0 0))], 30, 0⟩, some ⟨.tr (eL ([false, false, false, false, false, false, false, false, false, false, false, false, false, false, false, false])), 59, 0⟩] rfl rfl ?_
  refine PL.stArr (q := 16) rfl rfl rfl h_4 (by obtain ⟨e, _⟩ := arrM_spec h_6; rw [← e] at h_6; exact h_6) rfl ?_
  refine PL.nO [some ⟨.mx [iA p_s.pages, sL p_s.free, sL p_s.held], 30, 0⟩, some ⟨.mx [iA (0 : Int), .t (.v (.slice none 0 0)), .t (.v (.slice none 0 0))], 30, 0⟩, some ⟨.tr (eL (r1.1)), 59, 0⟩] rfl ?_
  refine PL.op rfl (Rd.asnT rfl) ?_
  refine PL.nil ?_
  refine thA_n ?_
  refine PC.seq ?_
  refine PC.seq ?_
  rcases cond_some hh0 with ⟨h_7, hh0⟩ | ⟨h_7, hh0⟩
  rotate_left
  · refine PC.region ?_
    refine PL.op rfl (Rd.moveT rfl) ?_
    refine PL.op rfl (Rd.unnot rfl) ?_
    refine PL.op rfl (Rd.moveT rfl) ?_
    refine PL.guard_off rfl rfl (not_f h_7) ?_
    refine PL.guard_off rfl rfl (not_f h_7) ?_
    refine PL.op rfl (Rd.pick_t rfl (not_f h_7)) ?_
    refine PL.op rfl (Rd.moveT rfl) ?_
    refine PL.guard_off rfl rfl rfl ?_
    refine PL.guard_off rfl rfl rfl ?_
    refine PL.guard_off rfl rfl rfl ?_
    refine PL.guard_off rfl rfl rfl ?_
    refine PL.op rfl (Rd.pick_t rfl rfl) ?_
    refine PL.op rfl (Rd.moveT rfl) ?_
    refine PL.guard_off rfl rfl rfl ?_
    refine PL.guard_off rfl rfl rfl ?_
    refine PL.guard_off rfl rfl rfl ?_
    refine PL.guard_off rfl rfl rfl ?_
    refine PL.op rfl (Rd.pick_t rfl rfl) ?_
    refine PL.op rfl (Rd.moveT rfl) ?_
    refine PL.guard_off rfl rfl rfl ?_
    refine PL.guard_off rfl rfl rfl ?_
    refine PL.op rfl (Rd.pick_t rfl rfl) ?_
    refine PL.op rfl (Rd.moveT rfl) ?_
    refine PL.guard_off rfl rfl rfl ?_
    refine PL.guard_off rfl rfl rfl ?_
    refine PL.op rfl (Rd.pick_t rfl rfl) ?_
    refine PL.nil ?_
    refine thA_n ?_
    refine PC.cond_true rfl rfl ?_
    refine PC.seq ?_
    refine PC.region ?_
    refine PL.op rfl (Rd.build rfl rfl rfl rfl) ?_
    refine PL.store rfl rfl rfl rfl rfl rfl rfl ?_
    refine PL.op rfl (Rd.asnT rfl) ?_
    refine PL.nil ?_
    refine thA_n ?_
    refine PC.ret ?_
    refine thA_r ?_
    obtain rfl := some_in hh0
    exact FinA.mk (r := .tup [.agg [iA (((I_Space.mk (0 : Int) ([] : List Int) ([] : List I_Hold)), false).1.pages), .os 0 0 ((((I_Space.mk (0 : Int) ([] : List Int) ([] : List I_Hold)), false).1.free).length), .os 1 0 ((((I_Space.mk (0 : Int) ([] : List Int) ([] : List I_Hold)), false).1.held).length)], bA (((I_Space.mk (0 : Int) ([] : List Int) ([] : List I_Hold)), false).2)]) (bl := [⟨.tr (eL (((I_Space.mk (0 : Int) ([] : List Int) ([] : List I_Hold)), false).1.free)), 3, 1⟩, ⟨.tr (eL (((I_Space.mk (0 : Int) ([] : List Int) ([] : List I_Hold)), false).1.held)), 42, 2⟩]) [none, none] (.inl rfl) rfl (rl := [.cell 6 30, .tmp 7]) (.cellN rfl rfl rfl rfl (.tmp .nil)) rfl rfl rfl (.tupL ⟨.aggL ⟨.t _, .osn rfl, .osn rfl, trivial⟩, .t _, trivial⟩) ⟨ow_nil _, ow_nil _, trivial⟩ ⟨rfl, rfl⟩
  rcases cond_some hh0 with ⟨h_8, hh0⟩ | ⟨h_8, hh0⟩
  · refine PC.region ?_
    refine PL.op rfl (Rd.moveT rfl) ?_
    refine PL.op rfl (Rd.unnot rfl) ?_
    refine PL.op rfl (Rd.moveT rfl) ?_
    refine PL.guard_on rfl (not_t h_7) ?_
    refine PL.op rfl (Rd.moveT rfl) ?_
    refine PL.guard_on rfl (not_t h_7) ?_
    refine PL.op rfl (Rd.lss rfl rfl) ?_
    refine PL.op rfl (Rd.pick_f rfl (not_t h_7)) ?_
    refine PL.op rfl (Rd.moveT rfl) ?_
    refine PL.guard_off rfl rfl h_8 ?_
    refine PL.guard_off rfl rfl h_8 ?_
    refine PL.guard_off rfl rfl h_8 ?_
    refine PL.guard_off rfl rfl h_8 ?_
    refine PL.op rfl (Rd.pick_t rfl h_8) ?_
    refine PL.op rfl (Rd.moveT rfl) ?_
    refine PL.guard_off rfl rfl rfl ?_
    refine PL.guard_off rfl rfl rfl ?_
    refine PL.guard_off rfl rfl rfl ?_
    refine PL.guard_off rfl rfl rfl ?_
    refine PL.op rfl (Rd.pick_t rfl rfl) ?_
    refine PL.op rfl (Rd.moveT rfl) ?_
    refine PL.guard_off rfl rfl rfl ?_
    refine PL.guard_off rfl rfl rfl ?_
    refine PL.op rfl (Rd.pick_t rfl rfl) ?_
    refine PL.op rfl (Rd.moveT rfl) ?_
    refine PL.guard_off rfl rfl rfl ?_
    refine PL.guard_off rfl rfl rfl ?_
    refine PL.op rfl (Rd.pick_t rfl rfl) ?_
    refine PL.nil ?_
    refine thA_n ?_
    refine PC.cond_true rfl rfl ?_
    refine PC.seq ?_
    refine PC.region ?_
    refine PL.op rfl (Rd.build rfl rfl rfl rfl) ?_
    refine PL.store rfl rfl rfl rfl rfl rfl rfl ?_
    refine PL.op rfl (Rd.asnT rfl) ?_
    refine PL.nil ?_
    refine thA_n ?_
    refine PC.ret ?_
    refine thA_r ?_
    obtain rfl := some_in hh0
    exact FinA.mk (r := .tup [.agg [iA (((I_Space.mk (0 : Int) ([] : List Int) ([] : List I_Hold)), false).1.pages), .os 0 0 ((((I_Space.mk (0 : Int) ([] : List Int) ([] : List I_Hold)), false).1.free).length), .os 1 0 ((((I_Space.mk (0 : Int) ([] : List Int) ([] : List I_Hold)), false).1.held).length)], bA (((I_Space.mk (0 : Int) ([] : List Int) ([] : List I_Hold)), false).2)]) (bl := [⟨.tr (eL (((I_Space.mk (0 : Int) ([] : List Int) ([] : List I_Hold)), false).1.free)), 3, 1⟩, ⟨.tr (eL (((I_Space.mk (0 : Int) ([] : List Int) ([] : List I_Hold)), false).1.held)), 42, 2⟩]) [none, none] (.inl rfl) rfl (rl := [.cell 6 30, .tmp 7]) (.cellN rfl rfl rfl rfl (.tmp .nil)) rfl rfl rfl (.tupL ⟨.aggL ⟨.t _, .osn rfl, .osn rfl, trivial⟩, .t _, trivial⟩) ⟨ow_nil _, ow_nil _, trivial⟩ ⟨rfl, rfl⟩
  rcases cond_some hh0 with ⟨h_9, hh0⟩ | ⟨h_9, hh0⟩
  · refine PC.region ?_
    refine PL.op rfl (Rd.moveT rfl) ?_
    refine PL.op rfl (Rd.unnot rfl) ?_
    refine PL.op rfl (Rd.moveT rfl) ?_
    refine PL.guard_on rfl (not_t h_7) ?_
    refine PL.op rfl (Rd.moveT rfl) ?_
    refine PL.guard_on rfl (not_t h_7) ?_
    refine PL.op rfl (Rd.lss rfl rfl) ?_
    refine PL.op rfl (Rd.pick_f rfl (not_t h_7)) ?_
    refine PL.op rfl (Rd.moveT rfl) ?_
    refine PL.guard_on rfl h_8 ?_
    refine PL.op rfl (Rd.moveT rfl) ?_
    refine PL.guard_on rfl h_8 ?_
    refine PL.op rfl (Rd.fieldO rfl rfl) ?_
    refine PL.guard_on rfl h_8 ?_
    refine PL.op rfl (Rd.loadO rfl rfl rfl) ?_
    refine PL.guard_on rfl h_8 ?_
    refine PL.op rfl (Rd.geq rfl rfl) ?_
    refine PL.op rfl (Rd.pick_f rfl h_8) ?_
    refine PL.op rfl (Rd.moveT rfl) ?_
    refine PL.guard_off rfl rfl h_9 ?_
    refine PL.guard_off rfl rfl h_9 ?_
    refine PL.guard_off rfl rfl h_9 ?_
    refine PL.guard_off rfl rfl h_9 ?_
    refine PL.op rfl (Rd.pick_t rfl h_9) ?_
    refine PL.op rfl (Rd.moveT rfl) ?_
    refine PL.guard_off rfl rfl rfl ?_
    refine PL.guard_off rfl rfl rfl ?_
    refine PL.op rfl (Rd.pick_t rfl rfl) ?_
    refine PL.op rfl (Rd.moveT rfl) ?_
    refine PL.guard_off rfl rfl rfl ?_
    refine PL.guard_off rfl rfl rfl ?_
    refine PL.op rfl (Rd.pick_t rfl rfl) ?_
    refine PL.nil ?_
    refine thA_n ?_
    refine PC.cond_true rfl rfl ?_
    refine PC.seq ?_
    refine PC.region ?_
    refine PL.op rfl (Rd.build rfl rfl rfl rfl) ?_
    refine PL.store rfl rfl rfl rfl rfl rfl rfl ?_
    refine PL.op rfl (Rd.asnT rfl) ?_
    refine PL.nil ?_
    refine thA_n ?_
    refine PC.ret ?_
    refine thA_r ?_
    obtain rfl := some_in hh0
    exact FinA.mk (r := .tup [.agg [iA (((I_Space.mk (0 : Int) ([] : List Int) ([] : List I_Hold)), false).1.pages), .os 0 0 ((((I_Space.mk (0 : Int) ([] : List Int) ([] : List I_Hold)), false).1.free).length), .os 1 0 ((((I_Space.mk (0 : Int) ([] : List Int) ([] : List I_Hold)), false).1.held).length)], bA (((I_Space.mk (0 : Int) ([] : List Int) ([] : List I_Hold)), false).2)]) (bl := [⟨.tr (eL (((I_Space.mk (0 : Int) ([] : List Int) ([] : List I_Hold)), false).1.free)), 3, 1⟩, ⟨.tr (eL (((I_Space.mk (0 : Int) ([] : List Int) ([] : List I_Hold)), false).1.held)), 42, 2⟩]) [none, none] (.inl rfl) rfl (rl := [.cell 6 30, .tmp 7]) (.cellN rfl rfl rfl rfl (.tmp .nil)) rfl rfl rfl (.tupL ⟨.aggL ⟨.t _, .osn rfl, .osn rfl, trivial⟩, .t _, trivial⟩) ⟨ow_nil _, ow_nil _, trivial⟩ ⟨rfl, rfl⟩
  obtain ⟨x10, h_11, hh0⟩ := bind_some hh0
  rcases cond_some hh0 with ⟨h_12, hh0⟩ | ⟨h_12, hh0⟩
  rotate_left
  · refine PC.region ?_
    refine PL.op rfl (Rd.moveT rfl) ?_
    refine PL.op rfl (Rd.unnot rfl) ?_
    refine PL.op rfl (Rd.moveT rfl) ?_
    refine PL.guard_on rfl (not_t h_7) ?_
    refine PL.op rfl (Rd.moveT rfl) ?_
    refine PL.guard_on rfl (not_t h_7) ?_
    refine PL.op rfl (Rd.lss rfl rfl) ?_
    refine PL.op rfl (Rd.pick_f rfl (not_t h_7)) ?_
    refine PL.op rfl (Rd.moveT rfl) ?_
    refine PL.guard_on rfl h_8 ?_
    refine PL.op rfl (Rd.moveT rfl) ?_
    refine PL.guard_on rfl h_8 ?_
    refine PL.op rfl (Rd.fieldO rfl rfl) ?_
    refine PL.guard_on rfl h_8 ?_
    refine PL.op rfl (Rd.loadO rfl rfl rfl) ?_
    refine PL.guard_on rfl h_8 ?_
    refine PL.op rfl (Rd.geq rfl rfl) ?_
    refine PL.op rfl (Rd.pick_f rfl h_8) ?_
    refine PL.op rfl (Rd.moveT rfl) ?_
    refine PL.guard_on rfl h_9 ?_
    refine PL.op rfl (Rd.moveT rfl) ?_
    refine PL.guard_on rfl h_9 ?_
    refine PL.op rfl (Rd.ixAM rfl rfl rfl h_11) ?_
    refine PL.guard_on rfl h_9 ?_
    refine PL.op rfl (Rd.owM1 rfl rfl (ixA_I h_11) rfl rfl) ?_
    refine PL.guard_on rfl h_9 ?_
    refine PL.op rfl (Rd.unnot rfl) ?_
    refine PL.op rfl (Rd.pick_f rfl h_9) ?_
    refine PL.op rfl (Rd.moveT rfl) ?_
    refine PL.guard_off rfl rfl (not_f h_12) ?_
    refine PL.guard_off rfl rfl (not_f h_12) ?_
    refine PL.op rfl (Rd.pick_t rfl (not_f h_12)) ?_
    refine PL.op rfl (Rd.moveT rfl) ?_
    refine PL.guard_off rfl rfl rfl ?_
    refine PL.guard_off rfl rfl rfl ?_
    refine PL.op rfl (Rd.pick_t rfl rfl) ?_
    refine PL.nil ?_
    refine thA_n ?_
    refine PC.cond_true rfl rfl ?_
    refine PC.seq ?_
    refine PC.region ?_
    refine PL.op rfl (Rd.build rfl rfl rfl rfl) ?_
    refine PL.store rfl rfl rfl rfl rfl rfl rfl ?_
    refine PL.op rfl (Rd.asnT rfl) ?_
    refine PL.nil ?_
    refine thA_n ?_
    refine PC.ret ?_
    refine thA_r ?_
    obtain rfl := some_in hh0
    exact FinA.mk (r := .tup [.agg [iA (((I_Space.mk (0 : Int) ([] : List Int) ([] : List I_Hold)), false).1.pages), .os 0 0 ((((I_Space.mk (0 : Int) ([] : List Int) ([] : List I_Hold)), false).1.free).length), .os 1 0 ((((I_Space.mk (0 : Int) ([] : List Int) ([] : List I_Hold)), false).1.held).length)], bA (((I_Space.mk (0 : Int) ([] : List Int) ([] : List I_Hold)), false).2)]) (bl := [⟨.tr (eL (((I_Space.mk (0 : Int) ([] : List Int) ([] : List I_Hold)), false).1.free)), 3, 1⟩, ⟨.tr (eL (((I_Space.mk (0 : Int) ([] : List Int) ([] : List I_Hold)), false).1.held)), 42, 2⟩]) [none, none] (.inl rfl) rfl (rl := [.cell 6 30, .tmp 7]) (.cellN rfl rfl rfl rfl (.tmp .nil)) rfl rfl rfl (.tupL ⟨.aggL ⟨.t _, .osn rfl, .osn rfl, trivial⟩, .t _, trivial⟩) ⟨ow_nil _, ow_nil _, trivial⟩ ⟨rfl, rfl⟩
  rcases cond_some hh0 with ⟨h_13, hh0⟩ | ⟨h_13, hh0⟩
  · refine PC.region ?_
    refine PL.op rfl (Rd.moveT rfl) ?_
    refine PL.op rfl (Rd.unnot rfl) ?_
    refine PL.op rfl (Rd.moveT rfl) ?_
    refine PL.guard_on rfl (not_t h_7) ?_
    refine PL.op rfl (Rd.moveT rfl) ?_
    refine PL.guard_on rfl (not_t h_7) ?_
    refine PL.op rfl (Rd.lss rfl rfl) ?_
    refine PL.op rfl (Rd.pick_f rfl (not_t h_7)) ?_
    refine PL.op rfl (Rd.moveT rfl) ?_
    refine PL.guard_on rfl h_8 ?_
    refine PL.op rfl (Rd.moveT rfl) ?_
    refine PL.guard_on rfl h_8 ?_
    refine PL.op rfl (Rd.fieldO rfl rfl) ?_
    refine PL.guard_on rfl h_8 ?_
    refine PL.op rfl (Rd.loadO rfl rfl rfl) ?_
    refine PL.guard_on rfl h_8 ?_
    refine PL.op rfl (Rd.geq rfl rfl) ?_
    refine PL.op rfl (Rd.pick_f rfl h_8) ?_
    refine PL.op rfl (Rd.moveT rfl) ?_
    refine PL.guard_on rfl h_9 ?_
    refine PL.op rfl (Rd.moveT rfl) ?_
    refine PL.guard_on rfl h_9 ?_
    refine PL.op rfl (Rd.ixAM rfl rfl rfl h_11) ?_
    refine PL.guard_on rfl h_9 ?_
    refine PL.op rfl (Rd.owM1 rfl rfl (ixA_I h_11) rfl rfl) ?_
    refine PL.guard_on rfl h_9 ?_
    refine PL.op rfl (Rd.unnot rfl) ?_
    refine PL.op rfl (Rd.pick_f rfl h_9) ?_
    refine PL.op rfl (Rd.moveT rfl) ?_
    refine PL.guard_on rfl (not_t h_12) ?_
    refine PL.op rfl (Rd.moveT rfl) ?_
    refine PL.guard_on rfl (not_t h_12) ?_
    refine PL.op rfl (Rd.lss rfl rfl) ?_
    refine PL.op rfl (Rd.pick_f rfl (not_t h_12)) ?_
    refine PL.op rfl (Rd.moveT rfl) ?_
    refine PL.guard_off rfl rfl h_13 ?_
    refine PL.guard_off rfl rfl h_13 ?_
    refine PL.op rfl (Rd.pick_t rfl h_13) ?_
    refine PL.nil ?_
    refine thA_n ?_
    refine PC.cond_true rfl rfl ?_
    refine PC.seq ?_
    refine PC.region ?_
    refine PL.op rfl (Rd.build rfl rfl rfl rfl) ?_
    refine PL.store rfl rfl rfl rfl rfl rfl rfl ?_
    refine PL.op rfl (Rd.asnT rfl) ?_
    refine PL.nil ?_
    refine thA_n ?_
    refine PC.ret ?_
    refine thA_r ?_
    obtain rfl := some_in hh0
    exact FinA.mk (r := .tup [.agg [iA (((I_Space.mk (0 : Int) ([] : List Int) ([] : List I_Hold)), false).1.pages), .os 0 0 ((((I_Space.mk (0 : Int) ([] : List Int) ([] : List I_Hold)), false).1.free).length), .os 1 0 ((((I_Space.mk (0 : Int) ([] : List Int) ([] : List I_Hold)), false).1.held).length)], bA (((I_Space.mk (0 : Int) ([] : List Int) ([] : List I_Hold)), false).2)]) (bl := [⟨.tr (eL (((I_Space.mk (0 : Int) ([] : List Int) ([] : List I_Hold)), false).1.free)), 3, 1⟩, ⟨.tr (eL (((I_Space.mk (0 : Int) ([] : List Int) ([] : List I_Hold)), false).1.held)), 42, 2⟩]) [none, none] (.inl rfl) rfl (rl := [.cell 6 30, .tmp 7]) (.cellN rfl rfl rfl rfl (.tmp .nil)) rfl rfl rfl (.tupL ⟨.aggL ⟨.t _, .osn rfl, .osn rfl, trivial⟩, .t _, trivial⟩) ⟨ow_nil _, ow_nil _, trivial⟩ ⟨rfl, rfl⟩
  refine PC.region ?_
  refine PL.op rfl (Rd.moveT rfl) ?_
  refine PL.op rfl (Rd.unnot rfl) ?_
  refine PL.op rfl (Rd.moveT rfl) ?_
  refine PL.guard_on rfl (not_t h_7) ?_
  refine PL.op rfl (Rd.moveT rfl) ?_
  refine PL.guard_on rfl (not_t h_7) ?_
  refine PL.op rfl (Rd.lss rfl rfl) ?_
  refine PL.op rfl (Rd.pick_f rfl (not_t h_7)) ?_
  refine PL.op rfl (Rd.moveT rfl) ?_
  refine PL.guard_on rfl h_8 ?_
  refine PL.op rfl (Rd.moveT rfl) ?_
  refine PL.guard_on rfl h_8 ?_
  refine PL.op rfl (Rd.fieldO rfl rfl) ?_
  refine PL.guard_on rfl h_8 ?_
  refine PL.op rfl (Rd.loadO rfl rfl rfl) ?_
  refine PL.guard_on rfl h_8 ?_
  refine PL.op rfl (Rd.geq rfl rfl) ?_
  refine PL.op rfl (Rd.pick_f rfl h_8) ?_
  refine PL.op rfl (Rd.moveT rfl) ?_
  refine PL.guard_on rfl h_9 ?_
  refine PL.op rfl (Rd.moveT rfl) ?_
  refine PL.guard_on rfl h_9 ?_
  refine PL.op rfl (Rd.ixAM rfl rfl rfl h_11) ?_
  refine PL.guard_on rfl h_9 ?_
  refine PL.op rfl (Rd.owM1 rfl rfl (ixA_I h_11) rfl rfl) ?_
  refine PL.guard_on rfl h_9 ?_
  refine PL.op rfl (Rd.unnot rfl) ?_
  refine PL.op rfl (Rd.pick_f rfl h_9) ?_
  refine PL.op rfl (Rd.moveT rfl) ?_
  refine PL.guard_on rfl (not_t h_12) ?_
  refine PL.op rfl (Rd.moveT rfl) ?_
  refine PL.guard_on rfl (not_t h_12) ?_
  refine PL.op rfl (Rd.lss rfl rfl) ?_
  refine PL.op rfl (Rd.pick_f rfl (not_t h_12)) ?_
  refine PL.op rfl (Rd.moveT rfl) ?_
  refine PL.guard_on rfl h_13 ?_
  refine PL.op rfl (Rd.moveT rfl) ?_
  refine PL.guard_on rfl h_13 ?_
  refine PL.op rfl (Rd.gtr rfl rfl) ?_
  refine PL.op rfl (Rd.pick_f rfl h_13) ?_
  refine PL.nil ?_
  refine thA_n ?_
  rcases cond_some hh0 with ⟨h_14, hh0⟩ | ⟨h_14, hh0⟩
  · refine PC.cond_true rfl h_14 ?_
    refine PC.seq ?_
    refine PC.region ?_
    refine PL.op rfl (Rd.build rfl rfl rfl rfl) ?_
    refine PL.store rfl rfl rfl rfl rfl rfl rfl ?_
    refine PL.op rfl (Rd.asnT rfl) ?_
    refine PL.nil ?_
    refine thA_n ?_
    refine PC.ret ?_
    refine thA_r ?_
    obtain rfl := some_in hh0
    exact FinA.mk (r := .tup [.agg [iA (((I_Space.mk (0 : Int) ([] : List Int) ([] : List I_Hold)), false).1.pages), .os 0 0 ((((I_Space.mk (0 : Int) ([] : List Int) ([] : List I_Hold)), false).1.free).length), .os 1 0 ((((I_Space.mk (0 : Int) ([] : List Int) ([] : List I_Hold)), false).1.held).length)], bA (((I_Space.mk (0 : Int) ([] : List Int) ([] : List I_Hold)), false).2)]) (bl := [⟨.tr (eL (((I_Space.mk (0 : Int) ([] : List Int) ([] : List I_Hold)), false).1.free)), 3, 1⟩, ⟨.tr (eL (((I_Space.mk (0 : Int) ([] : List Int) ([] : List I_Hold)), false).1.held)), 42, 2⟩]) [none, none] (.inl rfl) rfl (rl := [.cell 6 30, .tmp 7]) (.cellN rfl rfl rfl rfl (.tmp .nil)) rfl rfl rfl (.tupL ⟨.aggL ⟨.t _, .osn rfl, .osn rfl, trivial⟩, .t _, trivial⟩) ⟨ow_nil _, ow_nil _, trivial⟩ ⟨rfl, rfl⟩
  refine PC.cond_false rfl h_14 ?_
  refine PC.skip ?_
  refine thA_n ?_
  refine PC.seq ?_
  refine PC.seq ?_
  refine PC.region ?_
  refine PL.op rfl (Rd.fieldO rfl rfl) ?_
  refine PL.op rfl (Rd.loadO rfl rfl rfl) ?_
  refine PL.op rfl (Rd.lenT rfl) ?_
  refine PL.op rfl (Rd.asnT rfl) ?_
  refine PL.nil ?_
  refine thA_n ?_
  refine PC.seq ?_
  rcases cond_some hh0 with ⟨h_15, hh0⟩ | ⟨h_15, hh0⟩
  rotate_left
  · refine PC.region ?_
    refine PL.op rfl (Rd.moveT rfl) ?_
    refine PL.op rfl (Rd.gtr rfl rfl) ?_
    refine PL.op rfl (Rd.moveT rfl) ?_
    refine PL.guard_off rfl rfl h_15 ?_
    refine PL.guard_off rfl rfl h_15 ?_
    refine PL.guard_off rfl rfl h_15 ?_
    refine PL.guard_off rfl rfl h_15 ?_
    refine PL.guard_off rfl rfl h_15 ?_
    refine PL.guard_off rfl rfl h_15 ?_
    refine PL.guard_off rfl rfl h_15 ?_
    refine PL.guard_off rfl rfl h_15 ?_
    refine PL.guard_off rfl rfl h_15 ?_
    refine PL.op rfl (Rd.pick_f rfl h_15) ?_
    refine PL.nil ?_
    refine thA_n ?_
    refine PC.cond_false rfl rfl ?_
    refine PC.skip ?_
    refine thA_n ?_
    refine PC.seq ?_
    obtain ⟨r25, h_26, hh0⟩ := bind_some hh0
    refine PC.region ?_
    refine PL.op rfl (Rd.loadBox rfl rfl rfl) ?_
    refine PL.callM false [] (w_I_Space_clone N p_s r25 h_26) rfl Try.call53 rfl ⟨.aggL ⟨.t _, .t _, .t _, trivial⟩, trivial⟩ rfl trivial (fun h => by cases h) ?_
    refine PL.nm (.agg [iA r25.pages, .os 3 0 r25.free.length, .os 4 0 r25.held.length]) [some ⟨.mx [iA p_s.pages, sL p_s.free, sL p_s.held], 30, 0⟩, some ⟨.mx [iA (0 : Int), .t (.v (.slice none 0 0)), .t (.v (.slice none 0 0))], 30, 0⟩, some ⟨.tr (eL (r1.1)), 59, 0⟩, some ⟨.tr (eL r25.free), 3, 1⟩, some ⟨.tr (eL r25.held), 42, 2⟩] rfl rfl ?_
    refine PL.ef rfl (Ef.alloc rfl rfl) ?_
    refine PL.nm (.op 5 0) [some ⟨.mx [iA p_s.pages, sL p_s.free, sL p_s.held], 30, 0⟩, some ⟨.mx [iA (0 : Int), .t (.v (.slice none 0 0)), .t (.v (.slice none 0 0))], 30, 0⟩, some ⟨.tr (eL (r1.1)), 59, 0⟩, some ⟨.tr (eL r25.free), 3, 1⟩, some ⟨.tr (eL r25.held), 42, 2⟩, some ⟨.mx [iA (0 : Int), .t (.v (.slice none 0 0)), .t (.v (.slice none 0 0))], 30, 0⟩] rfl rfl ?_
    refine PL.store rfl rfl rfl rfl rfl rfl rfl ?_
    refine PL.nO [some ⟨.mx [iA p_s.pages, sL p_s.free, sL p_s.held], 30, 0⟩, some ⟨.mx [iA (0 : Int), .t (.v (.slice none 0 0)), .t (.v (.slice none 0 0))], 30, 0⟩, some ⟨.tr (eL (r1.1)), 59, 0⟩, some ⟨.tr (eL r25.free), 3, 1⟩, some ⟨.tr (eL r25.held), 42, 2⟩, some ⟨.mx [iA r25.pages, .os 3 0 r25.free.length, .os 4 0 r25.held.length], 30, 0⟩] rfl ?_
    refine PL.nil ?_
    refine thA_n ?_
    refine PC.seq ?_
    obtain ⟨xs27, h_28, hh0⟩ := bind_some hh0
    refine PC.region ?_
    refine PL.op rfl (Rd.fieldO rfl rfl) ?_
    refine PL.op rfl (Rd.loadO rfl rfl rfl) ?_
    refine PL.op rfl (Rd.moveT rfl) ?_
    refine PL.op rfl (Rd.moveT rfl) ?_
    refine PL.op rfl (Rd.build rfl rfl rfl rfl) ?_
    refine PL.ef rfl (Ef.litM (α := I_Hold) [(I_Hold.mk p_page p_since)] [_] rfl rfl (by decide) rfl rfl rfl rfl) ?_
    refine PL.nm (.os 6 0 1) [some ⟨.mx [iA p_s.pages, sL p_s.free, sL p_s.held], 30, 0⟩, some ⟨.mx [iA (0 : Int), .t (.v (.slice none 0 0)), .t (.v (.slice none 0 0))], 30, 0⟩, some ⟨.tr (eL (r1.1)), 59, 0⟩, some ⟨.tr (eL r25.free), 3, 1⟩, some ⟨.tr (eL r25.held), 42, 2⟩, some ⟨.mx [iA r25.pages, .os 3 0 r25.free.length, .os 4 0 r25.held.length], 30, 0⟩, some ⟨.tr (eL [(I_Hold.mk p_page p_since)]), 42, 2⟩] rfl rfl ?_
    refine PL.apM hs rfl rfl rfl rfl (SrcA.ownE rfl rfl rfl) rfl rfl rfl rfl h_28 ?_
    refine PL.nm (.os 7 0 xs27.length) [some ⟨.mx [iA p_s.pages, sL p_s.free, sL p_s.held], 30, 0⟩, some ⟨.mx [iA (0 : Int), .t (.v (.slice none 0 0)), .t (.v (.slice none 0 0))], 30, 0⟩, some ⟨.tr (eL (r1.1)), 59, 0⟩, some ⟨.tr (eL r25.free), 3, 1⟩, none, some ⟨.mx [iA r25.pages, .os 3 0 r25.free.length, .os 4 0 r25.held.length], 30, 0⟩, some ⟨.tr (eL [(I_Hold.mk p_page p_since)]), 42, 2⟩, some ⟨.tr (eL xs27), 42, 2⟩] rfl rfl ?_
    refine PL.op rfl (Rd.fieldO rfl rfl) ?_
    refine PL.store rfl rfl rfl rfl rfl rfl rfl ?_
    refine PL.nO [some ⟨.mx [iA p_s.pages, sL p_s.free, sL p_s.held], 30, 0⟩, some ⟨.mx [iA (0 : Int), .t (.v (.slice none 0 0)), .t (.v (.slice none 0 0))], 30, 0⟩, some ⟨.tr (eL (r1.1)), 59, 0⟩, some ⟨.tr (eL r25.free), 3, 1⟩, none, some ⟨.mx [iA r25.pages, .os 3 0 r25.free.length, .os 7 0 xs27.length], 30, 0⟩, some ⟨.tr (eL [(I_Hold.mk p_page p_since)]), 42, 2⟩, some ⟨.tr (eL xs27), 42, 2⟩] rfl ?_
    refine PL.nil ?_
    refine thA_n ?_
    refine PC.seq ?_
    refine PC.region ?_
    refine PL.op rfl (Rd.loadBox rfl rfl rfl) ?_
    refine PL.store rfl rfl rfl rfl rfl rfl rfl ?_
    refine PL.nO [some ⟨.mx [iA p_s.pages, sL p_s.free, sL p_s.held], 30, 0⟩, some ⟨.mx [iA r25.pages, .os 3 0 r25.free.length, .os 7 0 xs27.length], 30, 0⟩, some ⟨.tr (eL (r1.1)), 59, 0⟩, some ⟨.tr (eL r25.free), 3, 1⟩, none, some ⟨.mx [iA r25.pages, .os 3 0 r25.free.length, .os 7 0 xs27.length], 30, 0⟩, some ⟨.tr (eL [(I_Hold.mk p_page p_since)]), 42, 2⟩, some ⟨.tr (eL xs27), 42, 2⟩] rfl ?_
    refine PL.op rfl (Rd.asnT rfl) ?_
    refine PL.nil ?_
    refine thA_n ?_
    refine PC.ret ?_
    obtain rfl := some_in hh0
    exact FinA.mk (r := .tup [.agg [iA (((I_Space.mk r25.pages r25.free xs27), true).1.pages), .os 0 0 ((((I_Space.mk r25.pages r25.free xs27), true).1.free).length), .os 1 0 ((((I_Space.mk r25.pages r25.free xs27), true).1.held).length)], bA (((I_Space.mk r25.pages r25.free xs27), true).2)]) (bl := [⟨.tr (eL (((I_Space.mk r25.pages r25.free xs27), true).1.free)), 3, 1⟩, ⟨.tr (eL (((I_Space.mk r25.pages r25.free xs27), true).1.held)), 42, 2⟩]) [some 3, some 7] (.inl rfl) rfl (rl := [.cell 6 30, .tmp 7]) (.cellN rfl rfl rfl rfl (.tmp .nil)) rfl rfl rfl (.tupL ⟨.aggL ⟨.t _, .os rfl, .os rfl, trivial⟩, .t _, trivial⟩) ⟨⟨_, rfl, rfl, rfl, .tr _⟩, ⟨_, rfl, rfl, rfl, .tr _⟩, trivial⟩ ⟨rfl, rfl⟩
  obtain ⟨n16, h_17, hh0⟩ := bind_some hh0
  obtain ⟨x18, h_19, hh0⟩ := bind_some hh0
  refine PC.region ?_
  refine PL.op rfl (Rd.moveT rfl) ?_
  refine PL.op rfl (Rd.gtr rfl rfl) ?_
  refine PL.op rfl (Rd.moveT rfl) ?_
  refine PL.guard_on rfl h_15 ?_
  refine PL.op rfl (Rd.moveT rfl) ?_
  refine PL.guard_on rfl h_15 ?_
  refine PL.op rfl (Rd.fieldO rfl rfl) ?_
  refine PL.guard_on rfl h_15 ?_
  refine PL.op rfl (Rd.loadO rfl rfl rfl) ?_
  refine PL.guard_on rfl h_15 ?_
  refine PL.op rfl (Rd.moveT rfl) ?_
  refine PL.guard_on rfl h_15 ?_
  refine PL.op rfl (Rd.subM rfl rfl h_17) ?_
  refine PL.guard_on rfl h_15 ?_
  refine PL.op rfl (Rd.ixM rfl rfl h_19) ?_
  refine PL.guard_on rfl h_15 ?_
  refine PL.op rfl (Rd.fieldT rfl) ?_
  refine PL.guard_on rfl h_15 ?_
  refine PL.op rfl (Rd.elMF (f := 1) rfl h_19 rfl rfl) ?_
  refine PL.guard_on rfl h_15 ?_
  refine PL.op rfl (Rd.lss rfl rfl) ?_
  refine PL.op rfl (Rd.pick_t rfl h_15) ?_
  refine PL.nil ?_
  refine thA_n ?_
  rcases cond_some hh0 with ⟨h_20, hh0⟩ | ⟨h_20, hh0⟩
  · refine PC.cond_true rfl h_20 ?_
    refine PC.seq ?_
    refine PC.region ?_
    refine PL.op rfl (Rd.build rfl rfl rfl rfl) ?_
    refine PL.store rfl rfl rfl rfl rfl rfl rfl ?_
    refine PL.op rfl (Rd.asnT rfl) ?_
    refine PL.nil ?_
    refine thA_n ?_
    refine PC.ret ?_
    refine thA_r ?_
    obtain rfl := some_in hh0
    exact FinA.mk (r := .tup [.agg [iA (((I_Space.mk (0 : Int) ([] : List Int) ([] : List I_Hold)), false).1.pages), .os 0 0 ((((I_Space.mk (0 : Int) ([] : List Int) ([] : List I_Hold)), false).1.free).length), .os 1 0 ((((I_Space.mk (0 : Int) ([] : List Int) ([] : List I_Hold)), false).1.held).length)], bA (((I_Space.mk (0 : Int) ([] : List Int) ([] : List I_Hold)), false).2)]) (bl := [⟨.tr (eL (((I_Space.mk (0 : Int) ([] : List Int) ([] : List I_Hold)), false).1.free)), 3, 1⟩, ⟨.tr (eL (((I_Space.mk (0 : Int) ([] : List Int) ([] : List I_Hold)), false).1.held)), 42, 2⟩]) [none, none] (.inl rfl) rfl (rl := [.cell 6 30, .tmp 7]) (.cellN rfl rfl rfl rfl (.tmp .nil)) rfl rfl rfl (.tupL ⟨.aggL ⟨.t _, .osn rfl, .osn rfl, trivial⟩, .t _, trivial⟩) ⟨ow_nil _, ow_nil _, trivial⟩ ⟨rfl, rfl⟩
  refine PC.cond_false rfl h_20 ?_
  refine PC.skip ?_
  refine thA_n ?_
  refine PC.seq ?_
  obtain ⟨r21, h_22, hh0⟩ := bind_some hh0
  refine PC.region ?_
  refine PL.op rfl (Rd.loadBox rfl rfl rfl) ?_
  refine PL.callM false [] (w_I_Space_clone N p_s r21 h_22) rfl Try.call53 rfl ⟨.aggL ⟨.t _, .t _, .t _, trivial⟩, trivial⟩ rfl trivial (fun h => by cases h) ?_
  refine PL.nm (.agg [iA r21.pages, .os 3 0 r21.free.length, .os 4 0 r21.held.length]) [some ⟨.mx [iA p_s.pages, sL p_s.free, sL p_s.held], 30, 0⟩, some ⟨.mx [iA (0 : Int), .t (.v (.slice none 0 0)), .t (.v (.slice none 0 0))], 30, 0⟩, some ⟨.tr (eL (r1.1)), 59, 0⟩, some ⟨.tr (eL r21.free), 3, 1⟩, some ⟨.tr (eL r21.held), 42, 2⟩] rfl rfl ?_
  refine PL.ef rfl (Ef.alloc rfl rfl) ?_
  refine PL.nm (.op 5 0) [some ⟨.mx [iA p_s.pages, sL p_s.free, sL p_s.held], 30, 0⟩, some ⟨.mx [iA (0 : Int), .t (.v (.slice none 0 0)), .t (.v (.slice none 0 0))], 30, 0⟩, some ⟨.tr (eL (r1.1)), 59, 0⟩, some ⟨.tr (eL r21.free), 3, 1⟩, some ⟨.tr (eL r21.held), 42, 2⟩, some ⟨.mx [iA (0 : Int), .t (.v (.slice none 0 0)), .t (.v (.slice none 0 0))], 30, 0⟩] rfl rfl ?_
  refine PL.store rfl rfl rfl rfl rfl rfl rfl ?_
  refine PL.nO [some ⟨.mx [iA p_s.pages, sL p_s.free, sL p_s.held], 30, 0⟩, some ⟨.mx [iA (0 : Int), .t (.v (.slice none 0 0)), .t (.v (.slice none 0 0))], 30, 0⟩, some ⟨.tr (eL (r1.1)), 59, 0⟩, some ⟨.tr (eL r21.free), 3, 1⟩, some ⟨.tr (eL r21.held), 42, 2⟩, some ⟨.mx [iA r21.pages, .os 3 0 r21.free.length, .os 4 0 r21.held.length], 30, 0⟩] rfl ?_
  refine PL.nil ?_
  refine thA_n ?_
  refine PC.seq ?_
  obtain ⟨xs23, h_24, hh0⟩ := bind_some hh0
  refine PC.region ?_
  refine PL.op rfl (Rd.fieldO rfl rfl) ?_
  refine PL.op rfl (Rd.loadO rfl rfl rfl) ?_
  refine PL.op rfl (Rd.moveT rfl) ?_
  refine PL.op rfl (Rd.moveT rfl) ?_
  refine PL.op rfl (Rd.build rfl rfl rfl rfl) ?_
  refine PL.ef rfl (Ef.litM (α := I_Hold) [(I_Hold.mk p_page p_since)] [_] rfl rfl (by decide) rfl rfl rfl rfl) ?_
  refine PL.nm (.os 6 0 1) [some ⟨.mx [iA p_s.pages, sL p_s.free, sL p_s.held], 30, 0⟩, some ⟨.mx [iA (0 : Int), .t (.v (.slice none 0 0)), .t (.v (.slice none 0 0))], 30, 0⟩, some ⟨.tr (eL (r1.1)), 59, 0⟩, some ⟨.tr (eL r21.free), 3, 1⟩, some ⟨.tr (eL r21.held), 42, 2⟩, some ⟨.mx [iA r21.pages, .os 3 0 r21.free.length, .os 4 0 r21.held.length], 30, 0⟩, some ⟨.tr (eL [(I_Hold.mk p_page p_since)]), 42, 2⟩] rfl rfl ?_
  refine PL.apM hs rfl rfl rfl rfl (SrcA.ownE rfl rfl rfl) rfl rfl rfl rfl h_24 ?_
  refine PL.nm (.os 7 0 xs23.length) [some ⟨.mx [iA p_s.pages, sL p_s.free, sL p_s.held], 30, 0⟩, some ⟨.mx [iA (0 : Int), .t (.v (.slice none 0 0)), .t (.v (.slice none 0 0))], 30, 0⟩, some ⟨.tr (eL (r1.1)), 59, 0⟩, some ⟨.tr (eL r21.free), 3, 1⟩, none, some ⟨.mx [iA r21.pages, .os 3 0 r21.free.length, .os 4 0 r21.held.length], 30, 0⟩, some ⟨.tr (eL [(I_Hold.mk p_page p_since)]), 42, 2⟩, some ⟨.tr (eL xs23), 42, 2⟩] rfl rfl ?_
  refine PL.op rfl (Rd.fieldO rfl rfl) ?_
  refine PL.store rfl rfl rfl rfl rfl rfl rfl ?_
  refine PL.nO [some ⟨.mx [iA p_s.pages, sL p_s.free, sL p_s.held], 30, 0⟩, some ⟨.mx [iA (0 : Int), .t (.v (.slice none 0 0)), .t (.v (.slice none 0 0))], 30, 0⟩, some ⟨.tr (eL (r1.1)), 59, 0⟩, some ⟨.tr (eL r21.free), 3, 1⟩, none, some ⟨.mx [iA r21.pages, .os 3 0 r21.free.length, .os 7 0 xs23.length], 30, 0⟩, some ⟨.tr (eL [(I_Hold.mk p_page p_since)]), 42, 2⟩, some ⟨.tr (eL xs23), 42, 2⟩] rfl ?_
  refine PL.nil ?_
  refine thA_n ?_
  refine PC.seq ?_
  refine PC.region ?_
  refine PL.op rfl (Rd.loadBox rfl rfl rfl) ?_
  refine PL.store rfl rfl rfl rfl rfl rfl rfl ?_
  refine PL.nO [some ⟨.mx [iA p_s.pages, sL p_s.free, sL p_s.held], 30, 0⟩, some ⟨.mx [iA r21.pages, .os 3 0 r21.free.length, .os 7 0 xs23.length], 30, 0⟩, some ⟨.tr (eL (r1.1)), 59, 0⟩, some ⟨.tr (eL r21.free), 3, 1⟩, none, some ⟨.mx [iA r21.pages, .os 3 0 r21.free.length, .os 7 0 xs23.length], 30, 0⟩, some ⟨.tr (eL [(I_Hold.mk p_page p_since)]), 42, 2⟩, some ⟨.tr (eL xs23), 42, 2⟩] rfl ?_
  refine PL.op rfl (Rd.asnT rfl) ?_
  refine PL.nil ?_
  refine thA_n ?_
  refine PC.ret ?_
  obtain rfl := some_in hh0
  exact FinA.mk (r := .tup [.agg [iA (((I_Space.mk r21.pages r21.free xs23), true).1.pages), .os 0 0 ((((I_Space.mk r21.pages r21.free xs23), true).1.free).length), .os 1 0 ((((I_Space.mk r21.pages r21.free xs23), true).1.held).length)], bA (((I_Space.mk r21.pages r21.free xs23), true).2)]) (bl := [⟨.tr (eL (((I_Space.mk r21.pages r21.free xs23), true).1.free)), 3, 1⟩, ⟨.tr (eL (((I_Space.mk r21.pages r21.free xs23), true).1.held)), 42, 2⟩]) [some 3, some 7] (.inl rfl) rfl (rl := [.cell 6 30, .tmp 7]) (.cellN rfl rfl rfl rfl (.tmp .nil)) rfl rfl rfl (.tupL ⟨.aggL ⟨.t _, .os rfl, .os rfl, trivial⟩, .t _, trivial⟩) ⟨⟨_, rfl, rfl, rfl, .tr _⟩, ⟨_, rfl, rfl, rfl, .tr _⟩, trivial⟩ ⟨rfl, rfl⟩

def m_I_PagesInUse_k1 (N : Nat) (v20 : (List Int)) : Option ((List Int)) :=
  some v20
def m_I_PagesInUse_b1 (N : Nat) (p_s : I_Space) (r1 : ((List Bool) × Bool)) (i8 : Int) (v9 : (List Int)) : Option ((Int × (List Int)) ⊕ (List Int)) :=
  cond (decide (i8 < p_s.pages))
    ((ixA 16 r1.1 i8).bind fun x27 =>
    cond x27
      ((appM 8 v9 [i8]).bind fun xs30 =>
      (chk (i8 + (1 : Int))).bind fun n32 =>
      some (.inl (n32, xs30)))
      ((chk (i8 + (1 : Int))).bind fun n34 =>
      some (.inl (n34, v9))))
    (some (.inr v9))
def m_I_PagesInUse (N : Nat) (p_s : I_Space) : Option ((List Int)) :=
  (m_I_Space_inUse N p_s).bind fun r1 =>
  (arrM 16 [false, false, false, false, false, false, false, false, false, false, false, false, false, false, false, false]).bind fun xs3 =>
  (arrM 16 r1.1).bind fun xs5 =>
  cond r1.2
    ((loopM (β := (List Int)) (fun s : Int × (List Int) => m_I_PagesInUse_b1 N p_s r1 s.1 s.2) N ((0 : Int), ([] : List Int))).bind fun e =>
    m_I_PagesInUse_k1 N e)
    (some ([] : List Int))
theorem w_I_PagesInUse (N : Nat) (p_s : I_Space) (r : (List Int)) (hh0 : m_I_PagesInUse N p_s = some r) : FnX Try.prog 20 [] [.agg [iA p_s.pages, sL p_s.free, sL p_s.held]] (RE (.os 0 0 r.length) [⟨.tr (eL r), 3, 1⟩]) := by
  unfold m_I_PagesInUse at hh0
  refine FnX.mk Try.func20 rfl rfl ?_
  intro s hs
  refine PC.seq ?_
  refine PC.region ?_
  refine PL.ef rfl (Ef.box rfl rfl rfl) ?_
  refine PL.nm (.op 0 0) [some ⟨.mx [iA p_s.pages, sL p_s.free, sL p_s.held], 30, 0⟩] rfl rfl ?_
  refine PL.op rfl (Rd.asnT rfl) ?_
  refine PL.nil ?_
  refine thA_n ?_
  refine PC.seq ?_
  obtain ⟨r1, h_2, hh0⟩ := bind_some hh0
  obtain ⟨xs3, h_4, hh0⟩ := bind_some hh0
  obtain ⟨xs5, h_6, hh0⟩ := bind_some hh0
  refine PC.region ?_
  refine PL.op rfl (Rd.loadBox rfl rfl rfl) ?_
  refine PL.callM false [] (w_I_Space_inUse N p_s r1 h_2) rfl Try.call46 rfl ⟨.aggL ⟨.t _, .t _, .t _, trivial⟩, trivial⟩ rfl trivial (fun h => by cases h) ?_
  refine PL.nm (.tup [.agg ((eL r1.1).map .t), bA r1.2]) _ (by simp only [AV.ren, AV.renL, renL_t]) rfl ?_
  refine PL.op rfl (Rd.moveU rfl) ?_
  refine PL.op rfl (Rd.extract rfl rfl) ?_
  refine PL.op rfl (Rd.extract rfl rfl) ?_
  refine PL.ef rfl (Ef.conv (c := .mx [bA false, bA false, bA false, bA false, bA false, bA false, bA false, bA false, bA false, bA false, bA false, bA false, bA false, bA false, bA false, bA false]) (c' := .tr (eL ([false, false, false, false, false, false, false, false, false, false, false, false, false, false, false, false]))) (by with_unfolding_all rfl) (Ef.alloc rfl rfl)) ?_
  refine PL.nm (.op 1 0) [some ⟨.mx [iA p_s.pages, sL p_s.free, sL p_s.held], 30, 0⟩, some ⟨.tr (eL ([false, false, false, false, false, false, false, false, false, false, false, false, false, false, false, false])), 59, 0⟩] rfl rfl ?_
  refine PL.stArr (q := 16) rfl rfl rfl h_4 (by obtain ⟨e, _⟩ := arrM_spec h_6; rw [← e] at h_6; exact h_6) rfl ?_
  refine PL.nO [some ⟨.mx [iA p_s.pages, sL p_s.free, sL p_s.held], 30, 0⟩, some ⟨.tr (eL (r1.1)), 59, 0⟩] rfl ?_
  refine PL.op rfl (Rd.asnT rfl) ?_
  refine PL.nil ?_
  refine thA_n ?_
  refine PC.seq ?_
  refine PC.seq ?_
  refine PC.region ?_
  refine PL.op rfl (Rd.moveT rfl) ?_
  refine PL.op rfl (Rd.unnot rfl) ?_
  refine PL.nil ?_
  refine thA_n ?_
  rcases cond_some hh0 with ⟨h_7, hh0⟩ | ⟨h_7, hh0⟩
  rotate_left
  · refine PC.cond_true rfl (not_f h_7) ?_
    refine PC.seq ?_
    refine PC.region ?_
    refine PL.op rfl (Rd.asnT rfl) ?_
    refine PL.nil ?_
    refine thA_n ?_
    refine PC.ret ?_
    refine thA_r ?_
    obtain rfl := some_in hh0
    exact FinA.mk (r := .os 0 0 0) (bl := [⟨.tr (eL ([] : List Int)), 3, 1⟩]) [none] (.inl rfl) rfl (rl := [.tmp 2]) (.tmp .nil) rfl rfl rfl (.osn rfl) ⟨ow_nil _, trivial⟩ ⟨rfl, rfl⟩
  refine PC.cond_false rfl (not_t h_7) ?_
  refine PC.skip ?_
  refine thA_n ?_
  refine PC.seq ?_
  refine PC.region ?_
  refine PL.op rfl (Rd.asnT rfl) ?_
  refine PL.nil ?_
  refine thA_n ?_
  refine PC.seq ?_
  refine PC.seq ?_
  refine PC.region ?_
  refine PL.op rfl (Rd.fieldO rfl rfl) ?_
  refine PL.op rfl (Rd.loadO rfl rfl rfl) ?_
  refine PL.op rfl (Rd.moveT rfl) ?_
  refine PL.nil ?_
  refine thA_n ?_
  obtain ⟨o21, h_22, hh0⟩ := bind_some hh0
  refine PC.cutE hs (fun x : (List Int) => [(5, .os 0 0 x.length)]) (fun x => [⟨.tr (eL x), 3, 1⟩]) (fun x => m_I_PagesInUse_k1 N x = some r) ?_ ?_
  · refine PC.block ?_
    refine PC.loop hs (fun x : Nat × (Int × (List Int)) => [(3, .op 0 0), (5, .os 1 0 x.2.2.length), (15, iA p_s.pages), (16, iA x.2.1)]) (fun x => [⟨.tr (eL (r1.1)), 59, 0⟩, ⟨.tr (eL x.2.2), 3, 1⟩]) (fun x => loopM (β := (List Int)) (fun s : Int × (List Int) => m_I_PagesInUse_b1 N p_s r1 s.1 s.2) x.1 x.2 = some o21) (fun x => x.1) (N, ((0 : Int), ([] : List Int))) [some 1, none] ⟨rfl, rfl, ⟨⟨_, rfl, rfl, rfl, .tr _⟩, ow_nil _, trivial⟩, ⟨.op rfl, .osn rfl, .t _, .t _, trivial⟩⟩ h_22 ?_
    rintro ⟨f23_, i8, v9⟩ h_25
    obtain ⟨f23, y24, rfl, hh1, kk1⟩ := loopM_some h_25
    replace hh1 : m_I_PagesInUse_b1 N p_s r1 i8 v9 = some y24 := hh1
    unfold m_I_PagesInUse_b1 at hh1
    refine PC.seq ?_
    refine PC.region ?_
    refine PL.op rfl (Rd.lss rfl rfl) ?_
    refine PL.nil ?_
    refine thA_n ?_
    refine PC.seq ?_
    rcases cond_some hh1 with ⟨h_26, hh1⟩ | ⟨h_26, hh1⟩
    rotate_left
    · refine PC.cond_false rfl h_26 ?_
      refine PC.exit ?_
      refine thA_e ?_
      refine thA_e ?_
      refine inA_eq rfl ?_
      refine thA_n ?_
      obtain rfl := some_in hh1
      obtain rfl : (v9 : (List Int)) = o21 := kk1
      exact ⟨v9, hh0, [some 1], ⟨rfl, rfl, ⟨⟨_, rfl, rfl, rfl, .tr _⟩, trivial⟩, ⟨.os rfl, trivial⟩⟩⟩
    refine PC.cond_true rfl h_26 ?_
    refine PC.skip ?_
    refine thA_n ?_
    refine PC.seq ?_
    refine PC.block ?_
    refine PC.seq ?_
    refine PC.region ?_
    refine PL.op rfl (Rd.moveT rfl) ?_
    refine PL.op rfl (Rd.asnT rfl) ?_
    refine PL.nil ?_
    refine thA_n ?_
    refine PC.seq ?_
    obtain ⟨x27, h_28, hh1⟩ := bind_some hh1
    refine PC.region ?_
    refine PL.op rfl (Rd.moveT rfl) ?_
    refine PL.op rfl (Rd.ixAM rfl rfl rfl h_28) ?_
    refine PL.op rfl (Rd.owM1 rfl rfl (ixA_I h_28) rfl rfl) ?_
    refine PL.nil ?_
    refine thA_n ?_
    rcases cond_some hh1 with ⟨h_29, hh1⟩ | ⟨h_29, hh1⟩
    rotate_left
    · refine PC.cond_false rfl h_29 ?_
      refine PC.skip ?_
      refine inA_n ?_
      refine thA_n ?_
      obtain ⟨n34, h_35, hh1⟩ := bind_some hh1
      refine PC.region ?_
      refine PL.op rfl (Rd.addM rfl rfl h_35) ?_
      refine PL.op rfl (Rd.moveT rfl) ?_
      refine PL.nil ?_
      obtain rfl := some_in hh1
      refine thA_n ?_
      exact ⟨(f23, (n34, v9)), Nat.lt_succ_self _, kk1, [some 0, some 1], ⟨rfl, rfl, ⟨⟨_, rfl, rfl, rfl, .tr _⟩, ⟨_, rfl, rfl, rfl, .tr _⟩, trivial⟩, ⟨.op rfl, .os rfl, .t _, .t _, trivial⟩⟩⟩
    refine PC.cond_true rfl h_29 ?_
    obtain ⟨xs30, h_31, hh1⟩ := bind_some hh1
    refine PC.region ?_
    refine PL.op rfl (Rd.moveO rfl) ?_
    refine PL.op rfl (Rd.moveT rfl) ?_
    refine PL.ef rfl (Ef.litM (α := Int) [i8] [_] rfl rfl (by decide) rfl rfl rfl rfl) ?_
    refine PL.nm (.os 2 0 1) [some ⟨.tr (eL (r1.1)), 59, 0⟩, some ⟨.tr (eL v9), 3, 1⟩, some ⟨.tr (eL [i8]), 3, 1⟩] rfl rfl ?_
    refine PL.apM hs rfl rfl rfl rfl (SrcA.ownE rfl rfl rfl) rfl rfl rfl rfl h_31 ?_
    refine PL.nm (.os 3 0 xs30.length) [some ⟨.tr (eL (r1.1)), 59, 0⟩, none, some ⟨.tr (eL [i8]), 3, 1⟩, some ⟨.tr (eL xs30), 3, 1⟩] rfl rfl ?_
    refine PL.op rfl (Rd.asnO rfl) ?_
    refine PL.nil ?_
    refine inA_n ?_
    refine thA_n ?_
    obtain ⟨n32, h_33, hh1⟩ := bind_some hh1
    refine PC.region ?_
    refine PL.op rfl (Rd.addM rfl rfl h_33) ?_
    refine PL.op rfl (Rd.moveT rfl) ?_
    refine PL.nil ?_
    obtain rfl := some_in hh1
    refine thA_n ?_
    exact ⟨(f23, (n32, xs30)), Nat.lt_succ_self _, kk1, [some 0, some 3], ⟨rfl, rfl, ⟨⟨_, rfl, rfl, rfl, .tr _⟩, ⟨_, rfl, rfl, rfl, .tr _⟩, trivial⟩, ⟨.op rfl, .os rfl, .t _, .t _, trivial⟩⟩⟩
  clear hh0
  rintro v20 hh0
  replace hh0 : m_I_PagesInUse_k1 N v20 = some r := hh0
  unfold m_I_PagesInUse_k1 at hh0
  refine thA_n ?_
  refine PC.seq ?_
  refine PC.region ?_
  refine PL.op rfl (Rd.moveO rfl) ?_
  refine PL.op rfl (Rd.asnO rfl) ?_
  refine PL.nil ?_
  refine thA_n ?_
  refine PC.ret ?_
  obtain rfl := some_in hh0
  exact FinA.mk (r := .os 0 0 v20.length) (bl := [⟨.tr (eL v20), 3, 1⟩]) [some 0] (.inl rfl) rfl (rl := [.tmp 2]) (.tmp .nil) rfl rfl rfl (.os rfl) ⟨⟨_, rfl, rfl, rfl, .tr _⟩, trivial⟩ ⟨rfl, rfl⟩

def m_S_inRange (N : Nat) (p_n : Int) (p_low : Int) (p_high : Int) : Option (Bool) :=
  cond (decide (p_low ≤ p_n))
    (some (decide (p_n ≤ p_high)))
    (some false)
theorem w_S_inRange (N : Nat) (p_n : Int) (p_low : Int) (p_high : Int) (r : Bool) (hh0 : m_S_inRange N p_n p_low p_high = some r) : FnX Try.prog 61 [] [iA p_n, iA p_low, iA p_high] (RE (bA r) []) := by
  unfold m_S_inRange at hh0
  refine FnX.mk Try.func61 rfl rfl ?_
  intro s hs
  refine PC.seq ?_
  refine PC.region ?_
  refine PL.op rfl (Rd.asnT rfl) ?_
  refine PL.nil ?_
  refine thA_n ?_
  refine PC.seq ?_
  rcases cond_some hh0 with ⟨h_1, hh0⟩ | ⟨h_1, hh0⟩
  rotate_left
  · refine PC.region ?_
    refine PL.op rfl (Rd.moveT rfl) ?_
    refine PL.op rfl (Rd.moveT rfl) ?_
    refine PL.op rfl (Rd.leq rfl rfl) ?_
    refine PL.op rfl (Rd.moveT rfl) ?_
    refine PL.guard_off rfl rfl h_1 ?_
    refine PL.guard_off rfl rfl h_1 ?_
    refine PL.guard_off rfl rfl h_1 ?_
    refine PL.op rfl (Rd.pick_f rfl h_1) ?_
    refine PL.op rfl (Rd.asnT rfl) ?_
    refine PL.nil ?_
    refine thA_n ?_
    refine PC.ret ?_
    obtain rfl := some_in hh0
    exact FinA.mk (r := bA false) (bl := []) [] (.inl rfl) rfl (rl := [.tmp 6]) (.tmp .nil) rfl rfl rfl (.t _) trivial ⟨rfl, rfl⟩
  refine PC.region ?_
  refine PL.op rfl (Rd.moveT rfl) ?_
  refine PL.op rfl (Rd.moveT rfl) ?_
  refine PL.op rfl (Rd.leq rfl rfl) ?_
  refine PL.op rfl (Rd.moveT rfl) ?_
  refine PL.guard_on rfl h_1 ?_
  refine PL.op rfl (Rd.moveT rfl) ?_
  refine PL.guard_on rfl h_1 ?_
  refine PL.op rfl (Rd.moveT rfl) ?_
  refine PL.guard_on rfl h_1 ?_
  refine PL.op rfl (Rd.leq rfl rfl) ?_
  refine PL.op rfl (Rd.pick_t rfl h_1) ?_
  refine PL.op rfl (Rd.asnT rfl) ?_
  refine PL.nil ?_
  refine thA_n ?_
  refine PC.ret ?_
  obtain rfl := some_in hh0
  exact FinA.mk (r := bA (decide (p_n ≤ p_high))) (bl := []) [] (.inl rfl) rfl (rl := [.tmp 6]) (.tmp .nil) rfl rfl rfl (.t _) trivial ⟨rfl, rfl⟩

def m_S_allIn_k1 (N : Nat) : Option (Bool) :=
  some true
def m_S_allIn_b1 (N : Nat) (p_list : (List Int)) (p_low : Int) (p_high : Int) (i1 : Int) : Option (Int ⊕ (Unit ⊕ Bool)) :=
  cond (decide (i1 < (p_list.length : Int)))
    ((ixI p_list i1).bind fun x16 =>
    (m_S_inRange N x16 p_low p_high).bind fun r18 =>
    cond r18
      ((chk (i1 + (1 : Int))).bind fun n21 =>
      some (.inl n21))
      (some (.inr (.inr false))))
    (some (.inr (.inl ())))
def m_S_allIn (N : Nat) (p_list : (List Int)) (p_low : Int) (p_high : Int) : Option (Bool) :=
  (loopM (β := Unit ⊕ Bool) (fun s : Int => m_S_allIn_b1 N p_list p_low p_high s) N (0 : Int)).bind fun o => match o with
  | .inl e =>
    m_S_allIn_k1 N 
  | .inr v =>
    some v
theorem w_S_allIn (N : Nat) (p_list : (List Int)) (p_low : Int) (p_high : Int) (r : Bool) (hh0 : m_S_allIn N p_list p_low p_high = some r) : FnX Try.prog 70 [] [sL p_list, iA p_low, iA p_high] (RE (bA r) []) := by
  unfold m_S_allIn at hh0
  refine FnX.mk Try.func70 rfl rfl ?_
  intro s hs
  refine PC.seq ?_
  refine PC.region ?_
  refine PL.op rfl (Rd.asnT rfl) ?_
  refine PL.nil ?_
  refine thA_n ?_
  refine PC.seq ?_
  refine PC.seq ?_
  refine PC.region ?_
  refine PL.op rfl (Rd.asnT rfl) ?_
  refine PL.nil ?_
  refine thA_n ?_
  obtain ⟨o10, h_11, hh0⟩ := bind_some hh0
  refine PC.cutE hs (fun x : Unit => []) (fun x => []) (fun x => m_S_allIn_k1 N  = some r) ?_ ?_
  · refine PC.block ?_
    refine PC.loop hs (fun x : Nat × (Int) => [(0, sL p_list), (1, iA p_low), (2, iA p_high), (7, iA x.2)]) (fun x => []) (fun x => loopM (β := Unit ⊕ Bool) (fun s : Int => m_S_allIn_b1 N p_list p_low p_high s) x.1 x.2 = some o10) (fun x => x.1) (N, (0 : Int)) [] ⟨rfl, rfl, trivial, ⟨.t _, .t _, .t _, .t _, trivial⟩⟩ h_11 ?_
    rintro ⟨f12_, i1⟩ h_14
    obtain ⟨f12, y13, rfl, hh1, kk1⟩ := loopM_some h_14
    replace hh1 : m_S_allIn_b1 N p_list p_low p_high i1 = some y13 := hh1
    unfold m_S_allIn_b1 at hh1
    refine PC.seq ?_
    refine PC.seq ?_
    refine PC.region ?_
    refine PL.op rfl (Rd.moveT rfl) ?_
    refine PL.op rfl (Rd.moveT rfl) ?_
    refine PL.op rfl (Rd.lenT rfl) ?_
    refine PL.op rfl (Rd.lss rfl rfl) ?_
    refine PL.nil ?_
    refine thA_n ?_
    rcases cond_some hh1 with ⟨h_15, hh1⟩ | ⟨h_15, hh1⟩
    rotate_left
    · refine PC.cond_false rfl h_15 ?_
      refine PC.exit ?_
      refine thA_e ?_
      refine thA_e ?_
      refine inA_eq rfl ?_
      refine thA_n ?_
      obtain rfl := some_in hh1
      obtain rfl : (.inl () : Unit ⊕ Bool) = o10 := kk1
      exact ⟨(), hh0, [], ⟨rfl, rfl, trivial, trivial⟩⟩
    refine PC.cond_true rfl h_15 ?_
    refine PC.skip ?_
    refine thA_n ?_
    refine PC.seq ?_
    refine PC.block ?_
    refine PC.seq ?_
    obtain ⟨x16, h_17, hh1⟩ := bind_some hh1
    obtain ⟨r18, h_19, hh1⟩ := bind_some hh1
    refine PC.region ?_
    refine PL.op rfl (Rd.moveT rfl) ?_
    refine PL.op rfl (Rd.moveT rfl) ?_
    refine PL.op rfl (Rd.ixM rfl rfl h_17) ?_
    refine PL.op rfl (Rd.elM1 rfl h_17 rfl rfl) ?_
    refine PL.op rfl (Rd.moveT rfl) ?_
    refine PL.op rfl (Rd.moveT rfl) ?_
    refine PL.callM false [] (w_S_inRange N x16 p_low p_high r18 h_19) rfl Try.call61 rfl ⟨.t _, .t _, .t _, trivial⟩ rfl trivial (fun h => by cases h) ?_
    refine PL.op rfl (Rd.unnot rfl) ?_
    refine PL.nil ?_
    refine thA_n ?_
    rcases cond_some hh1 with ⟨h_20, hh1⟩ | ⟨h_20, hh1⟩
    · refine PC.cond_false rfl (not_t h_20) ?_
      refine PC.skip ?_
      refine inA_n ?_
      refine thA_n ?_
      obtain ⟨n21, h_22, hh1⟩ := bind_some hh1
      refine PC.region ?_
      refine PL.op rfl (Rd.moveT rfl) ?_
      refine PL.op rfl (Rd.addM rfl rfl h_22) ?_
      refine PL.op rfl (Rd.asnT rfl) ?_
      refine PL.nil ?_
      obtain rfl := some_in hh1
      refine thA_n ?_
      exact ⟨(f12, n21), Nat.lt_succ_self _, kk1, [], ⟨rfl, rfl, trivial, ⟨.t _, .t _, .t _, .t _, trivial⟩⟩⟩
    refine PC.cond_true rfl (not_f h_20) ?_
    refine PC.seq ?_
    refine PC.region ?_
    refine PL.op rfl (Rd.asnT rfl) ?_
    refine PL.nil ?_
    refine thA_n ?_
    refine PC.ret ?_
    refine inA_r ?_
    refine thA_r ?_
    refine thA_r ?_
    refine inA_r ?_
    refine thA_r ?_
    obtain rfl := some_in hh1
    obtain rfl : (.inr false : Unit ⊕ Bool) = o10 := kk1
    refine thA_r ?_
    obtain rfl := some_in hh0
    exact FinA.mk (r := bA false) (bl := []) [] (.inl rfl) rfl (rl := [.tmp 6]) (.tmp .nil) rfl rfl rfl (.t _) trivial ⟨rfl, rfl⟩
  clear hh0
  rintro ⟨⟩ hh0
  replace hh0 : m_S_allIn_k1 N  = some r := hh0
  unfold m_S_allIn_k1 at hh0
  refine thA_n ?_
  refine PC.seq ?_
  refine PC.region ?_
  refine PL.op rfl (Rd.asnT rfl) ?_
  refine PL.nil ?_
  refine thA_n ?_
  refine PC.ret ?_
  obtain rfl := some_in hh0
  exact FinA.mk (r := bA true) (bl := []) [] (.inl rfl) rfl (rl := [.tmp 6]) (.tmp .nil) rfl rfl rfl (.t _) trivial ⟨rfl, rfl⟩

def m_S_ascending_k1 (N : Nat) (p_list : (List Int)) (p_low : Int) (p_high : Int) : Option (Bool) :=
  (m_S_allIn N p_list p_low p_high).bind fun r17 =>
  some r17
def m_S_ascending_b1 (N : Nat) (p_list : (List Int)) (i1 : Int) : Option (Int ⊕ (Unit ⊕ Bool)) :=
  cond (decide (i1 < (p_list.length : Int)))
    ((ixI p_list i1).bind fun x20 =>
    (chk (i1 - (1 : Int))).bind fun n22 =>
    (ixI p_list n22).bind fun x24 =>
    cond (decide (x20 ≤ x24))
      (some (.inr (.inr false)))
      ((chk (i1 + (1 : Int))).bind fun n27 =>
      some (.inl n27)))
    (some (.inr (.inl ())))
def m_S_ascending (N : Nat) (p_list : (List Int)) (p_low : Int) (p_high : Int) : Option (Bool) :=
  (loopM (β := Unit ⊕ Bool) (fun s : Int => m_S_ascending_b1 N p_list s) N (1 : Int)).bind fun o => match o with
  | .inl e =>
    m_S_ascending_k1 N p_list p_low p_high 
  | .inr v =>
    some v
theorem w_S_ascending (N : Nat) (p_list : (List Int)) (p_low : Int) (p_high : Int) (r : Bool) (hh0 : m_S_ascending N p_list p_low p_high = some r) : FnX Try.prog 62 [] [sL p_list, iA p_low, iA p_high] (RE (bA r) []) := by
  unfold m_S_ascending at hh0
  refine FnX.mk Try.func62 rfl rfl ?_
  intro s hs
  refine PC.seq ?_
  refine PC.region ?_
  refine PL.op rfl (Rd.asnT rfl) ?_
  refine PL.nil ?_
  refine thA_n ?_
  refine PC.seq ?_
  refine PC.seq ?_
  refine PC.region ?_
  refine PL.op rfl (Rd.asnT rfl) ?_
  refine PL.nil ?_
  refine thA_n ?_
  obtain ⟨o12, h_13, hh0⟩ := bind_some hh0
  refine PC.cutE hs (fun x : Unit => [(0, sL p_list), (1, iA p_low), (2, iA p_high)]) (fun x => []) (fun x => m_S_ascending_k1 N p_list p_low p_high  = some r) ?_ ?_
  · refine PC.block ?_
    refine PC.loop hs (fun x : Nat × (Int) => [(0, sL p_list), (1, iA p_low), (2, iA p_high), (7, iA x.2)]) (fun x => []) (fun x => loopM (β := Unit ⊕ Bool) (fun s : Int => m_S_ascending_b1 N p_list s) x.1 x.2 = some o12) (fun x => x.1) (N, (1 : Int)) [] ⟨rfl, rfl, trivial, ⟨.t _, .t _, .t _, .t _, trivial⟩⟩ h_13 ?_
    rintro ⟨f14_, i1⟩ h_16
    obtain ⟨f14, y15, rfl, hh1, kk1⟩ := loopM_some h_16
    replace hh1 : m_S_ascending_b1 N p_list i1 = some y15 := hh1
    unfold m_S_ascending_b1 at hh1
    refine PC.seq ?_
    refine PC.seq ?_
    refine PC.region ?_
    refine PL.op rfl (Rd.moveT rfl) ?_
    refine PL.op rfl (Rd.moveT rfl) ?_
    refine PL.op rfl (Rd.lenT rfl) ?_
    refine PL.op rfl (Rd.lss rfl rfl) ?_
    refine PL.nil ?_
    refine thA_n ?_
    rcases cond_some hh1 with ⟨h_19, hh1⟩ | ⟨h_19, hh1⟩
    rotate_left
    · refine PC.cond_false rfl h_19 ?_
      refine PC.exit ?_
      refine thA_e ?_
      refine thA_e ?_
      refine inA_eq rfl ?_
      refine thA_n ?_
      obtain rfl := some_in hh1
      obtain rfl : (.inl () : Unit ⊕ Bool) = o12 := kk1
      exact ⟨(), hh0, [], ⟨rfl, rfl, trivial, ⟨.t _, .t _, .t _, trivial⟩⟩⟩
    refine PC.cond_true rfl h_19 ?_
    refine PC.skip ?_
    refine thA_n ?_
    refine PC.seq ?_
    refine PC.block ?_
    refine PC.seq ?_
    obtain ⟨x20, h_21, hh1⟩ := bind_some hh1
    obtain ⟨n22, h_23, hh1⟩ := bind_some hh1
    obtain ⟨x24, h_25, hh1⟩ := bind_some hh1
    refine PC.any (id := 4) 10 (.seg [0, 1, 2, 3, 4, 5, 6, 7, 8, 9] .done) [] rfl (by kernel_rfl) rfl ?_
    refine PT.seg ?_
    refine PR.op rfl (Rd.moveT rfl) ?_
    refine PR.op rfl (Rd.moveT rfl) ?_
    refine PR.op rfl (Rd.ixM rfl rfl h_21) ?_
    refine PR.op rfl (Rd.elM1 rfl h_21 rfl rfl) ?_
    refine PR.op rfl (Rd.moveT rfl) ?_
    refine PR.op rfl (Rd.moveT rfl) ?_
    refine PR.op rfl (Rd.subM rfl rfl h_23) ?_
    refine PR.op rfl (Rd.ixM rfl rfl h_25) ?_
    refine PR.op rfl (Rd.elM1 rfl h_25 rfl rfl) ?_
    refine PR.op rfl (Rd.leq rfl rfl) ?_
    refine PR.nil ?_
    refine PT.done ?_
    refine PL.nil ?_
    refine thA_n ?_
    rcases cond_some hh1 with ⟨h_26, hh1⟩ | ⟨h_26, hh1⟩
    rotate_left
    · refine PC.cond_false rfl h_26 ?_
      refine PC.skip ?_
      refine inA_n ?_
      refine thA_n ?_
      obtain ⟨n27, h_28, hh1⟩ := bind_some hh1
      refine PC.region ?_
      refine PL.op rfl (Rd.moveT rfl) ?_
      refine PL.op rfl (Rd.addM rfl rfl h_28) ?_
      refine PL.op rfl (Rd.asnT rfl) ?_
      refine PL.nil ?_
      obtain rfl := some_in hh1
      refine thA_n ?_
      exact ⟨(f14, n27), Nat.lt_succ_self _, kk1, [], ⟨rfl, rfl, trivial, ⟨.t _, .t _, .t _, .t _, trivial⟩⟩⟩
    refine PC.cond_true rfl h_26 ?_
    refine PC.seq ?_
    refine PC.region ?_
    refine PL.op rfl (Rd.asnT rfl) ?_
    refine PL.nil ?_
    refine thA_n ?_
    refine PC.ret ?_
    refine inA_r ?_
    refine thA_r ?_
    refine thA_r ?_
    refine inA_r ?_
    refine thA_r ?_
    obtain rfl := some_in hh1
    obtain rfl : (.inr false : Unit ⊕ Bool) = o12 := kk1
    refine thA_r ?_
    obtain rfl := some_in hh0
    exact FinA.mk (r := bA false) (bl := []) [] (.inl rfl) rfl (rl := [.tmp 6]) (.tmp .nil) rfl rfl rfl (.t _) trivial ⟨rfl, rfl⟩
  clear hh0
  rintro ⟨⟩ hh0
  replace hh0 : m_S_ascending_k1 N p_list p_low p_high  = some r := hh0
  unfold m_S_ascending_k1 at hh0
  refine thA_n ?_
  refine PC.seq ?_
  obtain ⟨r17, h_18, hh0⟩ := bind_some hh0
  refine PC.region ?_
  refine PL.op rfl (Rd.moveT rfl) ?_
  refine PL.op rfl (Rd.moveT rfl) ?_
  refine PL.op rfl (Rd.moveT rfl) ?_
  refine PL.callM false [] (w_S_allIn N p_list p_low p_high r17 h_18) rfl Try.call70 rfl ⟨.t _, .t _, .t _, trivial⟩ rfl trivial (fun h => by cases h) ?_
  refine PL.op rfl (Rd.asnT rfl) ?_
  refine PL.nil ?_
  refine thA_n ?_
  refine PC.ret ?_
  obtain rfl := some_in hh0
  exact FinA.mk (r := bA r17) (bl := []) [] (.inl rfl) rfl (rl := [.tmp 6]) (.tmp .nil) rfl rfl rfl (.t _) trivial ⟨rfl, rfl⟩

def m_S_isIn_k1 (N : Nat) : Option (Bool) :=
  some false
def m_S_isIn_b1 (N : Nat) (p_list : (List Int)) (p_n : Int) (i1 : Int) : Option (Int ⊕ (Unit ⊕ Bool)) :=
  cond (decide (i1 < (p_list.length : Int)))
    ((ixI p_list i1).bind fun x14 =>
    cond (decide (x14 = p_n))
      (some (.inr (.inr true)))
      ((chk (i1 + (1 : Int))).bind fun n17 =>
      some (.inl n17)))
    (some (.inr (.inl ())))
def m_S_isIn (N : Nat) (p_list : (List Int)) (p_n : Int) : Option (Bool) :=
  (loopM (β := Unit ⊕ Bool) (fun s : Int => m_S_isIn_b1 N p_list p_n s) N (0 : Int)).bind fun o => match o with
  | .inl e =>
    m_S_isIn_k1 N 
  | .inr v =>
    some v
theorem w_S_isIn (N : Nat) (p_list : (List Int)) (p_n : Int) (r : Bool) (hh0 : m_S_isIn N p_list p_n = some r) : FnX Try.prog 48 [] [sL p_list, iA p_n] (RE (bA r) []) := by
  unfold m_S_isIn at hh0
  refine FnX.mk Try.func48 rfl rfl ?_
  intro s hs
  refine PC.seq ?_
  refine PC.region ?_
  refine PL.op rfl (Rd.asnT rfl) ?_
  refine PL.nil ?_
  refine thA_n ?_
  refine PC.seq ?_
  refine PC.seq ?_
  refine PC.region ?_
  refine PL.op rfl (Rd.asnT rfl) ?_
  refine PL.nil ?_
  refine thA_n ?_
  obtain ⟨o8, h_9, hh0⟩ := bind_some hh0
  refine PC.cutE hs (fun x : Unit => []) (fun x => []) (fun x => m_S_isIn_k1 N  = some r) ?_ ?_
  · refine PC.block ?_
    refine PC.loop hs (fun x : Nat × (Int) => [(0, sL p_list), (1, iA p_n), (5, iA x.2)]) (fun x => []) (fun x => loopM (β := Unit ⊕ Bool) (fun s : Int => m_S_isIn_b1 N p_list p_n s) x.1 x.2 = some o8) (fun x => x.1) (N, (0 : Int)) [] ⟨rfl, rfl, trivial, ⟨.t _, .t _, .t _, trivial⟩⟩ h_9 ?_
    rintro ⟨f10_, i1⟩ h_12
    obtain ⟨f10, y11, rfl, hh1, kk1⟩ := loopM_some h_12
    replace hh1 : m_S_isIn_b1 N p_list p_n i1 = some y11 := hh1
    unfold m_S_isIn_b1 at hh1
    refine PC.seq ?_
    refine PC.seq ?_
    refine PC.region ?_
    refine PL.op rfl (Rd.moveT rfl) ?_
    refine PL.op rfl (Rd.moveT rfl) ?_
    refine PL.op rfl (Rd.lenT rfl) ?_
    refine PL.op rfl (Rd.lss rfl rfl) ?_
    refine PL.nil ?_
    refine thA_n ?_
    rcases cond_some hh1 with ⟨h_13, hh1⟩ | ⟨h_13, hh1⟩
    rotate_left
    · refine PC.cond_false rfl h_13 ?_
      refine PC.exit ?_
      refine thA_e ?_
      refine thA_e ?_
      refine inA_eq rfl ?_
      refine thA_n ?_
      obtain rfl := some_in hh1
      obtain rfl : (.inl () : Unit ⊕ Bool) = o8 := kk1
      exact ⟨(), hh0, [], ⟨rfl, rfl, trivial, trivial⟩⟩
    refine PC.cond_true rfl h_13 ?_
    refine PC.skip ?_
    refine thA_n ?_
    refine PC.seq ?_
    refine PC.block ?_
    refine PC.seq ?_
    obtain ⟨x14, h_15, hh1⟩ := bind_some hh1
    refine PC.region ?_
    refine PL.op rfl (Rd.moveT rfl) ?_
    refine PL.op rfl (Rd.moveT rfl) ?_
    refine PL.op rfl (Rd.ixM rfl rfl h_15) ?_
    refine PL.op rfl (Rd.elM1 rfl h_15 rfl rfl) ?_
    refine PL.op rfl (Rd.moveT rfl) ?_
    refine PL.op rfl (Rd.eql rfl rfl) ?_
    refine PL.nil ?_
    refine thA_n ?_
    rcases cond_some hh1 with ⟨h_16, hh1⟩ | ⟨h_16, hh1⟩
    rotate_left
    · refine PC.cond_false rfl h_16 ?_
      refine PC.skip ?_
      refine inA_n ?_
      refine thA_n ?_
      obtain ⟨n17, h_18, hh1⟩ := bind_some hh1
      refine PC.region ?_
      refine PL.op rfl (Rd.moveT rfl) ?_
      refine PL.op rfl (Rd.addM rfl rfl h_18) ?_
      refine PL.op rfl (Rd.asnT rfl) ?_
      refine PL.nil ?_
      obtain rfl := some_in hh1
      refine thA_n ?_
      exact ⟨(f10, n17), Nat.lt_succ_self _, kk1, [], ⟨rfl, rfl, trivial, ⟨.t _, .t _, .t _, trivial⟩⟩⟩
    refine PC.cond_true rfl h_16 ?_
    refine PC.seq ?_
    refine PC.region ?_
    refine PL.op rfl (Rd.asnT rfl) ?_
    refine PL.nil ?_
    refine thA_n ?_
    refine PC.ret ?_
    refine inA_r ?_
    refine thA_r ?_
    refine thA_r ?_
    refine inA_r ?_
    refine thA_r ?_
    obtain rfl := some_in hh1
    obtain rfl : (.inr true : Unit ⊕ Bool) = o8 := kk1
    refine thA_r ?_
    obtain rfl := some_in hh0
    exact FinA.mk (r := bA true) (bl := []) [] (.inl rfl) rfl (rl := [.tmp 4]) (.tmp .nil) rfl rfl rfl (.t _) trivial ⟨rfl, rfl⟩
  clear hh0
  rintro ⟨⟩ hh0
  replace hh0 : m_S_isIn_k1 N  = some r := hh0
  unfold m_S_isIn_k1 at hh0
  refine thA_n ?_
  refine PC.seq ?_
  refine PC.region ?_
  refine PL.op rfl (Rd.asnT rfl) ?_
  refine PL.nil ?_
  refine thA_n ?_
  refine PC.ret ?_
  obtain rfl := some_in hh0
  exact FinA.mk (r := bA false) (bl := []) [] (.inl rfl) rfl (rl := [.tmp 4]) (.tmp .nil) rfl rfl rfl (.t _) trivial ⟨rfl, rfl⟩

def m_S_validSpace_k3 (N : Nat) : Option (Bool) :=
  some true
def m_S_validSpace_k4 (N : Nat) (h10 : Int) : Option (Int ⊕ (Unit ⊕ Bool)) :=
  (chk (h10 + (1 : Int))).bind fun n95 =>
  some (.inl n95)
def m_S_validSpace_b4 (N : Nat) (p_s : I_Space) (h10 : Int) (x64 : I_Hold) (i83 : Int) : Option (Int ⊕ (Unit ⊕ Bool)) :=
  cond (decide (i83 < h10))
    ((ixI p_s.held i83).bind fun x98 =>
    cond (decide (x98.page = x64.page))
      (some (.inr (.inr false)))
      ((chk (i83 + (1 : Int))).bind fun n101 =>
      some (.inl n101)))
    (some (.inr (.inl ())))
def m_S_validSpace_k5 (N : Nat) (h10 : Int) : Option (Int ⊕ (Unit ⊕ Bool)) :=
  (chk (h10 + (1 : Int))).bind fun n108 =>
  some (.inl n108)
def m_S_validSpace_b5 (N : Nat) : Option (Unit ⊕ Unit) :=
  some (.inr ())
def m_S_validSpace_b3 (N : Nat) (p_s : I_Space) (h10 : Int) : Option (Int ⊕ (Unit ⊕ Bool)) :=
  cond (decide (h10 < (p_s.held.length : Int)))
    ((ixI p_s.held h10).bind fun x64 =>
    (chk (p_s.pages - (1 : Int))).bind fun n66 =>
    (m_S_inRange N x64.page (0 : Int) n66).bind fun r68 =>
    cond r68
      ((m_S_isIn N p_s.free x64.page).bind fun r71 =>
      cond r71
        (some (.inr (.inr false)))
        ((m_S_inRange N x64.since (0 : Int) (9999 : Int)).bind fun r74 =>
        cond r74
          (cond (decide ((0 : Int) < h10))
            ((chk (h10 - (1 : Int))).bind fun n78 =>
            (ixI p_s.held n78).bind fun x80 =>
            cond (decide (x64.since < x80.since))
              (some (.inr (.inr false)))
              ((loopM (β := Unit ⊕ Bool) (fun s : Int => m_S_validSpace_b4 N p_s h10 x64 s) N (0 : Int)).bind fun o => match o with
              | .inl e =>
                m_S_validSpace_k4 N h10 
              | .inr v =>
                some (.inr (.inr v))))
            ((loopM (β := Unit) (fun _ : Unit => m_S_validSpace_b5 N) N ()).bind fun e =>
            m_S_validSpace_k5 N h10 ))
          (some (.inr (.inr false)))))
      (some (.inr (.inr false))))
    (some (.inr (.inl ())))
def m_S_validSpace (N : Nat) (p_s : I_Space) : Option (Bool) :=
  (m_S_inRange N p_s.pages (0 : Int) (16 : Int)).bind fun r1 =>
  cond r1
    ((chk (p_s.pages - (1 : Int))).bind fun n4 =>
    (m_S_ascending N p_s.free (0 : Int) n4).bind fun r6 =>
    cond r6
      (cond (decide ((16 : Int) < (p_s.held.length : Int)))
        (some false)
        ((loopM (β := Unit ⊕ Bool) (fun s : Int => m_S_validSpace_b3 N p_s s) N (0 : Int)).bind fun o => match o with
        | .inl e =>
          m_S_validSpace_k3 N 
        | .inr v =>
          some v))
      (some false))
    (some false)
theorem w_S_validSpace (N : Nat) (p_s : I_Space) (r : Bool) (hh0 : m_S_validSpace N p_s = some r) : FnX Try.prog 43 [] [.agg [iA p_s.pages, sL p_s.free, sL p_s.held]] (RE (bA r) []) := by
  unfold m_S_validSpace at hh0
  refine FnX.mk Try.func43 rfl rfl ?_
  intro s hs
  refine PC.seq ?_
  refine PC.region ?_
  refine PL.ef rfl (Ef.box rfl rfl rfl) ?_
  refine PL.nm (.op 0 0) [some ⟨.mx [iA p_s.pages, sL p_s.free, sL p_s.held], 30, 0⟩] rfl rfl ?_
  refine PL.op rfl (Rd.asnT rfl) ?_
  refine PL.nil ?_
  refine thA_n ?_
  refine PC.seq ?_
  refine PC.seq ?_
  obtain ⟨r1, h_2, hh0⟩ := bind_some hh0
  rcases cond_some hh0 with ⟨h_3, hh0⟩ | ⟨h_3, hh0⟩
  rotate_left
  · refine PC.region ?_
    refine PL.op rfl (Rd.fieldO rfl rfl) ?_
    refine PL.op rfl (Rd.loadO rfl rfl rfl) ?_
    refine PL.callM false [] (w_S_inRange N p_s.pages (0 : Int) (16 : Int) r1 h_2) rfl Try.call61 rfl ⟨.t _, .t _, .t _, trivial⟩ rfl trivial (fun h => by cases h) ?_
    refine PL.op rfl (Rd.unnot rfl) ?_
    refine PL.op rfl (Rd.moveT rfl) ?_
    refine PL.guard_off rfl rfl (not_f h_3) ?_
    refine PL.guard_off rfl rfl (not_f h_3) ?_
    refine PL.guard_off rfl rfl (not_f h_3) ?_
    refine PL.guard_off rfl rfl (not_f h_3) ?_
    refine PL.guard_off rfl rfl (not_f h_3) ?_
    refine PL.guard_off rfl rfl (not_f h_3) ?_
    refine PL.guard_off rfl rfl (not_f h_3) ?_
    refine PL.op rfl (Rd.pick_t rfl (not_f h_3)) ?_
    refine PL.op rfl (Rd.moveT rfl) ?_
    refine PL.guard_off rfl rfl rfl ?_
    refine PL.guard_off rfl rfl rfl ?_
    refine PL.guard_off rfl rfl rfl ?_
    refine PL.guard_off rfl rfl rfl ?_
    refine PL.op rfl (Rd.pick_t rfl rfl) ?_
    refine PL.nil ?_
    refine thA_n ?_
    refine PC.cond_true rfl rfl ?_
    refine PC.seq ?_
    refine PC.region ?_
    refine PL.op rfl (Rd.asnT rfl) ?_
    refine PL.nil ?_
    refine thA_n ?_
    refine PC.ret ?_
    refine thA_r ?_
    obtain rfl := some_in hh0
    exact FinA.mk (r := bA false) (bl := []) [] (.inl rfl) rfl (rl := [.tmp 2]) (.tmp .nil) rfl rfl rfl (.t _) trivial ⟨rfl, rfl⟩
  obtain ⟨n4, h_5, hh0⟩ := bind_some hh0
  obtain ⟨r6, h_7, hh0⟩ := bind_some hh0
  rcases cond_some hh0 with ⟨h_8, hh0⟩ | ⟨h_8, hh0⟩
  rotate_left
  · refine PC.region ?_
    refine PL.op rfl (Rd.fieldO rfl rfl) ?_
    refine PL.op rfl (Rd.loadO rfl rfl rfl) ?_
    refine PL.callM false [] (w_S_inRange N p_s.pages (0 : Int) (16 : Int) r1 h_2) rfl Try.call61 rfl ⟨.t _, .t _, .t _, trivial⟩ rfl trivial (fun h => by cases h) ?_
    refine PL.op rfl (Rd.unnot rfl) ?_
    refine PL.op rfl (Rd.moveT rfl) ?_
    refine PL.guard_on rfl (not_t h_3) ?_
    refine PL.op rfl (Rd.fieldO rfl rfl) ?_
    refine PL.guard_on rfl (not_t h_3) ?_
    refine PL.op rfl (Rd.loadO rfl rfl rfl) ?_
    refine PL.guard_on rfl (not_t h_3) ?_
    refine PL.op rfl (Rd.fieldO rfl rfl) ?_
    refine PL.guard_on rfl (not_t h_3) ?_
    refine PL.op rfl (Rd.loadO rfl rfl rfl) ?_
    refine PL.guard_on rfl (not_t h_3) ?_
    refine PL.op rfl (Rd.subM rfl rfl h_5) ?_
    refine PL.guard_on rfl (not_t h_3) ?_
    refine PL.callM false [] (w_S_ascending N p_s.free (0 : Int) n4 r6 h_7) rfl Try.call62 rfl ⟨.t _, .t _, .t _, trivial⟩ rfl trivial (fun h => by cases h) ?_
    refine PL.guard_on rfl (not_t h_3) ?_
    refine PL.op rfl (Rd.unnot rfl) ?_
    refine PL.op rfl (Rd.pick_f rfl (not_t h_3)) ?_
    refine PL.op rfl (Rd.moveT rfl) ?_
    refine PL.guard_off rfl rfl (not_f h_8) ?_
    refine PL.guard_off rfl rfl (not_f h_8) ?_
    refine PL.guard_off rfl rfl (not_f h_8) ?_
    refine PL.guard_off rfl rfl (not_f h_8) ?_
    refine PL.op rfl (Rd.pick_t rfl (not_f h_8)) ?_
    refine PL.nil ?_
    refine thA_n ?_
    refine PC.cond_true rfl rfl ?_
    refine PC.seq ?_
    refine PC.region ?_
    refine PL.op rfl (Rd.asnT rfl) ?_
    refine PL.nil ?_
    refine thA_n ?_
    refine PC.ret ?_
    refine thA_r ?_
    obtain rfl := some_in hh0
    exact FinA.mk (r := bA false) (bl := []) [] (.inl rfl) rfl (rl := [.tmp 2]) (.tmp .nil) rfl rfl rfl (.t _) trivial ⟨rfl, rfl⟩
  refine PC.region ?_
  refine PL.op rfl (Rd.fieldO rfl rfl) ?_
  refine PL.op rfl (Rd.loadO rfl rfl rfl) ?_
  refine PL.callM false [] (w_S_inRange N p_s.pages (0 : Int) (16 : Int) r1 h_2) rfl Try.call61 rfl ⟨.t _, .t _, .t _, trivial⟩ rfl trivial (fun h => by cases h) ?_
  refine PL.op rfl (Rd.unnot rfl) ?_
  refine PL.op rfl (Rd.moveT rfl) ?_
  refine PL.guard_on rfl (not_t h_3) ?_
  refine PL.op rfl (Rd.fieldO rfl rfl) ?_
  refine PL.guard_on rfl (not_t h_3) ?_
  refine PL.op rfl (Rd.loadO rfl rfl rfl) ?_
  refine PL.guard_on rfl (not_t h_3) ?_
  refine PL.op rfl (Rd.fieldO rfl rfl) ?_
  refine PL.guard_on rfl (not_t h_3) ?_
  refine PL.op rfl (Rd.loadO rfl rfl rfl) ?_
  refine PL.guard_on rfl (not_t h_3) ?_
  refine PL.op rfl (Rd.subM rfl rfl h_5) ?_
  refine PL.guard_on rfl (not_t h_3) ?_
  refine PL.callM false [] (w_S_ascending N p_s.free (0 : Int) n4 r6 h_7) rfl Try.call62 rfl ⟨.t _, .t _, .t _, trivial⟩ rfl trivial (fun h => by cases h) ?_
  refine PL.guard_on rfl (not_t h_3) ?_
  refine PL.op rfl (Rd.unnot rfl) ?_
  refine PL.op rfl (Rd.pick_f rfl (not_t h_3)) ?_
  refine PL.op rfl (Rd.moveT rfl) ?_
  refine PL.guard_on rfl (not_t h_8) ?_
  refine PL.op rfl (Rd.fieldO rfl rfl) ?_
  refine PL.guard_on rfl (not_t h_8) ?_
  refine PL.op rfl (Rd.loadO rfl rfl rfl) ?_
  refine PL.guard_on rfl (not_t h_8) ?_
  refine PL.op rfl (Rd.lenT rfl) ?_
  refine PL.guard_on rfl (not_t h_8) ?_
  refine PL.op rfl (Rd.gtr rfl rfl) ?_
  refine PL.op rfl (Rd.pick_f rfl (not_t h_8)) ?_
  refine PL.nil ?_
  refine thA_n ?_
  rcases cond_some hh0 with ⟨h_9, hh0⟩ | ⟨h_9, hh0⟩
  · refine PC.cond_true rfl h_9 ?_
    refine PC.seq ?_
    refine PC.region ?_
    refine PL.op rfl (Rd.asnT rfl) ?_
    refine PL.nil ?_
    refine thA_n ?_
    refine PC.ret ?_
    refine thA_r ?_
    obtain rfl := some_in hh0
    exact FinA.mk (r := bA false) (bl := []) [] (.inl rfl) rfl (rl := [.tmp 2]) (.tmp .nil) rfl rfl rfl (.t _) trivial ⟨rfl, rfl⟩
  refine PC.cond_false rfl h_9 ?_
  refine PC.skip ?_
  refine thA_n ?_
  refine PC.seq ?_
  refine PC.seq ?_
  refine PC.region ?_
  refine PL.op rfl (Rd.asnT rfl) ?_
  refine PL.nil ?_
  refine thA_n ?_
  obtain ⟨o58, h_59, hh0⟩ := bind_some hh0
  refine PC.cutE hs (fun x : Unit => []) (fun x => []) (fun x => m_S_validSpace_k3 N  = some r) ?_ ?_
  · refine PC.block ?_
    refine PC.loop hs (fun x : Nat × (Int) => [(1, .op 0 0), (3, iA x.2)]) (fun x => [⟨.mx [iA p_s.pages, sL p_s.free, sL p_s.held], 30, 0⟩]) (fun x => loopM (β := Unit ⊕ Bool) (fun s : Int => m_S_validSpace_b3 N p_s s) x.1 x.2 = some o58) (fun x => x.1) (N, (0 : Int)) [some 0] ⟨rfl, rfl, ⟨⟨_, rfl, rfl, rfl, .mx ⟨.t _, .t _, .t _, trivial⟩⟩, trivial⟩, ⟨.op rfl, .t _, trivial⟩⟩ h_59 ?_
    rintro ⟨f60_, h10⟩ h_62
    obtain ⟨f60, y61, rfl, hh1, kk1⟩ := loopM_some h_62
    replace hh1 : m_S_validSpace_b3 N p_s h10 = some y61 := hh1
    unfold m_S_validSpace_b3 at hh1
    refine PC.seq ?_
    refine PC.seq ?_
    refine PC.region ?_
    refine PL.op rfl (Rd.moveT rfl) ?_
    refine PL.op rfl (Rd.fieldO rfl rfl) ?_
    refine PL.op rfl (Rd.loadO rfl rfl rfl) ?_
    refine PL.op rfl (Rd.lenT rfl) ?_
    refine PL.op rfl (Rd.lss rfl rfl) ?_
    refine PL.nil ?_
    refine thA_n ?_
    rcases cond_some hh1 with ⟨h_63, hh1⟩ | ⟨h_63, hh1⟩
    rotate_left
    · refine PC.cond_false rfl h_63 ?_
      refine PC.exit ?_
      refine thA_e ?_
      refine thA_e ?_
      refine inA_eq rfl ?_
      refine thA_n ?_
      obtain rfl := some_in hh1
      obtain rfl : (.inl () : Unit ⊕ Bool) = o58 := kk1
      exact ⟨(), hh0, [], ⟨rfl, rfl, trivial, trivial⟩⟩
    refine PC.cond_true rfl h_63 ?_
    refine PC.skip ?_
    refine thA_n ?_
    refine PC.seq ?_
    refine PC.block ?_
    refine PC.seq ?_
    obtain ⟨x64, h_65, hh1⟩ := bind_some hh1
    refine PC.region ?_
    refine PL.op rfl (Rd.fieldO rfl rfl) ?_
    refine PL.op rfl (Rd.loadO rfl rfl rfl) ?_
    refine PL.op rfl (Rd.moveT rfl) ?_
    refine PL.op rfl (Rd.ixM rfl rfl h_65) ?_
    refine PL.op rfl (Rd.elMR rfl h_65 rfl rfl) ?_
    refine PL.ef rfl (Ef.alloc rfl rfl) ?_
    refine PL.nm (.op 1 0) [some ⟨.mx [iA p_s.pages, sL p_s.free, sL p_s.held], 30, 0⟩, some ⟨.mx [iA (0 : Int), iA (0 : Int)], 42, 0⟩] rfl rfl ?_
    refine PL.store rfl rfl rfl rfl rfl rfl rfl ?_
    refine PL.nO [some ⟨.mx [iA p_s.pages, sL p_s.free, sL p_s.held], 30, 0⟩, some ⟨.mx [iA x64.page, iA x64.since], 42, 0⟩] rfl ?_
    refine PL.nil ?_
    refine thA_n ?_
    refine PC.seq ?_
    refine PC.seq ?_
    obtain ⟨n66, h_67, hh1⟩ := bind_some hh1
    obtain ⟨r68, h_69, hh1⟩ := bind_some hh1
    rcases cond_some hh1 with ⟨h_70, hh1⟩ | ⟨h_70, hh1⟩
    rotate_left
    · refine PC.any (id := 7) 36 (.seg [0, 1, 2, 3, 4, 5, 6, 7, 8, 9, 10, 11, 12, 13, 14, 15, 16, 17, 18, 19, 20, 21, 22, 23, 24, 25, 26, 27, 28, 29, 30, 31, 32, 33, 34, 35] .done) [] rfl (by kernel_rfl) rfl ?_
      refine PT.seg ?_
      refine PR.op rfl (Rd.fieldO rfl rfl) ?_
      refine PR.op rfl (Rd.loadO rfl rfl rfl) ?_
      refine PR.op rfl (Rd.fieldO rfl rfl) ?_
      refine PR.op rfl (Rd.loadO rfl rfl rfl) ?_
      refine PR.op rfl (Rd.subM rfl rfl h_67) ?_
      refine PR.callM false [] (w_S_inRange N x64.page (0 : Int) n66 r68 h_69) rfl Try.call61 rfl ⟨.t _, .t _, .t _, trivial⟩ rfl trivial (fun h => by cases h) rfl ?_
      refine PR.op rfl (Rd.unnot rfl) ?_
      refine PR.op rfl (Rd.moveT rfl) ?_
      refine PR.guard_off rfl rfl (not_f h_70) ?_
      refine PR.guard_off rfl rfl (not_f h_70) ?_
      refine PR.guard_off rfl rfl (not_f h_70) ?_
      refine PR.guard_off rfl rfl (not_f h_70) ?_
      refine PR.guard_off rfl rfl (not_f h_70) ?_
      refine PR.op rfl (Rd.pick_t rfl (not_f h_70)) ?_
      refine PR.op rfl (Rd.moveT rfl) ?_
      refine PR.guard_off rfl rfl rfl ?_
      refine PR.guard_off rfl rfl rfl ?_
      refine PR.guard_off rfl rfl rfl ?_
      refine PR.guard_off rfl rfl rfl ?_
      refine PR.op rfl (Rd.pick_t rfl rfl) ?_
      refine PR.op rfl (Rd.moveT rfl) ?_
      refine PR.guard_off rfl rfl rfl ?_
      refine PR.guard_off rfl rfl rfl ?_
      refine PR.guard_off rfl rfl rfl ?_
      refine PR.guard_un rfl rfl ?_
      refine PR.guard_un rfl rfl ?_
      refine PR.guard_un rfl rfl ?_
      refine PR.guard_un rfl rfl ?_
      refine PR.guard_un rfl rfl ?_
      refine PR.guard_un rfl rfl ?_
      refine PR.guard_un rfl rfl ?_
      refine PR.guard_un rfl rfl ?_
      refine PR.guard_un rfl rfl ?_
      refine PR.guard_un rfl rfl ?_
      refine PR.guard_off rfl rfl rfl ?_
      refine PR.op rfl (Rd.pick_t rfl rfl) ?_
      refine PR.nil ?_
      refine PT.done ?_
      refine PL.nil ?_
      refine thA_n ?_
      refine PC.cond_true rfl rfl ?_
      refine PC.seq ?_
      refine PC.region ?_
      refine PL.op rfl (Rd.asnT rfl) ?_
      refine PL.nil ?_
      refine thA_n ?_
      refine PC.ret ?_
      refine thA_r ?_
      refine inA_r ?_
      refine thA_r ?_
      refine thA_r ?_
      refine inA_r ?_
      refine thA_r ?_
      obtain rfl := some_in hh1
      obtain rfl : (.inr false : Unit ⊕ Bool) = o58 := kk1
      refine thA_r ?_
      obtain rfl := some_in hh0
      exact FinA.mk (r := bA false) (bl := []) [] (.inl rfl) rfl (rl := [.tmp 2]) (.tmp .nil) rfl rfl rfl (.t _) trivial ⟨rfl, rfl⟩
    obtain ⟨r71, h_72, hh1⟩ := bind_some hh1
    rcases cond_some hh1 with ⟨h_73, hh1⟩ | ⟨h_73, hh1⟩
    · refine PC.any (id := 7) 36 (.seg [0, 1, 2, 3, 4, 5, 6, 7, 8, 9, 10, 11, 12, 13, 14, 15, 16, 17, 18, 19, 20, 21, 22, 23, 24, 25, 26, 27, 28, 29, 30, 31, 32, 33, 34, 35] .done) [] rfl (by kernel_rfl) rfl ?_
      refine PT.seg ?_
      refine PR.op rfl (Rd.fieldO rfl rfl) ?_
      refine PR.op rfl (Rd.loadO rfl rfl rfl) ?_
      refine PR.op rfl (Rd.fieldO rfl rfl) ?_
      refine PR.op rfl (Rd.loadO rfl rfl rfl) ?_
      refine PR.op rfl (Rd.subM rfl rfl h_67) ?_
      refine PR.callM false [] (w_S_inRange N x64.page (0 : Int) n66 r68 h_69) rfl Try.call61 rfl ⟨.t _, .t _, .t _, trivial⟩ rfl trivial (fun h => by cases h) rfl ?_
      refine PR.op rfl (Rd.unnot rfl) ?_
      refine PR.op rfl (Rd.moveT rfl) ?_
      refine PR.guard_on rfl rfl (not_t h_70) ?_
      refine PR.op rfl (Rd.fieldO rfl rfl) ?_
      refine PR.guard_on rfl rfl (not_t h_70) ?_
      refine PR.op rfl (Rd.loadO rfl rfl rfl) ?_
      refine PR.guard_on rfl rfl (not_t h_70) ?_
      refine PR.op rfl (Rd.fieldO rfl rfl) ?_
      refine PR.guard_on rfl rfl (not_t h_70) ?_
      refine PR.op rfl (Rd.loadO rfl rfl rfl) ?_
      refine PR.guard_on rfl rfl (not_t h_70) ?_
      refine PR.callM false [] (w_S_isIn N p_s.free x64.page r71 h_72) rfl Try.call48 rfl ⟨.t _, .t _, trivial⟩ rfl trivial (fun h => by cases h) rfl ?_
      refine PR.op rfl (Rd.pick_f rfl (not_t h_70)) ?_
      refine PR.op rfl (Rd.moveT rfl) ?_
      refine PR.guard_off rfl rfl h_73 ?_
      refine PR.guard_off rfl rfl h_73 ?_
      refine PR.guard_off rfl rfl h_73 ?_
      refine PR.guard_off rfl rfl h_73 ?_
      refine PR.op rfl (Rd.pick_t rfl h_73) ?_
      refine PR.op rfl (Rd.moveT rfl) ?_
      refine PR.guard_off rfl rfl rfl ?_
      refine PR.guard_off rfl rfl rfl ?_
      refine PR.guard_off rfl rfl rfl ?_
      refine PR.guard_un rfl rfl ?_
      refine PR.guard_un rfl rfl ?_
      refine PR.guard_un rfl rfl ?_
      refine PR.guard_un rfl rfl ?_
      refine PR.guard_un rfl rfl ?_
      refine PR.guard_un rfl rfl ?_
      refine PR.guard_un rfl rfl ?_
      refine PR.guard_un rfl rfl ?_
      refine PR.guard_un rfl rfl ?_
      refine PR.guard_un rfl rfl ?_
      refine PR.guard_off rfl rfl rfl ?_
      refine PR.op rfl (Rd.pick_t rfl rfl) ?_
      refine PR.nil ?_
      refine PT.done ?_
      refine PL.nil ?_
      refine thA_n ?_
      refine PC.cond_true rfl rfl ?_
      refine PC.seq ?_
      refine PC.region ?_
      refine PL.op rfl (Rd.asnT rfl) ?_
      refine PL.nil ?_
      refine thA_n ?_
      refine PC.ret ?_
      refine thA_r ?_
      refine inA_r ?_
      refine thA_r ?_
      refine thA_r ?_
      refine inA_r ?_
      refine thA_r ?_
      obtain rfl := some_in hh1
      obtain rfl : (.inr false : Unit ⊕ Bool) = o58 := kk1
      refine thA_r ?_
      obtain rfl := some_in hh0
      exact FinA.mk (r := bA false) (bl := []) [] (.inl rfl) rfl (rl := [.tmp 2]) (.tmp .nil) rfl rfl rfl (.t _) trivial ⟨rfl, rfl⟩
    obtain ⟨r74, h_75, hh1⟩ := bind_some hh1
    rcases cond_some hh1 with ⟨h_76, hh1⟩ | ⟨h_76, hh1⟩
    rotate_left
    · refine PC.any (id := 7) 36 (.seg [0, 1, 2, 3, 4, 5, 6, 7, 8, 9, 10, 11, 12, 13, 14, 15, 16, 17, 18, 19, 20, 21, 22, 23, 24, 25, 26, 27, 28, 29, 30, 31, 32, 33, 34, 35] .done) [] rfl (by kernel_rfl) rfl ?_
      refine PT.seg ?_
      refine PR.op rfl (Rd.fieldO rfl rfl) ?_
      refine PR.op rfl (Rd.loadO rfl rfl rfl) ?_
      refine PR.op rfl (Rd.fieldO rfl rfl) ?_
      refine PR.op rfl (Rd.loadO rfl rfl rfl) ?_
      refine PR.op rfl (Rd.subM rfl rfl h_67) ?_
      refine PR.callM false [] (w_S_inRange N x64.page (0 : Int) n66 r68 h_69) rfl Try.call61 rfl ⟨.t _, .t _, .t _, trivial⟩ rfl trivial (fun h => by cases h) rfl ?_
      refine PR.op rfl (Rd.unnot rfl) ?_
      refine PR.op rfl (Rd.moveT rfl) ?_
      refine PR.guard_on rfl rfl (not_t h_70) ?_
      refine PR.op rfl (Rd.fieldO rfl rfl) ?_
      refine PR.guard_on rfl rfl (not_t h_70) ?_
      refine PR.op rfl (Rd.loadO rfl rfl rfl) ?_
      refine PR.guard_on rfl rfl (not_t h_70) ?_
      refine PR.op rfl (Rd.fieldO rfl rfl) ?_
      refine PR.guard_on rfl rfl (not_t h_70) ?_
      refine PR.op rfl (Rd.loadO rfl rfl rfl) ?_
      refine PR.guard_on rfl rfl (not_t h_70) ?_
      refine PR.callM false [] (w_S_isIn N p_s.free x64.page r71 h_72) rfl Try.call48 rfl ⟨.t _, .t _, trivial⟩ rfl trivial (fun h => by cases h) rfl ?_
      refine PR.op rfl (Rd.pick_f rfl (not_t h_70)) ?_
      refine PR.op rfl (Rd.moveT rfl) ?_
      refine PR.guard_on rfl rfl h_73 ?_
      refine PR.op rfl (Rd.fieldO rfl rfl) ?_
      refine PR.guard_on rfl rfl h_73 ?_
      refine PR.op rfl (Rd.loadO rfl rfl rfl) ?_
      refine PR.guard_on rfl rfl h_73 ?_
      refine PR.callM false [] (w_S_inRange N x64.since (0 : Int) (9999 : Int) r74 h_75) rfl Try.call61 rfl ⟨.t _, .t _, .t _, trivial⟩ rfl trivial (fun h => by cases h) rfl ?_
      refine PR.guard_on rfl rfl h_73 ?_
      refine PR.op rfl (Rd.unnot rfl) ?_
      refine PR.op rfl (Rd.pick_f rfl h_73) ?_
      refine PR.op rfl (Rd.moveT rfl) ?_
      refine PR.guard_off rfl rfl (not_f h_76) ?_
      refine PR.guard_off rfl rfl (not_f h_76) ?_
      refine PR.guard_off rfl rfl (not_f h_76) ?_
      refine PR.guard_un rfl rfl ?_
      refine PR.guard_un rfl rfl ?_
      refine PR.guard_un rfl rfl ?_
      refine PR.guard_un rfl rfl ?_
      refine PR.guard_un rfl rfl ?_
      refine PR.guard_un rfl rfl ?_
      refine PR.guard_un rfl rfl ?_
      refine PR.guard_un rfl rfl ?_
      refine PR.guard_un rfl rfl ?_
      refine PR.guard_un rfl rfl ?_
      refine PR.guard_off rfl rfl (not_f h_76) ?_
      refine PR.op rfl (Rd.pick_t rfl (not_f h_76)) ?_
      refine PR.nil ?_
      refine PT.done ?_
      refine PL.nil ?_
      refine thA_n ?_
      refine PC.cond_true rfl rfl ?_
      refine PC.seq ?_
      refine PC.region ?_
      refine PL.op rfl (Rd.asnT rfl) ?_
      refine PL.nil ?_
      refine thA_n ?_
      refine PC.ret ?_
      refine thA_r ?_
      refine inA_r ?_
      refine thA_r ?_
      refine thA_r ?_
      refine inA_r ?_
      refine thA_r ?_
      obtain rfl := some_in hh1
      obtain rfl : (.inr false : Unit ⊕ Bool) = o58 := kk1
      refine thA_r ?_
      obtain rfl := some_in hh0
      exact FinA.mk (r := bA false) (bl := []) [] (.inl rfl) rfl (rl := [.tmp 2]) (.tmp .nil) rfl rfl rfl (.t _) trivial ⟨rfl, rfl⟩
    rcases cond_some hh1 with ⟨h_77, hh1⟩ | ⟨h_77, hh1⟩
    rotate_left
    · refine PC.any (id := 7) 36 (.seg [0, 1, 2, 3, 4, 5, 6, 7, 8, 9, 10, 11, 12, 13, 14, 15, 16, 17, 18, 19, 20, 21, 22, 23, 24, 25, 26, 27, 28, 29, 30, 31, 32, 33, 34, 35] .done) [] rfl (by kernel_rfl) rfl ?_
      refine PT.seg ?_
      refine PR.op rfl (Rd.fieldO rfl rfl) ?_
      refine PR.op rfl (Rd.loadO rfl rfl rfl) ?_
      refine PR.op rfl (Rd.fieldO rfl rfl) ?_
      refine PR.op rfl (Rd.loadO rfl rfl rfl) ?_
      refine PR.op rfl (Rd.subM rfl rfl h_67) ?_
      refine PR.callM false [] (w_S_inRange N x64.page (0 : Int) n66 r68 h_69) rfl Try.call61 rfl ⟨.t _, .t _, .t _, trivial⟩ rfl trivial (fun h => by cases h) rfl ?_
      refine PR.op rfl (Rd.unnot rfl) ?_
      refine PR.op rfl (Rd.moveT rfl) ?_
      refine PR.guard_on rfl rfl (not_t h_70) ?_
      refine PR.op rfl (Rd.fieldO rfl rfl) ?_
      refine PR.guard_on rfl rfl (not_t h_70) ?_
      refine PR.op rfl (Rd.loadO rfl rfl rfl) ?_
      refine PR.guard_on rfl rfl (not_t h_70) ?_
      refine PR.op rfl (Rd.fieldO rfl rfl) ?_
      refine PR.guard_on rfl rfl (not_t h_70) ?_
      refine PR.op rfl (Rd.loadO rfl rfl rfl) ?_
      refine PR.guard_on rfl rfl (not_t h_70) ?_
      refine PR.callM false [] (w_S_isIn N p_s.free x64.page r71 h_72) rfl Try.call48 rfl ⟨.t _, .t _, trivial⟩ rfl trivial (fun h => by cases h) rfl ?_
      refine PR.op rfl (Rd.pick_f rfl (not_t h_70)) ?_
      refine PR.op rfl (Rd.moveT rfl) ?_
      refine PR.guard_on rfl rfl h_73 ?_
      refine PR.op rfl (Rd.fieldO rfl rfl) ?_
      refine PR.guard_on rfl rfl h_73 ?_
      refine PR.op rfl (Rd.loadO rfl rfl rfl) ?_
      refine PR.guard_on rfl rfl h_73 ?_
      refine PR.callM false [] (w_S_inRange N x64.since (0 : Int) (9999 : Int) r74 h_75) rfl Try.call61 rfl ⟨.t _, .t _, .t _, trivial⟩ rfl trivial (fun h => by cases h) rfl ?_
      refine PR.guard_on rfl rfl h_73 ?_
      refine PR.op rfl (Rd.unnot rfl) ?_
      refine PR.op rfl (Rd.pick_f rfl h_73) ?_
      refine PR.op rfl (Rd.moveT rfl) ?_
      refine PR.guard_on rfl rfl (not_t h_76) ?_
      refine PR.op rfl (Rd.moveT rfl) ?_
      refine PR.guard_on rfl rfl (not_t h_76) ?_
      refine PR.op rfl (Rd.gtr rfl rfl) ?_
      refine PR.guard_on rfl rfl (not_t h_76) ?_
      refine PR.op rfl (Rd.moveT rfl) ?_
      refine PR.guard_off rfl rfl h_77 ?_
      refine PR.guard_off rfl rfl h_77 ?_
      refine PR.guard_off rfl rfl h_77 ?_
      refine PR.guard_off rfl rfl h_77 ?_
      refine PR.guard_off rfl rfl h_77 ?_
      refine PR.guard_off rfl rfl h_77 ?_
      refine PR.guard_off rfl rfl h_77 ?_
      refine PR.guard_off rfl rfl h_77 ?_
      refine PR.guard_off rfl rfl h_77 ?_
      refine PR.guard_off rfl rfl h_77 ?_
      refine PR.guard_on rfl rfl (not_t h_76) ?_
      refine PR.op rfl (Rd.pick_f rfl h_77) ?_
      refine PR.op rfl (Rd.pick_f rfl (not_t h_76)) ?_
      refine PR.nil ?_
      refine PT.done ?_
      refine PL.nil ?_
      refine thA_n ?_
      refine PC.cond_false rfl rfl ?_
      refine PC.skip ?_
      refine thA_n ?_
      refine PC.seq ?_
      refine PC.region ?_
      refine PL.op rfl (Rd.asnT rfl) ?_
      refine PL.nil ?_
      refine thA_n ?_
      obtain ⟨o103, h_104, hh1⟩ := bind_some hh1
      refine PC.cutE hs (fun x : Unit => [(1, .op 0 0), (3, iA h10)]) (fun x => [⟨.mx [iA p_s.pages, sL p_s.free, sL p_s.held], 30, 0⟩]) (fun x => m_S_validSpace_k5 N h10  = some y61) ?_ ?_
      · refine PC.block ?_
        refine PC.loop hs (fun x : Nat × (Unit) => [(1, .op 0 0), (3, iA h10), (4, .op 1 0), (5, iA (0 : Int))]) (fun x => [⟨.mx [iA p_s.pages, sL p_s.free, sL p_s.held], 30, 0⟩, ⟨.mx [iA x64.page, iA x64.since], 42, 0⟩]) (fun x => loopM (β := Unit) (fun _ : Unit => m_S_validSpace_b5 N) x.1 x.2 = some o103) (fun x => x.1) (N, ()) [some 0, some 1] ⟨rfl, rfl, ⟨⟨_, rfl, rfl, rfl, .mx ⟨.t _, .t _, .t _, trivial⟩⟩, ⟨_, rfl, rfl, rfl, .mx ⟨.t _, .t _, trivial⟩⟩, trivial⟩, ⟨.op rfl, .t _, .op rfl, .t _, trivial⟩⟩ h_104 ?_
        rintro ⟨f105_, ⟨⟩⟩ h_107
        obtain ⟨f105, y106, rfl, hh2, kk2⟩ := loopM_some h_107
        replace hh2 : m_S_validSpace_b5 N  = some y106 := hh2
        unfold m_S_validSpace_b5 at hh2
        refine PC.seq ?_
        refine PC.seq ?_
        refine PC.region ?_
        refine PL.op rfl (Rd.moveT rfl) ?_
        refine PL.op rfl (Rd.moveT rfl) ?_
        refine PL.op rfl (Rd.lss rfl rfl) ?_
        refine PL.nil ?_
        refine thA_n ?_
        refine PC.cond_false rfl h_77 ?_
        refine PC.exit ?_
        refine thA_e ?_
        refine thA_e ?_
        refine inA_eq rfl ?_
        refine thA_n ?_
        obtain rfl := some_in hh2
        obtain rfl : (() : Unit) = o103 := kk2
        exact ⟨(), hh1, [some 0], ⟨rfl, rfl, ⟨⟨_, rfl, rfl, rfl, .mx ⟨.t _, .t _, .t _, trivial⟩⟩, trivial⟩, ⟨.op rfl, .t _, trivial⟩⟩⟩
      clear hh1
      rintro ⟨⟩ hh1
      replace hh1 : m_S_validSpace_k5 N h10  = some y61 := hh1
      unfold m_S_validSpace_k5 at hh1
      refine inA_n ?_
      refine thA_n ?_
      obtain ⟨n108, h_109, hh1⟩ := bind_some hh1
      refine PC.region ?_
      refine PL.op rfl (Rd.moveT rfl) ?_
      refine PL.op rfl (Rd.addM rfl rfl h_109) ?_
      refine PL.op rfl (Rd.asnT rfl) ?_
      refine PL.nil ?_
      obtain rfl := some_in hh1
      refine thA_n ?_
      exact ⟨(f60, n108), Nat.lt_succ_self _, kk1, [some 0], ⟨rfl, rfl, ⟨⟨_, rfl, rfl, rfl, .mx ⟨.t _, .t _, .t _, trivial⟩⟩, trivial⟩, ⟨.op rfl, .t _, trivial⟩⟩⟩
    obtain ⟨n78, h_79, hh1⟩ := bind_some hh1
    obtain ⟨x80, h_81, hh1⟩ := bind_some hh1
    refine PC.any (id := 7) 36 (.seg [0, 1, 2, 3, 4, 5, 6, 7, 8, 9, 10, 11, 12, 13, 14, 15, 16, 17, 18, 19, 20, 21, 22, 23, 24, 25, 26, 27, 28, 29, 30, 31, 32, 33, 34, 35] .done) [] rfl (by kernel_rfl) rfl ?_
    refine PT.seg ?_
    refine PR.op rfl (Rd.fieldO rfl rfl) ?_
    refine PR.op rfl (Rd.loadO rfl rfl rfl) ?_
    refine PR.op rfl (Rd.fieldO rfl rfl) ?_
    refine PR.op rfl (Rd.loadO rfl rfl rfl) ?_
    refine PR.op rfl (Rd.subM rfl rfl h_67) ?_
    refine PR.callM false [] (w_S_inRange N x64.page (0 : Int) n66 r68 h_69) rfl Try.call61 rfl ⟨.t _, .t _, .t _, trivial⟩ rfl trivial (fun h => by cases h) rfl ?_
    refine PR.op rfl (Rd.unnot rfl) ?_
    refine PR.op rfl (Rd.moveT rfl) ?_
    refine PR.guard_on rfl rfl (not_t h_70) ?_
    refine PR.op rfl (Rd.fieldO rfl rfl) ?_
    refine PR.guard_on rfl rfl (not_t h_70) ?_
    refine PR.op rfl (Rd.loadO rfl rfl rfl) ?_
    refine PR.guard_on rfl rfl (not_t h_70) ?_
    refine PR.op rfl (Rd.fieldO rfl rfl) ?_
    refine PR.guard_on rfl rfl (not_t h_70) ?_
    refine PR.op rfl (Rd.loadO rfl rfl rfl) ?_
    refine PR.guard_on rfl rfl (not_t h_70) ?_
    refine PR.callM false [] (w_S_isIn N p_s.free x64.page r71 h_72) rfl Try.call48 rfl ⟨.t _, .t _, trivial⟩ rfl trivial (fun h => by cases h) rfl ?_
    refine PR.op rfl (Rd.pick_f rfl (not_t h_70)) ?_
    refine PR.op rfl (Rd.moveT rfl) ?_
    refine PR.guard_on rfl rfl h_73 ?_
    refine PR.op rfl (Rd.fieldO rfl rfl) ?_
    refine PR.guard_on rfl rfl h_73 ?_
    refine PR.op rfl (Rd.loadO rfl rfl rfl) ?_
    refine PR.guard_on rfl rfl h_73 ?_
    refine PR.callM false [] (w_S_inRange N x64.since (0 : Int) (9999 : Int) r74 h_75) rfl Try.call61 rfl ⟨.t _, .t _, .t _, trivial⟩ rfl trivial (fun h => by cases h) rfl ?_
    refine PR.guard_on rfl rfl h_73 ?_
    refine PR.op rfl (Rd.unnot rfl) ?_
    refine PR.op rfl (Rd.pick_f rfl h_73) ?_
    refine PR.op rfl (Rd.moveT rfl) ?_
    refine PR.guard_on rfl rfl (not_t h_76) ?_
    refine PR.op rfl (Rd.moveT rfl) ?_
    refine PR.guard_on rfl rfl (not_t h_76) ?_
    refine PR.op rfl (Rd.gtr rfl rfl) ?_
    refine PR.guard_on rfl rfl (not_t h_76) ?_
    refine PR.op rfl (Rd.moveT rfl) ?_
    refine PR.guard_on rfl rfl h_77 ?_
    refine PR.op rfl (Rd.fieldO rfl rfl) ?_
    refine PR.guard_on rfl rfl h_77 ?_
    refine PR.op rfl (Rd.loadO rfl rfl rfl) ?_
    refine PR.guard_on rfl rfl h_77 ?_
    refine PR.op rfl (Rd.fieldO rfl rfl) ?_
    refine PR.guard_on rfl rfl h_77 ?_
    refine PR.op rfl (Rd.loadO rfl rfl rfl) ?_
    refine PR.guard_on rfl rfl h_77 ?_
    refine PR.op rfl (Rd.moveT rfl) ?_
    refine PR.guard_on rfl rfl h_77 ?_
    refine PR.op rfl (Rd.subM rfl rfl h_79) ?_
    refine PR.guard_on rfl rfl h_77 ?_
    refine PR.op rfl (Rd.ixM rfl rfl h_81) ?_
    refine PR.guard_on rfl rfl h_77 ?_
    refine PR.op rfl (Rd.fieldT rfl) ?_
    refine PR.guard_on rfl rfl h_77 ?_
    refine PR.op rfl (Rd.elMF (f := 1) rfl h_81 rfl rfl) ?_
    refine PR.guard_on rfl rfl h_77 ?_
    refine PR.op rfl (Rd.lss rfl rfl) ?_
    refine PR.guard_on rfl rfl (not_t h_76) ?_
    refine PR.op rfl (Rd.pick_t rfl h_77) ?_
    refine PR.op rfl (Rd.pick_f rfl (not_t h_76)) ?_
    refine PR.nil ?_
    refine PT.done ?_
    refine PL.nil ?_
    refine thA_n ?_
    rcases cond_some hh1 with ⟨h_82, hh1⟩ | ⟨h_82, hh1⟩
    · refine PC.cond_true rfl h_82 ?_
      refine PC.seq ?_
      refine PC.region ?_
      refine PL.op rfl (Rd.asnT rfl) ?_
      refine PL.nil ?_
      refine thA_n ?_
      refine PC.ret ?_
      refine thA_r ?_
      refine inA_r ?_
      refine thA_r ?_
      refine thA_r ?_
      refine inA_r ?_
      refine thA_r ?_
      obtain rfl := some_in hh1
      obtain rfl : (.inr false : Unit ⊕ Bool) = o58 := kk1
      refine thA_r ?_
      obtain rfl := some_in hh0
      exact FinA.mk (r := bA false) (bl := []) [] (.inl rfl) rfl (rl := [.tmp 2]) (.tmp .nil) rfl rfl rfl (.t _) trivial ⟨rfl, rfl⟩
    refine PC.cond_false rfl h_82 ?_
    refine PC.skip ?_
    refine thA_n ?_
    refine PC.seq ?_
    refine PC.region ?_
    refine PL.op rfl (Rd.asnT rfl) ?_
    refine PL.nil ?_
    refine thA_n ?_
    obtain ⟨o90, h_91, hh1⟩ := bind_some hh1
    refine PC.cutE hs (fun x : Unit => [(1, .op 0 0), (3, iA h10)]) (fun x => [⟨.mx [iA p_s.pages, sL p_s.free, sL p_s.held], 30, 0⟩]) (fun x => m_S_validSpace_k4 N h10  = some y61) ?_ ?_
    · refine PC.block ?_
      refine PC.loop hs (fun x : Nat × (Int) => [(1, .op 0 0), (3, iA h10), (4, .op 1 0), (5, iA x.2)]) (fun x => [⟨.mx [iA p_s.pages, sL p_s.free, sL p_s.held], 30, 0⟩, ⟨.mx [iA x64.page, iA x64.since], 42, 0⟩]) (fun x => loopM (β := Unit ⊕ Bool) (fun s : Int => m_S_validSpace_b4 N p_s h10 x64 s) x.1 x.2 = some o90) (fun x => x.1) (N, (0 : Int)) [some 0, some 1] ⟨rfl, rfl, ⟨⟨_, rfl, rfl, rfl, .mx ⟨.t _, .t _, .t _, trivial⟩⟩, ⟨_, rfl, rfl, rfl, .mx ⟨.t _, .t _, trivial⟩⟩, trivial⟩, ⟨.op rfl, .t _, .op rfl, .t _, trivial⟩⟩ h_91 ?_
      rintro ⟨f92_, i83⟩ h_94
      obtain ⟨f92, y93, rfl, hh2, kk2⟩ := loopM_some h_94
      replace hh2 : m_S_validSpace_b4 N p_s h10 x64 i83 = some y93 := hh2
      unfold m_S_validSpace_b4 at hh2
      refine PC.seq ?_
      refine PC.seq ?_
      refine PC.region ?_
      refine PL.op rfl (Rd.moveT rfl) ?_
      refine PL.op rfl (Rd.moveT rfl) ?_
      refine PL.op rfl (Rd.lss rfl rfl) ?_
      refine PL.nil ?_
      refine thA_n ?_
      rcases cond_some hh2 with ⟨h_97, hh2⟩ | ⟨h_97, hh2⟩
      rotate_left
      · refine PC.cond_false rfl h_97 ?_
        refine PC.exit ?_
        refine thA_e ?_
        refine thA_e ?_
        refine inA_eq rfl ?_
        refine thA_n ?_
        obtain rfl := some_in hh2
        obtain rfl : (.inl () : Unit ⊕ Bool) = o90 := kk2
        exact ⟨(), hh1, [some 0], ⟨rfl, rfl, ⟨⟨_, rfl, rfl, rfl, .mx ⟨.t _, .t _, .t _, trivial⟩⟩, trivial⟩, ⟨.op rfl, .t _, trivial⟩⟩⟩
      refine PC.cond_true rfl h_97 ?_
      refine PC.skip ?_
      refine thA_n ?_
      refine PC.seq ?_
      refine PC.block ?_
      refine PC.seq ?_
      obtain ⟨x98, h_99, hh2⟩ := bind_some hh2
      refine PC.any (id := 12) 9 (.seg [0, 1, 2, 3, 4, 5, 6, 7, 8] .done) [] rfl (by kernel_rfl) rfl ?_
      refine PT.seg ?_
      refine PR.op rfl (Rd.fieldO rfl rfl) ?_
      refine PR.op rfl (Rd.loadO rfl rfl rfl) ?_
      refine PR.op rfl (Rd.moveT rfl) ?_
      refine PR.op rfl (Rd.ixM rfl rfl h_99) ?_
      refine PR.op rfl (Rd.fieldT rfl) ?_
      refine PR.op rfl (Rd.elMF (f := 0) rfl h_99 rfl rfl) ?_
      refine PR.op rfl (Rd.fieldO rfl rfl) ?_
      refine PR.op rfl (Rd.loadO rfl rfl rfl) ?_
      refine PR.op rfl (Rd.eql rfl rfl) ?_
      refine PR.nil ?_
      refine PT.done ?_
      refine PL.nil ?_
      refine thA_n ?_
      rcases cond_some hh2 with ⟨h_100, hh2⟩ | ⟨h_100, hh2⟩
      rotate_left
      · refine PC.cond_false rfl h_100 ?_
        refine PC.skip ?_
        refine inA_n ?_
        refine thA_n ?_
        obtain ⟨n101, h_102, hh2⟩ := bind_some hh2
        refine PC.region ?_
        refine PL.op rfl (Rd.moveT rfl) ?_
        refine PL.op rfl (Rd.addM rfl rfl h_102) ?_
        refine PL.op rfl (Rd.asnT rfl) ?_
        refine PL.nil ?_
        obtain rfl := some_in hh2
        refine thA_n ?_
        exact ⟨(f92, n101), Nat.lt_succ_self _, kk2, [some 0, some 1], ⟨rfl, rfl, ⟨⟨_, rfl, rfl, rfl, .mx ⟨.t _, .t _, .t _, trivial⟩⟩, ⟨_, rfl, rfl, rfl, .mx ⟨.t _, .t _, trivial⟩⟩, trivial⟩, ⟨.op rfl, .t _, .op rfl, .t _, trivial⟩⟩⟩
      refine PC.cond_true rfl h_100 ?_
      refine PC.seq ?_
      refine PC.region ?_
      refine PL.op rfl (Rd.asnT rfl) ?_
      refine PL.nil ?_
      refine thA_n ?_
      refine PC.ret ?_
      refine inA_r ?_
      refine thA_r ?_
      refine thA_r ?_
      refine inA_r ?_
      refine thA_r ?_
      obtain rfl := some_in hh2
      obtain rfl : (.inr false : Unit ⊕ Bool) = o90 := kk2
      refine inA_r ?_
      refine thA_r ?_
      refine thA_r ?_
      refine inA_r ?_
      refine thA_r ?_
      obtain rfl := some_in hh1
      obtain rfl : (.inr false : Unit ⊕ Bool) = o58 := kk1
      refine thA_r ?_
      obtain rfl := some_in hh0
      exact FinA.mk (r := bA false) (bl := []) [] (.inl rfl) rfl (rl := [.tmp 2]) (.tmp .nil) rfl rfl rfl (.t _) trivial ⟨rfl, rfl⟩
    clear hh1
    rintro ⟨⟩ hh1
    replace hh1 : m_S_validSpace_k4 N h10  = some y61 := hh1
    unfold m_S_validSpace_k4 at hh1
    refine inA_n ?_
    refine thA_n ?_
    obtain ⟨n95, h_96, hh1⟩ := bind_some hh1
    refine PC.region ?_
    refine PL.op rfl (Rd.moveT rfl) ?_
    refine PL.op rfl (Rd.addM rfl rfl h_96) ?_
    refine PL.op rfl (Rd.asnT rfl) ?_
    refine PL.nil ?_
    obtain rfl := some_in hh1
    refine thA_n ?_
    exact ⟨(f60, n95), Nat.lt_succ_self _, kk1, [some 0], ⟨rfl, rfl, ⟨⟨_, rfl, rfl, rfl, .mx ⟨.t _, .t _, .t _, trivial⟩⟩, trivial⟩, ⟨.op rfl, .t _, trivial⟩⟩⟩
  clear hh0
  rintro ⟨⟩ hh0
  replace hh0 : m_S_validSpace_k3 N  = some r := hh0
  unfold m_S_validSpace_k3 at hh0
  refine thA_n ?_
  refine PC.seq ?_
  refine PC.region ?_
  refine PL.op rfl (Rd.asnT rfl) ?_
  refine PL.nil ?_
  refine thA_n ?_
  refine PC.ret ?_
  obtain rfl := some_in hh0
  exact FinA.mk (r := bA true) (bl := []) [] (.inl rfl) rfl (rl := [.tmp 2]) (.tmp .nil) rfl rfl rfl (.t _) trivial ⟨rfl, rfl⟩

def m_S_ValidSpace (N : Nat) (p_s : I_Space) : Option (Bool) :=
  (m_S_validSpace N p_s).bind fun r1 =>
  some r1
theorem w_S_ValidSpace (N : Nat) (p_s : I_Space) (r : Bool) (hh0 : m_S_ValidSpace N p_s = some r) : FnX Try.prog 15 [] [.agg [iA p_s.pages, sL p_s.free, sL p_s.held]] (RE (bA r) []) := by
  unfold m_S_ValidSpace at hh0
  refine FnX.mk Try.func15 rfl rfl ?_
  intro s hs
  refine PC.seq ?_
  refine PC.region ?_
  refine PL.ef rfl (Ef.box rfl rfl rfl) ?_
  refine PL.nm (.op 0 0) [some ⟨.mx [iA p_s.pages, sL p_s.free, sL p_s.held], 30, 0⟩] rfl rfl ?_
  refine PL.op rfl (Rd.asnT rfl) ?_
  refine PL.nil ?_
  refine thA_n ?_
  refine PC.seq ?_
  obtain ⟨r1, h_2, hh0⟩ := bind_some hh0
  refine PC.region ?_
  refine PL.op rfl (Rd.loadBox rfl rfl rfl) ?_
  refine PL.callM false [] (w_S_validSpace N p_s r1 h_2) rfl Try.call43 rfl ⟨.aggL ⟨.t _, .t _, .t _, trivial⟩, trivial⟩ rfl trivial (fun h => by cases h) ?_
  refine PL.op rfl (Rd.asnT rfl) ?_
  refine PL.nil ?_
  refine thA_n ?_
  refine PC.ret ?_
  obtain rfl := some_in hh0
  exact FinA.mk (r := bA r1) (bl := []) [] (.inl rfl) rfl (rl := [.tmp 2]) (.tmp .nil) rfl rfl rfl (.t _) trivial ⟨rfl, rfl⟩

def m_S_copyInts (N : Nat) (p_list : (List Int)) : Option ((List Int)) :=
  (appM 8 ([] : List Int) p_list).bind fun xs1 =>
  some xs1
theorem w_S_copyInts (N : Nat) (p_list : (List Int)) (r : (List Int)) (hh0 : m_S_copyInts N p_list = some r) : FnX Try.prog 55 [] [sL p_list] (RE (.os 0 0 r.length) [⟨.tr (eL r), 3, 1⟩]) := by
  unfold m_S_copyInts at hh0
  refine FnX.mk Try.func55 rfl rfl ?_
  intro s hs
  refine PC.seq ?_
  refine PC.region ?_
  refine PL.op rfl (Rd.asnT rfl) ?_
  refine PL.nil ?_
  refine thA_n ?_
  refine PC.seq ?_
  obtain ⟨xs1, h_2, hh0⟩ := bind_some hh0
  refine PC.region ?_
  refine PL.ef rfl (Ef.lit0M Int) ?_
  refine PL.nm (.os 0 0 0) [some ⟨.tr (eL ([] : List Int)), 3, 1⟩] rfl rfl ?_
  refine PL.op rfl (Rd.moveT rfl) ?_
  refine PL.apM hs rfl rfl rfl rfl (SrcA.eL rfl) rfl rfl rfl rfl h_2 ?_
  refine PL.nm (.os 1 0 xs1.length) [none, some ⟨.tr (eL xs1), 3, 1⟩] rfl rfl ?_
  refine PL.op rfl (Rd.asnO rfl) ?_
  refine PL.nil ?_
  refine thA_n ?_
  refine PC.ret ?_
  obtain rfl := some_in hh0
  exact FinA.mk (r := .os 0 0 xs1.length) (bl := [⟨.tr (eL xs1), 3, 1⟩]) [some 1] (.inl rfl) rfl (rl := [.tmp 2]) (.tmp .nil) rfl rfl rfl (.os rfl) ⟨⟨_, rfl, rfl, rfl, .tr _⟩, trivial⟩ ⟨rfl, rfl⟩

def m_S_copySpace (N : Nat) (p_s : I_Space) : Option (I_Space) :=
  (m_S_copyInts N p_s.free).bind fun r1 =>
  (appM 16 ([] : List I_Hold) p_s.held).bind fun xs3 =>
  some (I_Space.mk p_s.pages r1 xs3)
theorem w_S_copySpace (N : Nat) (p_s : I_Space) (r : I_Space) (hh0 : m_S_copySpace N p_s = some r) : FnX Try.prog 52 [] [.agg [iA p_s.pages, sL p_s.free, sL p_s.held]] (RE (.agg [iA r.pages, .os 0 0 r.free.length, .os 1 0 r.held.length]) [⟨.tr (eL r.free), 3, 1⟩, ⟨.tr (eL r.held), 42, 2⟩]) := by
  unfold m_S_copySpace at hh0
  refine FnX.mk Try.func52 rfl rfl ?_
  intro s hs
  refine PC.seq ?_
  refine PC.region ?_
  refine PL.ef rfl (Ef.box rfl rfl rfl) ?_
  refine PL.nm (.op 0 0) [some ⟨.mx [iA p_s.pages, sL p_s.free, sL p_s.held], 30, 0⟩] rfl rfl ?_
  refine PL.ef rfl (Ef.alloc rfl rfl) ?_
  refine PL.nm (.op 1 0) [some ⟨.mx [iA p_s.pages, sL p_s.free, sL p_s.held], 30, 0⟩, some ⟨.mx [iA (0 : Int), .t (.v (.slice none 0 0)), .t (.v (.slice none 0 0))], 30, 0⟩] rfl rfl ?_
  refine PL.nil ?_
  refine thA_n ?_
  obtain ⟨r1, h_2, hh0⟩ := bind_some hh0
  obtain ⟨xs3, h_4, hh0⟩ := bind_some hh0
  refine PC.cut hs (fun _ : Unit => [(2, .op 0 0)]) (fun _ => [⟨.mx [iA p_s.pages, .os 1 0 r1.length, .os 2 0 xs3.length], 30, 0⟩, ⟨.tr (eL r1), 3, 1⟩, ⟨.tr (eL xs3), 42, 2⟩]) (fun _ => True) ?_ ?_
  · refine PC.any (id := 1) 10 (.seg [0, 1, 2, 3, 6, 7] (.fork (.seg [4, 5, 8, 9] .done) (.seg [5, 4, 8, 9] .done))) [] rfl (by kernel_rfl) rfl ?_
    refine PT.seg ?_
    refine PR.op rfl (Rd.fieldO rfl rfl) ?_
    refine PR.op rfl (Rd.loadO rfl rfl rfl) ?_
    refine PR.op rfl (Rd.fieldO rfl rfl) ?_
    refine PR.op rfl (Rd.loadO rfl rfl rfl) ?_
    refine PR.op rfl (Rd.fieldO rfl rfl) ?_
    refine PR.op rfl (Rd.loadO rfl rfl rfl) ?_
    refine PR.nil ?_
    refine PT.fork ?_ ?_
    · refine PT.seg ?_
      refine PR.callM false [] (w_S_copyInts N p_s.free r1 h_2) rfl Try.call55 rfl ⟨.t _, trivial⟩ rfl trivial (fun h => by cases h) rfl ?_
      refine PR.nm (.os 2 0 r1.length) [some ⟨.mx [iA p_s.pages, sL p_s.free, sL p_s.held], 30, 0⟩, some ⟨.mx [iA (0 : Int), .t (.v (.slice none 0 0)), .t (.v (.slice none 0 0))], 30, 0⟩, some ⟨.tr (eL r1), 3, 1⟩] rfl rfl ?_
      refine PR.efX rfl rfl (Ef.lit0M I_Hold) ?_
      refine PR.nm (.os 3 0 0) [some ⟨.mx [iA p_s.pages, sL p_s.free, sL p_s.held], 30, 0⟩, some ⟨.mx [iA (0 : Int), .t (.v (.slice none 0 0)), .t (.v (.slice none 0 0))], 30, 0⟩, some ⟨.tr (eL r1), 3, 1⟩, some ⟨.tr (eL ([] : List I_Hold)), 42, 2⟩] rfl rfl ?_
      refine PR.apM hs rfl rfl rfl rfl (SrcA.eL rfl) rfl rfl rfl rfl rfl h_4 ?_
      refine PR.nm (.os 4 0 xs3.length) [some ⟨.mx [iA p_s.pages, sL p_s.free, sL p_s.held], 30, 0⟩, some ⟨.mx [iA (0 : Int), .t (.v (.slice none 0 0)), .t (.v (.slice none 0 0))], 30, 0⟩, some ⟨.tr (eL r1), 3, 1⟩, none, some ⟨.tr (eL xs3), 42, 2⟩] rfl rfl ?_
      refine PR.op rfl (Rd.build rfl rfl rfl rfl) ?_
      refine PR.nil ?_
      refine PT.done ?_
      refine PL.store rfl rfl rfl rfl rfl rfl rfl ?_
      refine PL.nO [some ⟨.mx [iA p_s.pages, sL p_s.free, sL p_s.held], 30, 0⟩, some ⟨.mx [iA p_s.pages, .os 2 0 r1.length, .os 4 0 xs3.length], 30, 0⟩, some ⟨.tr (eL r1), 3, 1⟩, none, some ⟨.tr (eL xs3), 42, 2⟩] rfl ?_
      refine PL.nil ?_
      refine thA_n ?_
      exact ⟨(), trivial, [some 1, some 2, some 4], ⟨rfl, rfl, ⟨⟨_, rfl, rfl, rfl, .mx ⟨.t _, .os rfl, .os rfl, trivial⟩⟩, ⟨_, rfl, rfl, rfl, .tr _⟩, ⟨_, rfl, rfl, rfl, .tr _⟩, trivial⟩, ⟨.op rfl, trivial⟩⟩⟩
    refine PT.seg ?_
    refine PR.efX rfl rfl (Ef.lit0M I_Hold) ?_
    refine PR.nm (.os 2 0 0) [some ⟨.mx [iA p_s.pages, sL p_s.free, sL p_s.held], 30, 0⟩, some ⟨.mx [iA (0 : Int), .t (.v (.slice none 0 0)), .t (.v (.slice none 0 0))], 30, 0⟩, some ⟨.tr (eL ([] : List I_Hold)), 42, 2⟩] rfl rfl ?_
    refine PR.callM false [] (w_S_copyInts N p_s.free r1 h_2) rfl Try.call55 rfl ⟨.t _, trivial⟩ rfl trivial (fun h => by cases h) rfl ?_
    refine PR.nm (.os 3 0 r1.length) [some ⟨.mx [iA p_s.pages, sL p_s.free, sL p_s.held], 30, 0⟩, some ⟨.mx [iA (0 : Int), .t (.v (.slice none 0 0)), .t (.v (.slice none 0 0))], 30, 0⟩, some ⟨.tr (eL ([] : List I_Hold)), 42, 2⟩, some ⟨.tr (eL r1), 3, 1⟩] rfl rfl ?_
    refine PR.apM hs rfl rfl rfl rfl (SrcA.eL rfl) rfl rfl rfl rfl rfl h_4 ?_
    refine PR.nm (.os 4 0 xs3.length) [some ⟨.mx [iA p_s.pages, sL p_s.free, sL p_s.held], 30, 0⟩, some ⟨.mx [iA (0 : Int), .t (.v (.slice none 0 0)), .t (.v (.slice none 0 0))], 30, 0⟩, none, some ⟨.tr (eL r1), 3, 1⟩, some ⟨.tr (eL xs3), 42, 2⟩] rfl rfl ?_
    refine PR.op rfl (Rd.build rfl rfl rfl rfl) ?_
    refine PR.nil ?_
    refine PT.done ?_
    refine PL.store rfl rfl rfl rfl rfl rfl rfl ?_
    refine PL.nO [some ⟨.mx [iA p_s.pages, sL p_s.free, sL p_s.held], 30, 0⟩, some ⟨.mx [iA p_s.pages, .os 3 0 r1.length, .os 4 0 xs3.length], 30, 0⟩, none, some ⟨.tr (eL r1), 3, 1⟩, some ⟨.tr (eL xs3), 42, 2⟩] rfl ?_
    refine PL.nil ?_
    refine thA_n ?_
    exact ⟨(), trivial, [some 1, some 3, some 4], ⟨rfl, rfl, ⟨⟨_, rfl, rfl, rfl, .mx ⟨.t _, .os rfl, .os rfl, trivial⟩⟩, ⟨_, rfl, rfl, rfl, .tr _⟩, ⟨_, rfl, rfl, rfl, .tr _⟩, trivial⟩, ⟨.op rfl, trivial⟩⟩⟩
  rintro ⟨⟩ -
  refine PC.ret ?_
  obtain rfl := some_in hh0
  exact FinA.mk (r := .agg [iA p_s.pages, .os 0 0 r1.length, .os 1 0 xs3.length]) (bl := [⟨.tr (eL r1), 3, 1⟩, ⟨.tr (eL xs3), 42, 2⟩]) [some 1, some 2] (.inl rfl) rfl (rl := [.cell 2 30]) (.cellN rfl rfl rfl rfl .nil) rfl rfl rfl (.aggL ⟨.t _, .os rfl, .os rfl, trivial⟩) ⟨⟨_, rfl, rfl, rfl, .tr _⟩, ⟨_, rfl, rfl, rfl, .tr _⟩, trivial⟩ ⟨rfl, rfl⟩

def m_S_HoldPage (N : Nat) (p_s : I_Space) (p_page : Int) (p_since : Int) : Option (I_Space × Bool) :=
  (m_S_validSpace N p_s).bind fun r1 =>
  cond r1
    ((m_S_copySpace N p_s).bind fun r4 =>
    (appM 16 r4.held [(I_Hold.mk p_page p_since)]).bind fun xs6 =>
    (m_S_validSpace N (I_Space.mk p_s.pages r4.free xs6)).bind fun r8 =>
    cond r8
      (some ((I_Space.mk p_s.pages r4.free xs6), true))
      (some ((I_Space.mk (0 : Int) ([] : List Int) ([] : List I_Hold)), false)))
    (some ((I_Space.mk (0 : Int) ([] : List Int) ([] : List I_Hold)), false))
theorem w_S_HoldPage (N : Nat) (p_s : I_Space) (p_page : Int) (p_since : Int) (r : I_Space × Bool) (hh0 : m_S_HoldPage N p_s p_page p_since = some r) : FnX Try.prog 27 [] [.agg [iA p_s.pages, sL p_s.free, sL p_s.held], iA p_page, iA p_since] (RE (.tup [.agg [iA r.1.pages, .os 0 0 r.1.free.length, .os 1 0 r.1.held.length], bA r.2]) [⟨.tr (eL r.1.free), 3, 1⟩, ⟨.tr (eL r.1.held), 42, 2⟩]) := by
  unfold m_S_HoldPage at hh0
  refine FnX.mk Try.func27 rfl rfl ?_
  intro s hs
  refine PC.seq ?_
  refine PC.region ?_
  refine PL.ef rfl (Ef.box rfl rfl rfl) ?_
  refine PL.nm (.op 0 0) [some ⟨.mx [iA p_s.pages, sL p_s.free, sL p_s.held], 30, 0⟩] rfl rfl ?_
  refine PL.ef rfl (Ef.alloc rfl rfl) ?_
  refine PL.nm (.op 1 0) [some ⟨.mx [iA p_s.pages, sL p_s.free, sL p_s.held], 30, 0⟩, some ⟨.mx [iA (0 : Int), .t (.v (.slice none 0 0)), .t (.v (.slice none 0 0))], 30, 0⟩] rfl rfl ?_
  refine PL.op rfl (Rd.asnT rfl) ?_
  refine PL.nil ?_
  refine thA_n ?_
  refine PC.seq ?_
  refine PC.seq ?_
  obtain ⟨r1, h_2, hh0⟩ := bind_some hh0
  refine PC.region ?_
  refine PL.op rfl (Rd.loadBox rfl rfl rfl) ?_
  refine PL.callM false [] (w_S_validSpace N p_s r1 h_2) rfl Try.call43 rfl ⟨.aggL ⟨.t _, .t _, .t _, trivial⟩, trivial⟩ rfl trivial (fun h => by cases h) ?_
  refine PL.op rfl (Rd.unnot rfl) ?_
  refine PL.nil ?_
  refine thA_n ?_
  rcases cond_some hh0 with ⟨h_3, hh0⟩ | ⟨h_3, hh0⟩
  rotate_left
  · refine PC.cond_true rfl (not_f h_3) ?_
    refine PC.seq ?_
    refine PC.region ?_
    refine PL.op rfl (Rd.build rfl rfl rfl rfl) ?_
    refine PL.store rfl rfl rfl rfl rfl rfl rfl ?_
    refine PL.op rfl (Rd.asnT rfl) ?_
    refine PL.nil ?_
    refine thA_n ?_
    refine PC.ret ?_
    refine thA_r ?_
    obtain rfl := some_in hh0
    exact FinA.mk (r := .tup [.agg [iA (((I_Space.mk (0 : Int) ([] : List Int) ([] : List I_Hold)), false).1.pages), .os 0 0 ((((I_Space.mk (0 : Int) ([] : List Int) ([] : List I_Hold)), false).1.free).length), .os 1 0 ((((I_Space.mk (0 : Int) ([] : List Int) ([] : List I_Hold)), false).1.held).length)], bA (((I_Space.mk (0 : Int) ([] : List Int) ([] : List I_Hold)), false).2)]) (bl := [⟨.tr (eL (((I_Space.mk (0 : Int) ([] : List Int) ([] : List I_Hold)), false).1.free)), 3, 1⟩, ⟨.tr (eL (((I_Space.mk (0 : Int) ([] : List Int) ([] : List I_Hold)), false).1.held)), 42, 2⟩]) [none, none] (.inl rfl) rfl (rl := [.cell 6 30, .tmp 7]) (.cellN rfl rfl rfl rfl (.tmp .nil)) rfl rfl rfl (.tupL ⟨.aggL ⟨.t _, .osn rfl, .osn rfl, trivial⟩, .t _, trivial⟩) ⟨ow_nil _, ow_nil _, trivial⟩ ⟨rfl, rfl⟩
  refine PC.cond_false rfl (not_t h_3) ?_
  refine PC.skip ?_
  refine thA_n ?_
  refine PC.seq ?_
  obtain ⟨r4, h_5, hh0⟩ := bind_some hh0
  refine PC.region ?_
  refine PL.op rfl (Rd.loadBox rfl rfl rfl) ?_
  refine PL.callM false [] (w_S_copySpace N p_s r4 h_5) rfl Try.call52 rfl ⟨.aggL ⟨.t _, .t _, .t _, trivial⟩, trivial⟩ rfl trivial (fun h => by cases h) ?_
  refine PL.nm (.agg [iA r4.pages, .os 2 0 r4.free.length, .os 3 0 r4.held.length]) [some ⟨.mx [iA p_s.pages, sL p_s.free, sL p_s.held], 30, 0⟩, some ⟨.mx [iA (0 : Int), .t (.v (.slice none 0 0)), .t (.v (.slice none 0 0))], 30, 0⟩, some ⟨.tr (eL r4.free), 3, 1⟩, some ⟨.tr (eL r4.held), 42, 2⟩] rfl rfl ?_
  refine PL.ef rfl (Ef.alloc rfl rfl) ?_
  refine PL.nm (.op 4 0) [some ⟨.mx [iA p_s.pages, sL p_s.free, sL p_s.held], 30, 0⟩, some ⟨.mx [iA (0 : Int), .t (.v (.slice none 0 0)), .t (.v (.slice none 0 0))], 30, 0⟩, some ⟨.tr (eL r4.free), 3, 1⟩, some ⟨.tr (eL r4.held), 42, 2⟩, some ⟨.mx [iA (0 : Int), .t (.v (.slice none 0 0)), .t (.v (.slice none 0 0))], 30, 0⟩] rfl rfl ?_
  refine PL.store rfl rfl rfl rfl rfl rfl rfl ?_
  refine PL.nO [some ⟨.mx [iA p_s.pages, sL p_s.free, sL p_s.held], 30, 0⟩, some ⟨.mx [iA (0 : Int), .t (.v (.slice none 0 0)), .t (.v (.slice none 0 0))], 30, 0⟩, some ⟨.tr (eL r4.free), 3, 1⟩, some ⟨.tr (eL r4.held), 42, 2⟩, some ⟨.mx [iA r4.pages, .os 2 0 r4.free.length, .os 3 0 r4.held.length], 30, 0⟩] rfl ?_
  refine PL.nil ?_
  refine thA_n ?_
  refine PC.seq ?_
  obtain ⟨xs6, h_7, hh0⟩ := bind_some hh0
  refine PC.region ?_
  refine PL.op rfl (Rd.fieldO rfl rfl) ?_
  refine PL.op rfl (Rd.loadO rfl rfl rfl) ?_
  refine PL.op rfl (Rd.moveT rfl) ?_
  refine PL.op rfl (Rd.moveT rfl) ?_
  refine PL.op rfl (Rd.build rfl rfl rfl rfl) ?_
  refine PL.ef rfl (Ef.litM (α := I_Hold) [(I_Hold.mk p_page p_since)] [_] rfl rfl (by decide) rfl rfl rfl rfl) ?_
  refine PL.nm (.os 5 0 1) [some ⟨.mx [iA p_s.pages, sL p_s.free, sL p_s.held], 30, 0⟩, some ⟨.mx [iA (0 : Int), .t (.v (.slice none 0 0)), .t (.v (.slice none 0 0))], 30, 0⟩, some ⟨.tr (eL r4.free), 3, 1⟩, some ⟨.tr (eL r4.held), 42, 2⟩, some ⟨.mx [iA r4.pages, .os 2 0 r4.free.length, .os 3 0 r4.held.length], 30, 0⟩, some ⟨.tr (eL [(I_Hold.mk p_page p_since)]), 42, 2⟩] rfl rfl ?_
  refine PL.apM hs rfl rfl rfl rfl (SrcA.ownE rfl rfl rfl) rfl rfl rfl rfl h_7 ?_
  refine PL.nm (.os 6 0 xs6.length) [some ⟨.mx [iA p_s.pages, sL p_s.free, sL p_s.held], 30, 0⟩, some ⟨.mx [iA (0 : Int), .t (.v (.slice none 0 0)), .t (.v (.slice none 0 0))], 30, 0⟩, some ⟨.tr (eL r4.free), 3, 1⟩, none, some ⟨.mx [iA r4.pages, .os 2 0 r4.free.length, .os 3 0 r4.held.length], 30, 0⟩, some ⟨.tr (eL [(I_Hold.mk p_page p_since)]), 42, 2⟩, some ⟨.tr (eL xs6), 42, 2⟩] rfl rfl ?_
  refine PL.op rfl (Rd.asnO rfl) ?_
  refine PL.nil ?_
  refine thA_n ?_
  refine PC.seq ?_
  refine PC.region ?_
  refine PL.op rfl (Rd.fieldO rfl rfl) ?_
  refine PL.op rfl (Rd.loadO rfl rfl rfl) ?_
  refine PL.op rfl (Rd.fieldO rfl rfl) ?_
  refine PL.op rfl (Rd.loadO rfl rfl rfl) ?_
  refine PL.op rfl (Rd.moveO rfl) ?_
  refine PL.op rfl (Rd.build rfl rfl rfl rfl) ?_
  refine PL.ef rfl (Ef.alloc rfl rfl) ?_
  refine PL.nm (.op 7 0) [some ⟨.mx [iA p_s.pages, sL p_s.free, sL p_s.held], 30, 0⟩, some ⟨.mx [iA (0 : Int), .t (.v (.slice none 0 0)), .t (.v (.slice none 0 0))], 30, 0⟩, some ⟨.tr (eL r4.free), 3, 1⟩, none, some ⟨.mx [iA r4.pages, .os 2 0 r4.free.length, .os 3 0 r4.held.length], 30, 0⟩, some ⟨.tr (eL [(I_Hold.mk p_page p_since)]), 42, 2⟩, some ⟨.tr (eL xs6), 42, 2⟩, some ⟨.mx [iA (0 : Int), .t (.v (.slice none 0 0)), .t (.v (.slice none 0 0))], 30, 0⟩] rfl rfl ?_
  refine PL.store rfl rfl rfl rfl rfl rfl rfl ?_
  refine PL.nO [some ⟨.mx [iA p_s.pages, sL p_s.free, sL p_s.held], 30, 0⟩, some ⟨.mx [iA (0 : Int), .t (.v (.slice none 0 0)), .t (.v (.slice none 0 0))], 30, 0⟩, some ⟨.tr (eL r4.free), 3, 1⟩, none, some ⟨.mx [iA r4.pages, .os 2 0 r4.free.length, .os 3 0 r4.held.length], 30, 0⟩, some ⟨.tr (eL [(I_Hold.mk p_page p_since)]), 42, 2⟩, some ⟨.tr (eL xs6), 42, 2⟩, some ⟨.mx [iA p_s.pages, .os 2 0 r4.free.length, .os 6 0 xs6.length], 30, 0⟩] rfl ?_
  refine PL.nil ?_
  refine thA_n ?_
  refine PC.seq ?_
  refine PC.seq ?_
  obtain ⟨r8, h_9, hh0⟩ := bind_some hh0
  refine PC.region ?_
  refine PL.op rfl (Rd.loadBox rfl rfl rfl) ?_
  refine PL.callM true [] (w_S_validSpace N (I_Space.mk p_s.pages r4.free xs6) r8 h_9) rfl Try.call43 rfl ⟨.aggL ⟨.t _, .own rfl (by first | decide | exact List.not_mem_nil) rfl rfl, .own rfl (by first | decide | exact List.not_mem_nil) rfl rfl, trivial⟩, trivial⟩ rfl trivial (fun _ => ⟨trivial, flat_nil⟩) ?_
  refine PL.op rfl (Rd.unnot rfl) ?_
  refine PL.nil ?_
  refine thA_n ?_
  rcases cond_some hh0 with ⟨h_10, hh0⟩ | ⟨h_10, hh0⟩
  rotate_left
  · refine PC.cond_true rfl (not_f h_10) ?_
    refine PC.seq ?_
    refine PC.region ?_
    refine PL.op rfl (Rd.build rfl rfl rfl rfl) ?_
    refine PL.store rfl rfl rfl rfl rfl rfl rfl ?_
    refine PL.op rfl (Rd.asnT rfl) ?_
    refine PL.nil ?_
    refine thA_n ?_
    refine PC.ret ?_
    refine thA_r ?_
    obtain rfl := some_in hh0
    exact FinA.mk (r := .tup [.agg [iA (((I_Space.mk (0 : Int) ([] : List Int) ([] : List I_Hold)), false).1.pages), .os 0 0 ((((I_Space.mk (0 : Int) ([] : List Int) ([] : List I_Hold)), false).1.free).length), .os 1 0 ((((I_Space.mk (0 : Int) ([] : List Int) ([] : List I_Hold)), false).1.held).length)], bA (((I_Space.mk (0 : Int) ([] : List Int) ([] : List I_Hold)), false).2)]) (bl := [⟨.tr (eL (((I_Space.mk (0 : Int) ([] : List Int) ([] : List I_Hold)), false).1.free)), 3, 1⟩, ⟨.tr (eL (((I_Space.mk (0 : Int) ([] : List Int) ([] : List I_Hold)), false).1.held)), 42, 2⟩]) [none, none] (.inl rfl) rfl (rl := [.cell 6 30, .tmp 7]) (.cellN rfl rfl rfl rfl (.tmp .nil)) rfl rfl rfl (.tupL ⟨.aggL ⟨.t _, .osn rfl, .osn rfl, trivial⟩, .t _, trivial⟩) ⟨ow_nil _, ow_nil _, trivial⟩ ⟨rfl, rfl⟩
  refine PC.cond_false rfl (not_t h_10) ?_
  refine PC.skip ?_
  refine thA_n ?_
  refine PC.seq ?_
  refine PC.region ?_
  refine PL.op rfl (Rd.loadBox rfl rfl rfl) ?_
  refine PL.store rfl rfl rfl rfl rfl rfl rfl ?_
  refine PL.nO [some ⟨.mx [iA p_s.pages, sL p_s.free, sL p_s.held], 30, 0⟩, some ⟨.mx [iA p_s.pages, .os 2 0 r4.free.length, .os 6 0 xs6.length], 30, 0⟩, some ⟨.tr (eL r4.free), 3, 1⟩, none, some ⟨.mx [iA r4.pages, .os 2 0 r4.free.length, .os 3 0 r4.held.length], 30, 0⟩, some ⟨.tr (eL [(I_Hold.mk p_page p_since)]), 42, 2⟩, some ⟨.tr (eL xs6), 42, 2⟩, some ⟨.mx [iA p_s.pages, .os 2 0 r4.free.length, .os 6 0 xs6.length], 30, 0⟩] rfl ?_
  refine PL.op rfl (Rd.asnT rfl) ?_
  refine PL.nil ?_
  refine thA_n ?_
  refine PC.ret ?_
  obtain rfl := some_in hh0
  exact FinA.mk (r := .tup [.agg [iA (((I_Space.mk p_s.pages r4.free xs6), true).1.pages), .os 0 0 ((((I_Space.mk p_s.pages r4.free xs6), true).1.free).length), .os 1 0 ((((I_Space.mk p_s.pages r4.free xs6), true).1.held).length)], bA (((I_Space.mk p_s.pages r4.free xs6), true).2)]) (bl := [⟨.tr (eL (((I_Space.mk p_s.pages r4.free xs6), true).1.free)), 3, 1⟩, ⟨.tr (eL (((I_Space.mk p_s.pages r4.free xs6), true).1.held)), 42, 2⟩]) [some 2, some 6] (.inl rfl) rfl (rl := [.cell 6 30, .tmp 7]) (.cellN rfl rfl rfl rfl (.tmp .nil)) rfl rfl rfl (.tupL ⟨.aggL ⟨.t _, .os rfl, .os rfl, trivial⟩, .t _, trivial⟩) ⟨⟨_, rfl, rfl, rfl, .tr _⟩, ⟨_, rfl, rfl, rfl, .tr _⟩, trivial⟩ ⟨rfl, rfl⟩

def m_S_PagesInUse_k2 (N : Nat) (v40 : (List Int)) : Option ((List Int)) :=
  some v40
def m_S_PagesInUse_k3 (N : Nat) (used4 : Int) (v5 : (List Int)) (i59 : Bool) : Option ((Int × (List Int)) ⊕ (List Int)) :=
  cond i59
    ((appM 8 v5 [used4]).bind fun xs66 =>
    (chk (used4 + (1 : Int))).bind fun n68 =>
    some (.inl (n68, xs66)))
    ((chk (used4 + (1 : Int))).bind fun n70 =>
    some (.inl (n70, v5)))
def m_S_PagesInUse_b3 (N : Nat) (p_s : I_Space) (used4 : Int) (i49 : Bool) (i50 : Int) : Option ((Bool × Int) ⊕ Bool) :=
  cond (decide (i50 < (p_s.held.length : Int)))
    (cond i49
      ((ixI p_s.held i50).bind fun x74 =>
      (chk (i50 + (1 : Int))).bind fun n76 =>
      some (.inl ((!decide (x74.page = used4)), n76)))
      ((chk (i50 + (1 : Int))).bind fun n78 =>
      some (.inl (false, n78))))
    (some (.inr i49))
def m_S_PagesInUse_b2 (N : Nat) (p_s : I_Space) (used4 : Int) (v5 : (List Int)) : Option ((Int × (List Int)) ⊕ (List Int)) :=
  cond (decide (used4 < p_s.pages))
    ((m_S_isIn N p_s.free used4).bind fun r47 =>
    (loopM (β := Bool) (fun s : Bool × Int => m_S_PagesInUse_b3 N p_s used4 s.1 s.2) N ((!r47), (0 : Int))).bind fun e =>
    m_S_PagesInUse_k3 N used4 v5 e)
    (some (.inr v5))
def m_S_PagesInUse (N : Nat) (p_s : I_Space) : Option ((List Int)) :=
  (m_S_validSpace N p_s).bind fun r1 =>
  cond r1
    ((loopM (β := (List Int)) (fun s : Int × (List Int) => m_S_PagesInUse_b2 N p_s s.1 s.2) N ((0 : Int), ([] : List Int))).bind fun e =>
    m_S_PagesInUse_k2 N e)
    (some ([] : List Int))
theorem w_S_PagesInUse (N : Nat) (p_s : I_Space) (r : (List Int)) (hh0 : m_S_PagesInUse N p_s = some r) : FnX Try.prog 19 [] [.agg [iA p_s.pages, sL p_s.free, sL p_s.held]] (RE (.os 0 0 r.length) [⟨.tr (eL r), 3, 1⟩]) := by
  unfold m_S_PagesInUse at hh0
  refine FnX.mk Try.func19 rfl rfl ?_
  intro s hs
  refine PC.seq ?_
  refine PC.region ?_
  refine PL.ef rfl (Ef.box rfl rfl rfl) ?_
  refine PL.nm (.op 0 0) [some ⟨.mx [iA p_s.pages, sL p_s.free, sL p_s.held], 30, 0⟩] rfl rfl ?_
  refine PL.op rfl (Rd.asnT rfl) ?_
  refine PL.nil ?_
  refine thA_n ?_
  refine PC.seq ?_
  refine PC.region ?_
  refine PL.ef rfl (Ef.lit0M Int) ?_
  refine PL.nm (.os 1 0 0) [some ⟨.mx [iA p_s.pages, sL p_s.free, sL p_s.held], 30, 0⟩, some ⟨.tr (eL ([] : List Int)), 3, 1⟩] rfl rfl ?_
  refine PL.op rfl (Rd.asnO rfl) ?_
  refine PL.nil ?_
  refine thA_n ?_
  refine PC.seq ?_
  refine PC.seq ?_
  obtain ⟨r1, h_2, hh0⟩ := bind_some hh0
  refine PC.region ?_
  refine PL.op rfl (Rd.loadBox rfl rfl rfl) ?_
  refine PL.callM false [] (w_S_validSpace N p_s r1 h_2) rfl Try.call43 rfl ⟨.aggL ⟨.t _, .t _, .t _, trivial⟩, trivial⟩ rfl trivial (fun h => by cases h) ?_
  refine PL.op rfl (Rd.unnot rfl) ?_
  refine PL.nil ?_
  refine thA_n ?_
  rcases cond_some hh0 with ⟨h_3, hh0⟩ | ⟨h_3, hh0⟩
  rotate_left
  · refine PC.cond_true rfl (not_f h_3) ?_
    refine PC.seq ?_
    refine PC.region ?_
    refine PL.op rfl (Rd.asnT rfl) ?_
    refine PL.nil ?_
    refine thA_n ?_
    refine PC.ret ?_
    refine thA_r ?_
    obtain rfl := some_in hh0
    exact FinA.mk (r := .os 0 0 0) (bl := [⟨.tr (eL ([] : List Int)), 3, 1⟩]) [none] (.inl rfl) rfl (rl := [.tmp 2]) (.tmp .nil) rfl rfl rfl (.osn rfl) ⟨ow_nil _, trivial⟩ ⟨rfl, rfl⟩
  refine PC.cond_false rfl (not_t h_3) ?_
  refine PC.skip ?_
  refine thA_n ?_
  refine PC.seq ?_
  refine PC.seq ?_
  refine PC.region ?_
  refine PL.op rfl (Rd.asnT rfl) ?_
  refine PL.nil ?_
  refine thA_n ?_
  obtain ⟨o41, h_42, hh0⟩ := bind_some hh0
  refine PC.cutE hs (fun x : (List Int) => [(3, .os 0 0 x.length)]) (fun x => [⟨.tr (eL x), 3, 1⟩]) (fun x => m_S_PagesInUse_k2 N x = some r) ?_ ?_
  · refine PC.block ?_
    refine PC.loop hs (fun x : Nat × (Int × (List Int)) => [(1, .op 0 0), (3, .os 1 0 x.2.2.length), (4, iA x.2.1)]) (fun x => [⟨.mx [iA p_s.pages, sL p_s.free, sL p_s.held], 30, 0⟩, ⟨.tr (eL x.2.2), 3, 1⟩]) (fun x => loopM (β := (List Int)) (fun s : Int × (List Int) => m_S_PagesInUse_b2 N p_s s.1 s.2) x.1 x.2 = some o41) (fun x => x.1) (N, ((0 : Int), ([] : List Int))) [some 0, some 1] ⟨rfl, rfl, ⟨⟨_, rfl, rfl, rfl, .mx ⟨.t _, .t _, .t _, trivial⟩⟩, ⟨_, rfl, rfl, rfl, .tr _⟩, trivial⟩, ⟨.op rfl, .os rfl, .t _, trivial⟩⟩ h_42 ?_
    rintro ⟨f43_, used4, v5⟩ h_45
    obtain ⟨f43, y44, rfl, hh1, kk1⟩ := loopM_some h_45
    replace hh1 : m_S_PagesInUse_b2 N p_s used4 v5 = some y44 := hh1
    unfold m_S_PagesInUse_b2 at hh1
    refine PC.seq ?_
    refine PC.seq ?_
    refine PC.region ?_
    refine PL.op rfl (Rd.moveT rfl) ?_
    refine PL.op rfl (Rd.fieldO rfl rfl) ?_
    refine PL.op rfl (Rd.loadO rfl rfl rfl) ?_
    refine PL.op rfl (Rd.lss rfl rfl) ?_
    refine PL.nil ?_
    refine thA_n ?_
    rcases cond_some hh1 with ⟨h_46, hh1⟩ | ⟨h_46, hh1⟩
    rotate_left
    · refine PC.cond_false rfl h_46 ?_
      refine PC.exit ?_
      refine thA_e ?_
      refine thA_e ?_
      refine inA_eq rfl ?_
      refine thA_n ?_
      obtain rfl := some_in hh1
      obtain rfl : (v5 : (List Int)) = o41 := kk1
      exact ⟨v5, hh0, [some 1], ⟨rfl, rfl, ⟨⟨_, rfl, rfl, rfl, .tr _⟩, trivial⟩, ⟨.os rfl, trivial⟩⟩⟩
    refine PC.cond_true rfl h_46 ?_
    refine PC.skip ?_
    refine thA_n ?_
    refine PC.seq ?_
    refine PC.block ?_
    refine PC.seq ?_
    obtain ⟨r47, h_48, hh1⟩ := bind_some hh1
    refine PC.region ?_
    refine PL.op rfl (Rd.fieldO rfl rfl) ?_
    refine PL.op rfl (Rd.loadO rfl rfl rfl) ?_
    refine PL.op rfl (Rd.moveT rfl) ?_
    refine PL.callM false [] (w_S_isIn N p_s.free used4 r47 h_48) rfl Try.call48 rfl ⟨.t _, .t _, trivial⟩ rfl trivial (fun h => by cases h) ?_
    refine PL.op rfl (Rd.unnot rfl) ?_
    refine PL.op rfl (Rd.asnT rfl) ?_
    refine PL.nil ?_
    refine thA_n ?_
    refine PC.seq ?_
    refine PC.seq ?_
    refine PC.region ?_
    refine PL.op rfl (Rd.asnT rfl) ?_
    refine PL.nil ?_
    refine thA_n ?_
    obtain ⟨o60, h_61, hh1⟩ := bind_some hh1
    refine PC.cutE hs (fun x : Bool => [(1, .op 0 0), (3, .os 1 0 v5.length), (4, iA used4), (5, bA x)]) (fun x => [⟨.mx [iA p_s.pages, sL p_s.free, sL p_s.held], 30, 0⟩, ⟨.tr (eL v5), 3, 1⟩]) (fun x => m_S_PagesInUse_k3 N used4 v5 x = some y44) ?_ ?_
    · refine PC.block ?_
      refine PC.loop hs (fun x : Nat × (Bool × Int) => [(1, .op 0 0), (3, .os 1 0 v5.length), (4, iA used4), (5, bA x.2.1), (6, iA x.2.2)]) (fun x => [⟨.mx [iA p_s.pages, sL p_s.free, sL p_s.held], 30, 0⟩, ⟨.tr (eL v5), 3, 1⟩]) (fun x => loopM (β := Bool) (fun s : Bool × Int => m_S_PagesInUse_b3 N p_s used4 s.1 s.2) x.1 x.2 = some o60) (fun x => x.1) (N, ((!r47), (0 : Int))) [some 0, some 1] ⟨rfl, rfl, ⟨⟨_, rfl, rfl, rfl, .mx ⟨.t _, .t _, .t _, trivial⟩⟩, ⟨_, rfl, rfl, rfl, .tr _⟩, trivial⟩, ⟨.op rfl, .os rfl, .t _, .t _, .t _, trivial⟩⟩ h_61 ?_
      rintro ⟨f62_, i49, i50⟩ h_64
      obtain ⟨f62, y63, rfl, hh2, kk2⟩ := loopM_some h_64
      replace hh2 : m_S_PagesInUse_b3 N p_s used4 i49 i50 = some y63 := hh2
      unfold m_S_PagesInUse_b3 at hh2
      refine PC.seq ?_
      refine PC.seq ?_
      refine PC.region ?_
      refine PL.op rfl (Rd.moveT rfl) ?_
      refine PL.op rfl (Rd.fieldO rfl rfl) ?_
      refine PL.op rfl (Rd.loadO rfl rfl rfl) ?_
      refine PL.op rfl (Rd.lenT rfl) ?_
      refine PL.op rfl (Rd.lss rfl rfl) ?_
      refine PL.nil ?_
      refine thA_n ?_
      rcases cond_some hh2 with ⟨h_72, hh2⟩ | ⟨h_72, hh2⟩
      rotate_left
      · refine PC.cond_false rfl h_72 ?_
        refine PC.exit ?_
        refine thA_e ?_
        refine thA_e ?_
        refine inA_eq rfl ?_
        refine thA_n ?_
        obtain rfl := some_in hh2
        obtain rfl : (i49 : Bool) = o60 := kk2
        exact ⟨i49, hh1, [some 0, some 1], ⟨rfl, rfl, ⟨⟨_, rfl, rfl, rfl, .mx ⟨.t _, .t _, .t _, trivial⟩⟩, ⟨_, rfl, rfl, rfl, .tr _⟩, trivial⟩, ⟨.op rfl, .os rfl, .t _, .t _, trivial⟩⟩⟩
      refine PC.cond_true rfl h_72 ?_
      refine PC.skip ?_
      refine thA_n ?_
      refine PC.seq ?_
      refine PC.block ?_
      rcases cond_some hh2 with ⟨h_73, hh2⟩ | ⟨h_73, hh2⟩
      rotate_left
      · refine PC.region ?_
        refine PL.op rfl (Rd.moveT rfl) ?_
        refine PL.op rfl (Rd.moveT rfl) ?_
        refine PL.guard_off rfl rfl h_73 ?_
        refine PL.guard_off rfl rfl h_73 ?_
        refine PL.guard_off rfl rfl h_73 ?_
        refine PL.guard_off rfl rfl h_73 ?_
        refine PL.guard_off rfl rfl h_73 ?_
        refine PL.guard_off rfl rfl h_73 ?_
        refine PL.guard_off rfl rfl h_73 ?_
        refine PL.guard_off rfl rfl h_73 ?_
        refine PL.op rfl (Rd.pick_f rfl h_73) ?_
        refine PL.op rfl (Rd.asnT rfl) ?_
        refine PL.nil ?_
        refine inA_n ?_
        refine thA_n ?_
        obtain ⟨n78, h_79, hh2⟩ := bind_some hh2
        refine PC.region ?_
        refine PL.op rfl (Rd.moveT rfl) ?_
        refine PL.op rfl (Rd.addM rfl rfl h_79) ?_
        refine PL.op rfl (Rd.asnT rfl) ?_
        refine PL.nil ?_
        obtain rfl := some_in hh2
        refine thA_n ?_
        exact ⟨(f62, (false, n78)), Nat.lt_succ_self _, kk2, [some 0, some 1], ⟨rfl, rfl, ⟨⟨_, rfl, rfl, rfl, .mx ⟨.t _, .t _, .t _, trivial⟩⟩, ⟨_, rfl, rfl, rfl, .tr _⟩, trivial⟩, ⟨.op rfl, .os rfl, .t _, .t _, .t _, trivial⟩⟩⟩
      obtain ⟨x74, h_75, hh2⟩ := bind_some hh2
      refine PC.region ?_
      refine PL.op rfl (Rd.moveT rfl) ?_
      refine PL.op rfl (Rd.moveT rfl) ?_
      refine PL.guard_on rfl h_73 ?_
      refine PL.op rfl (Rd.fieldO rfl rfl) ?_
      refine PL.guard_on rfl h_73 ?_
      refine PL.op rfl (Rd.loadO rfl rfl rfl) ?_
      refine PL.guard_on rfl h_73 ?_
      refine PL.op rfl (Rd.moveT rfl) ?_
      refine PL.guard_on rfl h_73 ?_
      refine PL.op rfl (Rd.ixM rfl rfl h_75) ?_
      refine PL.guard_on rfl h_73 ?_
      refine PL.op rfl (Rd.fieldT rfl) ?_
      refine PL.guard_on rfl h_73 ?_
      refine PL.op rfl (Rd.elMF (f := 0) rfl h_75 rfl rfl) ?_
      refine PL.guard_on rfl h_73 ?_
      refine PL.op rfl (Rd.moveT rfl) ?_
      refine PL.guard_on rfl h_73 ?_
      refine PL.op rfl (Rd.neq rfl rfl) ?_
      refine PL.op rfl (Rd.pick_t rfl h_73) ?_
      refine PL.op rfl (Rd.asnT rfl) ?_
      refine PL.nil ?_
      refine inA_n ?_
      refine thA_n ?_
      obtain ⟨n76, h_77, hh2⟩ := bind_some hh2
      refine PC.region ?_
      refine PL.op rfl (Rd.moveT rfl) ?_
      refine PL.op rfl (Rd.addM rfl rfl h_77) ?_
      refine PL.op rfl (Rd.asnT rfl) ?_
      refine PL.nil ?_
      obtain rfl := some_in hh2
      refine thA_n ?_
      exact ⟨(f62, ((!decide (x74.page = used4)), n76)), Nat.lt_succ_self _, kk2, [some 0, some 1], ⟨rfl, rfl, ⟨⟨_, rfl, rfl, rfl, .mx ⟨.t _, .t _, .t _, trivial⟩⟩, ⟨_, rfl, rfl, rfl, .tr _⟩, trivial⟩, ⟨.op rfl, .os rfl, .t _, .t _, .t _, trivial⟩⟩⟩
    clear hh1
    rintro i59 hh1
    replace hh1 : m_S_PagesInUse_k3 N used4 v5 i59 = some y44 := hh1
    unfold m_S_PagesInUse_k3 at hh1
    refine thA_n ?_
    refine PC.seq ?_
    refine PC.region ?_
    refine PL.op rfl (Rd.moveT rfl) ?_
    refine PL.nil ?_
    refine thA_n ?_
    rcases cond_some hh1 with ⟨h_65, hh1⟩ | ⟨h_65, hh1⟩
    rotate_left
    · refine PC.cond_false rfl h_65 ?_
      refine PC.skip ?_
      refine inA_n ?_
      refine thA_n ?_
      obtain ⟨n70, h_71, hh1⟩ := bind_some hh1
      refine PC.region ?_
      refine PL.op rfl (Rd.moveT rfl) ?_
      refine PL.op rfl (Rd.addM rfl rfl h_71) ?_
      refine PL.op rfl (Rd.asnT rfl) ?_
      refine PL.nil ?_
      obtain rfl := some_in hh1
      refine thA_n ?_
      exact ⟨(f43, (n70, v5)), Nat.lt_succ_self _, kk1, [some 0, some 1], ⟨rfl, rfl, ⟨⟨_, rfl, rfl, rfl, .mx ⟨.t _, .t _, .t _, trivial⟩⟩, ⟨_, rfl, rfl, rfl, .tr _⟩, trivial⟩, ⟨.op rfl, .os rfl, .t _, trivial⟩⟩⟩
    refine PC.cond_true rfl h_65 ?_
    obtain ⟨xs66, h_67, hh1⟩ := bind_some hh1
    refine PC.region ?_
    refine PL.op rfl (Rd.moveO rfl) ?_
    refine PL.op rfl (Rd.moveT rfl) ?_
    refine PL.ef rfl (Ef.litM (α := Int) [used4] [_] rfl rfl (by decide) rfl rfl rfl rfl) ?_
    refine PL.nm (.os 2 0 1) [some ⟨.mx [iA p_s.pages, sL p_s.free, sL p_s.held], 30, 0⟩, some ⟨.tr (eL v5), 3, 1⟩, some ⟨.tr (eL [used4]), 3, 1⟩] rfl rfl ?_
    refine PL.apM hs rfl rfl rfl rfl (SrcA.ownE rfl rfl rfl) rfl rfl rfl rfl h_67 ?_
    refine PL.nm (.os 3 0 xs66.length) [some ⟨.mx [iA p_s.pages, sL p_s.free, sL p_s.held], 30, 0⟩, none, some ⟨.tr (eL [used4]), 3, 1⟩, some ⟨.tr (eL xs66), 3, 1⟩] rfl rfl ?_
    refine PL.op rfl (Rd.asnO rfl) ?_
    refine PL.nil ?_
    refine inA_n ?_
    refine thA_n ?_
    obtain ⟨n68, h_69, hh1⟩ := bind_some hh1
    refine PC.region ?_
    refine PL.op rfl (Rd.moveT rfl) ?_
    refine PL.op rfl (Rd.addM rfl rfl h_69) ?_
    refine PL.op rfl (Rd.asnT rfl) ?_
    refine PL.nil ?_
    obtain rfl := some_in hh1
    refine thA_n ?_
    exact ⟨(f43, (n68, xs66)), Nat.lt_succ_self _, kk1, [some 0, some 3], ⟨rfl, rfl, ⟨⟨_, rfl, rfl, rfl, .mx ⟨.t _, .t _, .t _, trivial⟩⟩, ⟨_, rfl, rfl, rfl, .tr _⟩, trivial⟩, ⟨.op rfl, .os rfl, .t _, trivial⟩⟩⟩
  clear hh0
  rintro v40 hh0
  replace hh0 : m_S_PagesInUse_k2 N v40 = some r := hh0
  unfold m_S_PagesInUse_k2 at hh0
  refine thA_n ?_
  refine PC.seq ?_
  refine PC.region ?_
  refine PL.op rfl (Rd.moveO rfl) ?_
  refine PL.op rfl (Rd.asnO rfl) ?_
  refine PL.nil ?_
  refine thA_n ?_
  refine PC.ret ?_
  obtain rfl := some_in hh0
  exact FinA.mk (r := .os 0 0 v40.length) (bl := [⟨.tr (eL v40), 3, 1⟩]) [some 0] (.inl rfl) rfl (rl := [.tmp 2]) (.tmp .nil) rfl rfl rfl (.os rfl) ⟨⟨_, rfl, rfl, rfl, .tr _⟩, trivial⟩ ⟨rfl, rfl⟩

end V
end Go.Proofs.Ytambkpacecjheaa
