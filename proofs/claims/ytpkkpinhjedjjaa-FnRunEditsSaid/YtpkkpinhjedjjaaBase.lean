/- Contracts of the helpers that many functions share. No condition but that lengths are those of memory. -/
import Derived.Test.YtpkkpinhjedjjaaLibF
namespace Go.Proofs.Ytpkkpinhjedjjaa
namespace V
open Flat (enc)
set_option linter.unusedVariables false
set_option linter.unusedSimpArgs false
open Go.RowKit
attribute [local irreducible] GrF Gr SlF SlG OwF fl

theorem inRange_any (n lo hi : Int) (w : World) :
    Calls Try.prog 35 #[.int .i64 n, .int .i64 lo, .int .i64 hi] w fun e w' => e = .returned (.bool (decide (lo ≤ n ∧ n ≤ hi))) ∧ Below w.heap.size w w' := by
  have S := Now.init w
  refine calls Try.func35 rfl rfl ?_
  repeat' (first
    | (refine LW.kOp ?_; (first | (refine LW.kGu ?_; (first | refine LW.guard_on rfl rfl ?_ | refine LW.guard_off rfl rfl rfl ?_ | refine LW.guard_on rfl (by assumption) ?_ | refine LW.guard_off rfl rfl (by assumption) ?_ | (refine LW.guard rfl rfl ?_ ?_ <;> (intro h; have h1 := h; (try simp only [decide_eq_true_eq, decide_eq_false_iff_not, Bool.not_eq_true', Bool.not_eq_false', Bool.and_eq_true, Bool.or_eq_true, Bool.and_eq_false_iff, Bool.or_eq_false_iff, Bool.not_true, Bool.not_false, Int.not_lt, Int.not_le, Bool.not_eq_eq_eq_not, reduceCtorEq] at h1); (try (exfalso; omega)))))) | (refine LW.kBin ?_; (first | refine LW.op rfl (R.leq rfl rfl) ?_)) | (refine LW.kCal ?_; (first | fail)) | (refine LW.kBui ?_; (first | fail)) | (refine LW.kLoad ?_; (first | fail)) | (refine LW.kStore ?_; (first | fail)) | (refine LW.kIx ?_; (first | fail)) | refine LW.op rfl (R.moveI rfl) ?_ | refine LW.op rfl (R.moveS rfl) ?_ | refine LW.op rfl (R.moveP rfl) ?_ | refine LW.op rfl (R.moveB rfl) ?_ | refine LW.op rfl (R.moveT rfl) ?_ | refine LW.op rfl (R.moveA rfl) ?_ | refine LW.op rfl (R.moveU rfl) ?_ | refine LW.op rfl (R.assignI rfl) ?_ | refine LW.op rfl (R.assignS rfl) ?_ | refine LW.op rfl (R.assignP rfl) ?_ | refine LW.op rfl (R.assignB rfl) ?_ | refine LW.op rfl (R.assignT rfl) ?_ | refine LW.op rfl (R.assignA rfl) ?_ | refine LW.op rfl (R.assignU rfl) ?_ | refine LW.op rfl (R.move) ?_ | refine LW.op rfl (R.assign) ?_ | refine LW.op rfl (R.pick_t rfl rfl) ?_ | refine LW.op rfl (R.pick_f rfl rfl) ?_ | refine LW.op rfl (R.pick_t rfl (by assumption)) ?_ | refine LW.op rfl (R.pick_f rfl (by assumption)) ?_))
    | refine CW.seq ?_
    | refine CW.block ?_
    | refine CW.region ?_
    | refine CW.skip ?_
    | refine CW.exit ?_
    | refine CW.ret ?_
    | refine LW.nil ?_
    | refine thn_n ?_
    | refine thn_r ?_
    | refine thn_e ?_
    | refine inB_n ?_
    | refine inB_r ?_
    | refine inB_eq rfl ?_
    | refine inB_ne rfl ?_
    | refine CW.cond_true rfl rfl ?_
    | refine CW.cond_false rfl rfl ?_
    | refine CW.cond_true rfl (by assumption) ?_
    | refine CW.cond_false rfl (by assumption) ?_
    | (refine CW.cond rfl ?_ ?_ <;> (intro h; have h1 := h; (try simp only [decide_eq_true_eq, decide_eq_false_iff_not, Bool.not_eq_true', Bool.not_eq_false', Bool.and_eq_true, Bool.or_eq_true, Bool.and_eq_false_iff, Bool.or_eq_false_iff, Bool.not_true, Bool.not_false, Int.not_lt, Int.not_le, Bool.not_eq_eq_eq_not, reduceCtorEq] at h1); (try (exfalso; omega)))))
  all_goals (refine Fin.bool rfl (.inl rfl) S rfl ?_; grind)
theorem allIn_any (a : Option Addr) (cap : Nat) (s : List Int) (lo hi : Int) (w : World) (hs : SlF 0 w.heap.size w a s) (hl : s.length ≤ 140737488355328) :
    Calls Try.prog 36 #[.slice a s.length cap, .int .i64 lo, .int .i64 hi] w fun e w' => e = .returned (.bool (decide (∀ n ∈ s, lo ≤ n ∧ n ≤ hi))) ∧ Below w.heap.size w w' := by
  have S := Now.init w
  refine calls Try.func36 rfl rfl ?_
  repeat' (first
    | (refine LW.kOp ?_; (first | (refine LW.kGu ?_; (first | refine LW.guard_on rfl rfl ?_ | refine LW.guard_off rfl rfl rfl ?_ | refine LW.guard_on rfl (by assumption) ?_ | refine LW.guard_off rfl rfl (by assumption) ?_ | (refine LW.guard rfl rfl ?_ ?_ <;> (intro h; have h1 := h; (try simp only [decide_eq_true_eq, decide_eq_false_iff_not, Bool.not_eq_true', Bool.not_eq_false', Bool.and_eq_true, Bool.or_eq_true, Bool.and_eq_false_iff, Bool.or_eq_false_iff, Bool.not_true, Bool.not_false, Int.not_lt, Int.not_le, Bool.not_eq_eq_eq_not, reduceCtorEq] at h1); (try (exfalso; omega)))))) | (refine LW.kBin ?_; (first | refine LW.op rfl (R.lss rfl rfl) ?_ | refine LW.op rfl (R.lssS rfl rfl) ?_ | refine LW.op rfl (R.add rfl rfl (by omega)) ?_)) | (refine LW.kCal ?_; (first | fail)) | (refine LW.kBui ?_; (first | refine LW.op rfl (R.lenSl rfl) ?_ | refine LW.op rfl (R.lenSt rfl) ?_)) | (refine LW.kLoad ?_; (first | refine LW.op rfl (R.loadOwn S 0 rfl rfl rfl) ?_ | refine LW.op rfl (R.loadOwn S 1 rfl rfl rfl) ?_ | refine LW.op rfl (R.loadOwn S 2 rfl rfl rfl) ?_ | refine LW.op rfl (R.loadOwn S 3 rfl rfl rfl) ?_ | refine LW.op rfl (R.loadOwn S 4 rfl rfl rfl) ?_ | refine LW.op rfl (R.loadOwn S 5 rfl rfl rfl) ?_ | refine LW.op rfl (R.loadRow S 0 rfl rfl rfl) ?_ | refine LW.op rfl (R.loadRow S 1 rfl rfl rfl) ?_ | refine LW.op rfl (R.loadRow S 2 rfl rfl rfl) ?_ | refine LW.op rfl (R.loadRow S 3 rfl rfl rfl) ?_ | refine LW.op rfl (R.loadRow S 4 rfl rfl rfl) ?_ | refine LW.op rfl (R.loadRow S 5 rfl rfl rfl) ?_ | refine LW.op rfl (R.loadEl1 S rfl (by assumption) (by repeat (first | exact .head _ | refine .tail _ ?_)) rfl (by omega) rfl) ?_ | refine LW.op rfl (R.loadEl S rfl (by assumption) (by repeat (first | exact .head _ | refine .tail _ ?_)) rfl (by omega) rfl) ?_ | refine LW.op rfl (R.loadFld S rfl (by assumption) (by repeat (first | exact .head _ | refine .tail _ ?_)) rfl (by omega) rfl) ?_)) | (refine LW.kStore ?_; (first | fail)) | (refine LW.kIx ?_; (first | refine LW.op rfl (R.ixEaN rfl rfl (by assumption) (by omega)) ?_ | refine LW.op rfl (R.ixEa rfl rfl (by assumption) (by omega)) ?_ | refine LW.op rfl (R.ixOwn rfl rfl (by omega)) ?_ | refine LW.op rfl (R.ixArr rfl rfl (by omega)) ?_)) | refine LW.op rfl (R.moveI rfl) ?_ | refine LW.op rfl (R.moveS rfl) ?_ | refine LW.op rfl (R.moveP rfl) ?_ | refine LW.op rfl (R.moveB rfl) ?_ | refine LW.op rfl (R.moveT rfl) ?_ | refine LW.op rfl (R.moveA rfl) ?_ | refine LW.op rfl (R.moveU rfl) ?_ | refine LW.op rfl (R.assignI rfl) ?_ | refine LW.op rfl (R.assignS rfl) ?_ | refine LW.op rfl (R.assignP rfl) ?_ | refine LW.op rfl (R.assignB rfl) ?_ | refine LW.op rfl (R.assignT rfl) ?_ | refine LW.op rfl (R.assignA rfl) ?_ | refine LW.op rfl (R.assignU rfl) ?_ | refine LW.op rfl (R.move) ?_ | refine LW.op rfl (R.assign) ?_ | refine LW.op rfl (R.unnot rfl) ?_ | refine LW.op rfl (R.neg rfl (by omega)) ?_ | refine LW.op rfl (R.ixStr rfl rfl (by omega)) ?_))
    | refine CW.seq ?_
    | refine CW.block ?_
    | refine CW.region ?_
    | refine CW.skip ?_
    | refine CW.exit ?_
    | refine CW.ret ?_
    | refine LW.nil ?_
    | refine thn_n ?_
    | refine thn_r ?_
    | refine thn_e ?_
    | refine inB_n ?_
    | refine inB_r ?_
    | refine inB_eq rfl ?_
    | refine inB_ne rfl ?_
    | refine CW.cond_true rfl rfl ?_
    | refine CW.cond_false rfl rfl ?_
    | refine CW.cond_true rfl (by assumption) ?_
    | refine CW.cond_false rfl (by assumption) ?_
    | (refine CW.cond rfl ?_ ?_ <;> (intro h; have h1 := h; (try simp only [decide_eq_true_eq, decide_eq_false_iff_not, Bool.not_eq_true', Bool.not_eq_false', Bool.and_eq_true, Bool.or_eq_true, Bool.and_eq_false_iff, Bool.or_eq_false_iff, Bool.not_true, Bool.not_false, Int.not_lt, Int.not_le, Bool.not_eq_eq_eq_not, reduceCtorEq] at h1); (try (exfalso; omega)))))
  refine CW.loopP (fun k : Nat => [(0, .slice a s.length cap), (1, .int .i64 lo), (2, .int .i64 hi), (7, .int .i64 (k : Int))]) (fun k w' => k ≤ s.length ∧ (∀ i (h : i < s.length), i < k → lo ≤ s[i] ∧ s[i] ≤ hi) ∧ Now ⟨w, []⟩ [⟨0, w.heap.size, w⟩] [] w') (fun k => s.length - k) 0 ⟨rfl, rfl, rfl, rfl, trivial⟩ ⟨by omega, by omega, S⟩ ?_
  rintro k τ u ⟨hk, hok, S⟩
  repeat' (first
    | (refine LW.kOp ?_; (first | (refine LW.kGu ?_; (first | refine LW.guard_on rfl rfl ?_ | refine LW.guard_off rfl rfl rfl ?_ | refine LW.guard_on rfl (by assumption) ?_ | refine LW.guard_off rfl rfl (by assumption) ?_ | (refine LW.guard rfl rfl ?_ ?_ <;> (intro h; have h1 := h; (try simp only [decide_eq_true_eq, decide_eq_false_iff_not, Bool.not_eq_true', Bool.not_eq_false', Bool.and_eq_true, Bool.or_eq_true, Bool.and_eq_false_iff, Bool.or_eq_false_iff, Bool.not_true, Bool.not_false, Int.not_lt, Int.not_le, Bool.not_eq_eq_eq_not, reduceCtorEq] at h1); (try (exfalso; omega)))))) | (refine LW.kBin ?_; (first | refine LW.op rfl (R.lss rfl rfl) ?_ | refine LW.op rfl (R.lssS rfl rfl) ?_ | refine LW.op rfl (R.add rfl rfl (by omega)) ?_)) | (refine LW.kCal ?_; (first | (refine LW.callV S rfl Try.call35 rfl (inRange_any _ _ _ _) ?_; intro u S))) | (refine LW.kBui ?_; (first | refine LW.op rfl (R.lenSl rfl) ?_ | refine LW.op rfl (R.lenSt rfl) ?_)) | (refine LW.kLoad ?_; (first | refine LW.op rfl (R.loadOwn S 0 rfl rfl rfl) ?_ | refine LW.op rfl (R.loadOwn S 1 rfl rfl rfl) ?_ | refine LW.op rfl (R.loadOwn S 2 rfl rfl rfl) ?_ | refine LW.op rfl (R.loadOwn S 3 rfl rfl rfl) ?_ | refine LW.op rfl (R.loadOwn S 4 rfl rfl rfl) ?_ | refine LW.op rfl (R.loadOwn S 5 rfl rfl rfl) ?_ | refine LW.op rfl (R.loadRow S 0 rfl rfl rfl) ?_ | refine LW.op rfl (R.loadRow S 1 rfl rfl rfl) ?_ | refine LW.op rfl (R.loadRow S 2 rfl rfl rfl) ?_ | refine LW.op rfl (R.loadRow S 3 rfl rfl rfl) ?_ | refine LW.op rfl (R.loadRow S 4 rfl rfl rfl) ?_ | refine LW.op rfl (R.loadRow S 5 rfl rfl rfl) ?_ | refine LW.op rfl (R.loadEl1 S rfl (by assumption) (by repeat (first | exact .head _ | refine .tail _ ?_)) rfl (by omega) rfl) ?_ | refine LW.op rfl (R.loadEl S rfl (by assumption) (by repeat (first | exact .head _ | refine .tail _ ?_)) rfl (by omega) rfl) ?_ | refine LW.op rfl (R.loadFld S rfl (by assumption) (by repeat (first | exact .head _ | refine .tail _ ?_)) rfl (by omega) rfl) ?_)) | (refine LW.kStore ?_; (first | fail)) | (refine LW.kIx ?_; (first | refine LW.op rfl (R.ixEaN rfl rfl (by assumption) (by omega)) ?_ | refine LW.op rfl (R.ixEa rfl rfl (by assumption) (by omega)) ?_ | refine LW.op rfl (R.ixOwn rfl rfl (by omega)) ?_ | refine LW.op rfl (R.ixArr rfl rfl (by omega)) ?_)) | refine LW.op rfl (R.moveI rfl) ?_ | refine LW.op rfl (R.moveS rfl) ?_ | refine LW.op rfl (R.moveP rfl) ?_ | refine LW.op rfl (R.moveB rfl) ?_ | refine LW.op rfl (R.moveT rfl) ?_ | refine LW.op rfl (R.moveA rfl) ?_ | refine LW.op rfl (R.moveU rfl) ?_ | refine LW.op rfl (R.assignI rfl) ?_ | refine LW.op rfl (R.assignS rfl) ?_ | refine LW.op rfl (R.assignP rfl) ?_ | refine LW.op rfl (R.assignB rfl) ?_ | refine LW.op rfl (R.assignT rfl) ?_ | refine LW.op rfl (R.assignA rfl) ?_ | refine LW.op rfl (R.assignU rfl) ?_ | refine LW.op rfl (R.move) ?_ | refine LW.op rfl (R.assign) ?_ | refine LW.op rfl (R.unnot rfl) ?_ | refine LW.op rfl (R.neg rfl (by omega)) ?_ | refine LW.op rfl (R.ixStr rfl rfl (by omega)) ?_))
    | refine CW.seq ?_
    | refine CW.block ?_
    | refine CW.region ?_
    | refine CW.skip ?_
    | refine CW.exit ?_
    | refine CW.ret ?_
    | refine LW.nil ?_
    | refine thn_n ?_
    | refine thn_r ?_
    | refine thn_e ?_
    | refine inB_n ?_
    | refine inB_r ?_
    | refine inB_eq rfl ?_
    | refine inB_ne rfl ?_
    | refine CW.cond_true rfl rfl ?_
    | refine CW.cond_false rfl rfl ?_
    | refine CW.cond_true rfl (by assumption) ?_
    | refine CW.cond_false rfl (by assumption) ?_
    | (refine CW.cond rfl ?_ ?_ <;> (intro h; have h1 := h; (try simp only [decide_eq_true_eq, decide_eq_false_iff_not, Bool.not_eq_true', Bool.not_eq_false', Bool.and_eq_true, Bool.or_eq_true, Bool.and_eq_false_iff, Bool.or_eq_false_iff, Bool.not_true, Bool.not_false, Int.not_lt, Int.not_le, Bool.not_eq_eq_eq_not, reduceCtorEq] at h1); (try (exfalso; omega)))))
  all_goals first
    | (refine Fin.bool rfl (.inl rfl) S rfl ?_; grind [List.mem_iff_getElem, List.getElem_mem])
    | exact ⟨k + 1, by omega, ⟨rfl, rfl, rfl, rfl, trivial⟩, by omega, by grind, S⟩
theorem copyInts_any (a : Option Addr) (cap : Nat) (s : List Int) (w : World) (hs : SlF 0 w.heap.size w a s) (hl : s.length ≤ 1099511627776) :
    Calls Try.prog 34 #[.slice a s.length cap] w fun e w' => ∃ v, e = .returned v ∧ OwF w.heap.size w' v 3 s ∧ Below w.heap.size w w' := by
  have S := Now.init w
  refine calls Try.func34 rfl rfl ?_
  repeat' (first
    | (refine LW.kOp ?_; (first | (refine LW.kGu ?_; (first | refine LW.guard_on rfl rfl ?_ | refine LW.guard_off rfl rfl rfl ?_ | refine LW.guard_on rfl (by assumption) ?_ | refine LW.guard_off rfl rfl (by assumption) ?_ | (refine LW.guard rfl rfl ?_ ?_ <;> (intro h; have h1 := h; (try simp only [decide_eq_true_eq, decide_eq_false_iff_not, Bool.not_eq_true', Bool.not_eq_false', Bool.and_eq_true, Bool.or_eq_true, Bool.and_eq_false_iff, Bool.or_eq_false_iff, Bool.not_true, Bool.not_false, Int.not_lt, Int.not_le, Bool.not_eq_eq_eq_not, reduceCtorEq] at h1); (try (exfalso; omega)))))) | (refine LW.lit0 S rfl ?_; intro b u S) | (refine LW.kBin ?_; (first | fail)) | (refine LW.kCal ?_; (first | fail)) | (refine LW.kBui ?_; (first | fail)) | (refine LW.kLoad ?_; (first | fail)) | (refine LW.kStore ?_; (first | fail)) | (refine LW.kIx ?_; (first | fail)) | refine LW.op rfl (R.moveI rfl) ?_ | refine LW.op rfl (R.moveS rfl) ?_ | refine LW.op rfl (R.moveP rfl) ?_ | refine LW.op rfl (R.moveB rfl) ?_ | refine LW.op rfl (R.moveT rfl) ?_ | refine LW.op rfl (R.moveA rfl) ?_ | refine LW.op rfl (R.moveU rfl) ?_ | refine LW.op rfl (R.assignI rfl) ?_ | refine LW.op rfl (R.assignS rfl) ?_ | refine LW.op rfl (R.assignP rfl) ?_ | refine LW.op rfl (R.assignB rfl) ?_ | refine LW.op rfl (R.assignT rfl) ?_ | refine LW.op rfl (R.assignA rfl) ?_ | refine LW.op rfl (R.assignU rfl) ?_ | refine LW.op rfl (R.move) ?_ | refine LW.op rfl (R.assign) ?_))
    | refine CW.seq ?_
    | refine CW.block ?_
    | refine CW.region ?_
    | refine CW.skip ?_
    | refine CW.exit ?_
    | refine CW.ret ?_
    | refine LW.nil ?_
    | refine thn_n ?_
    | refine thn_r ?_
    | refine thn_e ?_
    | refine inB_n ?_
    | refine inB_r ?_
    | refine inB_eq rfl ?_
    | refine inB_ne rfl ?_
    | refine CW.cond_true rfl rfl ?_
    | refine CW.cond_false rfl rfl ?_
    | refine CW.cond_true rfl (by assumption) ?_
    | refine CW.cond_false rfl (by assumption) ?_
    | (refine CW.cond rfl ?_ ?_ <;> (intro h; have h1 := h; (try simp only [decide_eq_true_eq, decide_eq_false_iff_not, Bool.not_eq_true', Bool.not_eq_false', Bool.and_eq_true, Bool.or_eq_true, Bool.and_eq_false_iff, Bool.or_eq_false_iff, Bool.not_true, Bool.not_false, Int.not_lt, Int.not_le, Bool.not_eq_eq_eq_not, reduceCtorEq] at h1); (try (exfalso; omega)))))
  refine LW.appR (O1 := []) (E := [_]) (O2 := []) S GrF.empty rfl rfl rfl (SlF.now S (.head _) hs) (by simp; omega) (by simp; omega) ?_
  intro v u E S hE
  repeat' (first
    | (refine LW.kOp ?_; (first | (refine LW.kGu ?_; (first | refine LW.guard_on rfl rfl ?_ | refine LW.guard_off rfl rfl rfl ?_ | refine LW.guard_on rfl (by assumption) ?_ | refine LW.guard_off rfl rfl (by assumption) ?_ | (refine LW.guard rfl rfl ?_ ?_ <;> (intro h; have h1 := h; (try simp only [decide_eq_true_eq, decide_eq_false_iff_not, Bool.not_eq_true', Bool.not_eq_false', Bool.and_eq_true, Bool.or_eq_true, Bool.and_eq_false_iff, Bool.or_eq_false_iff, Bool.not_true, Bool.not_false, Int.not_lt, Int.not_le, Bool.not_eq_eq_eq_not, reduceCtorEq] at h1); (try (exfalso; omega)))))) | (refine LW.kBin ?_; (first | fail)) | (refine LW.kCal ?_; (first | fail)) | (refine LW.kBui ?_; (first | fail)) | (refine LW.kLoad ?_; (first | fail)) | (refine LW.kStore ?_; (first | fail)) | (refine LW.kIx ?_; (first | fail)) | refine LW.op rfl (R.moveI rfl) ?_ | refine LW.op rfl (R.moveS rfl) ?_ | refine LW.op rfl (R.moveP rfl) ?_ | refine LW.op rfl (R.moveB rfl) ?_ | refine LW.op rfl (R.moveT rfl) ?_ | refine LW.op rfl (R.moveA rfl) ?_ | refine LW.op rfl (R.moveU rfl) ?_ | refine LW.op rfl (R.assignI rfl) ?_ | refine LW.op rfl (R.assignS rfl) ?_ | refine LW.op rfl (R.assignP rfl) ?_ | refine LW.op rfl (R.assignB rfl) ?_ | refine LW.op rfl (R.assignT rfl) ?_ | refine LW.op rfl (R.assignA rfl) ?_ | refine LW.op rfl (R.assignU rfl) ?_ | refine LW.op rfl (R.move) ?_ | refine LW.op rfl (R.assign) ?_))
    | refine CW.seq ?_
    | refine CW.block ?_
    | refine CW.region ?_
    | refine CW.skip ?_
    | refine CW.exit ?_
    | refine CW.ret ?_
    | refine LW.nil ?_
    | refine thn_n ?_
    | refine thn_r ?_
    | refine thn_e ?_
    | refine inB_n ?_
    | refine inB_r ?_
    | refine inB_eq rfl ?_
    | refine inB_ne rfl ?_
    | refine CW.cond_true rfl rfl ?_
    | refine CW.cond_false rfl rfl ?_
    | refine CW.cond_true rfl (by assumption) ?_
    | refine CW.cond_false rfl (by assumption) ?_
    | (refine CW.cond rfl ?_ ?_ <;> (intro h; have h1 := h; (try simp only [decide_eq_true_eq, decide_eq_false_iff_not, Bool.not_eq_true', Bool.not_eq_false', Bool.and_eq_true, Bool.or_eq_true, Bool.and_eq_false_iff, Bool.or_eq_false_iff, Bool.not_true, Bool.not_false, Int.not_lt, Int.not_le, Bool.not_eq_eq_eq_not, reduceCtorEq] at h1); (try (exfalso; omega)))))
  exact Fin.ret1 rfl (.inl rfl) ⟨v, rfl, by simpa using hE.own (O1 := []) S, S.base.below⟩
theorem cloneInts_any (a : Option Addr) (cap : Nat) (s : List Int) (w : World) (hs : SlF 0 w.heap.size w a s) (hl : s.length ≤ 1099511627776) (hn : a = none → cap = 0) :
    Calls Try.prog 21 #[.slice a s.length cap] w fun e w' => ∃ v, e = .returned v ∧ OwF w.heap.size w' v 3 s ∧ Below w.heap.size w w' := by
  have S := Now.init w
  refine calls Try.func21 rfl rfl ?_
  cases a with
  | none =>
    have h := hs.nil_of; subst h
    ·
      repeat' (first
    | (refine LW.kOp ?_; (first | (refine LW.kGu ?_; (first | refine LW.guard_on rfl rfl ?_ | refine LW.guard_off rfl rfl rfl ?_ | refine LW.guard_on rfl (by assumption) ?_ | refine LW.guard_off rfl rfl (by assumption) ?_ | (refine LW.guard rfl rfl ?_ ?_ <;> (intro h; have h1 := h; (try simp only [decide_eq_true_eq, decide_eq_false_iff_not, Bool.not_eq_true', Bool.not_eq_false', Bool.and_eq_true, Bool.or_eq_true, Bool.and_eq_false_iff, Bool.or_eq_false_iff, Bool.not_true, Bool.not_false, Int.not_lt, Int.not_le, Bool.not_eq_eq_eq_not, reduceCtorEq] at h1); (try (exfalso; omega)))))) | (refine LW.kBin ?_; (first | refine LW.op rfl (R.eql rfl rfl) ?_ | refine LW.op rfl (R.eqlS rfl rfl) ?_ | refine LW.op rfl (R.eqlNil rfl rfl) ?_)) | (refine LW.kCal ?_; (first | fail)) | (refine LW.kBui ?_; (first | fail)) | (refine LW.kLoad ?_; (first | fail)) | (refine LW.kStore ?_; (first | fail)) | (refine LW.kIx ?_; (first | fail)) | refine LW.op rfl (R.moveI rfl) ?_ | refine LW.op rfl (R.moveS rfl) ?_ | refine LW.op rfl (R.moveP rfl) ?_ | refine LW.op rfl (R.moveB rfl) ?_ | refine LW.op rfl (R.moveT rfl) ?_ | refine LW.op rfl (R.moveA rfl) ?_ | refine LW.op rfl (R.moveU rfl) ?_ | refine LW.op rfl (R.assignI rfl) ?_ | refine LW.op rfl (R.assignS rfl) ?_ | refine LW.op rfl (R.assignP rfl) ?_ | refine LW.op rfl (R.assignB rfl) ?_ | refine LW.op rfl (R.assignT rfl) ?_ | refine LW.op rfl (R.assignA rfl) ?_ | refine LW.op rfl (R.assignU rfl) ?_ | refine LW.op rfl (R.move) ?_ | refine LW.op rfl (R.assign) ?_))
    | refine CW.seq ?_
    | refine CW.block ?_
    | refine CW.region ?_
    | refine CW.skip ?_
    | refine CW.exit ?_
    | refine CW.ret ?_
    | refine LW.nil ?_
    | refine thn_n ?_
    | refine thn_r ?_
    | refine thn_e ?_
    | refine inB_n ?_
    | refine inB_r ?_
    | refine inB_eq rfl ?_
    | refine inB_ne rfl ?_
    | refine CW.cond_true rfl rfl ?_
    | refine CW.cond_false rfl rfl ?_
    | refine CW.cond_true rfl (by assumption) ?_
    | refine CW.cond_false rfl (by assumption) ?_
    | (refine CW.cond rfl ?_ ?_ <;> (intro h; have h1 := h; (try simp only [decide_eq_true_eq, decide_eq_false_iff_not, Bool.not_eq_true', Bool.not_eq_false', Bool.and_eq_true, Bool.or_eq_true, Bool.and_eq_false_iff, Bool.or_eq_false_iff, Bool.not_true, Bool.not_false, Int.not_lt, Int.not_le, Bool.not_eq_eq_eq_not, reduceCtorEq] at h1); (try (exfalso; omega)))))
      exact Fin.ret1 rfl (.inl rfl) ⟨_, rfl, OwF.nil, S.base.below⟩
  | some a =>
    repeat' (first
    | (refine LW.kOp ?_; (first | (refine LW.kGu ?_; (first | refine LW.guard_on rfl rfl ?_ | refine LW.guard_off rfl rfl rfl ?_ | refine LW.guard_on rfl (by assumption) ?_ | refine LW.guard_off rfl rfl (by assumption) ?_ | (refine LW.guard rfl rfl ?_ ?_ <;> (intro h; have h1 := h; (try simp only [decide_eq_true_eq, decide_eq_false_iff_not, Bool.not_eq_true', Bool.not_eq_false', Bool.and_eq_true, Bool.or_eq_true, Bool.and_eq_false_iff, Bool.or_eq_false_iff, Bool.not_true, Bool.not_false, Int.not_lt, Int.not_le, Bool.not_eq_eq_eq_not, reduceCtorEq] at h1); (try (exfalso; omega)))))) | (refine LW.lit0 S rfl ?_; intro b u S) | (refine LW.kBin ?_; (first | refine LW.op rfl (R.eql rfl rfl) ?_ | refine LW.op rfl (R.eqlS rfl rfl) ?_ | refine LW.op rfl (R.eqlNil rfl rfl) ?_)) | (refine LW.kCal ?_; (first | fail)) | (refine LW.kBui ?_; (first | fail)) | (refine LW.kLoad ?_; (first | fail)) | (refine LW.kStore ?_; (first | fail)) | (refine LW.kIx ?_; (first | fail)) | refine LW.op rfl (R.moveI rfl) ?_ | refine LW.op rfl (R.moveS rfl) ?_ | refine LW.op rfl (R.moveP rfl) ?_ | refine LW.op rfl (R.moveB rfl) ?_ | refine LW.op rfl (R.moveT rfl) ?_ | refine LW.op rfl (R.moveA rfl) ?_ | refine LW.op rfl (R.moveU rfl) ?_ | refine LW.op rfl (R.assignI rfl) ?_ | refine LW.op rfl (R.assignS rfl) ?_ | refine LW.op rfl (R.assignP rfl) ?_ | refine LW.op rfl (R.assignB rfl) ?_ | refine LW.op rfl (R.assignT rfl) ?_ | refine LW.op rfl (R.assignA rfl) ?_ | refine LW.op rfl (R.assignU rfl) ?_ | refine LW.op rfl (R.move) ?_ | refine LW.op rfl (R.assign) ?_))
    | refine CW.seq ?_
    | refine CW.block ?_
    | refine CW.region ?_
    | refine CW.skip ?_
    | refine CW.exit ?_
    | refine CW.ret ?_
    | refine LW.nil ?_
    | refine thn_n ?_
    | refine thn_r ?_
    | refine thn_e ?_
    | refine inB_n ?_
    | refine inB_r ?_
    | refine inB_eq rfl ?_
    | refine inB_ne rfl ?_
    | refine CW.cond_true rfl rfl ?_
    | refine CW.cond_false rfl rfl ?_
    | refine CW.cond_true rfl (by assumption) ?_
    | refine CW.cond_false rfl (by assumption) ?_
    | (refine CW.cond rfl ?_ ?_ <;> (intro h; have h1 := h; (try simp only [decide_eq_true_eq, decide_eq_false_iff_not, Bool.not_eq_true', Bool.not_eq_false', Bool.and_eq_true, Bool.or_eq_true, Bool.and_eq_false_iff, Bool.or_eq_false_iff, Bool.not_true, Bool.not_false, Int.not_lt, Int.not_le, Bool.not_eq_eq_eq_not, reduceCtorEq] at h1); (try (exfalso; omega)))))
    refine LW.appR (O1 := []) (E := [_]) (O2 := []) S GrF.empty rfl rfl rfl (SlF.now S (.head _) hs) (by simp; omega) (by simp; omega) ?_
    intro v u E S hE
    repeat' (first
    | (refine LW.kOp ?_; (first | (refine LW.kGu ?_; (first | refine LW.guard_on rfl rfl ?_ | refine LW.guard_off rfl rfl rfl ?_ | refine LW.guard_on rfl (by assumption) ?_ | refine LW.guard_off rfl rfl (by assumption) ?_ | (refine LW.guard rfl rfl ?_ ?_ <;> (intro h; have h1 := h; (try simp only [decide_eq_true_eq, decide_eq_false_iff_not, Bool.not_eq_true', Bool.not_eq_false', Bool.and_eq_true, Bool.or_eq_true, Bool.and_eq_false_iff, Bool.or_eq_false_iff, Bool.not_true, Bool.not_false, Int.not_lt, Int.not_le, Bool.not_eq_eq_eq_not, reduceCtorEq] at h1); (try (exfalso; omega)))))) | (refine LW.kBin ?_; (first | refine LW.op rfl (R.eql rfl rfl) ?_ | refine LW.op rfl (R.eqlS rfl rfl) ?_ | refine LW.op rfl (R.eqlNil rfl rfl) ?_)) | (refine LW.kCal ?_; (first | fail)) | (refine LW.kBui ?_; (first | fail)) | (refine LW.kLoad ?_; (first | fail)) | (refine LW.kStore ?_; (first | fail)) | (refine LW.kIx ?_; (first | fail)) | refine LW.op rfl (R.moveI rfl) ?_ | refine LW.op rfl (R.moveS rfl) ?_ | refine LW.op rfl (R.moveP rfl) ?_ | refine LW.op rfl (R.moveB rfl) ?_ | refine LW.op rfl (R.moveT rfl) ?_ | refine LW.op rfl (R.moveA rfl) ?_ | refine LW.op rfl (R.moveU rfl) ?_ | refine LW.op rfl (R.assignI rfl) ?_ | refine LW.op rfl (R.assignS rfl) ?_ | refine LW.op rfl (R.assignP rfl) ?_ | refine LW.op rfl (R.assignB rfl) ?_ | refine LW.op rfl (R.assignT rfl) ?_ | refine LW.op rfl (R.assignA rfl) ?_ | refine LW.op rfl (R.assignU rfl) ?_ | refine LW.op rfl (R.move) ?_ | refine LW.op rfl (R.assign) ?_))
    | refine CW.seq ?_
    | refine CW.block ?_
    | refine CW.region ?_
    | refine CW.skip ?_
    | refine CW.exit ?_
    | refine CW.ret ?_
    | refine LW.nil ?_
    | refine thn_n ?_
    | refine thn_r ?_
    | refine thn_e ?_
    | refine inB_n ?_
    | refine inB_r ?_
    | refine inB_eq rfl ?_
    | refine inB_ne rfl ?_
    | refine CW.cond_true rfl rfl ?_
    | refine CW.cond_false rfl rfl ?_
    | refine CW.cond_true rfl (by assumption) ?_
    | refine CW.cond_false rfl (by assumption) ?_
    | (refine CW.cond rfl ?_ ?_ <;> (intro h; have h1 := h; (try simp only [decide_eq_true_eq, decide_eq_false_iff_not, Bool.not_eq_true', Bool.not_eq_false', Bool.and_eq_true, Bool.or_eq_true, Bool.and_eq_false_iff, Bool.or_eq_false_iff, Bool.not_true, Bool.not_false, Int.not_lt, Int.not_le, Bool.not_eq_eq_eq_not, reduceCtorEq] at h1); (try (exfalso; omega)))))
    exact Fin.ret1 rfl (.inl rfl) ⟨v, rfl, by simpa using hE.own (O1 := []) S, S.base.below⟩
theorem equalInts_any (a : Option Addr) (cap : Nat) (s : List Int) (b : Option Addr) (cap2 : Nat) (t : List Int) (w : World) (hs : SlF 0 w.heap.size w a s) (ht : SlF 0 w.heap.size w b t) (hl : s.length ≤ 140737488355328) :
    Calls Try.prog 8 #[.slice a s.length cap, .slice b t.length cap2] w fun e w' => e = .returned (.bool (decide (s = t))) ∧ Below w.heap.size w w' := by
  have S := Now.init w
  refine calls Try.func8 rfl rfl ?_
  repeat' (first
    | (refine LW.kOp ?_; (first | (refine LW.kGu ?_; (first | refine LW.guard_on rfl rfl ?_ | refine LW.guard_off rfl rfl rfl ?_ | refine LW.guard_on rfl (by assumption) ?_ | refine LW.guard_off rfl rfl (by assumption) ?_ | (refine LW.guard rfl rfl ?_ ?_ <;> (intro h; have h1 := h; (try simp only [decide_eq_true_eq, decide_eq_false_iff_not, Bool.not_eq_true', Bool.not_eq_false', Bool.and_eq_true, Bool.or_eq_true, Bool.and_eq_false_iff, Bool.or_eq_false_iff, Bool.not_true, Bool.not_false, Int.not_lt, Int.not_le, Bool.not_eq_eq_eq_not, reduceCtorEq] at h1); (try (exfalso; omega)))))) | (refine LW.kBin ?_; (first | refine LW.op rfl (R.lss rfl rfl) ?_ | refine LW.op rfl (R.neq rfl rfl) ?_ | refine LW.op rfl (R.neqS rfl rfl) ?_ | refine LW.op rfl (R.lssS rfl rfl) ?_ | refine LW.op rfl (R.add rfl rfl (by omega)) ?_)) | (refine LW.kCal ?_; (first | fail)) | (refine LW.kBui ?_; (first | refine LW.op rfl (R.lenSl rfl) ?_ | refine LW.op rfl (R.lenSt rfl) ?_)) | (refine LW.kLoad ?_; (first | refine LW.op rfl (R.loadOwn S 0 rfl rfl rfl) ?_ | refine LW.op rfl (R.loadOwn S 1 rfl rfl rfl) ?_ | refine LW.op rfl (R.loadOwn S 2 rfl rfl rfl) ?_ | refine LW.op rfl (R.loadOwn S 3 rfl rfl rfl) ?_ | refine LW.op rfl (R.loadOwn S 4 rfl rfl rfl) ?_ | refine LW.op rfl (R.loadOwn S 5 rfl rfl rfl) ?_ | refine LW.op rfl (R.loadRow S 0 rfl rfl rfl) ?_ | refine LW.op rfl (R.loadRow S 1 rfl rfl rfl) ?_ | refine LW.op rfl (R.loadRow S 2 rfl rfl rfl) ?_ | refine LW.op rfl (R.loadRow S 3 rfl rfl rfl) ?_ | refine LW.op rfl (R.loadRow S 4 rfl rfl rfl) ?_ | refine LW.op rfl (R.loadRow S 5 rfl rfl rfl) ?_ | refine LW.op rfl (R.loadEl1 S rfl (by assumption) (by repeat (first | exact .head _ | refine .tail _ ?_)) rfl (by omega) rfl) ?_ | refine LW.op rfl (R.loadEl S rfl (by assumption) (by repeat (first | exact .head _ | refine .tail _ ?_)) rfl (by omega) rfl) ?_ | refine LW.op rfl (R.loadFld S rfl (by assumption) (by repeat (first | exact .head _ | refine .tail _ ?_)) rfl (by omega) rfl) ?_)) | (refine LW.kStore ?_; (first | fail)) | (refine LW.kIx ?_; (first | refine LW.op rfl (R.ixEaN rfl rfl (by assumption) (by omega)) ?_ | refine LW.op rfl (R.ixEa rfl rfl (by assumption) (by omega)) ?_ | refine LW.op rfl (R.ixOwn rfl rfl (by omega)) ?_ | refine LW.op rfl (R.ixArr rfl rfl (by omega)) ?_)) | refine LW.op rfl (R.moveI rfl) ?_ | refine LW.op rfl (R.moveS rfl) ?_ | refine LW.op rfl (R.moveP rfl) ?_ | refine LW.op rfl (R.moveB rfl) ?_ | refine LW.op rfl (R.moveT rfl) ?_ | refine LW.op rfl (R.moveA rfl) ?_ | refine LW.op rfl (R.moveU rfl) ?_ | refine LW.op rfl (R.assignI rfl) ?_ | refine LW.op rfl (R.assignS rfl) ?_ | refine LW.op rfl (R.assignP rfl) ?_ | refine LW.op rfl (R.assignB rfl) ?_ | refine LW.op rfl (R.assignT rfl) ?_ | refine LW.op rfl (R.assignA rfl) ?_ | refine LW.op rfl (R.assignU rfl) ?_ | refine LW.op rfl (R.move) ?_ | refine LW.op rfl (R.assign) ?_ | refine LW.op rfl (R.ixStr rfl rfl (by omega)) ?_))
    | refine CW.seq ?_
    | refine CW.block ?_
    | refine CW.region ?_
    | refine CW.skip ?_
    | refine CW.exit ?_
    | refine CW.ret ?_
    | refine LW.nil ?_
    | refine thn_n ?_
    | refine thn_r ?_
    | refine thn_e ?_
    | refine inB_n ?_
    | refine inB_r ?_
    | refine inB_eq rfl ?_
    | refine inB_ne rfl ?_
    | refine CW.cond_true rfl rfl ?_
    | refine CW.cond_false rfl rfl ?_
    | refine CW.cond_true rfl (by assumption) ?_
    | refine CW.cond_false rfl (by assumption) ?_
    | (refine CW.cond rfl ?_ ?_ <;> (intro h; have h1 := h; (try simp only [decide_eq_true_eq, decide_eq_false_iff_not, Bool.not_eq_true', Bool.not_eq_false', Bool.and_eq_true, Bool.or_eq_true, Bool.and_eq_false_iff, Bool.or_eq_false_iff, Bool.not_true, Bool.not_false, Int.not_lt, Int.not_le, Bool.not_eq_eq_eq_not, reduceCtorEq] at h1); (try (exfalso; omega))))
    | (refine CW.quiet S rfl rfl (by kernel_rfl) ?_)
    | (refine CW.tail S rfl rfl (by kernel_rfl) ?_; intro u S)
    | (refine TW.kOp ?_; (first | refine TW.op rfl (R.lss rfl rfl) ?_ | refine TW.op rfl (R.neq rfl rfl) ?_ | refine TW.op rfl (R.neqS rfl rfl) ?_ | refine TW.op rfl (R.lssS rfl rfl) ?_ | refine TW.op rfl (R.add rfl rfl (by omega)) ?_ | refine TW.op rfl (R.lenSl rfl) ?_ | refine TW.op rfl (R.lenSt rfl) ?_ | refine TW.op rfl (R.moveI rfl) ?_ | refine TW.op rfl (R.moveS rfl) ?_ | refine TW.op rfl (R.moveP rfl) ?_ | refine TW.op rfl (R.moveB rfl) ?_ | refine TW.op rfl (R.moveT rfl) ?_ | refine TW.op rfl (R.moveA rfl) ?_ | refine TW.op rfl (R.moveU rfl) ?_ | refine TW.op rfl (R.assignI rfl) ?_ | refine TW.op rfl (R.assignS rfl) ?_ | refine TW.op rfl (R.assignP rfl) ?_ | refine TW.op rfl (R.assignB rfl) ?_ | refine TW.op rfl (R.assignT rfl) ?_ | refine TW.op rfl (R.assignA rfl) ?_ | refine TW.op rfl (R.assignU rfl) ?_ | refine TW.op rfl (R.move) ?_ | refine TW.op rfl (R.assign) ?_ | refine TW.op rfl (R.ixStr rfl rfl (by omega)) ?_ | refine TW.op rfl (R.ixEaN rfl rfl (by assumption) (by omega)) ?_ | refine TW.op rfl (R.ixEa rfl rfl (by assumption) (by omega)) ?_ | refine TW.op rfl (R.ixOwn rfl rfl (by omega)) ?_ | refine TW.op rfl (R.ixArr rfl rfl (by omega)) ?_ | refine TW.op rfl (R.loadOwn S 0 rfl rfl rfl) ?_ | refine TW.op rfl (R.loadOwn S 1 rfl rfl rfl) ?_ | refine TW.op rfl (R.loadOwn S 2 rfl rfl rfl) ?_ | refine TW.op rfl (R.loadOwn S 3 rfl rfl rfl) ?_ | refine TW.op rfl (R.loadOwn S 4 rfl rfl rfl) ?_ | refine TW.op rfl (R.loadOwn S 5 rfl rfl rfl) ?_ | refine TW.op rfl (R.loadRow S 0 rfl rfl rfl) ?_ | refine TW.op rfl (R.loadRow S 1 rfl rfl rfl) ?_ | refine TW.op rfl (R.loadRow S 2 rfl rfl rfl) ?_ | refine TW.op rfl (R.loadRow S 3 rfl rfl rfl) ?_ | refine TW.op rfl (R.loadRow S 4 rfl rfl rfl) ?_ | refine TW.op rfl (R.loadRow S 5 rfl rfl rfl) ?_ | refine TW.op rfl (R.loadEl1 S rfl (by assumption) (by repeat (first | exact .head _ | refine .tail _ ?_)) rfl (by omega) rfl) ?_ | refine TW.op rfl (R.loadEl S rfl (by assumption) (by repeat (first | exact .head _ | refine .tail _ ?_)) rfl (by omega) rfl) ?_ | refine TW.op rfl (R.loadFld S rfl (by assumption) (by repeat (first | exact .head _ | refine .tail _ ?_)) rfl (by omega) rfl) ?_))
    | refine TW.nil ?_
    | (refine QW.kOp ?_; (first | refine QW.guard_on rfl rfl rfl ?_ | refine QW.guard_off rfl rfl rfl ?_ | refine QW.guard_on rfl rfl (by assumption) ?_ | refine QW.guard_off rfl rfl (by assumption) ?_ | (refine QW.guard rfl rfl ?_ ?_ <;> (intro h; have h1 := h; (try simp only [decide_eq_true_eq, decide_eq_false_iff_not, Bool.not_eq_true', Bool.not_eq_false', Bool.and_eq_true, Bool.or_eq_true, Bool.and_eq_false_iff, Bool.or_eq_false_iff, Bool.not_true, Bool.not_false, Int.not_lt, Int.not_le, Bool.not_eq_eq_eq_not, reduceCtorEq] at h1); (try (exfalso; omega)))) | refine QW.op rfl (fun _ S => R.lss rfl rfl) ?_ | refine QW.op rfl (fun _ S => R.neq rfl rfl) ?_ | refine QW.op rfl (fun _ S => R.neqS rfl rfl) ?_ | refine QW.op rfl (fun _ S => R.lssS rfl rfl) ?_ | refine QW.op rfl (fun _ S => R.add rfl rfl (by omega)) ?_ | refine QW.op rfl (fun _ S => R.lenSl rfl) ?_ | refine QW.op rfl (fun _ S => R.lenSt rfl) ?_ | refine QW.op rfl (fun _ S => R.moveI rfl) ?_ | refine QW.op rfl (fun _ S => R.moveS rfl) ?_ | refine QW.op rfl (fun _ S => R.moveP rfl) ?_ | refine QW.op rfl (fun _ S => R.moveB rfl) ?_ | refine QW.op rfl (fun _ S => R.moveT rfl) ?_ | refine QW.op rfl (fun _ S => R.moveA rfl) ?_ | refine QW.op rfl (fun _ S => R.moveU rfl) ?_ | refine QW.op rfl (fun _ S => R.assignI rfl) ?_ | refine QW.op rfl (fun _ S => R.assignS rfl) ?_ | refine QW.op rfl (fun _ S => R.assignP rfl) ?_ | refine QW.op rfl (fun _ S => R.assignB rfl) ?_ | refine QW.op rfl (fun _ S => R.assignT rfl) ?_ | refine QW.op rfl (fun _ S => R.assignA rfl) ?_ | refine QW.op rfl (fun _ S => R.assignU rfl) ?_ | refine QW.op rfl (fun _ S => R.move) ?_ | refine QW.op rfl (fun _ S => R.assign) ?_ | refine QW.op rfl (fun _ S => R.ixStr rfl rfl (by omega)) ?_ | refine QW.op rfl (fun _ S => R.ixEaN rfl rfl (by assumption) (by omega)) ?_ | refine QW.op rfl (fun _ S => R.ixEa rfl rfl (by assumption) (by omega)) ?_ | refine QW.op rfl (fun _ S => R.ixOwn rfl rfl (by omega)) ?_ | refine QW.op rfl (fun _ S => R.ixArr rfl rfl (by omega)) ?_ | refine QW.op rfl (fun _ S => R.loadOwn S 0 rfl rfl rfl) ?_ | refine QW.op rfl (fun _ S => R.loadOwn S 1 rfl rfl rfl) ?_ | refine QW.op rfl (fun _ S => R.loadOwn S 2 rfl rfl rfl) ?_ | refine QW.op rfl (fun _ S => R.loadOwn S 3 rfl rfl rfl) ?_ | refine QW.op rfl (fun _ S => R.loadOwn S 4 rfl rfl rfl) ?_ | refine QW.op rfl (fun _ S => R.loadOwn S 5 rfl rfl rfl) ?_ | refine QW.op rfl (fun _ S => R.loadRow S 0 rfl rfl rfl) ?_ | refine QW.op rfl (fun _ S => R.loadRow S 1 rfl rfl rfl) ?_ | refine QW.op rfl (fun _ S => R.loadRow S 2 rfl rfl rfl) ?_ | refine QW.op rfl (fun _ S => R.loadRow S 3 rfl rfl rfl) ?_ | refine QW.op rfl (fun _ S => R.loadRow S 4 rfl rfl rfl) ?_ | refine QW.op rfl (fun _ S => R.loadRow S 5 rfl rfl rfl) ?_ | refine QW.op rfl (fun _ S => R.loadEl1 S rfl (by assumption) (by repeat (first | exact .head _ | refine .tail _ ?_)) rfl (by omega) rfl) ?_ | refine QW.op rfl (fun _ S => R.loadEl S rfl (by assumption) (by repeat (first | exact .head _ | refine .tail _ ?_)) rfl (by omega) rfl) ?_ | refine QW.op rfl (fun _ S => R.loadFld S rfl (by assumption) (by repeat (first | exact .head _ | refine .tail _ ?_)) rfl (by omega) rfl) ?_))
    | (refine QW.nil ?_; intro u S))
  all_goals (try (refine Fin.bool rfl (.inl rfl) S rfl ?_; grind))
  refine CW.loopP (fun k : Nat => [(0, .slice a s.length cap), (1, .slice b t.length cap2), (5, .int .i64 (k : Int))]) (fun k w' => k ≤ s.length ∧ s.length = t.length ∧ (∀ i (h : i < s.length) (h' : i < t.length), i < k → s[i] = t[i]) ∧ Now ⟨w, []⟩ [⟨0, w.heap.size, w⟩] [] w') (fun k => s.length - k) 0 ⟨rfl, rfl, rfl, trivial⟩ ⟨by omega, by grind, by omega, S⟩ ?_
  rintro k τ u ⟨hk, hlen, hok, S⟩
  repeat' (first
    | (refine LW.kOp ?_; (first | (refine LW.kGu ?_; (first | refine LW.guard_on rfl rfl ?_ | refine LW.guard_off rfl rfl rfl ?_ | refine LW.guard_on rfl (by assumption) ?_ | refine LW.guard_off rfl rfl (by assumption) ?_ | (refine LW.guard rfl rfl ?_ ?_ <;> (intro h; have h1 := h; (try simp only [decide_eq_true_eq, decide_eq_false_iff_not, Bool.not_eq_true', Bool.not_eq_false', Bool.and_eq_true, Bool.or_eq_true, Bool.and_eq_false_iff, Bool.or_eq_false_iff, Bool.not_true, Bool.not_false, Int.not_lt, Int.not_le, Bool.not_eq_eq_eq_not, reduceCtorEq] at h1); (try (exfalso; omega)))))) | (refine LW.kBin ?_; (first | refine LW.op rfl (R.lss rfl rfl) ?_ | refine LW.op rfl (R.neq rfl rfl) ?_ | refine LW.op rfl (R.neqS rfl rfl) ?_ | refine LW.op rfl (R.lssS rfl rfl) ?_ | refine LW.op rfl (R.add rfl rfl (by omega)) ?_)) | (refine LW.kCal ?_; (first | fail)) | (refine LW.kBui ?_; (first | refine LW.op rfl (R.lenSl rfl) ?_ | refine LW.op rfl (R.lenSt rfl) ?_)) | (refine LW.kLoad ?_; (first | refine LW.op rfl (R.loadOwn S 0 rfl rfl rfl) ?_ | refine LW.op rfl (R.loadOwn S 1 rfl rfl rfl) ?_ | refine LW.op rfl (R.loadOwn S 2 rfl rfl rfl) ?_ | refine LW.op rfl (R.loadOwn S 3 rfl rfl rfl) ?_ | refine LW.op rfl (R.loadOwn S 4 rfl rfl rfl) ?_ | refine LW.op rfl (R.loadOwn S 5 rfl rfl rfl) ?_ | refine LW.op rfl (R.loadRow S 0 rfl rfl rfl) ?_ | refine LW.op rfl (R.loadRow S 1 rfl rfl rfl) ?_ | refine LW.op rfl (R.loadRow S 2 rfl rfl rfl) ?_ | refine LW.op rfl (R.loadRow S 3 rfl rfl rfl) ?_ | refine LW.op rfl (R.loadRow S 4 rfl rfl rfl) ?_ | refine LW.op rfl (R.loadRow S 5 rfl rfl rfl) ?_ | refine LW.op rfl (R.loadEl1 S rfl (by assumption) (by repeat (first | exact .head _ | refine .tail _ ?_)) rfl (by omega) rfl) ?_ | refine LW.op rfl (R.loadEl S rfl (by assumption) (by repeat (first | exact .head _ | refine .tail _ ?_)) rfl (by omega) rfl) ?_ | refine LW.op rfl (R.loadFld S rfl (by assumption) (by repeat (first | exact .head _ | refine .tail _ ?_)) rfl (by omega) rfl) ?_)) | (refine LW.kStore ?_; (first | fail)) | (refine LW.kIx ?_; (first | refine LW.op rfl (R.ixEaN rfl rfl (by assumption) (by omega)) ?_ | refine LW.op rfl (R.ixEa rfl rfl (by assumption) (by omega)) ?_ | refine LW.op rfl (R.ixOwn rfl rfl (by omega)) ?_ | refine LW.op rfl (R.ixArr rfl rfl (by omega)) ?_)) | refine LW.op rfl (R.moveI rfl) ?_ | refine LW.op rfl (R.moveS rfl) ?_ | refine LW.op rfl (R.moveP rfl) ?_ | refine LW.op rfl (R.moveB rfl) ?_ | refine LW.op rfl (R.moveT rfl) ?_ | refine LW.op rfl (R.moveA rfl) ?_ | refine LW.op rfl (R.moveU rfl) ?_ | refine LW.op rfl (R.assignI rfl) ?_ | refine LW.op rfl (R.assignS rfl) ?_ | refine LW.op rfl (R.assignP rfl) ?_ | refine LW.op rfl (R.assignB rfl) ?_ | refine LW.op rfl (R.assignT rfl) ?_ | refine LW.op rfl (R.assignA rfl) ?_ | refine LW.op rfl (R.assignU rfl) ?_ | refine LW.op rfl (R.move) ?_ | refine LW.op rfl (R.assign) ?_ | refine LW.op rfl (R.ixStr rfl rfl (by omega)) ?_))
    | refine CW.seq ?_
    | refine CW.block ?_
    | refine CW.region ?_
    | refine CW.skip ?_
    | refine CW.exit ?_
    | refine CW.ret ?_
    | refine LW.nil ?_
    | refine thn_n ?_
    | refine thn_r ?_
    | refine thn_e ?_
    | refine inB_n ?_
    | refine inB_r ?_
    | refine inB_eq rfl ?_
    | refine inB_ne rfl ?_
    | refine CW.cond_true rfl rfl ?_
    | refine CW.cond_false rfl rfl ?_
    | refine CW.cond_true rfl (by assumption) ?_
    | refine CW.cond_false rfl (by assumption) ?_
    | (refine CW.cond rfl ?_ ?_ <;> (intro h; have h1 := h; (try simp only [decide_eq_true_eq, decide_eq_false_iff_not, Bool.not_eq_true', Bool.not_eq_false', Bool.and_eq_true, Bool.or_eq_true, Bool.and_eq_false_iff, Bool.or_eq_false_iff, Bool.not_true, Bool.not_false, Int.not_lt, Int.not_le, Bool.not_eq_eq_eq_not, reduceCtorEq] at h1); (try (exfalso; omega))))
    | (refine CW.quiet S rfl rfl (by kernel_rfl) ?_)
    | (refine CW.tail S rfl rfl (by kernel_rfl) ?_; intro u S)
    | (refine TW.kOp ?_; (first | refine TW.op rfl (R.lss rfl rfl) ?_ | refine TW.op rfl (R.neq rfl rfl) ?_ | refine TW.op rfl (R.neqS rfl rfl) ?_ | refine TW.op rfl (R.lssS rfl rfl) ?_ | refine TW.op rfl (R.add rfl rfl (by omega)) ?_ | refine TW.op rfl (R.lenSl rfl) ?_ | refine TW.op rfl (R.lenSt rfl) ?_ | refine TW.op rfl (R.moveI rfl) ?_ | refine TW.op rfl (R.moveS rfl) ?_ | refine TW.op rfl (R.moveP rfl) ?_ | refine TW.op rfl (R.moveB rfl) ?_ | refine TW.op rfl (R.moveT rfl) ?_ | refine TW.op rfl (R.moveA rfl) ?_ | refine TW.op rfl (R.moveU rfl) ?_ | refine TW.op rfl (R.assignI rfl) ?_ | refine TW.op rfl (R.assignS rfl) ?_ | refine TW.op rfl (R.assignP rfl) ?_ | refine TW.op rfl (R.assignB rfl) ?_ | refine TW.op rfl (R.assignT rfl) ?_ | refine TW.op rfl (R.assignA rfl) ?_ | refine TW.op rfl (R.assignU rfl) ?_ | refine TW.op rfl (R.move) ?_ | refine TW.op rfl (R.assign) ?_ | refine TW.op rfl (R.ixStr rfl rfl (by omega)) ?_ | refine TW.op rfl (R.ixEaN rfl rfl (by assumption) (by omega)) ?_ | refine TW.op rfl (R.ixEa rfl rfl (by assumption) (by omega)) ?_ | refine TW.op rfl (R.ixOwn rfl rfl (by omega)) ?_ | refine TW.op rfl (R.ixArr rfl rfl (by omega)) ?_ | refine TW.op rfl (R.loadOwn S 0 rfl rfl rfl) ?_ | refine TW.op rfl (R.loadOwn S 1 rfl rfl rfl) ?_ | refine TW.op rfl (R.loadOwn S 2 rfl rfl rfl) ?_ | refine TW.op rfl (R.loadOwn S 3 rfl rfl rfl) ?_ | refine TW.op rfl (R.loadOwn S 4 rfl rfl rfl) ?_ | refine TW.op rfl (R.loadOwn S 5 rfl rfl rfl) ?_ | refine TW.op rfl (R.loadRow S 0 rfl rfl rfl) ?_ | refine TW.op rfl (R.loadRow S 1 rfl rfl rfl) ?_ | refine TW.op rfl (R.loadRow S 2 rfl rfl rfl) ?_ | refine TW.op rfl (R.loadRow S 3 rfl rfl rfl) ?_ | refine TW.op rfl (R.loadRow S 4 rfl rfl rfl) ?_ | refine TW.op rfl (R.loadRow S 5 rfl rfl rfl) ?_ | refine TW.op rfl (R.loadEl1 S rfl (by assumption) (by repeat (first | exact .head _ | refine .tail _ ?_)) rfl (by omega) rfl) ?_ | refine TW.op rfl (R.loadEl S rfl (by assumption) (by repeat (first | exact .head _ | refine .tail _ ?_)) rfl (by omega) rfl) ?_ | refine TW.op rfl (R.loadFld S rfl (by assumption) (by repeat (first | exact .head _ | refine .tail _ ?_)) rfl (by omega) rfl) ?_))
    | refine TW.nil ?_
    | (refine QW.kOp ?_; (first | refine QW.guard_on rfl rfl rfl ?_ | refine QW.guard_off rfl rfl rfl ?_ | refine QW.guard_on rfl rfl (by assumption) ?_ | refine QW.guard_off rfl rfl (by assumption) ?_ | (refine QW.guard rfl rfl ?_ ?_ <;> (intro h; have h1 := h; (try simp only [decide_eq_true_eq, decide_eq_false_iff_not, Bool.not_eq_true', Bool.not_eq_false', Bool.and_eq_true, Bool.or_eq_true, Bool.and_eq_false_iff, Bool.or_eq_false_iff, Bool.not_true, Bool.not_false, Int.not_lt, Int.not_le, Bool.not_eq_eq_eq_not, reduceCtorEq] at h1); (try (exfalso; omega)))) | refine QW.op rfl (fun _ S => R.lss rfl rfl) ?_ | refine QW.op rfl (fun _ S => R.neq rfl rfl) ?_ | refine QW.op rfl (fun _ S => R.neqS rfl rfl) ?_ | refine QW.op rfl (fun _ S => R.lssS rfl rfl) ?_ | refine QW.op rfl (fun _ S => R.add rfl rfl (by omega)) ?_ | refine QW.op rfl (fun _ S => R.lenSl rfl) ?_ | refine QW.op rfl (fun _ S => R.lenSt rfl) ?_ | refine QW.op rfl (fun _ S => R.moveI rfl) ?_ | refine QW.op rfl (fun _ S => R.moveS rfl) ?_ | refine QW.op rfl (fun _ S => R.moveP rfl) ?_ | refine QW.op rfl (fun _ S => R.moveB rfl) ?_ | refine QW.op rfl (fun _ S => R.moveT rfl) ?_ | refine QW.op rfl (fun _ S => R.moveA rfl) ?_ | refine QW.op rfl (fun _ S => R.moveU rfl) ?_ | refine QW.op rfl (fun _ S => R.assignI rfl) ?_ | refine QW.op rfl (fun _ S => R.assignS rfl) ?_ | refine QW.op rfl (fun _ S => R.assignP rfl) ?_ | refine QW.op rfl (fun _ S => R.assignB rfl) ?_ | refine QW.op rfl (fun _ S => R.assignT rfl) ?_ | refine QW.op rfl (fun _ S => R.assignA rfl) ?_ | refine QW.op rfl (fun _ S => R.assignU rfl) ?_ | refine QW.op rfl (fun _ S => R.move) ?_ | refine QW.op rfl (fun _ S => R.assign) ?_ | refine QW.op rfl (fun _ S => R.ixStr rfl rfl (by omega)) ?_ | refine QW.op rfl (fun _ S => R.ixEaN rfl rfl (by assumption) (by omega)) ?_ | refine QW.op rfl (fun _ S => R.ixEa rfl rfl (by assumption) (by omega)) ?_ | refine QW.op rfl (fun _ S => R.ixOwn rfl rfl (by omega)) ?_ | refine QW.op rfl (fun _ S => R.ixArr rfl rfl (by omega)) ?_ | refine QW.op rfl (fun _ S => R.loadOwn S 0 rfl rfl rfl) ?_ | refine QW.op rfl (fun _ S => R.loadOwn S 1 rfl rfl rfl) ?_ | refine QW.op rfl (fun _ S => R.loadOwn S 2 rfl rfl rfl) ?_ | refine QW.op rfl (fun _ S => R.loadOwn S 3 rfl rfl rfl) ?_ | refine QW.op rfl (fun _ S => R.loadOwn S 4 rfl rfl rfl) ?_ | refine QW.op rfl (fun _ S => R.loadOwn S 5 rfl rfl rfl) ?_ | refine QW.op rfl (fun _ S => R.loadRow S 0 rfl rfl rfl) ?_ | refine QW.op rfl (fun _ S => R.loadRow S 1 rfl rfl rfl) ?_ | refine QW.op rfl (fun _ S => R.loadRow S 2 rfl rfl rfl) ?_ | refine QW.op rfl (fun _ S => R.loadRow S 3 rfl rfl rfl) ?_ | refine QW.op rfl (fun _ S => R.loadRow S 4 rfl rfl rfl) ?_ | refine QW.op rfl (fun _ S => R.loadRow S 5 rfl rfl rfl) ?_ | refine QW.op rfl (fun _ S => R.loadEl1 S rfl (by assumption) (by repeat (first | exact .head _ | refine .tail _ ?_)) rfl (by omega) rfl) ?_ | refine QW.op rfl (fun _ S => R.loadEl S rfl (by assumption) (by repeat (first | exact .head _ | refine .tail _ ?_)) rfl (by omega) rfl) ?_ | refine QW.op rfl (fun _ S => R.loadFld S rfl (by assumption) (by repeat (first | exact .head _ | refine .tail _ ?_)) rfl (by omega) rfl) ?_))
    | (refine QW.nil ?_; intro u S))
  all_goals first
    | (refine Fin.bool rfl (.inl rfl) S rfl ?_; grind [List.ext_getElem_iff])
    | exact ⟨k + 1, by omega, ⟨rfl, rfl, rfl, trivial⟩, by omega, by omega, by grind, S⟩
end V
end Go.Proofs.Ytpkkpinhjedjjaa
