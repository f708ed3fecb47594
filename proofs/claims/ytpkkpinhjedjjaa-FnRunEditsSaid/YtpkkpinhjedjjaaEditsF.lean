/- The law of the edits, on what is drawn. -/
import Derived.Test.YtpkkpinhjedjjaaEditsE
import Derived.Test.YtpkkpinhjedjjaaEditsB
namespace Go.Proofs.Ytpkkpinhjedjjaa
namespace V
open Flat (enc)
set_option linter.unusedVariables false
set_option linter.unusedSimpArgs false
set_option maxHeartbeats 1000000
open Go.RowKit
attribute [local irreducible] GrF Gr SlF SlG OwF fl

theorem packed {P : Program} {f : FuncId} {args : Array Value} {w : World} {g : Value → Value} {R : Value → World → Prop} {B : World → Prop} (h : Calls P f args w fun e w' => ∃ v, e = .returned (g v) ∧ R v w' ∧ B w') : Calls P f args w fun e w' => ∃ u, e = .returned u ∧ (∃ v, u = g v ∧ R v w') ∧ B w' :=
  h.mono fun e w' ⟨v, he, hR, hB⟩ => ⟨_, he, ⟨v, rfl, hR⟩, hB⟩
theorem drawRunEdits_any (a : Option Addr) (cap : Nat) (l : List UInt8) (w : World) (hs : SlF 0 w.heap.size w a l) (hc : l.length ≤ cap) :
    Calls Try.prog 5 #[.slice a l.length cap] w fun e w' => ∃ v, e = .returned v ∧ (∃ (v1 v2 : Value) (xs : List Int) (es : List Edit), v = .tuple #[v1, v2] ∧ OwF w.heap.size w' v1 3 xs ∧ OwF w.heap.size w' v2 32 es ∧ xs.length ≤ 6 ∧ es.length ≤ 21) ∧ Below w.heap.size w w' := by
  have S := Now.init w
  refine calls Try.func5 rfl rfl ?_
  repeat' (first
    | (refine LW.kOp ?_; (first | (refine LW.kGu ?_; (first | refine LW.guard_on rfl rfl ?_ | refine LW.guard_off rfl rfl rfl ?_ | refine LW.guard_on rfl (by assumption) ?_ | refine LW.guard_off rfl rfl (by assumption) ?_ | (refine LW.guard rfl rfl ?_ ?_ <;> (intro h; have h1 := h; (try simp only [decide_eq_true_eq, decide_eq_false_iff_not, Bool.not_eq_true', Bool.not_eq_false', Bool.and_eq_true, Bool.or_eq_true, Bool.and_eq_false_iff, Bool.or_eq_false_iff, Bool.not_true, Bool.not_false, Int.not_lt, Int.not_le, Bool.not_eq_eq_eq_not, reduceCtorEq] at h1); (try (exfalso; omega)))))) | (refine LW.kBin ?_; (first | fail)) | (refine LW.kCal ?_; (first | (refine LW.callC S rfl Try.call19 rfl (newReader_any _ _ _ _ (SlF.now S (.head _) hs) hc) ?_; intro v u hR hB S))) | (refine LW.kBui ?_; (first | fail)) | (refine LW.kLoad ?_; (first | fail)) | (refine LW.kStore ?_; (first | fail)) | (refine LW.kIx ?_; (first | fail)) | refine LW.op rfl (R.moveI rfl) ?_ | refine LW.op rfl (R.moveS rfl) ?_ | refine LW.op rfl (R.moveP rfl) ?_ | refine LW.op rfl (R.moveB rfl) ?_ | refine LW.op rfl (R.moveT rfl) ?_ | refine LW.op rfl (R.moveA rfl) ?_ | refine LW.op rfl (R.moveU rfl) ?_ | refine LW.op rfl (R.assignI rfl) ?_ | refine LW.op rfl (R.assignS rfl) ?_ | refine LW.op rfl (R.assignP rfl) ?_ | refine LW.op rfl (R.assignB rfl) ?_ | refine LW.op rfl (R.assignT rfl) ?_ | refine LW.op rfl (R.assignA rfl) ?_ | refine LW.op rfl (R.assignU rfl) ?_ | refine LW.op rfl (R.move) ?_ | refine LW.op rfl (R.assign) ?_ | refine LW.op rfl (R.extract rfl rfl) ?_))
    | refine CW.seq ?_
    | refine CW.block ?_
    | refine CW.region ?_
    | refine CW.skip ?_
    | refine CW.exit ?_
    | refine CW.ret ?_
    | refine LW.nil ?_
    | refine thn_n ?_
    | refine thn_r ?_
    | refine thn_e ?_
    | refine inB_n ?_
    | refine inB_r ?_
    | refine inB_eq rfl ?_
    | refine inB_ne rfl ?_
    | refine CW.cond_true rfl rfl ?_
    | refine CW.cond_false rfl rfl ?_
    | refine CW.cond_true rfl (by assumption) ?_
    | refine CW.cond_false rfl (by assumption) ?_
    | (refine CW.cond rfl ?_ ?_ <;> (intro h; have h1 := h; (try simp only [decide_eq_true_eq, decide_eq_false_iff_not, Bool.not_eq_true', Bool.not_eq_false', Bool.and_eq_true, Bool.or_eq_true, Bool.and_eq_false_iff, Bool.or_eq_false_iff, Bool.not_true, Bool.not_false, Int.not_lt, Int.not_le, Bool.not_eq_eq_eq_not, reduceCtorEq] at h1); (try (exfalso; omega)))))
  obtain ⟨rb, T, l', rfl, hge, hrb, hl', hs'⟩ := hR
  have hsz := S.base.size
  have S : Now ⟨w, []⟩ [⟨0, w.heap.size, w⟩] [(rb, rdo T a l'.length cap 0)] u := Now.insB (O1 := []) (O2 := []) S.sn1 hB hrb hge
  repeat' (first
    | (refine LW.kOp ?_; (first | (refine LW.kGu ?_; (first | refine LW.guard_on rfl rfl ?_ | refine LW.guard_off rfl rfl rfl ?_ | refine LW.guard_on rfl (by assumption) ?_ | refine LW.guard_off rfl rfl (by assumption) ?_ | (refine LW.guard rfl rfl ?_ ?_ <;> (intro h; have h1 := h; (try simp only [decide_eq_true_eq, decide_eq_false_iff_not, Bool.not_eq_true', Bool.not_eq_false', Bool.and_eq_true, Bool.or_eq_true, Bool.and_eq_false_iff, Bool.or_eq_false_iff, Bool.not_true, Bool.not_false, Int.not_lt, Int.not_le, Bool.not_eq_eq_eq_not, reduceCtorEq] at h1); (try (exfalso; omega)))))) | (refine LW.kBin ?_; (first | fail)) | (refine LW.kCal ?_; (first | (refine LW.callD S 0 rfl Try.call18 rfl rfl (anyEdits_any _ hrb (SlF.mono hs' (Nat.le_refl 0) hge) hl' (by omega) (by omega)) ?_; intro v u p hR hp1 hp2 hB S))) | (refine LW.kBui ?_; (first | fail)) | (refine LW.kLoad ?_; (first | fail)) | (refine LW.kStore ?_; (first | fail)) | (refine LW.kIx ?_; (first | fail)) | refine LW.op rfl (R.moveI rfl) ?_ | refine LW.op rfl (R.moveS rfl) ?_ | refine LW.op rfl (R.moveP rfl) ?_ | refine LW.op rfl (R.moveB rfl) ?_ | refine LW.op rfl (R.moveT rfl) ?_ | refine LW.op rfl (R.moveA rfl) ?_ | refine LW.op rfl (R.moveU rfl) ?_ | refine LW.op rfl (R.assignI rfl) ?_ | refine LW.op rfl (R.assignS rfl) ?_ | refine LW.op rfl (R.assignP rfl) ?_ | refine LW.op rfl (R.assignB rfl) ?_ | refine LW.op rfl (R.assignT rfl) ?_ | refine LW.op rfl (R.assignA rfl) ?_ | refine LW.op rfl (R.assignU rfl) ?_ | refine LW.op rfl (R.move) ?_ | refine LW.op rfl (R.assign) ?_ | refine LW.op rfl (R.extract rfl rfl) ?_))
    | refine CW.seq ?_
    | refine CW.block ?_
    | refine CW.region ?_
    | refine CW.skip ?_
    | refine CW.exit ?_
    | refine CW.ret ?_
    | refine LW.nil ?_
    | refine thn_n ?_
    | refine thn_r ?_
    | refine thn_e ?_
    | refine inB_n ?_
    | refine inB_r ?_
    | refine inB_eq rfl ?_
    | refine inB_ne rfl ?_
    | refine CW.cond_true rfl rfl ?_
    | refine CW.cond_false rfl rfl ?_
    | refine CW.cond_true rfl (by assumption) ?_
    | refine CW.cond_false rfl (by assumption) ?_
    | (refine CW.cond rfl ?_ ?_ <;> (intro h; have h1 := h; (try simp only [decide_eq_true_eq, decide_eq_false_iff_not, Bool.not_eq_true', Bool.not_eq_false', Bool.and_eq_true, Bool.or_eq_true, Bool.and_eq_false_iff, Bool.or_eq_false_iff, Bool.not_true, Bool.not_false, Int.not_lt, Int.not_le, Bool.not_eq_eq_eq_not, reduceCtorEq] at h1); (try (exfalso; omega)))))
  obtain ⟨v1, v2, xs, es, rfl, h1, h2, h3, h4⟩ := hR
  repeat' (first
    | (refine LW.kOp ?_; (first | (refine LW.kGu ?_; (first | refine LW.guard_on rfl rfl ?_ | refine LW.guard_off rfl rfl rfl ?_ | refine LW.guard_on rfl (by assumption) ?_ | refine LW.guard_off rfl rfl (by assumption) ?_ | (refine LW.guard rfl rfl ?_ ?_ <;> (intro h; have h1 := h; (try simp only [decide_eq_true_eq, decide_eq_false_iff_not, Bool.not_eq_true', Bool.not_eq_false', Bool.and_eq_true, Bool.or_eq_true, Bool.and_eq_false_iff, Bool.or_eq_false_iff, Bool.not_true, Bool.not_false, Int.not_lt, Int.not_le, Bool.not_eq_eq_eq_not, reduceCtorEq] at h1); (try (exfalso; omega)))))) | (refine LW.kBin ?_; (first | fail)) | (refine LW.kCal ?_; (first | fail)) | (refine LW.kBui ?_; (first | fail)) | (refine LW.kLoad ?_; (first | fail)) | (refine LW.kStore ?_; (first | fail)) | (refine LW.kIx ?_; (first | fail)) | refine LW.op rfl (R.moveI rfl) ?_ | refine LW.op rfl (R.moveS rfl) ?_ | refine LW.op rfl (R.moveP rfl) ?_ | refine LW.op rfl (R.moveB rfl) ?_ | refine LW.op rfl (R.moveT rfl) ?_ | refine LW.op rfl (R.moveA rfl) ?_ | refine LW.op rfl (R.moveU rfl) ?_ | refine LW.op rfl (R.assignI rfl) ?_ | refine LW.op rfl (R.assignS rfl) ?_ | refine LW.op rfl (R.assignP rfl) ?_ | refine LW.op rfl (R.assignB rfl) ?_ | refine LW.op rfl (R.assignT rfl) ?_ | refine LW.op rfl (R.assignA rfl) ?_ | refine LW.op rfl (R.assignU rfl) ?_ | refine LW.op rfl (R.move) ?_ | refine LW.op rfl (R.assign) ?_ | refine LW.op rfl (R.extract rfl rfl) ?_))
    | refine CW.seq ?_
    | refine CW.block ?_
    | refine CW.region ?_
    | refine CW.skip ?_
    | refine CW.exit ?_
    | refine CW.ret ?_
    | refine LW.nil ?_
    | refine thn_n ?_
    | refine thn_r ?_
    | refine thn_e ?_
    | refine inB_n ?_
    | refine inB_r ?_
    | refine inB_eq rfl ?_
    | refine inB_ne rfl ?_
    | refine CW.cond_true rfl rfl ?_
    | refine CW.cond_false rfl rfl ?_
    | refine CW.cond_true rfl (by assumption) ?_
    | refine CW.cond_false rfl (by assumption) ?_
    | (refine CW.cond rfl ?_ ?_ <;> (intro h; have h1 := h; (try simp only [decide_eq_true_eq, decide_eq_false_iff_not, Bool.not_eq_true', Bool.not_eq_false', Bool.and_eq_true, Bool.or_eq_true, Bool.and_eq_false_iff, Bool.or_eq_false_iff, Bool.not_true, Bool.not_false, Int.not_lt, Int.not_le, Bool.not_eq_eq_eq_not, reduceCtorEq] at h1); (try (exfalso; omega)))))
  exact Fin.ret2 rfl (.inl rfl) ⟨_, rfl, ⟨v1, v2, xs, es, rfl, h1.keep S (.head _) hsz, h2.keep S (.head _) hsz, h3, h4⟩, S.base.below⟩

theorem vsB_run {s : List Int} {l : List Edit} (h : reB s l = true) (k : Nat) (hk : k ≤ l.length) : vsB (runF s (l.take k)) = true := by
  induction k with
  | zero => unfold reB at h; simp only [Bool.and_eq_true] at h; simpa [runF] using h.1.1
  | succ k ih =>
    have h1 := ih (by omega)
    have h2 : poB (runF s (l.take k)) l[k] = true := by
      unfold reB vEB at h; simp only [Bool.and_eq_true, decide_eq_true_eq] at h; exact h.2 k (by omega)
    rw [runF_succ s l k (by omega)]
    unfold vsB at h1 ⊢; unfold poB at h2; unfold doE
    simp only [decide_eq_true_eq] at h1 h2 ⊢
    refine ⟨by simpa using h1.1, by simpa using h1.2.1, fun n hn => ?_⟩
    rcases List.mem_or_eq_of_mem_set hn with hn | rfl
    · exact h1.2.2 n hn
    · omega
theorem step_run {s : List Int} {l : List Edit} (h : reB s l = true) (k : Nat) (hk : k < l.length) : (vsB (runF s (l.take k)) && poB (runF s (l.take k)) l[k]) = true := by
  rw [vsB_run h k (by omega)]
  unfold reB vEB at h; simp only [Bool.and_eq_true, decide_eq_true_eq] at h
  simpa using h.2 k hk
theorem reR_len (s : List Int) (l : List Edit) : (reR s l).length ≤ s.length := by
  unfold reR; split
  · rw [runF_len]; exact Nat.le_refl _
  · simp
theorem equalSame (a : Option Addr) (cap : Nat) (s t : List Int) (b : Option Addr) (cap2 : Nat) (w : World) (hs : SlF 0 w.heap.size w a s) (ht : SlF 0 w.heap.size w b t) (hl : s.length ≤ 140737488355328) (h : s = t) :
    Calls Try.prog 8 #[.slice a s.length cap, .slice b t.length cap2] w fun e w' => e = .returned (.bool true) ∧ Below w.heap.size w w' :=
  (equalInts_any a cap s b cap2 t w hs ht hl).mono fun e w' ⟨h1, h2⟩ => ⟨by rw [h1, decide_eq_true h], h2⟩
theorem doEditYes (e : Edit) (a : Option Addr) (cap : Nat) (s : List Int) (w : World) (hs : SlF 0 w.heap.size w a s) (hl : s.length ≤ 140737488355328) (hn : a = none → cap = 0) (h : (vsB s && poB s e) = true) :
    Calls Try.prog 9 #[.slice a s.length cap, .agg (enc e).toArray] w fun e' w' => ∃ u, e' = .returned u ∧ (∃ v, u = .tuple #[v, .bool true] ∧ OwF w.heap.size w' v 3 (doE s e)) ∧ Below w.heap.size w w' := by
  have := doEdit_any e a cap s w hs hl hn
  rw [h] at this
  exact packed this
theorem lawRunEdits_any (a : Option Addr) (cap : Nat) (l : List UInt8) (w : World) (hs : SlF 0 w.heap.size w a l) (hc : l.length ≤ cap) :
    Calls Try.prog 3 #[.slice a l.length cap] w fun e w' => e = .returned (.bool true) ∧ Below w.heap.size w w' := by
  have S := Now.init w
  refine calls Try.func3 rfl rfl ?_
  repeat' (first
    | (refine LW.kOp ?_; (first | (refine LW.kGu ?_; (first | refine LW.guard_on rfl rfl ?_ | refine LW.guard_off rfl rfl rfl ?_ | refine LW.guard_on rfl (by assumption) ?_ | refine LW.guard_off rfl rfl (by assumption) ?_ | (refine LW.guard rfl rfl ?_ ?_ <;> (intro h; have h1 := h; (try simp only [decide_eq_true_eq, decide_eq_false_iff_not, Bool.not_eq_true', Bool.not_eq_false', Bool.and_eq_true, Bool.or_eq_true, Bool.and_eq_false_iff, Bool.or_eq_false_iff, Bool.not_true, Bool.not_false, Int.not_lt, Int.not_le, Bool.not_eq_eq_eq_not, reduceCtorEq] at h1); (try (exfalso; omega)))))) | (refine LW.kBin ?_; (first | refine LW.op rfl (R.lss rfl rfl) ?_ | refine LW.op rfl (R.gtr rfl rfl) ?_ | refine LW.op rfl (R.eql rfl rfl) ?_ | refine LW.op rfl (R.neq rfl rfl) ?_ | refine LW.op rfl (R.eqlB rfl rfl) ?_ | refine LW.op rfl (R.neqB rfl rfl) ?_ | refine LW.op rfl (R.eqlS rfl rfl) ?_ | refine LW.op rfl (R.neqS rfl rfl) ?_ | refine LW.op rfl (R.lssS rfl rfl) ?_ | refine LW.op rfl (R.eqlNil rfl rfl) ?_ | refine LW.op rfl (R.add rfl rfl (by omega)) ?_)) | (refine LW.kCal ?_; (first | (refine LW.callC S rfl Try.call5 rfl (drawRunEdits_any _ _ _ _ (SlF.now S (.head _) hs) hc) ?_; intro v u hR hB S))) | (refine LW.kBui ?_; (first | refine LW.op rfl (R.lenSl rfl) ?_ | refine LW.op rfl (R.lenSt rfl) ?_)) | (refine LW.kLoad ?_; (first | refine LW.op rfl (R.loadOwn S 0 rfl rfl rfl) ?_ | refine LW.op rfl (R.loadOwn S 1 rfl rfl rfl) ?_ | refine LW.op rfl (R.loadOwn S 2 rfl rfl rfl) ?_ | refine LW.op rfl (R.loadOwn S 3 rfl rfl rfl) ?_ | refine LW.op rfl (R.loadOwn S 4 rfl rfl rfl) ?_ | refine LW.op rfl (R.loadOwn S 5 rfl rfl rfl) ?_ | refine LW.op rfl (R.loadRow S 0 rfl rfl rfl) ?_ | refine LW.op rfl (R.loadRow S 1 rfl rfl rfl) ?_ | refine LW.op rfl (R.loadRow S 2 rfl rfl rfl) ?_ | refine LW.op rfl (R.loadRow S 3 rfl rfl rfl) ?_ | refine LW.op rfl (R.loadRow S 4 rfl rfl rfl) ?_ | refine LW.op rfl (R.loadRow S 5 rfl rfl rfl) ?_ | refine LW.op rfl (R.loadEl1 S rfl (by assumption) (by repeat (first | exact .head _ | refine .tail _ ?_)) rfl (by omega) rfl) ?_ | refine LW.op rfl (R.loadEl S rfl (by assumption) (by repeat (first | exact .head _ | refine .tail _ ?_)) rfl (by omega) rfl) ?_ | refine LW.op rfl (R.loadFld S rfl (by assumption) (by repeat (first | exact .head _ | refine .tail _ ?_)) rfl (by omega) rfl) ?_)) | (refine LW.kStore ?_; (first | fail)) | (refine LW.kIx ?_; (first | refine LW.op rfl (R.ixEaN rfl rfl (by assumption) (by omega)) ?_ | refine LW.op rfl (R.ixEa rfl rfl (by assumption) (by omega)) ?_ | refine LW.op rfl (R.ixOwn rfl rfl (by omega)) ?_ | refine LW.op rfl (R.ixArr rfl rfl (by omega)) ?_)) | refine LW.op rfl (R.moveI rfl) ?_ | refine LW.op rfl (R.moveS rfl) ?_ | refine LW.op rfl (R.moveP rfl) ?_ | refine LW.op rfl (R.moveB rfl) ?_ | refine LW.op rfl (R.moveT rfl) ?_ | refine LW.op rfl (R.moveA rfl) ?_ | refine LW.op rfl (R.moveU rfl) ?_ | refine LW.op rfl (R.assignI rfl) ?_ | refine LW.op rfl (R.assignS rfl) ?_ | refine LW.op rfl (R.assignP rfl) ?_ | refine LW.op rfl (R.assignB rfl) ?_ | refine LW.op rfl (R.assignT rfl) ?_ | refine LW.op rfl (R.assignA rfl) ?_ | refine LW.op rfl (R.assignU rfl) ?_ | refine LW.op rfl (R.move) ?_ | refine LW.op rfl (R.assign) ?_ | refine LW.op rfl (R.pick_t rfl rfl) ?_ | refine LW.op rfl (R.pick_f rfl rfl) ?_ | refine LW.op rfl (R.pick_t rfl (by assumption)) ?_ | refine LW.op rfl (R.pick_f rfl (by assumption)) ?_ | refine LW.op rfl (R.unnot rfl) ?_ | refine LW.op rfl (R.neg rfl (by omega)) ?_ | refine LW.op rfl (R.extract rfl rfl) ?_ | refine LW.op rfl (R.ixStr rfl rfl (by omega)) ?_))
    | refine CW.seq ?_
    | refine CW.block ?_
    | refine CW.region ?_
    | refine CW.skip ?_
    | refine CW.exit ?_
    | refine CW.ret ?_
    | refine LW.nil ?_
    | refine thn_n ?_
    | refine thn_r ?_
    | refine thn_e ?_
    | refine inB_n ?_
    | refine inB_r ?_
    | refine inB_eq rfl ?_
    | refine inB_ne rfl ?_
    | refine CW.cond_true rfl rfl ?_
    | refine CW.cond_false rfl rfl ?_
    | refine CW.cond_true rfl (by assumption) ?_
    | refine CW.cond_false rfl (by assumption) ?_
    | (refine CW.cond rfl ?_ ?_ <;> (intro h; have h1 := h; (try simp only [decide_eq_true_eq, decide_eq_false_iff_not, Bool.not_eq_true', Bool.not_eq_false', Bool.and_eq_true, Bool.or_eq_true, Bool.and_eq_false_iff, Bool.or_eq_false_iff, Bool.not_true, Bool.not_false, Int.not_lt, Int.not_le, Bool.not_eq_eq_eq_not, reduceCtorEq] at h1); (try (exfalso; omega)))))
  · exact Fin.bool rfl (.inl rfl) S rfl rfl
  obtain ⟨v1, v2, xs, es, rfl, hx, he, hxl, hel⟩ := hR
  rename World => uD
  obtain ⟨a1, c1, rfl, hxs, hn1⟩ := hx.shapeN
  obtain ⟨a2, c2, rfl, hes, hn2⟩ := he.shapeN
  repeat' (first
    | (refine LW.kOp ?_; (first | (refine LW.kGu ?_; (first | refine LW.guard_on rfl rfl ?_ | refine LW.guard_off rfl rfl rfl ?_ | refine LW.guard_on rfl (by assumption) ?_ | refine LW.guard_off rfl rfl (by assumption) ?_ | (refine LW.guard rfl rfl ?_ ?_ <;> (intro h; have h1 := h; (try simp only [decide_eq_true_eq, decide_eq_false_iff_not, Bool.not_eq_true', Bool.not_eq_false', Bool.and_eq_true, Bool.or_eq_true, Bool.and_eq_false_iff, Bool.or_eq_false_iff, Bool.not_true, Bool.not_false, Int.not_lt, Int.not_le, Bool.not_eq_eq_eq_not, reduceCtorEq] at h1); (try (exfalso; omega)))))) | (refine LW.kBin ?_; (first | refine LW.op rfl (R.lss rfl rfl) ?_ | refine LW.op rfl (R.gtr rfl rfl) ?_ | refine LW.op rfl (R.eql rfl rfl) ?_ | refine LW.op rfl (R.neq rfl rfl) ?_ | refine LW.op rfl (R.eqlB rfl rfl) ?_ | refine LW.op rfl (R.neqB rfl rfl) ?_ | refine LW.op rfl (R.eqlS rfl rfl) ?_ | refine LW.op rfl (R.neqS rfl rfl) ?_ | refine LW.op rfl (R.lssS rfl rfl) ?_ | refine LW.op rfl (R.eqlNil rfl rfl) ?_ | refine LW.op rfl (R.add rfl rfl (by omega)) ?_)) | (refine LW.kCal ?_; (first | (refine LW.callC S rfl Try.call6 rfl (packed (runEdits_any _ _ xs _ _ es _ (SlF.now S (by repeat (first | exact .head _ | refine .tail _ ?_)) hxs) (by omega) (SlF.now S (by repeat (first | exact .head _ | refine .tail _ ?_)) hes) (by omega) hn1)) ?_; intro v u hR hB S))) | (refine LW.kBui ?_; (first | refine LW.op rfl (R.lenSl rfl) ?_ | refine LW.op rfl (R.lenSt rfl) ?_)) | (refine LW.kLoad ?_; (first | refine LW.op rfl (R.loadOwn S 0 rfl rfl rfl) ?_ | refine LW.op rfl (R.loadOwn S 1 rfl rfl rfl) ?_ | refine LW.op rfl (R.loadOwn S 2 rfl rfl rfl) ?_ | refine LW.op rfl (R.loadOwn S 3 rfl rfl rfl) ?_ | refine LW.op rfl (R.loadOwn S 4 rfl rfl rfl) ?_ | refine LW.op rfl (R.loadOwn S 5 rfl rfl rfl) ?_ | refine LW.op rfl (R.loadRow S 0 rfl rfl rfl) ?_ | refine LW.op rfl (R.loadRow S 1 rfl rfl rfl) ?_ | refine LW.op rfl (R.loadRow S 2 rfl rfl rfl) ?_ | refine LW.op rfl (R.loadRow S 3 rfl rfl rfl) ?_ | refine LW.op rfl (R.loadRow S 4 rfl rfl rfl) ?_ | refine LW.op rfl (R.loadRow S 5 rfl rfl rfl) ?_ | refine LW.op rfl (R.loadEl1 S rfl (by assumption) (by repeat (first | exact .head _ | refine .tail _ ?_)) rfl (by omega) rfl) ?_ | refine LW.op rfl (R.loadEl S rfl (by assumption) (by repeat (first | exact .head _ | refine .tail _ ?_)) rfl (by omega) rfl) ?_ | refine LW.op rfl (R.loadFld S rfl (by assumption) (by repeat (first | exact .head _ | refine .tail _ ?_)) rfl (by omega) rfl) ?_)) | (refine LW.kStore ?_; (first | fail)) | (refine LW.kIx ?_; (first | refine LW.op rfl (R.ixEaN rfl rfl (by assumption) (by omega)) ?_ | refine LW.op rfl (R.ixEa rfl rfl (by assumption) (by omega)) ?_ | refine LW.op rfl (R.ixOwn rfl rfl (by omega)) ?_ | refine LW.op rfl (R.ixArr rfl rfl (by omega)) ?_)) | refine LW.op rfl (R.moveI rfl) ?_ | refine LW.op rfl (R.moveS rfl) ?_ | refine LW.op rfl (R.moveP rfl) ?_ | refine LW.op rfl (R.moveB rfl) ?_ | refine LW.op rfl (R.moveT rfl) ?_ | refine LW.op rfl (R.moveA rfl) ?_ | refine LW.op rfl (R.moveU rfl) ?_ | refine LW.op rfl (R.assignI rfl) ?_ | refine LW.op rfl (R.assignS rfl) ?_ | refine LW.op rfl (R.assignP rfl) ?_ | refine LW.op rfl (R.assignB rfl) ?_ | refine LW.op rfl (R.assignT rfl) ?_ | refine LW.op rfl (R.assignA rfl) ?_ | refine LW.op rfl (R.assignU rfl) ?_ | refine LW.op rfl (R.move) ?_ | refine LW.op rfl (R.assign) ?_ | refine LW.op rfl (R.pick_t rfl rfl) ?_ | refine LW.op rfl (R.pick_f rfl rfl) ?_ | refine LW.op rfl (R.pick_t rfl (by assumption)) ?_ | refine LW.op rfl (R.pick_f rfl (by assumption)) ?_ | refine LW.op rfl (R.unnot rfl) ?_ | refine LW.op rfl (R.neg rfl (by omega)) ?_ | refine LW.op rfl (R.extract rfl rfl) ?_ | refine LW.op rfl (R.ixStr rfl rfl (by omega)) ?_))
    | refine CW.seq ?_
    | refine CW.block ?_
    | refine CW.region ?_
    | refine CW.skip ?_
    | refine CW.exit ?_
    | refine CW.ret ?_
    | refine LW.nil ?_
    | refine thn_n ?_
    | refine thn_r ?_
    | refine thn_e ?_
    | refine inB_n ?_
    | refine inB_r ?_
    | refine inB_eq rfl ?_
    | refine inB_ne rfl ?_
    | refine CW.cond_true rfl rfl ?_
    | refine CW.cond_false rfl rfl ?_
    | refine CW.cond_true rfl (by assumption) ?_
    | refine CW.cond_false rfl (by assumption) ?_
    | (refine CW.cond rfl ?_ ?_ <;> (intro h; have h1 := h; (try simp only [decide_eq_true_eq, decide_eq_false_iff_not, Bool.not_eq_true', Bool.not_eq_false', Bool.and_eq_true, Bool.or_eq_true, Bool.and_eq_false_iff, Bool.or_eq_false_iff, Bool.not_true, Bool.not_false, Int.not_lt, Int.not_le, Bool.not_eq_eq_eq_not, reduceCtorEq] at h1); (try (exfalso; omega)))))
  obtain ⟨v, rfl, hR⟩ := hR
  rename World => uR
  obtain ⟨a3, c3, rfl, hr1⟩ := hR.shape
  repeat' (first
    | (refine LW.kOp ?_; (first | (refine LW.kGu ?_; (first | refine LW.guard_on rfl rfl ?_ | refine LW.guard_off rfl rfl rfl ?_ | refine LW.guard_on rfl (by assumption) ?_ | refine LW.guard_off rfl rfl (by assumption) ?_ | (refine LW.guard rfl rfl ?_ ?_ <;> (intro h; have h1 := h; (try simp only [decide_eq_true_eq, decide_eq_false_iff_not, Bool.not_eq_true', Bool.not_eq_false', Bool.and_eq_true, Bool.or_eq_true, Bool.and_eq_false_iff, Bool.or_eq_false_iff, Bool.not_true, Bool.not_false, Int.not_lt, Int.not_le, Bool.not_eq_eq_eq_not, reduceCtorEq] at h1); (try (exfalso; omega)))))) | (refine LW.kBin ?_; (first | refine LW.op rfl (R.lss rfl rfl) ?_ | refine LW.op rfl (R.gtr rfl rfl) ?_ | refine LW.op rfl (R.eql rfl rfl) ?_ | refine LW.op rfl (R.neq rfl rfl) ?_ | refine LW.op rfl (R.eqlB rfl rfl) ?_ | refine LW.op rfl (R.neqB rfl rfl) ?_ | refine LW.op rfl (R.eqlS rfl rfl) ?_ | refine LW.op rfl (R.neqS rfl rfl) ?_ | refine LW.op rfl (R.lssS rfl rfl) ?_ | refine LW.op rfl (R.eqlNil rfl rfl) ?_ | refine LW.op rfl (R.add rfl rfl (by omega)) ?_)) | (refine LW.kCal ?_; (first | (refine LW.callC S rfl Try.call7 rfl (packed (srunEdits_any _ _ xs _ _ es _ (SlF.now S (by repeat (first | exact .head _ | refine .tail _ ?_)) hxs) (by omega) (SlF.now S (by repeat (first | exact .head _ | refine .tail _ ?_)) hes) (by omega))) ?_; intro v u hR hB S))) | (refine LW.kBui ?_; (first | refine LW.op rfl (R.lenSl rfl) ?_ | refine LW.op rfl (R.lenSt rfl) ?_)) | (refine LW.kLoad ?_; (first | refine LW.op rfl (R.loadOwn S 0 rfl rfl rfl) ?_ | refine LW.op rfl (R.loadOwn S 1 rfl rfl rfl) ?_ | refine LW.op rfl (R.loadOwn S 2 rfl rfl rfl) ?_ | refine LW.op rfl (R.loadOwn S 3 rfl rfl rfl) ?_ | refine LW.op rfl (R.loadOwn S 4 rfl rfl rfl) ?_ | refine LW.op rfl (R.loadOwn S 5 rfl rfl rfl) ?_ | refine LW.op rfl (R.loadRow S 0 rfl rfl rfl) ?_ | refine LW.op rfl (R.loadRow S 1 rfl rfl rfl) ?_ | refine LW.op rfl (R.loadRow S 2 rfl rfl rfl) ?_ | refine LW.op rfl (R.loadRow S 3 rfl rfl rfl) ?_ | refine LW.op rfl (R.loadRow S 4 rfl rfl rfl) ?_ | refine LW.op rfl (R.loadRow S 5 rfl rfl rfl) ?_ | refine LW.op rfl (R.loadEl1 S rfl (by assumption) (by repeat (first | exact .head _ | refine .tail _ ?_)) rfl (by omega) rfl) ?_ | refine LW.op rfl (R.loadEl S rfl (by assumption) (by repeat (first | exact .head _ | refine .tail _ ?_)) rfl (by omega) rfl) ?_ | refine LW.op rfl (R.loadFld S rfl (by assumption) (by repeat (first | exact .head _ | refine .tail _ ?_)) rfl (by omega) rfl) ?_)) | (refine LW.kStore ?_; (first | fail)) | (refine LW.kIx ?_; (first | refine LW.op rfl (R.ixEaN rfl rfl (by assumption) (by omega)) ?_ | refine LW.op rfl (R.ixEa rfl rfl (by assumption) (by omega)) ?_ | refine LW.op rfl (R.ixOwn rfl rfl (by omega)) ?_ | refine LW.op rfl (R.ixArr rfl rfl (by omega)) ?_)) | refine LW.op rfl (R.moveI rfl) ?_ | refine LW.op rfl (R.moveS rfl) ?_ | refine LW.op rfl (R.moveP rfl) ?_ | refine LW.op rfl (R.moveB rfl) ?_ | refine LW.op rfl (R.moveT rfl) ?_ | refine LW.op rfl (R.moveA rfl) ?_ | refine LW.op rfl (R.moveU rfl) ?_ | refine LW.op rfl (R.assignI rfl) ?_ | refine LW.op rfl (R.assignS rfl) ?_ | refine LW.op rfl (R.assignP rfl) ?_ | refine LW.op rfl (R.assignB rfl) ?_ | refine LW.op rfl (R.assignT rfl) ?_ | refine LW.op rfl (R.assignA rfl) ?_ | refine LW.op rfl (R.assignU rfl) ?_ | refine LW.op rfl (R.move) ?_ | refine LW.op rfl (R.assign) ?_ | refine LW.op rfl (R.pick_t rfl rfl) ?_ | refine LW.op rfl (R.pick_f rfl rfl) ?_ | refine LW.op rfl (R.pick_t rfl (by assumption)) ?_ | refine LW.op rfl (R.pick_f rfl (by assumption)) ?_ | refine LW.op rfl (R.unnot rfl) ?_ | refine LW.op rfl (R.neg rfl (by omega)) ?_ | refine LW.op rfl (R.extract rfl rfl) ?_ | refine LW.op rfl (R.ixStr rfl rfl (by omega)) ?_))
    | refine CW.seq ?_
    | refine CW.block ?_
    | refine CW.region ?_
    | refine CW.skip ?_
    | refine CW.exit ?_
    | refine CW.ret ?_
    | refine LW.nil ?_
    | refine thn_n ?_
    | refine thn_r ?_
    | refine thn_e ?_
    | refine inB_n ?_
    | refine inB_r ?_
    | refine inB_eq rfl ?_
    | refine inB_ne rfl ?_
    | refine CW.cond_true rfl rfl ?_
    | refine CW.cond_false rfl rfl ?_
    | refine CW.cond_true rfl (by assumption) ?_
    | refine CW.cond_false rfl (by assumption) ?_
    | (refine CW.cond rfl ?_ ?_ <;> (intro h; have h1 := h; (try simp only [decide_eq_true_eq, decide_eq_false_iff_not, Bool.not_eq_true', Bool.not_eq_false', Bool.and_eq_true, Bool.or_eq_true, Bool.and_eq_false_iff, Bool.or_eq_false_iff, Bool.not_true, Bool.not_false, Int.not_lt, Int.not_le, Bool.not_eq_eq_eq_not, reduceCtorEq] at h1); (try (exfalso; omega)))))
  obtain ⟨v, rfl, hR⟩ := hR
  obtain ⟨a4, c4, rfl, hr2⟩ := hR.shape
  have hrl := reR_len xs es
  generalize hb : reB xs es = bb
  cases bb
  · repeat' (first
    | (refine LW.kOp ?_; (first | (refine LW.kGu ?_; (first | refine LW.guard_on rfl rfl ?_ | refine LW.guard_off rfl rfl rfl ?_ | refine LW.guard_on rfl (by assumption) ?_ | refine LW.guard_off rfl rfl (by assumption) ?_ | (refine LW.guard rfl rfl ?_ ?_ <;> (intro h; have h1 := h; (try simp only [decide_eq_true_eq, decide_eq_false_iff_not, Bool.not_eq_true', Bool.not_eq_false', Bool.and_eq_true, Bool.or_eq_true, Bool.and_eq_false_iff, Bool.or_eq_false_iff, Bool.not_true, Bool.not_false, Int.not_lt, Int.not_le, Bool.not_eq_eq_eq_not, reduceCtorEq] at h1); (try (exfalso; omega)))))) | (refine LW.kBin ?_; (first | refine LW.op rfl (R.lss rfl rfl) ?_ | refine LW.op rfl (R.gtr rfl rfl) ?_ | refine LW.op rfl (R.eql rfl rfl) ?_ | refine LW.op rfl (R.neq rfl rfl) ?_ | refine LW.op rfl (R.eqlB rfl rfl) ?_ | refine LW.op rfl (R.neqB rfl rfl) ?_ | refine LW.op rfl (R.eqlS rfl rfl) ?_ | refine LW.op rfl (R.neqS rfl rfl) ?_ | refine LW.op rfl (R.lssS rfl rfl) ?_ | refine LW.op rfl (R.eqlNil rfl rfl) ?_ | refine LW.op rfl (R.add rfl rfl (by omega)) ?_)) | (refine LW.kCal ?_; (first | (refine LW.callV S rfl Try.call8 rfl (equalSame _ _ (reR xs es) (reR xs es) _ _ _ (SlF.now S (by repeat (first | exact .head _ | refine .tail _ ?_)) hr1) (SlF.now S (by repeat (first | exact .head _ | refine .tail _ ?_)) hr2) (by omega) rfl) ?_; intro u S))) | (refine LW.kBui ?_; (first | refine LW.op rfl (R.lenSl rfl) ?_ | refine LW.op rfl (R.lenSt rfl) ?_)) | (refine LW.kLoad ?_; (first | refine LW.op rfl (R.loadOwn S 0 rfl rfl rfl) ?_ | refine LW.op rfl (R.loadOwn S 1 rfl rfl rfl) ?_ | refine LW.op rfl (R.loadOwn S 2 rfl rfl rfl) ?_ | refine LW.op rfl (R.loadOwn S 3 rfl rfl rfl) ?_ | refine LW.op rfl (R.loadOwn S 4 rfl rfl rfl) ?_ | refine LW.op rfl (R.loadOwn S 5 rfl rfl rfl) ?_ | refine LW.op rfl (R.loadRow S 0 rfl rfl rfl) ?_ | refine LW.op rfl (R.loadRow S 1 rfl rfl rfl) ?_ | refine LW.op rfl (R.loadRow S 2 rfl rfl rfl) ?_ | refine LW.op rfl (R.loadRow S 3 rfl rfl rfl) ?_ | refine LW.op rfl (R.loadRow S 4 rfl rfl rfl) ?_ | refine LW.op rfl (R.loadRow S 5 rfl rfl rfl) ?_ | refine LW.op rfl (R.loadEl1 S rfl (by assumption) (by repeat (first | exact .head _ | refine .tail _ ?_)) rfl (by omega) rfl) ?_ | refine LW.op rfl (R.loadEl S rfl (by assumption) (by repeat (first | exact .head _ | refine .tail _ ?_)) rfl (by omega) rfl) ?_ | refine LW.op rfl (R.loadFld S rfl (by assumption) (by repeat (first | exact .head _ | refine .tail _ ?_)) rfl (by omega) rfl) ?_)) | (refine LW.kStore ?_; (first | fail)) | (refine LW.kIx ?_; (first | refine LW.op rfl (R.ixEaN rfl rfl (by assumption) (by omega)) ?_ | refine LW.op rfl (R.ixEa rfl rfl (by assumption) (by omega)) ?_ | refine LW.op rfl (R.ixOwn rfl rfl (by omega)) ?_ | refine LW.op rfl (R.ixArr rfl rfl (by omega)) ?_)) | refine LW.op rfl (R.moveI rfl) ?_ | refine LW.op rfl (R.moveS rfl) ?_ | refine LW.op rfl (R.moveP rfl) ?_ | refine LW.op rfl (R.moveB rfl) ?_ | refine LW.op rfl (R.moveT rfl) ?_ | refine LW.op rfl (R.moveA rfl) ?_ | refine LW.op rfl (R.moveU rfl) ?_ | refine LW.op rfl (R.assignI rfl) ?_ | refine LW.op rfl (R.assignS rfl) ?_ | refine LW.op rfl (R.assignP rfl) ?_ | refine LW.op rfl (R.assignB rfl) ?_ | refine LW.op rfl (R.assignT rfl) ?_ | refine LW.op rfl (R.assignA rfl) ?_ | refine LW.op rfl (R.assignU rfl) ?_ | refine LW.op rfl (R.move) ?_ | refine LW.op rfl (R.assign) ?_ | refine LW.op rfl (R.pick_t rfl rfl) ?_ | refine LW.op rfl (R.pick_f rfl rfl) ?_ | refine LW.op rfl (R.pick_t rfl (by assumption)) ?_ | refine LW.op rfl (R.pick_f rfl (by assumption)) ?_ | refine LW.op rfl (R.unnot rfl) ?_ | refine LW.op rfl (R.neg rfl (by omega)) ?_ | refine LW.op rfl (R.extract rfl rfl) ?_ | refine LW.op rfl (R.ixStr rfl rfl (by omega)) ?_))
    | refine CW.seq ?_
    | refine CW.block ?_
    | refine CW.region ?_
    | refine CW.skip ?_
    | refine CW.exit ?_
    | refine CW.ret ?_
    | refine LW.nil ?_
    | refine thn_n ?_
    | refine thn_r ?_
    | refine thn_e ?_
    | refine inB_n ?_
    | refine inB_r ?_
    | refine inB_eq rfl ?_
    | refine inB_ne rfl ?_
    | refine CW.cond_true rfl rfl ?_
    | refine CW.cond_false rfl rfl ?_
    | refine CW.cond_true rfl (by assumption) ?_
    | refine CW.cond_false rfl (by assumption) ?_
    | (refine CW.cond rfl ?_ ?_ <;> (intro h; have h1 := h; (try simp only [decide_eq_true_eq, decide_eq_false_iff_not, Bool.not_eq_true', Bool.not_eq_false', Bool.and_eq_true, Bool.or_eq_true, Bool.and_eq_false_iff, Bool.or_eq_false_iff, Bool.not_true, Bool.not_false, Int.not_lt, Int.not_le, Bool.not_eq_eq_eq_not, reduceCtorEq] at h1); (try (exfalso; omega)))))
    all_goals exact Fin.bool rfl (.inl rfl) S rfl rfl
  · repeat' (first
    | (refine LW.kOp ?_; (first | (refine LW.kGu ?_; (first | refine LW.guard_on rfl rfl ?_ | refine LW.guard_off rfl rfl rfl ?_ | refine LW.guard_on rfl (by assumption) ?_ | refine LW.guard_off rfl rfl (by assumption) ?_ | (refine LW.guard rfl rfl ?_ ?_ <;> (intro h; have h1 := h; (try simp only [decide_eq_true_eq, decide_eq_false_iff_not, Bool.not_eq_true', Bool.not_eq_false', Bool.and_eq_true, Bool.or_eq_true, Bool.and_eq_false_iff, Bool.or_eq_false_iff, Bool.not_true, Bool.not_false, Int.not_lt, Int.not_le, Bool.not_eq_eq_eq_not, reduceCtorEq] at h1); (try (exfalso; omega)))))) | (refine LW.kBin ?_; (first | refine LW.op rfl (R.lss rfl rfl) ?_ | refine LW.op rfl (R.gtr rfl rfl) ?_ | refine LW.op rfl (R.eql rfl rfl) ?_ | refine LW.op rfl (R.neq rfl rfl) ?_ | refine LW.op rfl (R.eqlB rfl rfl) ?_ | refine LW.op rfl (R.neqB rfl rfl) ?_ | refine LW.op rfl (R.eqlS rfl rfl) ?_ | refine LW.op rfl (R.neqS rfl rfl) ?_ | refine LW.op rfl (R.lssS rfl rfl) ?_ | refine LW.op rfl (R.eqlNil rfl rfl) ?_ | refine LW.op rfl (R.add rfl rfl (by omega)) ?_)) | (refine LW.kCal ?_; (first | (refine LW.callV S rfl Try.call8 rfl (equalSame _ _ (reR xs es) (reR xs es) _ _ _ (SlF.now S (by repeat (first | exact .head _ | refine .tail _ ?_)) hr1) (SlF.now S (by repeat (first | exact .head _ | refine .tail _ ?_)) hr2) (by omega) rfl) ?_; intro u S))) | (refine LW.kBui ?_; (first | refine LW.op rfl (R.lenSl rfl) ?_ | refine LW.op rfl (R.lenSt rfl) ?_)) | (refine LW.kLoad ?_; (first | refine LW.op rfl (R.loadOwn S 0 rfl rfl rfl) ?_ | refine LW.op rfl (R.loadOwn S 1 rfl rfl rfl) ?_ | refine LW.op rfl (R.loadOwn S 2 rfl rfl rfl) ?_ | refine LW.op rfl (R.loadOwn S 3 rfl rfl rfl) ?_ | refine LW.op rfl (R.loadOwn S 4 rfl rfl rfl) ?_ | refine LW.op rfl (R.loadOwn S 5 rfl rfl rfl) ?_ | refine LW.op rfl (R.loadRow S 0 rfl rfl rfl) ?_ | refine LW.op rfl (R.loadRow S 1 rfl rfl rfl) ?_ | refine LW.op rfl (R.loadRow S 2 rfl rfl rfl) ?_ | refine LW.op rfl (R.loadRow S 3 rfl rfl rfl) ?_ | refine LW.op rfl (R.loadRow S 4 rfl rfl rfl) ?_ | refine LW.op rfl (R.loadRow S 5 rfl rfl rfl) ?_ | refine LW.op rfl (R.loadEl1 S rfl (by assumption) (by repeat (first | exact .head _ | refine .tail _ ?_)) rfl (by omega) rfl) ?_ | refine LW.op rfl (R.loadEl S rfl (by assumption) (by repeat (first | exact .head _ | refine .tail _ ?_)) rfl (by omega) rfl) ?_ | refine LW.op rfl (R.loadFld S rfl (by assumption) (by repeat (first | exact .head _ | refine .tail _ ?_)) rfl (by omega) rfl) ?_)) | (refine LW.kStore ?_; (first | fail)) | (refine LW.kIx ?_; (first | refine LW.op rfl (R.ixEaN rfl rfl (by assumption) (by omega)) ?_ | refine LW.op rfl (R.ixEa rfl rfl (by assumption) (by omega)) ?_ | refine LW.op rfl (R.ixOwn rfl rfl (by omega)) ?_ | refine LW.op rfl (R.ixArr rfl rfl (by omega)) ?_)) | refine LW.op rfl (R.moveI rfl) ?_ | refine LW.op rfl (R.moveS rfl) ?_ | refine LW.op rfl (R.moveP rfl) ?_ | refine LW.op rfl (R.moveB rfl) ?_ | refine LW.op rfl (R.moveT rfl) ?_ | refine LW.op rfl (R.moveA rfl) ?_ | refine LW.op rfl (R.moveU rfl) ?_ | refine LW.op rfl (R.assignI rfl) ?_ | refine LW.op rfl (R.assignS rfl) ?_ | refine LW.op rfl (R.assignP rfl) ?_ | refine LW.op rfl (R.assignB rfl) ?_ | refine LW.op rfl (R.assignT rfl) ?_ | refine LW.op rfl (R.assignA rfl) ?_ | refine LW.op rfl (R.assignU rfl) ?_ | refine LW.op rfl (R.move) ?_ | refine LW.op rfl (R.assign) ?_ | refine LW.op rfl (R.pick_t rfl rfl) ?_ | refine LW.op rfl (R.pick_f rfl rfl) ?_ | refine LW.op rfl (R.pick_t rfl (by assumption)) ?_ | refine LW.op rfl (R.pick_f rfl (by assumption)) ?_ | refine LW.op rfl (R.unnot rfl) ?_ | refine LW.op rfl (R.neg rfl (by omega)) ?_ | refine LW.op rfl (R.extract rfl rfl) ?_ | refine LW.op rfl (R.ixStr rfl rfl (by omega)) ?_))
    | refine CW.seq ?_
    | refine CW.block ?_
    | refine CW.region ?_
    | refine CW.skip ?_
    | refine CW.exit ?_
    | refine CW.ret ?_
    | refine LW.nil ?_
    | refine thn_n ?_
    | refine thn_r ?_
    | refine thn_e ?_
    | refine inB_n ?_
    | refine inB_r ?_
    | refine inB_eq rfl ?_
    | refine inB_ne rfl ?_
    | refine CW.cond_true rfl rfl ?_
    | refine CW.cond_false rfl rfl ?_
    | refine CW.cond_true rfl (by assumption) ?_
    | refine CW.cond_false rfl (by assumption) ?_
    | (refine CW.cond rfl ?_ ?_ <;> (intro h; have h1 := h; (try simp only [decide_eq_true_eq, decide_eq_false_iff_not, Bool.not_eq_true', Bool.not_eq_false', Bool.and_eq_true, Bool.or_eq_true, Bool.and_eq_false_iff, Bool.or_eq_false_iff, Bool.not_true, Bool.not_false, Int.not_lt, Int.not_le, Bool.not_eq_eq_eq_not, reduceCtorEq] at h1); (try (exfalso; omega)))))
    have hre : reR xs es = runF xs es := by unfold reR; rw [hb]; rfl
    refine CW.loopP (α := Nat × Option Addr × Nat × Nat × Nat × World) (fun (k, a, c, _, _, _) => [(4, .slice a2 es.length c2), (5, .slice a3 (reR xs es).length c3), (9, .slice a (runF xs (es.take k)).length c), (10, .int .i64 (k : Int))])
      (fun (k, a, c, lo, hi, ws) w' => k ≤ es.length ∧ SlF lo hi ws a (runF xs (es.take k)) ∧ (a = none → c = 0) ∧ Now ⟨w, []⟩ [⟨lo, hi, ws⟩, ⟨w.heap.size, uD.heap.size, uD⟩, ⟨uD.heap.size, uR.heap.size, uR⟩] [] w') (fun x => es.length - x.1)
      (0, a1, c1, w.heap.size, uD.heap.size, uD) ⟨rfl, rfl, rfl, rfl, trivial⟩ ⟨by omega, hxs, hn1, S.sub (by simp)⟩ ?_
    rintro ⟨k, a, c, lo, hi, ws⟩ τ u ⟨hk, hn, hnn, S⟩
    have hlen := runF_len xs (es.take k)
    by_cases hlt : k < es.length
    · repeat' (first
    | (refine LW.kOp ?_; (first | (refine LW.kGu ?_; (first | refine LW.guard_on rfl rfl ?_ | refine LW.guard_off rfl rfl rfl ?_ | refine LW.guard_on rfl (by assumption) ?_ | refine LW.guard_off rfl rfl (by assumption) ?_ | (refine LW.guard rfl rfl ?_ ?_ <;> (intro h; have h1 := h; (try simp only [decide_eq_true_eq, decide_eq_false_iff_not, Bool.not_eq_true', Bool.not_eq_false', Bool.and_eq_true, Bool.or_eq_true, Bool.and_eq_false_iff, Bool.or_eq_false_iff, Bool.not_true, Bool.not_false, Int.not_lt, Int.not_le, Bool.not_eq_eq_eq_not, reduceCtorEq] at h1); (try (exfalso; omega)))))) | (refine LW.kBin ?_; (first | refine LW.op rfl (R.lss rfl rfl) ?_ | refine LW.op rfl (R.gtr rfl rfl) ?_ | refine LW.op rfl (R.eql rfl rfl) ?_ | refine LW.op rfl (R.neq rfl rfl) ?_ | refine LW.op rfl (R.eqlB rfl rfl) ?_ | refine LW.op rfl (R.neqB rfl rfl) ?_ | refine LW.op rfl (R.eqlS rfl rfl) ?_ | refine LW.op rfl (R.neqS rfl rfl) ?_ | refine LW.op rfl (R.lssS rfl rfl) ?_ | refine LW.op rfl (R.eqlNil rfl rfl) ?_ | refine LW.op rfl (R.add rfl rfl (by omega)) ?_)) | (refine LW.kCal ?_; (first | (refine LW.callC S rfl Try.call9 rfl (doEditYes (es[k]) _ _ (runF xs (es.take k)) _ (SlF.now S (by repeat (first | exact .head _ | refine .tail _ ?_)) hn) (by omega) hnn (step_run hb k hlt)) ?_; intro v u hR hB S))) | (refine LW.kBui ?_; (first | refine LW.op rfl (R.lenSl rfl) ?_ | refine LW.op rfl (R.lenSt rfl) ?_)) | (refine LW.kLoad ?_; (first | refine LW.op rfl (R.loadOwn S 0 rfl rfl rfl) ?_ | refine LW.op rfl (R.loadOwn S 1 rfl rfl rfl) ?_ | refine LW.op rfl (R.loadOwn S 2 rfl rfl rfl) ?_ | refine LW.op rfl (R.loadOwn S 3 rfl rfl rfl) ?_ | refine LW.op rfl (R.loadOwn S 4 rfl rfl rfl) ?_ | refine LW.op rfl (R.loadOwn S 5 rfl rfl rfl) ?_ | refine LW.op rfl (R.loadRow S 0 rfl rfl rfl) ?_ | refine LW.op rfl (R.loadRow S 1 rfl rfl rfl) ?_ | refine LW.op rfl (R.loadRow S 2 rfl rfl rfl) ?_ | refine LW.op rfl (R.loadRow S 3 rfl rfl rfl) ?_ | refine LW.op rfl (R.loadRow S 4 rfl rfl rfl) ?_ | refine LW.op rfl (R.loadRow S 5 rfl rfl rfl) ?_ | refine LW.op rfl (R.loadEl1 S rfl (by assumption) (by repeat (first | exact .head _ | refine .tail _ ?_)) rfl (by omega) rfl) ?_ | refine LW.op rfl (R.loadEl S rfl (by assumption) (by repeat (first | exact .head _ | refine .tail _ ?_)) rfl (by omega) rfl) ?_ | refine LW.op rfl (R.loadFld S rfl (by assumption) (by repeat (first | exact .head _ | refine .tail _ ?_)) rfl (by omega) rfl) ?_)) | (refine LW.kStore ?_; (first | fail)) | (refine LW.kIx ?_; (first | refine LW.op rfl (R.ixEaN rfl rfl (by assumption) (by omega)) ?_ | refine LW.op rfl (R.ixEa rfl rfl (by assumption) (by omega)) ?_ | refine LW.op rfl (R.ixOwn rfl rfl (by omega)) ?_ | refine LW.op rfl (R.ixArr rfl rfl (by omega)) ?_)) | refine LW.op rfl (R.moveI rfl) ?_ | refine LW.op rfl (R.moveS rfl) ?_ | refine LW.op rfl (R.moveP rfl) ?_ | refine LW.op rfl (R.moveB rfl) ?_ | refine LW.op rfl (R.moveT rfl) ?_ | refine LW.op rfl (R.moveA rfl) ?_ | refine LW.op rfl (R.moveU rfl) ?_ | refine LW.op rfl (R.assignI rfl) ?_ | refine LW.op rfl (R.assignS rfl) ?_ | refine LW.op rfl (R.assignP rfl) ?_ | refine LW.op rfl (R.assignB rfl) ?_ | refine LW.op rfl (R.assignT rfl) ?_ | refine LW.op rfl (R.assignA rfl) ?_ | refine LW.op rfl (R.assignU rfl) ?_ | refine LW.op rfl (R.move) ?_ | refine LW.op rfl (R.assign) ?_ | refine LW.op rfl (R.pick_t rfl rfl) ?_ | refine LW.op rfl (R.pick_f rfl rfl) ?_ | refine LW.op rfl (R.pick_t rfl (by assumption)) ?_ | refine LW.op rfl (R.pick_f rfl (by assumption)) ?_ | refine LW.op rfl (R.unnot rfl) ?_ | refine LW.op rfl (R.neg rfl (by omega)) ?_ | refine LW.op rfl (R.extract rfl rfl) ?_ | refine LW.op rfl (R.ixStr rfl rfl (by omega)) ?_))
    | refine CW.seq ?_
    | refine CW.block ?_
    | refine CW.region ?_
    | refine CW.skip ?_
    | refine CW.exit ?_
    | refine CW.ret ?_
    | refine LW.nil ?_
    | refine thn_n ?_
    | refine thn_r ?_
    | refine thn_e ?_
    | refine inB_n ?_
    | refine inB_r ?_
    | refine inB_eq rfl ?_
    | refine inB_ne rfl ?_
    | refine CW.cond_true rfl rfl ?_
    | refine CW.cond_false rfl rfl ?_
    | refine CW.cond_true rfl (by assumption) ?_
    | refine CW.cond_false rfl (by assumption) ?_
    | (refine CW.cond rfl ?_ ?_ <;> (intro h; have h1 := h; (try simp only [decide_eq_true_eq, decide_eq_false_iff_not, Bool.not_eq_true', Bool.not_eq_false', Bool.and_eq_true, Bool.or_eq_true, Bool.and_eq_false_iff, Bool.or_eq_false_iff, Bool.not_true, Bool.not_false, Int.not_lt, Int.not_le, Bool.not_eq_eq_eq_not, reduceCtorEq] at h1); (try (exfalso; omega)))))
      obtain ⟨v, rfl, hR⟩ := hR
      rw [show (doE (runF xs (es.take k)) es[k]) = runF xs (es.take (k + 1)) from (runF_succ xs es k hlt).symm] at hR
      obtain ⟨a5, c5, rfl, hs5, hn5⟩ := hR.shapeN
      repeat' (first
    | (refine LW.kOp ?_; (first | (refine LW.kGu ?_; (first | refine LW.guard_on rfl rfl ?_ | refine LW.guard_off rfl rfl rfl ?_ | refine LW.guard_on rfl (by assumption) ?_ | refine LW.guard_off rfl rfl (by assumption) ?_ | (refine LW.guard rfl rfl ?_ ?_ <;> (intro h; have h1 := h; (try simp only [decide_eq_true_eq, decide_eq_false_iff_not, Bool.not_eq_true', Bool.not_eq_false', Bool.and_eq_true, Bool.or_eq_true, Bool.and_eq_false_iff, Bool.or_eq_false_iff, Bool.not_true, Bool.not_false, Int.not_lt, Int.not_le, Bool.not_eq_eq_eq_not, reduceCtorEq] at h1); (try (exfalso; omega)))))) | (refine LW.kBin ?_; (first | refine LW.op rfl (R.lss rfl rfl) ?_ | refine LW.op rfl (R.gtr rfl rfl) ?_ | refine LW.op rfl (R.eql rfl rfl) ?_ | refine LW.op rfl (R.neq rfl rfl) ?_ | refine LW.op rfl (R.eqlB rfl rfl) ?_ | refine LW.op rfl (R.neqB rfl rfl) ?_ | refine LW.op rfl (R.eqlS rfl rfl) ?_ | refine LW.op rfl (R.neqS rfl rfl) ?_ | refine LW.op rfl (R.lssS rfl rfl) ?_ | refine LW.op rfl (R.eqlNil rfl rfl) ?_ | refine LW.op rfl (R.add rfl rfl (by omega)) ?_)) | (refine LW.kCal ?_; (first | fail)) | (refine LW.kBui ?_; (first | refine LW.op rfl (R.lenSl rfl) ?_ | refine LW.op rfl (R.lenSt rfl) ?_)) | (refine LW.kLoad ?_; (first | refine LW.op rfl (R.loadOwn S 0 rfl rfl rfl) ?_ | refine LW.op rfl (R.loadOwn S 1 rfl rfl rfl) ?_ | refine LW.op rfl (R.loadOwn S 2 rfl rfl rfl) ?_ | refine LW.op rfl (R.loadOwn S 3 rfl rfl rfl) ?_ | refine LW.op rfl (R.loadOwn S 4 rfl rfl rfl) ?_ | refine LW.op rfl (R.loadOwn S 5 rfl rfl rfl) ?_ | refine LW.op rfl (R.loadRow S 0 rfl rfl rfl) ?_ | refine LW.op rfl (R.loadRow S 1 rfl rfl rfl) ?_ | refine LW.op rfl (R.loadRow S 2 rfl rfl rfl) ?_ | refine LW.op rfl (R.loadRow S 3 rfl rfl rfl) ?_ | refine LW.op rfl (R.loadRow S 4 rfl rfl rfl) ?_ | refine LW.op rfl (R.loadRow S 5 rfl rfl rfl) ?_ | refine LW.op rfl (R.loadEl1 S rfl (by assumption) (by repeat (first | exact .head _ | refine .tail _ ?_)) rfl (by omega) rfl) ?_ | refine LW.op rfl (R.loadEl S rfl (by assumption) (by repeat (first | exact .head _ | refine .tail _ ?_)) rfl (by omega) rfl) ?_ | refine LW.op rfl (R.loadFld S rfl (by assumption) (by repeat (first | exact .head _ | refine .tail _ ?_)) rfl (by omega) rfl) ?_)) | (refine LW.kStore ?_; (first | fail)) | (refine LW.kIx ?_; (first | refine LW.op rfl (R.ixEaN rfl rfl (by assumption) (by omega)) ?_ | refine LW.op rfl (R.ixEa rfl rfl (by assumption) (by omega)) ?_ | refine LW.op rfl (R.ixOwn rfl rfl (by omega)) ?_ | refine LW.op rfl (R.ixArr rfl rfl (by omega)) ?_)) | refine LW.op rfl (R.moveI rfl) ?_ | refine LW.op rfl (R.moveS rfl) ?_ | refine LW.op rfl (R.moveP rfl) ?_ | refine LW.op rfl (R.moveB rfl) ?_ | refine LW.op rfl (R.moveT rfl) ?_ | refine LW.op rfl (R.moveA rfl) ?_ | refine LW.op rfl (R.moveU rfl) ?_ | refine LW.op rfl (R.assignI rfl) ?_ | refine LW.op rfl (R.assignS rfl) ?_ | refine LW.op rfl (R.assignP rfl) ?_ | refine LW.op rfl (R.assignB rfl) ?_ | refine LW.op rfl (R.assignT rfl) ?_ | refine LW.op rfl (R.assignA rfl) ?_ | refine LW.op rfl (R.assignU rfl) ?_ | refine LW.op rfl (R.move) ?_ | refine LW.op rfl (R.assign) ?_ | refine LW.op rfl (R.pick_t rfl rfl) ?_ | refine LW.op rfl (R.pick_f rfl rfl) ?_ | refine LW.op rfl (R.pick_t rfl (by assumption)) ?_ | refine LW.op rfl (R.pick_f rfl (by assumption)) ?_ | refine LW.op rfl (R.unnot rfl) ?_ | refine LW.op rfl (R.neg rfl (by omega)) ?_ | refine LW.op rfl (R.extract rfl rfl) ?_ | refine LW.op rfl (R.ixStr rfl rfl (by omega)) ?_))
    | refine CW.seq ?_
    | refine CW.block ?_
    | refine CW.region ?_
    | refine CW.skip ?_
    | refine CW.exit ?_
    | refine CW.ret ?_
    | refine LW.nil ?_
    | refine thn_n ?_
    | refine thn_r ?_
    | refine thn_e ?_
    | refine inB_n ?_
    | refine inB_r ?_
    | refine inB_eq rfl ?_
    | refine inB_ne rfl ?_
    | refine CW.cond_true rfl rfl ?_
    | refine CW.cond_false rfl rfl ?_
    | refine CW.cond_true rfl (by assumption) ?_
    | refine CW.cond_false rfl (by assumption) ?_
    | (refine CW.cond rfl ?_ ?_ <;> (intro h; have h1 := h; (try simp only [decide_eq_true_eq, decide_eq_false_iff_not, Bool.not_eq_true', Bool.not_eq_false', Bool.and_eq_true, Bool.or_eq_true, Bool.and_eq_false_iff, Bool.or_eq_false_iff, Bool.not_true, Bool.not_false, Int.not_lt, Int.not_le, Bool.not_eq_eq_eq_not, reduceCtorEq] at h1); (try (exfalso; omega)))))
      exact ⟨(k + 1, a5, c5, _, _, _), by simp only; omega, ⟨rfl, rfl, rfl, rfl, trivial⟩, by omega, hs5, hn5, S.sub (by simp)⟩
    · have he : es.take k = es := List.take_of_length_le (by omega)
      repeat' (first
    | (refine LW.kOp ?_; (first | (refine LW.kGu ?_; (first | refine LW.guard_on rfl rfl ?_ | refine LW.guard_off rfl rfl rfl ?_ | refine LW.guard_on rfl (by assumption) ?_ | refine LW.guard_off rfl rfl (by assumption) ?_ | (refine LW.guard rfl rfl ?_ ?_ <;> (intro h; have h1 := h; (try simp only [decide_eq_true_eq, decide_eq_false_iff_not, Bool.not_eq_true', Bool.not_eq_false', Bool.and_eq_true, Bool.or_eq_true, Bool.and_eq_false_iff, Bool.or_eq_false_iff, Bool.not_true, Bool.not_false, Int.not_lt, Int.not_le, Bool.not_eq_eq_eq_not, reduceCtorEq] at h1); (try (exfalso; omega)))))) | (refine LW.kBin ?_; (first | refine LW.op rfl (R.lss rfl rfl) ?_ | refine LW.op rfl (R.gtr rfl rfl) ?_ | refine LW.op rfl (R.eql rfl rfl) ?_ | refine LW.op rfl (R.neq rfl rfl) ?_ | refine LW.op rfl (R.eqlB rfl rfl) ?_ | refine LW.op rfl (R.neqB rfl rfl) ?_ | refine LW.op rfl (R.eqlS rfl rfl) ?_ | refine LW.op rfl (R.neqS rfl rfl) ?_ | refine LW.op rfl (R.lssS rfl rfl) ?_ | refine LW.op rfl (R.eqlNil rfl rfl) ?_ | refine LW.op rfl (R.add rfl rfl (by omega)) ?_)) | (refine LW.kCal ?_; (first | (refine LW.callV S rfl Try.call8 rfl (equalSame _ _ (runF xs (es.take k)) (reR xs es) _ _ _ (SlF.now S (by repeat (first | exact .head _ | refine .tail _ ?_)) hn) (SlF.now S (by repeat (first | exact .head _ | refine .tail _ ?_)) hr1) (by omega) (by rw [he, hre])) ?_; intro u S))) | (refine LW.kBui ?_; (first | refine LW.op rfl (R.lenSl rfl) ?_ | refine LW.op rfl (R.lenSt rfl) ?_)) | (refine LW.kLoad ?_; (first | refine LW.op rfl (R.loadOwn S 0 rfl rfl rfl) ?_ | refine LW.op rfl (R.loadOwn S 1 rfl rfl rfl) ?_ | refine LW.op rfl (R.loadOwn S 2 rfl rfl rfl) ?_ | refine LW.op rfl (R.loadOwn S 3 rfl rfl rfl) ?_ | refine LW.op rfl (R.loadOwn S 4 rfl rfl rfl) ?_ | refine LW.op rfl (R.loadOwn S 5 rfl rfl rfl) ?_ | refine LW.op rfl (R.loadRow S 0 rfl rfl rfl) ?_ | refine LW.op rfl (R.loadRow S 1 rfl rfl rfl) ?_ | refine LW.op rfl (R.loadRow S 2 rfl rfl rfl) ?_ | refine LW.op rfl (R.loadRow S 3 rfl rfl rfl) ?_ | refine LW.op rfl (R.loadRow S 4 rfl rfl rfl) ?_ | refine LW.op rfl (R.loadRow S 5 rfl rfl rfl) ?_ | refine LW.op rfl (R.loadEl1 S rfl (by assumption) (by repeat (first | exact .head _ | refine .tail _ ?_)) rfl (by omega) rfl) ?_ | refine LW.op rfl (R.loadEl S rfl (by assumption) (by repeat (first | exact .head _ | refine .tail _ ?_)) rfl (by omega) rfl) ?_ | refine LW.op rfl (R.loadFld S rfl (by assumption) (by repeat (first | exact .head _ | refine .tail _ ?_)) rfl (by omega) rfl) ?_)) | (refine LW.kStore ?_; (first | fail)) | (refine LW.kIx ?_; (first | refine LW.op rfl (R.ixEaN rfl rfl (by assumption) (by omega)) ?_ | refine LW.op rfl (R.ixEa rfl rfl (by assumption) (by omega)) ?_ | refine LW.op rfl (R.ixOwn rfl rfl (by omega)) ?_ | refine LW.op rfl (R.ixArr rfl rfl (by omega)) ?_)) | refine LW.op rfl (R.moveI rfl) ?_ | refine LW.op rfl (R.moveS rfl) ?_ | refine LW.op rfl (R.moveP rfl) ?_ | refine LW.op rfl (R.moveB rfl) ?_ | refine LW.op rfl (R.moveT rfl) ?_ | refine LW.op rfl (R.moveA rfl) ?_ | refine LW.op rfl (R.moveU rfl) ?_ | refine LW.op rfl (R.assignI rfl) ?_ | refine LW.op rfl (R.assignS rfl) ?_ | refine LW.op rfl (R.assignP rfl) ?_ | refine LW.op rfl (R.assignB rfl) ?_ | refine LW.op rfl (R.assignT rfl) ?_ | refine LW.op rfl (R.assignA rfl) ?_ | refine LW.op rfl (R.assignU rfl) ?_ | refine LW.op rfl (R.move) ?_ | refine LW.op rfl (R.assign) ?_ | refine LW.op rfl (R.pick_t rfl rfl) ?_ | refine LW.op rfl (R.pick_f rfl rfl) ?_ | refine LW.op rfl (R.pick_t rfl (by assumption)) ?_ | refine LW.op rfl (R.pick_f rfl (by assumption)) ?_ | refine LW.op rfl (R.unnot rfl) ?_ | refine LW.op rfl (R.neg rfl (by omega)) ?_ | refine LW.op rfl (R.extract rfl rfl) ?_ | refine LW.op rfl (R.ixStr rfl rfl (by omega)) ?_))
    | refine CW.seq ?_
    | refine CW.block ?_
    | refine CW.region ?_
    | refine CW.skip ?_
    | refine CW.exit ?_
    | refine CW.ret ?_
    | refine LW.nil ?_
    | refine thn_n ?_
    | refine thn_r ?_
    | refine thn_e ?_
    | refine inB_n ?_
    | refine inB_r ?_
    | refine inB_eq rfl ?_
    | refine inB_ne rfl ?_
    | refine CW.cond_true rfl rfl ?_
    | refine CW.cond_false rfl rfl ?_
    | refine CW.cond_true rfl (by assumption) ?_
    | refine CW.cond_false rfl (by assumption) ?_
    | (refine CW.cond rfl ?_ ?_ <;> (intro h; have h1 := h; (try simp only [decide_eq_true_eq, decide_eq_false_iff_not, Bool.not_eq_true', Bool.not_eq_false', Bool.and_eq_true, Bool.or_eq_true, Bool.and_eq_false_iff, Bool.or_eq_false_iff, Bool.not_true, Bool.not_false, Int.not_lt, Int.not_le, Bool.not_eq_eq_eq_not, reduceCtorEq] at h1); (try (exfalso; omega)))))
      exact Fin.bool rfl (.inl rfl) S rfl rfl
end V
end Go.Proofs.Ytpkkpinhjedjjaa
