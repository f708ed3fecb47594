/- What the rows need, part 8. No condition. -/
import Derived.Test.YtkjnnifnmoekjaaGreatDoorRows
import Derived.ProofKit
import Derived.Deep.Slices
import Derived.LaidMore
import Derived.LaidSub
import Derived.LaidHandle
import Derived.OpenShut
import Derived.Lib.LaidTab
import Derived.Test.YtkjnnifnmoekjaaGreatDoorQIcG
namespace Go.Proofs.YtkjnnifnmoekjaaGreatDoor
namespace V
set_option linter.unusedVariables false
set_option linter.unusedSimpArgs false
theorem pick_ok (N : Nat) {r : S_reader} {n : Int} (h : r.b.length ≤ 4000000000) (h0 : 0 ≤ r.p ∧ r.p ≤ 2000000000) (hn : n ≤ 4000000000) : ok (m_S_reader_pick N r n) fun x => x.2 = ⟨r.b, r.p + 1⟩ ∧ 0 ≤ x.1 ∧ (x.1 < n ∨ x.1 = 0) := by
  unfold m_S_reader_pick
  have hb : ∀ u : UInt8, (0 : Int) ≤ (u.toNat : Int) ∧ (u.toNat : Int) ≤ 255 := fun u => by have := u.toNat_lt; omega
  repeat' (first | (with_reducible refine ok.some ?_) | ((with_reducible refine ok.ix (by omega) (by omega) (fun q hq he => ?_); have := hb (r.b[q]); generalize (r.b[q].toNat : Int) = u at *)) | ((with_reducible refine ok.xorM (by omega) (fun _ hq => ?_))) | (with_reducible refine ok.ite (fun hc => ?_) (fun hc => ?_)) | (with_reducible refine ok.cond (fun hc => ?_) (fun hc => ?_)) | (with_reducible refine ok.chk (by omega) ?_) | (with_reducible refine ok.bs ?_) | (with_reducible refine ok.remM (by omega) (fun _ hq => ?_)) | (with_reducible refine ok.quoM (by omega) (fun _ hq => ?_)) | (with_reducible refine ok.ix (by omega) (by omega) (fun q hq he => ?_)))
  all_goals (first | exact ⟨rfl, Int.le_refl _, .inr rfl⟩ | exact ⟨rfl, by omega, by omega⟩)
theorem newReader_ok (N : Nat) (l : List UInt8) : ok (m_S_newReader N l) fun r => r.b.length ≤ 2000 ∧ r.p = 0 := by
  unfold m_S_newReader
  repeat' (first | (with_reducible refine ok.some ?_) | ((rw [subM_eq (by omega)]; refine ok.some ?_)) | (with_reducible refine ok.ite (fun hc => ?_) (fun hc => ?_)) | (with_reducible refine ok.cond (fun hc => ?_) (fun hc => ?_)) | (with_reducible refine ok.chk (by omega) ?_) | (with_reducible refine ok.bs ?_) | (with_reducible refine ok.remM (by omega) (fun _ hq => ?_)) | (with_reducible refine ok.quoM (by omega) (fun _ hq => ?_)) | (with_reducible refine ok.ix (by omega) (by omega) (fun q hq he => ?_)))
  · exact ⟨by simp; omega, rfl⟩
  · exact ⟨by show l.length ≤ 2000; omega, rfl⟩
theorem one_ok (N : Nat) {r : S_reader} {l : List Int} (h : r.b.length ≤ 4000000000) (h0 : 0 ≤ r.p ∧ r.p ≤ 2000000000) (hl : 0 < l.length) (hl' : l.length ≤ 1000) : ok (m_S_reader_one N r l) fun x => x.2 = ⟨r.b, r.p + 1⟩ ∧ x.1 ∈ l := by
  unfold m_S_reader_one
  refine ok.call (pick_ok N h h0 (by omega)) ?_
  rintro x ⟨h1, h2, h3⟩
  repeat' (first | (with_reducible refine ok.some ?_) | (with_reducible refine ok.ite (fun hc => ?_) (fun hc => ?_)) | (with_reducible refine ok.cond (fun hc => ?_) (fun hc => ?_)) | (with_reducible refine ok.chk (by omega) ?_) | (with_reducible refine ok.bs ?_) | (with_reducible refine ok.remM (by omega) (fun _ hq => ?_)) | (with_reducible refine ok.quoM (by omega) (fun _ hq => ?_)) | (with_reducible refine ok.ix (by omega) (by omega) (fun q hq he => ?_)))
  exact ⟨h1, List.getElem_mem _⟩
theorem of_ok (N : Nat) {r : S_reader} {l : List ByteArray} (h : r.b.length ≤ 4000000000) (h0 : 0 ≤ r.p ∧ r.p ≤ 2000000000) (hl : 0 < l.length) (hl' : l.length ≤ 1000) : ok (m_S_reader_of N r l) fun x => x.2 = ⟨r.b, r.p + 1⟩ ∧ x.1 ∈ l := by
  unfold m_S_reader_of
  refine ok.call (pick_ok N h h0 (by omega)) ?_
  rintro x ⟨h1, h2, h3⟩
  repeat' (first | (with_reducible refine ok.some ?_) | (with_reducible refine ok.ite (fun hc => ?_) (fun hc => ?_)) | (with_reducible refine ok.cond (fun hc => ?_) (fun hc => ?_)) | (with_reducible refine ok.chk (by omega) ?_) | (with_reducible refine ok.bs ?_) | (with_reducible refine ok.remM (by omega) (fun _ hq => ?_)) | (with_reducible refine ok.quoM (by omega) (fun _ hq => ?_)) | (with_reducible refine ok.ix (by omega) (by omega) (fun q hq he => ?_)))
  exact ⟨h1, List.getElem_mem _⟩
end V
end Go.Proofs.YtkjnnifnmoekjaaGreatDoor
namespace Go.Proofs.YtkjnnifnmoekjaaGreatDoor
namespace V
set_option linter.unusedVariables false
set_option linter.unusedSimpArgs false
set_option maxHeartbeats 1000000
/-- A reader that has not gone beyond c. -/
def RdB (r : S_reader) (c : Int) : Prop := r.b.length ≤ 2000 ∧ 0 ≤ r.p ∧ r.p ≤ c
theorem RdB.mono {r : S_reader} {c d : Int} (h : RdB r c) (hd : c ≤ d) : RdB r d := ⟨h.1, h.2.1, by have := h.2.2; omega⟩
/-- A value that is not too large. -/
def bV (v : I_Value) : Prop := (-1000000000 ≤ v.num ∧ v.num ≤ 1000000000) ∧ v.text.size ≤ 5000000
def bFm (f : List I_Column) (n : Nat) : Prop := f.length ≤ n ∧ ∀ c ∈ f, bV c.default
theorem bFm.bN {f : List I_Column} {n : Nat} (h : bFm f n) : bN f := fun c hc => (h.2 c hc).1
theorem bFm.bS {f : List I_Column} {n : Nat} (h : bFm f n) (hn : n ≤ 100) : bS f := ⟨by have := h.1; omega, fun c hc => (h.2 c hc).2⟩
theorem bFm.mono {f : List I_Column} {n m : Nat} (h : bFm f n) (hn : n ≤ m) : bFm f m := ⟨by have := h.1; omega, h.2⟩
theorem len_chF2 {f : List I_Column} {c : I_Change} {B : Nat} (h : f.length ≤ B) (hB : 5 ≤ B) (hp : poss f c) : (chF f c).length ≤ B := by
  unfold chF
  split
  · rcases hp with e | e | ⟨e1, e2, e3, e4⟩
    · rw [List.length_insertIdx]; split <;> omega
    · omega
    · omega
  · split
    · rw [List.length_eraseIdx]; split <;> omega
    · rw [List.length_modify]; exact h
theorem len_fA {f : List I_Column} {l : List I_Change} {B : Nat} (h : f.length ≤ B) (hB : 5 ≤ B) (hg : gC f l) : ∀ (i : Nat), i ≤ l.length → (fA f l i).length ≤ B
  | 0, _ => h
  | i + 1, hi => by
    rw [fA_succ f (by omega)]
    exact len_chF2 (len_fA h hB hg i (by omega)) hB (hg i (by omega))
theorem fA_snoc (f : List I_Column) (l : List I_Change) (c : I_Change) : fA f (l ++ [c]) (l ++ [c]).length = chF (fA f l l.length) c := by
  rw [List.length_append, List.length_singleton, fA_succ f (by simp), fA_app f c (Nat.le_refl _), List.getElem_append_right (Nat.le_refl _)]; simp
theorem of_size {l : List ByteArray} (h : l.all (fun x => decide (x.size ≤ 100)) = true) {x : ByteArray} (hx : x ∈ l) : x.size ≤ 5000000 := by
  have := of_decide_eq_true (List.all_eq_true.1 h x hx); omega
theorem zV_b : bV ⟨0, 0, ByteArray.empty⟩ := ⟨by constructor <;> decide, by decide⟩
theorem bR_snoc {r : List I_Value} {v : I_Value} {n : Nat} (h : r.length ≤ n ∧ ∀ x ∈ r, bV x) (hv : bV v) : (r ++ [v]).length ≤ n + 1 ∧ ∀ x ∈ r ++ [v], bV x := ⟨by simp; omega, fun x hx => by
  rcases List.mem_append.1 hx with h1 | h1
  · exact h.2 x h1
  · rw [List.mem_singleton.1 h1]; exact hv⟩
section
variable {N : Nat} (hN : 100000000 ≤ N)
include hN
omit hN in
theorem pickB {r : S_reader} {c n : Int} (h : RdB r c) (hc : c ≤ 1000000000) (hn : n ≤ 4000000000) : ok (m_S_reader_pick N r n) fun x => RdB x.2 (c + 1) ∧ 0 ≤ x.1 ∧ (x.1 < n ∨ x.1 = 0) := by
  have h1 := h.1
  have h2 := h.2.1
  have h3 := h.2.2
  refine (pick_ok N (by omega) (by omega) hn).mono ?_
  rintro ⟨x, r'⟩ ⟨e, e1, e2⟩
  dsimp only at *
  subst e
  exact ⟨⟨h1, by show 0 ≤ r.p + 1; omega, by show r.p + 1 ≤ _; omega⟩, e1, e2⟩
omit hN in
theorem oneB {r : S_reader} {c : Int} {l : List Int} (h : RdB r c) (hc : c ≤ 1000000000) (hl : 0 < l.length) (hl' : l.length ≤ 1000) : ok (m_S_reader_one N r l) fun x => RdB x.2 (c + 1) ∧ x.1 ∈ l := by
  have h1 := h.1
  have h2 := h.2.1
  have h3 := h.2.2
  refine (one_ok N (by omega) (by omega) hl hl').mono ?_
  rintro ⟨x, r'⟩ ⟨e, e1⟩
  dsimp only at *
  subst e
  exact ⟨⟨h1, by show 0 ≤ r.p + 1; omega, by show r.p + 1 ≤ _; omega⟩, e1⟩
omit hN in
theorem ofB {r : S_reader} {c : Int} {l : List ByteArray} (h : RdB r c) (hc : c ≤ 1000000000) (hl : 0 < l.length) (hl' : l.length ≤ 1000) : ok (m_S_reader_of N r l) fun x => RdB x.2 (c + 1) ∧ x.1 ∈ l := by
  have h1 := h.1
  have h2 := h.2.1
  have h3 := h.2.2
  refine (of_ok N (by omega) (by omega) hl hl').mono ?_
  rintro ⟨x, r'⟩ ⟨e, e1⟩
  dsimp only at *
  subst e
  exact ⟨⟨h1, by show 0 ≤ r.p + 1; omega, by show r.p + 1 ≤ _; omega⟩, e1⟩
omit hN in
theorem newB (l : List UInt8) : ok (m_S_newReader N l) fun r => RdB r 0 := (newReader_ok N l).mono fun r h => ⟨h.1, by have := h.2; omega, by have := h.2; omega⟩
omit hN in
theorem valB {r : S_reader} {c k : Int} (h : RdB r c) (hc : c ≤ 900000000) : ok (m_S_randomValue N r k) fun x => RdB x.2 (c + 4) ∧ bV x.1 := by
  have e0 : ByteArray.empty.size = 0 := rfl
  have hnum : ∀ (r : S_reader) (d : Int) (k : Int), RdB r d → d ≤ 950000000 → ok ((m_S_reader_pick N r (250 : Int)).bind fun r8 => (chk (r8.1 * (777 : Int))).bind fun n10 => (m_S_reader_one N r8.2 [(0 : Int), (1 : Int), (7 : Int), (-7 : Int), (79 : Int), (80 : Int), (4000 : Int), (200000 : Int), (999999 : Int), (-999999 : Int), n10]).bind fun r12 => some ((I_Value.mk k r12.1 ByteArray.empty), r12.2)) fun x => RdB x.2 (d + 2) ∧ bV x.1 := by
    intro r d k hr hd
    refine ok.call (pickB hr (by omega) (by omega)) ?_
    rintro ⟨x, r1⟩ ⟨h1, h2, h3⟩
    refine ok.chk (by dsimp only at *; omega) (ok.call (oneB h1 (by omega) (by simp) (by simp)) ?_)
    rintro ⟨y, r2⟩ ⟨h4, h5⟩
    dsimp only at *
    refine ok.some ⟨h4.mono (by omega), ⟨?_, by dsimp only; omega⟩⟩
    dsimp only
    simp only [List.mem_cons, List.not_mem_nil, or_false] at h5
    omega
  have htxt : ∀ (r : S_reader) (d : Int) (k : Int), RdB r d → d ≤ 950000000 → ok ((m_S_reader_of N r ([ByteArray.empty, (ByteArray.mk #[97]), (ByteArray.mk #[97, 98]), (ByteArray.mk #[98]), (ByteArray.mk #[49, 50]), (ByteArray.mk #[45, 55]), (ByteArray.mk #[126, 126]), (ByteArray.mk #[97, 32, 98]), (ByteArray.mk #[97, 98, 99, 100, 101, 102, 103, 104, 105, 106, 107, 108]), (ByteArray.mk #[32])])).bind fun r15 => some ((I_Value.mk k (0 : Int) r15.1), r15.2)) fun x => RdB x.2 (d + 1) ∧ bV x.1 := by
    intro r d k hr hd
    refine ok.call (ofB hr (by omega) (by simp) (by simp)) ?_
    rintro ⟨y, r2⟩ ⟨h4, h5⟩
    exact ok.some ⟨h4, ⟨by dsimp only; omega, of_size (by rfl) h5⟩⟩
  unfold m_S_randomValue
  refine ok.ite (fun _ => ok.call (pickB h (by omega) (by omega)) ?_) fun _ => ok.call (pickB h (by omega) (by omega)) ?_
  · rintro ⟨x, r1⟩ ⟨h1, h2, h3⟩
    refine ok.call (pickB h1 (by omega) (by omega)) ?_
    rintro ⟨y, r2⟩ ⟨h4, h5, h6⟩
    refine ok.ite (fun _ => ok.some ⟨h4.mono (by omega), zV_b⟩) fun _ => ok.ite (fun _ => (hnum _ _ _ h4 (by omega)).mono fun x hx => ⟨hx.1.mono (by omega), hx.2⟩) fun _ => ok.ite (fun _ => (htxt _ _ _ h4 (by omega)).mono fun x hx => ⟨hx.1.mono (by omega), hx.2⟩) fun _ => ok.some ⟨h4.mono (by omega), zV_b⟩
  · rintro ⟨y, r2⟩ ⟨h4, h5, h6⟩
    refine ok.ite (fun _ => ok.some ⟨h4.mono (by omega), zV_b⟩) fun _ => ok.ite (fun _ => (hnum _ _ _ h4 (by omega)).mono fun x hx => ⟨hx.1.mono (by omega), hx.2⟩) fun _ => ok.ite (fun _ => (htxt _ _ _ h4 (by omega)).mono fun x hx => ⟨hx.1.mono (by omega), hx.2⟩) fun _ => ok.some ⟨h4.mono (by omega), zV_b⟩
omit hN in
theorem colB {r : S_reader} {c : Int} (h : RdB r c) (hc : c ≤ 800000000) : ok (m_S_randomColumn N r) fun x => RdB x.2 (c + 5) ∧ bV x.1.default := by
  unfold m_S_randomColumn
  refine ok.call (pickB h (by omega) (by omega)) ?_
  rintro ⟨x, r1⟩ ⟨h1, h2, h3⟩
  refine ok.chk (by dsimp only at *; omega) (ok.call (valB h1 (by omega)) ?_)
  rintro ⟨y, r2⟩ ⟨h4, h5⟩
  exact ok.some ⟨h4.mono (by omega), h5⟩
omit hN in
theorem bFm_snoc {f : List I_Column} {n : Nat} {x : I_Column} (h : bFm f n) (hx : bV x.default) : bFm (f ++ [x]) (n + 1) := ⟨by have := h.1; simp; omega, fun y hy => by
  rcases List.mem_append.1 hy with h1 | h1
  · exact h.2 y h1
  · rw [List.mem_singleton.1 h1]; exact hx⟩
theorem fmtB {r : S_reader} {c : Int} (h : RdB r c) (hc : c ≤ 700000000) : ok (m_S_randomFormat N r) fun x => RdB x.2 (c + 26) ∧ bFm x.1 5 ∧ 1 ≤ x.1.length := by
  unfold m_S_randomFormat
  refine ok.call (oneB h (by omega) (by simp) (by simp)) ?_
  rintro ⟨n, r1⟩ ⟨h1, h2⟩
  have hn : 1 ≤ n ∧ n ≤ 5 := by
    simp only [List.mem_cons, List.not_mem_nil, or_false] at h2
    omega
  obtain ⟨n, rfl⟩ : ∃ m : Nat, n = m := ⟨n.toNat, by omega⟩
  refine ok.call (P := fun e => RdB ⟨e.1, e.2.1⟩ (c + 26) ∧ bFm e.2.2 5 ∧ e.2.2.length = n) (ok.each n (fun i s => s.1 = ((n - i : Nat) : Int) ∧ RdB ⟨s.2.1, s.2.2.1⟩ (c + 1 + 5 * i) ∧ bFm s.2.2.2 i ∧ s.2.2.2.length = i) _ ?_ ?_ N 0 _ (Nat.zero_le _) ⟨rfl, h1.mono (by omega), ⟨Nat.zero_le _, fun c h => by cases h⟩, rfl⟩ (by omega)) ?_
  · rintro i ⟨s1, s2, s3, s4⟩ hi ⟨h3, h4, h5, h6⟩
    dsimp only at *
    unfold m_S_randomFormat_b1
    refine ok.ift (by omega) (ok.call (colB h4 (by omega)) ?_)
    rintro ⟨x, r2⟩ ⟨h7, h8⟩
    dsimp only at *
    refine ok.app (by simp; omega) (ok.chk (by omega) (ok.some ⟨by dsimp only; omega, h7.mono (by omega), bFm_snoc h5 h8, by simp; omega⟩))
  · rintro ⟨s1, s2, s3, s4⟩ ⟨h3, h4, h5, h6⟩
    dsimp only at *
    unfold m_S_randomFormat_b1
    exact ok.iff (by omega) (ok.some ⟨h4.mono (by omega), h5.mono (by omega), h6⟩)
  · rintro ⟨e1, e2, e3⟩ ⟨h3, h4, h5⟩
    exact ok.some ⟨h3, h4, by dsimp only at *; omega⟩
theorem chgB' {r : S_reader} {f : List I_Column} {c : Int} (h : RdB r c) (hc : c ≤ 600000000) (hf : bN f) (hfl : f.length ≤ 7) : ok (m_S_randomChange N r f) fun x => RdB x.2 (c + 42) ∧ bV x.1.column.default := by
  unfold m_S_randomChange
  refine ok.call (P := fun o => match o with | .inl e => RdB ⟨e.1, e.2⟩ (c + 42) | .inr v => RdB v.2 (c + 42) ∧ bV v.1.column.default) (ok.each 6 (fun i s => s.1 = (i : Int) ∧ RdB ⟨s.2.1, s.2.2⟩ (c + 7 * i)) _ ?_ ?_ N 0 _ (Nat.zero_le _) ⟨rfl, h.mono (by omega)⟩ (by omega)) ?_
  · rintro i ⟨s1, s2, s3⟩ hi ⟨h3, h4⟩
    dsimp only at *
    unfold m_S_randomChange_b1
    refine ok.ift (by omega) (ok.call (pickB h4 (by omega) (by omega)) ?_)
    rintro ⟨x, r2⟩ ⟨h5, h6, h7⟩
    dsimp only at *
    refine ok.chk (by omega) (ok.chk (by omega) (ok.call (pickB h5 (by omega) (by omega)) ?_))
    rintro ⟨y, r3⟩ ⟨h8, h9, h10⟩
    dsimp only at *
    refine ok.ite (fun hk => ok.call (colB h8 (by omega)) ?_) fun hk => ok.eq (chFS hN (by omega) hf (by show ByteArray.empty.size ≤ _; decide)) ?_
    · rintro ⟨z, r4⟩ ⟨h11, h12⟩
      dsimp only at *
      refine ok.eq (chFS hN (by omega) hf h12.2) (ok.cond (fun _ => ok.some ⟨h11.mono (by omega), h12⟩) fun _ => ok.chk (by omega) (ok.some ⟨by dsimp only; omega, h11.mono (by omega)⟩))
    · refine ok.cond (fun _ => ok.some ⟨h8.mono (by omega), zV_b⟩) fun _ => ok.chk (by omega) (ok.some ⟨by dsimp only; omega, h8.mono (by omega)⟩)
  · rintro ⟨s1, s2, s3⟩ ⟨h3, h4⟩
    dsimp only at *
    unfold m_S_randomChange_b1
    exact ok.iff (by omega) (ok.some (h4.mono (by omega)))
  · rintro (⟨e1, e2⟩ | v) h3
    · exact ok.some ⟨h3, zV_b⟩
    · exact ok.some h3
omit hN in
theorem bCs_snoc {l : List I_Change} {x : I_Change} {n : Nat} (h : l.length ≤ n ∧ ∀ c ∈ l, bV c.column.default) (hx : bV x.column.default) : (l ++ [x]).length ≤ n + 1 ∧ ∀ c ∈ l ++ [x], bV c.column.default := ⟨by simp; omega, fun y hy => by
  rcases List.mem_append.1 hy with h1 | h1
  · exact h.2 y h1
  · rw [List.mem_singleton.1 h1]; exact hx⟩
theorem rchainB {r : S_reader} {c : Int} (h : RdB r c) (hc : c ≤ 500000000) : ok (m_S_randomChain N r) fun x => RdB x.2.2 (c + 400) ∧ (bFm x.1 5 ∧ 1 ≤ x.1.length) ∧ (x.2.1.length ≤ 8 ∧ ∀ c ∈ x.2.1, bV c.column.default) ∧ gC x.1 x.2.1 := by
  unfold m_S_randomChain
  refine ok.call (fmtB hN h (by omega)) ?_
  rintro ⟨f, r1⟩ ⟨h1, h2, h2'⟩
  refine ok.call (oneB h1 (by omega) (by simp) (by simp)) ?_
  rintro ⟨n, r2⟩ ⟨h3, h4⟩
  have hn : 0 ≤ n ∧ n ≤ 8 := by
    simp only [List.mem_cons, List.not_mem_nil, or_false] at h4
    omega
  obtain ⟨n, rfl⟩ : ∃ m : Nat, n = m := ⟨n.toNat, by omega⟩
  dsimp only at *
  refine ok.call (P := fun e => RdB ⟨e.1, e.2.1⟩ (c + 400) ∧ (e.2.2.length ≤ 8 ∧ ∀ c ∈ e.2.2, bV c.column.default) ∧ gC f e.2.2) (ok.each n (fun i s => s.1 = fA f s.2.2.2.2 s.2.2.2.2.length ∧ s.2.1 = ((n - i : Nat) : Int) ∧ RdB ⟨s.2.2.1, s.2.2.2.1⟩ (c + 27 + 42 * i) ∧ (s.2.2.2.2.length ≤ i ∧ ∀ c ∈ s.2.2.2.2, bV c.column.default) ∧ gC f s.2.2.2.2) _ ?_ ?_ N 0 _ (Nat.zero_le _) ⟨rfl, rfl, h3.mono (by omega), ⟨Nat.zero_le _, fun c h => by cases h⟩, fun i h => absurd h (Nat.not_lt_zero _)⟩ (by omega)) ?_
  · rintro i ⟨s1, s2, s3, s4, s5⟩ hi ⟨h5, h6, h7, h8, h9⟩
    dsimp only at *
    subst h5
    have hl6 := len_fA (B := 5) h2.1 (by omega) h9 s5.length (Nat.le_refl _)
    have hbn := bN_fA h2.bN (by have := h2.1; omega) s5.length (Nat.le_refl _) fun k hk _ => h9 k hk
    unfold m_S_randomChain_b1
    refine ok.ift (by omega) ?_
    refine ok.call (chgB' hN h7 (by omega) hbn.1 (by omega)) ?_
    rintro ⟨x, r3⟩ ⟨h10, h11⟩
    dsimp only at *
    refine ok.eq (chFS hN hbn.2 hbn.1 h11.2) ?_
    by_cases hp : poss (fA f s5 s5.length) x
    · rw [if_pos hp]
      have h12 := bCs_snoc h8 h11
      refine ok.bt rfl (ok.app (by have := h12.1; simp at this ⊢; omega) (ok.chk (by omega) (ok.some ⟨?_, by dsimp only; omega, h10.mono (by omega), h12, gC_app.2 ⟨h9, hp⟩⟩)))
      show chF _ _ = fA f (s5 ++ [x]) (s5 ++ [x]).length
      rw [fA_snoc]
    · rw [if_neg hp]
      exact ok.bf rfl (ok.chk (by omega) (ok.some ⟨rfl, by dsimp only; omega, h10.mono (by omega), ⟨by have := h8.1; dsimp only; omega, h8.2⟩, h9⟩))
  · rintro ⟨s1, s2, s3, s4, s5⟩ ⟨h5, h6, h7, h8, h9⟩
    dsimp only at *
    unfold m_S_randomChain_b1
    exact ok.iff (by omega) (ok.some ⟨h7.mono (by omega), ⟨by have := h8.1; dsimp only; omega, h8.2⟩, h9⟩)
  · rintro ⟨e1, e2, e3⟩ ⟨h5, h6, h7⟩
    exact ok.some ⟨h5, ⟨h2, h2'⟩, h6, h7⟩
omit hN in
theorem anyvalB {r : S_reader} {c : Int} (h : RdB r c) (hc : c ≤ 800000000) : ok (m_S_anyValue N r) fun x => RdB x.2 (c + 6) ∧ bV x.1 := by
  unfold m_S_anyValue
  refine ok.call (valB h (by omega)) ?_
  rintro ⟨v, r1⟩ ⟨h1, h2⟩
  refine ok.call (pickB h1 (by omega) (by omega)) ?_
  rintro ⟨y, r2⟩ ⟨h4, h5, h6⟩
  refine ok.ite (fun _ => ok.call (oneB h4 (by omega) (by simp) (by simp)) ?_) fun _ => ok.ite (fun _ => ok.call (ofB h4 (by omega) (by simp) (by simp)) ?_) fun _ => ok.ite (fun _ => ok.call (oneB h4 (by omega) (by simp) (by simp)) ?_) fun _ => ok.some ⟨h4.mono (by omega), h2⟩
  · rintro ⟨z, r3⟩ ⟨h7, h8⟩
    refine ok.some ⟨h7.mono (by omega), ⟨?_, h2.2⟩⟩
    dsimp only at *
    simp only [List.mem_cons, List.not_mem_nil, or_false] at h8
    omega
  · rintro ⟨z, r3⟩ ⟨h7, h8⟩
    exact ok.some ⟨h7.mono (by omega), ⟨h2.1, of_size (by rfl) h8⟩⟩
  · rintro ⟨z, r3⟩ ⟨h7, h8⟩
    exact ok.some ⟨h7.mono (by omega), h2⟩
omit hN in
theorem bFm_set {f : List I_Column} {n i : Nat} {x : I_Column} (h : bFm f n) (hx : bV x.default) : bFm (f.set i x) n := ⟨by rw [List.length_set]; exact h.1, fun y hy => by
  rcases List.mem_or_eq_of_mem_set hy with h1 | h1
  · exact h.2 y h1
  · rw [h1]; exact hx⟩
theorem anyfmtB {r : S_reader} {c : Int} (h : RdB r c) (hc : c ≤ 500000000) : ok (m_S_anyFormat N r) fun x => RdB x.2 (c + 60) ∧ bFm x.1 6 := by
  unfold m_S_anyFormat
  refine ok.call (fmtB hN h (by omega)) ?_
  rintro ⟨f, r1⟩ ⟨h1, h2, h2'⟩
  refine ok.call (pickB h1 (by omega) (by omega)) ?_
  rintro ⟨y, r2⟩ ⟨h4, h5, h6⟩
  dsimp only at *
  refine ok.ite (fun _ => ok.call (oneB h4 (by omega) (by simp) (by simp)) ?_) fun _ => ok.ite (fun _ => ok.call (anyvalB h4 (by omega)) ?_) fun _ => ok.ite (fun _ => ok.some ⟨h4.mono (by omega), Nat.zero_le _, fun c h => by cases h⟩) fun _ => ok.ite (fun _ => ?_) fun _ => ok.some ⟨h4.mono (by omega), h2.mono (by omega)⟩
  · rintro ⟨z, r3⟩ ⟨h7, h8⟩
    refine ok.eq (ixI_eq (n := 0) rfl (by omega)) (ok.some ⟨h7.mono (by omega), bFm_set (h2.mono (by omega)) (show bV (f[0]'(by omega)).default from h2.2 _ (List.getElem_mem _))⟩)
  · rintro ⟨z, r3⟩ ⟨h7, h8⟩
    refine ok.eq (ixI_eq (n := 0) rfl (by omega)) (ok.some ⟨h7.mono (by omega), bFm_set (h2.mono (by omega)) h8⟩)
  · have hl := h2.1
    refine ok.call (P := fun e => RdB ⟨e.1, e.2.1⟩ (c + 60) ∧ bFm e.2.2 6) (ok.each (6 - f.length) (fun i s => RdB ⟨s.1, s.2.1⟩ (c + 27 + 5 * i) ∧ bFm s.2.2 (f.length + i) ∧ s.2.2.length = f.length + i) _ ?_ ?_ N 0 _ (Nat.zero_le _) ⟨h4.mono (by omega), ⟨Nat.le_refl _, h2.2⟩, rfl⟩ (by omega)) ?_
    · rintro i ⟨s1, s2, s3⟩ hi ⟨h7, h8, h9⟩
      dsimp only at *
      unfold m_S_anyFormat_b1
      refine ok.ift (by omega) (ok.call (colB h7 (by omega)) ?_)
      rintro ⟨x, r3⟩ ⟨h10, h11⟩
      dsimp only at *
      exact ok.app (by simp; omega) (ok.some ⟨h10.mono (by omega), bFm_snoc h8 h11, by simp; omega⟩)
    · rintro ⟨s1, s2, s3⟩ ⟨h7, h8, h9⟩
      dsimp only at *
      unfold m_S_anyFormat_b1
      exact ok.iff (by omega) (ok.some ⟨h7.mono (by omega), h8.mono (by omega)⟩)
    · rintro ⟨e1, e2, e3⟩ ⟨h7, h8⟩
      exact ok.some ⟨h7, h8⟩
theorem anychgB {r : S_reader} {f : List I_Column} {c : Int} (h : RdB r c) (hc : c ≤ 500000000) (hf : bN f) (hfl : f.length ≤ 6) : ok (m_S_anyChange N r f) fun x => RdB x.2 (c + 50) ∧ bV x.1.column.default := by
  unfold m_S_anyChange
  refine ok.eq (copyS (by omega)) (ok.app (by simp; omega) (ok.eq (subM_eq (by simp; omega)) ?_))
  refine ok.call (chgB' hN h (by omega) (f := _) ?_ (by simp; omega)) ?_
  · intro x hx
    have hx' := List.mem_of_mem_drop (List.mem_of_mem_take hx)
    rcases List.mem_append.1 hx' with h1 | h1
    · exact hf x h1
    · rw [List.mem_singleton.1 h1]; exact ⟨by decide, by decide⟩
  rintro ⟨y, r2⟩ ⟨h4, h5⟩
  refine ok.call (pickB h4 (by omega) (by omega)) ?_
  rintro ⟨z, r3⟩ ⟨h6, h7⟩
  dsimp only at *
  refine ok.ite (fun _ => ok.call (oneB h6 (by omega) (by simp) (by simp)) ?_) fun _ => ok.ite (fun _ => ok.chk (by omega) (ok.call (oneB h6 (by omega) (by simp) (by simp)) ?_)) fun _ => ok.some ⟨h6.mono (by omega), h5⟩
  · rintro ⟨z, r3⟩ ⟨h7, h8⟩
    exact ok.some ⟨h7.mono (by omega), h5⟩
  · rintro ⟨z, r3⟩ ⟨h7, h8⟩
    exact ok.some ⟨h7.mono (by omega), h5⟩
theorem anychainB {r : S_reader} {c : Int} (h : RdB r c) (hc : c ≤ 400000000) : ok (m_S_anyChain N r) fun x => RdB x.2.2 (c + 500) ∧ bFm x.1 6 ∧ (x.2.1.length ≤ 9 ∧ ∀ c ∈ x.2.1, bV c.column.default) := by
  unfold m_S_anyChain
  refine ok.call (rchainB hN h (by omega)) ?_
  rintro ⟨f, l, r1⟩ ⟨h1, h2, h3, h3'⟩
  refine ok.call (pickB h1 (by omega) (by omega)) ?_
  rintro ⟨y, r2⟩ ⟨h4, h5, h6⟩
  dsimp only at *
  have hl8 := h3.1
  refine ok.ite (fun _ => ok.call (anyfmtB hN h4 (by omega)) ?_) fun _ => ok.ite (fun _ => ok.call (anychgB hN h4 (by omega) h2.1.bN (by have := h2.1.1; omega)) ?_) fun _ => ok.ite (fun _ => ?_) fun _ => ok.some ⟨h4.mono (by omega), h2.1.mono (by omega), by dsimp only; omega, h3.2⟩
  · rintro ⟨z, r3⟩ ⟨h7, h8⟩
    exact ok.some ⟨h7.mono (by omega), h8, by dsimp only; omega, h3.2⟩
  · rintro ⟨z, r3⟩ ⟨h7, h8⟩
    have h9 := bCs_snoc h3 h8
    exact ok.app (by simp; omega) (ok.some ⟨h7.mono (by omega), h2.1.mono (by omega), h9⟩)
  · refine ok.call (P := fun e => e.length ≤ 9 ∧ ∀ c ∈ e, bV c.column.default) (ok.each (9 - l.length) (fun i s => (s.length ≤ l.length + i ∧ ∀ c ∈ s, bV c.column.default) ∧ s.length = l.length + i) _ ?_ ?_ N 0 _ (Nat.zero_le _) ⟨⟨Nat.le_refl _, h3.2⟩, rfl⟩ (by omega)) ?_
    · rintro i s hi ⟨h7, h8⟩
      unfold m_S_anyChain_b1
      have h9 := bCs_snoc h7 (x := I_Change.mk (3 : Int) (0 : Int) (I_Column.mk (0 : Int) (I_Value.mk (0 : Int) (0 : Int) ByteArray.empty))) zV_b
      exact ok.ift (by omega) (ok.app (by simp; omega) (ok.some ⟨h9, by simp; omega⟩))
    · rintro s ⟨h7, h8⟩
      unfold m_S_anyChain_b1
      exact ok.iff (by omega) (ok.some ⟨by omega, h7.2⟩)
    · rintro e h7
      exact ok.some ⟨h4.mono (by omega), h2.1.mono (by omega), h7⟩
theorem rrowB {r : S_reader} {f : List I_Column} {c : Int} (h : RdB r c) (hc : c ≤ 500000000) (hfl : f.length ≤ 6) : ok (m_S_randomRow N r f) fun x => RdB x.2 (c + 24) ∧ x.1.length ≤ 6 ∧ ∀ v ∈ x.1, bV v := by
  unfold m_S_randomRow
  refine ok.call (P := fun e => RdB ⟨e.1, e.2.1⟩ (c + 24) ∧ e.2.2.length ≤ 6 ∧ ∀ v ∈ e.2.2, bV v) (ok.each f.length (fun i s => s.1 = (i : Int) ∧ RdB ⟨s.2.1, s.2.2.1⟩ (c + 4 * i) ∧ (s.2.2.2.length ≤ i ∧ ∀ v ∈ s.2.2.2, bV v)) _ ?_ ?_ N 0 _ (Nat.zero_le _) ⟨rfl, h.mono (by omega), Nat.zero_le _, fun c h => by cases h⟩ (by omega)) ?_
  · rintro i ⟨s1, s2, s3, s4⟩ hi ⟨h3, h4, h5⟩
    dsimp only at *
    subst h3
    unfold m_S_randomRow_b1
    refine ok.ift (by omega) (ok.eq (ixI_nat hi) (ok.call (valB h4 (by omega)) ?_))
    rintro ⟨x, r2⟩ ⟨h7, h8⟩
    dsimp only at *
    have := h5.1
    refine ok.app (by simp; omega) (ok.chk (by omega) (ok.some ⟨by simp, h7.mono (by omega), bR_snoc h5 h8⟩))
  · rintro ⟨s1, s2, s3, s4⟩ ⟨h3, h4, h5⟩
    dsimp only at *
    subst h3
    unfold m_S_randomRow_b1
    exact ok.iff (by omega) (ok.some ⟨h4.mono (by omega), by have := h5.1; dsimp only; omega, h5.2⟩)
  · rintro ⟨e1, e2, e3⟩ h3
    exact ok.some h3
theorem anyrowB {r : S_reader} {c : Int} (h : RdB r c) (hc : c ≤ 500000000) : ok (m_S_anyRow N r) fun x => RdB x.2 (c + 40) ∧ x.1.length ≤ 6 ∧ ∀ v ∈ x.1, bV v := by
  unfold m_S_anyRow
  refine ok.call (oneB h (by omega) (by simp) (by simp)) ?_
  rintro ⟨n, r2⟩ ⟨h3, h4⟩
  have hn : 0 ≤ n ∧ n ≤ 6 := by
    simp only [List.mem_cons, List.not_mem_nil, or_false] at h4
    omega
  obtain ⟨n, rfl⟩ : ∃ m : Nat, n = m := ⟨n.toNat, by omega⟩
  dsimp only at *
  refine ok.call (P := fun e => RdB ⟨e.1, e.2.1⟩ (c + 25) ∧ e.2.2.length ≤ 6 ∧ ∀ v ∈ e.2.2, bV v) (ok.each n (fun i s => s.1 = ((n - i : Nat) : Int) ∧ RdB ⟨s.2.1, s.2.2.1⟩ (c + 1 + 4 * i) ∧ (s.2.2.2.length ≤ i ∧ ∀ v ∈ s.2.2.2, bV v)) _ ?_ ?_ N 0 _ (Nat.zero_le _) ⟨rfl, h3.mono (by omega), Nat.zero_le _, fun c h => by cases h⟩ (by omega)) ?_
  · rintro i ⟨s1, s2, s3, s4⟩ hi ⟨h3, h4, h5⟩
    dsimp only at *
    unfold m_S_anyRow_b1
    refine ok.ift (by omega) (ok.call (valB h4 (by omega)) ?_)
    rintro ⟨x, r2⟩ ⟨h7, h8⟩
    dsimp only at *
    have := h5.1
    refine ok.app (by simp; omega) (ok.chk (by omega) (ok.some ⟨by dsimp only; omega, h7.mono (by omega), bR_snoc h5 h8⟩))
  · rintro ⟨s1, s2, s3, s4⟩ ⟨h3, h4, h5⟩
    dsimp only at *
    unfold m_S_anyRow_b1
    exact ok.iff (by omega) (ok.some ⟨h4.mono (by omega), by have := h5.1; dsimp only; omega, h5.2⟩)
  · rintro ⟨e1, e2, e3⟩ ⟨h4, h5, h6⟩
    dsimp only at *
    show ok (m_S_anyRow_k1 N _ _ _) _
    unfold m_S_anyRow_k1
    refine ok.ite (fun h0 => ok.call (pickB h4 (by omega) (by omega)) ?_) fun h0 => ok.some ⟨h4.mono (by omega), h5, h6⟩
    rintro ⟨y, r3⟩ ⟨h7, h8, h9⟩
    refine ok.ite (fun _ => ok.call (pickB h7 (by omega) (by omega)) ?_) fun _ => ok.some ⟨h7.mono (by omega), h5, h6⟩
    rintro ⟨z, r4⟩ ⟨h10, h11, h12⟩
    dsimp only at *
    refine ok.call (anyvalB h10 (by omega)) ?_
    rintro ⟨v, r5⟩ ⟨h13, h14⟩
    dsimp only at *
    refine ok.ix (by omega) (by omega) fun m hm he => ok.some ⟨h13.mono (by omega), by rw [List.length_set]; exact h5, fun x hx => ?_⟩
    rcases List.mem_or_eq_of_mem_set hx with h1 | h1
    · exact h6 x h1
    · rw [h1]; exact h14
end
end V
end Go.Proofs.YtkjnnifnmoekjaaGreatDoor
namespace Go.Proofs.YtkjnnifnmoekjaaGreatDoor
namespace V
set_option linter.unusedVariables false
set_option linter.unusedSimpArgs false
set_option maxHeartbeats 1000000
def rOk (l : List I_Tagged) (n : Nat) : Prop := l.length ≤ n ∧ ∀ r ∈ l, r.row.length ≤ 6 ∧ ∀ v ∈ r.row, bV v
theorem rOk.snoc {l : List I_Tagged} {n : Nat} {x : I_Tagged} (h : rOk l n) (hx : x.row.length ≤ 6 ∧ ∀ v ∈ x.row, bV v) : rOk (l ++ [x]) (n + 1) := ⟨by have := h.1; simp; omega, fun y hy => by
  rcases List.mem_append.1 hy with h1 | h1
  · exact h.2 y h1
  · rw [List.mem_singleton.1 h1]; exact hx⟩
/-- A table that is drawn is small. -/
def dT (t : I_Table) : Prop := bFm t.first 6 ∧ (t.changes.length ≤ 9 ∧ ∀ c ∈ t.changes, bV c.column.default) ∧ rOk t.rows 11
theorem dT.bT {t : I_Table} (h : dT t) : bT t := ⟨h.1.bS (by omega), ⟨by have := h.2.1.1; omega, fun c hc => (h.2.1.2 c hc).2⟩, by have := h.2.2.1; omega, fun i hi => by
  have := h.2.2.2 _ (List.getElem_mem hi)
  exact ⟨by omega, fun v hv => (this.2 v hv).2⟩⟩
section
variable {N : Nat} (hN : 100000000 ≤ N)
include hN
theorem tabB {r : S_reader} {c : Int} (h : RdB r c) (hc : c ≤ 1000) : ok (m_S_anyTable2 N r) fun x => RdB x.2 (c + 3000) ∧ dT x.1 := by
  unfold m_S_anyTable2
  refine ok.call (rchainB hN h (by omega)) ?_
  rintro ⟨f, l, r1⟩ ⟨h1, h2, h3, hg⟩
  dsimp only at *
  have hl8 := h3.1
  have hf5 := h2.1.1
  refine ok.eq (formatsS hN (by omega) h2.1.bN ⟨by omega, fun c hc => (h3.2 c hc).2⟩) ?_
  rw [if_pos hg]
  refine ok.call (oneB h1 (by omega) (by simp) (by simp)) ?_
  rintro ⟨n, r2⟩ ⟨h4, h5⟩
  have hn : 0 ≤ n ∧ n ≤ 10 := by
    simp only [List.mem_cons, List.not_mem_nil, or_false] at h5
    omega
  obtain ⟨n, rfl⟩ : ∃ m : Nat, n = m := ⟨n.toNat, by omega⟩
  have hlen := chs_len f l
  have hrow : ∀ (r : S_reader) (g : List I_Column) (d : Int), RdB r d → d ≤ 100000 → g.length ≤ 6 → ok (m_S_randomRow N r g) fun x => RdB x.2 (d + 24) ∧ x.1.length ≤ 6 ∧ ∀ v ∈ x.1, bV v := fun r g d hr hd hg => rrowB hN hr (by omega) hg
  refine ok.call (P := fun e => RdB ⟨e.1, e.2.1⟩ (c + 401 + 250) ∧ rOk e.2.2 10) (ok.each n (fun i s => s.1 = ((n - i : Nat) : Int) ∧ RdB ⟨s.2.1, s.2.2.1⟩ (c + 401 + 25 * i) ∧ rOk s.2.2.2 i) _ ?_ ?_ N 0 _ (Nat.zero_le _) ⟨rfl, h4.mono (by omega), Nat.zero_le _, fun c h => by cases h⟩ (by omega)) ?_
  · rintro i ⟨s1, s2, s3, s4⟩ hi ⟨h6, h7, h8⟩
    dsimp only at *
    unfold m_S_anyTable2_b1
    refine ok.ift (by omega) (ok.call (pickB h7 (by omega) (by dsimp only; omega)) ?_)
    rintro ⟨x, r3⟩ ⟨h9, h10, h11⟩
    dsimp only at *
    refine ok.eq (chs_ix (n := x.toNat) (by omega) (by omega)) (ok.call (hrow _ _ _ h9 (by omega) (len_fA (by omega) (by omega) hg _ (by omega))) ?_)
    rintro ⟨y, r4⟩ ⟨h12, h13⟩
    dsimp only at *
    have := h8.1
    exact ok.app (by simp; omega) (ok.chk (by omega) (ok.some ⟨by dsimp only; omega, h12.mono (by omega), h8.snoc h13⟩))
  · rintro ⟨s1, s2, s3, s4⟩ ⟨h6, h7, h8⟩
    dsimp only at *
    unfold m_S_anyTable2_b1
    exact ok.iff (by omega) (ok.some ⟨h7.mono (by omega), by have := h8.1; dsimp only; omega, h8.2⟩)
  · rintro ⟨e1, e2, e3⟩ ⟨h6, h7⟩
    dsimp only at *
    show ok (m_S_anyTable2_k1 N _ _ _ _ _) _
    unfold m_S_anyTable2_k1
    have h71 := h7.1
    refine ok.call (pickB h6 (by omega) (by omega)) ?_
    rintro ⟨y, r3⟩ ⟨h8, h9, h10⟩
    dsimp only at *
    refine ok.ite (fun _ => ok.call (anychainB hN h8 (by omega)) ?_) fun _ => ok.ite (fun _ => ok.call (oneB h8 (by omega) (by simp) (by simp)) ?_) fun _ => ok.ite (fun _ => ?_) fun _ => ok.some ⟨h8.mono (by omega), h2.1.mono (by omega), ⟨by dsimp only; omega, h3.2⟩, by dsimp only; omega, h7.2⟩
    · rintro ⟨f', l', r4⟩ ⟨h11, h12, h13⟩
      exact ok.some ⟨h11.mono (by omega), h12, h13, by dsimp only; omega, h7.2⟩
    · rintro ⟨z, r4⟩ ⟨h11, h12⟩
      refine ok.call (anyrowB hN h11 (by omega)) ?_
      rintro ⟨w, r5⟩ ⟨h13, h14⟩
      dsimp only at *
      exact ok.app (by simp; omega) (ok.some ⟨h13.mono (by omega), h2.1.mono (by omega), ⟨by dsimp only; omega, h3.2⟩, h7.snoc h14⟩)
    · refine ok.call (P := fun e => RdB ⟨e.1, e.2.1⟩ (c + 652 + 275) ∧ rOk e.2.2 11) (ok.each (11 - e3.length) (fun i s => RdB ⟨s.1, s.2.1⟩ (c + 652 + 25 * i) ∧ rOk s.2.2 (e3.length + i) ∧ s.2.2.length = e3.length + i) _ ?_ ?_ N 0 _ (Nat.zero_le _) ⟨h8.mono (by omega), ⟨Nat.le_refl _, h7.2⟩, rfl⟩ (by omega)) ?_
      · rintro i ⟨s1, s2, s3⟩ hi ⟨h11, h12, h13⟩
        dsimp only at *
        unfold m_S_anyTable2_b2
        refine ok.ift (by omega) (ok.call (hrow _ _ _ h11 (by omega) (by dsimp only; omega)) ?_)
        rintro ⟨x, r4⟩ ⟨h14, h15⟩
        dsimp only at *
        exact ok.app (by simp; omega) (ok.some ⟨h14.mono (by omega), h12.snoc h15, by simp; omega⟩)
      · rintro ⟨s1, s2, s3⟩ ⟨h11, h12, h13⟩
        dsimp only at *
        unfold m_S_anyTable2_b2
        exact ok.iff (by omega) (ok.some ⟨h11.mono (by omega), by have := h12.1; dsimp only; omega, h12.2⟩)
      · rintro ⟨e1, e2, e3⟩ ⟨h11, h12⟩
        exact ok.some ⟨RdB.mono h11 (by omega), h2.1.mono (by omega), ⟨by dsimp only; omega, h3.2⟩, h12⟩
theorem drawT (l : List UInt8) : ok (m_S_newReader N l) fun r => ok (m_S_anyTable2 N r) fun x => RdB x.2 3000 ∧ dT x.1 := (newB l).mono fun r h => (tabB hN h (by omega)).mono fun x hx => ⟨hx.1.mono (by omega), hx.2⟩
end
end V
end Go.Proofs.YtkjnnifnmoekjaaGreatDoor
namespace Go.Proofs.YtkjnnifnmoekjaaGreatDoor
namespace V
open Enc (enc)
set_option linter.unusedVariables false
set_option linter.unusedSimpArgs false
open Go.RowKit Go.ChangeShapes Go.WideShapes Go.ChangeAt
/-- Cells that stand for trees. -/
def TL (w : World) (U : Nat → Prop) (cs : List Tr) (ys : List Value) : Prop :=
  ys.length = cs.length ∧ (∀ y, y ∈ ys → y.oneCell' = true) ∧ ∀ (j : Nat) c y, cs[j]? = some c → ys[j]? = some y → TRel w U c y
theorem TL.nil {w : World} {U : Nat → Prop} : TL w U [] [] := ⟨rfl, fun y h => (List.not_mem_nil h).elim, fun j c y h => by simp at h⟩
theorem TL.app {w : World} {U : Nat → Prop} {cs ds : List Tr} {ys zs : List Value} (h1 : TL w U cs ys) (h2 : TL w U ds zs) : TL w U (cs ++ ds) (ys ++ zs) := by
  refine ⟨by simp [h1.1, h2.1], fun y h => (List.mem_append.1 h).elim (h1.2.1 y) (h2.2.1 y), fun j c y hc hy => ?_⟩
  rcases Nat.lt_or_ge j cs.length with hj | hj
  · rw [List.getElem?_append_left hj] at hc
    rw [List.getElem?_append_left (by rw [h1.1]; exact hj)] at hy
    exact h1.2.2 j c y hc hy
  · rw [List.getElem?_append_right hj] at hc
    rw [List.getElem?_append_right (by rw [h1.1]; exact hj), h1.1] at hy
    exact h2.2.2 _ c y hc hy
theorem TL.one {w : World} {U : Nat → Prop} {c : Tr} {y : Value} (h1 : y.oneCell' = true) (h : TRel w U c y) : TL w U [c] [y] := by
  refine ⟨rfl, fun z hz => by simp at hz; subst hz; exact h1, fun j d z hc hz => ?_⟩
  cases j with
  | zero => simp at hc hz; subst hc hz; exact h
  | succ j => simp at hc
/-- Plain data as Go can hold it. -/
class Szd (α : Type) where szd : α → Prop
open Szd (szd)
instance : Szd Int := ⟨fun n => -9223372036854775808 ≤ n ∧ n ≤ 9223372036854775807⟩
instance : Szd Bool := ⟨fun _ => True⟩
instance : Szd UInt8 := ⟨fun _ => True⟩
instance : Szd ByteArray := ⟨fun s => s.size ≤ 9223372036854775807⟩
instance {α : Type} [Szd α] : Szd (List α) := ⟨fun xs => xs.length ≤ 9223372036854775807 ∧ ∀ x ∈ xs, szd x⟩
/-- What the rows read at a type is some plain value. -/
class Opn (P : Program) (α : Type) [Enc α] [Szd α] (t : TypeId) : Prop where
  opn : ∀ {H : Type} {en : TypeId × Value → H} {W : World} {fuel : Nat} {cs : List Value} {x : DataW H × List MemPlace}, DataW.trod en P W 0 (fun _ => true) true fuel t cs = some x → ∃ a : α, TL W (· < W.heap.size) (enc a) cs ∧ szd a
section
variable {P : Program} {t : TypeId}
theorem Opn.int (ht : P.underlying t = some (.int .i64)) : Opn P Int t := ⟨fun h => by
  obtain ⟨n, rfl, rfl, hw⟩ := DataW.trod_int ht h
  exact ⟨n, TL.one rfl (.v _ rfl), by simpa [Lit.wf, IntKind.min, IntKind.max, IntKind.signed, IntKind.bits, szd] using hw⟩⟩
theorem Opn.u8 (ht : P.underlying t = some (.int .u8)) : Opn P UInt8 t := ⟨fun h => by
  obtain ⟨n, rfl, rfl, hw⟩ := DataW.trod_int ht h
  have hn : 0 ≤ n ∧ n ≤ 255 := by simpa [Lit.wf, IntKind.min, IntKind.max, IntKind.signed, IntKind.bits] using hw
  obtain ⟨k, rfl⟩ := Int.eq_ofNat_of_zero_le hn.1
  refine ⟨UInt8.ofNat k, TL.one rfl ?_, trivial⟩
  have : (UInt8.ofNat k).toNat = k := UInt8.toNat_ofNat_of_lt' (by show k < 256; omega)
  rw [this]; exact .v _ rfl⟩
theorem Opn.str (ht : P.underlying t = some .string) : Opn P ByteArray t := ⟨fun h => by
  obtain ⟨n, rfl, rfl, hw⟩ := DataW.trod_string ht h
  exact ⟨n, TL.one rfl (.v _ rfl), hw⟩⟩
theorem spot_none {w : World} {a : Addr} {v : Value} (h : w.cell? a = some v) : a.spot = none := by
  unfold World.cell? at h
  split at h
  · split at h
    · cases h
    · simpa using ‹¬ a.spot.isSome = true›
  · cases h
theorem cell_lt {w : World} {a : Addr} {v : Value} (h : w.cell? a = some v) : a.block < w.heap.size := by
  unfold World.cell? at h
  split at h
  · rename_i hq
    exact (Array.getElem?_eq_some_iff.1 hq).1
  · cases h
theorem addr_add' {B o j : Nat} : Addr.add ⟨B, o, none⟩ j = ⟨B, o + j, none⟩ := by unfold Addr.add; split <;> simp_all
theorem addr_add2 (a : Addr) (i j : Nat) : (a.add i).add j = a.add (i + j) := by unfold Addr.add; by_cases hi : i = 0 <;> by_cases hj : j = 0 <;> simp [hi, hj, Nat.add_assoc]
theorem Opn.sl {α : Type} [F : Enc α] [Szd α] {e : TypeId} (ht : P.underlying t = some (.slice e)) (hc : P.cellsOf e = F.k) (hpos : 0 < F.k) [E : Opn P α e] : Opn P (List α) t := ⟨fun {H en W fuel cs x} h => by
  rcases Go.Deep.open_slice ht h with ⟨rfl, rfl⟩ | ⟨a, len, cap, m, n, D, Pl, rfl, _, hl, hm, hmm, rfl, hel⟩
  · exact ⟨[], TL.one rfl .nil, by simp, fun x hx => by cases hx⟩
  · simp only [if_pos] at hmm
    have hm' : cap ≤ 9223372036854775807 := hm
    -- the elements, one by one
    have key : ∀ k, k ≤ len → ∃ (xs : List α) (ys : List Value), xs.length = k ∧ TL W (· < W.heap.size) (eL xs) ys ∧ (∀ x ∈ xs, szd x) ∧ ∀ (j : Nat) y, ys[j]? = some y → W.cell? (a.add j) = some y := by
      intro k
      induction k with
      | zero => intro _; exact ⟨[], [], rfl, TL.nil, fun x hx => (List.not_mem_nil hx).elim, fun j y hy => (by simp at hy)⟩
      | succ k ih =>
        intro hk
        obtain ⟨xs, ys, h1, h2, h3, h4⟩ := ih (by omega)
        obtain ⟨cs', h5, h6⟩ := hel k (by omega)
        obtain ⟨x, h7, h8⟩ := E.opn h6
        obtain ⟨_, hcl, hcg⟩ := World.cells?_some h5
        have hyl : ys.length = k * F.k := by rw [h2.1, eL_len, h1]
        refine ⟨xs ++ [x], ys ++ cs', by simp [h1], ?_, fun y hy => ?_, fun j y hy => ?_⟩
        · rw [eL_app, eL_one]; exact h2.app h7
        · rcases List.mem_append.1 hy with hy | hy
          · exact h3 y hy
          · simp at hy; subst hy; exact h8
        · rcases Nat.lt_or_ge j ys.length with hj | hj
          · rw [List.getElem?_append_left hj] at hy; exact h4 j y hy
          · rw [List.getElem?_append_right hj] at hy
            have hjl := (List.getElem?_eq_some_iff.1 hy).1
            have := hcg (j - ys.length) (by omega)
            rw [hy, hyl] at this
            rw [addr_add2, hc] at this
            rw [← this]
            congr 2; omega
    obtain ⟨xs, ys, h1, h2, h3, h4⟩ := key len (Nat.le_refl _)
    subst h1
    refine ⟨xs, ?_, by show xs.length ≤ 9223372036854775807; omega, h3⟩
    by_cases h0 : xs.length = 0
    · obtain rfl := List.eq_nil_of_length_eq_zero h0
      exact TL.one rfl (.sl0 _ _)
    · have hne : 0 < ys.length := by rw [h2.1, eL_len]; exact Nat.mul_pos (by omega) hpos
      have c0 := h4 0 _ (List.getElem?_eq_getElem hne)
      have hsp : a.spot = none := spot_none (by simpa [Addr.add] using c0)
      have hb := cell_lt c0
      obtain ⟨B, o, s⟩ := a
      simp only at hsp; subst hsp
      rw [addr_add'] at hb
      exact TL.one rfl (.sl B o xs.length cap (eL xs) ys hb h2.1 h2.2.1 (fun j y hy => by have := h4 j y hy; rwa [addr_add'] at this) h2.2.2 hl)⟩
/-- The fields of a struct, one after the other. -/
theorem opn_fields {H : Type} {en : TypeId × Value → H} {W : World} {fs : Array Field} {fuel : Nat} {cs : List Value} {x : DataW H × List MemPlace} (ht : P.underlying t = some (.struct fs)) (h : DataW.trod en P W 0 (fun _ => true) true fuel t cs = some x) :
    cs.length = P.cellsOf t ∧ ∀ (i : Nat) (f : Field), fs[i]? = some f → ∃ n y, DataW.trod en P W 0 (fun _ => true) true n f.type ((cs.drop f.offset).take (P.cellsOf f.type)) = some y := by
  obtain ⟨xs, n, rfl, rfl, h1, h2, h3⟩ := DataW.trod_struct ht h
  refine ⟨h1, fun i f hf => ?_⟩
  have := h3 i f hf
  obtain ⟨hi, _⟩ := Array.getElem?_eq_some_iff.1 hf
  exact ⟨n, xs[i], by rw [this, List.getElem?_eq_getElem (by omega)]⟩
/-- An argument of a law. -/
theorem Opn.arg {α : Type} [F : Enc α] [Szd α] {H : Type} {en : TypeId × Value → H} {W : World} {v : Value} {d : DataW H} {ps : List MemPlace} (E : Opn P α t) (hk : ∀ a : α, (enc a).length = 1) (hv : v.cells = #[v]) (h : DataW.Trod en P W 0 (fun _ => true) true t v d ps) :
    ∃ a : α, (∀ M, ∀ c, (enc a)[0]? = some c → Rel W (· < W.heap.size) M (.t c) v) ∧ szd a := by
  obtain ⟨fuel, hf⟩ := h
  rw [hv] at hf
  obtain ⟨a, h1, h2⟩ := E.opn hf
  exact ⟨a, fun M c hc => .t _ _ (h1.2.2 0 c v hc rfl), h2⟩
theorem TL.step {W : World} {U : Nat → Prop} {c d : List Tr} {cs : List Value} {i j m : Nat} (h : TL W U c ((cs.drop i).take m)) (hr : TL W U d (cs.drop j)) (hj : j = i + m) : TL W U (c ++ d) (cs.drop i) := by
  have := h.app hr
  rw [hj, ← List.drop_drop, List.take_append_drop] at this
  exact this
theorem TL.fin {W : World} {U : Nat → Prop} {cs : List Value} {k : Nat} (h : cs.length = k) : TL W U [] (cs.drop k) := by
  rw [List.drop_of_length_le (by omega)]; exact TL.nil
theorem args1 {w : World} {U : Nat → Prop} {M : Mp} {a : AV} {y : Value} (h : Rel w U M a y) : ArgsRel w U M [a] [y] :=
  ⟨rfl, fun i c z hc hz => by
    match i with
    | 0 => cases hc; cases hz; exact h
    | i + 1 => simp at hc⟩
theorem own : ownKnob Tryz.prog.godebug = none := by kernel_rfl
theorem laidOut : laidOutB Tryz.prog = true := by kernel_rfl
/-- What the call of a law comes to, from the start of a run. -/
theorem law_run {f : FuncId} {args : List AV} {av : List Value} {W : World} (ht : TabOk W (· < W.heap.size)) (hc : FnX P f [] args (RE (bA true) [])) (ha : ArgsRel W (· < W.heap.size) [] args av) : Calls P f av.toArray W fun e W' => e = .returned (.bool true) ∧ Below W.heap.size W W' := by
  have := hc ⟨W, [], (· < W.heap.size)⟩ (· < W.heap.size) av ?_ (fun B h => h) ha
  · refine this.mono ?_
    rintro e w' ⟨v, r, bl, M', U', rfl, ⟨rfl, rfl⟩, h3, h4⟩
    cases h3 with | t _ _ h =>
    cases h
    refine ⟨rfl, ?_⟩
    exact h4.base.below
  · have hno : ∀ B, ¬ InM [] B := fun B ⟨b, p, h, _⟩ => by simp at h
    exact ⟨BelowX.refl _ _, fun b x h => by simp at h, rfl, fun B h => (hno B h).elim, fun B h => (hno B h).elim, fun b b' p p' B h => by simp at h, fun f F h => by simp at h, fun b ob x h => by simp at h, fun B h => ⟨⟨h, hno B⟩, .inl h⟩, ht⟩
end
end V
end Go.Proofs.YtkjnnifnmoekjaaGreatDoor
namespace Go.Proofs.YtkjnnifnmoekjaaGreatDoor
namespace V
set_option linter.unusedVariables false
set_option linter.unusedSimpArgs false
set_option maxHeartbeats 1000000
def l01 (b : Bool) : Int := bif b then 1 else 0
def ltB (a b : ByteArray) : Bool := Op.bytesLess a.toList b.toList
theorem ltB_asym {a b : ByteArray} (h : ltB a b = true) : ltB b a = false := by
  have := bl_total a.toList b.toList
  unfold ltB at *
  rw [h, Bool.true_or] at this
  simpa using this.symm
theorem ltB_self (a : ByteArray) : ltB a a = false := by
  cases h : ltB a a
  · rfl
  · have := ltB_asym h; rw [h] at this; cases this
/-- Two values compared. -/
def sc (a b : I_Value) : Int := bif decide (a.kind = b.kind) then (bif decide (a.num = b.num) then l01 (ltB b.text a.text) - l01 (ltB a.text b.text) else l01 (decide (b.num < a.num)) - l01 (decide (a.num < b.num))) else l01 (decide (b.kind < a.kind)) - l01 (decide (a.kind < b.kind))
theorem sc_anti (a b : I_Value) : sc a b = - sc b a := by
  unfold sc
  by_cases h : a.kind = b.kind
  · by_cases h2 : a.num = b.num
    · simp only [h, h2, decide_true, cond_true]; omega
    · have h2' : ¬ b.num = a.num := fun e => h2 e.symm
      simp only [h, h2, h2', decide_true, cond_true, decide_false, cond_false]; omega
  · have h' : ¬ b.kind = a.kind := fun e => h e.symm
    simp only [h, h', decide_false, cond_false]; omega
theorem l01_bd (b : Bool) : 0 ≤ l01 b ∧ l01 b ≤ 1 := by cases b <;> decide
theorem l01_cmp {a b : Bool} (h : a = true → b = false) : (bif a then (-1 : Int) else bif b then 1 else 0) = l01 b - l01 a := by
  cases a
  · cases b <;> rfl
  · rw [h rfl]; rfl
/-- The value of a row in a column of the last format. -/
def cv (t : I_Table) (c : Nat) (r : I_Tagged) : I_Value := ((adv t r)[c]?).getD ⟨0, 0, ByteArray.empty⟩
theorem cv_get {t : I_Table} (h : tV t) {i c : Nat} (hi : i < t.rows.length) (hc : c < (fL t).length) : ∃ h : c < (adv t t.rows[i]).length, cv t c t.rows[i] = (adv t t.rows[i])[c] ∧ vV (cv t c t.rows[i]) := by
  have hf := adv_fit h (h.2.2 i hi)
  have hl : c < (adv t t.rows[i]).length := by rw [hf.1]; exact hc
  have e : cv t c t.rows[i] = (adv t t.rows[i])[c] := by unfold cv; rw [List.getElem?_eq_getElem hl]; rfl
  exact ⟨hl, e, e ▸ (hf.2 c hl hc).1⟩
/-- There is such a column. -/
def hasC (t : I_Table) (c : Int) : Prop := tV t ∧ 0 ≤ c ∧ c < (fL t).length
noncomputable instance (t : I_Table) (c : Int) : Decidable (hasC t c) := Classical.propDecidable _
def btw (t : I_Table) (c : Nat) (lo hi : I_Value) (i : Nat) : Bool := match t.rows[i]? with
  | some r => decide (sc lo (cv t c r) ≤ 0) && decide (sc (cv t c r) hi ≤ 0)
  | none => false
def okSc (t : I_Table) (c : Int) (lo hi : I_Value) : Prop := hasC t c ∧ vV lo ∧ vV hi
noncomputable instance (t : I_Table) (c : Int) (lo hi : I_Value) : Decidable (okSc t c lo hi) := Classical.propDecidable _
def found (t : I_Table) (c : Nat) (lo hi : I_Value) (n : Nat) : List Int := ((List.range n).filter (btw t c lo hi)).map Int.ofNat
theorem found_len (t : I_Table) (c : Nat) (lo hi : I_Value) (n : Nat) : (found t c lo hi n).length ≤ n := by
  unfold found; rw [List.length_map]
  have := List.length_filter_le (btw t c lo hi) (List.range n)
  rw [List.length_range] at this; exact this
theorem found_succ (t : I_Table) (c : Nat) (lo hi : I_Value) (n : Nat) : found t c lo hi (n + 1) = found t c lo hi n ++ (if btw t c lo hi n = true then [(n : Int)] else []) := by
  unfold found
  rw [List.range_succ, List.filter_append, List.map_append]
  by_cases h : btw t c lo hi n = true <;> simp [h]
theorem btw_at {t : I_Table} {c : Nat} {lo hi : I_Value} {i : Nat} (h : i < t.rows.length) : btw t c lo hi i = (decide (sc lo (cv t c t.rows[i]) ≤ 0) && decide (sc (cv t c t.rows[i]) hi ≤ 0)) := by
  unfold btw; rw [List.getElem?_eq_getElem h]
noncomputable def scanP (t : I_Table) (c : Int) (lo hi : I_Value) : List Int := if okSc t c lo hi then found t c.toNat lo hi t.rows.length else []
section
variable {N : Nat} (hN : 100000000 ≤ N)
include hN
omit hN in
theorem cmpII (a b : Int) : m_cmp_Compare_int_ N a b = some (l01 (decide (b < a)) - l01 (decide (a < b))) := by
  have e : m_cmp_Compare_int_ N a b = some (bif decide (a < b) then (-1 : Int) else bif decide (b < a) then 1 else 0) := by
    unfold m_cmp_Compare_int_ m_cmp_isNaN_int_
    simp only [decide_true, Bool.not_true, Option.bind_some, cond_false]
    cases decide (a < b) <;> cases decide (b < a) <;> rfl
  rw [e, l01_cmp fun h => decide_eq_false (by have := of_decide_eq_true h; omega)]
omit hN in
theorem cmpSS (a b : ByteArray) : m_cmp_Compare_string_ N a b = some (l01 (ltB b a) - l01 (ltB a b)) := by
  have e : m_cmp_Compare_string_ N a b = some (bif ltB a b then (-1 : Int) else bif ltB b a then 1 else 0) := by
    unfold m_cmp_Compare_string_ m_cmp_isNaN_string_ ltB
    simp only [beq_self_eq_true, Bool.not_true, Option.bind_some, cond_false]
    cases Op.bytesLess a.toList b.toList <;> cases Op.bytesLess b.toList a.toList <;> rfl
  rw [e, l01_cmp fun h => ltB_asym h]
omit hN in
theorem compI {v w : I_Value} (hv : vV v) (hw : vV w) : m_I_Value_compare N v w = some (sc v w) := by
  unfold m_I_Value_compare sc
  by_cases k : v.kind = w.kind
  · rw [decide_eq_true k, cond_true, cond_true]
    by_cases k1 : v.kind = 1
    · have t1 : v.text = ByteArray.empty := by rcases hv with h | h | h; omega; exact h.2.2.2; omega
      have t2 : w.text = ByteArray.empty := by rcases hw with h | h | h; omega; exact h.2.2.2; omega
      rw [decide_eq_true k1, cond_true, cmpII]
      by_cases n : v.num = w.num
      · rw [decide_eq_true n, cond_true, t1, t2, ltB_self, n]
        have : ¬ w.num < w.num := by omega
        rw [decide_eq_false this]; rfl
      · rw [decide_eq_false n, cond_false]; rfl
    · have n1 : v.num = w.num := by rcases hv with h | h | h <;> rcases hw with g | g | g <;> omega
      rw [decide_eq_false k1, cond_false, decide_eq_true n1, cond_true, cmpSS]; rfl
  · rw [decide_eq_false k, cond_false, cond_false, cmpII]; rfl
omit hN in
theorem toI (b : Bool) : m_S_toInt N b = some (l01 b) := by cases b <;> rfl
omit hN in
theorem compS (v w : I_Value) : m_S_compare N v w = some (sc v w) := by
  refine ok.val ?_
  unfold m_S_compare sc
  have hb := fun b => l01_bd b
  refine ok.ite (fun k => ?_) fun k => ?_
  · rw [decide_eq_true k, cond_true]
    refine ok.ite (fun n => ?_) fun n => ?_
    · rw [decide_eq_true n, cond_true]
      refine ok.eq (toI _) (ok.eq (toI _) (ok.chk ?_ (ok.some rfl)))
      have h1 := hb (Op.bytesLess w.text.toList v.text.toList)
      have h2 := hb (Op.bytesLess v.text.toList w.text.toList)
      omega
    · rw [decide_eq_false n, cond_false]
      refine ok.eq (toI _) (ok.eq (toI _) (ok.chk ?_ (ok.some rfl)))
      have h1 := hb (decide (w.num < v.num))
      have h2 := hb (decide (v.num < w.num))
      omega
  · rw [decide_eq_false k, cond_false]
    refine ok.eq (toI _) (ok.eq (toI _) (ok.chk ?_ (ok.some rfl)))
    have h1 := hb (decide (w.kind < v.kind))
    have h2 := hb (decide (v.kind < w.kind))
    omega
theorem colI {t : I_Table} (hb : bT t) (c : Int) : m_I_columnOf N t c = some (if hasC t c then (t.rows.map (cv t c.toNat), true) else ([], false)) := by
  have hrl := hb.rl
  refine ok.val ?_
  unfold m_I_columnOf
  refine ok.eq (lastI hN hb) ?_
  by_cases hv : tV t
  · rw [if_pos hv]
    refine ok.bt rfl (ok.ite (fun h => ok.some ?_) fun h => ok.ite (fun h2 => ok.some ?_) fun h2 => ok.eq (rowsI hN hb) ?_)
    · rw [if_neg fun e : hasC t c => by have := e.2.1; omega]
    · dsimp only at h2
      rw [if_neg fun e : hasC t c => by have := e.2.2; omega]
    · dsimp only at h2
      have hh : hasC t c := ⟨hv, by omega, by omega⟩
      rw [if_pos hh]
      have e0 : tR t = t.rows.map (adv t) := by unfold tR; rw [if_pos hv]
      rw [e0]
      refine ok.call (P := fun o => o = t.rows.map (cv t c.toNat)) (ok.each t.rows.length (fun i s => s = ((i : Int), (t.rows.take i).map (cv t c.toNat))) _ ?_ ?_ N 0 _ (Nat.zero_le _) rfl (by omega)) ?_
      · rintro i s hi rfl
        show ok (m_I_columnOf_b1 N c _ (i : Int) _) _
        unfold m_I_columnOf_b1
        obtain ⟨h3, h4, _⟩ := cv_get hv (c := c.toNat) hi (by omega)
        have e1 : ixI (t.rows.map (adv t)) (i : Int) = some (adv t t.rows[i]) := by rw [ixI_nat (by simpa using hi)]; simp
        refine ok.ift (by simpa using hi) (ok.eq e1 (ok.eq (ixI_eq (n := c.toNat) (by omega) h3) (ok.app (by simp; omega) (ok.chk (by omega) (ok.some ?_)))))
        rw [map_take _ hi, h4]; simp
      · rintro s rfl
        show ok (m_I_columnOf_b1 N c _ _ _) _
        unfold m_I_columnOf_b1
        refine ok.iff (by simp) (ok.some ?_)
        rw [List.take_length]
      · rintro o rfl
        exact ok.some rfl
  · rw [if_neg hv, if_neg fun e : hasC t c => hv e.1]
    exact ok.bf rfl (ok.some rfl)
theorem scanI {t : I_Table} (hb : bT t) (c : Int) {lo hi : I_Value} (hlo : lo.text.size ≤ 5000000) (hhi : hi.text.size ≤ 5000000) : m_I_ScanTable N t c lo hi = some (scanP t c lo hi) := by
  have hrl := hb.rl
  refine ok.val ?_
  unfold m_I_ScanTable scanP
  refine ok.eq (colI hN hb c) ?_
  by_cases hc : hasC t c
  · rw [if_pos hc]
    refine ok.bt rfl (ok.eq (vVI hN hlo) (ok.ite (fun h1 => ok.eq (vVI hN hhi) (ok.ite (fun h2 => ?_) fun h2 => ok.some ?_)) fun h1 => ok.some ?_))
    · rw [if_pos (show okSc t c lo hi from ⟨hc, h1, h2⟩)]
      refine ok.call (P := fun o => o = found t c.toNat lo hi t.rows.length) (ok.each t.rows.length (fun i s => s = ((i : Int), found t c.toNat lo hi i)) _ ?_ ?_ N 0 _ (Nat.zero_le _) rfl (by omega)) ?_
      · rintro i s hi' rfl
        show ok (m_I_ScanTable_b1 N lo hi _ (i : Int) _) _
        unfold m_I_ScanTable_b1
        have hl := found_len t c.toNat lo hi i
        obtain ⟨_, _, h5⟩ := cv_get hc.1 (c := c.toNat) hi' (by have := hc.2.2; have := hc.2.1; omega)
        have e1 : ixI (t.rows.map (cv t c.toNat)) (i : Int) = some (cv t c.toNat t.rows[i]) := by rw [ixI_nat (by simpa using hi')]; simp
        have ha := sc_anti (cv t c.toNat t.rows[i]) lo
        have hbt := btw_at (t := t) (c := c.toNat) (lo := lo) (hi := hi) hi'
        rw [found_succ]
        refine ok.ift (by simpa using hi') (ok.eq e1 (ok.eq (compI h5 h1) (ok.ite (fun h6 => ok.eq (compI h5 h2) (ok.ite (fun h7 => ok.app (by dsimp only; simp only [List.length_singleton]; omega) (ok.chk (by omega) (ok.some ?_))) fun h7 => ok.chk (by omega) (ok.some ?_))) fun h6 => ok.chk (by omega) (ok.some ?_))))
        · rw [if_pos (by rw [hbt, decide_eq_true (by omega), decide_eq_true h7]; rfl)]; simp
        · rw [if_neg (by rw [hbt, decide_eq_false h7]; simp)]; simp
        · rw [if_neg (by rw [hbt, decide_eq_false (by omega)]; simp)]; simp
      · rintro s rfl
        show ok (m_I_ScanTable_b1 N lo hi _ _ _) _
        unfold m_I_ScanTable_b1
        exact ok.iff (by simp) (ok.some rfl)
      · rintro o rfl
        exact ok.some rfl
    · rw [if_neg fun e : okSc t c lo hi => h2 e.2.2]
    · rw [if_neg fun e : okSc t c lo hi => h1 e.2.1]
  · rw [if_neg hc, if_neg fun e : okSc t c lo hi => hc e.1]
    exact ok.bf rfl (ok.some rfl)
theorem scanS {t : I_Table} (hb : bT t) (c : Int) {lo hi : I_Value} (hlo : lo.text.size ≤ 5000000) (hhi : hi.text.size ≤ 5000000) : m_S_ScanTable N t c lo hi = some (scanP t c lo hi) := by
  have hrl := hb.rl
  refine ok.val ?_
  unfold m_S_ScanTable scanP
  refine ok.eq (validTS hN hb) (ok.ite (fun hv => ?_) fun hv => ok.some (by rw [if_neg fun e : okSc t c lo hi => hv e.1.1]))
  have hw : m_S_width N t = some ((fL t).length : Int) := by
    refine ok.val ?_
    unfold m_S_width
    refine ok.eq (formatsS hN hb.f.1 (vF_bN hv.1.1) hb.c) ?_
    rw [if_pos hv.1.2.2]
    exact ok.eq (chs_ix rfl (Nat.le_refl _)) (ok.some rfl)
  have hfl := (fL_v hv).1
  refine ok.eq hw (ok.chk (by omega) (ok.eq (inRange_eq N _ _ _) (ok.ite (fun hr => ok.eq (vVS hN hlo) (ok.ite (fun h1 => ok.eq (vVS hN hhi) (ok.ite (fun h2 => ok.eq (latestS hN hv) ?_) fun h2 => ok.some ?_)) fun h1 => ok.some ?_)) fun hr => ok.some ?_)))
  · have hc : hasC t c := ⟨hv, hr.1, by omega⟩
    rw [if_pos (show okSc t c lo hi from ⟨hc, h1, h2⟩)]
    refine ok.call (P := fun o => o = found t c.toNat lo hi t.rows.length) (ok.each t.rows.length (fun i s => s = ((i : Int), found t c.toNat lo hi i)) _ ?_ ?_ N 0 _ (Nat.zero_le _) rfl (by omega)) ?_
    · rintro i s hi' rfl
      show ok (m_S_ScanTable_b1 N c lo hi _ (i : Int) _) _
      unfold m_S_ScanTable_b1
      have hl := found_len t c.toNat lo hi i
      obtain ⟨h3, h4, h5⟩ := cv_get hc.1 (c := c.toNat) hi' (by omega)
      have e1 : ixI (t.rows.map (adv t)) (i : Int) = some (adv t t.rows[i]) := by rw [ixI_nat (by simpa using hi')]; simp
      have e2 : ixI (adv t t.rows[i]) c = some (cv t c.toNat t.rows[i]) := by rw [ixI_eq (n := c.toNat) (by omega) h3, h4]
      have hbt := btw_at (t := t) (c := c.toNat) (lo := lo) (hi := hi) hi'
      rw [found_succ]
      refine ok.ift (by simpa using hi') (ok.eq e1 (ok.eq e2 (ok.eq (compS _ _) (ok.ite (fun h6 => ok.eq e2 (ok.eq (compS _ _) (ok.ite (fun h7 => ok.app (by dsimp only; simp only [List.length_singleton]; omega) (ok.chk (by omega) (ok.some ?_))) fun h7 => ok.chk (by omega) (ok.some ?_)))) fun h6 => ok.chk (by omega) (ok.some ?_)))))
      · rw [if_pos (by rw [hbt, decide_eq_true h6, decide_eq_true h7]; rfl)]; simp
      · rw [if_neg (by rw [hbt, decide_eq_false h7]; simp)]; simp
      · rw [if_neg (by rw [hbt, decide_eq_false h6]; simp)]; simp
    · rintro s rfl
      show ok (m_S_ScanTable_b1 N c lo hi _ _ _) _
      unfold m_S_ScanTable_b1
      exact ok.iff (by simp) (ok.some rfl)
    · rintro o rfl
      exact ok.some rfl
  · rw [if_neg fun e : okSc t c lo hi => h2 e.2.2]
  · rw [if_neg fun e : okSc t c lo hi => h1 e.2.1]
  · rw [if_neg fun e : okSc t c lo hi => hr ⟨e.1.2.1, by have := e.1.2.2; omega⟩]
theorem drawSc (l : List UInt8) : ok (m_S_DrawScanTable N l) fun x => bT x.1 ∧ x.2.2.1.text.size ≤ 5000000 ∧ x.2.2.2.text.size ≤ 5000000 := by
  have e0 : ByteArray.empty.size = 0 := rfl
  have e3 : (ByteArray.mk #[126, 126, 126]).size = 3 := rfl
  unfold m_S_DrawScanTable
  refine ok.call (drawT hN l) fun r h => ok.call h fun x hx => ok.call (oneB hx.1 (by omega) (by simp) (by simp)) ?_
  rintro ⟨c, r2⟩ ⟨h3, h4⟩
  refine ok.call (anyvalB h3 (by omega)) ?_
  rintro ⟨v, r3⟩ ⟨h5, h6⟩
  refine ok.call (pickB h5 (by omega) (by omega)) ?_
  rintro ⟨y, r4⟩ ⟨h7, h8⟩
  refine ok.ite (fun _ => ok.call (pickB h7 (by omega) (by omega)) ?_) fun _ => ok.call (pickB h7 (by omega) (by omega)) ?_
  · rintro ⟨y, r5⟩ ⟨h9, h10⟩
    refine ok.ite (fun _ => ok.some ⟨hx.2.bT, by dsimp only; omega, by dsimp only; omega⟩) fun _ => ok.call (anyvalB h9 (by omega)) ?_
    rintro ⟨w, r6⟩ ⟨h11, h12⟩
    exact ok.some ⟨hx.2.bT, by dsimp only; omega, h12.2⟩
  · rintro ⟨y, r5⟩ ⟨h9, h10⟩
    refine ok.ite (fun _ => ok.some ⟨hx.2.bT, h6.2, by dsimp only; omega⟩) fun _ => ok.call (anyvalB h9 (by omega)) ?_
    rintro ⟨w, r6⟩ ⟨h11, h12⟩
    exact ok.some ⟨hx.2.bT, h6.2, h12.2⟩
theorem eqInts {r : List Int} (hl : r.length ≤ 5000000) : m_L_equalInts N r r = some true := by
  refine ok.val ?_
  unfold m_L_equalInts
  refine ok.ift rfl (ok.eq (loop_self (n := r.length) (by omega) (fun i hi => ?_) ?_) (ok.some rfl))
  · show m_L_equalInts_b1 N r r (i : Int) = _
    unfold m_L_equalInts_b1
    exact ok.val (ok.ift (by omega) (ok.eq (ixI_nat hi) (ok.eq (ixI_nat hi) (ok.ift rfl (ok.chk (by omega) (ok.some rfl))))))
  · show m_L_equalInts_b1 N r r _ = _
    unfold m_L_equalInts_b1
    rw [decide_eq_false (by omega)]; rfl
omit hN in
theorem scan_len (t : I_Table) (c : Int) (lo hi : I_Value) : (scanP t c lo hi).length ≤ 10 := by
  unfold scanP
  split
  · rename_i h
    have := found_len t c.toNat lo hi t.rows.length
    have := h.1.1.2.1
    omega
  · exact Nat.zero_le _
end
end V
end Go.Proofs.YtkjnnifnmoekjaaGreatDoor
namespace Go.Proofs.YtkjnnifnmoekjaaGreatDoor
namespace V
set_option linter.unusedVariables false
set_option linter.unusedSimpArgs false
set_option maxHeartbeats 1000000
/-- The values of a column. -/
def cvs (t : I_Table) (c : Nat) : List I_Value := t.rows.map (cv t c)
/-- A key and its row. -/
def prOf (vs : List I_Value) (i : Nat) : I_Pair := ⟨keyP ((vs[i]?).getD ⟨0, 0, ByteArray.empty⟩), i⟩
def prs (vs : List I_Value) (n : Nat) : List I_Pair := (List.range n).map (prOf vs)
theorem prs_len (vs : List I_Value) (n : Nat) : (prs vs n).length = n := by unfold prs; simp
theorem prs_succ (vs : List I_Value) (n : Nat) : prs vs (n + 1) = prs vs n ++ [prOf vs n] := by unfold prs; rw [List.range_succ, List.map_append]; rfl
theorem prs_row (vs : List I_Value) (n : Nat) : (prs vs n).Pairwise fun a b => a.row < b.row := by
  unfold prs
  rw [List.pairwise_map]
  exact List.pairwise_lt_range.imp fun {a b} h => by show ((a : Nat) : Int) < ((b : Nat) : Int); omega
def ltK (p q : I_Pair) : Bool := ltB p.key q.key
theorem ltK_asym (a b : I_Pair) (h : ltK a b = true) : ltK b a = false := bl_asym h
/-- The pairs of a column in the order of their keys. -/
noncomputable def indexP (t : I_Table) (c : Int) : List I_Pair := if hasC t c then insA ltK (prs (cvs t c.toNat) t.rows.length) else []
theorem indexP_len (t : I_Table) (c : Int) : (indexP t c).length ≤ 10 := by
  unfold indexP
  split
  · rename_i h
    rw [insA_len, prs_len]; exact h.1.2.1
  · exact Nat.zero_le _
theorem l01_lt' {a b : Bool} (h : b = true → a = false) : decide (l01 a - l01 b < 0) = b := by
  cases b
  · cases a <;> rfl
  · rw [h rfl]; rfl
/-- One value's pair. -/
theorem prOf_at {t : I_Table} {c i : Nat} (hi : i < t.rows.length) : prOf (cvs t c) i = ⟨keyP (cv t c t.rows[i]), i⟩ := by
  unfold prOf cvs
  rw [List.getElem?_map, List.getElem?_eq_getElem hi]; rfl
section
variable {N : Nat} (hN : 100000000 ≤ N)
include hN
theorem or2 (x y : Int) : m_cmp_Or_int_ N [x, y] = some (if x = 0 then y else x) := by
  obtain ⟨M, rfl⟩ : ∃ M, N = M + 3 := ⟨N - 3, by omega⟩
  refine ok.val ?_
  unfold m_cmp_Or_int_
  have b0 : m_cmp_Or_int__b1 (M + 3) [x, y] 0 = if x = 0 then some (.inl 1) else some (.inr (.inr x)) := by
    unfold m_cmp_Or_int__b1
    by_cases h : x = 0
    · subst h; rfl
    · rw [if_neg h]
      show (_root_.cond (decide (x = 0)) _ _ : Option _) = _
      rw [decide_eq_false h]; rfl
  have b1 : m_cmp_Or_int__b1 (M + 3) [x, y] 1 = if y = 0 then some (.inl 2) else some (.inr (.inr y)) := by
    unfold m_cmp_Or_int__b1
    by_cases h : y = 0
    · subst h; rfl
    · rw [if_neg h]
      show (_root_.cond (decide (y = 0)) _ _ : Option _) = _
      rw [decide_eq_false h]; rfl
  have b2 : m_cmp_Or_int__b1 (M + 3) [x, y] 2 = some (.inr (.inl ())) := rfl
  unfold loopM
  rw [b0]
  by_cases h : x = 0
  · rw [if_pos h, if_pos h]
    show ok ((loopM (fun s : Int => m_cmp_Or_int__b1 (M + 3) [x, y] s) (M + 2) 1).bind _) _
    unfold loopM
    rw [b1]
    by_cases h2 : y = 0
    · rw [if_pos h2]
      show ok ((loopM (fun s : Int => m_cmp_Or_int__b1 (M + 3) [x, y] s) (M + 1) 2).bind _) _
      unfold loopM
      rw [b2]
      exact ok.some h2.symm
    · rw [if_neg h2]
      exact ok.some rfl
  · rw [if_neg h, if_neg h]
    exact ok.some rfl
/-- The comparison that the program sorts by. -/
theorem cmpP (a b : I_Pair) : m_I_IndexColumn_1 N a b = some (if l01 (ltK b a) - l01 (ltK a b) = 0 then l01 (decide (b.row < a.row)) - l01 (decide (a.row < b.row)) else l01 (ltK b a) - l01 (ltK a b)) := by
  unfold m_I_IndexColumn_1 m_I_CompareKeys
  rw [cmpSS, cmpII]
  simp only [Option.bind_some]
  rw [or2 hN]; rfl
theorem cmpP_lt {a b : I_Pair} (h : b.row < a.row) : ok (m_I_IndexColumn_1 N a b) fun r => decide (r < 0) = ltK a b := by
  rw [cmpP hN]
  refine ok.some ?_
  split
  · rename_i h0
    have h1 : ltK a b = false := by
      cases h1 : ltK a b
      · rfl
      · rw [h1, ltK_asym a b h1] at h0; revert h0; decide
    rw [h1, decide_eq_true h, decide_eq_false (show ¬ a.row < b.row by omega)]; rfl
  · exact l01_lt' fun h => ltK_asym a b h
theorem ins_round {P : List I_Pair} (hl : P.length ≤ 12) {x : I_Pair} {A C : List I_Pair} (hm : (A ++ x :: C).length = P.length) (hr : ∀ q ∈ A, q.row < x.row) :
    loopM (β := (List I_Pair)) (fun s : Int × (List I_Pair) => m_slices_insertionSortCmpFunc_I_Pair__b3 N (fun a0 a1 => m_I_IndexColumn_1 N a0 a1) 0 s.1 s.2) N ((A.length : Int), A ++ x :: C) = some (insR ltK x A ++ C) := by
  have hAl : A.length < P.length := by rw [← hm]; simp
  refine insR_loop (G := fun q => q.row < x.row) (m := P.length) ?_ ?_ ?_ A.length N A C rfl hm (by omega) hr
  · intro B q D hB hq hlt
    have hb : B.length + 1 < P.length := by rw [← hB]; simp
    have e : ((B.length + 1 : Nat) : Int) - 1 = (B.length : Int) := by omega
    show m_slices_insertionSortCmpFunc_I_Pair__b3 N _ 0 ((B.length + 1 : Nat) : Int) (B ++ q :: x :: D) = _
    unfold m_slices_insertionSortCmpFunc_I_Pair__b3
    refine ok.val (ok.ift (by omega) (ok.eq (at_1 B D q x) (ok.chk (by omega) ?_)))
    rw [e]
    refine ok.eq (at_0 B (x :: D) q) (ok.call (cmpP_lt hN hq) fun r hrr => ok.bt (hrr.trans hlt) (ok.chk (by omega) (ok.chk (by omega) ?_)))
    refine ok.eq (at_0 B (x :: D) q) (ok.eq (at_1 B D q x) (ok.eq (v := q) ?_ (ok.chk (by omega) (ok.some ?_))))
    · rw [Int.toNat_natCast]
      rw [ixI_nat (by simp)]
      simp
    · rw [Int.toNat_natCast, Int.toNat_natCast, swap_set]
  · intro B q D hB hq hlt
    have hb : B.length + 1 < P.length := by rw [← hB]; simp
    have e : ((B.length + 1 : Nat) : Int) - 1 = (B.length : Int) := by omega
    show m_slices_insertionSortCmpFunc_I_Pair__b3 N _ 0 ((B.length + 1 : Nat) : Int) (B ++ q :: x :: D) = _
    unfold m_slices_insertionSortCmpFunc_I_Pair__b3
    refine ok.val (ok.ift (by omega) (ok.eq (at_1 B D q x) (ok.chk (by omega) ?_)))
    rw [e]
    exact ok.eq (at_0 B (x :: D) q) (ok.call (cmpP_lt hN hq) fun r hrr => ok.bf (hrr.trans hlt) (ok.some rfl))
  · intro D hD
    show m_slices_insertionSortCmpFunc_I_Pair__b3 N _ 0 0 (x :: D) = _
    unfold m_slices_insertionSortCmpFunc_I_Pair__b3
    rfl
theorem insI' {P : List I_Pair} (hl : P.length ≤ 12) (hr : P.Pairwise fun a b => a.row < b.row) : m_slices_insertionSortCmpFunc_I_Pair_ N P 0 (P.length : Int) (fun a0 a1 => m_I_IndexColumn_1 N a0 a1) = some (insA ltK P) := by
  refine ok.val ?_
  unfold m_slices_insertionSortCmpFunc_I_Pair_
  refine ok.chk (by omega) ?_
  by_cases h0 : P.length = 0
  · obtain rfl := List.eq_nil_of_length_eq_zero h0
    obtain ⟨M, rfl⟩ : ∃ M, N = M + 1 := ⟨N - 1, by omega⟩
    unfold loopM
    exact ok.some rfl
  · refine ok.call (P := fun o => o = insA ltK P) (ok.each P.length (fun i s => s = ((i : Int), insA ltK (P.take i) ++ P.drop i)) _ ?_ ?_ N 1 _ (by omega) ?_ (by omega)) ?_
    · rintro i s hi rfl
      show ok (m_slices_insertionSortCmpFunc_I_Pair__b2 N _ 0 (P.length : Int) (i : Int) _) _
      unfold m_slices_insertionSortCmpFunc_I_Pair__b2
      have hA : (insA ltK (P.take i)).length = i := by rw [insA_len, List.length_take]; omega
      have hd : P.drop i = P[i] :: P.drop (i + 1) := List.drop_eq_getElem_cons hi
      have hround := ins_round hN (P := P) hl (x := P[i]) (A := insA ltK (P.take i)) (C := P.drop (i + 1)) (by rw [List.length_append, hA, List.length_cons, List.length_drop]; omega) (fun q hq => by
        have hq := (insA_perm _ _ rfl).mem_iff.1 hq
        obtain ⟨k, hk, rfl⟩ := List.mem_iff_getElem.1 hq
        rw [List.length_take] at hk
        rw [List.getElem_take]
        exact List.pairwise_iff_getElem.1 hr k i (by omega) hi (by omega))
      rw [hA] at hround
      rw [hd]
      refine ok.ift (by omega) (ok.eq hround ?_)
      unfold m_slices_insertionSortCmpFunc_I_Pair__k3
      refine ok.chk (by omega) (ok.some ?_)
      show _ = _
      rw [insA_take hi]; rfl
    · rintro s rfl
      show ok (m_slices_insertionSortCmpFunc_I_Pair__b2 N _ 0 (P.length : Int) (P.length : Int) _) _
      unfold m_slices_insertionSortCmpFunc_I_Pair__b2
      refine ok.iff (by omega) (ok.some ?_)
      rw [List.take_length, List.drop_length, List.append_nil]
    · rcases P with _ | ⟨p, P⟩
      · exact (h0 rfl).elim
      · rfl
    · rintro o rfl
      exact ok.some rfl
theorem sortI' {P : List I_Pair} (hl : P.length ≤ 12) (hr : P.Pairwise fun a b => a.row < b.row) : m_slices_SortFunc_I_Pair N P (fun a0 a1 => m_I_IndexColumn_1 N a0 a1) = some (insA ltK P) := by
  refine ok.val ?_
  unfold m_slices_SortFunc_I_Pair
  have e1 : u64M (P.length : Int) = some (P.length : Int) := by unfold u64M; rw [if_pos (by omega)]
  refine ok.eq e1 ?_
  have e2 : m_bits_Len N (P.length : Int) = some (Lib.bitLen ((P.length : Int)).toNat : Int) := by unfold m_bits_Len; rw [if_pos (by omega)]
  refine ok.eq e2 ?_
  have e3 : ∀ l, m_slices_pdqsortCmpFunc_I_Pair_ N P 0 (P.length : Int) l (fun a0 a1 => m_I_IndexColumn_1 N a0 a1) = some (insA ltK P) := by
    intro l
    obtain ⟨M, hM⟩ : ∃ M, N = M + 1 := ⟨N - 1, by omega⟩
    refine ok.val ?_
    unfold m_slices_pdqsortCmpFunc_I_Pair_
    have hb : m_slices_pdqsortCmpFunc_I_Pair__b1 N (fun a0 a1 => m_I_IndexColumn_1 N a0 a1) P 0 (P.length : Int) l = some (.inr (insA ltK P)) := by
      unfold m_slices_pdqsortCmpFunc_I_Pair__b1
      refine ok.val (ok.chk (by omega) (ok.ift (by omega) (ok.eq (insI' hN hl hr) (ok.some rfl))))
    have hlp : loopM (β := (List I_Pair)) (fun _ : Unit => m_slices_pdqsortCmpFunc_I_Pair__b1 N (fun a0 a1 => m_I_IndexColumn_1 N a0 a1) P 0 (P.length : Int) l) N () = some (insA ltK P) := by
      conv => lhs; rw [show loopM (β := (List I_Pair)) (fun _ : Unit => m_slices_pdqsortCmpFunc_I_Pair__b1 N (fun a0 a1 => m_I_IndexColumn_1 N a0 a1) P 0 (P.length : Int) l) N () = loopM (β := (List I_Pair)) (fun _ : Unit => m_slices_pdqsortCmpFunc_I_Pair__b1 N (fun a0 a1 => m_I_IndexColumn_1 N a0 a1) P 0 (P.length : Int) l) (M + 1) () from by rw [← hM]]
      unfold loopM
      rw [hb]
    exact ok.eq hlp (ok.some rfl)
  exact ok.eq (e3 _) (ok.some rfl)
theorem idxI {t : I_Table} (hb : bT t) (c : Int) : m_I_IndexColumn N t c = some (indexP t c) := by
  refine ok.val ?_
  unfold m_I_IndexColumn indexP
  refine ok.eq (colI hN hb c) ?_
  by_cases hc : hasC t c
  · have hv := hc.1
    have h10 := hv.2.1
    have hc0 := hc.2.1
    have hc1 := hc.2.2
    rw [if_pos hc, if_pos hc]
    refine ok.bt rfl (ok.call (P := fun o => o = prs (cvs t c.toNat) t.rows.length) (ok.each t.rows.length (fun i s => s = ((i : Int), prs (cvs t c.toNat) i)) _ ?_ ?_ N 0 _ (Nat.zero_le _) rfl (by omega)) ?_)
    · rintro i s hi rfl
      show ok (m_I_IndexColumn_b1 N _ (i : Int) _) _
      unfold m_I_IndexColumn_b1
      obtain ⟨_, _, h5⟩ := cv_get hv (c := c.toNat) hi (by omega)
      have e1 : ixI (t.rows.map (cv t c.toNat)) (i : Int) = some (cv t c.toNat t.rows[i]) := by rw [ixI_nat (by simpa using hi)]; simp
      have hl := prs_len (cvs t c.toNat) i
      refine ok.ift (by simpa using hi) (ok.eq e1 (ok.eq (keyI hN h5 (by have := vV_size h5; omega)) (ok.app (by simp only [hl, List.length_singleton]; omega) (ok.chk (by omega) (ok.some ?_)))))
      show _ = _
      rw [prs_succ, prOf_at hi]; rfl
    · rintro s rfl
      show ok (m_I_IndexColumn_b1 N _ _ _) _
      unfold m_I_IndexColumn_b1
      exact ok.iff (by simp) (ok.some rfl)
    · rintro o rfl
      unfold m_I_IndexColumn_k1
      exact ok.eq (sortI' hN (by rw [prs_len]; omega) (prs_row _ _)) (ok.some rfl)
  · rw [if_neg hc, if_neg hc]
    exact ok.bf rfl (ok.some rfl)
end
end V
end Go.Proofs.YtkjnnifnmoekjaaGreatDoor
namespace Go.Proofs.YtkjnnifnmoekjaaGreatDoor
namespace V
set_option linter.unusedVariables false
set_option linter.unusedSimpArgs false
set_option maxHeartbeats 1000000
theorem b2s_list (xs : List UInt8) : (b2s xs).toList = xs := by rw [ByteArray.toList_eq]; rfl
theorem bytes_list (u : ByteArray) : u.toList = bytesL u := ByteArray.toList_eq u
theorem dec_iff {p q : Prop} [Decidable p] [Decidable q] (h : p ↔ q) : decide p = decide q := by
  rw [Bool.eq_iff_iff, decide_eq_true_eq, decide_eq_true_eq]; exact h
theorem bl_cons (a b : UInt8) (x y : List UInt8) : Op.bytesLess (a :: x) (b :: y) = (decide (a < b) || (a == b && Op.bytesLess x y)) := rfl
theorem bl_same (a : UInt8) (x y : List UInt8) : Op.bytesLess (a :: x) (a :: y) = Op.bytesLess x y := by
  rw [bl_cons]; simp
theorem i2b_nat {n : Int} (h : 0 ≤ n ∧ n < 256) : (i2b n).toNat = n.toNat := by
  have e : n % 256 = n := Int.emod_eq_of_lt h.1 h.2
  unfold i2b
  rw [e, UInt8.toNat_ofNat']
  omega
theorem i2b_step {a b : Int} (ha : 0 ≤ a ∧ a < 256) (hb : 0 ≤ b ∧ b < 256) (x y : List UInt8) : Op.bytesLess (i2b a :: x) (i2b b :: y) = (decide (a < b) || (decide (a = b) && Op.bytesLess x y)) := by
  have h1 := i2b_nat ha
  have h2 := i2b_nat hb
  rw [bl_cons]
  have e1 : decide (i2b a < i2b b) = decide (a < b) := dec_iff (by rw [UInt8.lt_iff_toNat_lt, h1, h2]; omega)
  have e2 : (i2b a == i2b b) = decide (a = b) := by
    by_cases h : a = b
    · subst h; simp
    · have : i2b a ≠ i2b b := fun e => h (by have e := congrArg UInt8.toNat e; rw [h1, h2] at e; omega)
      simp [h, this]
  rw [e1, e2]
theorem numB_lt {m n : Int} (hm : -999999 ≤ m ∧ m ≤ 999999) (hn : -999999 ≤ n ∧ n ≤ 999999) : Op.bytesLess (numB m) (numB n) = decide (m < n) := by
  unfold numB
  generalize hM : m + 999999 = M
  generalize hN : n + 999999 = K
  have h1 : 0 ≤ M ∧ M ≤ 1999998 := by omega
  have h2 : 0 ≤ K ∧ K ≤ 1999998 := by omega
  have h3 : decide (m < n) = decide (M < K) := dec_iff (by omega)
  rw [h3]
  rw [i2b_step (by omega) (by omega), i2b_step (by omega) (by omega), i2b_step (by omega) (by omega), i2b_step (by omega) (by omega)]
  have a1 : M / 200000 = M / 80 / 50 / 50 := by omega
  have a2 : M / 4000 = M / 80 / 50 := by omega
  have b1 : K / 200000 = K / 80 / 50 / 50 := by omega
  have b2 : K / 4000 = K / 80 / 50 := by omega
  rw [a1, a2, b1, b2]
  have m1 := Int.mul_ediv_add_emod M 80
  have k1 := Int.mul_ediv_add_emod K 80
  generalize M / 80 = M1 at *
  generalize K / 80 = K1 at *
  have hr : 0 ≤ M % 80 ∧ M % 80 < 80 := by omega
  have hs : 0 ≤ K % 80 ∧ K % 80 < 80 := by omega
  generalize M % 80 = r0 at *
  generalize K % 80 = s0 at *
  have e0 : Op.bytesLess ([] : List UInt8) [] = false := rfl
  rw [e0]
  simp only [Bool.and_false, Bool.or_false]
  have m2 := Int.mul_ediv_add_emod M1 50
  have k2 := Int.mul_ediv_add_emod K1 50
  have hr1 : 0 ≤ M1 % 50 ∧ M1 % 50 < 50 := by omega
  have hs1 : 0 ≤ K1 % 50 ∧ K1 % 50 < 50 := by omega
  generalize M1 / 50 = M2 at *
  generalize K1 / 50 = K2 at *
  generalize M1 % 50 = r1 at *
  generalize K1 % 50 = s1 at *
  have m3 := Int.mul_ediv_add_emod M2 50
  have k3 := Int.mul_ediv_add_emod K2 50
  have hr2 : 0 ≤ M2 % 50 ∧ M2 % 50 < 50 := by omega
  have hs2 : 0 ≤ K2 % 50 ∧ K2 % 50 < 50 := by omega
  generalize M2 / 50 = M3 at *
  generalize K2 / 50 = K3 at *
  generalize M2 % 50 = r2 at *
  generalize K2 % 50 = s2 at *
  rw [Bool.eq_iff_iff]
  simp only [Bool.or_eq_true, Bool.and_eq_true, decide_eq_true_eq]
  omega
theorem bl_term : ∀ (x y : List UInt8), (∀ a ∈ x, 1 < a.toNat) → (∀ a ∈ y, 1 < a.toNat) → Op.bytesLess (x ++ [1]) (y ++ [1]) = Op.bytesLess x y
  | [], [], _, _ => rfl
  | [], b :: y, _, h => by
    have := h b (.head _)
    show Op.bytesLess (1 :: []) (b :: (y ++ [1])) = true
    rw [bl_cons]
    have : (1 : UInt8) < b := UInt8.lt_iff_toNat_lt.2 this
    simp [this]
  | a :: x, [], h, _ => by
    have := h a (.head _)
    show Op.bytesLess (a :: (x ++ [1])) (1 :: []) = false
    rw [bl_cons]
    have h1 : ¬ a < (1 : UInt8) := fun e => by have e := UInt8.lt_iff_toNat_lt.1 e; have : (1 : UInt8).toNat = 1 := rfl; omega
    have h2 : a ≠ 1 := fun e => by subst e; have : (1 : UInt8).toNat = 1 := rfl; omega
    simp [h1, h2]
  | a :: x, b :: y, h, h' => by
    show Op.bytesLess (a :: (x ++ [1])) (b :: (y ++ [1])) = Op.bytesLess (a :: x) (b :: y)
    rw [bl_cons, bl_cons, bl_term x y (fun c hc => h c (.tail _ hc)) (fun c hc => h' c (.tail _ hc))]
theorem vTx_gt {u : ByteArray} (h : vTx u) : ∀ a ∈ bytesL u, 1 < a.toNat := by
  intro a ha
  obtain ⟨i, hi, e⟩ := List.mem_iff_getElem.1 ha
  have hi' : i < u.size := by rw [bytesL_len] at hi; exact hi
  have := (h.2 i hi').1
  have e' : a = u[i] := by rw [← e]; simp only [bytesL, Array.getElem_toList]; rfl
  rw [e']; omega
theorem l01_lt {a b : Bool} (h : b = true → a = false) : decide (l01 a - l01 b < 0) = b := by
  cases b
  · cases a <;> rfl
  · rw [h rfl]; rfl
/-- Keys are in the order of the values. -/
theorem key_lt {v w : I_Value} (hv : vV v) (hw : vV w) : ltB (keyP v) (keyP w) = decide (sc v w < 0) := by
  unfold ltB keyP
  rw [b2s_list, b2s_list]
  by_cases hk : v.kind = w.kind
  · have hs : sc v w = (bif decide (v.num = w.num) then l01 (ltB w.text v.text) - l01 (ltB v.text w.text) else l01 (decide (w.num < v.num)) - l01 (decide (v.num < w.num))) := by
      unfold sc; rw [decide_eq_true hk, cond_true]
    rcases hv with ⟨k, n, t⟩ | ⟨k, n1, n2, t⟩ | ⟨k, n, t⟩
    · rcases hw with ⟨k', n', t'⟩ | h | h
      · rw [hs, n, n', t, t', ltB_self]
        unfold keyB
        rw [if_pos k, if_pos k']; decide
      · omega
      · omega
    · rcases hw with h | ⟨k', n1', n2', t'⟩ | h
      · omega
      · have e1 : keyB v = 98 :: numB v.num := by unfold keyB; rw [if_neg (by omega), if_pos k]
        have e2 : keyB w = 98 :: numB w.num := by unfold keyB; rw [if_neg (by omega), if_pos k']
        rw [e1, e2, bl_same, numB_lt ⟨n1, n2⟩ ⟨n1', n2'⟩, hs, t, t', ltB_self]
        by_cases h : v.num = w.num
        · rw [decide_eq_true h, cond_true, h]
          have : ¬ w.num < w.num := by omega
          rw [decide_eq_false this]; rfl
        · rw [decide_eq_false h, cond_false]
          exact (l01_lt fun h => decide_eq_false (by have := of_decide_eq_true h; omega)).symm
      · omega
    · rcases hw with h | h | ⟨k', n', t'⟩
      · omega
      · omega
      · have e1 : keyB v = 99 :: (bytesL v.text ++ [1]) := by unfold keyB; rw [if_neg (by omega), if_neg (by omega)]
        have e2 : keyB w = 99 :: (bytesL w.text ++ [1]) := by unfold keyB; rw [if_neg (by omega), if_neg (by omega)]
        rw [e1, e2, bl_same, bl_term _ _ (vTx_gt t) (vTx_gt t'), hs, n, n', decide_eq_true rfl, cond_true, l01_lt fun h => ltB_asym h]
        unfold ltB
        rw [bytes_list, bytes_list]
  · have hs : sc v w = l01 (decide (w.kind < v.kind)) - l01 (decide (v.kind < w.kind)) := by
      unfold sc; rw [decide_eq_false hk, cond_false]
    rw [hs, l01_lt fun h => decide_eq_false (by have := of_decide_eq_true h; omega)]
    have hd : ∀ {u : I_Value}, vV u → ∃ r, keyB u = i2b (97 + u.kind) :: r ∧ 0 ≤ u.kind ∧ u.kind ≤ 2 := by
      intro u hu
      rcases hu with ⟨k, n, t⟩ | ⟨k, n1, n2, t⟩ | ⟨k, n, t⟩
      · exact ⟨[], by unfold keyB; rw [if_pos k, k]; rfl, by omega, by omega⟩
      · exact ⟨numB u.num, by unfold keyB; rw [if_neg (by omega), if_pos k, k]; rfl, by omega, by omega⟩
      · exact ⟨bytesL u.text ++ [1], by unfold keyB; rw [if_neg (by omega), if_neg (by omega), k]; rfl, by omega, by omega⟩
    obtain ⟨r1, e1, g1, g2⟩ := hd hv
    obtain ⟨r2, e2, g3, g4⟩ := hd hw
    rw [e1, e2, i2b_step (by omega) (by omega)]
    have h1 : decide (97 + v.kind = 97 + w.kind) = false := decide_eq_false (by omega)
    rw [h1, Bool.false_and, Bool.or_false]
    exact dec_iff (by omega)
end V
end Go.Proofs.YtkjnnifnmoekjaaGreatDoor
namespace Go.Proofs.YtkjnnifnmoekjaaGreatDoor
namespace V
set_option linter.unusedVariables false
set_option linter.unusedSimpArgs false
set_option maxHeartbeats 1000000
/-- A key lies in a range. -/
def btwK (a b : ByteArray) (p : I_Pair) : Bool := !Op.bytesLess p.key.toList a.toList && !Op.bytesLess b.toList p.key.toList
noncomputable def serP (l : List I_Pair) (lo hi : I_Value) : List Int := if l.length ≤ 10 ∧ vV lo ∧ vV hi then sortP ((l.filter (btwK (keyP lo) (keyP hi))).map I_Pair.row) else []
section
variable {N : Nat} (hN : 100000000 ≤ N)
include hN
theorem serI {l : List I_Pair} {lo hi : I_Value} (h1 : lo.text.size ≤ 5000000) (h2 : hi.text.size ≤ 5000000) : m_I_SearchPairs N l lo hi = some (serP l lo hi) := by
  refine ok.val ?_
  unfold m_I_SearchPairs
  refine ok.ite (fun hc => ok.some ?_) fun hl => ok.eq (vVI hN h1) (ok.ite (fun v1 => ok.eq (vVI hN h2) (ok.ite (fun v2 => ?_) fun v2 => ok.some ?_)) fun v1 => ok.some ?_)
  · unfold serP; rw [if_neg (by omega)]
  · refine ok.eq (keyI hN v1 h1) (ok.eq (keyI hN v2 h2) ?_)
    refine ok.call (ok.each l.length (fun i st => st = ((i : Int), ((l.take i).filter (btwK (keyP lo) (keyP hi))).map I_Pair.row)) (fun e => e = (l.filter (btwK (keyP lo) (keyP hi))).map I_Pair.row) ?_ ?_ N 0 _ (Nat.zero_le _) rfl (by omega)) ?_
    · rintro i _ hi' rfl
      have hf := filt_len (btwK (keyP lo) (keyP hi)) I_Pair.row (l.take i)
      have hfl : (l.take i).length ≤ 10 := by simp; omega
      have hstep := filt_take (btwK (keyP lo) (keyP hi)) I_Pair.row hi'
      have hu : btwK (keyP lo) (keyP hi) l[i] = (!Op.bytesLess l[i].key.toList (keyP lo).toList && !Op.bytesLess (keyP hi).toList l[i].key.toList) := rfl
      unfold m_I_SearchPairs_b1
      dsimp only
      refine ok.ift (by omega) (ok.eq (ixI_nat hi') (ok.cond (fun c => ok.chk (by omega) (ok.some ?_)) fun c => ok.cond (fun c2 => ok.chk (by omega) (ok.some ?_)) fun c2 => ok.app ⟨by simp only [List.length_cons, List.length_nil]; omega, by simp only [List.length_cons, List.length_nil]; omega⟩ (ok.chk (by omega) (ok.some ?_))))
      · show (_, _) = (_, _)
        rw [hstep, if_neg (by rw [hu, c]; simp), List.append_nil]; rfl
      · show (_, _) = (_, _)
        rw [hstep, if_neg (by rw [hu, c2]; simp), List.append_nil]; rfl
      · show (_, _) = (_, _)
        rw [hstep, if_pos (by rw [hu, c, c2]; rfl)]; rfl
    · rintro _ rfl
      unfold m_I_SearchPairs_b1
      refine ok.iff (by dsimp only; omega) (ok.some ?_)
      show _ = _
      rw [List.take_length]
    · rintro _ rfl
      have hf := filt_len (btwK (keyP lo) (keyP hi)) I_Pair.row l
      unfold m_I_SearchPairs_k1 m_slices_Sort_int
      rw [if_pos (by omega)]
      refine ok.bs (ok.some ?_)
      unfold serP; rw [if_pos ⟨by omega, v1, v2⟩]
  · unfold serP; rw [if_neg fun h => v2 h.2.2]
  · unfold serP; rw [if_neg fun h => v1 h.2.1]
end
end V
end Go.Proofs.YtkjnnifnmoekjaaGreatDoor
namespace Go.Proofs.YtkjnnifnmoekjaaGreatDoor
namespace V
set_option linter.unusedVariables false
set_option linter.unusedSimpArgs false
set_option maxHeartbeats 1000000
open Szd (szd)
section
variable {N : Nat} (hN : 100000000 ≤ N)
include hN
omit hN in
theorem search_scan {t : I_Table} {lo hi : I_Value} (hv : tV t) (hlo : vV lo) (hhi : vV hi) (c : Int) : serP (indexP t c) lo hi = scanP t c lo hi := by
  have hlen := indexP_len t c
  unfold serP
  rw [if_pos ⟨hlen, hlo, hhi⟩]
  unfold scanP
  by_cases hc : hasC t c
  · rw [if_pos (show okSc t c lo hi from ⟨hc, hlo, hhi⟩)]
    have hc0 := hc.2.1
    have hc1 := hc.2.2
    symm
    refine sortP_of ?_ ?_
    · have h1 : ((indexP t c).filter (btwK (keyP lo) (keyP hi))).Perm ((prs (cvs t c.toNat) t.rows.length).filter (btwK (keyP lo) (keyP hi))) := by
        unfold indexP; rw [if_pos hc]; exact (insA_perm _ _ rfl).filter _
      refine List.Perm.trans (List.Perm.of_eq ?_) (h1.map I_Pair.row).symm
      unfold found prs
      rw [List.filter_map, List.map_map]
      have h2 : (List.range t.rows.length).filter (btw t c.toNat lo hi) = (List.range t.rows.length).filter (btwK (keyP lo) (keyP hi) ∘ prOf (cvs t c.toNat)) := by
        refine List.filter_congr fun i hi' => ?_
        have hi' := List.mem_range.1 hi'
        obtain ⟨_, _, h5⟩ := cv_get hv (c := c.toNat) hi' (by omega)
        rw [btw_at hi']
        show _ = btwK (keyP lo) (keyP hi) (prOf (cvs t c.toNat) i)
        rw [prOf_at hi']
        unfold btwK
        have g1 : Op.bytesLess (keyP (cv t c.toNat t.rows[i])).toList (keyP lo).toList = decide (sc (cv t c.toNat t.rows[i]) lo < 0) := key_lt h5 hlo
        have g2 : Op.bytesLess (keyP hi).toList (keyP (cv t c.toNat t.rows[i])).toList = decide (sc hi (cv t c.toNat t.rows[i]) < 0) := key_lt hhi h5
        show _ = (!Op.bytesLess (keyP (cv t c.toNat t.rows[i])).toList (keyP lo).toList && !Op.bytesLess (keyP hi).toList (keyP (cv t c.toNat t.rows[i])).toList)
        rw [g1, g2, ← decide_not, ← decide_not]
        have a1 := sc_anti lo (cv t c.toNat t.rows[i])
        have a2 := sc_anti (cv t c.toNat t.rows[i]) hi
        congr 1
        · exact dec_iff (by omega)
        · exact dec_iff (by omega)
      rw [h2]; rfl
    · unfold found
      rw [List.pairwise_map]
      exact (List.pairwise_lt_range.filter _).imp fun {a b} h => by show ((a : Nat) : Int) ≤ ((b : Nat) : Int); omega
  · rw [if_neg fun e : okSc t c lo hi => hc e.1]
    have : indexP t c = [] := by unfold indexP; rw [if_neg hc]
    rw [this]
    exact List.eq_nil_of_length_eq_zero (by rw [sortP_len]; rfl)
theorem lawFnScanTableIndex (l : List UInt8) (sl : Szd.szd l) : m_L_FnScanTableIndex N l = some true := by
  refine ok.val ?_
  unfold m_L_FnScanTableIndex
  refine ok.ite (fun _ => ok.some rfl) fun hl => ok.call (drawSc hN l) ?_
  rintro ⟨t, c, lo, hi⟩ ⟨hb, h1, h2⟩
  dsimp only at *
  have hsl := scan_len t c lo hi
  have e := eqInts hN (r := scanP t c lo hi) (by omega)
  have eS := scanS hN hb c h1 h2
  refine ok.eq (scanI hN hb c h1 h2) (ok.eq eS (ok.eq e (ok.bt rfl (ok.eq (validTI hN hb) (ok.ite (fun hv => ok.eq (vVI hN h1) (ok.ite (fun v1 => ok.eq (vVI hN h2) (ok.ite (fun v2 => ?_) fun _ => ok.eq eS (ok.eq e (ok.some rfl)))) fun _ => ok.eq eS (ok.eq e (ok.some rfl)))) fun _ => ok.eq eS (ok.eq e (ok.some rfl)))))))
  refine ok.eq (idxI hN hb c) (ok.eq (serI hN h1 h2) ?_)
  rw [search_scan hv v1 v2]
  exact ok.eq e (ok.some rfl)
end
end V
end Go.Proofs.YtkjnnifnmoekjaaGreatDoor
namespace Go.Proofs.YtkjnnifnmoekjaaGreatDoor
namespace V
set_option linter.unusedVariables false
set_option maxRecDepth 100000
theorem mayEnter_of {P : Program} {c : List Char} {rest : List (List Char)} (h : behindMainWord (wordsSigns P.initOrder.toList) = c :: rest)
    (h1 : ((stripLifts liftWords (c :: rest)).2.head? == some "cut".toList) = true) (h2 : ((stripLifts liftWords (c :: rest)).1.contains "finals" || !P.laysLater) = true)
    (h3 : ((stripLifts liftWords (c :: rest)).1.contains "reflectrows" || !P.bearsReflect) = true) (h4 : ((stripLifts liftWords (c :: rest)).1.contains "reflectrows" || !(stripLifts liftWords (c :: rest)).1.contains "leanrows") = true)
    (h5 : P.doorFits (stripLifts liftWords (c :: rest)).1 = true) : P.mayEnter = true := by
  unfold Program.mayEnter
  rw [h]
  simp only [h1, h2, h3, h4, h5, Bool.and_true, Bool.or_true]
theorem lifted_of {P : Program} {b : Bool} (h : P.liftsFinal = false) (hb : b = false) : (b == P.liftsFinal) = true := by rw [h, hb]; rfl
theorem make_of {P : Program} {m : Make} (h : P.make = some .cut) (hm : m = .cut) : (P.make == some m) = true := by rw [h, hm]; rfl
theorem iniT : Tryz.prog.initOrder = String.ofList (List.map Char.ofNat [104, 97, 114, 110, 101, 115, 115, 32, 99, 49, 51, 50, 57, 49, 54, 101, 57, 48, 48, 99, 97, 51, 100, 51, 52, 55, 49, 54, 99, 51, 99, 98, 102, 100, 53, 100, 56, 51, 56, 102, 97, 99, 56, 49, 102, 97, 54, 49, 99, 56, 57, 101, 48, 53, 55, 57, 53, 57, 49, 99, 102, 49, 50, 52, 53, 49, 50, 53, 98, 51, 49, 50, 32, 99, 117, 116, 32, 97, 116, 32, 108, 111, 111, 112, 46, 101, 120, 97, 109, 112, 108, 101, 47, 115, 99, 104, 101, 109, 97, 109, 105, 103, 114, 97, 116, 105, 111, 110, 47, 108, 97, 119, 115, 46, 70, 110, 69, 120, 97, 99, 116, 83, 99, 97, 110, 84, 97, 98, 108, 101, 32, 108, 111, 111, 112, 46, 101, 120, 97, 109, 112, 108, 101, 47, 115, 99, 104, 101, 109, 97, 109, 105, 103, 114, 97, 116, 105, 111, 110, 47, 108, 97, 119, 115, 46, 70, 110, 73, 110, 100, 101, 120, 67, 111, 108, 117, 109, 110, 32, 108, 111, 111, 112, 46, 101, 120, 97, 109, 112, 108, 101, 47, 115, 99, 104, 101, 109, 97, 109, 105, 103, 114, 97, 116, 105, 111, 110, 47, 108, 97, 119, 115, 46, 70, 110, 69, 120, 97, 99, 116, 73, 110, 100, 101, 120, 67, 111, 108, 117, 109, 110, 32, 108, 111, 111, 112, 46, 101, 120, 97, 109, 112, 108, 101, 47, 115, 99, 104, 101, 109, 97, 109, 105, 103, 114, 97, 116, 105, 111, 110, 47, 108, 97, 119, 115, 46, 70, 110, 83, 99, 97, 110, 84, 97, 98, 108, 101, 73, 110, 100, 101, 120]) := by kernel_rfl
theorem iniW : behindMainWord (wordsSigns Tryz.prog.initOrder.toList) = List.map Char.ofNat [99, 117, 116] :: List.map (List.map Char.ofNat) [[97, 116], [108, 111, 111, 112, 46, 101, 120, 97, 109, 112, 108, 101, 47, 115, 99, 104, 101, 109, 97, 109, 105, 103, 114, 97, 116, 105, 111, 110, 47, 108, 97, 119, 115, 46, 70, 110, 69, 120, 97, 99, 116, 83, 99, 97, 110, 84, 97, 98, 108, 101], [108, 111, 111, 112, 46, 101, 120, 97, 109, 112, 108, 101, 47, 115, 99, 104, 101, 109, 97, 109, 105, 103, 114, 97, 116, 105, 111, 110, 47, 108, 97, 119, 115, 46, 70, 110, 73, 110, 100, 101, 120, 67, 111, 108, 117, 109, 110], [108, 111, 111, 112, 46, 101, 120, 97, 109, 112, 108, 101, 47, 115, 99, 104, 101, 109, 97, 109, 105, 103, 114, 97, 116, 105, 111, 110, 47, 108, 97, 119, 115, 46, 70, 110, 69, 120, 97, 99, 116, 73, 110, 100, 101, 120, 67, 111, 108, 117, 109, 110], [108, 111, 111, 112, 46, 101, 120, 97, 109, 112, 108, 101, 47, 115, 99, 104, 101, 109, 97, 109, 105, 103, 114, 97, 116, 105, 111, 110, 47, 108, 97, 119, 115, 46, 70, 110, 83, 99, 97, 110, 84, 97, 98, 108, 101, 73, 110, 100, 101, 120]] := by rw [iniT, String.toList_ofList]; kernel_rfl
theorem mayE : Tryz.prog.mayEnter = true := mayEnter_of iniW (by kernel_rfl) (by kernel_rfl) (by kernel_rfl) (by kernel_rfl) (by kernel_rfl)
theorem liftE : Tryz.prog.liftsFinal = false := by
  unfold Program.liftsFinal Program.headLifts
  rw [iniW]
  kernel_rfl
theorem make_cut {P : Program} {c : List Char} {rest : List (List Char)} (h : behindMainWord (wordsSigns P.initOrder.toList) = c :: rest) (h1 : (c == "gc".toList || c == "spec".toList) = false) (h2 : (c == "cut".toList || (c == "finals".toList && rest.head? == some "cut".toList)) = true) : P.make = some .cut := by
  unfold Program.make
  rw [h]
  simp only [h1, h2, if_true, Bool.false_eq_true, if_false]
theorem makeE : Tryz.prog.make = some .cut := make_cut iniW (by kernel_rfl) (by kernel_rfl)
end V
end Go.Proofs.YtkjnnifnmoekjaaGreatDoor
namespace Go.Proofs.YtkjnnifnmoekjaaGreatDoor
namespace V
set_option linter.unusedVariables false
set_option maxRecDepth 100000
open Go.ChangeShapes Go.WideShapes Go.ChangeAt Go.RowKit
/-- What the rows list. -/
def seatLaid : List (String × DataW Unit) := [("math/bits.deBruijn32tab", Rows.laid_math_bits_deBruijn32tab), ("math/bits.deBruijn64tab", Rows.laid_math_bits_deBruijn64tab), ("internal/strconv.uint64pow10", Rows.laid_internal_strconv_uint64pow10)]
/-- How many steps the door's run takes. -/
def doorN : Nat := 24
theorem door_met (os : Os) (args : Array Value) : laidMetH Tryz.prog seatLaid ((World.doorLaid Tryz.prog doorN os).forCall (fun _ _ => 0) ⟨#[], args, []⟩).memory :=
  laidMetH_of_parts3 (fuel := 8) (laidMet_of_run' 8 (by kernel_rfl) (by kernel_rfl)) (by kernel_rfl) (by kernel_rfl)
theorem gPow : Tryz.prog.globalNamed "internal/strconv.uint64pow10" = some 0 := by kernel_rfl
theorem tPow : (Tryz.prog.globals[0]?).map (·.type) = some 211 := by kernel_rfl
theorem onePow : (seatLaid.filter fun x => x.1 == "internal/strconv.uint64pow10") = [("internal/strconv.uint64pow10", Lib.tabData .u64 Lib.pow10Tab)] := by kernel_rfl
theorem tabOk_laid {W : World} (h : laidMetH Tryz.prog seatLaid W) : TabOk W (· < W.heap.size) := by
  rw [MakeChecks.laidMetH_plain _ _ _ (by kernel_rfl)] at h
  have h2 := laidMet.filter (fun x => x.1 == "internal/strconv.uint64pow10") h
  rw [onePow] at h2
  have h3 := Lib.tabIs_of_head gPow tPow Tryz.underlying211 Tryz.underlying174 (by kernel_rfl) (by kernel_rfl) h2
  exact ⟨0, gPow, cell_lt (h3.cell gPow 0 (by decide)), h3⟩
end V
end Go.Proofs.YtkjnnifnmoekjaaGreatDoor
namespace Go.Proofs.YtkjnnifnmoekjaaGreatDoor
namespace V
open Enc (enc)
set_option linter.unusedVariables false
set_option linter.unusedSimpArgs false
set_option maxHeartbeats 4000000
set_option maxRecDepth 100000
open Go.RowKit
attribute [local irreducible] thA inA FinA eL
end V
end Go.Proofs.YtkjnnifnmoekjaaGreatDoor
namespace Go.Proofs.YtkjnnifnmoekjaaGreatDoor
namespace V
open Enc (enc)
set_option linter.unusedVariables false
set_option linter.unusedSimpArgs false
set_option maxHeartbeats 4000000
set_option maxRecDepth 100000
open Go.RowKit
attribute [local irreducible] thA inA FinA eL
open Szd (szd)
open Go.ChangeShapes Go.WideShapes Go.ChangeAt
instance : Opn Tryz.prog Int 3 := Opn.int Tryz.underlying3
instance : Opn Tryz.prog ByteArray 9 := Opn.str Tryz.underlying9
instance : Szd L_Value := ⟨fun x => szd x.kind ∧ szd x.num ∧ szd x.text⟩
instance : Opn Tryz.prog L_Value 28 := ⟨fun {H en W fuel cs x} h => by
  obtain ⟨hl, hf⟩ := opn_fields Tryz.underlying28 h; rw [show Tryz.prog.cellsOf 28 = 3 by kernel_rfl] at hl; obtain ⟨n0, y0, h0⟩ := hf 0 _ rfl
  replace h0 : DataW.trod en Tryz.prog W 0 (fun _ => true) true n0 3 ((cs.drop 0).take (Tryz.prog.cellsOf 3)) = some y0 := h0
  rw [show Tryz.prog.cellsOf 3 = 1 by kernel_rfl] at h0; obtain ⟨a0, g0, s0⟩ := (inferInstance : Opn Tryz.prog Int 3).opn h0; obtain ⟨n1, y1, h1⟩ := hf 1 _ rfl
  replace h1 : DataW.trod en Tryz.prog W 0 (fun _ => true) true n1 3 ((cs.drop 1).take (Tryz.prog.cellsOf 3)) = some y1 := h1
  rw [show Tryz.prog.cellsOf 3 = 1 by kernel_rfl] at h1; obtain ⟨a1, g1, s1⟩ := (inferInstance : Opn Tryz.prog Int 3).opn h1; obtain ⟨n2, y2, h2⟩ := hf 2 _ rfl
  replace h2 : DataW.trod en Tryz.prog W 0 (fun _ => true) true n2 9 ((cs.drop 2).take (Tryz.prog.cellsOf 9)) = some y2 := h2
  rw [show Tryz.prog.cellsOf 9 = 1 by kernel_rfl] at h2; obtain ⟨a2, g2, s2⟩ := (inferInstance : Opn Tryz.prog ByteArray 9).opn h2; refine ⟨⟨a0, a1, a2⟩, ?_, s0, s1, s2⟩; have := TL.step g0 (TL.step g1 (TL.step g2 (TL.fin hl) rfl) rfl) rfl; exact this⟩
instance : Szd L_Column := ⟨fun x => szd x.kind ∧ szd x.default⟩
instance : Opn Tryz.prog L_Column 109 := ⟨fun {H en W fuel cs x} h => by
  obtain ⟨hl, hf⟩ := opn_fields Tryz.underlying109 h; rw [show Tryz.prog.cellsOf 109 = 4 by kernel_rfl] at hl; obtain ⟨n0, y0, h0⟩ := hf 0 _ rfl
  replace h0 : DataW.trod en Tryz.prog W 0 (fun _ => true) true n0 3 ((cs.drop 0).take (Tryz.prog.cellsOf 3)) = some y0 := h0
  rw [show Tryz.prog.cellsOf 3 = 1 by kernel_rfl] at h0; obtain ⟨a0, g0, s0⟩ := (inferInstance : Opn Tryz.prog Int 3).opn h0; obtain ⟨n1, y1, h1⟩ := hf 1 _ rfl
  replace h1 : DataW.trod en Tryz.prog W 0 (fun _ => true) true n1 28 ((cs.drop 1).take (Tryz.prog.cellsOf 28)) = some y1 := h1
  rw [show Tryz.prog.cellsOf 28 = 3 by kernel_rfl] at h1; obtain ⟨a1, g1, s1⟩ := (inferInstance : Opn Tryz.prog L_Value 28).opn h1; refine ⟨⟨a0, a1⟩, ?_, s0, s1⟩; have := TL.step g0 (TL.step g1 (TL.fin hl) rfl) rfl; exact this⟩
instance : Opn Tryz.prog (List L_Column) 22 := Opn.sl Tryz.underlying22 (by kernel_rfl) (by decide)
instance : Szd L_Change := ⟨fun x => szd x.kind ∧ szd x.at_ ∧ szd x.column⟩
instance : Opn Tryz.prog L_Change 112 := ⟨fun {H en W fuel cs x} h => by
  obtain ⟨hl, hf⟩ := opn_fields Tryz.underlying112 h; rw [show Tryz.prog.cellsOf 112 = 6 by kernel_rfl] at hl; obtain ⟨n0, y0, h0⟩ := hf 0 _ rfl
  replace h0 : DataW.trod en Tryz.prog W 0 (fun _ => true) true n0 3 ((cs.drop 0).take (Tryz.prog.cellsOf 3)) = some y0 := h0
  rw [show Tryz.prog.cellsOf 3 = 1 by kernel_rfl] at h0; obtain ⟨a0, g0, s0⟩ := (inferInstance : Opn Tryz.prog Int 3).opn h0; obtain ⟨n1, y1, h1⟩ := hf 1 _ rfl
  replace h1 : DataW.trod en Tryz.prog W 0 (fun _ => true) true n1 3 ((cs.drop 1).take (Tryz.prog.cellsOf 3)) = some y1 := h1
  rw [show Tryz.prog.cellsOf 3 = 1 by kernel_rfl] at h1; obtain ⟨a1, g1, s1⟩ := (inferInstance : Opn Tryz.prog Int 3).opn h1; obtain ⟨n2, y2, h2⟩ := hf 2 _ rfl
  replace h2 : DataW.trod en Tryz.prog W 0 (fun _ => true) true n2 109 ((cs.drop 2).take (Tryz.prog.cellsOf 109)) = some y2 := h2
  rw [show Tryz.prog.cellsOf 109 = 4 by kernel_rfl] at h2; obtain ⟨a2, g2, s2⟩ := (inferInstance : Opn Tryz.prog L_Column 109).opn h2; refine ⟨⟨a0, a1, a2⟩, ?_, s0, s1, s2⟩; have := TL.step g0 (TL.step g1 (TL.step g2 (TL.fin hl) rfl) rfl) rfl; exact this⟩
instance : Opn Tryz.prog (List L_Change) 23 := Opn.sl Tryz.underlying23 (by kernel_rfl) (by decide)
instance : Opn Tryz.prog (List L_Value) 114 := Opn.sl Tryz.underlying114 (by kernel_rfl) (by decide)
instance : Szd L_Tagged := ⟨fun x => szd x.tag ∧ szd x.row⟩
instance : Opn Tryz.prog L_Tagged 116 := ⟨fun {H en W fuel cs x} h => by
  obtain ⟨hl, hf⟩ := opn_fields Tryz.underlying116 h; rw [show Tryz.prog.cellsOf 116 = 2 by kernel_rfl] at hl; obtain ⟨n0, y0, h0⟩ := hf 0 _ rfl
  replace h0 : DataW.trod en Tryz.prog W 0 (fun _ => true) true n0 3 ((cs.drop 0).take (Tryz.prog.cellsOf 3)) = some y0 := h0
  rw [show Tryz.prog.cellsOf 3 = 1 by kernel_rfl] at h0; obtain ⟨a0, g0, s0⟩ := (inferInstance : Opn Tryz.prog Int 3).opn h0; obtain ⟨n1, y1, h1⟩ := hf 1 _ rfl
  replace h1 : DataW.trod en Tryz.prog W 0 (fun _ => true) true n1 114 ((cs.drop 1).take (Tryz.prog.cellsOf 114)) = some y1 := h1
  rw [show Tryz.prog.cellsOf 114 = 1 by kernel_rfl] at h1; obtain ⟨a1, g1, s1⟩ := (inferInstance : Opn Tryz.prog (List L_Value) 114).opn h1; refine ⟨⟨a0, a1⟩, ?_, s0, s1⟩; have := TL.step g0 (TL.step g1 (TL.fin hl) rfl) rfl; exact this⟩
instance : Opn Tryz.prog (List L_Tagged) 24 := Opn.sl Tryz.underlying24 (by kernel_rfl) (by decide)
instance : Szd L_Table := ⟨fun x => szd x.first ∧ szd x.changes ∧ szd x.rows⟩
instance : Opn Tryz.prog L_Table 26 := ⟨fun {H en W fuel cs x} h => by
  obtain ⟨hl, hf⟩ := opn_fields Tryz.underlying26 h; rw [show Tryz.prog.cellsOf 26 = 3 by kernel_rfl] at hl; obtain ⟨n0, y0, h0⟩ := hf 0 _ rfl
  replace h0 : DataW.trod en Tryz.prog W 0 (fun _ => true) true n0 22 ((cs.drop 0).take (Tryz.prog.cellsOf 22)) = some y0 := h0
  rw [show Tryz.prog.cellsOf 22 = 1 by kernel_rfl] at h0; obtain ⟨a0, g0, s0⟩ := (inferInstance : Opn Tryz.prog (List L_Column) 22).opn h0; obtain ⟨n1, y1, h1⟩ := hf 1 _ rfl
  replace h1 : DataW.trod en Tryz.prog W 0 (fun _ => true) true n1 23 ((cs.drop 1).take (Tryz.prog.cellsOf 23)) = some y1 := h1
  rw [show Tryz.prog.cellsOf 23 = 1 by kernel_rfl] at h1; obtain ⟨a1, g1, s1⟩ := (inferInstance : Opn Tryz.prog (List L_Change) 23).opn h1; obtain ⟨n2, y2, h2⟩ := hf 2 _ rfl
  replace h2 : DataW.trod en Tryz.prog W 0 (fun _ => true) true n2 24 ((cs.drop 2).take (Tryz.prog.cellsOf 24)) = some y2 := h2
  rw [show Tryz.prog.cellsOf 24 = 1 by kernel_rfl] at h2; obtain ⟨a2, g2, s2⟩ := (inferInstance : Opn Tryz.prog (List L_Tagged) 24).opn h2; refine ⟨⟨a0, a1, a2⟩, ?_, s0, s1, s2⟩; have := TL.step g0 (TL.step g1 (TL.step g2 (TL.fin hl) rfl) rfl) rfl; exact this⟩
instance : Opn Tryz.prog UInt8 5 := Opn.u8 Tryz.underlying5
instance : Opn Tryz.prog (List UInt8) 46 := Opn.sl Tryz.underlying46 (by kernel_rfl) (by decide)
end V
end Go.Proofs.YtkjnnifnmoekjaaGreatDoor
