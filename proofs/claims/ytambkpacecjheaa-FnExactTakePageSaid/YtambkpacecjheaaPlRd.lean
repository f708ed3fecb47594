/- The reader of drawn numbers, as plain data. No condition. -/
import Derived.Test.YtambkpacecjheaaPlB
import Derived.Test.YtambkpacecjheaaRdra
namespace Go.Proofs.Ytambkpacecjheaa
namespace V
set_option linter.unusedVariables false
set_option linter.unusedSimpArgs false
/-- A reader at a place that is not too far. -/
structure RdOk (r : S_reader) : Prop where
  len : r.b.length ≤ 2000
  lo : 0 ≤ r.p
  hi : r.p ≤ 1000000000
theorem pick_ok (N : Nat) {r : S_reader} {n : Int} (h : r.b.length ≤ 4000000000) (h0 : 0 ≤ r.p ∧ r.p ≤ 2000000000) (hn : n ≤ 4000000000) : ok (m_S_reader_pick N r n) fun x => x.2 = ⟨r.b, r.p + 1⟩ ∧ 0 ≤ x.1 ∧ (x.1 < n ∨ x.1 = 0) := by
  unfold m_S_reader_pick
  have hb : ∀ u : UInt8, (0 : Int) ≤ (u.toNat : Int) ∧ (u.toNat : Int) ≤ 255 := fun u => by have := u.toNat_lt; omega
  repeat' (first | (with_reducible refine ok.some ?_) | ((with_reducible refine ok.ix (by omega) (by omega) (fun q hq he => ?_); have := hb (r.b[q]); generalize (r.b[q].toNat : Int) = u at *)) | ((with_reducible refine ok.xorM (by omega) (fun _ hq => ?_))) | (with_reducible refine ok.ite (fun hc => ?_) (fun hc => ?_)) | (with_reducible refine ok.cond (fun hc => ?_) (fun hc => ?_)) | (with_reducible refine ok.chk (by omega) ?_) | (with_reducible refine ok.bs ?_) | (with_reducible refine ok.remM (by omega) (fun _ hq => ?_)) | (with_reducible refine ok.quoM (by omega) (fun _ hq => ?_)) | (with_reducible refine ok.ix (by omega) (by omega) (fun q hq he => ?_)))
  all_goals (first | exact ⟨rfl, Int.le_refl _, .inr rfl⟩ | exact ⟨rfl, by omega, by omega⟩)
theorem newReader_ok (N : Nat) (l : List UInt8) : ok (m_S_newReader N l) fun r => r.b.length ≤ 2000 ∧ r.p = 0 := by
  unfold m_S_newReader
  repeat' (first | (with_reducible refine ok.some ?_) | ((rw [subM_eq (by omega)]; refine ok.some ?_)) | (with_reducible refine ok.ite (fun hc => ?_) (fun hc => ?_)) | (with_reducible refine ok.cond (fun hc => ?_) (fun hc => ?_)) | (with_reducible refine ok.chk (by omega) ?_) | (with_reducible refine ok.bs ?_) | (with_reducible refine ok.remM (by omega) (fun _ hq => ?_)) | (with_reducible refine ok.quoM (by omega) (fun _ hq => ?_)) | (with_reducible refine ok.ix (by omega) (by omega) (fun q hq he => ?_)))
  · exact ⟨by simp; omega, rfl⟩
  · exact ⟨by show l.length ≤ 2000; omega, rfl⟩
theorem one_ok (N : Nat) {r : S_reader} {l : List Int} (h : r.b.length ≤ 4000000000) (h0 : 0 ≤ r.p ∧ r.p ≤ 2000000000) (hl : 0 < l.length) (hl' : l.length ≤ 1000) : ok (m_S_reader_one N r l) fun x => x.2 = ⟨r.b, r.p + 1⟩ ∧ x.1 ∈ l := by
  unfold m_S_reader_one
  refine ok.call (pick_ok N h h0 (by omega)) ?_
  rintro x ⟨h1, h2, h3⟩
  repeat' (first | (with_reducible refine ok.some ?_) | (with_reducible refine ok.ite (fun hc => ?_) (fun hc => ?_)) | (with_reducible refine ok.cond (fun hc => ?_) (fun hc => ?_)) | (with_reducible refine ok.chk (by omega) ?_) | (with_reducible refine ok.bs ?_) | (with_reducible refine ok.remM (by omega) (fun _ hq => ?_)) | (with_reducible refine ok.quoM (by omega) (fun _ hq => ?_)) | (with_reducible refine ok.ix (by omega) (by omega) (fun q hq he => ?_)))
  exact ⟨h1, List.getElem_mem _⟩
end V
end Go.Proofs.Ytambkpacecjheaa
