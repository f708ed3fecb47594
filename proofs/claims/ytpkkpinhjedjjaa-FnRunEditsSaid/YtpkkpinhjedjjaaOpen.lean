/- Arguments as the rows read them, opened as readable slices. -/
import Derived.Test.YtpkkpinhjedjjaaLibF
import Derived.ProofKit
import Derived.Deep.Slices
namespace Go.Proofs.Ytpkkpinhjedjjaa
namespace V
open Flat (enc)
set_option linter.unusedVariables false
set_option linter.unusedSimpArgs false
open Go.RowKit Go.ChangeShapes Go.WideShapes Go.ChangeAt

section
variable {H : Type} {enc : TypeId × Value → H} {P : Program} {W : World} {r : Reach} {base : Nat}
/-- A slice of whole numbers is read cell by cell. -/
theorem openInts {α : Type} [F : Flat α] {t e : TypeId} {k : IntKind} {v : Value} {d : DataW H} {ps : List MemPlace} (ht : P.underlying t = some (.slice e)) (he : P.underlying e = some (.int k)) (hc : P.cellsOf e = 1)
    (hk : ∀ n : Int, (Lit.int k n).wf = true → ∃ x : α, Flat.enc x = [.int k n])
    (hv : Value.okWide P W r base t v) (h : DataW.Trod enc P W 0 (fun _ => true) true t v d ps) (hlt : ∀ x ∈ ps, x.block < W.heap.size) :
    ∃ (a : Option Addr) (l : List α) (cap : Nat), v = .slice a l.length cap ∧ SlF 0 W.heap.size W a l ∧ l.length ≤ cap ∧ cap ≤ 9223372036854775807 ∧ (a = none → cap = 0) := by
  obtain ⟨a, len, cap, rfl⟩ := okWide_slice ht hv
  obtain ⟨fuel, hf⟩ := h
  rcases open_ints ht he hc hf with ⟨hcs, hx⟩ | ⟨a', len', cap', zs, hcs, _, hl, hm, hz, hx, hcell, hw⟩
  · simp [Value.cells] at hcs
    obtain ⟨rfl, rfl, rfl⟩ := hcs
    exact ⟨none, [], 0, rfl, .inl rfl, Nat.le_refl _, by omega, fun _ => rfl⟩
  · simp [Value.cells] at hcs
    obtain ⟨rfl, rfl, rfl⟩ := hcs
    simp only [if_pos] at hz
    simp only [Prod.mk.injEq] at hx
    obtain ⟨rfl, rfl⟩ := hx
    have hch : ∀ zs : List Int, (∀ n ∈ zs, (Lit.int k n).wf = true) → ∃ l : List α, l.map Flat.enc = zs.map fun n => [Value.int k n] := by
      intro zs hw
      induction zs with
      | nil => exact ⟨[], rfl⟩
      | cons z zs ih =>
        obtain ⟨l, hl⟩ := ih fun n hn => hw n (.tail _ hn)
        obtain ⟨x, hx⟩ := hk z (hw z (.head _))
        exact ⟨x :: l, by simp [hl, hx]⟩
    obtain ⟨l, hl'⟩ := hch (zs.take len) fun n hn => hw n (List.mem_of_mem_take hn)
    have hlen : l.length = len := by have := congrArg List.length hl'; simp at this; omega
    refine ⟨some a', l, cap, by rw [hlen], ?_, by omega, by simpa [maxLen] using hm, by simp⟩
    unfold SlF; rw [hl']
    have hflat : ((zs.take len).map fun n => [Value.int k n]).flatten = (zs.take len).map (Value.int k) := by
      induction zs.take len with
      | nil => rfl
      | cons z zs ih => simp [ih]
    by_cases h0 : len = 0
    · left; rw [h0]; rfl
    · right
      have c0 := hcell 0 (by omega)
      have hsp : a'.spot = none := by
        have : (a'.add 0) = a' := by unfold Addr.add; simp
        rw [this] at c0
        unfold World.cell? at c0
        split at c0
        · split at c0
          · cases c0
          · simpa using ‹¬ a'.spot.isSome = true›
        · cases c0
      obtain ⟨b, off, sp⟩ := a'
      simp only at hsp; subst hsp
      have hb : b < W.heap.size := by
        refine hlt (.cell b (off + 0)) ?_
        exact List.mem_map.2 ⟨0, List.mem_range.2 (by omega), rfl⟩
      refine ⟨b, off, rfl, Nat.zero_le _, hb, fun j v hj => ?_⟩
      rw [hflat] at hj
      have hjl : j < len := by have := (List.getElem?_eq_some_iff.1 hj).1; simp at this; omega
      have := hcell j (by omega)
      have hadd : (⟨b, off, none⟩ : Addr).add j = ⟨b, off + j, none⟩ := by unfold Addr.add; split <;> simp_all
      rw [hadd] at this
      have hz' : j < zs.length := by omega
      rw [List.getElem?_map, List.getElem?_take, if_pos hjl, List.getElem?_eq_getElem hz'] at hj
      rw [this, ← hj]
      simp [List.getD, hz']
end
theorem u8_enc (n : Int) (h : (Lit.int .u8 n).wf = true) : ∃ x : UInt8, Flat.enc x = [.int .u8 n] := by
  have hn : 0 ≤ n ∧ n ≤ 255 := by simpa [Lit.wf, IntKind.min, IntKind.max, IntKind.signed, IntKind.bits] using h
  obtain ⟨k, rfl⟩ := Int.eq_ofNat_of_zero_le hn.1
  refine ⟨UInt8.ofNat k, ?_⟩
  show [Value.int .u8 (((UInt8.ofNat k).toNat : Nat) : Int)] = _
  rw [UInt8.toNat_ofNat_of_lt' (by show k < 256; omega)]
theorem int_enc (n : Int) (h : (Lit.int .i64 n).wf = true) : ∃ x : Int, Flat.enc x = [.int .i64 n] := ⟨n, rfl⟩
end V
end Go.Proofs.Ytpkkpinhjedjjaa
