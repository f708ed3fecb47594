/- What the rows need, part 7. No condition. -/
import Derived.Test.YtikobdnhflcnmaaGreatDoorRows
import Derived.ProofKit
import Derived.Deep.Slices
import Derived.LaidMore
import Derived.LaidSub
import Derived.LaidHandle
import Derived.OpenShut
import Derived.Lib.LaidTab
import Derived.Test.YtikobdnhflcnmaaGreatDoorQXzF
namespace Go.Proofs.YtikobdnhflcnmaaGreatDoor
namespace V
set_option linter.unusedVariables false
set_option linter.unusedSimpArgs false
section
variable {α : Type} (mk : α → Int → α) (c : α → Nat)
/-- All elements marked, one after the other; c: how many numbers an element takes. -/
def cL : List α → Nat
  | [] => 0
  | x :: xs => c x + cL xs
def mkL : List α → Int → List α
  | [], _ => []
  | x :: xs, k => mk x k :: mkL xs (k + c x)
theorem mkL_len : ∀ (xs : List α) (k : Int), (mkL mk c xs k).length = xs.length
  | [], _ => rfl
  | x :: xs, k => by simp [mkL, mkL_len xs]
theorem cL_app : ∀ xs ys : List α, cL c (xs ++ ys) = cL c xs + cL c ys
  | [], ys => by simp [cL]
  | x :: xs, ys => by simp only [List.cons_append, cL, cL_app xs ys]; omega
theorem mkL_app : ∀ (xs ys : List α) (k : Int), mkL mk c (xs ++ ys) k = mkL mk c xs k ++ mkL mk c ys (k + cL c xs)
  | [], ys, k => by simp [mkL, cL]
  | x :: xs, ys, k => by simp only [List.cons_append, mkL, cL, mkL_app xs ys, Int.natCast_add, Int.add_assoc]
theorem take_succ' {xs : List α} {i : Nat} (h : i < xs.length) : xs.take (i + 1) = xs.take i ++ [xs[i]] := by rw [List.take_add_one, List.getElem?_eq_getElem h]; rfl
theorem cL_take {xs : List α} {i : Nat} (h : i < xs.length) : cL c (xs.take (i + 1)) = cL c (xs.take i) + c xs[i] := by rw [take_succ' h, cL_app]; simp [cL]
theorem cL_take_le (xs : List α) (i : Nat) : cL c (xs.take i) ≤ cL c xs := by
  have := cL_app c (xs.take i) (xs.drop i); rw [List.take_append_drop] at this; omega
theorem cL_const {m : Nat} (h : ∀ x, c x = m) : ∀ xs, cL c xs = m * xs.length
  | [] => by simp [cL]
  | x :: xs => by simp only [cL, h x, cL_const h xs, List.length_cons, Nat.mul_add]; omega
/-- The loop that marks. -/
theorem mark_loop {body : Int × Int × List α → Option ((Int × Int × List α) ⊕ (Int × List α))} {N : Nat} (xs : List α) (k0 : Int) (hN : xs.length < N)
    (h : ∀ (i : Nat) (hi : i < xs.length) (v : List α), v.length = xs.length → v[i]? = some xs[i] → body (k0 + cL c (xs.take i), (i : Int), v) = some (.inl (k0 + cL c (xs.take i) + c xs[i], (i : Int) + 1, v.set i (mk xs[i] (k0 + cL c (xs.take i))))))
    (he : ∀ (k : Int) (v : List α), v.length = xs.length → body (k, (xs.length : Int), v) = some (.inr (k, v))) :
    loopM body N (k0, 0, xs) = some (k0 + cL c xs, mkL mk c xs k0) := by
  have key := ok.loop (body := body) (fun s => ∃ i : Nat, i ≤ xs.length ∧ s = (k0 + cL c (xs.take i), (i : Int), mkL mk c (xs.take i) k0 ++ xs.drop i)) (fun s => ((xs.length : Int) - s.2.1).toNat) (fun r => r = (k0 + cL c xs, mkL mk c xs k0)) ?_ N (k0, 0, xs) ⟨0, Nat.zero_le _, by simp [cL, mkL]⟩ (by simp; omega)
  · obtain ⟨r, e, rfl⟩ := key; exact e
  rintro _ ⟨i, hi, rfl⟩
  have hl : (mkL mk c (xs.take i) k0 ++ xs.drop i).length = xs.length := by simp [mkL_len]; omega
  rcases Nat.lt_or_ge i xs.length with hlt | hge
  · refine ok.of (h i hlt _ hl ?_) ⟨⟨i + 1, hlt, ?_⟩, by simp; omega⟩
    · rw [List.getElem?_append_right (by simp [mkL_len]; exact Nat.min_le_left _ _)]; simp [mkL_len, Nat.min_eq_left hi, List.getElem?_eq_getElem hlt]
    · rw [cL_take c hlt, take_succ' hlt, mkL_app]
      refine Prod.ext (by simp; omega) (Prod.ext (by simp) ?_)
      show (mkL mk c (xs.take i) k0 ++ xs.drop i).set i _ = _
      rw [List.set_append_right _ _ (by simp [mkL_len]; exact Nat.min_le_left _ _)]
      simp only [mkL_len, List.length_take, Nat.min_eq_left hi, Nat.sub_self, List.append_assoc]
      congr 1
      rw [List.drop_eq_getElem_cons hlt, List.set_cons_zero]
      rfl
  · obtain rfl : i = xs.length := by omega
    refine ok.of (he _ _ hl) ?_
    simp
/-- The loop that finds the marks again. -/
theorem held_loop {γ : Type} {body : Int × Int → Option ((Int × Int) ⊕ (Int ⊕ γ))} {N : Nat} (xs : List α) (k0 : Int) (hN : xs.length < N)
    (h : ∀ (i : Nat) (hi : i < xs.length), (mkL mk c xs k0)[i]? = some (mk xs[i] (k0 + cL c (xs.take i))) → body (k0 + cL c (xs.take i), (i : Int)) = some (.inl (k0 + cL c (xs.take i) + c xs[i], (i : Int) + 1)))
    (he : ∀ k : Int, body (k, (xs.length : Int)) = some (.inr (.inl k))) :
    loopM body N (k0, 0) = some (.inl (k0 + cL c xs)) := by
  have key := ok.loop (body := body) (fun s => ∃ i : Nat, i ≤ xs.length ∧ s = (k0 + cL c (xs.take i), (i : Int))) (fun s => ((xs.length : Int) - s.2).toNat) (fun r => r = .inl (k0 + cL c xs)) ?_ N (k0, 0) ⟨0, Nat.zero_le _, by simp [cL]⟩ (by simp; omega)
  · obtain ⟨r, e, rfl⟩ := key; exact e
  rintro _ ⟨i, hi, rfl⟩
  rcases Nat.lt_or_ge i xs.length with hlt | hge
  · refine ok.of (h i hlt ?_) ⟨⟨i + 1, hlt, ?_⟩, by simp; omega⟩
    · conv => lhs; rw [← List.take_append_drop i xs]
      rw [mkL_app, List.getElem?_append_right (by simp [mkL_len]; exact Nat.min_le_left _ _)]
      simp only [mkL_len, List.length_take, Nat.min_eq_left hi, Nat.sub_self]
      rw [List.drop_eq_getElem_cons hlt]; rfl
    · rw [cL_take c hlt]
      refine Prod.ext (by simp; omega) (by simp)
  · obtain rfl : i = xs.length := by omega
    refine ok.of (he _) ?_
    simp
/-- A loop that copies element by element into a new slice. -/
theorem to_loop {β : Type} {body : Int × List β → Option ((Int × List β) ⊕ List β)} {N : Nat} (xs : List α) (f : α → β) (z : List β) (hz : z.length = xs.length) (hN : xs.length < N)
    (h : ∀ (i : Nat) (hi : i < xs.length) (v : List β), v.length = xs.length → body ((i : Int), v) = some (.inl ((i : Int) + 1, v.set i (f xs[i]))))
    (he : ∀ v : List β, body ((xs.length : Int), v) = some (.inr v)) : loopM body N (0, z) = some (xs.map f) := by
  have key := ok.loop (body := body) (fun s => ∃ i : Nat, i ≤ xs.length ∧ s = ((i : Int), (xs.map f).take i ++ z.drop i)) (fun s => ((xs.length : Int) - s.1).toNat) (fun r => r = xs.map f) ?_ N (0, z) ⟨0, Nat.zero_le _, by simp⟩ (by simp; omega)
  · obtain ⟨r, e, rfl⟩ := key; exact e
  rintro _ ⟨i, hi, rfl⟩
  have hl : ((xs.map f).take i ++ z.drop i).length = xs.length := by simp; omega
  rcases Nat.lt_or_ge i xs.length with hlt | hge
  · refine ok.of (h i hlt _ hl) ⟨⟨i + 1, hlt, ?_⟩, by simp; omega⟩
    refine Prod.ext (by simp) ?_
    show ((xs.map f).take i ++ z.drop i).set i _ = _
    rw [List.set_append_right _ _ (by simp; exact Nat.min_le_left _ _), take_succ' (by simpa using hlt)]
    simp only [List.length_take, List.length_map, Nat.min_eq_left hi, Nat.sub_self, List.append_assoc]
    congr 1
    rw [List.drop_eq_getElem_cons (show i < z.length by omega), List.set_cons_zero, List.getElem_map]
    rfl
  · obtain rfl : i = xs.length := by omega
    refine ok.of (he _) ?_
    rw [List.take_of_length_le (by simp), List.drop_of_length_le (by omega), List.append_nil]
end
end V
end Go.Proofs.YtikobdnhflcnmaaGreatDoor
namespace Go.Proofs.YtikobdnhflcnmaaGreatDoor
namespace V
open Enc (enc)
set_option linter.unusedVariables false
set_option linter.unusedSimpArgs false
open Go.RowKit Go.ChangeShapes Go.WideShapes Go.ChangeAt
/-- Cells that stand for trees. -/
def TL (w : World) (U : Nat → Prop) (cs : List Tr) (ys : List Value) : Prop :=
  ys.length = cs.length ∧ (∀ y, y ∈ ys → y.oneCell' = true) ∧ ∀ (j : Nat) c y, cs[j]? = some c → ys[j]? = some y → TRel w U c y
theorem TL.nil {w : World} {U : Nat → Prop} : TL w U [] [] := ⟨rfl, fun y h => (List.not_mem_nil h).elim, fun j c y h => by simp at h⟩
theorem TL.app {w : World} {U : Nat → Prop} {cs ds : List Tr} {ys zs : List Value} (h1 : TL w U cs ys) (h2 : TL w U ds zs) : TL w U (cs ++ ds) (ys ++ zs) := by
  refine ⟨by simp [h1.1, h2.1], fun y h => (List.mem_append.1 h).elim (h1.2.1 y) (h2.2.1 y), fun j c y hc hy => ?_⟩
  rcases Nat.lt_or_ge j cs.length with hj | hj
  · rw [List.getElem?_append_left hj] at hc
    rw [List.getElem?_append_left (by rw [h1.1]; exact hj)] at hy
    exact h1.2.2 j c y hc hy
  · rw [List.getElem?_append_right hj] at hc
    rw [List.getElem?_append_right (by rw [h1.1]; exact hj), h1.1] at hy
    exact h2.2.2 _ c y hc hy
theorem TL.one {w : World} {U : Nat → Prop} {c : Tr} {y : Value} (h1 : y.oneCell' = true) (h : TRel w U c y) : TL w U [c] [y] := by
  refine ⟨rfl, fun z hz => by simp at hz; subst hz; exact h1, fun j d z hc hz => ?_⟩
  cases j with
  | zero => simp at hc hz; subst hc hz; exact h
  | succ j => simp at hc
/-- Plain data as Go can hold it. -/
class Szd (α : Type) where szd : α → Prop
open Szd (szd)
instance : Szd Int := ⟨fun n => -9223372036854775808 ≤ n ∧ n ≤ 9223372036854775807⟩
instance : Szd Bool := ⟨fun _ => True⟩
instance : Szd UInt8 := ⟨fun _ => True⟩
instance : Szd ByteArray := ⟨fun s => s.size ≤ 9223372036854775807⟩
instance {α : Type} [Szd α] : Szd (List α) := ⟨fun xs => xs.length ≤ 9223372036854775807 ∧ ∀ x ∈ xs, szd x⟩
/-- What the rows read at a type is some plain value. -/
class Opn (P : Program) (α : Type) [Enc α] [Szd α] (t : TypeId) : Prop where
  opn : ∀ {H : Type} {en : TypeId × Value → H} {W : World} {fuel : Nat} {cs : List Value} {x : DataW H × List MemPlace}, DataW.trod en P W 0 (fun _ => true) true fuel t cs = some x → ∃ a : α, TL W (· < W.heap.size) (enc a) cs ∧ szd a
section
variable {P : Program} {t : TypeId}
theorem Opn.int (ht : P.underlying t = some (.int .i64)) : Opn P Int t := ⟨fun h => by
  obtain ⟨n, rfl, rfl, hw⟩ := DataW.trod_int ht h
  exact ⟨n, TL.one rfl (.v _ rfl), by simpa [Lit.wf, IntKind.min, IntKind.max, IntKind.signed, IntKind.bits, szd] using hw⟩⟩
theorem Opn.str (ht : P.underlying t = some .string) : Opn P ByteArray t := ⟨fun h => by
  obtain ⟨n, rfl, rfl, hw⟩ := DataW.trod_string ht h
  exact ⟨n, TL.one rfl (.v _ rfl), hw⟩⟩
theorem spot_none {w : World} {a : Addr} {v : Value} (h : w.cell? a = some v) : a.spot = none := by
  unfold World.cell? at h
  split at h
  · split at h
    · cases h
    · simpa using ‹¬ a.spot.isSome = true›
  · cases h
theorem cell_lt {w : World} {a : Addr} {v : Value} (h : w.cell? a = some v) : a.block < w.heap.size := by
  unfold World.cell? at h
  split at h
  · rename_i hq
    exact (Array.getElem?_eq_some_iff.1 hq).1
  · cases h
theorem addr_add' {B o j : Nat} : Addr.add ⟨B, o, none⟩ j = ⟨B, o + j, none⟩ := by unfold Addr.add; split <;> simp_all
theorem addr_add2 (a : Addr) (i j : Nat) : (a.add i).add j = a.add (i + j) := by unfold Addr.add; by_cases hi : i = 0 <;> by_cases hj : j = 0 <;> simp [hi, hj, Nat.add_assoc]
theorem Opn.sl {α : Type} [F : Enc α] [Szd α] {e : TypeId} (ht : P.underlying t = some (.slice e)) (hc : P.cellsOf e = F.k) (hpos : 0 < F.k) [E : Opn P α e] : Opn P (List α) t := ⟨fun {H en W fuel cs x} h => by
  rcases Go.Deep.open_slice ht h with ⟨rfl, rfl⟩ | ⟨a, len, cap, m, n, D, Pl, rfl, _, hl, hm, hmm, rfl, hel⟩
  · exact ⟨[], TL.one rfl .nil, by simp, fun x hx => by cases hx⟩
  · simp only [if_pos] at hmm
    have hm' : cap ≤ 9223372036854775807 := hm
    -- the elements, one by one
    have key : ∀ k, k ≤ len → ∃ (xs : List α) (ys : List Value), xs.length = k ∧ TL W (· < W.heap.size) (eL xs) ys ∧ (∀ x ∈ xs, szd x) ∧ ∀ (j : Nat) y, ys[j]? = some y → W.cell? (a.add j) = some y := by
      intro k
      induction k with
      | zero => intro _; exact ⟨[], [], rfl, TL.nil, fun x hx => (List.not_mem_nil hx).elim, fun j y hy => (by simp at hy)⟩
      | succ k ih =>
        intro hk
        obtain ⟨xs, ys, h1, h2, h3, h4⟩ := ih (by omega)
        obtain ⟨cs', h5, h6⟩ := hel k (by omega)
        obtain ⟨x, h7, h8⟩ := E.opn h6
        obtain ⟨_, hcl, hcg⟩ := World.cells?_some h5
        have hyl : ys.length = k * F.k := by rw [h2.1, eL_len, h1]
        refine ⟨xs ++ [x], ys ++ cs', by simp [h1], ?_, fun y hy => ?_, fun j y hy => ?_⟩
        · rw [eL_app, eL_one]; exact h2.app h7
        · rcases List.mem_append.1 hy with hy | hy
          · exact h3 y hy
          · simp at hy; subst hy; exact h8
        · rcases Nat.lt_or_ge j ys.length with hj | hj
          · rw [List.getElem?_append_left hj] at hy; exact h4 j y hy
          · rw [List.getElem?_append_right hj] at hy
            have hjl := (List.getElem?_eq_some_iff.1 hy).1
            have := hcg (j - ys.length) (by omega)
            rw [hy, hyl] at this
            rw [addr_add2, hc] at this
            rw [← this]
            congr 2; omega
    obtain ⟨xs, ys, h1, h2, h3, h4⟩ := key len (Nat.le_refl _)
    subst h1
    refine ⟨xs, ?_, by show xs.length ≤ 9223372036854775807; omega, h3⟩
    by_cases h0 : xs.length = 0
    · obtain rfl := List.eq_nil_of_length_eq_zero h0
      exact TL.one rfl (.sl0 _ _)
    · have hne : 0 < ys.length := by rw [h2.1, eL_len]; exact Nat.mul_pos (by omega) hpos
      have c0 := h4 0 _ (List.getElem?_eq_getElem hne)
      have hsp : a.spot = none := spot_none (by simpa [Addr.add] using c0)
      have hb := cell_lt c0
      obtain ⟨B, o, s⟩ := a
      simp only at hsp; subst hsp
      rw [addr_add'] at hb
      exact TL.one rfl (.sl B o xs.length cap (eL xs) ys hb h2.1 h2.2.1 (fun j y hy => by have := h4 j y hy; rwa [addr_add'] at this) h2.2.2 hl)⟩
/-- The fields of a struct, one after the other. -/
theorem opn_fields {H : Type} {en : TypeId × Value → H} {W : World} {fs : Array Field} {fuel : Nat} {cs : List Value} {x : DataW H × List MemPlace} (ht : P.underlying t = some (.struct fs)) (h : DataW.trod en P W 0 (fun _ => true) true fuel t cs = some x) :
    cs.length = P.cellsOf t ∧ ∀ (i : Nat) (f : Field), fs[i]? = some f → ∃ n y, DataW.trod en P W 0 (fun _ => true) true n f.type ((cs.drop f.offset).take (P.cellsOf f.type)) = some y := by
  obtain ⟨xs, n, rfl, rfl, h1, h2, h3⟩ := DataW.trod_struct ht h
  refine ⟨h1, fun i f hf => ?_⟩
  have := h3 i f hf
  obtain ⟨hi, _⟩ := Array.getElem?_eq_some_iff.1 hf
  exact ⟨n, xs[i], by rw [this, List.getElem?_eq_getElem (by omega)]⟩
/-- An argument of a law. -/
theorem Opn.arg {α : Type} [F : Enc α] [Szd α] {H : Type} {en : TypeId × Value → H} {W : World} {v : Value} {d : DataW H} {ps : List MemPlace} (E : Opn P α t) (hk : ∀ a : α, (enc a).length = 1) (hv : v.cells = #[v]) (h : DataW.Trod en P W 0 (fun _ => true) true t v d ps) :
    ∃ a : α, (∀ M, ∀ c, (enc a)[0]? = some c → Rel W (· < W.heap.size) M (.t c) v) ∧ szd a := by
  obtain ⟨fuel, hf⟩ := h
  rw [hv] at hf
  obtain ⟨a, h1, h2⟩ := E.opn hf
  exact ⟨a, fun M c hc => .t _ _ (h1.2.2 0 c v hc rfl), h2⟩
theorem Opn.argS {α : Type} [F : Enc α] [Szd α] {H : Type} {en : TypeId × Value → H} {W : World} {cs : Array Value} {d : DataW H} {ps : List MemPlace} (E : Opn P α t) (h : DataW.Trod en P W 0 (fun _ => true) true t (.agg cs) d ps) :
    ∃ a : α, (∀ M, Rel W (· < W.heap.size) M (.agg ((enc a).map .t)) (.agg cs)) ∧ szd a := by
  obtain ⟨fuel, hf⟩ := h
  obtain ⟨a, h1, h2⟩ := E.opn hf
  refine ⟨a, fun M => ?_, h2⟩
  have h1' : TL W (· < W.heap.size) (enc a) cs.toList := h1
  have : Rel W (· < W.heap.size) M (.agg ((enc a).map .t)) (.agg cs.toList.toArray) := .agg _ _ (by simp [h1'.1]) h1'.2.1 fun j c y hc hy => by
    rw [List.getElem?_map] at hc
    obtain ⟨c', hc', rfl⟩ := Option.map_eq_some_iff.1 hc
    exact .t _ _ (h1'.2.2 j c' y hc' hy)
  simpa using this
theorem TL.step {W : World} {U : Nat → Prop} {c d : List Tr} {cs : List Value} {i j m : Nat} (h : TL W U c ((cs.drop i).take m)) (hr : TL W U d (cs.drop j)) (hj : j = i + m) : TL W U (c ++ d) (cs.drop i) := by
  have := h.app hr
  rw [hj, ← List.drop_drop, List.take_append_drop] at this
  exact this
theorem TL.fin {W : World} {U : Nat → Prop} {cs : List Value} {k : Nat} (h : cs.length = k) : TL W U [] (cs.drop k) := by
  rw [List.drop_of_length_le (by omega)]; exact TL.nil
theorem args1 {w : World} {U : Nat → Prop} {M : Mp} {a : AV} {y : Value} (h : Rel w U M a y) : ArgsRel w U M [a] [y] :=
  ⟨rfl, fun i c z hc hz => by
    match i with
    | 0 => cases hc; cases hz; exact h
    | i + 1 => simp at hc⟩
theorem args2 {w : World} {U : Nat → Prop} {M : Mp} {a b : AV} {y z : Value} (h : Rel w U M a y) (h' : Rel w U M b z) : ArgsRel w U M [a, b] [y, z] :=
  ⟨rfl, fun i c z hc hz => by
    match i with
    | 0 => cases hc; cases hz; exact h
    | 1 => cases hc; cases hz; exact h'
    | i + 2 => simp at hc⟩
theorem own : ownKnob Tryz.prog.godebug = none := by kernel_rfl
theorem laidOut : laidOutB Tryz.prog = true := by kernel_rfl
/-- What the call of a law comes to, from the start of a run. -/
theorem law_run {f : FuncId} {args : List AV} {av : List Value} {W : World} (ht : TabOk W (· < W.heap.size)) (hc : FnX P f [] args (RE (bA true) [])) (ha : ArgsRel W (· < W.heap.size) [] args av) : Calls P f av.toArray W fun e W' => e = .returned (.bool true) ∧ Below W.heap.size W W' := by
  have := hc ⟨W, [], (· < W.heap.size)⟩ (· < W.heap.size) av ?_ (fun B h => h) ha
  · refine this.mono ?_
    rintro e w' ⟨v, r, bl, M', U', rfl, ⟨rfl, rfl⟩, h3, h4⟩
    cases h3 with | t _ _ h =>
    cases h
    refine ⟨rfl, ?_⟩
    exact h4.base.below
  · have hno : ∀ B, ¬ InM [] B := fun B ⟨b, p, h, _⟩ => by simp at h
    exact ⟨BelowX.refl _ _, fun b x h => by simp at h, rfl, fun B h => (hno B h).elim, fun B h => (hno B h).elim, fun b b' p p' B h => by simp at h, fun f F h => by simp at h, fun b ob x h => by simp at h, fun B h => ⟨⟨h, hno B⟩, .inl h⟩, ht⟩
end
end V
end Go.Proofs.YtikobdnhflcnmaaGreatDoor
namespace Go.Proofs.YtikobdnhflcnmaaGreatDoor
namespace V
set_option linter.unusedVariables false
set_option maxRecDepth 100000
theorem mayEnter_of {P : Program} {c : List Char} {rest : List (List Char)} (h : behindMainWord (wordsSigns P.initOrder.toList) = c :: rest)
    (h1 : ((stripLifts liftWords (c :: rest)).2.head? == some "cut".toList) = true) (h2 : ((stripLifts liftWords (c :: rest)).1.contains "finals" || !P.laysLater) = true)
    (h3 : ((stripLifts liftWords (c :: rest)).1.contains "reflectrows" || !P.bearsReflect) = true) (h4 : ((stripLifts liftWords (c :: rest)).1.contains "reflectrows" || !(stripLifts liftWords (c :: rest)).1.contains "leanrows") = true)
    (h5 : P.doorFits (stripLifts liftWords (c :: rest)).1 = true) : P.mayEnter = true := by
  unfold Program.mayEnter
  rw [h]
  simp only [h1, h2, h3, h4, h5, Bool.and_true, Bool.or_true]
theorem lifted_of {P : Program} {b : Bool} (h : P.liftsFinal = false) (hb : b = false) : (b == P.liftsFinal) = true := by rw [h, hb]; rfl
theorem make_of {P : Program} {m : Make} (h : P.make = some .cut) (hm : m = .cut) : (P.make == some m) = true := by rw [h, hm]; rfl
theorem iniT : Tryz.prog.initOrder = String.ofList (List.map Char.ofNat [104, 97, 114, 110, 101, 115, 115, 32, 97, 57, 50, 49, 52, 101, 100, 49, 53, 100, 48, 56, 53, 55, 102, 52, 102, 54, 97, 54, 49, 57, 57, 53, 102, 98, 51, 55, 49, 99, 102, 97, 102, 49, 50, 97, 57, 50, 99, 52, 51, 101, 48, 52, 98, 52, 102, 51, 50, 97, 97, 50, 52, 98, 101, 52, 53, 49, 99, 54, 99, 102, 51, 54, 32, 99, 117, 116, 32, 97, 116, 32, 108, 111, 111, 112, 46, 101, 120, 97, 109, 112, 108, 101, 47, 115, 99, 104, 101, 109, 97, 109, 105, 103, 114, 97, 116, 105, 111, 110, 47, 108, 97, 119, 115, 46, 70, 110, 69, 120, 97, 99, 116, 84, 97, 98, 108, 101, 82, 111, 119, 115, 32, 108, 111, 111, 112, 46, 101, 120, 97, 109, 112, 108, 101, 47, 115, 99, 104, 101, 109, 97, 109, 105, 103, 114, 97, 116, 105, 111, 110, 47, 108, 97, 119, 115, 46, 70, 110, 69, 120, 97, 99, 116, 82, 101, 119, 114, 105, 116, 101, 82, 111, 119, 115]) := by kernel_rfl
theorem iniW : behindMainWord (wordsSigns Tryz.prog.initOrder.toList) = List.map Char.ofNat [99, 117, 116] :: List.map (List.map Char.ofNat) [[97, 116], [108, 111, 111, 112, 46, 101, 120, 97, 109, 112, 108, 101, 47, 115, 99, 104, 101, 109, 97, 109, 105, 103, 114, 97, 116, 105, 111, 110, 47, 108, 97, 119, 115, 46, 70, 110, 69, 120, 97, 99, 116, 84, 97, 98, 108, 101, 82, 111, 119, 115], [108, 111, 111, 112, 46, 101, 120, 97, 109, 112, 108, 101, 47, 115, 99, 104, 101, 109, 97, 109, 105, 103, 114, 97, 116, 105, 111, 110, 47, 108, 97, 119, 115, 46, 70, 110, 69, 120, 97, 99, 116, 82, 101, 119, 114, 105, 116, 101, 82, 111, 119, 115]] := by rw [iniT, String.toList_ofList]; kernel_rfl
theorem mayE : Tryz.prog.mayEnter = true := mayEnter_of iniW (by kernel_rfl) (by kernel_rfl) (by kernel_rfl) (by kernel_rfl) (by kernel_rfl)
theorem liftE : Tryz.prog.liftsFinal = false := by
  unfold Program.liftsFinal Program.headLifts
  rw [iniW]
  kernel_rfl
theorem make_cut {P : Program} {c : List Char} {rest : List (List Char)} (h : behindMainWord (wordsSigns P.initOrder.toList) = c :: rest) (h1 : (c == "gc".toList || c == "spec".toList) = false) (h2 : (c == "cut".toList || (c == "finals".toList && rest.head? == some "cut".toList)) = true) : P.make = some .cut := by
  unfold Program.make
  rw [h]
  simp only [h1, h2, if_true, Bool.false_eq_true, if_false]
theorem makeE : Tryz.prog.make = some .cut := make_cut iniW (by kernel_rfl) (by kernel_rfl)
end V
end Go.Proofs.YtikobdnhflcnmaaGreatDoor
namespace Go.Proofs.YtikobdnhflcnmaaGreatDoor
namespace V
set_option linter.unusedVariables false
set_option maxRecDepth 100000
open Go.ChangeShapes Go.WideShapes Go.ChangeAt Go.RowKit
/-- What the rows list. -/
def seatLaid : List (String × DataW Unit) := [("math/bits.deBruijn32tab", Rows.laid_math_bits_deBruijn32tab), ("math/bits.deBruijn64tab", Rows.laid_math_bits_deBruijn64tab), ("internal/strconv.uint64pow10", Rows.laid_internal_strconv_uint64pow10)]
/-- How many steps the door's run takes. -/
def doorN : Nat := 24
theorem door_met (os : Os) (args : Array Value) : laidMetH Tryz.prog seatLaid ((World.doorLaid Tryz.prog doorN os).forCall (fun _ _ => 0) ⟨#[], args, []⟩).memory :=
  laidMetH_of_parts3 (fuel := 8) (laidMet_of_run' 8 (by kernel_rfl) (by kernel_rfl)) (by kernel_rfl) (by kernel_rfl)
theorem gPow : Tryz.prog.globalNamed "internal/strconv.uint64pow10" = some 0 := by kernel_rfl
theorem tPow : (Tryz.prog.globals[0]?).map (·.type) = some 136 := by kernel_rfl
theorem onePow : (seatLaid.filter fun x => x.1 == "internal/strconv.uint64pow10") = [("internal/strconv.uint64pow10", Lib.tabData .u64 Lib.pow10Tab)] := by kernel_rfl
theorem tabOk_laid {W : World} (h : laidMetH Tryz.prog seatLaid W) : TabOk W (· < W.heap.size) := by
  rw [MakeChecks.laidMetH_plain _ _ _ (by kernel_rfl)] at h
  have h2 := laidMet.filter (fun x => x.1 == "internal/strconv.uint64pow10") h
  rw [onePow] at h2
  have h3 := Lib.tabIs_of_head gPow tPow Tryz.underlying136 Tryz.underlying129 (by kernel_rfl) (by kernel_rfl) h2
  exact ⟨0, gPow, cell_lt (h3.cell gPow 0 (by decide)), h3⟩
end V
end Go.Proofs.YtikobdnhflcnmaaGreatDoor
namespace Go.Proofs.YtikobdnhflcnmaaGreatDoor
namespace V
open Enc (enc)
set_option linter.unusedVariables false
set_option linter.unusedSimpArgs false
set_option maxHeartbeats 4000000
set_option maxRecDepth 100000
open Go.RowKit
attribute [local irreducible] thA inA FinA eL
open Szd (szd)
open Go.ChangeShapes Go.WideShapes Go.ChangeAt
instance : Opn Tryz.prog Int 3 := Opn.int Tryz.underlying3
instance : Opn Tryz.prog ByteArray 9 := Opn.str Tryz.underlying9
instance : Szd L_Value := ⟨fun x => szd x.kind ∧ szd x.num ∧ szd x.text⟩
instance : Opn Tryz.prog L_Value 67 := ⟨fun {H en W fuel cs x} h => by
  obtain ⟨hl, hf⟩ := opn_fields Tryz.underlying67 h; rw [show Tryz.prog.cellsOf 67 = 3 by kernel_rfl] at hl; obtain ⟨n0, y0, h0⟩ := hf 0 _ rfl
  replace h0 : DataW.trod en Tryz.prog W 0 (fun _ => true) true n0 3 ((cs.drop 0).take (Tryz.prog.cellsOf 3)) = some y0 := h0
  rw [show Tryz.prog.cellsOf 3 = 1 by kernel_rfl] at h0; obtain ⟨a0, g0, s0⟩ := (inferInstance : Opn Tryz.prog Int 3).opn h0; obtain ⟨n1, y1, h1⟩ := hf 1 _ rfl
  replace h1 : DataW.trod en Tryz.prog W 0 (fun _ => true) true n1 3 ((cs.drop 1).take (Tryz.prog.cellsOf 3)) = some y1 := h1
  rw [show Tryz.prog.cellsOf 3 = 1 by kernel_rfl] at h1; obtain ⟨a1, g1, s1⟩ := (inferInstance : Opn Tryz.prog Int 3).opn h1; obtain ⟨n2, y2, h2⟩ := hf 2 _ rfl
  replace h2 : DataW.trod en Tryz.prog W 0 (fun _ => true) true n2 9 ((cs.drop 2).take (Tryz.prog.cellsOf 9)) = some y2 := h2
  rw [show Tryz.prog.cellsOf 9 = 1 by kernel_rfl] at h2; obtain ⟨a2, g2, s2⟩ := (inferInstance : Opn Tryz.prog ByteArray 9).opn h2; refine ⟨⟨a0, a1, a2⟩, ?_, s0, s1, s2⟩; have := TL.step g0 (TL.step g1 (TL.step g2 (TL.fin hl) rfl) rfl) rfl; exact this⟩
instance : Szd L_Column := ⟨fun x => szd x.kind ∧ szd x.default⟩
instance : Opn Tryz.prog L_Column 69 := ⟨fun {H en W fuel cs x} h => by
  obtain ⟨hl, hf⟩ := opn_fields Tryz.underlying69 h; rw [show Tryz.prog.cellsOf 69 = 4 by kernel_rfl] at hl; obtain ⟨n0, y0, h0⟩ := hf 0 _ rfl
  replace h0 : DataW.trod en Tryz.prog W 0 (fun _ => true) true n0 3 ((cs.drop 0).take (Tryz.prog.cellsOf 3)) = some y0 := h0
  rw [show Tryz.prog.cellsOf 3 = 1 by kernel_rfl] at h0; obtain ⟨a0, g0, s0⟩ := (inferInstance : Opn Tryz.prog Int 3).opn h0; obtain ⟨n1, y1, h1⟩ := hf 1 _ rfl
  replace h1 : DataW.trod en Tryz.prog W 0 (fun _ => true) true n1 67 ((cs.drop 1).take (Tryz.prog.cellsOf 67)) = some y1 := h1
  rw [show Tryz.prog.cellsOf 67 = 3 by kernel_rfl] at h1; obtain ⟨a1, g1, s1⟩ := (inferInstance : Opn Tryz.prog L_Value 67).opn h1; refine ⟨⟨a0, a1⟩, ?_, s0, s1⟩; have := TL.step g0 (TL.step g1 (TL.fin hl) rfl) rfl; exact this⟩
instance : Opn Tryz.prog (List L_Column) 22 := Opn.sl Tryz.underlying22 (by kernel_rfl) (by decide)
instance : Szd L_Change := ⟨fun x => szd x.kind ∧ szd x.at_ ∧ szd x.column⟩
instance : Opn Tryz.prog L_Change 72 := ⟨fun {H en W fuel cs x} h => by
  obtain ⟨hl, hf⟩ := opn_fields Tryz.underlying72 h; rw [show Tryz.prog.cellsOf 72 = 6 by kernel_rfl] at hl; obtain ⟨n0, y0, h0⟩ := hf 0 _ rfl
  replace h0 : DataW.trod en Tryz.prog W 0 (fun _ => true) true n0 3 ((cs.drop 0).take (Tryz.prog.cellsOf 3)) = some y0 := h0
  rw [show Tryz.prog.cellsOf 3 = 1 by kernel_rfl] at h0; obtain ⟨a0, g0, s0⟩ := (inferInstance : Opn Tryz.prog Int 3).opn h0; obtain ⟨n1, y1, h1⟩ := hf 1 _ rfl
  replace h1 : DataW.trod en Tryz.prog W 0 (fun _ => true) true n1 3 ((cs.drop 1).take (Tryz.prog.cellsOf 3)) = some y1 := h1
  rw [show Tryz.prog.cellsOf 3 = 1 by kernel_rfl] at h1; obtain ⟨a1, g1, s1⟩ := (inferInstance : Opn Tryz.prog Int 3).opn h1; obtain ⟨n2, y2, h2⟩ := hf 2 _ rfl
  replace h2 : DataW.trod en Tryz.prog W 0 (fun _ => true) true n2 69 ((cs.drop 2).take (Tryz.prog.cellsOf 69)) = some y2 := h2
  rw [show Tryz.prog.cellsOf 69 = 4 by kernel_rfl] at h2; obtain ⟨a2, g2, s2⟩ := (inferInstance : Opn Tryz.prog L_Column 69).opn h2; refine ⟨⟨a0, a1, a2⟩, ?_, s0, s1, s2⟩; have := TL.step g0 (TL.step g1 (TL.step g2 (TL.fin hl) rfl) rfl) rfl; exact this⟩
instance : Opn Tryz.prog (List L_Change) 23 := Opn.sl Tryz.underlying23 (by kernel_rfl) (by decide)
instance : Opn Tryz.prog (List L_Value) 74 := Opn.sl Tryz.underlying74 (by kernel_rfl) (by decide)
instance : Szd L_Tagged := ⟨fun x => szd x.tag ∧ szd x.row⟩
instance : Opn Tryz.prog L_Tagged 76 := ⟨fun {H en W fuel cs x} h => by
  obtain ⟨hl, hf⟩ := opn_fields Tryz.underlying76 h; rw [show Tryz.prog.cellsOf 76 = 2 by kernel_rfl] at hl; obtain ⟨n0, y0, h0⟩ := hf 0 _ rfl
  replace h0 : DataW.trod en Tryz.prog W 0 (fun _ => true) true n0 3 ((cs.drop 0).take (Tryz.prog.cellsOf 3)) = some y0 := h0
  rw [show Tryz.prog.cellsOf 3 = 1 by kernel_rfl] at h0; obtain ⟨a0, g0, s0⟩ := (inferInstance : Opn Tryz.prog Int 3).opn h0; obtain ⟨n1, y1, h1⟩ := hf 1 _ rfl
  replace h1 : DataW.trod en Tryz.prog W 0 (fun _ => true) true n1 74 ((cs.drop 1).take (Tryz.prog.cellsOf 74)) = some y1 := h1
  rw [show Tryz.prog.cellsOf 74 = 1 by kernel_rfl] at h1; obtain ⟨a1, g1, s1⟩ := (inferInstance : Opn Tryz.prog (List L_Value) 74).opn h1; refine ⟨⟨a0, a1⟩, ?_, s0, s1⟩; have := TL.step g0 (TL.step g1 (TL.fin hl) rfl) rfl; exact this⟩
instance : Opn Tryz.prog (List L_Tagged) 24 := Opn.sl Tryz.underlying24 (by kernel_rfl) (by decide)
instance : Szd L_Table := ⟨fun x => szd x.first ∧ szd x.changes ∧ szd x.rows⟩
instance : Opn Tryz.prog L_Table 26 := ⟨fun {H en W fuel cs x} h => by
  obtain ⟨hl, hf⟩ := opn_fields Tryz.underlying26 h; rw [show Tryz.prog.cellsOf 26 = 3 by kernel_rfl] at hl; obtain ⟨n0, y0, h0⟩ := hf 0 _ rfl
  replace h0 : DataW.trod en Tryz.prog W 0 (fun _ => true) true n0 22 ((cs.drop 0).take (Tryz.prog.cellsOf 22)) = some y0 := h0
  rw [show Tryz.prog.cellsOf 22 = 1 by kernel_rfl] at h0; obtain ⟨a0, g0, s0⟩ := (inferInstance : Opn Tryz.prog (List L_Column) 22).opn h0; obtain ⟨n1, y1, h1⟩ := hf 1 _ rfl
  replace h1 : DataW.trod en Tryz.prog W 0 (fun _ => true) true n1 23 ((cs.drop 1).take (Tryz.prog.cellsOf 23)) = some y1 := h1
  rw [show Tryz.prog.cellsOf 23 = 1 by kernel_rfl] at h1; obtain ⟨a1, g1, s1⟩ := (inferInstance : Opn Tryz.prog (List L_Change) 23).opn h1; obtain ⟨n2, y2, h2⟩ := hf 2 _ rfl
  replace h2 : DataW.trod en Tryz.prog W 0 (fun _ => true) true n2 24 ((cs.drop 2).take (Tryz.prog.cellsOf 24)) = some y2 := h2
  rw [show Tryz.prog.cellsOf 24 = 1 by kernel_rfl] at h2; obtain ⟨a2, g2, s2⟩ := (inferInstance : Opn Tryz.prog (List L_Tagged) 24).opn h2; refine ⟨⟨a0, a1, a2⟩, ?_, s0, s1, s2⟩; have := TL.step g0 (TL.step g1 (TL.step g2 (TL.fin hl) rfl) rfl) rfl; exact this⟩
end V
end Go.Proofs.YtikobdnhflcnmaaGreatDoor
namespace Go.Proofs.YtikobdnhflcnmaaGreatDoor
namespace V
set_option linter.unusedVariables false
set_option linter.unusedSimpArgs false
set_option maxHeartbeats 1000000
open Szd (szd)
/-- A budget is used up, element by element. -/
theorem sz_loop {α : Type} {N : Nat} {f : α → Int → Option Int} {P : α → Prop} {a : List α} {left : Int} {body : Int × Int → Option ((Int × Int) ⊕ (Int ⊕ Int))} (hf : ∀ x ∈ a, ∀ l : Int, 0 ≤ l → l ≤ 1048576 → ok (f x l) fun r => r = -1 ∨ (0 ≤ r ∧ r ≤ l ∧ P x)) (h0 : 0 ≤ left) (h1 : left ≤ 1048576) (hN : a.length < N) (hl : a.length ≤ 5000000)
    (hb : ∀ s, body s = cond (decide (s.2 < (a.length : Int))) ((ixI a s.2).bind fun x => (f x s.1).bind fun r => cond (decide (r < (0 : Int))) (some (.inr (.inr (-1 : Int)))) ((chk (s.2 + (1 : Int))).bind fun n => some (.inl (r, n)))) (some (.inr (.inl s.1)))) :
    ok (loopM body N (left, (0 : Int))) fun o => o = .inr (-1) ∨ ∃ r, o = .inl r ∧ 0 ≤ r ∧ r ≤ left ∧ ∀ x ∈ a, P x := by
  refine ok.each a.length (fun i s => s.2 = (i : Int) ∧ 0 ≤ s.1 ∧ s.1 ≤ left ∧ ∀ k (h : k < a.length), k < i → P a[k]) _ ?_ ?_ N 0 _ (Nat.zero_le _) ⟨rfl, h0, Int.le_refl _, fun k h hk => by omega⟩ (by omega)
  · rintro i ⟨s, j⟩ hi ⟨h2, h3, h4, h5⟩
    dsimp only at h2 h3 h4
    subst h2
    rw [hb]
    refine ok.ift (by dsimp only; omega) (ok.eq (ixI_nat hi) (ok.call (hf _ (List.getElem_mem _) s h3 (by omega)) ?_))
    rintro r (rfl | ⟨h6, h7, h8⟩)
    · exact ok.ift (by decide) (ok.some (.inl rfl))
    · refine ok.iff (by omega) (ok.chk (by omega) (ok.some ⟨by simp, h6, by dsimp only; omega, fun k hk hki => ?_⟩))
      rcases Nat.lt_succ_iff_lt_or_eq.1 hki with h | rfl
      · exact h5 k hk h
      · exact h8
  · rintro ⟨s, j⟩ ⟨h2, h3, h4, h5⟩
    dsimp only at h2 h3 h4
    subst h2
    rw [hb]
    refine ok.iff (by dsimp only; omega) (ok.some (.inr ⟨s, rfl, h3, h4, fun x hx => ?_⟩))
    obtain ⟨k, hk, rfl⟩ := List.mem_iff_getElem.1 hx
    exact h5 k hk hk
/-- The same, where each element takes its part of the budget. -/
theorem sz_loopC {α : Type} {N : Nat} {f : α → Int → Option Int} {P : α → Prop} {a : List α} {left : Int} (c : α → Nat) {body : Int × Int → Option ((Int × Int) ⊕ (Int ⊕ Int))} (hf : ∀ x ∈ a, ∀ l : Int, 0 ≤ l → l ≤ 1048576 → ok (f x l) fun r => r = -1 ∨ (0 ≤ r ∧ r ≤ l - (c x : Int) ∧ P x)) (h0 : 0 ≤ left) (h1 : left ≤ 1048576) (hN : a.length < N) (hl : a.length ≤ 5000000)
    (hb : ∀ s, body s = cond (decide (s.2 < (a.length : Int))) ((ixI a s.2).bind fun x => (f x s.1).bind fun r => cond (decide (r < (0 : Int))) (some (.inr (.inr (-1 : Int)))) ((chk (s.2 + (1 : Int))).bind fun n => some (.inl (r, n)))) (some (.inr (.inl s.1)))) :
    ok (loopM body N (left, (0 : Int))) fun o => o = .inr (-1) ∨ ∃ r, o = .inl r ∧ 0 ≤ r ∧ r ≤ left - ((cL c a : Nat) : Int) ∧ ∀ x ∈ a, P x := by
  refine ok.each a.length (fun i s => s.2 = (i : Int) ∧ 0 ≤ s.1 ∧ s.1 ≤ left - ((cL c (a.take i) : Nat) : Int) ∧ ∀ k (h : k < a.length), k < i → P a[k]) _ ?_ ?_ N 0 _ (Nat.zero_le _) ⟨rfl, h0, by simp [cL], fun k h hk => by omega⟩ (by omega)
  · rintro i ⟨s, j⟩ hi ⟨h2, h3, h4, h5⟩
    dsimp only at h2 h3 h4
    subst h2
    rw [hb]
    refine ok.ift (by dsimp only; omega) (ok.eq (ixI_nat hi) (ok.call (hf _ (List.getElem_mem _) s h3 (by omega)) ?_))
    rintro r (rfl | ⟨h6, h7, h8⟩)
    · exact ok.ift (by decide) (ok.some (.inl rfl))
    · refine ok.iff (by omega) (ok.chk (by omega) (ok.some ⟨by simp, h6, by rw [cL_take c hi]; dsimp only; omega, fun k hk hki => ?_⟩))
      rcases Nat.lt_succ_iff_lt_or_eq.1 hki with h | rfl
      · exact h5 k hk h
      · exact h8
  · rintro ⟨s, j⟩ ⟨h2, h3, h4, h5⟩
    dsimp only at h2 h3 h4
    rw [List.take_length] at h4
    subst h2
    rw [hb]
    refine ok.iff (by dsimp only; omega) (ok.some (.inr ⟨s, rfl, h3, h4, fun x hx => ?_⟩))
    obtain ⟨k, hk, rfl⟩ := List.mem_iff_getElem.1 hx
    exact h5 k hk hk
theorem mul_bd {a b c d : Nat} (h : a ≤ c) (h' : b ≤ d) : ((a * b : Nat) : Int) ≤ ((c * d : Nat) : Int) := Int.ofNat_le.2 (Nat.mul_le_mul h h')
theorem mkM_eq {β : Type} {w n : Nat} (z : β) (hw : w ≤ 1000) (hn : n ≤ 4000000) : mkM w z (n : Int) = some (List.replicate n z) := by
  have h1 := mul_bd hw hn
  have h2 : ((1000 * 4000000 : Nat) : Int) = 4000000000 := rfl
  have h3 : ((w * n : Nat) : Int) = (w : Int) * (n : Int) := Int.natCast_mul _ _
  unfold mkM
  rw [if_pos ⟨by omega, by rw [← h3]; omega, by omega⟩]; simp
/-- A list is copied, element by element. -/
theorem to_list {α β : Type} {N w : Nat} (g : α → β) {f : α → Option β} (z : β) {a : List α} (ha : a.length ≤ 4000000) (hw : w ≤ 1000) (hN : a.length < N) (hf : ∀ x ∈ a, f x = some (g x)) {body : Int × List β → Option ((Int × List β) ⊕ List β)}
    (hb : ∀ s, body s = cond (decide (s.1 < (a.length : Int))) ((ixI a s.1).bind fun x => (f x).bind fun r => (ixI s.2 s.1).bind fun _ => (chk (s.1 + (1 : Int))).bind fun n => some (.inl (n, s.2.set s.1.toNat r))) (some (.inr s.2))) :
    ((mkM w z (a.length : Int)).bind fun xs => loopM body N ((0 : Int), xs)) = some (a.map g) := by
  have hm : mkM w z (a.length : Int) = some (List.replicate a.length z) := by
    exact mkM_eq z hw ha
  rw [hm]
  show loopM body N ((0 : Int), _) = _
  refine to_loop a g (List.replicate a.length z) (by simp) hN ?_ ?_
  · intro i hi v hv
    have e1 : body ((i : Int), v) = _ := hb ((i : Int), v)
    rw [e1]
    refine ok.val ?_
    refine ok.ift (by dsimp only; omega) (ok.eq (ixI_nat hi) (ok.eq (hf _ (List.getElem_mem _)) (ok.eq (ixI_nat (show i < v.length by omega)) (ok.chk (by dsimp only; omega) (ok.some ?_)))))
    dsimp only
    rw [Int.toNat_natCast]
  · intro v
    rw [hb, decide_eq_false (by show ¬ (a.length : Int) < _; omega)]; rfl
def tVal (x : L_Value) : I_Value := ⟨x.kind, x.num, x.text⟩
def tCol (x : L_Column) : I_Column := ⟨x.kind, tVal x.default⟩
def tChg (x : L_Change) : I_Change := ⟨x.kind, x.at_, tCol x.column⟩
def tTag (x : L_Tagged) : I_Tagged := ⟨x.tag, x.row.map tVal⟩
def tTab (x : L_Table) : I_Table := ⟨x.first.map tCol, x.changes.map tChg, x.rows.map tTag⟩
/-- A table as the law takes it is not too large. -/
structure bL (t : L_Table) : Prop where
  f : t.first.length ≤ 1048576 ∧ ∀ c ∈ t.first, c.default.text.size ≤ 1048576
  c : t.changes.length ≤ 1048576 ∧ ∀ c ∈ t.changes, c.column.default.text.size ≤ 1048576
  r : t.rows.length ≤ 1048576 ∧ ∀ r ∈ t.rows, r.row.length ≤ 1048576 ∧ ∀ v ∈ r.row, v.text.size ≤ 1048576
  s : cL (fun r : L_Tagged => r.row.length) t.rows ≤ 1048576
theorem bL.bT {t : L_Table} (h : bL t) : bT (tTab t) := by
  refine ⟨⟨by show (t.first.map tCol).length ≤ _; rw [List.length_map]; have := h.f.1; omega, fun c hc => ?_⟩, ⟨by show (t.changes.map tChg).length ≤ _; rw [List.length_map]; have := h.c.1; omega, fun c hc => ?_⟩, by show (t.rows.map tTag).length ≤ _; rw [List.length_map]; have := h.r.1; omega, fun i hi => ?_⟩
  · obtain ⟨x, hx, rfl⟩ := List.mem_map.1 hc
    have := h.f.2 x hx
    show x.default.text.size ≤ _; omega
  · obtain ⟨x, hx, rfl⟩ := List.mem_map.1 hc
    have := h.c.2 x hx
    show x.column.default.text.size ≤ _; omega
  · have hm : (tTab t).rows[i] ∈ t.rows.map tTag := List.getElem_mem _
    obtain ⟨x, hx, e⟩ := List.mem_map.1 hm
    rw [← e]
    have := h.r.2 x hx
    refine ⟨by show (x.row.map tVal).length ≤ _; rw [List.length_map]; omega, fun v hv => ?_⟩
    obtain ⟨y, hy, rfl⟩ := List.mem_map.1 hv
    have := this.2 y hy
    show y.text.size ≤ _; omega
section
variable {N : Nat} (hN : 100000000 ≤ N)
include hN
omit hN in
theorem szVal {x : L_Value} (hs : szd x) {l : Int} (h0 : 0 ≤ l) (h1 : l ≤ 1048576) : ok (m_L_szValue N x l) fun r => r = -1 ∨ (0 ≤ r ∧ r ≤ l ∧ x.text.size ≤ 1048576) := by
  have hs' : x.text.size ≤ 9223372036854775807 := hs.2.2
  unfold m_L_szValue
  exact ok.chk (by omega) (ok.ite (fun h => ok.some (.inl rfl)) fun h => ok.some (.inr ⟨by omega, by omega, by omega⟩))
omit hN in
theorem szCol {x : L_Column} (hs : szd x) {l : Int} (h0 : 0 ≤ l) (h1 : l ≤ 1048576) : ok (m_L_szColumn N x l) fun r => r = -1 ∨ (0 ≤ r ∧ r ≤ l ∧ x.default.text.size ≤ 1048576) := by
  unfold m_L_szColumn
  refine ok.call (szVal hs.2 h0 h1) ?_
  rintro r (rfl | h)
  · exact ok.ift (by decide) (ok.some (.inl rfl))
  · exact ok.iff (by omega) (ok.some (.inr h))
omit hN in
theorem szChg {x : L_Change} (hs : szd x) {l : Int} (h0 : 0 ≤ l) (h1 : l ≤ 1048576) : ok (m_L_szChange N x l) fun r => r = -1 ∨ (0 ≤ r ∧ r ≤ l ∧ x.column.default.text.size ≤ 1048576) := by
  unfold m_L_szChange
  refine ok.call (szCol hs.2.2 h0 h1) ?_
  rintro r (rfl | h)
  · exact ok.ift (by decide) (ok.some (.inl rfl))
  · exact ok.iff (by omega) (ok.some (.inr h))
theorem szCols {a : List L_Column} (hs : szd a) {l : Int} (h0 : 0 ≤ l) (h1 : l ≤ 1048576) : ok (m_L_szColumnS N a l) fun r => r = -1 ∨ (0 ≤ r ∧ r ≤ l ∧ a.length ≤ 1048576 ∧ ∀ x ∈ a, x.default.text.size ≤ 1048576) := by
  have hl : a.length ≤ 9223372036854775807 := hs.1
  unfold m_L_szColumnS
  refine ok.chk (by omega) (ok.ite (fun h => ok.some (.inl rfl)) fun h => ?_)
  refine ok.call (sz_loop (f := m_L_szColumn N) (P := fun x => x.default.text.size ≤ 1048576) (fun x hx l h0 h1 => szCol (hs.2 x hx) h0 h1) (by omega) (by omega) (by omega) (by omega) (fun s => rfl)) ?_
  rintro o (rfl | ⟨r, rfl, h2, h3, h4⟩)
  · exact ok.some (.inl rfl)
  · exact ok.some (.inr ⟨h2, by omega, by omega, h4⟩)
theorem szChgs {a : List L_Change} (hs : szd a) {l : Int} (h0 : 0 ≤ l) (h1 : l ≤ 1048576) : ok (m_L_szChangeS N a l) fun r => r = -1 ∨ (0 ≤ r ∧ r ≤ l ∧ a.length ≤ 1048576 ∧ ∀ x ∈ a, x.column.default.text.size ≤ 1048576) := by
  have hl : a.length ≤ 9223372036854775807 := hs.1
  unfold m_L_szChangeS
  refine ok.chk (by omega) (ok.ite (fun h => ok.some (.inl rfl)) fun h => ?_)
  refine ok.call (sz_loop (f := m_L_szChange N) (P := fun x => x.column.default.text.size ≤ 1048576) (fun x hx l h0 h1 => szChg (hs.2 x hx) h0 h1) (by omega) (by omega) (by omega) (by omega) (fun s => rfl)) ?_
  rintro o (rfl | ⟨r, rfl, h2, h3, h4⟩)
  · exact ok.some (.inl rfl)
  · exact ok.some (.inr ⟨h2, by omega, by omega, h4⟩)
theorem szVals {a : List L_Value} (hs : szd a) {l : Int} (h0 : 0 ≤ l) (h1 : l ≤ 1048576) : ok (m_L_szValueS N a l) fun r => r = -1 ∨ (0 ≤ r ∧ r ≤ l - (a.length : Int) ∧ a.length ≤ 1048576 ∧ ∀ x ∈ a, x.text.size ≤ 1048576) := by
  have hl : a.length ≤ 9223372036854775807 := hs.1
  unfold m_L_szValueS
  refine ok.chk (by omega) (ok.ite (fun h => ok.some (.inl rfl)) fun h => ?_)
  refine ok.call (sz_loop (f := m_L_szValue N) (P := fun x => x.text.size ≤ 1048576) (fun x hx l h0 h1 => szVal (hs.2 x hx) h0 h1) (by omega) (by omega) (by omega) (by omega) (fun s => rfl)) ?_
  rintro o (rfl | ⟨r, rfl, h2, h3, h4⟩)
  · exact ok.some (.inl rfl)
  · exact ok.some (.inr ⟨h2, by omega, by omega, h4⟩)
theorem szTag {x : L_Tagged} (hs : szd x) {l : Int} (h0 : 0 ≤ l) (h1 : l ≤ 1048576) : ok (m_L_szTagged N x l) fun r => r = -1 ∨ (0 ≤ r ∧ r ≤ l - (x.row.length : Int) ∧ x.row.length ≤ 1048576 ∧ ∀ v ∈ x.row, v.text.size ≤ 1048576) := by
  unfold m_L_szTagged
  refine ok.call (szVals hN hs.2 h0 h1) ?_
  rintro r (rfl | h)
  · exact ok.ift (by decide) (ok.some (.inl rfl))
  · exact ok.iff (by omega) (ok.some (.inr h))
theorem szTags {a : List L_Tagged} (hs : szd a) {l : Int} (h0 : 0 ≤ l) (h1 : l ≤ 1048576) : ok (m_L_szTaggedS N a l) fun r => r = -1 ∨ (0 ≤ r ∧ r ≤ l ∧ cL (fun x : L_Tagged => x.row.length) a ≤ 1048576 ∧ a.length ≤ 1048576 ∧ ∀ x ∈ a, x.row.length ≤ 1048576 ∧ ∀ v ∈ x.row, v.text.size ≤ 1048576) := by
  have hl : a.length ≤ 9223372036854775807 := hs.1
  unfold m_L_szTaggedS
  refine ok.chk (by omega) (ok.ite (fun h => ok.some (.inl rfl)) fun h => ?_)
  refine ok.call (sz_loopC (fun x : L_Tagged => x.row.length) (f := m_L_szTagged N) (P := fun x => x.row.length ≤ 1048576 ∧ ∀ v ∈ x.row, v.text.size ≤ 1048576) (fun x hx l h0 h1 => szTag hN (hs.2 x hx) h0 h1) (by omega) (by omega) (by omega) (by omega) (fun s => rfl)) ?_
  rintro o (rfl | ⟨r, rfl, h2, h3, h4⟩)
  · exact ok.some (.inl rfl)
  · exact ok.some (.inr ⟨h2, by omega, by omega, by omega, h4⟩)
theorem szTab {t : L_Table} (hs : szd t) {l : Int} (h0 : 0 ≤ l) (h1 : l ≤ 1048576) : ok (m_L_szTable N t l) fun r => r = -1 ∨ (0 ≤ r ∧ r ≤ l ∧ bL t) := by
  unfold m_L_szTable
  refine ok.call (szCols hN hs.1 h0 h1) ?_
  rintro r (rfl | ⟨h2, h3, h4⟩)
  · exact ok.ift (by decide) (ok.some (.inl rfl))
  refine ok.iff (by omega) (ok.call (szChgs hN hs.2.1 h2 (by omega)) ?_)
  rintro r (rfl | ⟨h5, h6, h7⟩)
  · exact ok.ift (by decide) (ok.some (.inl rfl))
  refine ok.iff (by omega) (ok.call (szTags hN hs.2.2 h5 (by omega)) ?_)
  rintro r (rfl | ⟨h8, h9, h10⟩)
  · exact ok.ift (by decide) (ok.some (.inl rfl))
  · exact ok.iff (by omega) (ok.some (.inr ⟨h8, by omega, ⟨h4, h7, h10.2, h10.1⟩⟩))
omit hN in
theorem tVal_eq (x : L_Value) : m_L_toValue N x = some (tVal x) := rfl
omit hN in
theorem tCol_eq (x : L_Column) : m_L_toColumn N x = some (tCol x) := rfl
omit hN in
theorem tChg_eq (x : L_Change) : m_L_toChange N x = some (tChg x) := rfl
theorem tCols_eq {a : List L_Column} (ha : a.length ≤ 1048576) : m_L_toColumnS N a = some (a.map tCol) := by
  have h := to_list (N := N) (w := 40) tCol (f := m_L_toColumn N) (I_Column.mk (0 : Int) (I_Value.mk (0 : Int) (0 : Int) ByteArray.empty)) (a := a) (by omega) (by omega) (by omega) (fun x _ => tCol_eq x) (body := fun s : Int × (List I_Column) => m_L_toColumnS_b1 N a s.1 s.2) (fun s => rfl)
  unfold m_L_toColumnS
  obtain ⟨xs, e1, e2⟩ := bind_some h
  rw [e1]
  show (loopM _ N _).bind _ = _
  rw [e2]; rfl
theorem tChgs_eq {a : List L_Change} (ha : a.length ≤ 1048576) : m_L_toChangeS N a = some (a.map tChg) := by
  have h := to_list (N := N) (w := 56) tChg (f := m_L_toChange N) (I_Change.mk (0 : Int) (0 : Int) (I_Column.mk (0 : Int) (I_Value.mk (0 : Int) (0 : Int) ByteArray.empty))) (a := a) (by omega) (by omega) (by omega) (fun x _ => tChg_eq x) (body := fun s : Int × (List I_Change) => m_L_toChangeS_b1 N a s.1 s.2) (fun s => rfl)
  unfold m_L_toChangeS
  obtain ⟨xs, e1, e2⟩ := bind_some h
  rw [e1]
  show (loopM _ N _).bind _ = _
  rw [e2]; rfl
theorem tVals_eq {a : List L_Value} (ha : a.length ≤ 1048576) : m_L_toValueS N a = some (a.map tVal) := by
  have h := to_list (N := N) (w := 32) tVal (f := m_L_toValue N) (I_Value.mk (0 : Int) (0 : Int) ByteArray.empty) (a := a) (by omega) (by omega) (by omega) (fun x _ => tVal_eq x) (body := fun s : Int × (List I_Value) => m_L_toValueS_b1 N a s.1 s.2) (fun s => rfl)
  unfold m_L_toValueS
  obtain ⟨xs, e1, e2⟩ := bind_some h
  rw [e1]
  show (loopM _ N _).bind _ = _
  rw [e2]; rfl
theorem tTag_eq {x : L_Tagged} (h : x.row.length ≤ 1048576) : m_L_toTagged N x = some (tTag x) := by
  unfold m_L_toTagged
  rw [tVals_eq hN h]; rfl
theorem tTags_eq {a : List L_Tagged} (ha : a.length ≤ 1048576) (hr : ∀ x ∈ a, x.row.length ≤ 1048576) : m_L_toTaggedS N a = some (a.map tTag) := by
  have h := to_list (N := N) (w := 32) tTag (f := m_L_toTagged N) (I_Tagged.mk (0 : Int) ([] : List I_Value)) (a := a) (by omega) (by omega) (by omega) (fun x hx => tTag_eq hN (hr x hx)) (body := fun s : Int × (List I_Tagged) => m_L_toTaggedS_b1 N a s.1 s.2) (fun s => rfl)
  unfold m_L_toTaggedS
  obtain ⟨xs, e1, e2⟩ := bind_some h
  rw [e1]
  show (loopM _ N _).bind _ = _
  rw [e2]; rfl
theorem tTab_eq {t : L_Table} (h : bL t) : m_L_toTable N t = some (tTab t) := by
  unfold m_L_toTable
  rw [tCols_eq hN h.f.1]
  show (m_L_toChangeS N t.changes).bind _ = _
  rw [tChgs_eq hN h.c.1]
  show (m_L_toTaggedS N t.rows).bind _ = _
  rw [tTags_eq hN h.r.1 fun x hx => (h.r.2 x hx).1]; rfl
omit hN in
theorem xVal (a : I_Value) : m_L_eqValue N a a = some true := by unfold m_L_eqValue; simp
omit hN in
theorem xCol (a : I_Column) : m_L_eqColumn N a a = some true := by
  unfold m_L_eqColumn
  exact ok.val (ok.ift rfl (ok.eq (xVal _) (ok.some rfl)))
omit hN in
theorem xChg (a : I_Change) : m_L_eqChange N a a = some true := by
  unfold m_L_eqChange
  exact ok.val (ok.ift rfl (ok.ift rfl (ok.eq (xCol _) (ok.some rfl))))
theorem xCols {r : List I_Column} (hl : r.length ≤ 5000000) : m_L_eqColumnS N r r = some true := by
  refine ok.val ?_
  unfold m_L_eqColumnS
  refine ok.ift rfl (ok.eq (loop_self (n := r.length) (by omega) (fun i hi => ?_) ?_) (ok.some rfl))
  · show m_L_eqColumnS_b1 N r r (i : Int) = _
    unfold m_L_eqColumnS_b1
    exact ok.val (ok.ift (by omega) (ok.eq (ixI_nat hi) (ok.eq (ixI_nat hi) (ok.eq (xCol _) (ok.bt rfl (ok.chk (by omega) (ok.some rfl)))))))
  · show m_L_eqColumnS_b1 N r r _ = _
    unfold m_L_eqColumnS_b1
    rw [decide_eq_false (by omega)]; rfl
theorem xChgs {r : List I_Change} (hl : r.length ≤ 5000000) : m_L_eqChangeS N r r = some true := by
  refine ok.val ?_
  unfold m_L_eqChangeS
  refine ok.ift rfl (ok.eq (loop_self (n := r.length) (by omega) (fun i hi => ?_) ?_) (ok.some rfl))
  · show m_L_eqChangeS_b1 N r r (i : Int) = _
    unfold m_L_eqChangeS_b1
    exact ok.val (ok.ift (by omega) (ok.eq (ixI_nat hi) (ok.eq (ixI_nat hi) (ok.eq (xChg _) (ok.bt rfl (ok.chk (by omega) (ok.some rfl)))))))
  · show m_L_eqChangeS_b1 N r r _ = _
    unfold m_L_eqChangeS_b1
    rw [decide_eq_false (by omega)]; rfl
theorem xVals {r : List I_Value} (hl : r.length ≤ 5000000) : m_L_eqValueS N r r = some true := by
  refine ok.val ?_
  unfold m_L_eqValueS
  refine ok.ift rfl (ok.eq (loop_self (n := r.length) (by omega) (fun i hi => ?_) ?_) (ok.some rfl))
  · show m_L_eqValueS_b1 N r r (i : Int) = _
    unfold m_L_eqValueS_b1
    exact ok.val (ok.ift (by omega) (ok.eq (ixI_nat hi) (ok.eq (ixI_nat hi) (ok.eq (xVal _) (ok.bt rfl (ok.chk (by omega) (ok.some rfl)))))))
  · show m_L_eqValueS_b1 N r r _ = _
    unfold m_L_eqValueS_b1
    rw [decide_eq_false (by omega)]; rfl
theorem xTags {r : List I_Tagged} (hl : r.length ≤ 5000000) (h : ∀ i (h : i < r.length), bR r[i].row) : m_L_eqTaggedS N r r = some true := by
  refine ok.val ?_
  unfold m_L_eqTaggedS
  refine ok.ift rfl (ok.eq (loop_self (n := r.length) (by omega) (fun i hi => ?_) ?_) (ok.some rfl))
  · show m_L_eqTaggedS_b1 N r r (i : Int) = _
    unfold m_L_eqTaggedS_b1
    have e : m_L_eqTagged N r[i] r[i] = some true := by
      unfold m_L_eqTagged
      exact ok.val (ok.ift rfl (ok.eq (xVals hN (h i hi).1) (ok.some rfl)))
    exact ok.val (ok.ift (by omega) (ok.eq (ixI_nat hi) (ok.eq (ixI_nat hi) (ok.eq e (ok.bt rfl (ok.chk (by omega) (ok.some rfl)))))))
  · show m_L_eqTaggedS_b1 N r r _ = _
    unfold m_L_eqTaggedS_b1
    rw [decide_eq_false (by omega)]; rfl
theorem xTab {t : I_Table} (hb : bT t) : m_L_eqTable N t t = some true := by
  unfold m_L_eqTable
  exact ok.val (ok.eq (xCols hN hb.f.1) (ok.bt rfl (ok.eq (xChgs hN hb.c.1) (ok.bt rfl (ok.eq (xTags hN hb.rl hb.r) (ok.some rfl))))))
end
end V
end Go.Proofs.YtikobdnhflcnmaaGreatDoor
namespace Go.Proofs.YtikobdnhflcnmaaGreatDoor
namespace V
set_option linter.unusedVariables false
set_option linter.unusedSimpArgs false
noncomputable def mT (N : Nat) (k : Int) : ByteArray := (m_L_markText N k).getD ByteArray.empty
theorem b2s_one (c : UInt8) : (b2s [c]).size = 1 := rfl
theorem mT_eq {N : Nat} {k : Int} (hN : 100000000 ≤ N) (h0 : 0 ≤ k) (hk : k ≤ 50000000) : m_L_markText N k = some (mT N k) := by
  have h : ok (m_L_markText N k) fun _ => True := by
    unfold m_L_markText
    refine ok.ite (fun _ => ok.some trivial) fun hc => ?_
    refine ok.call (ok.loop (fun s => 0 ≤ s.1 ∧ s.1 ≤ k ∧ (s.2.size : Int) ≤ k - s.1) (fun s => s.1.toNat) (fun e => (e.size : Int) ≤ k) ?_ N _ ⟨by dsimp only; omega, by dsimp only; omega, by dsimp only; show (0 : Int) ≤ _; omega⟩ (by dsimp only; omega)) ?_
    · rintro ⟨j, s⟩ ⟨h1, h2, h3⟩
      dsimp only at h1 h2 h3 ⊢
      unfold m_L_markText_b1
      refine ok.ite (fun hc => ?_) fun hc => ok.some (by dsimp only; omega)
      refine ok.remM (by omega) fun x hx => ok.chk (by omega) ?_
      have hs : (b2s [i2b (48 + x)]).size + s.size ≤ 9223372036854775807 := by rw [b2s_one]; omega
      refine ok.eq (addS_eq hs) (ok.quoM (by omega) fun y hy => ok.some ?_)
      have hsz : ((b2s [i2b (48 + x)] ++ s).size : Int) = 1 + s.size := by rw [ByteArray.size_append, b2s_one]; omega
      have hlt : y < j := by rw [hy.1]; omega
      exact ⟨⟨by dsimp only; omega, by dsimp only; omega, by dsimp only; rw [hsz]; omega⟩, by dsimp only; omega⟩
    · intro e he
      unfold m_L_markText_k1
      have hs : (ByteArray.mk #[109]).size + e.size ≤ 9223372036854775807 := by
        have : (ByteArray.mk #[109]).size = 1 := rfl
        omega
      exact ok.eq (addS_eq hs) (ok.some trivial)
  obtain ⟨r, e, _⟩ := h
  unfold mT; rw [e]; rfl
end V
end Go.Proofs.YtikobdnhflcnmaaGreatDoor
namespace Go.Proofs.YtikobdnhflcnmaaGreatDoor
namespace V
set_option linter.unusedVariables false
set_option linter.unusedSimpArgs false
set_option maxRecDepth 100000
set_option maxHeartbeats 1000000
noncomputable def mkVal (N : Nat) (x : I_Value) (k : Int) : I_Value := ⟨k, k + 1, mT N (k + 1 + 1)⟩
noncomputable def mkCol (N : Nat) (x : I_Column) (k : Int) : I_Column := ⟨k, ⟨k + 1, k + 1 + 1, mT N (k + 1 + 1 + 1)⟩⟩
noncomputable def mkChg (N : Nat) (x : I_Change) (k : Int) : I_Change := ⟨k, k + 1, ⟨k + 1 + 1, ⟨k + 1 + 1 + 1, k + 1 + 1 + 1 + 1, mT N (k + 1 + 1 + 1 + 1 + 1)⟩⟩⟩
noncomputable def mkTag (N : Nat) (x : I_Tagged) (k : Int) : I_Tagged := ⟨k, mkL (mkVal N) (fun _ => 3) x.row (k + 1)⟩
def cTag (x : I_Tagged) : Nat := 1 + 3 * x.row.length
noncomputable def mkRow (N : Nat) (x : List I_Value) (k : Int) : List I_Value := mkL (mkVal N) (fun _ => 3) x k
def cRow (x : List I_Value) : Nat := 3 * x.length
section
variable {N : Nat} (hN : 100000000 ≤ N)
include hN
theorem markVal {a : List I_Value} (ha : a.length ≤ 4000000) {k0 : Int} (h0 : 1 ≤ k0 ∧ k0 ≤ 24000000) : m_L_markValueS N a k0 = some (k0 + ((3 * a.length : Nat) : Int), mkL (mkVal N) (fun _ => 3) a k0) := by
  unfold m_L_markValueS
  have hc : ∀ xs : List I_Value, cL (fun _ => 3) xs = 3 * xs.length := cL_const _ (fun _ => rfl)
  rw [mark_loop (mkVal N) (fun _ => 3) a k0 (by omega)]
  · rw [hc]; rfl
  · intro i hi v hv hx
    obtain ⟨hi', hx⟩ := List.getElem?_eq_some_iff.1 hx
    have hb : cL (fun _ => 3) (a.take i) = 3 * i := by rw [hc, List.length_take]; omega
    simp only [hb]
    have hx' : ixI v (i : Int) = some a[i] := by rw [ixI_nat hi', hx]
    show m_L_markValueS_b1 N (k0 + ((3 * i : Nat) : Int)) i v = _
    refine ok.val ?_
    unfold m_L_markValueS_b1
    repeat' (first | (with_reducible refine ok.some ?_) | (with_reducible refine ok.ift (by omega) ?_) | (with_reducible refine ok.eq hx' ?_) | (with_reducible refine ok.eq (mT_eq hN (by omega) (by omega)) ?_) | (with_reducible refine ok.ite (fun hc => ?_) (fun hc => ?_)) | (with_reducible refine ok.cond (fun hc => ?_) (fun hc => ?_)) | (with_reducible refine ok.chk (by omega) ?_) | (with_reducible refine ok.bs ?_) | (with_reducible refine ok.remM (by omega) (fun _ hq => ?_)) | (with_reducible refine ok.quoM (by omega) (fun _ hq => ?_)) | (with_reducible refine ok.ix (by omega) (by omega) (fun q hq he => ?_)))
    simp only [List.set_set, mkVal, Int.toNat_natCast, Int.add_assoc]
    rfl
  · intro k v hv
    unfold m_L_markValueS_b1
    rw [decide_eq_false (by show ¬ (a.length : Int) < (v.length : Int); omega)]; rfl
theorem heldVal {a : List I_Value} (ha : a.length ≤ 4000000) {k0 : Int} (h0 : 1 ≤ k0 ∧ k0 ≤ 24000000) : m_L_heldValueS N (mkL (mkVal N) (fun _ => 3) a k0) k0 = some (k0 + ((3 * a.length : Nat) : Int)) := by
  unfold m_L_heldValueS
  have hc : ∀ xs : List I_Value, cL (fun _ => 3) xs = 3 * xs.length := cL_const _ (fun _ => rfl)
  rw [held_loop (mkVal N) (fun _ => 3) a k0 (by omega)]
  · rw [hc]; rfl
  · intro i hi hx
    obtain ⟨hi', hx⟩ := List.getElem?_eq_some_iff.1 hx
    have hb : cL (fun _ => 3) (a.take i) = 3 * i := by rw [hc, List.length_take]; omega
    rw [hb] at hx
    simp only [hb]
    have hx' : ixI (mkL (mkVal N) (fun _ => 3) a k0) (i : Int) = some (mkVal N a[i] (k0 + ((3 * i : Nat) : Int))) := by rw [ixI_nat hi', hx]
    have hl := mkL_len (mkVal N) (fun _ => 3) a k0
    show m_L_heldValueS_b1 N (mkL (mkVal N) (fun _ => 3) a k0) (k0 + ((3 * i : Nat) : Int)) i = _
    refine ok.val ?_
    unfold m_L_heldValueS_b1
    simp only [mkVal] at hx'
    repeat' (first | (with_reducible refine ok.some ?_) | (with_reducible refine ok.ift rfl ?_) | (with_reducible refine ok.ift (by omega) ?_) | (with_reducible refine ok.eq hx' ?_) | (with_reducible refine ok.eq (mT_eq hN (by omega) (by omega)) ?_) | (with_reducible refine ok.bt (beq_self_eq_true _) ?_) | (with_reducible refine ok.ite (fun hc => ?_) (fun hc => ?_)) | (with_reducible refine ok.cond (fun hc => ?_) (fun hc => ?_)) | (with_reducible refine ok.chk (by omega) ?_) | (with_reducible refine ok.bs ?_) | (with_reducible refine ok.remM (by omega) (fun _ hq => ?_)) | (with_reducible refine ok.quoM (by omega) (fun _ hq => ?_)) | (with_reducible refine ok.ix (by omega) (by omega) (fun q hq he => ?_)))
    simp only [Int.add_assoc]; rfl
  · intro k
    unfold m_L_heldValueS_b1
    have hl := mkL_len (mkVal N) (fun _ => 3) a k0
    rw [decide_eq_false (by show ¬ (a.length : Int) < _; omega)]; rfl
theorem markCol {a : List I_Column} (ha : a.length ≤ 4000000) {k0 : Int} (h0 : 1 ≤ k0 ∧ k0 ≤ 24000000) : m_L_markColumnS N a k0 = some (k0 + ((4 * a.length : Nat) : Int), mkL (mkCol N) (fun _ => 4) a k0) := by
  unfold m_L_markColumnS
  have hc : ∀ xs : List I_Column, cL (fun _ => 4) xs = 4 * xs.length := cL_const _ (fun _ => rfl)
  rw [mark_loop (mkCol N) (fun _ => 4) a k0 (by omega)]
  · rw [hc]; rfl
  · intro i hi v hv hx
    obtain ⟨hi', hx⟩ := List.getElem?_eq_some_iff.1 hx
    have hb : cL (fun _ => 4) (a.take i) = 4 * i := by rw [hc, List.length_take]; omega
    simp only [hb]
    have hx' : ixI v (i : Int) = some a[i] := by rw [ixI_nat hi', hx]
    show m_L_markColumnS_b1 N (k0 + ((4 * i : Nat) : Int)) i v = _
    refine ok.val ?_
    unfold m_L_markColumnS_b1
    repeat' (first | (with_reducible refine ok.some ?_) | (with_reducible refine ok.ift (by omega) ?_) | (with_reducible refine ok.eq hx' ?_) | (with_reducible refine ok.eq (mT_eq hN (by omega) (by omega)) ?_) | (with_reducible refine ok.ite (fun hc => ?_) (fun hc => ?_)) | (with_reducible refine ok.cond (fun hc => ?_) (fun hc => ?_)) | (with_reducible refine ok.chk (by omega) ?_) | (with_reducible refine ok.bs ?_) | (with_reducible refine ok.remM (by omega) (fun _ hq => ?_)) | (with_reducible refine ok.quoM (by omega) (fun _ hq => ?_)) | (with_reducible refine ok.ix (by omega) (by omega) (fun q hq he => ?_)))
    simp only [List.set_set, mkCol, Int.toNat_natCast, Int.add_assoc]
    rfl
  · intro k v hv
    unfold m_L_markColumnS_b1
    rw [decide_eq_false (by show ¬ (a.length : Int) < (v.length : Int); omega)]; rfl
theorem heldCol {a : List I_Column} (ha : a.length ≤ 4000000) {k0 : Int} (h0 : 1 ≤ k0 ∧ k0 ≤ 24000000) : m_L_heldColumnS N (mkL (mkCol N) (fun _ => 4) a k0) k0 = some (k0 + ((4 * a.length : Nat) : Int)) := by
  unfold m_L_heldColumnS
  have hc : ∀ xs : List I_Column, cL (fun _ => 4) xs = 4 * xs.length := cL_const _ (fun _ => rfl)
  rw [held_loop (mkCol N) (fun _ => 4) a k0 (by omega)]
  · rw [hc]; rfl
  · intro i hi hx
    obtain ⟨hi', hx⟩ := List.getElem?_eq_some_iff.1 hx
    have hb : cL (fun _ => 4) (a.take i) = 4 * i := by rw [hc, List.length_take]; omega
    rw [hb] at hx
    simp only [hb]
    have hx' : ixI (mkL (mkCol N) (fun _ => 4) a k0) (i : Int) = some (mkCol N a[i] (k0 + ((4 * i : Nat) : Int))) := by rw [ixI_nat hi', hx]
    have hl := mkL_len (mkCol N) (fun _ => 4) a k0
    show m_L_heldColumnS_b1 N (mkL (mkCol N) (fun _ => 4) a k0) (k0 + ((4 * i : Nat) : Int)) i = _
    refine ok.val ?_
    unfold m_L_heldColumnS_b1
    simp only [mkCol] at hx'
    repeat' (first | (with_reducible refine ok.some ?_) | (with_reducible refine ok.ift rfl ?_) | (with_reducible refine ok.ift (by omega) ?_) | (with_reducible refine ok.eq hx' ?_) | (with_reducible refine ok.eq (mT_eq hN (by omega) (by omega)) ?_) | (with_reducible refine ok.bt (beq_self_eq_true _) ?_) | (with_reducible refine ok.ite (fun hc => ?_) (fun hc => ?_)) | (with_reducible refine ok.cond (fun hc => ?_) (fun hc => ?_)) | (with_reducible refine ok.chk (by omega) ?_) | (with_reducible refine ok.bs ?_) | (with_reducible refine ok.remM (by omega) (fun _ hq => ?_)) | (with_reducible refine ok.quoM (by omega) (fun _ hq => ?_)) | (with_reducible refine ok.ix (by omega) (by omega) (fun q hq he => ?_)))
    simp only [Int.add_assoc]; rfl
  · intro k
    unfold m_L_heldColumnS_b1
    have hl := mkL_len (mkCol N) (fun _ => 4) a k0
    rw [decide_eq_false (by show ¬ (a.length : Int) < _; omega)]; rfl
theorem markChg {a : List I_Change} (ha : a.length ≤ 4000000) {k0 : Int} (h0 : 1 ≤ k0 ∧ k0 ≤ 24000000) : m_L_markChangeS N a k0 = some (k0 + ((6 * a.length : Nat) : Int), mkL (mkChg N) (fun _ => 6) a k0) := by
  unfold m_L_markChangeS
  have hc : ∀ xs : List I_Change, cL (fun _ => 6) xs = 6 * xs.length := cL_const _ (fun _ => rfl)
  rw [mark_loop (mkChg N) (fun _ => 6) a k0 (by omega)]
  · rw [hc]; rfl
  · intro i hi v hv hx
    obtain ⟨hi', hx⟩ := List.getElem?_eq_some_iff.1 hx
    have hb : cL (fun _ => 6) (a.take i) = 6 * i := by rw [hc, List.length_take]; omega
    simp only [hb]
    have hx' : ixI v (i : Int) = some a[i] := by rw [ixI_nat hi', hx]
    show m_L_markChangeS_b1 N (k0 + ((6 * i : Nat) : Int)) i v = _
    refine ok.val ?_
    unfold m_L_markChangeS_b1
    repeat' (first | (with_reducible refine ok.some ?_) | (with_reducible refine ok.ift (by omega) ?_) | (with_reducible refine ok.eq hx' ?_) | (with_reducible refine ok.eq (mT_eq hN (by omega) (by omega)) ?_) | (with_reducible refine ok.ite (fun hc => ?_) (fun hc => ?_)) | (with_reducible refine ok.cond (fun hc => ?_) (fun hc => ?_)) | (with_reducible refine ok.chk (by omega) ?_) | (with_reducible refine ok.bs ?_) | (with_reducible refine ok.remM (by omega) (fun _ hq => ?_)) | (with_reducible refine ok.quoM (by omega) (fun _ hq => ?_)) | (with_reducible refine ok.ix (by omega) (by omega) (fun q hq he => ?_)))
    simp only [List.set_set, mkChg, Int.toNat_natCast, Int.add_assoc]
    rfl
  · intro k v hv
    unfold m_L_markChangeS_b1
    rw [decide_eq_false (by show ¬ (a.length : Int) < (v.length : Int); omega)]; rfl
theorem heldChg {a : List I_Change} (ha : a.length ≤ 4000000) {k0 : Int} (h0 : 1 ≤ k0 ∧ k0 ≤ 24000000) : m_L_heldChangeS N (mkL (mkChg N) (fun _ => 6) a k0) k0 = some (k0 + ((6 * a.length : Nat) : Int)) := by
  unfold m_L_heldChangeS
  have hc : ∀ xs : List I_Change, cL (fun _ => 6) xs = 6 * xs.length := cL_const _ (fun _ => rfl)
  rw [held_loop (mkChg N) (fun _ => 6) a k0 (by omega)]
  · rw [hc]; rfl
  · intro i hi hx
    obtain ⟨hi', hx⟩ := List.getElem?_eq_some_iff.1 hx
    have hb : cL (fun _ => 6) (a.take i) = 6 * i := by rw [hc, List.length_take]; omega
    rw [hb] at hx
    simp only [hb]
    have hx' : ixI (mkL (mkChg N) (fun _ => 6) a k0) (i : Int) = some (mkChg N a[i] (k0 + ((6 * i : Nat) : Int))) := by rw [ixI_nat hi', hx]
    have hl := mkL_len (mkChg N) (fun _ => 6) a k0
    show m_L_heldChangeS_b1 N (mkL (mkChg N) (fun _ => 6) a k0) (k0 + ((6 * i : Nat) : Int)) i = _
    refine ok.val ?_
    unfold m_L_heldChangeS_b1
    simp only [mkChg] at hx'
    repeat' (first | (with_reducible refine ok.some ?_) | (with_reducible refine ok.ift rfl ?_) | (with_reducible refine ok.ift (by omega) ?_) | (with_reducible refine ok.eq hx' ?_) | (with_reducible refine ok.eq (mT_eq hN (by omega) (by omega)) ?_) | (with_reducible refine ok.bt (beq_self_eq_true _) ?_) | (with_reducible refine ok.ite (fun hc => ?_) (fun hc => ?_)) | (with_reducible refine ok.cond (fun hc => ?_) (fun hc => ?_)) | (with_reducible refine ok.chk (by omega) ?_) | (with_reducible refine ok.bs ?_) | (with_reducible refine ok.remM (by omega) (fun _ hq => ?_)) | (with_reducible refine ok.quoM (by omega) (fun _ hq => ?_)) | (with_reducible refine ok.ix (by omega) (by omega) (fun q hq he => ?_)))
    simp only [Int.add_assoc]; rfl
  · intro k
    unfold m_L_heldChangeS_b1
    have hl := mkL_len (mkChg N) (fun _ => 6) a k0
    rw [decide_eq_false (by show ¬ (a.length : Int) < _; omega)]; rfl
theorem markTag {a : List I_Tagged} (ha : a.length ≤ 4000000) {k0 : Int} (h0 : 1 ≤ k0 ∧ k0 ≤ 12000000) (hc : cL cTag a ≤ 12000000) : m_L_markTaggedS N a k0 = some (k0 + ((cL cTag a : Nat) : Int), mkL (mkTag N) cTag a k0) := by
  unfold m_L_markTaggedS
  rw [mark_loop (mkTag N) cTag a k0 (by omega)]
  · rfl
  · intro i hi v hv hx
    obtain ⟨hi', hx⟩ := List.getElem?_eq_some_iff.1 hx
    have h1 := cL_take_le cTag a (i + 1)
    rw [cL_take cTag hi] at h1
    generalize hk : cL cTag (a.take i) = c0 at h1 ⊢
    have h2 : cTag a[i] = 1 + 3 * a[i].row.length := rfl
    have hs : a[i].row.length ≤ 4000000 := by omega
    have hx' : ixI v (i : Int) = some a[i] := by rw [ixI_nat hi', hx]
    show m_L_markTaggedS_b1 N (k0 + ((c0 : Nat) : Int)) i v = _
    refine ok.val ?_
    unfold m_L_markTaggedS_b1
    refine ok.ift (by omega) (ok.eq hx' ?_)
    refine ok.chk (by omega) (ok.eq (markVal hN hs (by omega)) ?_)
    refine ok.chk (by omega) (ok.some ?_)
    rw [h2]
    rw [List.set_set, Int.toNat_natCast]
    show Sum.inl (k0 + (c0 : Int) + 1 + ((3 * a[i].row.length : Nat) : Int), (i : Int) + 1, v.set i (mkTag N a[i] (k0 + (c0 : Int)))) = _
    congr 2
    omega
  · intro k v hv
    unfold m_L_markTaggedS_b1
    rw [decide_eq_false (by show ¬ (a.length : Int) < (v.length : Int); omega)]; rfl
theorem heldTag {a : List I_Tagged} (ha : a.length ≤ 4000000) {k0 : Int} (h0 : 1 ≤ k0 ∧ k0 ≤ 12000000) (hc : cL cTag a ≤ 12000000) : m_L_heldTaggedS N (mkL (mkTag N) cTag a k0) k0 = some (k0 + ((cL cTag a : Nat) : Int)) := by
  unfold m_L_heldTaggedS
  rw [held_loop (mkTag N) cTag a k0 (by omega)]
  · rfl
  · intro i hi hx
    obtain ⟨hi', hx⟩ := List.getElem?_eq_some_iff.1 hx
    have h1 := cL_take_le cTag a (i + 1)
    rw [cL_take cTag hi] at h1
    generalize hk : cL cTag (a.take i) = c0 at h1 hx ⊢
    have h2 : cTag a[i] = 1 + 3 * a[i].row.length := rfl
    have hs : a[i].row.length ≤ 4000000 := by omega
    have hx' : ixI (mkL (mkTag N) cTag a k0) (i : Int) = some (mkTag N a[i] (k0 + ((c0 : Nat) : Int))) := by rw [ixI_nat hi', hx]
    have hl := mkL_len (mkTag N) cTag a k0
    show m_L_heldTaggedS_b1 N (mkL (mkTag N) cTag a k0) (k0 + ((c0 : Nat) : Int)) i = _
    refine ok.val ?_
    unfold m_L_heldTaggedS_b1
    refine ok.ift (by omega) (ok.eq hx' ?_)
    refine ok.ift rfl (ok.chk (by omega) (ok.eq hx' (ok.eq (heldVal hN hs (by omega)) ?_)))
    refine ok.iff (by omega) (ok.chk (by omega) (ok.some ?_))
    rw [h2]
    congr 2
    omega
  · intro k
    unfold m_L_heldTaggedS_b1
    have hl := mkL_len (mkTag N) cTag a k0
    rw [decide_eq_false (by show ¬ (a.length : Int) < _; omega)]; rfl
theorem markRow {a : List (List I_Value)} (ha : a.length ≤ 4000000) {k0 : Int} (h0 : 1 ≤ k0 ∧ k0 ≤ 12000000) (hc : cL cRow a ≤ 12000000) : m_L_markValueSS N a k0 = some (k0 + ((cL cRow a : Nat) : Int), mkL (mkRow N) cRow a k0) := by
  unfold m_L_markValueSS
  rw [mark_loop (mkRow N) cRow a k0 (by omega)]
  · rfl
  · intro i hi v hv hx
    obtain ⟨hi', hx⟩ := List.getElem?_eq_some_iff.1 hx
    have h1 := cL_take_le cRow a (i + 1)
    rw [cL_take cRow hi] at h1
    generalize hk : cL cRow (a.take i) = c0 at h1 ⊢
    have h2 : cRow a[i] = 3 * a[i].length := rfl
    have hs : a[i].length ≤ 4000000 := by omega
    have hx' : ixI v (i : Int) = some a[i] := by rw [ixI_nat hi', hx]
    show m_L_markValueSS_b1 N (k0 + ((c0 : Nat) : Int)) i v = _
    refine ok.val ?_
    unfold m_L_markValueSS_b1
    refine ok.ift (by omega) (ok.eq hx' ?_)
    refine ok.eq (markVal hN hs (by omega)) ?_
    refine ok.chk (by omega) (ok.some ?_)
    rw [h2]
    rw [Int.toNat_natCast]
    rfl
  · intro k v hv
    unfold m_L_markValueSS_b1
    rw [decide_eq_false (by show ¬ (a.length : Int) < (v.length : Int); omega)]; rfl
theorem heldRow {a : List (List I_Value)} (ha : a.length ≤ 4000000) {k0 : Int} (h0 : 1 ≤ k0 ∧ k0 ≤ 12000000) (hc : cL cRow a ≤ 12000000) : m_L_heldValueSS N (mkL (mkRow N) cRow a k0) k0 = some (k0 + ((cL cRow a : Nat) : Int)) := by
  unfold m_L_heldValueSS
  rw [held_loop (mkRow N) cRow a k0 (by omega)]
  · rfl
  · intro i hi hx
    obtain ⟨hi', hx⟩ := List.getElem?_eq_some_iff.1 hx
    have h1 := cL_take_le cRow a (i + 1)
    rw [cL_take cRow hi] at h1
    generalize hk : cL cRow (a.take i) = c0 at h1 hx ⊢
    have h2 : cRow a[i] = 3 * a[i].length := rfl
    have hs : a[i].length ≤ 4000000 := by omega
    have hx' : ixI (mkL (mkRow N) cRow a k0) (i : Int) = some (mkRow N a[i] (k0 + ((c0 : Nat) : Int))) := by rw [ixI_nat hi', hx]
    have hl := mkL_len (mkRow N) cRow a k0
    show m_L_heldValueSS_b1 N (mkL (mkRow N) cRow a k0) (k0 + ((c0 : Nat) : Int)) i = _
    refine ok.val ?_
    unfold m_L_heldValueSS_b1
    refine ok.ift (by omega) (ok.eq hx' ?_)
    refine ok.eq (heldVal hN hs (by omega)) ?_
    refine ok.iff (by omega) (ok.chk (by omega) (ok.some ?_))
    rw [h2]
    try rfl
  · intro k
    unfold m_L_heldValueSS_b1
    have hl := mkL_len (mkRow N) cRow a k0
    rw [decide_eq_false (by show ¬ (a.length : Int) < _; omega)]; rfl
/-- A table that the marks can run through. -/
structure MT (t : I_Table) : Prop where
  f : t.first.length ≤ 1048576
  c : t.changes.length ≤ 1048576
  r : t.rows.length ≤ 4000000
  s : cL cTag t.rows ≤ 8000000
def cTab (t : I_Table) : Nat := 4 * t.first.length + 6 * t.changes.length + cL cTag t.rows
noncomputable def mkTab (N : Nat) (t : I_Table) : I_Table := ⟨mkL (mkCol N) (fun _ => 4) t.first 1, mkL (mkChg N) (fun _ => 6) t.changes (1 + ((4 * t.first.length : Nat) : Int)), mkL (mkTag N) cTag t.rows (1 + ((4 * t.first.length : Nat) : Int) + ((6 * t.changes.length : Nat) : Int))⟩
theorem markTab {t : I_Table} (h : MT t) : m_L_markTable N t 1 = some (1 + ((cTab t : Nat) : Int), (mkTab N t).first, (mkTab N t).changes, (mkTab N t).rows) := by
  have h1 := h.f
  have h2 := h.c
  unfold m_L_markTable
  refine ok.val ?_
  refine ok.eq (markCol hN (by omega) (by omega)) (ok.eq (markChg hN (by omega) (by omega)) (ok.eq (markTag hN h.r (by omega) (by have := h.s; omega)) (ok.some ?_)))
  show (_, _) = _
  congr 1
  unfold cTab
  dsimp only
  omega
theorem heldTab {t : I_Table} (h : MT t) : m_L_heldTable N (mkTab N t) 1 = some (1 + ((cTab t : Nat) : Int)) := by
  have h1 := h.f
  have h2 := h.c
  unfold m_L_heldTable
  refine ok.val ?_
  refine ok.eq (heldCol hN (by omega) (by omega)) (ok.iff (by omega) (ok.eq (heldChg hN (by omega) (by omega)) (ok.iff (by omega) (ok.eq (heldTag hN h.r (by omega) (by have := h.s; omega)) (ok.iff (by omega) (ok.some ?_))))))
  unfold cTab
  omega
end
end V
end Go.Proofs.YtikobdnhflcnmaaGreatDoor
namespace Go.Proofs.YtikobdnhflcnmaaGreatDoor
namespace V
open Enc (enc)
set_option linter.unusedVariables false
set_option linter.unusedSimpArgs false
set_option maxHeartbeats 4000000
set_option maxRecDepth 100000
open Go.RowKit
attribute [local irreducible] thA inA FinA eL
def m_L_FnExactTableRows (N : Nat) (p_aT : L_Table) : Option (Bool) :=
  (m_L_szTable N p_aT (1048576 : Int)).bind fun r1 =>
  cond (decide (r1 < (0 : Int)))
    (some true)
    ((m_L_toTable N p_aT).bind fun r4 =>
    (m_S_TableRows N r4).bind fun r6 =>
    (m_L_toTable N p_aT).bind fun r8 =>
    (m_I_TableRows N r8).bind fun r10 =>
    (m_L_eqValueSS N r10 r6).bind fun r12 =>
    cond r12
      ((m_L_toTable N p_aT).bind fun r15 =>
      (m_L_eqTable N r8 r15).bind fun r17 =>
      cond r17
        ((m_L_markTable N r8 (1 : Int)).bind fun r20 =>
        cond (decide (r20.1 < (0 : Int)))
          (some false)
          ((m_L_eqValueSS N r10 r6).bind fun r23 =>
          cond r23
            ((m_L_markValueSS N r10 (1 : Int)).bind fun r26 =>
            (m_L_heldValueSS N r26.2 (1 : Int)).bind fun r28 =>
            cond (decide (r28 < (0 : Int)))
              (some false)
              (cond (decide (r28 = r26.1))
                ((m_L_toTable N p_aT).bind fun r32 =>
                (m_I_TableRows N r32).bind fun r34 =>
                (m_L_eqValueSS N r34 r6).bind fun r36 =>
                cond r36
                  ((m_L_heldValueSS N r26.2 (1 : Int)).bind fun r39 =>
                  cond (decide (r39 < (0 : Int)))
                    (some false)
                    (cond (decide (r39 = r26.1))
                      (some true)
                      (some false)))
                  (some false))
                (some false)))
            (some false)))
        (some false))
      (some false))
theorem w_L_FnExactTableRows (N : Nat) (p_aT : L_Table) (r : Bool) (hh0 : m_L_FnExactTableRows N p_aT = some r) : FnX Tryz.prog 3 [] [.agg [sL p_aT.first, sL p_aT.changes, sL p_aT.rows]] (RE (bA r) []) := by
  unfold m_L_FnExactTableRows at hh0; refine FnX.mk Tryz.func3 rfl rfl ?_; intro s hs; refine PC.seq ?_; refine PC.region ?_; refine PL.ef rfl (Ef.box rfl rfl rfl) ?_; refine PL.nm (.op 0 0) [some ⟨.mx [sL p_aT.first, sL p_aT.changes, sL p_aT.rows], 26, 0⟩] rfl rfl ?_; refine PL.op rfl (Rd.asnT rfl) ?_; refine PL.nil ?_; refine thA_n ?_; refine PC.seq ?_; refine PC.region ?_; refine PL.op rfl (Rd.asnT rfl) ?_; refine PL.nil ?_; refine thA_n ?_; refine PC.seq ?_; obtain ⟨r1, h_2, hh0⟩ := bind_some hh0; refine PC.region ?_; refine PL.op rfl (Rd.loadBox rfl rfl rfl) ?_; refine PL.op rfl (Rd.moveT rfl) ?_; refine PL.callM false [] (w_L_szTable N p_aT (1048576 : Int) r1 h_2) rfl Tryz.call5 rfl ⟨.aggL ⟨.t _, .t _, .t _, trivial⟩, .t _, trivial⟩ rfl trivial (fun h => by cases h) ?_; refine PL.op rfl (Rd.asnT rfl) ?_; refine PL.nil ?_; refine thA_n ?_; (iterate 2 refine PC.seq ?_); refine PC.region ?_; refine PL.op rfl (Rd.moveT rfl) ?_; refine PL.op rfl (Rd.lss rfl rfl) ?_; refine PL.nil ?_; refine thA_n ?_; rcases cond_some hh0 with ⟨h_3, hh0⟩ | ⟨h_3, hh0⟩
  · refine PC.cond_true rfl h_3 ?_; refine PC.seq ?_; refine PC.region ?_; refine PL.op rfl (Rd.asnT rfl) ?_; refine PL.nil ?_; refine thA_n ?_; refine PC.ret ?_; refine thA_r ?_; obtain rfl := some_in hh0; exact FinA.mk (r := bA true) (bl := []) [] (.inl rfl) rfl (rl := [.tmp 2]) (.tmp .nil) rfl rfl rfl (.t _) trivial ⟨rfl, rfl⟩
  refine PC.cond_false rfl h_3 ?_; refine PC.skip ?_; refine thA_n ?_; refine PC.seq ?_; obtain ⟨r4, h_5, hh0⟩ := bind_some hh0; obtain ⟨r6, h_7, hh0⟩ := bind_some hh0; refine PC.region ?_; refine PL.op rfl (Rd.loadBox rfl rfl rfl) ?_; refine PL.callM false [] (w_L_toTable N p_aT r4 h_5) rfl Tryz.call7 rfl ⟨.aggL ⟨.t _, .t _, .t _, trivial⟩, trivial⟩ rfl trivial (fun h => by cases h) ?_; refine PL.nm (.agg [.os 1 0 r4.first.length, .os 2 0 r4.changes.length, .os 3 0 r4.rows.length]) [some ⟨.mx [sL p_aT.first, sL p_aT.changes, sL p_aT.rows], 26, 0⟩, some ⟨.tr (eL r4.first), 86, 4⟩, some ⟨.tr (eL r4.changes), 89, 6⟩, some ⟨.mx (dL 4 0 r4.rows), 52, 2⟩, some ⟨.fm (fam r4.rows), 84, 3⟩] rfl (by (conv => rhs; rw [show dL 4 0 r4.rows = AV.renL (thet [] 1) (dL 3 0 r4.rows) from (dL_ren (thet [] 1) 3 0 r4.rows).symm]); rfl) ?_; refine PL.frz hs 1 5 [(17, .agg [sL r4.first, .os 2 0 r4.changes.length, .os 3 0 r4.rows.length])] [some ⟨.mx [sL p_aT.first, sL p_aT.changes, sL p_aT.rows], 26, 0⟩, none, some ⟨.tr (eL r4.changes), 89, 6⟩, some ⟨.mx (dL 4 0 r4.rows), 52, 2⟩, some ⟨.fm (fam r4.rows), 84, 3⟩] rfl rfl ⟨(.aggL ⟨(.own rfl (by decide) rfl rfl), (.os rfl), (.os rfl), trivial⟩), trivial⟩ ⟨⟨rfl, .inl rfl⟩, ⟨rfl, .inl rfl⟩, ⟨rfl, .inl rfl⟩, ⟨rfl, .inl rfl⟩, trivial⟩ ?_; refine PL.frz hs 2 5 [(17, .agg [sL r4.first, sL r4.changes, .os 3 0 r4.rows.length])] [some ⟨.mx [sL p_aT.first, sL p_aT.changes, sL p_aT.rows], 26, 0⟩, none, none, some ⟨.mx (dL 4 0 r4.rows), 52, 2⟩, some ⟨.fm (fam r4.rows), 84, 3⟩] rfl rfl ⟨(.aggL ⟨(.t _), (.own rfl (by decide) rfl rfl), (.os rfl), trivial⟩), trivial⟩ ⟨⟨rfl, .inl rfl⟩, ⟨rfl, .inl rfl⟩, ⟨rfl, .inl rfl⟩, trivial⟩ ?_; refine PL.frzD hs 3 4 5 [(17, .agg [sL r4.first, sL r4.changes, sL r4.rows])] [some ⟨.mx [sL p_aT.first, sL p_aT.changes, sL p_aT.rows], 26, 0⟩, none, none, none, none] rfl rfl rfl ⟨(.aggL ⟨(.t _), (.t _), (Sb.fzD rfl rfl (by decide) (by decide) rfl rfl rfl), trivial⟩), trivial⟩ ⟨⟨rfl, .inl rfl⟩, trivial⟩ rfl ?_; refine PL.callM false [] (w_S_TableRows N r4 r6 h_7) rfl Tryz.call6 rfl ⟨.aggL ⟨.t _, .t _, .t _, trivial⟩, trivial⟩ rfl trivial (fun h => by cases h) ?_; refine PL.nm (.os 5 0 r6.length) [some ⟨.mx [sL p_aT.first, sL p_aT.changes, sL p_aT.rows], 26, 0⟩, none, none, none, none, some ⟨.tr (eL r6), 50, 1⟩] rfl rfl ?_; refine PL.op rfl (Rd.asnO rfl) ?_; refine PL.nil ?_; refine thA_n ?_; refine PC.seq ?_; obtain ⟨r8, h_9, hh0⟩ := bind_some hh0; refine PC.region ?_; refine PL.op rfl (Rd.loadBox rfl rfl rfl) ?_; refine PL.callM false [] (w_L_toTable N p_aT r8 h_9) rfl Tryz.call7 rfl ⟨.aggL ⟨.t _, .t _, .t _, trivial⟩, trivial⟩ rfl trivial (fun h => by cases h) ?_; refine PL.nm (.agg [.os 6 0 r8.first.length, .os 7 0 r8.changes.length, .os 8 0 r8.rows.length]) [some ⟨.mx [sL p_aT.first, sL p_aT.changes, sL p_aT.rows], 26, 0⟩, none, none, none, none, some ⟨.tr (eL r6), 50, 1⟩, some ⟨.tr (eL r8.first), 86, 4⟩, some ⟨.tr (eL r8.changes), 89, 6⟩, some ⟨.mx (dL 9 0 r8.rows), 52, 2⟩, some ⟨.fm (fam r8.rows), 84, 3⟩] rfl (by (conv => rhs; rw [show dL 9 0 r8.rows = AV.renL (thet [] 6) (dL 3 0 r8.rows) from (dL_ren (thet [] 6) 3 0 r8.rows).symm]); rfl) ?_; refine PL.ef rfl (Ef.alloc rfl rfl) ?_; refine PL.nm (.op 10 0) [some ⟨.mx [sL p_aT.first, sL p_aT.changes, sL p_aT.rows], 26, 0⟩, none, none, none, none, some ⟨.tr (eL r6), 50, 1⟩, some ⟨.tr (eL r8.first), 86, 4⟩, some ⟨.tr (eL r8.changes), 89, 6⟩, some ⟨.mx (dL 9 0 r8.rows), 52, 2⟩, some ⟨.fm (fam r8.rows), 84, 3⟩, some ⟨.mx [.t (.v (.slice none 0 0)), .t (.v (.slice none 0 0)), .t (.v (.slice none 0 0))], 34, 0⟩] rfl rfl ?_; refine PL.store rfl rfl rfl rfl rfl rfl rfl ?_; refine PL.nO [some ⟨.mx [sL p_aT.first, sL p_aT.changes, sL p_aT.rows], 26, 0⟩, none, none, none, none, some ⟨.tr (eL r6), 50, 1⟩, some ⟨.tr (eL r8.first), 86, 4⟩, some ⟨.tr (eL r8.changes), 89, 6⟩, some ⟨.mx (dL 9 0 r8.rows), 52, 2⟩, some ⟨.fm (fam r8.rows), 84, 3⟩, some ⟨.mx [.os 6 0 r8.first.length, .os 7 0 r8.changes.length, .os 8 0 r8.rows.length], 34, 0⟩] rfl ?_; refine PL.nil ?_; refine thA_n ?_; refine PC.seq ?_; obtain ⟨r10, h_11, hh0⟩ := bind_some hh0; refine PC.region ?_; refine PL.op rfl (Rd.loadBox rfl rfl rfl) ?_; refine PL.callM true [] (w_I_TableRows N r8 r10 h_11) rfl Tryz.call8 rfl ⟨.aggL ⟨.own rfl (by first | decide | exact List.not_mem_nil) rfl rfl, .own rfl (by first | decide | exact List.not_mem_nil) rfl rfl, (Sb.fzD rfl rfl (by first | decide | exact List.not_mem_nil) (by first | decide | exact List.not_mem_nil) rfl rfl rfl), trivial⟩, trivial⟩ rfl trivial (fun _ => ⟨trivial, (flat_cons flat_dp (flat_cons flat_fm flat_nil))⟩) ?_; refine PL.nm (.os 11 0 r10.length) [some ⟨.mx [sL p_aT.first, sL p_aT.changes, sL p_aT.rows], 26, 0⟩, none, none, none, none, some ⟨.tr (eL r6), 50, 1⟩, some ⟨.tr (eL r8.first), 86, 4⟩, some ⟨.tr (eL r8.changes), 89, 6⟩, some ⟨.mx (dL 9 0 r8.rows), 52, 2⟩, some ⟨.fm (fam r8.rows), 84, 3⟩, some ⟨.mx [.os 6 0 r8.first.length, .os 7 0 r8.changes.length, .os 8 0 r8.rows.length], 34, 0⟩, some ⟨.mx (dL 12 0 r10), 50, 1⟩, some ⟨.fm (fam r10), 84, 3⟩] rfl (by (conv => rhs; rw [show dL 12 0 r10 = AV.renL (thet [] 11) (dL 1 0 r10) from (dL_ren (thet [] 11) 1 0 r10).symm]); rfl) ?_; refine PL.op rfl (Rd.asnO rfl) ?_; refine PL.nil ?_; refine thA_n ?_; (iterate 2 refine PC.seq ?_); obtain ⟨r12, h_13, hh0⟩ := bind_some hh0; refine PC.region ?_; (iterate 2 refine PL.op rfl (Rd.moveO rfl) ?_); refine PL.callM true [] (w_L_eqValueSS N r10 r6 r12 h_13) rfl Tryz.call9 rfl ⟨(Sb.fzD rfl rfl (by first | decide | exact List.not_mem_nil) (by first | decide | exact List.not_mem_nil) rfl rfl rfl), .own rfl (by first | decide | exact List.not_mem_nil) rfl rfl, trivial⟩ rfl trivial (fun _ => ⟨trivial, flat_nil⟩) ?_; refine PL.op rfl (Rd.unnot rfl) ?_; refine PL.nil ?_; refine thA_n ?_; rcases cond_some hh0 with ⟨h_14, hh0⟩ | ⟨h_14, hh0⟩; rotate_left
  · refine PC.cond_true rfl (not_f h_14) ?_; refine PC.seq ?_; refine PC.region ?_; refine PL.op rfl (Rd.asnT rfl) ?_; refine PL.nil ?_; refine thA_n ?_; refine PC.ret ?_; refine thA_r ?_; obtain rfl := some_in hh0; exact FinA.mk (r := bA false) (bl := []) [] (.inl rfl) rfl (rl := [.tmp 2]) (.tmp .nil) rfl rfl rfl (.t _) trivial ⟨rfl, rfl⟩
  refine PC.cond_false rfl (not_t h_14) ?_; refine PC.skip ?_; refine thA_n ?_; refine PC.seq ?_; obtain ⟨r15, h_16, hh0⟩ := bind_some hh0; obtain ⟨r17, h_18, hh0⟩ := bind_some hh0; refine PC.cut hs (fun _ : Unit => [(1, .op 0 0), (4, .os 1 0 r6.length), (5, .op 2 0), (6, .os 7 0 r10.length), (31, bA (!r17))]) (fun _ => [⟨.mx [sL p_aT.first, sL p_aT.changes, sL p_aT.rows], 26, 0⟩, ⟨.tr (eL r6), 50, 1⟩, ⟨.mx [.os 3 0 r8.first.length, .os 4 0 r8.changes.length, .os 5 0 r8.rows.length], 34, 0⟩, ⟨.tr (eL r8.first), 86, 4⟩, ⟨.tr (eL r8.changes), 89, 6⟩, ⟨.mx (dL 6 0 r8.rows), 52, 2⟩, ⟨.fm (fam r8.rows), 84, 3⟩, ⟨.mx (dL 8 0 r10), 50, 1⟩, ⟨.fm (fam r10), 84, 3⟩]) (fun _ => True) ?_ ?_
  · refine PC.any (id := 10) 5 (.seg [1] (.fork (.seg [0, 2, 3, 4] .done) (.seg [2, 0, 3, 4] .done))) [] rfl (by kernel_rfl) rfl ?_; refine PT.seg ?_; refine PR.op rfl (Rd.loadBox rfl rfl rfl) ?_; refine PR.nil ?_; refine PT.fork ?_ ?_
    · refine PT.seg ?_; refine PR.rdE rfl rfl (Rd.loadBox rfl rfl rfl) ?_; refine PR.callM false [] (w_L_toTable N p_aT r15 h_16) rfl Tryz.call7 rfl ⟨.aggL ⟨.t _, .t _, .t _, trivial⟩, trivial⟩ rfl trivial (fun h => by cases h) rfl ?_; refine PR.nm (.agg [.os 13 0 r15.first.length, .os 14 0 r15.changes.length, .os 15 0 r15.rows.length]) [some ⟨.mx [sL p_aT.first, sL p_aT.changes, sL p_aT.rows], 26, 0⟩, none, none, none, none, some ⟨.tr (eL r6), 50, 1⟩, some ⟨.tr (eL r8.first), 86, 4⟩, some ⟨.tr (eL r8.changes), 89, 6⟩, some ⟨.mx (dL 9 0 r8.rows), 52, 2⟩, some ⟨.fm (fam r8.rows), 84, 3⟩, some ⟨.mx [.os 6 0 r8.first.length, .os 7 0 r8.changes.length, .os 8 0 r8.rows.length], 34, 0⟩, some ⟨.mx (dL 12 0 r10), 50, 1⟩, some ⟨.fm (fam r10), 84, 3⟩, some ⟨.tr (eL r15.first), 86, 4⟩, some ⟨.tr (eL r15.changes), 89, 6⟩, some ⟨.mx (dL 16 0 r15.rows), 52, 2⟩, some ⟨.fm (fam r15.rows), 84, 3⟩] rfl (by (conv => rhs; rw [show dL 16 0 r15.rows = AV.renL (thet [] 13) (dL 3 0 r15.rows) from (dL_ren (thet [] 13) 3 0 r15.rows).symm]); rfl) ?_; refine PR.callM true [] (w_L_eqTable N r8 r15 r17 h_18) rfl Tryz.call10 rfl ⟨.aggL ⟨.own rfl (by first | decide | exact List.not_mem_nil) rfl rfl, .own rfl (by first | decide | exact List.not_mem_nil) rfl rfl, (Sb.fzD rfl rfl (by first | decide | exact List.not_mem_nil) (by first | decide | exact List.not_mem_nil) rfl rfl rfl), trivial⟩, .aggL ⟨.own rfl (by first | decide | exact List.not_mem_nil) rfl rfl, .own rfl (by first | decide | exact List.not_mem_nil) rfl rfl, (Sb.fzD rfl rfl (by first | decide | exact List.not_mem_nil) (by first | decide | exact List.not_mem_nil) rfl rfl rfl), trivial⟩, trivial⟩ rfl trivial (fun _ => ⟨trivial, flat_nil⟩) rfl ?_; refine PR.op rfl (Rd.unnot rfl) ?_; refine PR.nil ?_; refine PT.done ?_; refine PL.nil ?_; refine thA_n ?_; exact ⟨(), trivial, [some 0, some 5, some 10, some 6, some 7, some 8, some 9, some 11, some 12], ⟨rfl, rfl, ⟨⟨_, rfl, rfl, rfl, .mx ⟨.t _, .t _, .t _, trivial⟩⟩, ⟨_, rfl, rfl, rfl, .tr _⟩, ⟨_, rfl, rfl, rfl, .mx ⟨.os rfl, .os rfl, .os rfl, trivial⟩⟩, ⟨_, rfl, rfl, rfl, .tr _⟩, ⟨_, rfl, rfl, rfl, .tr _⟩, ⟨_, rfl, rfl, rfl, .mx (sb_dL rfl 0 _)⟩, ⟨_, rfl, rfl, rfl, .fm _⟩, ⟨_, rfl, rfl, rfl, .mx (sb_dL rfl 0 _)⟩, ⟨_, rfl, rfl, rfl, .fm _⟩, trivial⟩, ⟨.op rfl, .os rfl, .op rfl, .os rfl, .t _, trivial⟩⟩⟩
    refine PT.seg ?_; refine PR.callM false [] (w_L_toTable N p_aT r15 h_16) rfl Tryz.call7 rfl ⟨.aggL ⟨.t _, .t _, .t _, trivial⟩, trivial⟩ rfl trivial (fun h => by cases h) rfl ?_; refine PR.nm (.agg [.os 13 0 r15.first.length, .os 14 0 r15.changes.length, .os 15 0 r15.rows.length]) [some ⟨.mx [sL p_aT.first, sL p_aT.changes, sL p_aT.rows], 26, 0⟩, none, none, none, none, some ⟨.tr (eL r6), 50, 1⟩, some ⟨.tr (eL r8.first), 86, 4⟩, some ⟨.tr (eL r8.changes), 89, 6⟩, some ⟨.mx (dL 9 0 r8.rows), 52, 2⟩, some ⟨.fm (fam r8.rows), 84, 3⟩, some ⟨.mx [.os 6 0 r8.first.length, .os 7 0 r8.changes.length, .os 8 0 r8.rows.length], 34, 0⟩, some ⟨.mx (dL 12 0 r10), 50, 1⟩, some ⟨.fm (fam r10), 84, 3⟩, some ⟨.tr (eL r15.first), 86, 4⟩, some ⟨.tr (eL r15.changes), 89, 6⟩, some ⟨.mx (dL 16 0 r15.rows), 52, 2⟩, some ⟨.fm (fam r15.rows), 84, 3⟩] rfl (by (conv => rhs; rw [show dL 16 0 r15.rows = AV.renL (thet [] 13) (dL 3 0 r15.rows) from (dL_ren (thet [] 13) 3 0 r15.rows).symm]); rfl) ?_; refine PR.rdE rfl rfl (Rd.loadBox rfl rfl rfl) ?_; refine PR.callM true [] (w_L_eqTable N r8 r15 r17 h_18) rfl Tryz.call10 rfl ⟨.aggL ⟨.own rfl (by first | decide | exact List.not_mem_nil) rfl rfl, .own rfl (by first | decide | exact List.not_mem_nil) rfl rfl, (Sb.fzD rfl rfl (by first | decide | exact List.not_mem_nil) (by first | decide | exact List.not_mem_nil) rfl rfl rfl), trivial⟩, .aggL ⟨.own rfl (by first | decide | exact List.not_mem_nil) rfl rfl, .own rfl (by first | decide | exact List.not_mem_nil) rfl rfl, (Sb.fzD rfl rfl (by first | decide | exact List.not_mem_nil) (by first | decide | exact List.not_mem_nil) rfl rfl rfl), trivial⟩, trivial⟩ rfl trivial (fun _ => ⟨trivial, flat_nil⟩) rfl ?_; refine PR.op rfl (Rd.unnot rfl) ?_; refine PR.nil ?_; refine PT.done ?_; refine PL.nil ?_; refine thA_n ?_; exact ⟨(), trivial, [some 0, some 5, some 10, some 6, some 7, some 8, some 9, some 11, some 12], ⟨rfl, rfl, ⟨⟨_, rfl, rfl, rfl, .mx ⟨.t _, .t _, .t _, trivial⟩⟩, ⟨_, rfl, rfl, rfl, .tr _⟩, ⟨_, rfl, rfl, rfl, .mx ⟨.os rfl, .os rfl, .os rfl, trivial⟩⟩, ⟨_, rfl, rfl, rfl, .tr _⟩, ⟨_, rfl, rfl, rfl, .tr _⟩, ⟨_, rfl, rfl, rfl, .mx (sb_dL rfl 0 _)⟩, ⟨_, rfl, rfl, rfl, .fm _⟩, ⟨_, rfl, rfl, rfl, .mx (sb_dL rfl 0 _)⟩, ⟨_, rfl, rfl, rfl, .fm _⟩, trivial⟩, ⟨.op rfl, .os rfl, .op rfl, .os rfl, .t _, trivial⟩⟩⟩
  rintro ⟨⟩ -
  rcases cond_some hh0 with ⟨h_19, hh0⟩ | ⟨h_19, hh0⟩; rotate_left
  · refine PC.cond_true rfl (not_f h_19) ?_; refine PC.seq ?_; refine PC.region ?_; refine PL.op rfl (Rd.asnT rfl) ?_; refine PL.nil ?_; refine thA_n ?_; refine PC.ret ?_; refine thA_r ?_; obtain rfl := some_in hh0; exact FinA.mk (r := bA false) (bl := []) [] (.inl rfl) rfl (rl := [.tmp 2]) (.tmp .nil) rfl rfl rfl (.t _) trivial ⟨rfl, rfl⟩
  refine PC.cond_false rfl (not_t h_19) ?_; refine PC.skip ?_; refine thA_n ?_; refine PC.seq ?_; refine PC.region ?_; refine PL.op rfl (Rd.asnT rfl) ?_; refine PL.nil ?_; refine thA_n ?_; refine PC.seq ?_; obtain ⟨r20, h_21, hh0⟩ := bind_some hh0; refine PC.region ?_; refine PL.op rfl (Rd.loadBox rfl rfl rfl) ?_; refine PL.op rfl (Rd.moveT rfl) ?_; refine PL.callM false [3, 4, 5, 6] (w_L_markTable N r8 (1 : Int) r20 h_21) rfl Tryz.call11 rfl ⟨.aggL ⟨.os rfl, .os rfl, .os rfl, trivial⟩, .t _, trivial⟩ rfl ⟨⟨_, rfl, rfl, rfl, .tr _⟩, ⟨_, rfl, rfl, rfl, .tr _⟩, ⟨_, rfl, rfl, rfl, .mx (sb_dL rfl 0 _)⟩, ⟨_, rfl, rfl, rfl, .fm _⟩, trivial⟩ (fun h => by cases h) ?_; refine PL.nm (iA r20.1) [some ⟨.mx [sL p_aT.first, sL p_aT.changes, sL p_aT.rows], 26, 0⟩, some ⟨.tr (eL r6), 50, 1⟩, some ⟨.mx [.os 3 0 r8.first.length, .os 4 0 r8.changes.length, .os 5 0 r8.rows.length], 34, 0⟩, some ⟨.tr (eL r20.2.1), 86, 4⟩, some ⟨.tr (eL r20.2.2.1), 89, 6⟩, some ⟨.mx (dL 6 0 r20.2.2.2), 52, 2⟩, some ⟨.fm (fam r20.2.2.2), 84, 3⟩, some ⟨.mx (dL 8 0 r10), 50, 1⟩, some ⟨.fm (fam r10), 84, 3⟩] rfl (by (conv => rhs; rw [show dL 6 0 r20.2.2.2 = AV.renL (thet [3, 4, 5, 6] 9) (dL 3 0 r20.2.2.2) from (dL_ren (thet [3, 4, 5, 6] 9) 3 0 r20.2.2.2).symm]); rfl) ?_; refine PL.op rfl (Rd.asnT rfl) ?_; refine PL.nil ?_; refine thA_n ?_; (iterate 2 refine PC.seq ?_); rcases cond_some hh0 with ⟨h_22, hh0⟩ | ⟨h_22, hh0⟩
  · refine PC.region ?_; refine PL.op rfl (Rd.moveT rfl) ?_; refine PL.op rfl (Rd.lss rfl rfl) ?_; refine PL.op rfl (Rd.moveT rfl) ?_; (iterate 4 refine PL.guard_off rfl rfl h_22 ?_); refine PL.op rfl (Rd.pick_t rfl h_22) ?_; refine PL.nil ?_; refine thA_n ?_; refine PC.cond_true rfl rfl ?_; refine PC.seq ?_; refine PC.region ?_; refine PL.op rfl (Rd.asnT rfl) ?_; refine PL.nil ?_; refine thA_n ?_; refine PC.ret ?_; refine thA_r ?_; obtain rfl := some_in hh0; exact FinA.mk (r := bA false) (bl := []) [] (.inl rfl) rfl (rl := [.tmp 2]) (.tmp .nil) rfl rfl rfl (.t _) trivial ⟨rfl, rfl⟩
  obtain ⟨r23, h_24, hh0⟩ := bind_some hh0; refine PC.region ?_; refine PL.op rfl (Rd.moveT rfl) ?_; refine PL.op rfl (Rd.lss rfl rfl) ?_; refine PL.op rfl (Rd.moveT rfl) ?_; refine PL.guard_on rfl h_22 ?_; refine PL.op rfl (Rd.moveO rfl) ?_; refine PL.guard_on rfl h_22 ?_; refine PL.op rfl (Rd.moveO rfl) ?_; refine PL.guard_on rfl h_22 ?_; refine PL.callM true [] (w_L_eqValueSS N r10 r6 r23 h_24) rfl Tryz.call9 rfl ⟨(Sb.fzD rfl rfl (by first | decide | exact List.not_mem_nil) (by first | decide | exact List.not_mem_nil) rfl rfl rfl), .own rfl (by first | decide | exact List.not_mem_nil) rfl rfl, trivial⟩ rfl trivial (fun _ => ⟨trivial, flat_nil⟩) ?_; refine PL.guard_on rfl h_22 ?_; refine PL.op rfl (Rd.unnot rfl) ?_; refine PL.op rfl (Rd.pick_f rfl h_22) ?_; refine PL.nil ?_; refine thA_n ?_; rcases cond_some hh0 with ⟨h_25, hh0⟩ | ⟨h_25, hh0⟩; rotate_left
  · refine PC.cond_true rfl (not_f h_25) ?_; refine PC.seq ?_; refine PC.region ?_; refine PL.op rfl (Rd.asnT rfl) ?_; refine PL.nil ?_; refine thA_n ?_; refine PC.ret ?_; refine thA_r ?_; obtain rfl := some_in hh0; exact FinA.mk (r := bA false) (bl := []) [] (.inl rfl) rfl (rl := [.tmp 2]) (.tmp .nil) rfl rfl rfl (.t _) trivial ⟨rfl, rfl⟩
  refine PC.cond_false rfl (not_t h_25) ?_; refine PC.skip ?_; refine thA_n ?_; refine PC.seq ?_; refine PC.region ?_; refine PL.op rfl (Rd.asnT rfl) ?_; refine PL.nil ?_; refine thA_n ?_; refine PC.seq ?_; obtain ⟨r26, h_27, hh0⟩ := bind_some hh0; refine PC.region ?_; refine PL.op rfl (Rd.moveO rfl) ?_; refine PL.op rfl (Rd.moveT rfl) ?_; refine PL.callM false [7, 8] (w_L_markValueSS N r10 (1 : Int) r26 h_27) rfl Tryz.call12 rfl ⟨.os rfl, .t _, trivial⟩ rfl ⟨⟨_, rfl, rfl, rfl, .mx (sb_dL rfl 0 _)⟩, ⟨_, rfl, rfl, rfl, .fm _⟩, trivial⟩ (fun h => by cases h) ?_; refine PL.nm (iA r26.1) [some ⟨.mx [sL p_aT.first, sL p_aT.changes, sL p_aT.rows], 26, 0⟩, some ⟨.tr (eL r6), 50, 1⟩, some ⟨.mx [.os 3 0 r8.first.length, .os 4 0 r8.changes.length, .os 5 0 r8.rows.length], 34, 0⟩, some ⟨.tr (eL r20.2.1), 86, 4⟩, some ⟨.tr (eL r20.2.2.1), 89, 6⟩, some ⟨.mx (dL 6 0 r20.2.2.2), 52, 2⟩, some ⟨.fm (fam r20.2.2.2), 84, 3⟩, some ⟨.mx (dL 8 0 r26.2), 50, 1⟩, some ⟨.fm (fam r26.2), 84, 3⟩] rfl (by (conv => rhs; rw [show dL 8 0 r26.2 = AV.renL (thet [7, 8] 9) (dL 1 0 r26.2) from (dL_ren (thet [7, 8] 9) 1 0 r26.2).symm]); rfl) ?_; refine PL.op rfl (Rd.asnT rfl) ?_; refine PL.nil ?_; refine thA_n ?_; refine PC.seq ?_; refine PC.region ?_; refine PL.op rfl (Rd.asnT rfl) ?_; refine PL.nil ?_; refine thA_n ?_; refine PC.seq ?_; obtain ⟨r28, h_29, hh0⟩ := bind_some hh0; refine PC.region ?_; refine PL.op rfl (Rd.moveO rfl) ?_; refine PL.op rfl (Rd.moveT rfl) ?_; refine PL.callM true [] (w_L_heldValueSS N r26.2 (1 : Int) r28 h_29) rfl Tryz.call13 rfl ⟨(Sb.fzD rfl rfl (by first | decide | exact List.not_mem_nil) (by first | decide | exact List.not_mem_nil) (by simp only [List.length_set, len_L_markValueSS N _ _ _ h_27]) rfl rfl), .t _, trivial⟩ rfl trivial (fun _ => ⟨trivial, flat_nil⟩) ?_; refine PL.op rfl (Rd.asnT rfl) ?_; refine PL.nil ?_; refine thA_n ?_; (iterate 2 refine PC.seq ?_); refine PC.region ?_; refine PL.op rfl (Rd.moveT rfl) ?_; refine PL.op rfl (Rd.lss rfl rfl) ?_; refine PL.nil ?_; refine thA_n ?_; rcases cond_some hh0 with ⟨h_30, hh0⟩ | ⟨h_30, hh0⟩
  · refine PC.cond_true rfl h_30 ?_; refine PC.seq ?_; refine PC.region ?_; refine PL.op rfl (Rd.asnT rfl) ?_; refine PL.nil ?_; refine thA_n ?_; refine PC.ret ?_; refine thA_r ?_; obtain rfl := some_in hh0; exact FinA.mk (r := bA false) (bl := []) [] (.inl rfl) rfl (rl := [.tmp 2]) (.tmp .nil) rfl rfl rfl (.t _) trivial ⟨rfl, rfl⟩
  refine PC.cond_false rfl h_30 ?_; refine PC.skip ?_; refine thA_n ?_; (iterate 2 refine PC.seq ?_); refine PC.region ?_; (iterate 2 refine PL.op rfl (Rd.moveT rfl) ?_); refine PL.op rfl (Rd.neq rfl rfl) ?_; refine PL.nil ?_; refine thA_n ?_; rcases cond_some hh0 with ⟨h_31, hh0⟩ | ⟨h_31, hh0⟩; rotate_left
  · refine PC.cond_true rfl (not_f h_31) ?_; refine PC.seq ?_; refine PC.region ?_; refine PL.op rfl (Rd.asnT rfl) ?_; refine PL.nil ?_; refine thA_n ?_; refine PC.ret ?_; refine thA_r ?_; obtain rfl := some_in hh0; exact FinA.mk (r := bA false) (bl := []) [] (.inl rfl) rfl (rl := [.tmp 2]) (.tmp .nil) rfl rfl rfl (.t _) trivial ⟨rfl, rfl⟩
  refine PC.cond_false rfl (not_t h_31) ?_; refine PC.skip ?_; refine thA_n ?_; refine PC.seq ?_; obtain ⟨r32, h_33, hh0⟩ := bind_some hh0; obtain ⟨r34, h_35, hh0⟩ := bind_some hh0; refine PC.region ?_; refine PL.op rfl (Rd.loadBox rfl rfl rfl) ?_; refine PL.callM false [] (w_L_toTable N p_aT r32 h_33) rfl Tryz.call7 rfl ⟨.aggL ⟨.t _, .t _, .t _, trivial⟩, trivial⟩ rfl trivial (fun h => by cases h) ?_; refine PL.nm (.agg [.os 9 0 r32.first.length, .os 10 0 r32.changes.length, .os 11 0 r32.rows.length]) [some ⟨.mx [sL p_aT.first, sL p_aT.changes, sL p_aT.rows], 26, 0⟩, some ⟨.tr (eL r6), 50, 1⟩, some ⟨.mx [.os 3 0 r8.first.length, .os 4 0 r8.changes.length, .os 5 0 r8.rows.length], 34, 0⟩, some ⟨.tr (eL r20.2.1), 86, 4⟩, some ⟨.tr (eL r20.2.2.1), 89, 6⟩, some ⟨.mx (dL 6 0 r20.2.2.2), 52, 2⟩, some ⟨.fm (fam r20.2.2.2), 84, 3⟩, some ⟨.mx (dL 8 0 r26.2), 50, 1⟩, some ⟨.fm (fam r26.2), 84, 3⟩, some ⟨.tr (eL r32.first), 86, 4⟩, some ⟨.tr (eL r32.changes), 89, 6⟩, some ⟨.mx (dL 12 0 r32.rows), 52, 2⟩, some ⟨.fm (fam r32.rows), 84, 3⟩] rfl (by (conv => rhs; rw [show dL 12 0 r32.rows = AV.renL (thet [] 9) (dL 3 0 r32.rows) from (dL_ren (thet [] 9) 3 0 r32.rows).symm]); rfl) ?_; refine PL.callM true [] (w_I_TableRows N r32 r34 h_35) rfl Tryz.call8 rfl ⟨.aggL ⟨.own rfl (by first | decide | exact List.not_mem_nil) rfl rfl, .own rfl (by first | decide | exact List.not_mem_nil) rfl rfl, (Sb.fzD rfl rfl (by first | decide | exact List.not_mem_nil) (by first | decide | exact List.not_mem_nil) rfl rfl rfl), trivial⟩, trivial⟩ rfl trivial (fun _ => ⟨trivial, (flat_cons flat_dp (flat_cons flat_fm flat_nil))⟩) ?_; refine PL.nm (.os 13 0 r34.length) [some ⟨.mx [sL p_aT.first, sL p_aT.changes, sL p_aT.rows], 26, 0⟩, some ⟨.tr (eL r6), 50, 1⟩, some ⟨.mx [.os 3 0 r8.first.length, .os 4 0 r8.changes.length, .os 5 0 r8.rows.length], 34, 0⟩, some ⟨.tr (eL r20.2.1), 86, 4⟩, some ⟨.tr (eL r20.2.2.1), 89, 6⟩, some ⟨.mx (dL 6 0 r20.2.2.2), 52, 2⟩, some ⟨.fm (fam r20.2.2.2), 84, 3⟩, some ⟨.mx (dL 8 0 r26.2), 50, 1⟩, some ⟨.fm (fam r26.2), 84, 3⟩, some ⟨.tr (eL r32.first), 86, 4⟩, some ⟨.tr (eL r32.changes), 89, 6⟩, some ⟨.mx (dL 12 0 r32.rows), 52, 2⟩, some ⟨.fm (fam r32.rows), 84, 3⟩, some ⟨.mx (dL 14 0 r34), 50, 1⟩, some ⟨.fm (fam r34), 84, 3⟩] rfl (by (conv => rhs; rw [show dL 14 0 r34 = AV.renL (thet [] 13) (dL 1 0 r34) from (dL_ren (thet [] 13) 1 0 r34).symm]); rfl) ?_; refine PL.op rfl (Rd.asnO rfl) ?_; refine PL.nil ?_; refine thA_n ?_; (iterate 2 refine PC.seq ?_); obtain ⟨r36, h_37, hh0⟩ := bind_some hh0; refine PC.region ?_; (iterate 2 refine PL.op rfl (Rd.moveO rfl) ?_); refine PL.callM true [] (w_L_eqValueSS N r34 r6 r36 h_37) rfl Tryz.call9 rfl ⟨(Sb.fzD rfl rfl (by first | decide | exact List.not_mem_nil) (by first | decide | exact List.not_mem_nil) rfl rfl rfl), .own rfl (by first | decide | exact List.not_mem_nil) rfl rfl, trivial⟩ rfl trivial (fun _ => ⟨trivial, flat_nil⟩) ?_; refine PL.op rfl (Rd.unnot rfl) ?_; refine PL.nil ?_; refine thA_n ?_; rcases cond_some hh0 with ⟨h_38, hh0⟩ | ⟨h_38, hh0⟩; rotate_left
  · refine PC.cond_true rfl (not_f h_38) ?_; refine PC.seq ?_; refine PC.region ?_; refine PL.op rfl (Rd.asnT rfl) ?_; refine PL.nil ?_; refine thA_n ?_; refine PC.ret ?_; refine thA_r ?_; obtain rfl := some_in hh0; exact FinA.mk (r := bA false) (bl := []) [] (.inl rfl) rfl (rl := [.tmp 2]) (.tmp .nil) rfl rfl rfl (.t _) trivial ⟨rfl, rfl⟩
  refine PC.cond_false rfl (not_t h_38) ?_; refine PC.skip ?_; refine thA_n ?_; refine PC.seq ?_; refine PC.region ?_; refine PL.op rfl (Rd.asnT rfl) ?_; refine PL.nil ?_; refine thA_n ?_; refine PC.seq ?_; obtain ⟨r39, h_40, hh0⟩ := bind_some hh0; refine PC.region ?_; refine PL.op rfl (Rd.moveO rfl) ?_; refine PL.op rfl (Rd.moveT rfl) ?_; refine PL.callM true [] (w_L_heldValueSS N r26.2 (1 : Int) r39 h_40) rfl Tryz.call13 rfl ⟨(Sb.fzD rfl rfl (by first | decide | exact List.not_mem_nil) (by first | decide | exact List.not_mem_nil) (by simp only [List.length_set, len_L_markValueSS N _ _ _ h_27]) rfl rfl), .t _, trivial⟩ rfl trivial (fun _ => ⟨trivial, flat_nil⟩) ?_; refine PL.op rfl (Rd.asnT rfl) ?_; refine PL.nil ?_; refine thA_n ?_; (iterate 2 refine PC.seq ?_); refine PC.region ?_; refine PL.op rfl (Rd.moveT rfl) ?_; refine PL.op rfl (Rd.lss rfl rfl) ?_; refine PL.nil ?_; refine thA_n ?_; rcases cond_some hh0 with ⟨h_41, hh0⟩ | ⟨h_41, hh0⟩
  · refine PC.cond_true rfl h_41 ?_; refine PC.seq ?_; refine PC.region ?_; refine PL.op rfl (Rd.asnT rfl) ?_; refine PL.nil ?_; refine thA_n ?_; refine PC.ret ?_; refine thA_r ?_; obtain rfl := some_in hh0; exact FinA.mk (r := bA false) (bl := []) [] (.inl rfl) rfl (rl := [.tmp 2]) (.tmp .nil) rfl rfl rfl (.t _) trivial ⟨rfl, rfl⟩
  refine PC.cond_false rfl h_41 ?_; refine PC.skip ?_; refine thA_n ?_; (iterate 2 refine PC.seq ?_); refine PC.region ?_; (iterate 2 refine PL.op rfl (Rd.moveT rfl) ?_); refine PL.op rfl (Rd.neq rfl rfl) ?_; refine PL.nil ?_; refine thA_n ?_; rcases cond_some hh0 with ⟨h_42, hh0⟩ | ⟨h_42, hh0⟩; rotate_left
  · refine PC.cond_true rfl (not_f h_42) ?_; refine PC.seq ?_; refine PC.region ?_; refine PL.op rfl (Rd.asnT rfl) ?_; refine PL.nil ?_; refine thA_n ?_; refine PC.ret ?_; refine thA_r ?_; obtain rfl := some_in hh0; exact FinA.mk (r := bA false) (bl := []) [] (.inl rfl) rfl (rl := [.tmp 2]) (.tmp .nil) rfl rfl rfl (.t _) trivial ⟨rfl, rfl⟩
  refine PC.cond_false rfl (not_t h_42) ?_; refine PC.skip ?_; refine thA_n ?_; refine PC.seq ?_; refine PC.region ?_; refine PL.op rfl (Rd.asnT rfl) ?_; refine PL.nil ?_; refine thA_n ?_; refine PC.ret ?_; obtain rfl := some_in hh0; exact FinA.mk (r := bA true) (bl := []) [] (.inl rfl) rfl (rl := [.tmp 2]) (.tmp .nil) rfl rfl rfl (.t _) trivial ⟨rfl, rfl⟩
def m_L_FnExactRewriteRows (N : Nat) (p_aT : L_Table) (p_aMany : Int) : Option (Bool) :=
  (m_L_szTable N p_aT (1048576 : Int)).bind fun r1 =>
  cond (decide (r1 < (0 : Int)))
    (some true)
    ((m_L_toTable N p_aT).bind fun r4 =>
    (m_S_RewriteRows N r4 p_aMany).bind fun r6 =>
    (m_L_toTable N p_aT).bind fun r8 =>
    (m_I_RewriteRows N r8 p_aMany).bind fun r10 =>
    (m_L_eqTable N r10 r6).bind fun r12 =>
    cond r12
      ((m_L_toTable N p_aT).bind fun r15 =>
      (m_L_eqTable N r8 r15).bind fun r17 =>
      cond r17
        ((m_L_markTable N r8 (1 : Int)).bind fun r20 =>
        cond (decide (r20.1 < (0 : Int)))
          (some false)
          ((m_L_eqTable N r10 r6).bind fun r23 =>
          cond r23
            ((m_L_markTable N r10 (1 : Int)).bind fun r26 =>
            (m_L_heldTable N (I_Table.mk r26.2.1 r26.2.2.1 r26.2.2.2) (1 : Int)).bind fun r28 =>
            cond (decide (r28 < (0 : Int)))
              (some false)
              (cond (decide (r28 = r26.1))
                ((m_L_toTable N p_aT).bind fun r32 =>
                (m_I_RewriteRows N r32 p_aMany).bind fun r34 =>
                (m_L_eqTable N r34 r6).bind fun r36 =>
                cond r36
                  ((m_L_heldTable N (I_Table.mk r26.2.1 r26.2.2.1 r26.2.2.2) (1 : Int)).bind fun r39 =>
                  cond (decide (r39 < (0 : Int)))
                    (some false)
                    (cond (decide (r39 = r26.1))
                      (some true)
                      (some false)))
                  (some false))
                (some false)))
            (some false)))
        (some false))
      (some false))
theorem w_L_FnExactRewriteRows (N : Nat) (p_aT : L_Table) (p_aMany : Int) (r : Bool) (hh0 : m_L_FnExactRewriteRows N p_aT p_aMany = some r) : FnX Tryz.prog 4 [] [.agg [sL p_aT.first, sL p_aT.changes, sL p_aT.rows], iA p_aMany] (RE (bA r) []) := by
  unfold m_L_FnExactRewriteRows at hh0; refine FnX.mk Tryz.func4 rfl rfl ?_; intro s hs; refine PC.seq ?_; refine PC.region ?_; refine PL.ef rfl (Ef.box rfl rfl rfl) ?_; refine PL.nm (.op 0 0) [some ⟨.mx [sL p_aT.first, sL p_aT.changes, sL p_aT.rows], 26, 0⟩] rfl rfl ?_; refine PL.op rfl (Rd.asnT rfl) ?_; refine PL.nil ?_; refine thA_n ?_; refine PC.seq ?_; refine PC.region ?_; refine PL.op rfl (Rd.asnT rfl) ?_; refine PL.nil ?_; refine thA_n ?_; refine PC.seq ?_; obtain ⟨r1, h_2, hh0⟩ := bind_some hh0; refine PC.region ?_; refine PL.op rfl (Rd.loadBox rfl rfl rfl) ?_; refine PL.op rfl (Rd.moveT rfl) ?_; refine PL.callM false [] (w_L_szTable N p_aT (1048576 : Int) r1 h_2) rfl Tryz.call5 rfl ⟨.aggL ⟨.t _, .t _, .t _, trivial⟩, .t _, trivial⟩ rfl trivial (fun h => by cases h) ?_; refine PL.op rfl (Rd.asnT rfl) ?_; refine PL.nil ?_; refine thA_n ?_; (iterate 2 refine PC.seq ?_); refine PC.region ?_; refine PL.op rfl (Rd.moveT rfl) ?_; refine PL.op rfl (Rd.lss rfl rfl) ?_; refine PL.nil ?_; refine thA_n ?_; rcases cond_some hh0 with ⟨h_3, hh0⟩ | ⟨h_3, hh0⟩
  · refine PC.cond_true rfl h_3 ?_; refine PC.seq ?_; refine PC.region ?_; refine PL.op rfl (Rd.asnT rfl) ?_; refine PL.nil ?_; refine thA_n ?_; refine PC.ret ?_; refine thA_r ?_; obtain rfl := some_in hh0; exact FinA.mk (r := bA true) (bl := []) [] (.inl rfl) rfl (rl := [.tmp 4]) (.tmp .nil) rfl rfl rfl (.t _) trivial ⟨rfl, rfl⟩
  refine PC.cond_false rfl h_3 ?_; refine PC.skip ?_; refine thA_n ?_; refine PC.seq ?_; obtain ⟨r4, h_5, hh0⟩ := bind_some hh0; obtain ⟨r6, h_7, hh0⟩ := bind_some hh0; refine PC.region ?_; refine PL.op rfl (Rd.loadBox rfl rfl rfl) ?_; refine PL.callM false [] (w_L_toTable N p_aT r4 h_5) rfl Tryz.call7 rfl ⟨.aggL ⟨.t _, .t _, .t _, trivial⟩, trivial⟩ rfl trivial (fun h => by cases h) ?_; refine PL.nm (.agg [.os 1 0 r4.first.length, .os 2 0 r4.changes.length, .os 3 0 r4.rows.length]) [some ⟨.mx [sL p_aT.first, sL p_aT.changes, sL p_aT.rows], 26, 0⟩, some ⟨.tr (eL r4.first), 86, 4⟩, some ⟨.tr (eL r4.changes), 89, 6⟩, some ⟨.mx (dL 4 0 r4.rows), 52, 2⟩, some ⟨.fm (fam r4.rows), 84, 3⟩] rfl (by (conv => rhs; rw [show dL 4 0 r4.rows = AV.renL (thet [] 1) (dL 3 0 r4.rows) from (dL_ren (thet [] 1) 3 0 r4.rows).symm]); rfl) ?_; refine PL.op rfl (Rd.moveT rfl) ?_; refine PL.frz hs 1 5 [(19, .agg [sL r4.first, .os 2 0 r4.changes.length, .os 3 0 r4.rows.length])] [some ⟨.mx [sL p_aT.first, sL p_aT.changes, sL p_aT.rows], 26, 0⟩, none, some ⟨.tr (eL r4.changes), 89, 6⟩, some ⟨.mx (dL 4 0 r4.rows), 52, 2⟩, some ⟨.fm (fam r4.rows), 84, 3⟩] rfl rfl ⟨(.aggL ⟨(.own rfl (by decide) rfl rfl), (.os rfl), (.os rfl), trivial⟩), trivial⟩ ⟨⟨rfl, .inl rfl⟩, ⟨rfl, .inl rfl⟩, ⟨rfl, .inl rfl⟩, ⟨rfl, .inl rfl⟩, trivial⟩ ?_; refine PL.frz hs 2 5 [(19, .agg [sL r4.first, sL r4.changes, .os 3 0 r4.rows.length])] [some ⟨.mx [sL p_aT.first, sL p_aT.changes, sL p_aT.rows], 26, 0⟩, none, none, some ⟨.mx (dL 4 0 r4.rows), 52, 2⟩, some ⟨.fm (fam r4.rows), 84, 3⟩] rfl rfl ⟨(.aggL ⟨(.t _), (.own rfl (by decide) rfl rfl), (.os rfl), trivial⟩), trivial⟩ ⟨⟨rfl, .inl rfl⟩, ⟨rfl, .inl rfl⟩, ⟨rfl, .inl rfl⟩, trivial⟩ ?_; refine PL.frzD hs 3 4 5 [(19, .agg [sL r4.first, sL r4.changes, sL r4.rows])] [some ⟨.mx [sL p_aT.first, sL p_aT.changes, sL p_aT.rows], 26, 0⟩, none, none, none, none] rfl rfl rfl ⟨(.aggL ⟨(.t _), (.t _), (Sb.fzD rfl rfl (by decide) (by decide) rfl rfl rfl), trivial⟩), trivial⟩ ⟨⟨rfl, .inl rfl⟩, trivial⟩ rfl ?_; refine PL.callM false [] (w_S_RewriteRows N r4 p_aMany r6 h_7) rfl Tryz.call14 rfl ⟨.aggL ⟨.t _, .t _, .t _, trivial⟩, .t _, trivial⟩ rfl trivial (fun h => by cases h) ?_; refine PL.nm (.agg [.os 5 0 r6.first.length, .os 6 0 r6.changes.length, .os 7 0 r6.rows.length]) [some ⟨.mx [sL p_aT.first, sL p_aT.changes, sL p_aT.rows], 26, 0⟩, none, none, none, none, some ⟨.tr (eL r6.first), 86, 4⟩, some ⟨.tr (eL r6.changes), 89, 6⟩, some ⟨.tr (eL r6.rows), 52, 2⟩] rfl rfl ?_; refine PL.ef rfl (Ef.alloc rfl rfl) ?_; refine PL.nm (.op 8 0) [some ⟨.mx [sL p_aT.first, sL p_aT.changes, sL p_aT.rows], 26, 0⟩, none, none, none, none, some ⟨.tr (eL r6.first), 86, 4⟩, some ⟨.tr (eL r6.changes), 89, 6⟩, some ⟨.tr (eL r6.rows), 52, 2⟩, some ⟨.mx [.t (.v (.slice none 0 0)), .t (.v (.slice none 0 0)), .t (.v (.slice none 0 0))], 34, 0⟩] rfl rfl ?_; refine PL.store rfl rfl rfl rfl rfl rfl rfl ?_; refine PL.nO [some ⟨.mx [sL p_aT.first, sL p_aT.changes, sL p_aT.rows], 26, 0⟩, none, none, none, none, some ⟨.tr (eL r6.first), 86, 4⟩, some ⟨.tr (eL r6.changes), 89, 6⟩, some ⟨.tr (eL r6.rows), 52, 2⟩, some ⟨.mx [.os 5 0 r6.first.length, .os 6 0 r6.changes.length, .os 7 0 r6.rows.length], 34, 0⟩] rfl ?_; refine PL.nil ?_; refine thA_n ?_; refine PC.seq ?_; obtain ⟨r8, h_9, hh0⟩ := bind_some hh0; refine PC.region ?_; refine PL.op rfl (Rd.loadBox rfl rfl rfl) ?_; refine PL.callM false [] (w_L_toTable N p_aT r8 h_9) rfl Tryz.call7 rfl ⟨.aggL ⟨.t _, .t _, .t _, trivial⟩, trivial⟩ rfl trivial (fun h => by cases h) ?_; refine PL.nm (.agg [.os 9 0 r8.first.length, .os 10 0 r8.changes.length, .os 11 0 r8.rows.length]) [some ⟨.mx [sL p_aT.first, sL p_aT.changes, sL p_aT.rows], 26, 0⟩, none, none, none, none, some ⟨.tr (eL r6.first), 86, 4⟩, some ⟨.tr (eL r6.changes), 89, 6⟩, some ⟨.tr (eL r6.rows), 52, 2⟩, some ⟨.mx [.os 5 0 r6.first.length, .os 6 0 r6.changes.length, .os 7 0 r6.rows.length], 34, 0⟩, some ⟨.tr (eL r8.first), 86, 4⟩, some ⟨.tr (eL r8.changes), 89, 6⟩, some ⟨.mx (dL 12 0 r8.rows), 52, 2⟩, some ⟨.fm (fam r8.rows), 84, 3⟩] rfl (by (conv => rhs; rw [show dL 12 0 r8.rows = AV.renL (thet [] 9) (dL 3 0 r8.rows) from (dL_ren (thet [] 9) 3 0 r8.rows).symm]); rfl) ?_; refine PL.ef rfl (Ef.alloc rfl rfl) ?_; refine PL.nm (.op 13 0) [some ⟨.mx [sL p_aT.first, sL p_aT.changes, sL p_aT.rows], 26, 0⟩, none, none, none, none, some ⟨.tr (eL r6.first), 86, 4⟩, some ⟨.tr (eL r6.changes), 89, 6⟩, some ⟨.tr (eL r6.rows), 52, 2⟩, some ⟨.mx [.os 5 0 r6.first.length, .os 6 0 r6.changes.length, .os 7 0 r6.rows.length], 34, 0⟩, some ⟨.tr (eL r8.first), 86, 4⟩, some ⟨.tr (eL r8.changes), 89, 6⟩, some ⟨.mx (dL 12 0 r8.rows), 52, 2⟩, some ⟨.fm (fam r8.rows), 84, 3⟩, some ⟨.mx [.t (.v (.slice none 0 0)), .t (.v (.slice none 0 0)), .t (.v (.slice none 0 0))], 34, 0⟩] rfl rfl ?_; refine PL.store rfl rfl rfl rfl rfl rfl rfl ?_; refine PL.nO [some ⟨.mx [sL p_aT.first, sL p_aT.changes, sL p_aT.rows], 26, 0⟩, none, none, none, none, some ⟨.tr (eL r6.first), 86, 4⟩, some ⟨.tr (eL r6.changes), 89, 6⟩, some ⟨.tr (eL r6.rows), 52, 2⟩, some ⟨.mx [.os 5 0 r6.first.length, .os 6 0 r6.changes.length, .os 7 0 r6.rows.length], 34, 0⟩, some ⟨.tr (eL r8.first), 86, 4⟩, some ⟨.tr (eL r8.changes), 89, 6⟩, some ⟨.mx (dL 12 0 r8.rows), 52, 2⟩, some ⟨.fm (fam r8.rows), 84, 3⟩, some ⟨.mx [.os 9 0 r8.first.length, .os 10 0 r8.changes.length, .os 11 0 r8.rows.length], 34, 0⟩] rfl ?_; refine PL.nil ?_; refine thA_n ?_; refine PC.seq ?_; obtain ⟨r10, h_11, hh0⟩ := bind_some hh0; refine PC.region ?_; refine PL.op rfl (Rd.loadBox rfl rfl rfl) ?_; refine PL.op rfl (Rd.moveT rfl) ?_; refine PL.callM true [] (w_I_RewriteRows N r8 p_aMany r10 h_11) rfl Tryz.call15 rfl ⟨.aggL ⟨.own rfl (by first | decide | exact List.not_mem_nil) rfl rfl, .own rfl (by first | decide | exact List.not_mem_nil) rfl rfl, (Sb.fzD rfl rfl (by first | decide | exact List.not_mem_nil) (by first | decide | exact List.not_mem_nil) rfl rfl rfl), trivial⟩, .t _, trivial⟩ rfl trivial (fun _ => ⟨⟨trivial, trivial, trivial, trivial⟩, (flat_cons flat_ow (flat_cons flat_ow (flat_cons flat_dp (flat_cons flat_fm flat_nil))))⟩) ?_; refine PL.nm (.agg [.os 14 0 r10.first.length, .os 15 0 r10.changes.length, .os 16 0 r10.rows.length]) [some ⟨.mx [sL p_aT.first, sL p_aT.changes, sL p_aT.rows], 26, 0⟩, none, none, none, none, some ⟨.tr (eL r6.first), 86, 4⟩, some ⟨.tr (eL r6.changes), 89, 6⟩, some ⟨.tr (eL r6.rows), 52, 2⟩, some ⟨.mx [.os 5 0 r6.first.length, .os 6 0 r6.changes.length, .os 7 0 r6.rows.length], 34, 0⟩, some ⟨.tr (eL r8.first), 86, 4⟩, some ⟨.tr (eL r8.changes), 89, 6⟩, some ⟨.mx (dL 12 0 r8.rows), 52, 2⟩, some ⟨.fm (fam r8.rows), 84, 3⟩, some ⟨.mx [.os 9 0 r8.first.length, .os 10 0 r8.changes.length, .os 11 0 r8.rows.length], 34, 0⟩, some ⟨.tr (eL r10.first), 86, 4⟩, some ⟨.tr (eL r10.changes), 89, 6⟩, some ⟨.mx (dL 17 0 r10.rows), 52, 2⟩, some ⟨.fm (fam r10.rows), 84, 3⟩] rfl (by (conv => rhs; rw [show dL 17 0 r10.rows = AV.renL (thet [] 14) (dL 3 0 r10.rows) from (dL_ren (thet [] 14) 3 0 r10.rows).symm]); rfl) ?_; refine PL.ef rfl (Ef.alloc rfl rfl) ?_; refine PL.nm (.op 18 0) [some ⟨.mx [sL p_aT.first, sL p_aT.changes, sL p_aT.rows], 26, 0⟩, none, none, none, none, some ⟨.tr (eL r6.first), 86, 4⟩, some ⟨.tr (eL r6.changes), 89, 6⟩, some ⟨.tr (eL r6.rows), 52, 2⟩, some ⟨.mx [.os 5 0 r6.first.length, .os 6 0 r6.changes.length, .os 7 0 r6.rows.length], 34, 0⟩, some ⟨.tr (eL r8.first), 86, 4⟩, some ⟨.tr (eL r8.changes), 89, 6⟩, some ⟨.mx (dL 12 0 r8.rows), 52, 2⟩, some ⟨.fm (fam r8.rows), 84, 3⟩, some ⟨.mx [.os 9 0 r8.first.length, .os 10 0 r8.changes.length, .os 11 0 r8.rows.length], 34, 0⟩, some ⟨.tr (eL r10.first), 86, 4⟩, some ⟨.tr (eL r10.changes), 89, 6⟩, some ⟨.mx (dL 17 0 r10.rows), 52, 2⟩, some ⟨.fm (fam r10.rows), 84, 3⟩, some ⟨.mx [.t (.v (.slice none 0 0)), .t (.v (.slice none 0 0)), .t (.v (.slice none 0 0))], 34, 0⟩] rfl rfl ?_; refine PL.store rfl rfl rfl rfl rfl rfl rfl ?_; refine PL.nO [some ⟨.mx [sL p_aT.first, sL p_aT.changes, sL p_aT.rows], 26, 0⟩, none, none, none, none, some ⟨.tr (eL r6.first), 86, 4⟩, some ⟨.tr (eL r6.changes), 89, 6⟩, some ⟨.tr (eL r6.rows), 52, 2⟩, some ⟨.mx [.os 5 0 r6.first.length, .os 6 0 r6.changes.length, .os 7 0 r6.rows.length], 34, 0⟩, some ⟨.tr (eL r8.first), 86, 4⟩, some ⟨.tr (eL r8.changes), 89, 6⟩, some ⟨.mx (dL 12 0 r8.rows), 52, 2⟩, some ⟨.fm (fam r8.rows), 84, 3⟩, some ⟨.mx [.os 9 0 r8.first.length, .os 10 0 r8.changes.length, .os 11 0 r8.rows.length], 34, 0⟩, some ⟨.tr (eL r10.first), 86, 4⟩, some ⟨.tr (eL r10.changes), 89, 6⟩, some ⟨.mx (dL 17 0 r10.rows), 52, 2⟩, some ⟨.fm (fam r10.rows), 84, 3⟩, some ⟨.mx [.os 14 0 r10.first.length, .os 15 0 r10.changes.length, .os 16 0 r10.rows.length], 34, 0⟩] rfl ?_; refine PL.nil ?_; refine thA_n ?_; (iterate 2 refine PC.seq ?_); obtain ⟨r12, h_13, hh0⟩ := bind_some hh0; refine PC.region ?_; (iterate 2 refine PL.op rfl (Rd.loadBox rfl rfl rfl) ?_); refine PL.callM true [] (w_L_eqTable N r10 r6 r12 h_13) rfl Tryz.call10 rfl ⟨.aggL ⟨.own rfl (by first | decide | exact List.not_mem_nil) rfl rfl, .own rfl (by first | decide | exact List.not_mem_nil) rfl rfl, (Sb.fzD rfl rfl (by first | decide | exact List.not_mem_nil) (by first | decide | exact List.not_mem_nil) rfl rfl rfl), trivial⟩, .aggL ⟨.own rfl (by first | decide | exact List.not_mem_nil) rfl rfl, .own rfl (by first | decide | exact List.not_mem_nil) rfl rfl, .own rfl (by first | decide | exact List.not_mem_nil) rfl rfl, trivial⟩, trivial⟩ rfl trivial (fun _ => ⟨trivial, flat_nil⟩) ?_; refine PL.op rfl (Rd.unnot rfl) ?_; refine PL.nil ?_; refine thA_n ?_; rcases cond_some hh0 with ⟨h_14, hh0⟩ | ⟨h_14, hh0⟩; rotate_left
  · refine PC.cond_true rfl (not_f h_14) ?_; refine PC.seq ?_; refine PC.region ?_; refine PL.op rfl (Rd.asnT rfl) ?_; refine PL.nil ?_; refine thA_n ?_; refine PC.ret ?_; refine thA_r ?_; obtain rfl := some_in hh0; exact FinA.mk (r := bA false) (bl := []) [] (.inl rfl) rfl (rl := [.tmp 4]) (.tmp .nil) rfl rfl rfl (.t _) trivial ⟨rfl, rfl⟩
  refine PC.cond_false rfl (not_t h_14) ?_; refine PC.skip ?_; refine thA_n ?_; refine PC.seq ?_; obtain ⟨r15, h_16, hh0⟩ := bind_some hh0; obtain ⟨r17, h_18, hh0⟩ := bind_some hh0; refine PC.cut hs (fun _ : Unit => [(1, iA p_aMany), (2, .op 0 0), (6, .op 1 0), (7, .op 5 0), (8, .op 10 0), (35, bA (!r17))]) (fun _ => [⟨.mx [sL p_aT.first, sL p_aT.changes, sL p_aT.rows], 26, 0⟩, ⟨.mx [.os 2 0 r6.first.length, .os 3 0 r6.changes.length, .os 4 0 r6.rows.length], 34, 0⟩, ⟨.tr (eL r6.first), 86, 4⟩, ⟨.tr (eL r6.changes), 89, 6⟩, ⟨.tr (eL r6.rows), 52, 2⟩, ⟨.mx [.os 6 0 r8.first.length, .os 7 0 r8.changes.length, .os 8 0 r8.rows.length], 34, 0⟩, ⟨.tr (eL r8.first), 86, 4⟩, ⟨.tr (eL r8.changes), 89, 6⟩, ⟨.mx (dL 9 0 r8.rows), 52, 2⟩, ⟨.fm (fam r8.rows), 84, 3⟩, ⟨.mx [.os 11 0 r10.first.length, .os 12 0 r10.changes.length, .os 13 0 r10.rows.length], 34, 0⟩, ⟨.tr (eL r10.first), 86, 4⟩, ⟨.tr (eL r10.changes), 89, 6⟩, ⟨.mx (dL 14 0 r10.rows), 52, 2⟩, ⟨.fm (fam r10.rows), 84, 3⟩]) (fun _ => True) ?_ ?_
  · refine PC.any (id := 10) 5 (.seg [1] (.fork (.seg [0, 2, 3, 4] .done) (.seg [2, 0, 3, 4] .done))) [] rfl (by kernel_rfl) rfl ?_; refine PT.seg ?_; refine PR.op rfl (Rd.loadBox rfl rfl rfl) ?_; refine PR.nil ?_; refine PT.fork ?_ ?_
    · refine PT.seg ?_; refine PR.rdE rfl rfl (Rd.loadBox rfl rfl rfl) ?_; refine PR.callM false [] (w_L_toTable N p_aT r15 h_16) rfl Tryz.call7 rfl ⟨.aggL ⟨.t _, .t _, .t _, trivial⟩, trivial⟩ rfl trivial (fun h => by cases h) rfl ?_; refine PR.nm (.agg [.os 19 0 r15.first.length, .os 20 0 r15.changes.length, .os 21 0 r15.rows.length]) [some ⟨.mx [sL p_aT.first, sL p_aT.changes, sL p_aT.rows], 26, 0⟩, none, none, none, none, some ⟨.tr (eL r6.first), 86, 4⟩, some ⟨.tr (eL r6.changes), 89, 6⟩, some ⟨.tr (eL r6.rows), 52, 2⟩, some ⟨.mx [.os 5 0 r6.first.length, .os 6 0 r6.changes.length, .os 7 0 r6.rows.length], 34, 0⟩, some ⟨.tr (eL r8.first), 86, 4⟩, some ⟨.tr (eL r8.changes), 89, 6⟩, some ⟨.mx (dL 12 0 r8.rows), 52, 2⟩, some ⟨.fm (fam r8.rows), 84, 3⟩, some ⟨.mx [.os 9 0 r8.first.length, .os 10 0 r8.changes.length, .os 11 0 r8.rows.length], 34, 0⟩, some ⟨.tr (eL r10.first), 86, 4⟩, some ⟨.tr (eL r10.changes), 89, 6⟩, some ⟨.mx (dL 17 0 r10.rows), 52, 2⟩, some ⟨.fm (fam r10.rows), 84, 3⟩, some ⟨.mx [.os 14 0 r10.first.length, .os 15 0 r10.changes.length, .os 16 0 r10.rows.length], 34, 0⟩, some ⟨.tr (eL r15.first), 86, 4⟩, some ⟨.tr (eL r15.changes), 89, 6⟩, some ⟨.mx (dL 22 0 r15.rows), 52, 2⟩, some ⟨.fm (fam r15.rows), 84, 3⟩] rfl (by (conv => rhs; rw [show dL 22 0 r15.rows = AV.renL (thet [] 19) (dL 3 0 r15.rows) from (dL_ren (thet [] 19) 3 0 r15.rows).symm]); rfl) ?_; refine PR.callM true [] (w_L_eqTable N r8 r15 r17 h_18) rfl Tryz.call10 rfl ⟨.aggL ⟨.own rfl (by first | decide | exact List.not_mem_nil) rfl rfl, .own rfl (by first | decide | exact List.not_mem_nil) rfl rfl, (Sb.fzD rfl rfl (by first | decide | exact List.not_mem_nil) (by first | decide | exact List.not_mem_nil) rfl rfl rfl), trivial⟩, .aggL ⟨.own rfl (by first | decide | exact List.not_mem_nil) rfl rfl, .own rfl (by first | decide | exact List.not_mem_nil) rfl rfl, (Sb.fzD rfl rfl (by first | decide | exact List.not_mem_nil) (by first | decide | exact List.not_mem_nil) rfl rfl rfl), trivial⟩, trivial⟩ rfl trivial (fun _ => ⟨trivial, flat_nil⟩) rfl ?_; refine PR.op rfl (Rd.unnot rfl) ?_; refine PR.nil ?_; refine PT.done ?_; refine PL.nil ?_; refine thA_n ?_; exact ⟨(), trivial, [some 0, some 8, some 5, some 6, some 7, some 13, some 9, some 10, some 11, some 12, some 18, some 14, some 15, some 16, some 17], ⟨rfl, rfl, ⟨⟨_, rfl, rfl, rfl, .mx ⟨.t _, .t _, .t _, trivial⟩⟩, ⟨_, rfl, rfl, rfl, .mx ⟨.os rfl, .os rfl, .os rfl, trivial⟩⟩, ⟨_, rfl, rfl, rfl, .tr _⟩, ⟨_, rfl, rfl, rfl, .tr _⟩, ⟨_, rfl, rfl, rfl, .tr _⟩, ⟨_, rfl, rfl, rfl, .mx ⟨.os rfl, .os rfl, .os rfl, trivial⟩⟩, ⟨_, rfl, rfl, rfl, .tr _⟩, ⟨_, rfl, rfl, rfl, .tr _⟩, ⟨_, rfl, rfl, rfl, .mx (sb_dL rfl 0 _)⟩, ⟨_, rfl, rfl, rfl, .fm _⟩, ⟨_, rfl, rfl, rfl, .mx ⟨.os rfl, .os rfl, .os rfl, trivial⟩⟩, ⟨_, rfl, rfl, rfl, .tr _⟩, ⟨_, rfl, rfl, rfl, .tr _⟩, ⟨_, rfl, rfl, rfl, .mx (sb_dL rfl 0 _)⟩, ⟨_, rfl, rfl, rfl, .fm _⟩, trivial⟩, ⟨.t _, .op rfl, .op rfl, .op rfl, .op rfl, .t _, trivial⟩⟩⟩
    refine PT.seg ?_; refine PR.callM false [] (w_L_toTable N p_aT r15 h_16) rfl Tryz.call7 rfl ⟨.aggL ⟨.t _, .t _, .t _, trivial⟩, trivial⟩ rfl trivial (fun h => by cases h) rfl ?_; refine PR.nm (.agg [.os 19 0 r15.first.length, .os 20 0 r15.changes.length, .os 21 0 r15.rows.length]) [some ⟨.mx [sL p_aT.first, sL p_aT.changes, sL p_aT.rows], 26, 0⟩, none, none, none, none, some ⟨.tr (eL r6.first), 86, 4⟩, some ⟨.tr (eL r6.changes), 89, 6⟩, some ⟨.tr (eL r6.rows), 52, 2⟩, some ⟨.mx [.os 5 0 r6.first.length, .os 6 0 r6.changes.length, .os 7 0 r6.rows.length], 34, 0⟩, some ⟨.tr (eL r8.first), 86, 4⟩, some ⟨.tr (eL r8.changes), 89, 6⟩, some ⟨.mx (dL 12 0 r8.rows), 52, 2⟩, some ⟨.fm (fam r8.rows), 84, 3⟩, some ⟨.mx [.os 9 0 r8.first.length, .os 10 0 r8.changes.length, .os 11 0 r8.rows.length], 34, 0⟩, some ⟨.tr (eL r10.first), 86, 4⟩, some ⟨.tr (eL r10.changes), 89, 6⟩, some ⟨.mx (dL 17 0 r10.rows), 52, 2⟩, some ⟨.fm (fam r10.rows), 84, 3⟩, some ⟨.mx [.os 14 0 r10.first.length, .os 15 0 r10.changes.length, .os 16 0 r10.rows.length], 34, 0⟩, some ⟨.tr (eL r15.first), 86, 4⟩, some ⟨.tr (eL r15.changes), 89, 6⟩, some ⟨.mx (dL 22 0 r15.rows), 52, 2⟩, some ⟨.fm (fam r15.rows), 84, 3⟩] rfl (by (conv => rhs; rw [show dL 22 0 r15.rows = AV.renL (thet [] 19) (dL 3 0 r15.rows) from (dL_ren (thet [] 19) 3 0 r15.rows).symm]); rfl) ?_; refine PR.rdE rfl rfl (Rd.loadBox rfl rfl rfl) ?_; refine PR.callM true [] (w_L_eqTable N r8 r15 r17 h_18) rfl Tryz.call10 rfl ⟨.aggL ⟨.own rfl (by first | decide | exact List.not_mem_nil) rfl rfl, .own rfl (by first | decide | exact List.not_mem_nil) rfl rfl, (Sb.fzD rfl rfl (by first | decide | exact List.not_mem_nil) (by first | decide | exact List.not_mem_nil) rfl rfl rfl), trivial⟩, .aggL ⟨.own rfl (by first | decide | exact List.not_mem_nil) rfl rfl, .own rfl (by first | decide | exact List.not_mem_nil) rfl rfl, (Sb.fzD rfl rfl (by first | decide | exact List.not_mem_nil) (by first | decide | exact List.not_mem_nil) rfl rfl rfl), trivial⟩, trivial⟩ rfl trivial (fun _ => ⟨trivial, flat_nil⟩) rfl ?_; refine PR.op rfl (Rd.unnot rfl) ?_; refine PR.nil ?_; refine PT.done ?_; refine PL.nil ?_; refine thA_n ?_; exact ⟨(), trivial, [some 0, some 8, some 5, some 6, some 7, some 13, some 9, some 10, some 11, some 12, some 18, some 14, some 15, some 16, some 17], ⟨rfl, rfl, ⟨⟨_, rfl, rfl, rfl, .mx ⟨.t _, .t _, .t _, trivial⟩⟩, ⟨_, rfl, rfl, rfl, .mx ⟨.os rfl, .os rfl, .os rfl, trivial⟩⟩, ⟨_, rfl, rfl, rfl, .tr _⟩, ⟨_, rfl, rfl, rfl, .tr _⟩, ⟨_, rfl, rfl, rfl, .tr _⟩, ⟨_, rfl, rfl, rfl, .mx ⟨.os rfl, .os rfl, .os rfl, trivial⟩⟩, ⟨_, rfl, rfl, rfl, .tr _⟩, ⟨_, rfl, rfl, rfl, .tr _⟩, ⟨_, rfl, rfl, rfl, .mx (sb_dL rfl 0 _)⟩, ⟨_, rfl, rfl, rfl, .fm _⟩, ⟨_, rfl, rfl, rfl, .mx ⟨.os rfl, .os rfl, .os rfl, trivial⟩⟩, ⟨_, rfl, rfl, rfl, .tr _⟩, ⟨_, rfl, rfl, rfl, .tr _⟩, ⟨_, rfl, rfl, rfl, .mx (sb_dL rfl 0 _)⟩, ⟨_, rfl, rfl, rfl, .fm _⟩, trivial⟩, ⟨.t _, .op rfl, .op rfl, .op rfl, .op rfl, .t _, trivial⟩⟩⟩
  rintro ⟨⟩ -
  rcases cond_some hh0 with ⟨h_19, hh0⟩ | ⟨h_19, hh0⟩; rotate_left
  · refine PC.cond_true rfl (not_f h_19) ?_; refine PC.seq ?_; refine PC.region ?_; refine PL.op rfl (Rd.asnT rfl) ?_; refine PL.nil ?_; refine thA_n ?_; refine PC.ret ?_; refine thA_r ?_; obtain rfl := some_in hh0; exact FinA.mk (r := bA false) (bl := []) [] (.inl rfl) rfl (rl := [.tmp 4]) (.tmp .nil) rfl rfl rfl (.t _) trivial ⟨rfl, rfl⟩
  refine PC.cond_false rfl (not_t h_19) ?_; refine PC.skip ?_; refine thA_n ?_; refine PC.seq ?_; refine PC.region ?_; refine PL.op rfl (Rd.asnT rfl) ?_; refine PL.nil ?_; refine thA_n ?_; refine PC.seq ?_; obtain ⟨r20, h_21, hh0⟩ := bind_some hh0; refine PC.region ?_; refine PL.op rfl (Rd.loadBox rfl rfl rfl) ?_; refine PL.op rfl (Rd.moveT rfl) ?_; refine PL.callM false [6, 7, 8, 9] (w_L_markTable N r8 (1 : Int) r20 h_21) rfl Tryz.call11 rfl ⟨.aggL ⟨.os rfl, .os rfl, .os rfl, trivial⟩, .t _, trivial⟩ rfl ⟨⟨_, rfl, rfl, rfl, .tr _⟩, ⟨_, rfl, rfl, rfl, .tr _⟩, ⟨_, rfl, rfl, rfl, .mx (sb_dL rfl 0 _)⟩, ⟨_, rfl, rfl, rfl, .fm _⟩, trivial⟩ (fun h => by cases h) ?_; refine PL.nm (iA r20.1) [some ⟨.mx [sL p_aT.first, sL p_aT.changes, sL p_aT.rows], 26, 0⟩, some ⟨.mx [.os 2 0 r6.first.length, .os 3 0 r6.changes.length, .os 4 0 r6.rows.length], 34, 0⟩, some ⟨.tr (eL r6.first), 86, 4⟩, some ⟨.tr (eL r6.changes), 89, 6⟩, some ⟨.tr (eL r6.rows), 52, 2⟩, some ⟨.mx [.os 6 0 r8.first.length, .os 7 0 r8.changes.length, .os 8 0 r8.rows.length], 34, 0⟩, some ⟨.tr (eL r20.2.1), 86, 4⟩, some ⟨.tr (eL r20.2.2.1), 89, 6⟩, some ⟨.mx (dL 9 0 r20.2.2.2), 52, 2⟩, some ⟨.fm (fam r20.2.2.2), 84, 3⟩, some ⟨.mx [.os 11 0 r10.first.length, .os 12 0 r10.changes.length, .os 13 0 r10.rows.length], 34, 0⟩, some ⟨.tr (eL r10.first), 86, 4⟩, some ⟨.tr (eL r10.changes), 89, 6⟩, some ⟨.mx (dL 14 0 r10.rows), 52, 2⟩, some ⟨.fm (fam r10.rows), 84, 3⟩] rfl (by (conv => rhs; rw [show dL 9 0 r20.2.2.2 = AV.renL (thet [6, 7, 8, 9] 15) (dL 3 0 r20.2.2.2) from (dL_ren (thet [6, 7, 8, 9] 15) 3 0 r20.2.2.2).symm]); rfl) ?_; refine PL.op rfl (Rd.asnT rfl) ?_; refine PL.nil ?_; refine thA_n ?_; (iterate 2 refine PC.seq ?_); rcases cond_some hh0 with ⟨h_22, hh0⟩ | ⟨h_22, hh0⟩
  · refine PC.region ?_; refine PL.op rfl (Rd.moveT rfl) ?_; refine PL.op rfl (Rd.lss rfl rfl) ?_; refine PL.op rfl (Rd.moveT rfl) ?_; (iterate 4 refine PL.guard_off rfl rfl h_22 ?_); refine PL.op rfl (Rd.pick_t rfl h_22) ?_; refine PL.nil ?_; refine thA_n ?_; refine PC.cond_true rfl rfl ?_; refine PC.seq ?_; refine PC.region ?_; refine PL.op rfl (Rd.asnT rfl) ?_; refine PL.nil ?_; refine thA_n ?_; refine PC.ret ?_; refine thA_r ?_; obtain rfl := some_in hh0; exact FinA.mk (r := bA false) (bl := []) [] (.inl rfl) rfl (rl := [.tmp 4]) (.tmp .nil) rfl rfl rfl (.t _) trivial ⟨rfl, rfl⟩
  obtain ⟨r23, h_24, hh0⟩ := bind_some hh0; refine PC.region ?_; refine PL.op rfl (Rd.moveT rfl) ?_; refine PL.op rfl (Rd.lss rfl rfl) ?_; refine PL.op rfl (Rd.moveT rfl) ?_; refine PL.guard_on rfl h_22 ?_; refine PL.op rfl (Rd.loadBox rfl rfl rfl) ?_; refine PL.guard_on rfl h_22 ?_; refine PL.op rfl (Rd.loadBox rfl rfl rfl) ?_; refine PL.guard_on rfl h_22 ?_; refine PL.callM true [] (w_L_eqTable N r10 r6 r23 h_24) rfl Tryz.call10 rfl ⟨.aggL ⟨.own rfl (by first | decide | exact List.not_mem_nil) rfl rfl, .own rfl (by first | decide | exact List.not_mem_nil) rfl rfl, (Sb.fzD rfl rfl (by first | decide | exact List.not_mem_nil) (by first | decide | exact List.not_mem_nil) rfl rfl rfl), trivial⟩, .aggL ⟨.own rfl (by first | decide | exact List.not_mem_nil) rfl rfl, .own rfl (by first | decide | exact List.not_mem_nil) rfl rfl, .own rfl (by first | decide | exact List.not_mem_nil) rfl rfl, trivial⟩, trivial⟩ rfl trivial (fun _ => ⟨trivial, flat_nil⟩) ?_; refine PL.guard_on rfl h_22 ?_; refine PL.op rfl (Rd.unnot rfl) ?_; refine PL.op rfl (Rd.pick_f rfl h_22) ?_; refine PL.nil ?_; refine thA_n ?_; rcases cond_some hh0 with ⟨h_25, hh0⟩ | ⟨h_25, hh0⟩; rotate_left
  · refine PC.cond_true rfl (not_f h_25) ?_; refine PC.seq ?_; refine PC.region ?_; refine PL.op rfl (Rd.asnT rfl) ?_; refine PL.nil ?_; refine thA_n ?_; refine PC.ret ?_; refine thA_r ?_; obtain rfl := some_in hh0; exact FinA.mk (r := bA false) (bl := []) [] (.inl rfl) rfl (rl := [.tmp 4]) (.tmp .nil) rfl rfl rfl (.t _) trivial ⟨rfl, rfl⟩
  refine PC.cond_false rfl (not_t h_25) ?_; refine PC.skip ?_; refine thA_n ?_; refine PC.seq ?_; refine PC.region ?_; refine PL.op rfl (Rd.asnT rfl) ?_; refine PL.nil ?_; refine thA_n ?_; refine PC.seq ?_; obtain ⟨r26, h_27, hh0⟩ := bind_some hh0; refine PC.region ?_; refine PL.op rfl (Rd.loadBox rfl rfl rfl) ?_; refine PL.op rfl (Rd.moveT rfl) ?_; refine PL.callM false [11, 12, 13, 14] (w_L_markTable N r10 (1 : Int) r26 h_27) rfl Tryz.call11 rfl ⟨.aggL ⟨.os rfl, .os rfl, .os rfl, trivial⟩, .t _, trivial⟩ rfl ⟨⟨_, rfl, rfl, rfl, .tr _⟩, ⟨_, rfl, rfl, rfl, .tr _⟩, ⟨_, rfl, rfl, rfl, .mx (sb_dL rfl 0 _)⟩, ⟨_, rfl, rfl, rfl, .fm _⟩, trivial⟩ (fun h => by cases h) ?_; refine PL.nm (iA r26.1) [some ⟨.mx [sL p_aT.first, sL p_aT.changes, sL p_aT.rows], 26, 0⟩, some ⟨.mx [.os 2 0 r6.first.length, .os 3 0 r6.changes.length, .os 4 0 r6.rows.length], 34, 0⟩, some ⟨.tr (eL r6.first), 86, 4⟩, some ⟨.tr (eL r6.changes), 89, 6⟩, some ⟨.tr (eL r6.rows), 52, 2⟩, some ⟨.mx [.os 6 0 r8.first.length, .os 7 0 r8.changes.length, .os 8 0 r8.rows.length], 34, 0⟩, some ⟨.tr (eL r20.2.1), 86, 4⟩, some ⟨.tr (eL r20.2.2.1), 89, 6⟩, some ⟨.mx (dL 9 0 r20.2.2.2), 52, 2⟩, some ⟨.fm (fam r20.2.2.2), 84, 3⟩, some ⟨.mx [.os 11 0 r10.first.length, .os 12 0 r10.changes.length, .os 13 0 r10.rows.length], 34, 0⟩, some ⟨.tr (eL r26.2.1), 86, 4⟩, some ⟨.tr (eL r26.2.2.1), 89, 6⟩, some ⟨.mx (dL 14 0 r26.2.2.2), 52, 2⟩, some ⟨.fm (fam r26.2.2.2), 84, 3⟩] rfl (by (conv => rhs; rw [show dL 14 0 r26.2.2.2 = AV.renL (thet [11, 12, 13, 14] 15) (dL 3 0 r26.2.2.2) from (dL_ren (thet [11, 12, 13, 14] 15) 3 0 r26.2.2.2).symm]); rfl) ?_; refine PL.op rfl (Rd.asnT rfl) ?_; refine PL.nil ?_; refine thA_n ?_; refine PC.seq ?_; refine PC.region ?_; refine PL.op rfl (Rd.asnT rfl) ?_; refine PL.nil ?_; refine thA_n ?_; refine PC.seq ?_; obtain ⟨r28, h_29, hh0⟩ := bind_some hh0; refine PC.region ?_; refine PL.op rfl (Rd.loadBox rfl rfl rfl) ?_; refine PL.op rfl (Rd.moveT rfl) ?_; refine PL.callM true [] (w_L_heldTable N (I_Table.mk r26.2.1 r26.2.2.1 r26.2.2.2) (1 : Int) r28 h_29) rfl Tryz.call16 rfl ⟨.aggL ⟨.own rfl (by first | decide | exact List.not_mem_nil) (by simp only [List.length_set, len_L_markTable N _ _ _ h_27]) rfl, .own rfl (by first | decide | exact List.not_mem_nil) (by simp only [List.length_set, len_L_markTable N _ _ _ h_27]) rfl, (Sb.fzD rfl rfl (by first | decide | exact List.not_mem_nil) (by first | decide | exact List.not_mem_nil) (by simp only [List.length_set, len_L_markTable N _ _ _ h_27]) rfl rfl), trivial⟩, .t _, trivial⟩ rfl trivial (fun _ => ⟨trivial, flat_nil⟩) ?_; refine PL.op rfl (Rd.asnT rfl) ?_; refine PL.nil ?_; refine thA_n ?_; (iterate 2 refine PC.seq ?_); refine PC.region ?_; refine PL.op rfl (Rd.moveT rfl) ?_; refine PL.op rfl (Rd.lss rfl rfl) ?_; refine PL.nil ?_; refine thA_n ?_; rcases cond_some hh0 with ⟨h_30, hh0⟩ | ⟨h_30, hh0⟩
  · refine PC.cond_true rfl h_30 ?_; refine PC.seq ?_; refine PC.region ?_; refine PL.op rfl (Rd.asnT rfl) ?_; refine PL.nil ?_; refine thA_n ?_; refine PC.ret ?_; refine thA_r ?_; obtain rfl := some_in hh0; exact FinA.mk (r := bA false) (bl := []) [] (.inl rfl) rfl (rl := [.tmp 4]) (.tmp .nil) rfl rfl rfl (.t _) trivial ⟨rfl, rfl⟩
  refine PC.cond_false rfl h_30 ?_; refine PC.skip ?_; refine thA_n ?_; (iterate 2 refine PC.seq ?_); refine PC.region ?_; (iterate 2 refine PL.op rfl (Rd.moveT rfl) ?_); refine PL.op rfl (Rd.neq rfl rfl) ?_; refine PL.nil ?_; refine thA_n ?_; rcases cond_some hh0 with ⟨h_31, hh0⟩ | ⟨h_31, hh0⟩; rotate_left
  · refine PC.cond_true rfl (not_f h_31) ?_; refine PC.seq ?_; refine PC.region ?_; refine PL.op rfl (Rd.asnT rfl) ?_; refine PL.nil ?_; refine thA_n ?_; refine PC.ret ?_; refine thA_r ?_; obtain rfl := some_in hh0; exact FinA.mk (r := bA false) (bl := []) [] (.inl rfl) rfl (rl := [.tmp 4]) (.tmp .nil) rfl rfl rfl (.t _) trivial ⟨rfl, rfl⟩
  refine PC.cond_false rfl (not_t h_31) ?_; refine PC.skip ?_; refine thA_n ?_; refine PC.seq ?_; obtain ⟨r32, h_33, hh0⟩ := bind_some hh0; obtain ⟨r34, h_35, hh0⟩ := bind_some hh0; refine PC.region ?_; refine PL.op rfl (Rd.loadBox rfl rfl rfl) ?_; refine PL.callM false [] (w_L_toTable N p_aT r32 h_33) rfl Tryz.call7 rfl ⟨.aggL ⟨.t _, .t _, .t _, trivial⟩, trivial⟩ rfl trivial (fun h => by cases h) ?_; refine PL.nm (.agg [.os 15 0 r32.first.length, .os 16 0 r32.changes.length, .os 17 0 r32.rows.length]) [some ⟨.mx [sL p_aT.first, sL p_aT.changes, sL p_aT.rows], 26, 0⟩, some ⟨.mx [.os 2 0 r6.first.length, .os 3 0 r6.changes.length, .os 4 0 r6.rows.length], 34, 0⟩, some ⟨.tr (eL r6.first), 86, 4⟩, some ⟨.tr (eL r6.changes), 89, 6⟩, some ⟨.tr (eL r6.rows), 52, 2⟩, some ⟨.mx [.os 6 0 r8.first.length, .os 7 0 r8.changes.length, .os 8 0 r8.rows.length], 34, 0⟩, some ⟨.tr (eL r20.2.1), 86, 4⟩, some ⟨.tr (eL r20.2.2.1), 89, 6⟩, some ⟨.mx (dL 9 0 r20.2.2.2), 52, 2⟩, some ⟨.fm (fam r20.2.2.2), 84, 3⟩, some ⟨.mx [.os 11 0 r10.first.length, .os 12 0 r10.changes.length, .os 13 0 r10.rows.length], 34, 0⟩, some ⟨.tr (eL r26.2.1), 86, 4⟩, some ⟨.tr (eL r26.2.2.1), 89, 6⟩, some ⟨.mx (dL 14 0 r26.2.2.2), 52, 2⟩, some ⟨.fm (fam r26.2.2.2), 84, 3⟩, some ⟨.tr (eL r32.first), 86, 4⟩, some ⟨.tr (eL r32.changes), 89, 6⟩, some ⟨.mx (dL 18 0 r32.rows), 52, 2⟩, some ⟨.fm (fam r32.rows), 84, 3⟩] rfl (by (conv => rhs; rw [show dL 18 0 r32.rows = AV.renL (thet [] 15) (dL 3 0 r32.rows) from (dL_ren (thet [] 15) 3 0 r32.rows).symm]); rfl) ?_; refine PL.op rfl (Rd.moveT rfl) ?_; refine PL.callM true [] (w_I_RewriteRows N r32 p_aMany r34 h_35) rfl Tryz.call15 rfl ⟨.aggL ⟨.own rfl (by first | decide | exact List.not_mem_nil) rfl rfl, .own rfl (by first | decide | exact List.not_mem_nil) rfl rfl, (Sb.fzD rfl rfl (by first | decide | exact List.not_mem_nil) (by first | decide | exact List.not_mem_nil) rfl rfl rfl), trivial⟩, .t _, trivial⟩ rfl trivial (fun _ => ⟨⟨trivial, trivial, trivial, trivial⟩, (flat_cons flat_ow (flat_cons flat_ow (flat_cons flat_dp (flat_cons flat_fm flat_nil))))⟩) ?_; refine PL.nm (.agg [.os 19 0 r34.first.length, .os 20 0 r34.changes.length, .os 21 0 r34.rows.length]) [some ⟨.mx [sL p_aT.first, sL p_aT.changes, sL p_aT.rows], 26, 0⟩, some ⟨.mx [.os 2 0 r6.first.length, .os 3 0 r6.changes.length, .os 4 0 r6.rows.length], 34, 0⟩, some ⟨.tr (eL r6.first), 86, 4⟩, some ⟨.tr (eL r6.changes), 89, 6⟩, some ⟨.tr (eL r6.rows), 52, 2⟩, some ⟨.mx [.os 6 0 r8.first.length, .os 7 0 r8.changes.length, .os 8 0 r8.rows.length], 34, 0⟩, some ⟨.tr (eL r20.2.1), 86, 4⟩, some ⟨.tr (eL r20.2.2.1), 89, 6⟩, some ⟨.mx (dL 9 0 r20.2.2.2), 52, 2⟩, some ⟨.fm (fam r20.2.2.2), 84, 3⟩, some ⟨.mx [.os 11 0 r10.first.length, .os 12 0 r10.changes.length, .os 13 0 r10.rows.length], 34, 0⟩, some ⟨.tr (eL r26.2.1), 86, 4⟩, some ⟨.tr (eL r26.2.2.1), 89, 6⟩, some ⟨.mx (dL 14 0 r26.2.2.2), 52, 2⟩, some ⟨.fm (fam r26.2.2.2), 84, 3⟩, some ⟨.tr (eL r32.first), 86, 4⟩, some ⟨.tr (eL r32.changes), 89, 6⟩, some ⟨.mx (dL 18 0 r32.rows), 52, 2⟩, some ⟨.fm (fam r32.rows), 84, 3⟩, some ⟨.tr (eL r34.first), 86, 4⟩, some ⟨.tr (eL r34.changes), 89, 6⟩, some ⟨.mx (dL 22 0 r34.rows), 52, 2⟩, some ⟨.fm (fam r34.rows), 84, 3⟩] rfl (by (conv => rhs; rw [show dL 22 0 r34.rows = AV.renL (thet [] 19) (dL 3 0 r34.rows) from (dL_ren (thet [] 19) 3 0 r34.rows).symm]); rfl) ?_; refine PL.ef rfl (Ef.alloc rfl rfl) ?_; refine PL.nm (.op 23 0) [some ⟨.mx [sL p_aT.first, sL p_aT.changes, sL p_aT.rows], 26, 0⟩, some ⟨.mx [.os 2 0 r6.first.length, .os 3 0 r6.changes.length, .os 4 0 r6.rows.length], 34, 0⟩, some ⟨.tr (eL r6.first), 86, 4⟩, some ⟨.tr (eL r6.changes), 89, 6⟩, some ⟨.tr (eL r6.rows), 52, 2⟩, some ⟨.mx [.os 6 0 r8.first.length, .os 7 0 r8.changes.length, .os 8 0 r8.rows.length], 34, 0⟩, some ⟨.tr (eL r20.2.1), 86, 4⟩, some ⟨.tr (eL r20.2.2.1), 89, 6⟩, some ⟨.mx (dL 9 0 r20.2.2.2), 52, 2⟩, some ⟨.fm (fam r20.2.2.2), 84, 3⟩, some ⟨.mx [.os 11 0 r10.first.length, .os 12 0 r10.changes.length, .os 13 0 r10.rows.length], 34, 0⟩, some ⟨.tr (eL r26.2.1), 86, 4⟩, some ⟨.tr (eL r26.2.2.1), 89, 6⟩, some ⟨.mx (dL 14 0 r26.2.2.2), 52, 2⟩, some ⟨.fm (fam r26.2.2.2), 84, 3⟩, some ⟨.tr (eL r32.first), 86, 4⟩, some ⟨.tr (eL r32.changes), 89, 6⟩, some ⟨.mx (dL 18 0 r32.rows), 52, 2⟩, some ⟨.fm (fam r32.rows), 84, 3⟩, some ⟨.tr (eL r34.first), 86, 4⟩, some ⟨.tr (eL r34.changes), 89, 6⟩, some ⟨.mx (dL 22 0 r34.rows), 52, 2⟩, some ⟨.fm (fam r34.rows), 84, 3⟩, some ⟨.mx [.t (.v (.slice none 0 0)), .t (.v (.slice none 0 0)), .t (.v (.slice none 0 0))], 34, 0⟩] rfl rfl ?_; refine PL.store rfl rfl rfl rfl rfl rfl rfl ?_; refine PL.nO [some ⟨.mx [sL p_aT.first, sL p_aT.changes, sL p_aT.rows], 26, 0⟩, some ⟨.mx [.os 2 0 r6.first.length, .os 3 0 r6.changes.length, .os 4 0 r6.rows.length], 34, 0⟩, some ⟨.tr (eL r6.first), 86, 4⟩, some ⟨.tr (eL r6.changes), 89, 6⟩, some ⟨.tr (eL r6.rows), 52, 2⟩, some ⟨.mx [.os 6 0 r8.first.length, .os 7 0 r8.changes.length, .os 8 0 r8.rows.length], 34, 0⟩, some ⟨.tr (eL r20.2.1), 86, 4⟩, some ⟨.tr (eL r20.2.2.1), 89, 6⟩, some ⟨.mx (dL 9 0 r20.2.2.2), 52, 2⟩, some ⟨.fm (fam r20.2.2.2), 84, 3⟩, some ⟨.mx [.os 11 0 r10.first.length, .os 12 0 r10.changes.length, .os 13 0 r10.rows.length], 34, 0⟩, some ⟨.tr (eL r26.2.1), 86, 4⟩, some ⟨.tr (eL r26.2.2.1), 89, 6⟩, some ⟨.mx (dL 14 0 r26.2.2.2), 52, 2⟩, some ⟨.fm (fam r26.2.2.2), 84, 3⟩, some ⟨.tr (eL r32.first), 86, 4⟩, some ⟨.tr (eL r32.changes), 89, 6⟩, some ⟨.mx (dL 18 0 r32.rows), 52, 2⟩, some ⟨.fm (fam r32.rows), 84, 3⟩, some ⟨.tr (eL r34.first), 86, 4⟩, some ⟨.tr (eL r34.changes), 89, 6⟩, some ⟨.mx (dL 22 0 r34.rows), 52, 2⟩, some ⟨.fm (fam r34.rows), 84, 3⟩, some ⟨.mx [.os 19 0 r34.first.length, .os 20 0 r34.changes.length, .os 21 0 r34.rows.length], 34, 0⟩] rfl ?_; refine PL.nil ?_; refine thA_n ?_; (iterate 2 refine PC.seq ?_); obtain ⟨r36, h_37, hh0⟩ := bind_some hh0; refine PC.region ?_; (iterate 2 refine PL.op rfl (Rd.loadBox rfl rfl rfl) ?_); refine PL.callM true [] (w_L_eqTable N r34 r6 r36 h_37) rfl Tryz.call10 rfl ⟨.aggL ⟨.own rfl (by first | decide | exact List.not_mem_nil) rfl rfl, .own rfl (by first | decide | exact List.not_mem_nil) rfl rfl, (Sb.fzD rfl rfl (by first | decide | exact List.not_mem_nil) (by first | decide | exact List.not_mem_nil) rfl rfl rfl), trivial⟩, .aggL ⟨.own rfl (by first | decide | exact List.not_mem_nil) rfl rfl, .own rfl (by first | decide | exact List.not_mem_nil) rfl rfl, .own rfl (by first | decide | exact List.not_mem_nil) rfl rfl, trivial⟩, trivial⟩ rfl trivial (fun _ => ⟨trivial, flat_nil⟩) ?_; refine PL.op rfl (Rd.unnot rfl) ?_; refine PL.nil ?_; refine thA_n ?_; rcases cond_some hh0 with ⟨h_38, hh0⟩ | ⟨h_38, hh0⟩; rotate_left
  · refine PC.cond_true rfl (not_f h_38) ?_; refine PC.seq ?_; refine PC.region ?_; refine PL.op rfl (Rd.asnT rfl) ?_; refine PL.nil ?_; refine thA_n ?_; refine PC.ret ?_; refine thA_r ?_; obtain rfl := some_in hh0; exact FinA.mk (r := bA false) (bl := []) [] (.inl rfl) rfl (rl := [.tmp 4]) (.tmp .nil) rfl rfl rfl (.t _) trivial ⟨rfl, rfl⟩
  refine PC.cond_false rfl (not_t h_38) ?_; refine PC.skip ?_; refine thA_n ?_; refine PC.seq ?_; refine PC.region ?_; refine PL.op rfl (Rd.asnT rfl) ?_; refine PL.nil ?_; refine thA_n ?_; refine PC.seq ?_; obtain ⟨r39, h_40, hh0⟩ := bind_some hh0; refine PC.region ?_; refine PL.op rfl (Rd.loadBox rfl rfl rfl) ?_; refine PL.op rfl (Rd.moveT rfl) ?_; refine PL.callM true [] (w_L_heldTable N (I_Table.mk r26.2.1 r26.2.2.1 r26.2.2.2) (1 : Int) r39 h_40) rfl Tryz.call16 rfl ⟨.aggL ⟨.own rfl (by first | decide | exact List.not_mem_nil) (by simp only [List.length_set, len_L_markTable N _ _ _ h_27]) rfl, .own rfl (by first | decide | exact List.not_mem_nil) (by simp only [List.length_set, len_L_markTable N _ _ _ h_27]) rfl, (Sb.fzD rfl rfl (by first | decide | exact List.not_mem_nil) (by first | decide | exact List.not_mem_nil) (by simp only [List.length_set, len_L_markTable N _ _ _ h_27]) rfl rfl), trivial⟩, .t _, trivial⟩ rfl trivial (fun _ => ⟨trivial, flat_nil⟩) ?_; refine PL.op rfl (Rd.asnT rfl) ?_; refine PL.nil ?_; refine thA_n ?_; (iterate 2 refine PC.seq ?_); refine PC.region ?_; refine PL.op rfl (Rd.moveT rfl) ?_; refine PL.op rfl (Rd.lss rfl rfl) ?_; refine PL.nil ?_; refine thA_n ?_; rcases cond_some hh0 with ⟨h_41, hh0⟩ | ⟨h_41, hh0⟩
  · refine PC.cond_true rfl h_41 ?_; refine PC.seq ?_; refine PC.region ?_; refine PL.op rfl (Rd.asnT rfl) ?_; refine PL.nil ?_; refine thA_n ?_; refine PC.ret ?_; refine thA_r ?_; obtain rfl := some_in hh0; exact FinA.mk (r := bA false) (bl := []) [] (.inl rfl) rfl (rl := [.tmp 4]) (.tmp .nil) rfl rfl rfl (.t _) trivial ⟨rfl, rfl⟩
  refine PC.cond_false rfl h_41 ?_; refine PC.skip ?_; refine thA_n ?_; (iterate 2 refine PC.seq ?_); refine PC.region ?_; (iterate 2 refine PL.op rfl (Rd.moveT rfl) ?_); refine PL.op rfl (Rd.neq rfl rfl) ?_; refine PL.nil ?_; refine thA_n ?_; rcases cond_some hh0 with ⟨h_42, hh0⟩ | ⟨h_42, hh0⟩; rotate_left
  · refine PC.cond_true rfl (not_f h_42) ?_; refine PC.seq ?_; refine PC.region ?_; refine PL.op rfl (Rd.asnT rfl) ?_; refine PL.nil ?_; refine thA_n ?_; refine PC.ret ?_; refine thA_r ?_; obtain rfl := some_in hh0; exact FinA.mk (r := bA false) (bl := []) [] (.inl rfl) rfl (rl := [.tmp 4]) (.tmp .nil) rfl rfl rfl (.t _) trivial ⟨rfl, rfl⟩
  refine PC.cond_false rfl (not_t h_42) ?_; refine PC.skip ?_; refine thA_n ?_; refine PC.seq ?_; refine PC.region ?_; refine PL.op rfl (Rd.asnT rfl) ?_; refine PL.nil ?_; refine thA_n ?_; refine PC.ret ?_; obtain rfl := some_in hh0; exact FinA.mk (r := bA true) (bl := []) [] (.inl rfl) rfl (rl := [.tmp 4]) (.tmp .nil) rfl rfl rfl (.t _) trivial ⟨rfl, rfl⟩
end V
end Go.Proofs.YtikobdnhflcnmaaGreatDoor
namespace Go.Proofs.YtikobdnhflcnmaaGreatDoor
namespace V
set_option linter.unusedVariables false
set_option linter.unusedSimpArgs false
set_option maxHeartbeats 1000000
open Szd (szd)
theorem cL_leM {α : Type} {c : α → Nat} {m : Nat} : ∀ {l : List α}, (∀ x ∈ l, c x ≤ m) → cL c l ≤ m * l.length
  | [], _ => Nat.zero_le _
  | x :: l, h => by
    have h1 := h x (.head _)
    have h2 := cL_leM (l := l) fun y hy => h y (.tail _ hy)
    simp only [cL, List.length_cons, Nat.mul_add]
    omega
theorem bL.mt {t : L_Table} (h : bL t) : MT (tTab t) := by
  have h1 := h.f.1
  have h2 := h.c.1
  have h3 := h.r.1
  have h4 := h.s
  refine ⟨by show (t.first.map tCol).length ≤ _; simp; omega, by show (t.changes.map tChg).length ≤ _; simp; omega, by show (t.rows.map tTag).length ≤ _; simp; omega, ?_⟩
  have hc : ∀ l : List L_Tagged, cL cTag (l.map tTag) = l.length + 3 * cL (fun r : L_Tagged => r.row.length) l := by
    intro l
    induction l with
    | nil => rfl
    | cons x l ih => simp only [List.map_cons, cL, ih, cTag, tTag, List.length_map, List.length_cons]; omega
  show cL cTag (t.rows.map tTag) ≤ _
  rw [hc]; omega
theorem noT_mt : MT noT := ⟨Nat.zero_le _, Nat.zero_le _, Nat.zero_le _, Nat.zero_le _⟩
theorem tV_row {t : I_Table} (h : tV t) : ∀ x ∈ t.rows, x.row.length ≤ 5 := by
  intro x hx
  obtain ⟨i, hi, rfl⟩ := List.mem_iff_getElem.1 hx
  have h1 := h.2.2 i hi
  have h2 := (cO_fA h.1 (i := t.rows[i].tag.toNat) (by have := h1.2.1; omega)).1
  have h3 := h1.2.2.1
  omega
theorem tV_mt {t : I_Table} (h : tV t) : MT t := by
  have h1 := h.1.1.1
  have h2 := h.1.2.1
  have h3 := h.2.1
  refine ⟨by omega, by omega, by omega, ?_⟩
  have h4 : cL cTag t.rows ≤ 16 * t.rows.length := cL_leM fun x hx => by have := tV_row h x hx; unfold cTag; omega
  omega
section
variable {N : Nat} (hN : 100000000 ≤ N)
include hN
omit hN in
theorem rewR {t : I_Table} (k : Int) (hb : bT t) : MT (if tV t ∧ 0 ≤ k then rwT t k.toNat else noT) ∧ bT (if tV t ∧ 0 ≤ k then rwT t k.toNat else noT) := by
  split
  · rename_i h
    have hv := rwT_v h.1 k.toNat
    exact ⟨tV_mt hv, tV_bT hv hb.c⟩
  · exact ⟨noT_mt, noT_b⟩
theorem lawFnExactRewriteRows (t : L_Table) (hs : szd t) (k : Int) (hk : szd k) : m_L_FnExactRewriteRows N t k = some true := by
  refine ok.val ?_
  unfold m_L_FnExactRewriteRows
  refine ok.call (szTab hN hs (by omega) (by omega)) ?_
  rintro r (rfl | ⟨h0, h1, hb⟩)
  · exact ok.ift (by decide) (ok.some rfl)
  refine ok.iff (by omega) ?_
  obtain ⟨hg, hgb⟩ := rewR k hb.bT
  have hk' : k ≤ 9223372036854775807 := hk.2
  have e1 := tTab_eq hN hb
  have e3 := xTab hN hb.bT
  have e4 := xTab hN hgb
  have e5 := markTab hN hb.mt
  have e6 := markTab hN hg
  have e7 := heldTab hN hg
  have e8 := rewS hN hb.bT hk'
  have e9 := rewI hN hb.bT hk'
  repeat' (first | (with_reducible refine ok.some ?_) | (with_reducible refine ok.eq e1 ?_) | (with_reducible refine ok.eq e8 ?_) | (with_reducible refine ok.eq e9 ?_) | (with_reducible refine ok.eq e4 ?_) | (with_reducible refine ok.eq e3 ?_) | (with_reducible refine ok.bt (beq_self_eq_true _) ?_) | (with_reducible refine ok.bt rfl ?_) | (with_reducible refine ok.eq e5 ?_) | (with_reducible refine ok.eq e6 ?_) | (with_reducible refine ok.eq e7 ?_) | (with_reducible refine ok.iff (by omega) ?_) | (with_reducible refine ok.ift rfl ?_) | (with_reducible refine ok.ite (fun hc => ?_) (fun hc => ?_)) | (with_reducible refine ok.cond (fun hc => ?_) (fun hc => ?_)) | (with_reducible refine ok.chk (by omega) ?_) | (with_reducible refine ok.bs ?_) | (with_reducible refine ok.remM (by omega) (fun _ hq => ?_)) | (with_reducible refine ok.quoM (by omega) (fun _ hq => ?_)) | (with_reducible refine ok.ix (by omega) (by omega) (fun q hq he => ?_)))
  all_goals rfl
omit hN in
theorem rowsR (t : I_Table) : (tR t).length ≤ 10 ∧ ∀ x ∈ tR t, x.length ≤ 5 := by
  unfold tR
  split
  · rename_i h
    have h1 := h.2.1
    refine ⟨by simp; omega, fun x hx => ?_⟩
    obtain ⟨y, hy, rfl⟩ := List.mem_map.1 hx
    obtain ⟨i, hi, rfl⟩ := List.mem_iff_getElem.1 hy
    have h2 := (adv_fit h (h.2.2 i hi)).1
    have h3 := (fL_v h).1
    omega
  · exact ⟨Nat.zero_le _, fun x hx => by cases hx⟩
theorem xRows {r : List (List I_Value)} (hl : r.length ≤ 5000000) (h : ∀ x ∈ r, x.length ≤ 5000000) : m_L_eqValueSS N r r = some true := by
  refine ok.val ?_
  unfold m_L_eqValueSS
  refine ok.ift rfl (ok.eq (loop_self (n := r.length) (by omega) (fun i hi => ?_) ?_) (ok.some rfl))
  · show m_L_eqValueSS_b1 N r r (i : Int) = _
    unfold m_L_eqValueSS_b1
    exact ok.val (ok.ift (by omega) (ok.eq (ixI_nat hi) (ok.eq (ixI_nat hi) (ok.eq (xVals hN (h _ (List.getElem_mem hi))) (ok.bt rfl (ok.chk (by omega) (ok.some rfl)))))))
  · show m_L_eqValueSS_b1 N r r _ = _
    unfold m_L_eqValueSS_b1
    rw [decide_eq_false (by omega)]; rfl
theorem lawFnExactTableRows (t : L_Table) (hs : szd t) : m_L_FnExactTableRows N t = some true := by
  refine ok.val ?_
  unfold m_L_FnExactTableRows
  refine ok.call (szTab hN hs (by omega) (by omega)) ?_
  rintro r (rfl | ⟨h0, h1, hb⟩)
  · exact ok.ift (by decide) (ok.some rfl)
  refine ok.iff (by omega) ?_
  obtain ⟨hl, hx⟩ := rowsR (tTab t)
  have hc : cL cRow (tR (tTab t)) ≤ 12000000 := by
    have : cL cRow (tR (tTab t)) ≤ 15 * (tR (tTab t)).length := cL_leM fun x h => by have := hx x h; unfold cRow; omega
    omega
  have e1 := tTab_eq hN hb
  have e3 := xTab hN hb.bT
  have e4 := xRows hN (r := tR (tTab t)) (by omega) (fun x h => by have := hx x h; omega)
  have e5 := markTab hN hb.mt
  have e6 := markRow hN (a := tR (tTab t)) (by omega) (k0 := 1) (by omega) hc
  have e7 := heldRow hN (a := tR (tTab t)) (by omega) (k0 := 1) (by omega) hc
  have e8 := rowsS hN hb.bT
  have e9 := rowsI hN hb.bT
  repeat' (first | (with_reducible refine ok.some ?_) | (with_reducible refine ok.eq e1 ?_) | (with_reducible refine ok.eq e8 ?_) | (with_reducible refine ok.eq e9 ?_) | (with_reducible refine ok.eq e4 ?_) | (with_reducible refine ok.eq e3 ?_) | (with_reducible refine ok.bt (beq_self_eq_true _) ?_) | (with_reducible refine ok.bt rfl ?_) | (with_reducible refine ok.eq e5 ?_) | (with_reducible refine ok.eq e6 ?_) | (with_reducible refine ok.eq e7 ?_) | (with_reducible refine ok.iff (by omega) ?_) | (with_reducible refine ok.ift rfl ?_) | (with_reducible refine ok.ite (fun hc => ?_) (fun hc => ?_)) | (with_reducible refine ok.cond (fun hc => ?_) (fun hc => ?_)) | (with_reducible refine ok.chk (by omega) ?_) | (with_reducible refine ok.bs ?_) | (with_reducible refine ok.remM (by omega) (fun _ hq => ?_)) | (with_reducible refine ok.quoM (by omega) (fun _ hq => ?_)) | (with_reducible refine ok.ix (by omega) (by omega) (fun q hq he => ?_)))
  all_goals rfl
end
end V
end Go.Proofs.YtikobdnhflcnmaaGreatDoor
