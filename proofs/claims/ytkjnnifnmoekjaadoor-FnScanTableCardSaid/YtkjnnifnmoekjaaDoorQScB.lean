/- What the rows need, part 2. No condition. -/
import Derived.Test.YtkjnnifnmoekjaaDoorRows
import Derived.ProofKit
import Derived.Deep.Slices
import Derived.LaidMore
import Derived.LaidSub
import Derived.LaidHandle
import Derived.OpenShut
import Derived.Lib.LaidTab
import Derived.Laws.StructEq
import Derived.ChangeKeysEq
import Derived.Laws.BytesArg
import Derived.Deep.AppendSrc
import Derived.Lib.AppendZerosOnto
import Derived.Lib.Overlaps
import Derived.Laws.IdiomCopy
import Derived.Laws.CopyRow
import Derived.Test.YtkjnnifnmoekjaaDoorQScA
namespace Go.Proofs.YtkjnnifnmoekjaaDoor
namespace V
set_option linter.unusedVariables false
set_option linter.unusedSimpArgs false
open Go.RowKit
section
variable {P : Program} {ops : Array Oper} {md : Region.Mode} {X : List Nat} {n : Nat}
/-- An operation yields v now and in all later worlds. -/
def Stb (P : Program) (ops : Array Oper) (X : List Nat) (o : Oper) (a : Act) (w : World) (v : Value) : Prop :=
  (Region.wanted o (yielded ops a.tmps) = true ∧ ∀ w', BelowX X w w' → nv w' v ((execOp a.eval o).run P w')) ∨ (Region.wanted o (yielded ops a.tmps) = false ∧ v = undef)
def XX (X : List Nat) (w : World) (X' : List Nat) : Prop := ∀ k, k ∈ X' → k ∈ X ∨ w.heap.size ≤ k
theorem XX.refl {w : World} : XX X w X := fun _ h => .inl h
theorem XX.trans {X' : List Nat} {w w' w2 : World} (h : XX X w X') (hb : BelowX X w w') (k : BelowX X' w' w2) : BelowX X w w2 :=
  ⟨k.os.trans hb.os, k.tape.trans hb.tape, k.output.trans hb.output, Nat.le_trans hb.size k.size, fun i hi hx => (k.block i (Nat.lt_of_lt_of_le hi hb.size) (fun hm => (h i hm).elim hx (fun hge => by omega))).trans (hb.block i hi hx)⟩
/-- It turns memory, but for 'X' only by what is new. What is new may join 'X'. -/
def Trn (P : Program) (ops : Array Oper) (X : List Nat) (o : Oper) (a : Act) (w : World) (K : List Nat → Act → World → Prop) : Prop :=
  Region.wanted o (yielded ops a.tmps) = true ∧ ((∃ f args, (execOp a.eval o).run P w = .ok (.enter f args) w ∧ Calls P f args w fun e w' => ∃ v X', e = .returned v ∧ BelowX X w w' ∧ XX X w X' ∧ K X' (a.put o.dst v) w') ∨
    ∃ v w' X', ((execOp a.eval o).run P w = .ok (.value v) w' ∨ (execOp a.eval o).run P w = .ok .skip w' ∧ o.dst = none) ∧ BelowX X w w' ∧ XX X w X' ∧ K X' (a.put o.dst v) w')
def gOp (P : Program) (ops : Array Oper) (X : List Nat) (i : Nat) (K : List Nat → Act → World → Prop) (a : Act) (w : World) : Prop :=
  match ops[i]? with
  | none => K X a w
  | some o => (∃ v, Stb P ops [] o a w v ∧ K X (a.put o.dst v) w) ∨ Trn P ops X o a w K
def anyG (P : Program) (md : Region.Mode) (ops : Array Oper) (n : Nat) (L : Array Bool → Act → World → Prop) : Nat → Array Bool → List Nat → Act → World → Prop
  | 0, listed, _, a, w => L listed a w
  | f + 1, listed, X, a, w => Region.ready md ops listed ≠ [] ∧ ∀ i ∈ Region.ready md ops listed, i < n ∧ gOp P ops X i (anyG P md ops n L f (listed.setIfInBounds i true)) a w
theorem Stb.nilX {o : Oper} {a : Act} {w : World} {v : Value} (h : Stb P ops X o a w v) : Stb P ops [] o a w v := by
  rcases h with ⟨h1, h2⟩ | h
  · exact .inl ⟨h1, fun w' hw => h2 w' ⟨hw.os, hw.tape, hw.output, hw.size, fun k hk hx => hw.block k hk (by simp)⟩⟩
  · exact .inr h
theorem Stb.later {X' : List Nat} {o : Oper} {a : Act} {w w' : World} {v : Value} (hw : BelowX X w w') (hx : XX X w X') (h : Stb P ops X o a w v) : Stb P ops X' o a w' v := by
  rcases h with ⟨h1, h2⟩ | h
  · exact .inl ⟨h1, fun w2 hw2 => h2 w2 (hx.trans hw hw2)⟩
  · exact .inr h
theorem Stb.same {o : Oper} {a a' : Act} {w : World} {v : Value} (h : Stb P ops X o a w v) (he : execOp a'.eval o = execOp a.eval o) (hw : Region.wanted o (yielded ops a'.tmps) = Region.wanted o (yielded ops a.tmps)) : Stb P ops X o a' w v := by
  unfold Stb at *; rw [he, hw]; exact h
theorem Trn.same {o : Oper} {a a' : Act} {w : World} {K K' : List Nat → Act → World → Prop} (h : Trn P ops X o a w K) (he : execOp a'.eval o = execOp a.eval o) (hw : Region.wanted o (yielded ops a'.tmps) = Region.wanted o (yielded ops a.tmps)) (hK : ∀ v w' X', BelowX X w w' → XX X w X' → K X' (a.put o.dst v) w' → K' X' (a'.put o.dst v) w') : Trn P ops X o a' w K' := by
  unfold Trn at *; rw [he, hw]
  refine ⟨h.1, ?_⟩
  rcases h.2 with ⟨f, args, h1, h2⟩ | ⟨v, w', X', h1, h2, h4, h3⟩
  · exact .inl ⟨f, args, h1, h2.mono fun e w' ⟨v, X', g1, g2, g4, g3⟩ => ⟨v, X', g1, g2, g4, hK v w' X' g2 g4 g3⟩⟩
  · exact .inr ⟨v, w', X', h1, h2, h4, hK v w' X' h2 h4 h3⟩
theorem wpOp_of_gOp {i : Nat} {a : Act} {w : World} {K : List Nat → Act → World → Prop} {K' : Act → World → Prop} {Q' : Exit → Act → World → Prop} (h : ∀ X a w, K X a w → K' a w) (hh : gOp P ops X i K a w) : wpOp P ops Q' i K' a w := by
  unfold gOp at hh
  unfold wpOp
  split
  · rename_i e; simp only [e] at hh; exact h _ _ _ hh
  · rename_i o e
    simp only [e] at hh
    rcases hh with ⟨v, hs, hk⟩ | ⟨hw, ht⟩
    · rcases hs with ⟨hw, h1⟩ | ⟨hw, rfl⟩
      · rw [if_pos hw]
        left
        have h2 := h1 w (BelowX.refl _ _)
        unfold Oper.wp
        generalize (execOp a.eval o).run P w = r at *
        cases r with
        | ok x w' =>
          cases x <;> simp only [nv] at h2 <;> first | exact h2.elim | simp only [Oper.upon]
          · obtain ⟨e1, e2⟩ := h2; rw [e1, e2]; exact h _ _ _ hk
          · obtain ⟨e1, e2⟩ := h2; rw [e1]; subst e2; exact h _ _ _ hk
        | halt x w' => simp only [nv] at h2
      · rw [if_neg (by simp [hw])]
        exact h _ _ _ hk
    · rw [if_pos hw]
      left
      unfold Oper.wp
      rcases ht with ⟨f, args, h1, h2⟩ | ⟨v, w', X', h1, _, _, h3⟩
      · rw [h1]
        simp only [Oper.upon]
        exact h2.mono fun e w' ⟨v, X', he, _, _, hk⟩ => by subst he; exact h _ _ _ hk
      · rcases h1 with h1 | ⟨h1, h4⟩
        · rw [h1]
          simp only [Oper.upon]
          exact h _ _ _ h3
        · rw [h1]
          simp only [Oper.upon]
          rw [h4] at h3 ⊢
          exact h _ _ _ h3
theorem wpAny_of_anyG {g : Nat} {L : Array Bool → Act → World → Prop} {Q' : Exit → Act → World → Prop} (hL : ∀ listed a w, L listed a w → wpAny P md ops Q' g listed a w) :
    ∀ (f : Nat) (listed : Array Bool) (X : List Nat) (a : Act) (w : World), anyG P md ops n L f listed X a w → wpAny P md ops Q' (f + g) listed a w
  | 0, listed, X, a, w, h => by rw [Nat.zero_add]; exact hL _ _ _ h
  | f + 1, listed, X, a, w, h => by
    rw [show f + 1 + g = (f + g) + 1 by omega]
    exact ⟨fun h0 => absurd h0 h.1, fun i hi => wpOp_of_gOp (fun X' a' w' h' => wpAny_of_anyG hL f _ X' a' w' h') (h.2 i hi).2⟩
/-- What only reads may be taken first. -/
theorem anyG_first {i : Nat} {oi : Oper} {L : Array Bool → Act → World → Prop} (hi : ops[i]? = some oi) (hsel : ∀ (j : Nat) (o : Oper) cs b, ops[j]? = some o → o.op ≠ .select cs b) (hin : i < n)
    (hlate : ∀ listed, HeadInv md ops n listed → listed.getD i true = false → ∀ t, n ≤ t → t ∉ Region.ready md ops listed)
    (hdone : ∀ listed a w, L listed a w → ∀ j ∈ Region.ready md ops listed, n ≤ j) :
    ∀ (f : Nat) (listed : Array Bool) (X : List Nat) (a : Act) (w : World) (v : Value), HeadInv md ops n listed →
      (∀ j oj, ops[j]? = some oj → j ≠ i → listed.getD j true = false → (∀ e ∈ oj.after, Region.binds md e = true → e.on ≠ i) → oi.apart ops oj = true) →
      i ∈ Region.ready md ops listed → Stb P ops X oi a w v →
      anyG P md ops n L f (listed.setIfInBounds i true) X (a.put oi.dst v) w → anyG P md ops n L (f + 1) listed X a w := by
  intro f
  induction f with
  | zero =>
    intro listed X a w v inv _ hr hy H
    have hun := (mem_ready.1 hr).1
    refine ⟨fun h => (by rw [h] at hr; cases hr), fun j hj => ?_⟩
    have hjn : j < n := by
      rcases Nat.lt_or_ge j n with h | h
      · exact h
      · exact absurd hj (hlate _ inv hun j h)
    refine ⟨hjn, ?_⟩
    by_cases hji : j = i
    · subst hji
      unfold gOp; simp only [hi]
      exact .inl ⟨v, hy.nilX, H⟩
    · have := hdone _ _ _ H j (ready_mono hj hji)
      omega
  | succ f ih =>
    intro listed X a w v inv hfree hr hy H
    have hun := (mem_ready.1 hr).1
    refine ⟨fun h => (by rw [h] at hr; cases hr), fun j hj => ?_⟩
    have hjn : j < n := by
      rcases Nat.lt_or_ge j n with h | h
      · exact h
      · exact absurd hj (hlate _ inv hun j h)
    refine ⟨hjn, ?_⟩
    by_cases hji : j = i
    · subst hji
      unfold gOp; simp only [hi]
      exact .inl ⟨v, hy.nilX, H⟩
    · obtain ⟨hjun, oj, hoj, hall⟩ := mem_ready.1 hj
      have hnot : ∀ e ∈ oj.after, Region.binds md e = true → e.on ≠ i := fun e he hb heq => by
        have h1 := hall e he hb
        rw [heq, getD_both hun] at h1
        cases h1
      obtain ⟨h1, h2, h3⟩ := Oper.apart_spec (hfree j oj hoj hji hjun hnot)
      have hsi := fun cs b => hsel i oi cs b hi
      have hsj := fun cs b => hsel j oj cs b hoj
      have hfree' : ∀ k ok, ops[k]? = some ok → k ≠ i → (listed.setIfInBounds j true).getD k true = false →
          (∀ e ∈ ok.after, Region.binds md e = true → e.on ≠ i) → oi.apart ops ok = true := fun k ok hk hki hun hno => by
        refine hfree k ok hk hki ?_ hno
        by_cases hjk : j = k
        · subst hjk; exact hjun
        · rw [getD_set_ne true hjk] at hun; exact hun
      have hj2 := (H.2 j (ready_mono hj hji)).2
      unfold gOp at hj2 ⊢
      simp only [hoj] at hj2 ⊢
      have cont : ∀ u w' X', BelowX X w w' → XX X w X' → anyG P md ops n L f ((listed.setIfInBounds i true).setIfInBounds j true) X' ((a.put oi.dst v).put oj.dst u) w' → anyG P md ops n L (f + 1) (listed.setIfInBounds j true) X' (a.put oj.dst u) w' := by
        intro u w' X' hb hx hk
        refine ih (listed.setIfInBounds j true) X' (a.put oj.dst u) w' v (inv.set hj hjn) hfree' (ready_mono hr (Ne.symm hji)) ((hy.later hb hx).same (execOp_put oi hsi a oj.dst u h3) (wanted_put oi a oj.dst u h3)) ?_
        rw [Array.setIfInBounds_comm _ _ hji, ← Act.put_comm a v u h2]
        exact hk
      rcases hj2 with ⟨u, hs, hk⟩ | ht
      · exact .inl ⟨u, hs.same (execOp_put oj hsj a oi.dst v h1).symm (wanted_put oj a oi.dst v h1).symm, cont u w X (BelowX.refl _ _) XX.refl hk⟩
      · exact .inr (ht.same (execOp_put oj hsj a oi.dst v h1).symm (wanted_put oj a oi.dst v h1).symm (fun u w' X' hb hx hk => cont u w' X' hb hx hk))
/-- Structs whose reading as a whole is ordered like a step that turns memory. -/
def effLoad (t : Nat) : Bool := false
  || Nat.beq t 27
def isEff (o : Oper) : Bool := match o.op with
  | .load t _ => effLoad t
  | .call { callee := .value _, .. } => true
  | .call { callee := .builtin .append, .. } => true
  | .alloc _ | .box _ _ | .buildSlice _ _ _ | .makeSlice _ _ _ | .store _ _ _ => true
  | _ => false
def nth (l : List Oper) (i : Nat) : Option Oper := match l, i with
  | [], _ => none
  | o :: _, 0 => some o
  | _ :: l, i + 1 => nth l i
theorem nth_eq : ∀ (l : List Oper) (i : Nat), nth l i = l[i]?
  | [], i => by simp [nth]
  | o :: l, 0 => by simp [nth]
  | o :: l, i + 1 => by simp [nth, nth_eq l i]
/-- The operations in an order. -/
def sel (l : List Oper) : List Nat → List Oper
  | [] => []
  | i :: r => match nth l i with
    | some o => o :: sel l r
    | none => sel l r
def ordB (md : Region.Mode) (ops : Array Oper) (n : Nat) (E : Array Bool → Bool) : Bool → List Nat → Array Bool → Bool
  | ins, [], listed => !ins && E listed
  | ins, i :: r, listed => (match ops[i]? with
    | some o => decide (i < n) && (if isEff o then (if ins then (Region.ready md ops listed).contains i else decide (Region.ready md ops listed = [i])) else !ins && (Region.ready md ops listed).contains i && Region.free md ops listed i)
    | none => false) && ordB md ops n E false r (listed.setIfInBounds i true)
def gList (P : Program) (ops : Array Oper) (Q : List Nat → Act → World → Prop) : List Oper → List Nat → Act → World → Prop
  | [], X, a, w => Q X a w
  | o :: r, X, a, w => (∃ v, Stb P ops X o a w v ∧ gList P ops Q r X (a.put o.dst v) w) ∨ (isEff o = true ∧ Trn P ops X o a w (gList P ops Q r))
/-- The orders of a region's heads: where what turns memory can come up in more than one order, each is walked. -/
inductive Ot where
  | done
  | seg (ord : List Nat) (t : Ot)
  | fork (a b : Ot)
def Ot.first : Ot → List Nat
  | .seg (i :: _) _ => [i]
  | .fork a b => a.first ++ b.first
  | _ => []
def Ot.ok (md : Region.Mode) (ops : Array Oper) (g n : Nat) : Ot → Nat → Bool → Array Bool → Bool
  | .done, f, ins, listed => !ins && Nat.beq f 0 && Region.seqB md ops g n listed
  | .seg ord t, f, ins, listed => Nat.ble ord.length f && ordB md ops n (t.ok md ops g n (f - ord.length) false) ins ord listed
  | .fork a b, f, ins, listed => (ins || (!(Region.ready md ops listed).isEmpty && (Region.ready md ops listed).all (fun i => (a.first ++ b.first).contains i))) && a.ok md ops g n f true listed && b.ok md ops g n f true listed
def gT (P : Program) (l : List Oper) (Q : List Nat → Act → World → Prop) : Ot → List Nat → Act → World → Prop
  | .done => Q
  | .seg ord t => gList P l.toArray (gT P l Q t) (sel l ord)
  | .fork a b => fun X A w => gT P l Q a X A w ∧ gT P l Q b X A w
section
variable {g : Nat} {Q : List Nat → Act → World → Prop} {l : List Oper} {L : Array Bool → Act → World → Prop} {E : Array Bool → Bool} {fe : Nat}
/-- One step that turns memory. -/
theorem gOp_of {i : Nat} {o : Oper} {a : Act} {w : World} {r : List Oper} {K : List Nat → Act → World → Prop} (ho : ops[i]? = some o) (ih : ∀ X a w, gList P ops Q r X a w → K X a w) (h : gList P ops Q (o :: r) X a w) : gOp P ops X i K a w := by
  unfold gOp; simp only [ho]
  rcases h with ⟨v, h1, h2⟩ | ⟨_, h2⟩
  · exact .inl ⟨v, h1.nilX, ih _ _ _ h2⟩
  · exact .inr (h2.same rfl rfl (fun v w' X' _ _ hk => ih _ _ _ hk))
theorem anyG_ord (hsel : Region.noSelect ops = true) (hlate : ∀ i, i < n → ∀ listed, HeadInv md ops n listed → listed.getD i true = false → ∀ t, n ≤ t → t ∉ Region.ready md ops listed) (hl : l.toArray = ops)
    (hdone : ∀ listed a w, L listed a w → ∀ j ∈ Region.ready md ops listed, n ≤ j)
    (hE : ∀ listed X a w, HeadInv md ops n listed → E listed = true → Q X a w → anyG P md ops n L fe listed X a w) :
    ∀ (ord : List Nat) (listed : Array Bool) (X : List Nat) (a : Act) (w : World), HeadInv md ops n listed → ordB md ops n E false ord listed = true → gList P ops Q (sel l ord) X a w →
    anyG P md ops n L (ord.length + fe) listed X a w
  | [], listed, X, a, w, inv, hB, h => by
    simp only [List.length_nil, Nat.zero_add]
    exact hE _ _ _ _ inv (by simpa [ordB] using hB) h
  | i :: ord, listed, X, a, w, inv, hB, h => by
    simp only [ordB, Bool.and_eq_true, Bool.not_false, Bool.true_and] at hB
    obtain ⟨hB1, hB2⟩ := hB
    cases ho : ops[i]? with
    | none => rw [ho] at hB1; cases hB1
    | some o =>
      rw [ho] at hB1
      simp only [Bool.and_eq_true, decide_eq_true_eq] at hB1
      obtain ⟨hin, hB3⟩ := hB1
      have hnth : nth l i = some o := by rw [nth_eq, ← ho, ← hl]; simp
      simp only [sel, hnth] at h
      simp only [List.length_cons]
      rw [show ord.length + 1 + fe = (ord.length + fe) + 1 by omega]
      have ih := fun hi X' a' w' => anyG_ord hsel hlate hl hdone hE ord (listed.setIfInBounds i true) X' a' w' (inv.set hi hin) hB2
      by_cases hEf : isEff o = true
      · rw [if_pos hEf] at hB3
        have hB3 := of_decide_eq_true (by simpa using hB3)
        have hi : i ∈ Region.ready md ops listed := by rw [hB3]; exact .head _
        refine ⟨by rw [hB3]; simp, fun j hj => ?_⟩
        rw [hB3] at hj
        have hji : j = i := by simpa using hj
        subst hji
        exact ⟨hin, gOp_of ho (ih hi) h⟩
      · rw [if_neg hEf] at hB3
        simp only [Bool.and_eq_true] at hB3
        obtain ⟨hr, hf⟩ := hB3
        have hr' : i ∈ Region.ready md ops listed := by simpa using hr
        rcases h with ⟨v, h1, h2⟩ | ⟨h1, _⟩
        · exact anyG_first ho (Region.noSelect_spec hsel) hin (hlate i hin) hdone (ord.length + fe) listed X a w v inv (Region.free_spec ho hf) hr' h1 (ih hr' _ _ _ h2)
        · exact absurd h1 hEf
/-- Within a fork each alternative begins with a step of its own. -/
def Alt (P : Program) (md : Region.Mode) (ops : Array Oper) (n : Nat) (L : Array Bool → Act → World → Prop) (f : Nat) (listed : Array Bool) (X : List Nat) (a : Act) (w : World) (i : Nat) : Prop :=
  i < n ∧ gOp P ops X i (anyG P md ops n L (f - 1) (listed.setIfInBounds i true)) a w
theorem anyG_tree (hsel : Region.noSelect ops = true) (hlate : ∀ i, i < n → ∀ listed, HeadInv md ops n listed → listed.getD i true = false → ∀ t, n ≤ t → t ∉ Region.ready md ops listed) (hl : l.toArray = ops) :
    ∀ (t : Ot) (f : Nat) (ins : Bool) (listed : Array Bool) (X : List Nat) (a : Act) (w : World), HeadInv md ops n listed → t.ok md ops g n f ins listed = true → gT P l Q t X a w →
    (ins = false → anyG P md ops n (fun listed' a' w' => Region.seqB md ops g n listed' = true ∧ ∃ X', Q X' a' w') f listed X a w) ∧
    (ins = true → 0 < f ∧ ∀ i ∈ t.first, Alt P md ops n (fun listed' a' w' => Region.seqB md ops g n listed' = true ∧ ∃ X', Q X' a' w') f listed X a w i)
  | .done, f, ins, listed, X, a, w, inv, hB, h => by
    simp only [Ot.ok, Bool.and_eq_true, Bool.not_eq_true'] at hB
    obtain ⟨⟨h1, h2⟩, h3⟩ := hB
    have := Nat.eq_of_beq_eq_true h2
    subst this; subst h1
    exact ⟨fun _ => ⟨h3, X, h⟩, fun h => by cases h⟩
  | .seg ord t, f, ins, listed, X, a, w, inv, hB, h => by
    simp only [Ot.ok, Bool.and_eq_true] at hB
    obtain ⟨h1, h2⟩ := hB
    have h1 := Nat.le_of_ble_eq_true h1
    simp only [gT, hl] at h
    have IH := fun listed X a w inv' hB' h' => (anyG_tree hsel hlate hl t (f - ord.length) false listed X a w inv' hB' h').1 rfl
    cases ins with
    | false =>
      refine ⟨fun _ => ?_, fun h => by cases h⟩
      have := anyG_ord (P := P) (md := md) (n := n) hsel hlate hl (fun listed' a' w' hL => seqB_ready hL.1) IH ord listed X a w inv h2 h
      rwa [show ord.length + (f - ord.length) = f by omega] at this
    | true =>
      refine ⟨fun h => by (cases h), fun _ => ?_⟩
      cases ord with
      | nil => simp [ordB] at h2
      | cons i ord =>
        simp only [List.length_cons] at h1
        refine ⟨by omega, fun j hj => ?_⟩
        simp only [Ot.first, List.mem_singleton] at hj
        subst hj
        simp only [ordB, Bool.and_eq_true] at h2
        obtain ⟨hB1, hB2⟩ := h2
        cases ho : ops[j]? with
        | none => rw [ho] at hB1; cases hB1
        | some o =>
          rw [ho] at hB1
          simp only [Bool.and_eq_true, decide_eq_true_eq] at hB1
          obtain ⟨hin, hB3⟩ := hB1
          have hnth : nth l j = some o := by rw [nth_eq, ← ho, ← hl]; simp
          simp only [sel, hnth] at h
          have hEf : isEff o = true := by
            by_cases e : isEff o = true
            · exact e
            · rw [if_neg e] at hB3; simp at hB3
          rw [if_pos hEf] at hB3
          have hi : j ∈ Region.ready md ops listed := by simpa using hB3
          refine ⟨hin, gOp_of ho (fun X' a' w' hk => ?_) h⟩
          have := anyG_ord (P := P) (md := md) (n := n) hsel hlate hl (fun listed' a' w' hL => seqB_ready hL.1) IH ord _ X' a' w' (inv.set hi hin) hB2 hk
          rwa [show ord.length + (f - (j :: ord).length) = f - 1 by simp only [List.length_cons]; omega] at this
  | .fork s t, f, ins, listed, X, a, w, inv, hB, h => by
    simp only [Ot.ok, Bool.and_eq_true] at hB
    obtain ⟨⟨h1, h2⟩, h3⟩ := hB
    obtain ⟨f1, g1⟩ := (anyG_tree hsel hlate hl s f true listed X a w inv h2 h.1).2 rfl
    obtain ⟨_, g2⟩ := (anyG_tree hsel hlate hl t f true listed X a w inv h3 h.2).2 rfl
    have all : ∀ i ∈ (Ot.fork s t).first, Alt P md ops n (fun listed' a' w' => Region.seqB md ops g n listed' = true ∧ ∃ X', Q X' a' w') f listed X a w i := by
      intro i hi
      simp only [Ot.first, List.mem_append] at hi
      exact hi.elim (g1 i) (g2 i)
    refine ⟨fun hins => ?_, fun _ => ⟨f1, all⟩⟩
    subst hins
    simp only [Bool.false_or, Bool.and_eq_true, Bool.not_eq_true'] at h1
    obtain ⟨k, rfl⟩ : ∃ k, f = k + 1 := ⟨f - 1, by omega⟩
    refine ⟨fun e => by (rw [e] at h1; simp at h1), fun i hi => ?_⟩
    exact all i (by simpa [Ot.first] using List.all_eq_true.1 h1.2 i hi)
end
/-- What is asked of a region and its orders. -/
def anyB (ops : Array Oper) (n : Nat) (t : Ot) : Bool :=
  Region.noSelect ops && (if n < ops.size then Region.sinkB .any ops n && Region.chainB .any ops n else Nat.beq n ops.size) && t.ok .any ops (ops.size - n) n n false (Array.replicate ops.size false)
theorem region_ord {id : Nat} {Q : Exit → Act → World → Prop} {a : Act} {w : World} {l : List Oper} (n : Nat) (t : Ot) (hm : P.follows .mixedOrders = true) (hB : anyB l.toArray n t = true)
    (h : gT P l (fun _ a' w' => wpList P l.toArray Q (l.drop n) a' w') t X a { w with drawn := w.drawn + 1 }) : (Code.region id l.toArray true).wp P Q a w := by
  simp only [anyB, Bool.and_eq_true] at hB
  obtain ⟨⟨hsel, hsink⟩, hord⟩ := hB
  have hsz : l.toArray.size = l.length := by simp
  have hnle : n ≤ l.length := by
    split at hsink
    · omega
    · have := Nat.eq_of_beq_eq_true hsink; omega
  have inv0 : HeadInv .any l.toArray n (Array.replicate l.toArray.size false) :=
    ⟨by simp, fun j oj _ hl => (by rw [getD_replicate_false] at hl; cases hl), fun t _ ht => getD_in (by simpa using ht) (getD_replicate_false _ _)⟩
  have hlate : ∀ i, i < n → ∀ listed, HeadInv .any l.toArray n listed → listed.getD i true = false → ∀ t, n ≤ t → t ∉ Region.ready .any l.toArray listed := by
    intro i hi listed inv hun t ht hr
    split at hsink
    · rename_i hlt
      simp only [Bool.and_eq_true] at hsink
      exact tail_waits hsink.1 hsink.2 hlt inv _ i rfl hi hun t ht hr
    · have := Nat.eq_of_beq_eq_true hsink
      obtain ⟨_, ot, hot, _⟩ := mem_ready.1 hr
      have := (Array.getElem?_eq_some_iff.1 hot).1
      omega
  have H := (anyG_tree (P := P) (md := .any) (n := n) (g := l.toArray.size - n) hsel hlate rfl t n false _ X a { w with drawn := w.drawn + 1 } inv0 hord h).1 rfl
  refine wp_region_any hm ?_
  have hdl : (l.drop n).length = l.toArray.size - n := by simp
  have := wpAny_of_anyG (Q' := Q) (g := l.toArray.size - n) (fun listed a' w' hL => by
    obtain ⟨hL1, _, hL2⟩ := hL
    have := wpAny_of_seq (md := .any) (Q' := Q) (l.drop n) n listed a' w' (fun j => by simp [List.getElem?_drop]) (by rw [hdl]; exact hL1) hL2
    rwa [hdl] at this) _ _ _ _ _ H
  rw [show n + (l.toArray.size - n) = l.toArray.size by omega] at this
  exact this
end
end V
end Go.Proofs.YtkjnnifnmoekjaaDoor
namespace Go.Proofs.YtkjnnifnmoekjaaDoor
namespace V
set_option linter.unusedVariables false
set_option linter.unusedSimpArgs false
open Go.RowKit
def hide : List Nat → Obs → Obs
  | [], O => O
  | b :: xs, O => (hide xs O).set b none
theorem hide_len : ∀ (xs : List Nat) (O : Obs), (hide xs O).length = O.length
  | [], _ => rfl
  | b :: xs, O => by simp [hide, hide_len xs O]
theorem hide_get : ∀ {xs : List Nat} {O : Obs} {b : Nat} {ob : Ob}, (hide xs O)[b]? = some (some ob) → b ∉ xs ∧ O[b]? = some (some ob)
  | [], _, _, _, h => ⟨by simp, h⟩
  | c :: xs, O, b, ob, h => by
    by_cases e : b = c
    · subst e
      have hlt : b < (hide xs O).length := by have := (List.getElem?_eq_some_iff.1 h).1; simpa [hide] using this
      simp only [hide] at h
      rw [List.getElem?_set_self hlt] at h; cases h
    · simp only [hide] at h
      rw [List.getElem?_set_ne (Ne.symm e)] at h
      obtain ⟨h1, h2⟩ := hide_get h
      exact ⟨by simp [e, h1], h2⟩
def XOK (xs : List Nat) (M : Mp) (X : List Nat) : Prop := (∀ b, b ∈ xs → b < M.length) ∧ (∀ B, B ∈ X → ∃ (b : Nat) (p : Pl), b ∈ xs ∧ M[b]? = some p ∧ p.has B) ∧ ∀ (b : Nat) (p : Pl) (B : Nat), b ∈ xs → M[b]? = some p → p.has B → B ∈ X
def xOf (xs : List Nat) (M : Mp) : List Nat := xs.flatMap fun b => match (M[b]? : Option Pl) with | some p => p.all | none => []
theorem xOf_ok (xs : List Nat) (M : Mp) (h : ∀ b, b ∈ xs → b < M.length) : XOK xs M (xOf xs M) := by
  refine ⟨h, fun B hB => ?_, fun b p B hb hM hB => List.mem_flatMap.2 ⟨b, hb, by rw [hM]; exact Pl.mem_all.2 hB⟩⟩
  obtain ⟨b, hb, h⟩ := List.mem_flatMap.1 hB
  cases hm : M[b]? with
  | none => rw [hm] at h; cases h
  | some x => rw [hm] at h; exact ⟨b, x, hb, hm, Pl.mem_all.1 h⟩
/-- Where the heads end. -/
def PQ (n : Nat) (s : Bs) (K : Fr → Obs → List Nat → Prop) : List Nat → Act → World → Prop := fun X a w => ∃ M U σ O σc xs, Mem s M O U w ∧ Rels w U M σ σc ∧ Rp n a σc ∧ XOK xs M X ∧ K σ O xs
structure PR (P : Program) (n : Nat) (s : Bs) (ops : Array Oper) (xs : List Nat) (l : List Oper) (K : Fr → Obs → List Nat → Prop) (σ : Fr) (O : Obs) : Prop where
  h : ∀ M U σc w X, Mem s M O U w → Rels w U M σ σc → XOK xs M X → ∀ a, Rp n a σc → gList P ops (PQ n s K) l X a w
/-- The same for a tree of orders. -/
structure PT (P : Program) (n : Nat) (s : Bs) (l : List Oper) (xs : List Nat) (t : Ot) (K : Fr → Obs → List Nat → Prop) (σ : Fr) (O : Obs) : Prop where
  h : ∀ M U σc w X, Mem s M O U w → Rels w U M σ σc → XOK xs M X → ∀ a, Rp n a σc → gT P l (PQ n s K) t X a w
section
variable {P : Program} {n : Nat} {s : Bs} {Q : APost} {σ : Fr} {O : Obs} {ops : Array Oper} {rest : List Oper} {d : Nat} {ty : TypeId} {pos : String} {after : Array Edge} {xs : List Nat} {K : Fr → Obs → List Nat → Prop}
theorem gList_mono {Q Q' : List Nat → Act → World → Prop} (h : ∀ X a w, Q X a w → Q' X a w) : ∀ (l : List Oper) (X : List Nat) (a : Act) (w : World), gList P ops Q l X a w → gList P ops Q' l X a w
  | [], _, _, _, hq => h _ _ _ hq
  | o :: r, X, a, w, hq => by
    rcases hq with ⟨v, h1, h2⟩ | ⟨h1, h2⟩
    · exact .inl ⟨v, h1, gList_mono h r _ _ _ h2⟩
    · exact .inr ⟨h1, h2.same rfl rfl (fun v w' X' _ _ hk => gList_mono h r _ _ _ hk)⟩
theorem gT_mono {l : List Oper} {Q Q' : List Nat → Act → World → Prop} (h : ∀ X a w, Q X a w → Q' X a w) : ∀ (t : Ot) (X : List Nat) (a : Act) (w : World), gT P l Q t X a w → gT P l Q' t X a w
  | .done, _, _, _, hq => h _ _ _ hq
  | .seg ord t, X, a, w, hq => gList_mono (fun X a w => gT_mono h t X a w) _ _ _ _ hq
  | .fork s t, X, a, w, hq => ⟨gT_mono h s _ _ _ hq.1, gT_mono h t _ _ _ hq.2⟩
theorem Mem.drawn {M : Mp} {U : Nat → Prop} {w : World} (S : Mem s M O U w) : Mem s M O U { w with drawn := w.drawn + 1 } := S.below ⟨rfl, rfl, rfl, Nat.le_refl _, fun _ _ => rfl⟩
theorem Rels.drawn {M : Mp} {U : Nat → Prop} {w : World} {σc : Nat → Value} (S : Mem s M O U w) (h : Rels w U M σ σc) : Rels { w with drawn := w.drawn + 1 } U M σ σc := fun t => (h t).keepB (w' := { w with drawn := w.drawn + 1 }) S ⟨rfl, rfl, rfl, Nat.le_refl _, fun _ _ => rfl⟩
/-- A region that draws: its first q operations in the orders told, the rest behind. -/
theorem PC.any (q : Nat) (t : Ot) (xs : List Nat) {id : Nat} {l : List Oper} (hm : P.follows .mixedOrders = true) (hB : anyB l.toArray q t = true) (hx : xs.all (fun b => Nat.blt b O.length) = true)
    (h : PT P n s l xs t (fun σ' O' _ => PL P n s l.toArray (l.drop q) Q σ' O') σ O) : PC P n s (.region id l.toArray true) Q σ O := by
  refine ⟨fun M U σc w S hσ => ⟨fun a ha => region_ord (X := xOf xs M) q t hm hB ?_⟩⟩
  refine gT_mono (fun X a w h => ?_) _ _ _ _ (h.h M U σc _ _ S.drawn (hσ.drawn S) (xOf_ok xs M (fun b hb => by rw [S.len]; exact Nat.le_of_ble_eq_true (List.all_eq_true.1 hx b hb))) a ha)
  obtain ⟨M', U', σ', O', σc', _, S', hσ', ha', _, hk⟩ := h
  exact (hk.h M' U' σc' w S' hσ').h a ha'
theorem PT.done {l : List Oper} (h : K σ O xs) : PT P n s l xs .done K σ O := ⟨fun M U σc w X S hσ hX a ha => ⟨M, U, σ, O, σc, xs, S, hσ, ha, hX, h⟩⟩
theorem PT.seg {l : List Oper} {ord : List Nat} {t : Ot} (h : PR P n s l.toArray xs (sel l ord) (fun σ' O' xs' => PT P n s l xs' t K σ' O') σ O) : PT P n s l xs (.seg ord t) K σ O :=
  ⟨fun M U σc w X S hσ hX a ha => gList_mono (fun X a w ⟨M, U, σ, O, σc, xs, S, hσ, ha, hX, hk⟩ => hk.h M U σc w X S hσ hX a ha) _ _ _ _ (h.h M U σc w X S hσ hX a ha)⟩
theorem PT.fork {l : List Oper} {a b : Ot} (h1 : PT P n s l xs a K σ O) (h2 : PT P n s l xs b K σ O) : PT P n s l xs (.fork a b) K σ O :=
  ⟨fun M U σc w X S hσ hX A ha => ⟨h1.h M U σc w X S hσ hX A ha, h2.h M U σc w X S hσ hX A ha⟩⟩
theorem PR.nil (h : K σ O xs) : PR P n s ops xs [] K σ O := ⟨fun M U σc w X S hσ hX a ha => ⟨M, U, σ, O, σc, xs, S, hσ, ha, hX, h⟩⟩
theorem Mem.hide {M : Mp} {U : Nat → Prop} {w : World} (S : Mem s M O U w) : Mem s M (V.hide xs O) U w :=
  ⟨S.base, S.lent, by rw [S.len, hide_len], S.lt, S.fresh, S.sep, S.fok, fun b ob x h1 h2 => S.own b ob x (hide_get h1).2 h2, S.u, S.tab⟩
theorem agr_of {M : Mp} {w w' : World} {X : List Nat} (hX : XOK xs M X) (hb : BelowX X w w') : Agr' M (V.hide xs O) w w' := by
  refine ⟨hb.size, fun B hB h => hb.block B hB fun hx => ?_⟩
  obtain ⟨b, L, h1, h2, h3⟩ := hX.2.1 B hx
  obtain ⟨ob, ho⟩ := h b L h2 h3
  exact (hide_get ho).1 h1
theorem PR.op {op : Op} {x : AV} (hd : Nat.blt d n = true) (hr : Rd P s (V.hide xs O) σ op ty x) (k : PR P n s ops xs rest K (updA σ d x) O) : PR P n s ops xs (⟨some d, op, ty, pos, after, none⟩ :: rest) K σ O := by
  refine ⟨fun M U σc w X S hσ hX a ha => ?_⟩
  obtain ⟨y, hy, hrun⟩ := hr M U w σc S.hide hσ
  refine .inl ⟨y, .inl ⟨rfl, fun w' hw => ?_⟩, k.h M U _ w X S (hσ.upd d hy) hX _ (ha.put d y hd)⟩
  rw [ha.eval, (hrun w' (agr_of hX hw)).run]
  exact ⟨rfl, rfl⟩
theorem PR.ef {op : Op} {x : AV} {O' : Obs} (hd : Nat.blt d n = true) (he : isEff ⟨some d, op, ty, pos, after, none⟩ = true) (h : Ef P s O σ op ty x O') (k : PR P n s ops xs rest K (updA σ d x) O') : PR P n s ops xs (⟨some d, op, ty, pos, after, none⟩ :: rest) K σ O := by
  refine ⟨fun M U σc w X S hσ hX a ha => ?_⟩
  obtain ⟨y, w', p, hrun, S', hx, hall, hb, _⟩ := h M U w σc S hσ
  refine .inr ⟨he, rfl, .inr ⟨y, w', X, .inl (by rw [ha.eval]; exact hrun.run _ _ _ _), ⟨hb.os, hb.tape, hb.output, hb.size, fun k hk _ => hb.block k hk (by simp)⟩, XX.refl, ?_⟩⟩
  refine k.h (M ++ [p]) U _ w' X S' (Rels.upd (fun t => hall _ _ (hσ t)) d hx) ?_ _ (ha.put d y hd)
  refine ⟨fun b hb => by have := hX.1 b hb; simp; omega, fun B hB => ?_, fun b L B hb' hM hB => ?_⟩
  · obtain ⟨b, L, h1, h2, h3⟩ := hX.2.1 B hB
    exact ⟨b, L, h1, snoc_old h2, h3⟩
  · rcases snoc_get hM with h3 | ⟨h3, h4⟩
    · exact hX.2.2 b L B hb' h3 hB
    · have := hX.1 b hb'; omega
/-- append to a slice that was made here. -/
theorem PR.app {m0 : Nat} (hm : s.L.length = m0) {t e : TypeId} {x y : Operand} {b n0 m k bytes : Nat} {ya : AV} {cs cs0 ds cs' : List Tr} [T : CSl P t e] [Z : CE P e k bytes] (hd : Nat.blt d n = true) (hx : evA σ x = .os b 0 n0) (hO : O[b]? = some (some ⟨.tr cs, e, k⟩)) (hy : evA σ y = ya)
    (hsrc : SrcA s (O.set b none) ya k m ds) (hb : Nat.ble m0 b = true) (hxs : xs.contains b = true) (hcs : cs.take (n0 * k) = cs0) (hl : cs0.length = n0 * k) (hbytes : (n0 + m) * bytes ≤ 140737488355328) (h63 : n0 + m ≤ 4611686018427387904) (hr : cs0 ++ ds = cs')
    (kk : PR P n s ops xs rest K (updA σ d (.os O.length 0 (n0 + m))) (O.set b none ++ [some ⟨.tr cs', e, k⟩])) :
    PR P n s ops xs (⟨some d, .call { callee := .builtin .append, args := #[x, y], argTypes := #[t, t] }, ty, pos, after, none⟩ :: rest) K σ O := by
  subst hr
  refine ⟨fun M U σc w X S hσ hX a ha => ?_⟩
  have hb' : s.L.length ≤ b := by rw [hm]; exact Nat.le_of_ble_eq_true hb
  have hxs' : b ∈ xs := by simpa using hxs
  have ex := evA_rel hσ x; rw [hx] at ex
  have ey := evA_rel hσ y; rw [hy] at ey
  obtain ⟨S1, hk⟩ := S.kill hb'
  obtain ⟨olds, hg, ho1, ho2, ho3⟩ := S.grw hb' hO hcs hl ex
  obtain ⟨ad, c, news, hyv, hnl, hnc, hn1, hn2⟩ := hsrc.2 _ _ _ _ S1 (hk _ _ ey)
  obtain ⟨v', w', p, hrun, S', hrel, hres, hbx, _⟩ := append_core (P := P) (t := t) (ty := ty) S1 hg hnl hnc hn1 ho2 ho1.symm (by rw [hsrc.1, hnl]) ho3 hn2 hbytes h63 (c := c)
  have hblk : ∀ B, B ∈ vBlk (ev σc x) → ∃ L : Loc, M[b]? = some (.ad L) ∧ L.blk = B := by
    intro B hB
    generalize ev σc x = v at ex hB
    cases ex with
    | os _ _ _ _ L hM => exact ⟨L, hM, by simpa [vBlk, eq_comm] using hB⟩
    | osn _ _ => simp [vBlk] at hB
    | osz _ _ _ L hM => exact ⟨L, hM, by simpa [vBlk, eq_comm] using hB⟩
    | osd _ _ _ _ _ hM => exact (S.own _ _ _ hO hM).elim
  have hbl : b < M.length := hX.1 b hxs'
  have hX2 : ∀ B, B ∈ (X.filter fun B => match (M[b]? : Option Pl) with | some p => !p.all.contains B | none => true) ↔ B ∈ X ∧ ∀ p : Pl, M[b]? = some p → ¬ p.has B := by
    intro B
    rw [List.mem_filter]
    refine and_congr_right fun _ => ?_
    cases hq : M[b]? with
    | none => simp
    | some p => simp [← Pl.mem_all]
  refine .inr ⟨rfl, rfl, .inr ⟨v', w', _, .inl ?_, ⟨hbx.os, hbx.tape, hbx.output, hbx.size, fun k hk hx => hbx.block k hk fun hB => ?_⟩, fun B hB => .inl ((hX2 B).1 hB).1, kk.h _ U _ w' _ S' (Rels.upd (fun t => hrel _ _ (hk _ _ (hσ t))) d (by simpa using hres)) ⟨fun c hc => ?_, fun B hB => ?_, fun c L B hc hM hB => ?_⟩ _ (ha.put d v' hd)⟩⟩
  · rw [ha.eval]
    simp [execOp, resolve, invoke, builtin, hyv, hrun]
  · obtain ⟨L, h1, h2⟩ := hblk _ hB
    exact hx (hX.2.2 b _ _ hxs' h1 h2)
  · have := hX.1 c hc; simp; omega
  · obtain ⟨h1, h2⟩ := (hX2 B).1 hB
    obtain ⟨c, L, g1, g2, g3⟩ := hX.2.1 B h1
    have hne : b ≠ c := fun e => by subst e; exact h2 L g2 g3
    exact ⟨c, L, g1, snoc_old (by rw [List.getElem?_set_ne hne]; exact g2), g3⟩
  · have hcl := hX.1 c hc
    have hne : b ≠ c := fun e => by
      subst e
      rw [List.getElem?_append_left (by simpa using hcl), List.getElem?_set_self hbl] at hM; cases hM; exact hB.elim
    rw [List.getElem?_append_left (by simpa using hcl), List.getElem?_set_ne hne] at hM
    exact (hX2 _).2 ⟨hX.2.2 c L B hc hM hB, fun L' h' e => hne (S.sep b c L' L B h' hM e hB)⟩
/-- .. what comes out may be written here. -/
theorem PR.appX {m0 : Nat} (hm : s.L.length = m0) {t e : TypeId} {x y : Operand} {b n0 m k bytes : Nat} {ya : AV} {cs cs0 ds cs' : List Tr} [T : CSl P t e] [Z : CE P e k bytes] (hd : Nat.blt d n = true) (hx : evA σ x = .os b 0 n0) (hO : O[b]? = some (some ⟨.tr cs, e, k⟩)) (hy : evA σ y = ya)
    (hsrc : SrcA s (O.set b none) ya k m ds) (hb : Nat.ble m0 b = true) (hxs : xs.contains b = true) (hcs : cs.take (n0 * k) = cs0) (hl : cs0.length = n0 * k) (hbytes : (n0 + m) * bytes ≤ 140737488355328) (h63 : n0 + m ≤ 4611686018427387904) (hr : cs0 ++ ds = cs')
    (kk : PR P n s ops (O.length :: xs) rest K (updA σ d (.os O.length 0 (n0 + m))) (O.set b none ++ [some ⟨.tr cs', e, k⟩])) :
    PR P n s ops xs (⟨some d, .call { callee := .builtin .append, args := #[x, y], argTypes := #[t, t] }, ty, pos, after, none⟩ :: rest) K σ O := by
  subst hr
  refine ⟨fun M U σc w X S hσ hX a ha => ?_⟩
  have hb' : s.L.length ≤ b := by rw [hm]; exact Nat.le_of_ble_eq_true hb
  have hxs' : b ∈ xs := by simpa using hxs
  have ex := evA_rel hσ x; rw [hx] at ex
  have ey := evA_rel hσ y; rw [hy] at ey
  obtain ⟨S1, hk⟩ := S.kill hb'
  obtain ⟨olds, hg, ho1, ho2, ho3⟩ := S.grw hb' hO hcs hl ex
  obtain ⟨ad, c, news, hyv, hnl, hnc, hn1, hn2⟩ := hsrc.2 _ _ _ _ S1 (hk _ _ ey)
  obtain ⟨v', w', p, hrun, S', hrel, hres, hbx, hnw⟩ := append_core (P := P) (t := t) (ty := ty) S1 hg hnl hnc hn1 ho2 ho1.symm (by rw [hsrc.1, hnl]) ho3 hn2 hbytes h63 (c := c)
  have hblk : ∀ B, B ∈ vBlk (ev σc x) → ∃ L : Loc, M[b]? = some (.ad L) ∧ L.blk = B := by
    intro B hB
    generalize ev σc x = v at ex hB
    cases ex with
    | os _ _ _ _ L hM => exact ⟨L, hM, by simpa [vBlk, eq_comm] using hB⟩
    | osn _ _ => simp [vBlk] at hB
    | osz _ _ _ L hM => exact ⟨L, hM, by simpa [vBlk, eq_comm] using hB⟩
    | osd _ _ _ _ _ hM => exact (S.own _ _ _ hO hM).elim
  have hbl : b < M.length := hX.1 b hxs'
  have hX2 : ∀ B, B ∈ (X.filter fun B => match (M[b]? : Option Pl) with | some p => !p.all.contains B | none => true) ↔ B ∈ X ∧ ∀ p : Pl, M[b]? = some p → ¬ p.has B := by
    intro B
    rw [List.mem_filter]
    refine and_congr_right fun _ => ?_
    cases hq : M[b]? with
    | none => simp
    | some p => simp [← Pl.mem_all]
  refine .inr ⟨rfl, rfl, .inr ⟨v', w', (X.filter fun B => match (M[b]? : Option Pl) with | some p => !p.all.contains B | none => true) ++ p.all, .inl ?_, ⟨hbx.os, hbx.tape, hbx.output, hbx.size, fun k hk hx => hbx.block k hk fun hB => ?_⟩, fun B hB => ?_, kk.h _ U _ w' _ S' (Rels.upd (fun t => hrel _ _ (hk _ _ (hσ t))) d (by simpa using hres)) ⟨fun c hc => ?_, fun B hB => ?_, fun c L B hc hM hB => ?_⟩ _ (ha.put d v' hd)⟩⟩
  · rw [ha.eval]
    simp [execOp, resolve, invoke, builtin, hyv, hrun]
  · obtain ⟨L, h1, h2⟩ := hblk _ hB
    exact hx (hX.2.2 b _ _ hxs' h1 h2)
  · rcases List.mem_append.1 hB with h | h
    · exact .inl ((hX2 B).1 h).1
    · rcases hnw B (Pl.mem_all.1 h) with h | h
      · obtain ⟨L, h1, h2⟩ := hblk _ h
        exact .inl (hX.2.2 b _ _ hxs' h1 h2)
      · exact .inr h
  · rcases List.mem_cons.1 hc with rfl | hc
    · simp [S.len]
    · have := hX.1 c hc; simp; omega
  · rcases List.mem_append.1 hB with h | h
    · obtain ⟨h1, h2⟩ := (hX2 B).1 h
      obtain ⟨c, L, g1, g2, g3⟩ := hX.2.1 B h1
      have hne : b ≠ c := fun e => by subst e; exact h2 L g2 g3
      exact ⟨c, L, .tail _ g1, snoc_old (by rw [List.getElem?_set_ne hne]; exact g2), g3⟩
    · exact ⟨O.length, p, .head _, by rw [← S.len]; simp, Pl.mem_all.1 h⟩
  · rcases snoc_get hM with h3 | ⟨h3, h4⟩
    · rcases List.mem_cons.1 hc with rfl | hc
      · have := (List.getElem?_eq_some_iff.1 h3).1; simp [S.len] at this
      · have hne : b ≠ c := fun e => by
          subst e
          rw [List.getElem?_set_self hbl] at h3; cases h3; exact hB.elim
        rw [List.getElem?_set_ne hne] at h3
        exact List.mem_append.2 (.inl ((hX2 _).2 ⟨hX.2.2 c L B hc h3 hB, fun L' h' e => hne (S.sep b c L' L B h' h3 e hB)⟩))
    · subst h4; exact List.mem_append.2 (.inr (Pl.mem_all.2 hB))
/-- A store into a block that was made or lent here. -/
theorem PR.storeG {t : TypeId} {x y : Operand} {b j m : Nat} {ob ob' : Ob} {v : AV} {cs : List AV} [Z : CS P t m] (hx : evA σ x = .op b j) (hy : evA σ y = v) (hw : wholeA v = true) (hc : cellsA v = cs) (hm : cs.length = m) (hO : O[b]? = some (some ob)) (hj : j + m ≤ ob.cells.length)
    (hc' : ob'.cells = ob.cells.take j ++ cs ++ ob.cells.drop (j + m)) (ht' : ob'.ty = ob.ty) (hk' : ob'.k = ob.k) (hxs : xs.contains b = true)
    (k : PR P n s ops xs rest K σ (O.set b (some ob'))) : PR P n s ops xs (⟨none, .store t x y, ty, pos, after, none⟩ :: rest) K σ O := by
  refine ⟨fun M U σc w X S hσ hX a ha => ?_⟩
  obtain ⟨w', L, hrun, S', hall, hM, hb⟩ := store_core (P := P) (t := t) (ty := ty) (pos := pos) (after := after) hx hy hw hc hm hO hj hc' ht' hk' S hσ
  have hL : L.blk ∈ X := hX.2.2 b _ _ (by simpa using hxs) hM rfl
  refine .inr ⟨rfl, rfl, .inr ⟨undef, w', X, .inr ⟨by rw [ha.eval]; exact hrun, rfl⟩, ⟨hb.os, hb.tape, hb.output, hb.size, fun k hk hx => hb.block k hk (fun h => hx (by simp at h; rw [h]; exact hL))⟩, XX.refl, ?_⟩⟩
  exact k.h M U σc w' X S' (fun t => hall _ _ (hσ t)) hX a ha
theorem PR.store {t : TypeId} {x y : Operand} {b j m k0 : Nat} {T' : TypeId} {v : AV} {cs ds : List AV} [Z : CS P t m] (hx : evA σ x = .op b j) (hy : evA σ y = v) (hw : wholeA v = true) (hc : cellsA v = cs) (hm : cs.length = m) (hO : O[b]? = some (some ⟨.mx ds, T', k0⟩)) (hj : Nat.ble (j + m) ds.length = true) (hxs : xs.contains b = true)
    (k : PR P n s ops xs rest K σ (O.set b (some ⟨.mx (ds.take j ++ cs ++ ds.drop (j + m)), T', k0⟩))) : PR P n s ops xs (⟨none, .store t x y, ty, pos, after, none⟩ :: rest) K σ O :=
  PR.storeG hx hy hw hc hm hO (Nat.le_of_ble_eq_true hj) (ob' := ⟨.mx (ds.take j ++ cs ++ ds.drop (j + m)), T', k0⟩) rfl rfl rfl hxs k
theorem PR.call (z : Bool) (κ : List Nat) {f : FuncId} {O0 : List Ob} {args ds : List AV} {R : AV → List Ob → Prop} {as' : List Operand} {ats : Array TypeId} (hc : FnX P f O0 args R) (hd : Nat.blt d n = true)
    (hr : ∀ args w, (callFunc f args).run P w = .ok (.enter f args) w) (ha : as'.map (evA σ) = ds) (hs : SbL z O (κ.map some) args ds) (hnd : nodupB (κ.map some) = true) (hb : BlkL z O (κ.map some) (κ.map some) O0)
    (hfl : z = true → ∀ r bl, R r bl → r.flat ∧ ∀ ob, ob ∈ bl → ob.flat) (hκ : κ.all (fun b => xs.contains b) = true)
    (k : ∀ r bl, R r bl → PR P n s ops xs rest K (updA σ d (r.ren (thet κ O.length))) (setK (O ++ (bl.drop κ.length).map (fun o => some (o.ren (thet κ O.length)))) κ (bl.map (·.ren (thet κ O.length))))) :
    PR P n s ops xs (⟨some d, .call { callee := .value (.func f), args := as'.toArray, argTypes := ats }, ty, pos, after, none⟩ :: rest) K σ O := by
  refine ⟨fun M U σc w X S hσ hX a ha' => .inr ⟨rfl, rfl, .inl ⟨f, (as'.map (ev σc)).toArray, by rw [ha'.eval]; exact run_fcall hr rfl, (call_core z κ hc ha hs hnd hb hfl S hσ).mono ?_⟩⟩⟩
  rintro e w' ⟨v, r, bl, M2, U2, X', rfl, hR, S2, h1, h2, h3, h4, h5, _⟩
  have hsub : ∀ B, B ∈ X' → B ∈ X := by
    intro B hB
    obtain ⟨i, b, L, g1, g2, g3⟩ := h5 B hB
    have := List.all_eq_true.1 hκ b (get_mem g1)
    exact hX.2.2 b L B (by simpa using this) g2 g3
  refine ⟨v, X, rfl, ⟨h4.os, h4.tape, h4.output, h4.size, fun k hk hx => h4.block k hk (fun h => hx (hsub _ h))⟩, XX.refl, (k r bl hR).h M2 U2 _ w' X S2 (Rels.upd (fun t => h1 _ _ (hσ t)) d h2) ?_ _ (ha'.put d v hd)⟩
  refine ⟨fun b hb => ?_, fun B hB => ?_, fun b L B hb' hM hB => ?_⟩
  · have hlt := hX.1 b hb
    exact (List.getElem?_eq_some_iff.1 (h3 b _ (List.getElem?_eq_getElem hlt))).1
  · obtain ⟨b, L, g1, g2, g3⟩ := hX.2.1 B hB
    exact ⟨b, L, g1, h3 b _ g2, g3⟩
  · have hlt := hX.1 b hb'
    have e1 := h3 b _ (List.getElem?_eq_getElem hlt)
    rw [hM] at e1
    exact hX.2.2 b L B hb' (by rw [List.getElem?_eq_getElem hlt, ← e1]) hB
/-- .. new blocks that come out may be written here. -/
theorem PR.callX (ys : List Nat) (z : Bool) (κ : List Nat) {f : FuncId} {O0 : List Ob} {args ds : List AV} {R : AV → List Ob → Prop} {as' : List Operand} {ats : Array TypeId} (hc : FnX P f O0 args R) (hd : Nat.blt d n = true)
    (hr : ∀ args w, (callFunc f args).run P w = .ok (.enter f args) w) (ha : as'.map (evA σ) = ds) (hs : SbL z O (κ.map some) args ds) (hnd : nodupB (κ.map some) = true) (hb : BlkL z O (κ.map some) (κ.map some) O0)
    (hfl : z = true → ∀ r bl, R r bl → r.flat ∧ ∀ ob, ob ∈ bl → ob.flat) (hκ : κ.all (fun b => xs.contains b) = true) (hys : ys.all (fun b => Nat.ble O.length b) = true)
    (hyl : ∀ r bl, R r bl → ∀ b, b ∈ ys → b < O.length + (bl.drop κ.length).length)
    (k : ∀ r bl, R r bl → PR P n s ops (ys ++ xs) rest K (updA σ d (r.ren (thet κ O.length))) (setK (O ++ (bl.drop κ.length).map (fun o => some (o.ren (thet κ O.length)))) κ (bl.map (·.ren (thet κ O.length))))) :
    PR P n s ops xs (⟨some d, .call { callee := .value (.func f), args := as'.toArray, argTypes := ats }, ty, pos, after, none⟩ :: rest) K σ O := by
  refine ⟨fun M U σc w X S hσ hX a ha' => .inr ⟨rfl, rfl, .inl ⟨f, (as'.map (ev σc)).toArray, by rw [ha'.eval]; exact run_fcall hr rfl, (call_core z κ hc ha hs hnd hb hfl S hσ).mono ?_⟩⟩⟩
  rintro e w' ⟨v, r, bl, M2, U2, X', rfl, hR, S2, h1, h2, h3, h4, h5, h6⟩
  have hsub : ∀ B, B ∈ X' → B ∈ X := by
    intro B hB
    obtain ⟨i, b, L, g1, g2, g3⟩ := h5 B hB
    have := List.all_eq_true.1 hκ b (get_mem g1)
    exact hX.2.2 b L B (by simpa using this) g2 g3
  have hlen : M2.length = O.length + (bl.drop κ.length).length := by have := S2.len; rw [this, setK_len]; simp
  refine ⟨v, X ++ xOf ys M2, rfl, ⟨h4.os, h4.tape, h4.output, h4.size, fun k hk hx => h4.block k hk (fun h => hx (hsub _ h))⟩, fun B hB => ?_, (k r bl hR).h M2 U2 _ w' _ S2 (Rels.upd (fun t => h1 _ _ (hσ t)) d h2) ?_ _ (ha'.put d v hd)⟩
  · rcases List.mem_append.1 hB with h | h
    · exact .inl h
    · obtain ⟨b, hb, h⟩ := List.mem_flatMap.1 h
      have hb' := Nat.le_of_ble_eq_true (List.all_eq_true.1 hys b hb)
      cases hq : M2[b]? with
      | none => rw [hq] at h; cases h
      | some p => rw [hq] at h; exact .inr (h6 b p B (by rw [S.len]; exact hb') hq (Pl.mem_all.1 h))
  refine ⟨fun b hb => ?_, fun B hB => ?_, fun b L B hb' hM hB => ?_⟩
  · rcases List.mem_append.1 hb with hb | hb
    · rw [hlen]; exact hyl r bl hR b hb
    · have hlt := hX.1 b hb
      exact (List.getElem?_eq_some_iff.1 (h3 b _ (List.getElem?_eq_getElem hlt))).1
  · rcases List.mem_append.1 hB with hB | hB
    · obtain ⟨b, L, g1, g2, g3⟩ := hX.2.1 B hB
      exact ⟨b, L, List.mem_append.2 (.inr g1), h3 b _ g2, g3⟩
    · obtain ⟨b, hb, h⟩ := List.mem_flatMap.1 hB
      cases hq : M2[b]? with
      | none => rw [hq] at h; cases h
      | some p => rw [hq] at h; exact ⟨b, p, List.mem_append.2 (.inl hb), hq, Pl.mem_all.1 h⟩
  · rcases List.mem_append.1 hb' with hb | hb
    · exact List.mem_append.2 (.inr (List.mem_flatMap.2 ⟨b, hb, by rw [hM]; exact Pl.mem_all.2 hB⟩))
    · have hlt := hX.1 b hb
      have e1 := h3 b _ (List.getElem?_eq_getElem hlt)
      rw [hM] at e1
      exact List.mem_append.2 (.inl (hX.2.2 b L B hb (by rw [List.getElem?_eq_getElem hlt, ← e1]) hB))
theorem PR.guard {d : Option Nat} {op : Op} {j : Nat} {want b : Bool} (hg : gdA ops σ j = some (bA b)) (hd : (match d with | some d => Nat.blt d n | none => true) = true)
    (h1 : b = want → PR P n s ops xs (⟨d, op, ty, pos, after, none⟩ :: rest) K σ O) (h2 : b = (!want) → PR P n s ops xs rest K (putA σ d (.tup [])) O) : PR P n s ops xs (⟨d, op, ty, pos, after, some (j, want)⟩ :: rest) K σ O := by
  refine ⟨fun M U σc w X S hσ hX a ha => ?_⟩
  have hy := gd_yield ha (gdA_gd hσ hg)
  have hw : Region.wanted ⟨d, op, ty, pos, after, some (j, want)⟩ (yielded ops a.tmps) = (b == want) := by
    simp [Region.wanted, hy]
  by_cases e : b = want
  · rcases (h1 e).h M U σc w X S hσ hX a ha with ⟨v, hs, hk⟩ | ⟨he, ht⟩
    · refine .inl ⟨v, ?_, hk⟩
      rcases hs with ⟨_, h3⟩ | ⟨h3, _⟩
      · exact .inl ⟨by rw [hw]; simp [e], h3⟩
      · simp [Region.wanted] at h3
    · exact .inr ⟨he, by rw [hw]; simp [e], ht.2⟩
  · have e2 : b = !want := by cases b <;> cases want <;> simp_all
    refine .inl ⟨undef, .inr ⟨by rw [hw]; simp [e], rfl⟩, ?_⟩
    cases d with
    | none => exact (h2 e2).h M U σc w X S hσ hX a ha
    | some d => exact (h2 e2).h M U _ w X S (hσ.upd d (.tup [] [] rfl (fun j c y h => by simp at h))) hX _ (ha.put d undef hd)
theorem PR.guard_un {d : Option Nat} {op : Op} {j : Nat} {want : Bool} (hg : gdA ops σ j = some (.tup [])) (hd : (match d with | some d => Nat.blt d n | none => true) = true)
    (h2 : PR P n s ops xs rest K (putA σ d (.tup [])) O) : PR P n s ops xs (⟨d, op, ty, pos, after, some (j, want)⟩ :: rest) K σ O := by
  refine ⟨fun M U σc w X S hσ hX a ha => ?_⟩
  have hy := gd_none ha (gdA_un hσ hg)
  have hw : Region.wanted ⟨d, op, ty, pos, after, some (j, want)⟩ (yielded ops a.tmps) = false := by
    simp [Region.wanted, hy]
  refine .inl ⟨undef, .inr ⟨hw, rfl⟩, ?_⟩
  cases d with
  | none => exact h2.h M U σc w X S hσ hX a ha
  | some d => exact h2.h M U _ w X S (hσ.upd d (.tup [] [] rfl (fun j c y h => by simp at h))) hX _ (ha.put d undef hd)
theorem PR.guard_on {d : Option Nat} {op : Op} {j : Nat} {want b : Bool} (hg : gdA ops σ j = some (bA b)) (hd : (match d with | some d => Nat.blt d n | none => true) = true) (hb : b = want)
    (h1 : PR P n s ops xs (⟨d, op, ty, pos, after, none⟩ :: rest) K σ O) : PR P n s ops xs (⟨d, op, ty, pos, after, some (j, want)⟩ :: rest) K σ O :=
  PR.guard hg hd (fun _ => h1) (fun e => by rw [e] at hb; cases want <;> simp at hb)
theorem PR.guard_off {d : Option Nat} {op : Op} {j : Nat} {want b : Bool} (hg : gdA ops σ j = some (bA b)) (hd : (match d with | some d => Nat.blt d n | none => true) = true) (hb : b = !want)
    (h2 : PR P n s ops xs rest K (putA σ d (.tup [])) O) : PR P n s ops xs (⟨d, op, ty, pos, after, some (j, want)⟩ :: rest) K σ O :=
  PR.guard hg hd (fun e => by rw [e] at hb; cases want <;> simp at hb) (fun _ => h2)
end
end V
end Go.Proofs.YtkjnnifnmoekjaaDoor
namespace Go.Proofs.YtkjnnifnmoekjaaDoor
namespace V
set_option linter.unusedVariables false
set_option linter.unusedSimpArgs false
open Go.RowKit
class Enc (α : Type) where
  enc : α → List Tr
  k : Nat
  len : ∀ x, (enc x).length = k
open Enc (enc)
class EncF (α : Type) [Enc α] : Prop where
  flat : ∀ (x : α) c, c ∈ enc x → ∃ v, c = .v v
instance : Enc Int := ⟨fun n => [.v (.int .i64 n)], 1, fun _ => rfl⟩
instance : Enc UInt8 := ⟨fun n => [.v (.int .u8 n.toNat)], 1, fun _ => rfl⟩
instance : Enc ByteArray := ⟨fun n => [.v (.string n)], 1, fun _ => rfl⟩
def eL {α : Type} [Enc α] (xs : List α) : List Tr := xs.flatMap enc
instance {α : Type} [Enc α] : Enc (List α) := ⟨fun xs => [.sl xs.length (eL xs)], 1, fun _ => rfl⟩
abbrev sL {α : Type} [Enc α] (xs : List α) : AV := .t (.sl xs.length (eL xs))
section
variable {α : Type} [F : Enc α] {xs ys : List α}
theorem eL_len (xs : List α) : (eL xs).length = xs.length * F.k := by
  induction xs with
  | nil => simp [eL]
  | cons x xs ih => simp only [eL, List.flatMap_cons, List.length_append, List.length_cons] at ih ⊢; rw [ih, F.len, Nat.add_mul]; omega
theorem eL_app (xs ys : List α) : eL (xs ++ ys) = eL xs ++ eL ys := by simp [eL]
theorem eL_one (x : α) : eL [x] = enc x := by simp [eL]
theorem eL_snoc (xs : List α) (x : α) : eL xs ++ enc x = eL (xs ++ [x]) := by rw [eL_app, eL_one]
theorem eL_cons (x : α) (xs : List α) : eL (x :: xs) = enc x ++ eL xs := rfl
theorem eL_get : ∀ {xs : List α} {i f : Nat} (hi : i < xs.length), f < F.k → (eL xs)[i * F.k + f]? = (enc (xs[i]'hi))[f]?
  | x :: xs, 0, f, hi, hf => by
    rw [eL_cons, Nat.zero_mul, Nat.zero_add, List.getElem?_append_left (by rw [F.len]; exact hf)]; rfl
  | x :: xs, i + 1, f, hi, hf => by
    rw [eL_cons, List.getElem?_append_right (by rw [F.len, Nat.add_mul]; omega), F.len, show (i + 1) * F.k + f - F.k = i * F.k + f by rw [Nat.add_mul]; omega]
    exact eL_get (xs := xs) (by simpa using hi) hf
theorem eL_drop (xs : List α) (i : Nat) : (eL xs).drop (i * F.k) = eL (xs.drop i) := by
  induction i generalizing xs with
  | zero => simp
  | succ i ih =>
    cases xs with
    | nil => simp [eL]
    | cons x xs =>
      rw [eL_cons, List.drop_append, F.len, show (i + 1) * F.k - F.k = i * F.k by rw [Nat.add_mul]; omega, List.drop_of_length_le (by rw [F.len, Nat.add_mul]; omega), ih]
      simp
theorem eL_take (xs : List α) (i : Nat) : (eL xs).take (i * F.k) = eL (xs.take i) := by
  induction i generalizing xs with
  | zero => simp [eL]
  | succ i ih =>
    cases xs with
    | nil => simp [eL]
    | cons x xs =>
      rw [eL_cons, List.take_append, F.len, show (i + 1) * F.k - F.k = i * F.k by rw [Nat.add_mul]; omega, List.take_of_length_le (by rw [F.len, Nat.add_mul]; omega), ih]
      simp [eL]
theorem eL_all (xs : List α) : (eL xs).take (xs.length * F.k) = eL xs := List.take_of_length_le (by rw [eL_len]; exact Nat.le_refl _)
theorem eL_setR (x' : α) (i : Nat) (hi : i < xs.length) : (eL xs).take (i * F.k) ++ enc x' ++ (eL xs).drop (i * F.k + F.k) = eL (xs.set i x') := by
  rw [eL_take, show i * F.k + F.k = (i + 1) * F.k by rw [Nat.add_mul]; omega, eL_drop, eL_snoc, ← eL_app, List.set_eq_take_append_cons_drop, if_pos hi]
  simp
theorem eL_setF {u : Tr} {f : Nat} (hf : f < F.k) (x' : α) (i : Nat) (hi : i < xs.length) (hx : enc x' = (enc (xs[i]'hi)).set f u) : (eL xs).take (i * F.k + f) ++ [u] ++ (eL xs).drop (i * F.k + f + 1) = eL (xs.set i x') := by
  rw [← eL_setR x' i hi]
  have hl : i * F.k + F.k ≤ (eL xs).length := by
    rw [eL_len]; have : (i + 1) * F.k ≤ xs.length * F.k := Nat.mul_le_mul_right _ hi
    rw [Nat.add_mul] at this; omega
  apply List.ext_getElem?
  intro j
  simp only [List.getElem?_append, List.getElem?_take, List.getElem?_drop, List.length_append, List.length_take, List.length_cons, List.length_nil]
  have h1 : min (i * F.k + f) (eL xs).length = i * F.k + f := by omega
  have h2 : min (i * F.k) (eL xs).length = i * F.k := by omega
  have h3 : (enc x').length = F.k := F.len _
  rw [h1, h2, h3]
  by_cases c1 : j < i * F.k
  · rw [if_pos (by omega), if_pos (by omega), if_pos (by omega), if_pos (by omega), if_pos (by omega), if_pos c1]
  · by_cases c2 : j < i * F.k + F.k
    · have hg := eL_get (xs := xs) (i := i) (f := j - i * F.k) hi (by omega)
      rw [show i * F.k + (j - i * F.k) = j by omega] at hg
      by_cases c3 : j = i * F.k + f
      · subst c3
        rw [if_pos (by omega), if_neg (by omega), if_pos (by omega), if_neg (by omega), hx]
        rw [show i * F.k + f - (i * F.k + f) = 0 by omega, show i * F.k + f - i * F.k = f by omega, List.getElem?_set_self (by rw [F.len]; exact hf)]
        rfl
      · rw [if_pos (c := j < i * F.k + F.k) (by omega), if_neg (c := j < i * F.k) (by omega), hx, List.getElem?_set_ne (by omega), ← hg]
        by_cases c4 : j < i * F.k + f
        · rw [if_pos (by omega), if_pos c4, if_pos c4]
        · rw [if_neg (by omega)]; congr 1; omega
    · rw [if_neg (by omega), if_neg (by omega)]
      congr 1; omega
end
section
variable {α : Type} [F : Enc α] {P : Program} {n : Nat} {s : Bs} {Q : APost} {σ : Fr} {O : Obs} {ops : Array Oper} {rest : List Oper} {d : Nat} {ty : TypeId} {pos : String} {after : Array Edge} {xs : List α}
theorem Rd.loadBox {t : TypeId} {x : Operand} {b m k0 : Nat} {cs : List AV} {T' : TypeId} [T : CA P t true] [Z : CS P t m] (hx : evA σ x = .op b 0) (hO : O[b]? = some (some ⟨.mx cs, T', k0⟩)) (hm : cs.length = m) : Rd P s O σ (.load t x) ty (.agg cs) :=
  Rd.loadOR hx hO hm (fun i hi => by simp [Ob.cells, Cs.list])
theorem Rd.loadSub {t : TypeId} {x : Operand} {b j m k0 : Nat} {cs ds : List AV} {T' : TypeId} [T : CA P t true] [Z : CS P t m] (hx : evA σ x = .op b j) (hO : O[b]? = some (some ⟨.mx cs, T', k0⟩)) (hd : (cs.drop j).take m = ds) (hm : ds.length = m) : Rd P s O σ (.load t x) ty (.agg ds) :=
  Rd.loadOR hx hO hm (fun i hi => by rw [← hd, List.getElem?_take, if_pos hi, List.getElem?_drop]; rfl)
theorem Rd.elR {t : TypeId} {x : Operand} {i m : Nat} [T : CA P t true] [Z : CS P t m] (hx : evA σ x = .t (.pt (eL xs) (i * m))) (hk : F.k = m) (hi : i < xs.length) : Rd P s O σ (.load t x) ty (.agg ((enc (xs[i]'hi)).map .t)) :=
  Rd.loadTR hx (by rw [F.len, hk]) fun f hf => by rw [← hk, eL_get hi (by rw [hk]; exact hf)]
theorem Rd.el1 {t : TypeId} {x : Operand} {i : Nat} {c : Tr} [T : CA P t false] (hx : evA σ x = .t (.pt (eL xs) (i * 1))) (hk : F.k = 1) (hi : i < xs.length) (hc : enc (xs[i]'hi) = [c]) : Rd P s O σ (.load t x) ty (.t c) :=
  Rd.loadT hx (by have := eL_get (xs := xs) (i := i) (f := 0) hi (by omega); rw [hk] at this; simpa [hc] using this)
theorem Rd.elF {t : TypeId} {x : Operand} {i m f : Nat} {c : Tr} [T : CA P t false] (hx : evA σ x = .t (.pt (eL xs) (i * m + f))) (hk : F.k = m) (hi : i < xs.length) (hc : (enc (xs[i]'hi))[f]? = some c) : Rd P s O σ (.load t x) ty (.t c) :=
  Rd.loadT hx (by rw [← hk, eL_get hi (by rw [← F.len (xs[i]'hi)]; exact (List.getElem?_eq_some_iff.1 hc).1)]; exact hc)
theorem Rd.elFR {t : TypeId} {x : Operand} {i m f q : Nat} {ds : List Tr} [T : CA P t true] [Z : CS P t q] (hx : evA σ x = .t (.pt (eL xs) (i * m + f))) (hk : F.k = m) (hi : i < xs.length) (hf : f + q ≤ m) (hd : ((enc (xs[i]'hi)).drop f).take q = ds) : Rd P s O σ (.load t x) ty (.agg (ds.map .t)) := by
  subst hd
  refine Rd.loadTR hx (by rw [List.length_take, List.length_drop, F.len, hk]; omega) fun g hg => ?_
  rw [← hk, Nat.add_assoc, eL_get hi (by rw [hk]; omega), List.getElem?_take, if_pos hg, List.getElem?_drop]
theorem Rd.ownR {t e : TypeId} {x : Operand} {b i k0 m : Nat} [T : CA P t true] [Z : CS P t m] (hx : evA σ x = .op b (0 + i * m)) (hO : O[b]? = some (some ⟨.tr (eL xs), e, k0⟩)) (hk : F.k = m) (hi : i < xs.length) : Rd P s O σ (.load t x) ty (.agg ((enc (xs[i]'hi)).map .t)) :=
  Rd.loadOTR (by rw [hx, Nat.zero_add]) hO (by rw [F.len, hk]) fun f hf => by rw [← hk, eL_get hi (by rw [hk]; exact hf)]
theorem Rd.own1 {t e : TypeId} {x : Operand} {b i k0 : Nat} {c : Tr} [T : CA P t false] (hx : evA σ x = .op b (0 + i * 1)) (hO : O[b]? = some (some ⟨.tr (eL xs), e, k0⟩)) (hk : F.k = 1) (hi : i < xs.length) (hc : enc (xs[i]'hi) = [c]) : Rd P s O σ (.load t x) ty (.t c) :=
  Rd.loadOT (by rw [hx, Nat.zero_add]) hO (by have := eL_get (xs := xs) (i := i) (f := 0) hi (by omega); rw [hk] at this; simpa [hc] using this)
/-- A store of a whole element. -/
theorem PL.stR {t e : TypeId} {x y : Operand} {b i k0 m : Nat} {v : AV} (x' : α) [Z : CS P t m] (hx : evA σ x = .op b (0 + i * m)) (hy : evA σ y = v) (hw : wholeA v = true) (hO : O[b]? = some (some ⟨.tr (eL xs), e, k0⟩)) (hk : F.k = m) (hi : i < xs.length) (hc : cellsA v = (enc x').map .t)
    (k : PL P n s ops rest Q σ (O.set b (some ⟨.tr (eL (xs.set i x')), e, k0⟩))) : PL P n s ops (⟨none, .store t x y, ty, pos, after, none⟩ :: rest) Q σ O := by
  refine PL.storeT (cs := enc x') (by rw [hx, Nat.zero_add]) hy hw hc (by rw [F.len, hk]) hO ?_ ?_
  · rw [eL_len, hk]; have : (i + 1) * m ≤ xs.length * m := Nat.mul_le_mul_right _ hi
    rw [Nat.add_mul] at this; omega
  · rw [← hk, eL_setR x' i hi]; exact k
theorem PL.stF {t e : TypeId} {x y : Operand} {b i k0 m f : Nat} {c : Tr} (x' : α) [Z : CS P t 1] (hx : evA σ x = .op b (0 + i * m + f)) (hy : evA σ y = .t c) (hO : O[b]? = some (some ⟨.tr (eL xs), e, k0⟩)) (hk : F.k = m) (hi : i < xs.length) (hf : f < m) (hc : enc x' = (enc (xs[i]'hi)).set f c)
    (k : PL P n s ops rest Q σ (O.set b (some ⟨.tr (eL (xs.set i x')), e, k0⟩))) : PL P n s ops (⟨none, .store t x y, ty, pos, after, none⟩ :: rest) Q σ O := by
  refine PL.storeT (m := 1) (cs := [c]) (by rw [hx, Nat.zero_add]) hy rfl rfl rfl hO ?_ ?_
  · rw [eL_len, hk]; have : (i + 1) * m ≤ xs.length * m := Nat.mul_le_mul_right _ hi
    rw [Nat.add_mul] at this; omega
  · rw [← hk, eL_setF (by rw [hk]; exact hf) x' i hi hc]; exact k
theorem Sb.own {O : Obs} {ρ : Rho} {b n0 k0 : Nat} {e : TypeId} (hO : O[b]? = some (some ⟨.tr (eL xs), e, k0⟩)) (hb : some b ∉ ρ) (hn : n0 = xs.length) (hk : F.k = k0) : Sb true O ρ (sL xs) (.os b 0 n0) := by
  subst hn; subst hk
  exact .fz rfl hO hb rfl (by rw [List.drop_zero]; exact eL_all xs) (by rw [eL_len]; simp)
theorem SrcA.eL {ys : List α} {k0 : Nat} (hk : F.k = k0) : SrcA s O (sL ys) k0 ys.length (V.eL ys) := SrcA.t (by rw [eL_len, hk])
theorem SrcA.ownE {O : Obs} {ys : List α} {b k0 m : Nat} {e : TypeId} (hO : O[b]? = some (some ⟨.tr (V.eL ys), e, k0⟩)) (hm : m = ys.length) (hk : F.k = k0) : SrcA s O (.os b 0 m) k0 m (V.eL ys) := by
  subst hm; subst hk
  exact SrcA.own hO rfl (by rw [List.drop_zero]; exact eL_all ys) (eL_len ys)
/-- append(xs, ys...) to a slice of the call's own. -/
theorem PL.appE {m0 : Nat} (hm : s.L.length = m0) {t e : TypeId} {x y : Operand} {b n0 m bytes k0 : Nat} {ya : AV} (ys zs : List α) [T : CSl P t e] [Z : CE P e k0 bytes] (hd : Nat.blt d n = true) (hx : evA σ x = .os b 0 n0) (hO : O[b]? = some (some ⟨.tr (eL xs), e, k0⟩)) (hy : evA σ y = ya)
    (hsrc : SrcA s (O.set b none) ya k0 m (eL ys)) (hb : Nat.ble m0 b = true) (hk : F.k = k0) (hn : n0 = xs.length) (hyl : m = ys.length) (hz : zs = xs ++ ys) (hbytes : (xs.length + ys.length) * bytes ≤ 140737488355328) (h63 : xs.length + ys.length ≤ 4611686018427387904)
    (kk : PL P n s ops rest Q (updA σ d (.os O.length 0 zs.length)) (O.set b none ++ [some ⟨.tr (eL zs), e, k0⟩])) :
    PL P n s ops (⟨some d, .call { callee := .builtin .append, args := #[x, y], argTypes := #[t, t] }, ty, pos, after, none⟩ :: rest) Q σ O := by
  subst hn; subst hyl; subst hz; subst hk
  refine PL.app hm hd hx hO hy hsrc hb (eL_all xs) (eL_len xs) hbytes h63 (eL_app xs ys).symm ?_
  rw [← List.length_append]; exact kk
theorem PR.appE {K : Fr → Obs → List Nat → Prop} {ids : List Nat} {m0 : Nat} (hm : s.L.length = m0) {t e : TypeId} {x y : Operand} {b n0 m bytes k0 : Nat} {ya : AV} (ys zs : List α) [T : CSl P t e] [Z : CE P e k0 bytes] (hd : Nat.blt d n = true) (hx : evA σ x = .os b 0 n0) (hO : O[b]? = some (some ⟨.tr (eL xs), e, k0⟩)) (hy : evA σ y = ya)
    (hsrc : SrcA s (O.set b none) ya k0 m (eL ys)) (hb : Nat.ble m0 b = true) (hxs : ids.contains b = true) (hk : F.k = k0) (hn : n0 = xs.length) (hyl : m = ys.length) (hz : zs = xs ++ ys) (hbytes : (xs.length + ys.length) * bytes ≤ 140737488355328) (h63 : xs.length + ys.length ≤ 4611686018427387904)
    (kk : PR P n s ops ids rest K (updA σ d (.os O.length 0 zs.length)) (O.set b none ++ [some ⟨.tr (eL zs), e, k0⟩])) :
    PR P n s ops ids (⟨some d, .call { callee := .builtin .append, args := #[x, y], argTypes := #[t, t] }, ty, pos, after, none⟩ :: rest) K σ O := by
  subst hn; subst hyl; subst hz; subst hk
  refine PR.app hm hd hx hO hy hsrc hb hxs (eL_all xs) (eL_len xs) hbytes h63 (eL_app xs ys).symm ?_
  rw [← List.length_append]; exact kk
end
/-- An owned slice. -/
abbrev ow {α : Type} [Enc α] (e : TypeId) (xs : List α) : Ob := ⟨.tr (eL xs), e, Enc.k α⟩
section
variable {P : Program} {n : Nat} {s : Bs} {Q : APost} {σ : Fr} {O : Obs} {ops : Array Oper} {rest : List Oper} {d : Nat} {ty : TypeId} {pos : String} {after : Array Edge} {xs : List Nat} {K : Fr → Obs → List Nat → Prop}
end
end V
end Go.Proofs.YtkjnnifnmoekjaaDoor
namespace Go.Proofs.YtkjnnifnmoekjaaDoor
namespace V
set_option linter.unusedVariables false
set_option linter.unusedSimpArgs false
open Go.RowKit
section
variable {P : Program} {n : Nat} {s : Bs} {Q : APost} {σ : Fr} {O : Obs}
end
section
variable {P : Program} {n : Nat} {s : Bs} {Q : APost} {σ : Fr} {O : Obs} {ops : Array Oper} {rest : List Oper} {d : Nat} {ty : TypeId} {pos : String} {after : Array Edge}
/-- x == nil, of a slice that is read: true only if it has no elements. -/
theorem PL.eqNil {t t' e : TypeId} {x y : Operand} {n0 : Nat} {cs : List Tr} [T : CSl P t e] (hd : Nat.blt d n = true) (hx : evA σ x = .t (.sl n0 cs)) (hy : evA σ y = .t (.v (.slice none 0 0)))
    (k : ∀ b : Bool, (b = true → n0 = 0) → PL P n s ops rest Q (updA σ d (bA b)) O) : PL P n s ops (⟨some d, .binOp .eql t x y t', ty, pos, after, none⟩ :: rest) Q σ O := by
  refine ⟨fun M U σc w S hσ => ?_⟩
  have ex := evA_rel hσ x; rw [hx] at ex
  have ey := (by have := evA_rel hσ y; rw [hy] at this; exact this.int)
  generalize hx' : ev σc x = u at ex
  cases ex with | t _ _ h =>
    cases h with
    | nil => exact LW.op hd (R.eqlNil hx' ey) ((k true (fun _ => rfl)).h M U _ w S (hσ.upd d (.t _ _ (.v _ rfl))))
    | sl0 => exact LW.op hd (R.eqlNil hx' ey) ((k false (fun h => by cases h)).h M U _ w S (hσ.upd d (.t _ _ (.v _ rfl))))
    | sl B off _ cap _ ys hU hl h1 hc hr hn => exact LW.op hd (R.eqlNil hx' ey) ((k false (fun h => by cases h)).h M U _ w S (hσ.upd d (.t _ _ (.v _ rfl))))
end
theorem Sb.osE {z : Bool} {O : Obs} {ρ : Rho} {b b' j n n' : Nat} (hρ : ρ[b]? = some (some b')) (h : n = n') : Sb z O ρ (.os b j n) (.os b' j n') := by subst h; exact .os hρ
theorem flat_ow {α : Type} [Enc α] [E : EncF α] {e : TypeId} {xs : List α} : (ow e xs).flat := by
  intro c hc
  simp only [eL, List.mem_flatMap] at hc
  obtain ⟨x, _, h⟩ := hc
  exact E.flat x c h
theorem ow_nil {α : Type} [Enc α] (e : TypeId) : (ow e ([] : List α)).c.list = [] := rfl
end V
end Go.Proofs.YtkjnnifnmoekjaaDoor
namespace Go.Proofs.YtkjnnifnmoekjaaDoor
namespace V
set_option linter.unusedVariables false
set_option linter.unusedSimpArgs false
open Go.RowKit
section
variable {P : Program} {n : Nat} {s : Bs} {Q : APost} {σ : Fr} {O : Obs} {ops : Array Oper} {rest : List Oper} {d : Nat} {ty : TypeId} {pos : String} {after : Array Edge} {xs : List Nat} {K : Fr → Obs → List Nat → Prop}
theorem Mem.addU {M : Mp} {U : Nat → Prop} {w : World} {B0 : Nat} (S : Mem s M O U w) (h1 : ¬ InM M B0) (h2 : B0 < w.heap.size) (h3 : s.w.heap.size ≤ B0) : Mem s M O (fun B => U B ∨ B = B0) w := by
  refine ⟨S.base, S.lent, S.len, S.lt, S.fresh, S.sep, S.fok, fun b ob x hO hM => ?_, fun B hB => ?_, S.tab.mono (fun _ _ => rfl) (fun B hB => .inl hB)⟩
  · exact (S.own b ob x hO hM).mono (fun _ _ => rfl) (fun c z h => h.mono (fun _ _ => rfl) (fun B hB => .inl hB) (fun _ _ e => e))
  · rcases hB with hB | rfl
    · exact S.u B hB
    · exact ⟨⟨h2, h1⟩, .inr h3⟩
/-- A step that makes a block which is only read from then on. -/
def Er (P : Program) (s : Bs) (O : Obs) (σ : Fr) (op : Op) (ty : TypeId) (x : AV) : Prop :=
  ∀ M U w σc, Mem s M O U w → Rels w U M σ σc → ∃ y w' U', Yl P σc op ty w y w' ∧ Mem s M O U' w' ∧ Rel w' U' M x y ∧ (∀ c z, Rel w U M c z → Rel w' U' M c z) ∧ BelowX [] w w'
theorem Er.of {op : Op} {len k : Nat} {e : TypeId} {cs : List AV} {ds : List Tr} (h : Ef P s O σ op ty (.os O.length 0 len) (O ++ [some ⟨.mx cs, e, k⟩])) (hd : trsL cs = some ds) (hl : ds.length = len * k) : Er P s O σ op ty (.t (.sl len ds)) := by
  intro M U w σc S hσ
  obtain ⟨y, w', p, hrun, S', hx, hall, hb, _⟩ := h M U w σc S hσ
  have hbl : Below w.heap.size w w' := hb.below
  have hcs := trsL_spec hd
  have hml : M.length = O.length := S.len
  have hlast : (M ++ [p])[O.length]? = some p := snoc_new hml.symm
  have hO : (O ++ [some (⟨.mx cs, e, k⟩ : Ob)])[O.length]? = some (some ⟨.mx cs, e, k⟩) := snoc_new rfl
  have keep : ∀ U' : Nat → Prop, (∀ B, U B → U' B) → ∀ c z, Rel w U M c z → Rel w' U' M c z := fun U' hU c z h => h.mono (fun B hB => hbl.block B (S.u B hB).1.1) hU (fun _ _ e => e)
  cases hx with
  | osd _ _ _ _ _ hM => rw [hlast] at hM; cases hM; exact (S'.own _ _ _ hO hlast).elim
  | osn _ hM =>
    rw [hlast] at hM; cases hM
    have hd0 : ds = [] := List.eq_nil_of_length_eq_zero (by simpa using hl)
    subst hd0
    exact ⟨_, w', U, hrun, S.below hbl, .t _ _ .nil, keep U (fun _ h => h), hb⟩
  | osz _ _ o L hM =>
    rw [hlast] at hM; cases hM
    have hd0 : ds = [] := List.eq_nil_of_length_eq_zero (by simpa using hl)
    subst hd0
    have hnew : ¬ InM M L.blk := by
      rintro ⟨b, L', h1, h2⟩
      have := S'.sep b O.length L' _ _ (snoc_old h1) hlast h2 rfl
      have := (List.getElem?_eq_some_iff.1 h1).1; omega
    have hfr : s.w.heap.size ≤ L.blk := by
      rcases S'.fresh _ (.ad hlast) with h | h
      · exact h
      · obtain ⟨b', L', h1, h2⟩ := Bs.exX h
        exact absurd ⟨b', L', S.lent _ _ h1, h2⟩ hnew
    exact ⟨_, w', _, hrun, (S.below hbl).addU hnew (S'.lt _ (.ad hlast)) hfr, .t _ _ (.sl L.blk o 0 0 [] [] (.inr rfl) rfl (fun y h => by simp at h) (fun j y h => by simp at h) (fun j c y h => by simp at h) (Nat.le_refl _)), keep _ (fun _ h => .inl h), hb⟩
  | os _ _ _ cap L hM hcap hn hx1 =>
    rw [hlast] at hM; cases hM
    have hnew : ¬ InM M L.blk := by
      rintro ⟨b, L', h1, h2⟩
      have := S'.sep b O.length L' _ _ (snoc_old h1) hlast h2 rfl
      have := (List.getElem?_eq_some_iff.1 h1).1; omega
    have hfr : s.w.heap.size ≤ L.blk := by
      rcases S'.fresh _ (.ad hlast) with h | h
      · exact h
      · obtain ⟨b', L', h1, h2⟩ := Bs.exX h
        exact absurd ⟨b', L', S.lent _ _ h1, h2⟩ hnew
    obtain ⟨hk, hle, cur, hcur, hsz, hr⟩ := S'.own _ _ _ hO hlast
    have hcl : (Ob.cells ⟨.mx cs, e, k⟩) = ds.map .t := hcs
    rw [hcl] at hle hr
    simp only [List.length_map] at hle
    have hyl : ((cur.toList.drop L.off).take ds.length).length = ds.length := by simp; omega
    have hget : ∀ i y, ((cur.toList.drop L.off).take ds.length)[i]? = some y → i < ds.length ∧ cur[L.off + i]? = some y := by
      intro i y h
      rw [List.getElem?_take] at h
      split at h
      · rename_i hi; rw [List.getElem?_drop] at h; exact ⟨hi, by simpa using h⟩
      · cases h
    refine ⟨_, w', _, hrun, (S.below hbl).addU hnew (S'.lt _ (.ad hlast)) hfr, .t _ _ (.sl L.blk (L.off + 0) len cap ds ((cur.toList.drop L.off).take ds.length) (.inr rfl) hyl ?_ ?_ ?_ hn), keep _ (fun _ h => .inl h), hb⟩
    · intro y hy
      obtain ⟨i, hi⟩ := mem_get hy
      obtain ⟨h3, h4⟩ := hget i y hi
      obtain ⟨y', h5, h6, _⟩ := hr i (.t ds[i]) (by simp [h3])
      rw [h4] at h5; cases h5; exact h6
    · intro i y hy
      obtain ⟨h3, h4⟩ := hget i y hy
      rw [cell_of_row w' _ _ cur _ _ hcur, Nat.add_zero]; exact h4
    · intro i c y hc hy
      obtain ⟨h3, h4⟩ := hget i y hy
      obtain ⟨y', h5, _, h6⟩ := hr i (.t c) (by simp [hc])
      rw [h4] at h5; cases h5
      cases h6 with | t _ _ h => exact h.mono (fun _ _ => rfl) (fun B hB => .inl hB)
theorem PL.er {op : Op} {x : AV} (hd : Nat.blt d n = true) (h : Er P s O σ op ty x) (k : PL P n s ops rest Q (updA σ d x) O) : PL P n s ops (⟨some d, op, ty, pos, after, none⟩ :: rest) Q σ O := by
  refine ⟨fun M U σc w S hσ => ?_⟩
  obtain ⟨y, w', U', hrun, S', hx, hall, _⟩ := h M U w σc S hσ
  exact LW.op hd hrun (k.h M U' _ w' S' (Rels.upd (fun t => hall _ _ (hσ t)) d hx))
/-- xs[l:h] -/
theorem Rd.sliceE {α : Type} [F : Enc α] {ys : List α} {t e : TypeId} {k l h : Nat} {x : Operand} {lo hi : Option Operand} [T : CSl P t e] [Z : CS P e k] (hx : evA σ x = sL ys) (hh : bnd σ hi ys.length h) (hl : bnd σ lo 0 l) (hb : l ≤ h ∧ h ≤ ys.length) (hk : F.k = k := by rfl) :
    Rd P s O σ (.slice t x lo hi none) ty (.t (.sl ((ys.drop l).take (h - l)).length (eL ((ys.drop l).take (h - l))))) := by
  have := Rd.sliceT (P := P) (s := s) (O := O) (ty := ty) (t := t) hx hh hl hb (by rw [← hk, eL_drop, eL_take])
  have e : ((ys.drop l).take (h - l)).length = h - l := by simp; omega
  rw [e]; exact this
theorem map_ints : ∀ (xs : List Int), (xs.map iA).flatMap cellsA = (eL xs).map .t
  | [] => rfl
  | x :: xs => by rw [List.map_cons, List.flatMap_cons, map_ints xs]; rfl
theorem map_strs : ∀ (xs : List ByteArray), (xs.map sA).flatMap cellsA = (eL xs).map .t
  | [] => rfl
  | x :: xs => by rw [List.map_cons, List.flatMap_cons, map_strs xs]; rfl
theorem trsL_map : ∀ (ds : List Tr), trsL (ds.map .t) = some ds
  | [] => rfl
  | c :: ds => by simp [trsL, trsL_map ds]
/-- The literal of a slice of numbers. -/
theorem Er.ints (xs : List Int) {t e : TypeId} {len : Nat} {parts : Array (Nat × Operand)} {z : Value} [T : CSl P t e] [Z : CS P e 1] [Y : CZ P e z] (hz : z.cells.size = 1) (hlen : xs.length = len) (hle : 0 < len * 1 ∧ len * 1 ≤ 16777216)
    (hp : parts.toList.map (fun x => (x.1, evA σ x.2)) = ((xs.map iA).zipIdx 0).map fun x => (x.2, x.1)) : Er P s O σ (.buildSlice t len parts) ty (.t (.sl len (eL xs))) :=
  Er.of (Ef.lit (xs.map iA) hz (by simpa using hlen) hle (by simp [wholeA, isC]) (by simp [cellsA]) hp (map_ints xs)) (trsL_map _) (by rw [eL_len, hlen]; rfl)
theorem Er.strs (xs : List ByteArray) {t e : TypeId} {len : Nat} {parts : Array (Nat × Operand)} {z : Value} [T : CSl P t e] [Z : CS P e 1] [Y : CZ P e z] (hz : z.cells.size = 1) (hlen : xs.length = len) (hle : 0 < len * 1 ∧ len * 1 ≤ 16777216)
    (hp : parts.toList.map (fun x => (x.1, evA σ x.2)) = ((xs.map sA).zipIdx 0).map fun x => (x.2, x.1)) : Er P s O σ (.buildSlice t len parts) ty (.t (.sl len (eL xs))) :=
  Er.of (Ef.lit (xs.map sA) hz (by simpa using hlen) hle (by simp [wholeA, isC]) (by simp [cellsA]) hp (map_strs xs)) (trsL_map _) (by rw [eL_len, hlen]; rfl)
end
end V
end Go.Proofs.YtkjnnifnmoekjaaDoor
namespace Go.Proofs.YtkjnnifnmoekjaaDoor
namespace V
set_option linter.unusedVariables false
set_option linter.unusedSimpArgs false
open Go.RowKit
section
variable {P : Program} {n : Nat} {s : Bs} {Q : APost} {σ : Fr} {O : Obs} {ops : Array Oper} {rest : List Oper} {d : Nat} {ty : TypeId} {pos : String} {after : Array Edge} {xs : List Nat} {K : Fr → Obs → List Nat → Prop}
end
end V
end Go.Proofs.YtkjnnifnmoekjaaDoor
namespace Go.Proofs.YtkjnnifnmoekjaaDoor
namespace V
open Enc (enc)
set_option linter.unusedVariables false
set_option linter.unusedSimpArgs false
open Go.RowKit
def ixI {α : Type} (xs : List α) (i : Int) : Option α := if 0 ≤ i then xs[i.toNat]? else none
def chk (e : Int) : Option Int := if -9223372036854775808 ≤ e ∧ e ≤ 9223372036854775807 then some e else none
def quoM (a b : Int) : Option Int := if 0 ≤ a ∧ a ≤ 9223372036854775807 ∧ 1 ≤ b then some (a / b) else none
def remM (a b : Int) : Option Int := if 0 ≤ a ∧ 1 ≤ b then some (a % b) else none
def xorM (a b : Int) : Option Int := if 0 ≤ a ∧ a ≤ 9223372036854775807 ∧ 0 ≤ b ∧ b ≤ 9223372036854775807 then some ((a.toNat ^^^ b.toNat : Nat) : Int) else none
def appM {α : Type} (w : Nat) (xs ys : List α) : Option (List α) := if (xs.length + ys.length) * w ≤ 140737488355328 ∧ xs.length + ys.length ≤ 4611686018427387904 then some (xs ++ ys) else none
def ixS (u : ByteArray) (i : Int) : Option UInt8 := if h : 0 ≤ i ∧ i.toNat < u.size then some (u[i.toNat]'h.2) else none
def addS (a b : ByteArray) : Option ByteArray := if a.size + b.size ≤ 9223372036854775807 then some (a ++ b) else none
def subM {α : Type} (xs : List α) (l h : Int) : Option (List α) := if 0 ≤ l ∧ l ≤ h ∧ h ≤ (xs.length : Int) then some ((xs.drop l.toNat).take (h.toNat - l.toNat)) else none
def loopM {σ β : Type} (body : σ → Option (σ ⊕ β)) : Nat → σ → Option β
  | 0, _ => none
  | n + 1, s => match body s with
    | none => none
    | some (.inl s') => loopM body n s'
    | some (.inr b) => some b
section
variable {α β : Type}
theorem cond_some {c : Bool} {a b : Option α} {r : α} (h : cond c a b = some r) : (c = true ∧ a = some r) ∨ (c = false ∧ b = some r) := by
  cases c
  · exact .inr ⟨rfl, h⟩
  · exact .inl ⟨rfl, h⟩
theorem bind_some {o : Option α} {f : α → Option β} {r : β} (h : o.bind f = some r) : ∃ x, o = some x ∧ f x = some r := Option.bind_eq_some_iff.1 h
theorem some_in {a b : α} (h : some a = some b) : a = b := Option.some.inj h
theorem loopM_some {σ : Type} {body : σ → Option (σ ⊕ β)} {n : Nat} {s : σ} {b : β} (h : loopM body n s = some b) : ∃ m y, n = m + 1 ∧ body s = some y ∧ (match y with | .inl s' => loopM body m s' = some b | .inr b' => b' = b) := by
  cases n with
  | zero => cases h
  | succ m =>
    unfold loopM at h
    cases hb : body s with
    | none => rw [hb] at h; cases h
    | some y =>
      rw [hb] at h
      refine ⟨m, y, rfl, rfl, ?_⟩
      cases y with
      | inl s' => exact h
      | inr b' => exact Option.some.inj h
theorem ixI_spec {xs : List α} {i : Int} {x : α} (h : ixI xs i = some x) : 0 ≤ i ∧ ∃ h : i.toNat < xs.length, xs[i.toNat] = x := by
  unfold ixI at h
  split at h
  · obtain ⟨h1, h2⟩ := List.getElem?_eq_some_iff.1 h
    exact ⟨by assumption, h1, h2⟩
  · cases h
theorem ixI_lt {xs : List α} {i : Int} {x : α} (h : ixI xs i = some x) : 0 ≤ i ∧ i < (xs.length : Int) := by
  obtain ⟨h1, h2, _⟩ := ixI_spec h; omega
theorem not_t {b : Bool} (h : b = true) : (!b) = false := by rw [h]; rfl
theorem not_f {b : Bool} (h : b = false) : (!b) = true := by rw [h]; rfl
end
section
variable {P : Program} {n : Nat} {s : Bs} {Q : APost} {σ : Fr} {O : Obs} {ops : Array Oper} {rest : List Oper} {d : Nat} {ty t t' : TypeId} {pos : String} {after : Array Edge} {x y : Operand} {a b v : Int}
theorem chk_spec (h : chk a = some v) : a = v ∧ -9223372036854775808 ≤ a ∧ a ≤ 9223372036854775807 := by
  unfold chk at h; split at h
  · rename_i hb; exact ⟨Option.some.inj h, hb⟩
  · cases h
theorem Rd.addM (hx : evA σ x = iA a) (hy : evA σ y = iA b) (h : chk (a + b) = some v) : Rd P s O σ (.binOp .add t x y t') ty (iA v) := by
  obtain ⟨rfl, hb⟩ := chk_spec h; exact Rd.add hx hy hb
theorem Rd.subM (hx : evA σ x = iA a) (hy : evA σ y = iA b) (h : chk (a - b) = some v) : Rd P s O σ (.binOp .sub t x y t') ty (iA v) := by
  obtain ⟨rfl, hb⟩ := chk_spec h; exact Rd.sub hx hy hb
theorem Rd.mulM (hx : evA σ x = iA a) (hy : evA σ y = iA b) (h : chk (a * b) = some v) : Rd P s O σ (.binOp .mul t x y t') ty (iA v) := by
  obtain ⟨rfl, hb⟩ := chk_spec h; exact Rd.mul hx hy hb
theorem Rd.negM (hx : evA σ x = iA a) (h : chk (-a) = some v) : Rd P s O σ (.unOp .neg t x) ty (iA v) := by
  obtain ⟨rfl, hb⟩ := chk_spec h; exact Rd.neg hx hb
theorem Rd.quoM (hx : evA σ x = iA a) (hy : evA σ y = iA b) (h : quoM a b = some v) : Rd P s O σ (.binOp .quo t x y t') ty (iA v) := by
  unfold V.quoM at h; split at h
  · cases h; exact Rd.quo hx hy (by assumption)
  · cases h
theorem Rd.remM (hx : evA σ x = iA a) (hy : evA σ y = iA b) (h : remM a b = some v) : Rd P s O σ (.binOp .rem t x y t') ty (iA v) := by
  unfold V.remM at h; split at h
  · cases h; exact Rd.rem hx hy (by assumption)
  · cases h
theorem Rd.xorM (hx : evA σ x = iA a) (hy : evA σ y = iA b) (h : xorM a b = some v) : Rd P s O σ (.binOp .xor t x y t') ty (iA v) := by
  unfold V.xorM at h; split at h
  · rename_i hb
    cases h
    exact Rd.xor (m := a.toNat) (n := b.toNat) (by rw [hx, Int.toNat_of_nonneg hb.1]) (by rw [hy, Int.toNat_of_nonneg hb.2.2.1]) (by omega) (by omega)
  · cases h
theorem Rd.ixSM {u : ByteArray} {i : Int} {c : UInt8} [T : CSt P t] (hx : evA σ x = sA u) (hy : evA σ y = iA i) (h : ixS u i = some c) : Rd P s O σ (.index t x y) ty (.t (.v (.int .u8 c.toNat))) := by
  unfold ixS at h; split at h
  · rename_i hb; cases h; exact Rd.ixStr hx hy hb
  · cases h
theorem Rd.addSM {u u' c : ByteArray} (hx : evA σ x = sA u) (hy : evA σ y = sA u') (h : V.addS u u' = some c) : Rd P s O σ (.binOp .add t x y t') ty (sA c) := by
  unfold V.addS at h; split at h
  · cases h; exact Rd.addS hx hy (by assumption)
  · cases h
end
section
variable {α : Type} [F : Enc α] {P : Program} {n : Nat} {s : Bs} {Q : APost} {σ : Fr} {O : Obs} {ops : Array Oper} {rest : List Oper} {d : Nat} {ty : TypeId} {pos : String} {after : Array Edge} {xs : List α} {e : α} {i : Int}
theorem Rd.ixM {t e' : TypeId} {k : Nat} {x y : Operand} [T : CSl P t e'] [Z : CS P e' k] (hx : evA σ x = sL xs) (hy : evA σ y = iA i) (h : ixI xs i = some e) : Rd P s O σ (.indexAddr t x y) ty (.t (.pt (eL xs) (i.toNat * k))) := Rd.ixT hx hy (ixI_lt h)
theorem Rd.elM1 {t : TypeId} {x : Operand} {c : Tr} [T : CA P t false] (hx : evA σ x = .t (.pt (eL xs) (i.toNat * 1))) (h : ixI xs i = some e) (hk : F.k = 1) (hc : enc e = [c]) : Rd P s O σ (.load t x) ty (.t c) := by
  obtain ⟨_, h2, rfl⟩ := ixI_spec h; exact Rd.el1 hx hk h2 hc
theorem Rd.elMF {t : TypeId} {x : Operand} {m f : Nat} {c : Tr} [T : CA P t false] (hx : evA σ x = .t (.pt (eL xs) (i.toNat * m + f))) (h : ixI xs i = some e) (hk : F.k = m) (hc : (enc e)[f]? = some c) : Rd P s O σ (.load t x) ty (.t c) := by
  obtain ⟨_, h2, rfl⟩ := ixI_spec h; exact Rd.elF hx hk h2 hc
theorem Rd.elMR {t : TypeId} {x : Operand} {m : Nat} {ds : List AV} [T : CA P t true] [Z : CS P t m] (hx : evA σ x = .t (.pt (eL xs) (i.toNat * m))) (h : ixI xs i = some e) (hk : F.k = m) (hd : (enc e).map .t = ds) : Rd P s O σ (.load t x) ty (.agg ds) := by
  obtain ⟨_, h2, rfl⟩ := ixI_spec h; rw [← hd]; exact Rd.elR hx hk h2
theorem Rd.elMFR {t : TypeId} {x : Operand} {m f q : Nat} {ds : List AV} [T : CA P t true] [Z : CS P t q] (hx : evA σ x = .t (.pt (eL xs) (i.toNat * m + f))) (h : ixI xs i = some e) (hk : F.k = m) (hf : Nat.ble (f + q) m = true) (hd : (((enc e).drop f).take q).map .t = ds) : Rd P s O σ (.load t x) ty (.agg ds) := by
  obtain ⟨_, h2, rfl⟩ := ixI_spec h; rw [← hd]; exact Rd.elFR hx hk h2 (Nat.le_of_ble_eq_true hf) rfl
theorem Rd.ixOM {t e' : TypeId} {k b n0 : Nat} {x y : Operand} {ob : Ob} [T : CSl P t e'] [Z : CS P e' k] (hx : evA σ x = .os b 0 n0) (hO : O[b]? = some (some ob)) (hy : evA σ y = iA i) (h : 0 ≤ i ∧ i < (n0 : Int)) : Rd P s O σ (.indexAddr t x y) ty (.op b (0 + i.toNat * k)) := Rd.ixO hx hO hy h
theorem Rd.owM1 {t e' : TypeId} {x : Operand} {b k0 : Nat} {c : Tr} [T : CA P t false] (hx : evA σ x = .op b (0 + i.toNat * 1)) (hO : O[b]? = some (some ⟨.tr (eL xs), e', k0⟩)) (h : ixI xs i = some e) (hk : F.k = 1) (hc : enc e = [c]) : Rd P s O σ (.load t x) ty (.t c) := by
  obtain ⟨_, h2, rfl⟩ := ixI_spec h; exact Rd.own1 hx hO hk h2 hc
theorem Rd.owMR {t e' : TypeId} {x : Operand} {b k0 m : Nat} {ds : List AV} [T : CA P t true] [Z : CS P t m] (hx : evA σ x = .op b (0 + i.toNat * m)) (hO : O[b]? = some (some ⟨.tr (eL xs), e', k0⟩)) (h : ixI xs i = some e) (hk : F.k = m) (hd : (enc e).map .t = ds) : Rd P s O σ (.load t x) ty (.agg ds) := by
  obtain ⟨_, h2, rfl⟩ := ixI_spec h; rw [← hd]; exact Rd.ownR hx hO hk h2
theorem Rd.owMFR {t e' : TypeId} {x : Operand} {b m f q k0 : Nat} {ds : List AV} [T : CA P t true] [Z : CS P t q] (hx : evA σ x = .op b (0 + i.toNat * m + f)) (hO : O[b]? = some (some ⟨.tr (eL xs), e', k0⟩)) (h : ixI xs i = some e) (hk : F.k = m) (hf : Nat.ble (f + q) m = true) (hd : (((enc e).drop f).take q).map .t = ds) : Rd P s O σ (.load t x) ty (.agg ds) := by
  obtain ⟨_, h2, rfl⟩ := ixI_spec h; rw [← hd, List.map_take, List.map_drop]
  have hf' := Nat.le_of_ble_eq_true hf
  refine Rd.loadOR hx hO (by rw [List.length_take, List.length_drop, List.length_map, F.len, hk]; omega) fun g hg => ?_
  rw [← hk, Nat.add_assoc, Nat.add_assoc, Nat.zero_add, List.getElem?_take, if_pos hg, List.getElem?_drop, List.getElem?_map]
  show ((eL xs).map AV.t)[i.toNat * F.k + (f + g)]? = _
  rw [List.getElem?_map, eL_get h2 (by rw [hk]; omega)]
theorem PL.stRM {t e' : TypeId} {x y : Operand} {b k0 m : Nat} {v : AV} (x' : α) [Z : CS P t m] (hx : evA σ x = .op b (0 + i.toNat * m)) (hy : evA σ y = v) (hw : wholeA v = true) (hO : O[b]? = some (some ⟨.tr (eL xs), e', k0⟩)) (hk : F.k = m) (h : ixI xs i = some e) (hc : cellsA v = (enc x').map .t)
    (k : PL P n s ops rest Q σ (O.set b (some ⟨.tr (eL (xs.set i.toNat x')), e', k0⟩))) : PL P n s ops (⟨none, .store t x y, ty, pos, after, none⟩ :: rest) Q σ O := by
  obtain ⟨_, h2, rfl⟩ := ixI_spec h; exact PL.stR x' hx hy hw hO hk h2 hc k
theorem PL.stFM {t e' : TypeId} {x y : Operand} {b k0 m f : Nat} {c : Tr} (x' : α) [Z : CS P t 1] (hx : evA σ x = .op b (0 + i.toNat * m + f)) (hy : evA σ y = .t c) (hO : O[b]? = some (some ⟨.tr (eL xs), e', k0⟩)) (hk : F.k = m) (h : ixI xs i = some e) (hf : Nat.blt f m = true) (hc : enc x' = (enc e).set f c)
    (k : PL P n s ops rest Q σ (O.set b (some ⟨.tr (eL (xs.set i.toNat x')), e', k0⟩))) : PL P n s ops (⟨none, .store t x y, ty, pos, after, none⟩ :: rest) Q σ O := by
  obtain ⟨_, h2, rfl⟩ := ixI_spec h; exact PL.stF x' hx hy hO hk h2 (by simpa using hf) hc k
theorem Ef.lit0M (α : Type) [F : Enc α] {t e' : TypeId} {q : Nat} [T : CSl P t e'] [Z : CS P e' q] : Ef P s O σ (.buildSlice t 0 #[]) ty (.os O.length 0 0) (O ++ [some ⟨.tr (eL ([] : List α)), e', q⟩]) := Ef.lit0
/-- A nil slice among trees. -/
def nz : AV → AV
  | .t (.v (.slice none 0 0)) => .t (.sl 0 [])
  | x => x
theorem nz_rel {w : World} {U : Nat → Prop} {M : Mp} {c : AV} {y : Value} (h : Rel w U M c y) : Rel w U M (nz c) y := by
  unfold nz
  split
  · cases h with | t _ _ h => cases h; exact .t _ _ .nil
  · exact h
theorem Ef.convN {op : Op} {v : AV} {c c' : Cs} {e' : TypeId} {k : Nat} (h : c.list.map nz = c'.list) (H : Ef P s O σ op ty v (O ++ [some ⟨c, e', k⟩])) (hf : c.noFm = true := by rfl) : Ef P s O σ op ty v (O ++ [some ⟨c', e', k⟩]) := by
  intro M U w σc S hσ
  obtain ⟨y, w', p, h1, S', h3⟩ := H M U w σc S hσ
  refine ⟨y, w', p, h1, ⟨S'.base, S'.lent, by simpa using S'.len, S'.lt, S'.fresh, S'.sep, S'.fok, fun b ob x hO hM => ?_, S'.u, S'.tab⟩, h3⟩
  rcases snoc_get hO with h4 | ⟨h4, h5⟩
  · refine S'.own b ob x ?_ hM
    have := (List.getElem?_eq_some_iff.1 h4).1
    rw [List.getElem?_append_left this]; exact h4
  · cases h5
    have hb := S'.own b ⟨c, e', k⟩ x (by subst h4; simp) hM
    have hl : c'.list.length = c.list.length := by rw [← h]; simp
    cases x with
    | nl =>
      show c'.list = []
      have : c.list = [] := hb
      rw [this] at hl; exact List.eq_nil_of_length_eq_zero hl
    | dead => exact hb
    | fm F => obtain ⟨css, e, _⟩ := hb; simp only at e; rw [e] at hf; cases hf
    | ad L =>
      obtain ⟨g1, g2, cur, g3, g4, g5⟩ := hb
      refine ⟨g1, by show L.off + c'.list.length ≤ L.size; rw [hl]; exact g2, cur, g3, g4, fun j d hd => ?_⟩
      simp only [Ob.cells] at hd
      rw [← h, List.getElem?_map] at hd
      cases hq : c.list[j]? with
      | none => rw [hq] at hd; cases hd
      | some q =>
        rw [hq] at hd; simp at hd; subst hd
        obtain ⟨y, e1, e2, e3⟩ := g5 j q hq
        exact ⟨y, e1, e2, nz_rel e3⟩
theorem Ef.litM (ys : List α) (avs : List AV) {t e' : TypeId} {q len : Nat} {parts : Array (Nat × Operand)} {z : Value} [T : CSl P t e'] [Z : CS P e' q] [Y : CZ P e' z] (hz : z.cells.size = q) (hlen : avs.length = len) (hle : 0 < len * q ∧ len * q ≤ 16777216)
    (hw : avs.all wholeA = true) (hq : avs.all (fun c => Nat.beq (cellsA c).length q) = true) (hp : parts.toList.map (fun x => (x.1, evA σ x.2)) = (avs.zipIdx 0).map fun x => (x.2, x.1)) (hcs : (avs.flatMap cellsA).map nz = (ys.flatMap enc).map .t) : Ef P s O σ (.buildSlice t len parts) ty (.os O.length 0 len) (O ++ [some ⟨.tr (eL ys), e', q⟩]) :=
  Ef.convN (c := .mx (avs.flatMap cellsA)) hcs (Ef.lit avs hz hlen hle hw hq hp rfl)
theorem appM_spec {α : Type} {w : Nat} {xs ys zs : List α} (h : appM w xs ys = some zs) : zs = xs ++ ys ∧ (xs.length + ys.length) * w ≤ 140737488355328 ∧ xs.length + ys.length ≤ 4611686018427387904 := by
  unfold appM at h; split at h
  · rename_i hb; exact ⟨(Option.some.inj h).symm, hb⟩
  · cases h
/-- append to a slice of the call's own. -/
theorem PL.apM {m0 : Nat} (hm : s.L.length = m0) {t e' : TypeId} {x y : Operand} {b n0 m bytes k0 : Nat} {ya : AV} {ys zs : List α} [T : CSl P t e'] [Z : CE P e' k0 bytes] (hd : Nat.blt d n = true) (hx : evA σ x = .os b 0 n0) (hO : O[b]? = some (some ⟨.tr (eL xs), e', k0⟩)) (hy : evA σ y = ya)
    (hsrc : SrcA s (O.set b none) ya k0 m (eL ys)) (hb : Nat.ble m0 b = true) (hk : F.k = k0) (hn : n0 = xs.length) (hyl : m = ys.length) (h : appM bytes xs ys = some zs)
    (kk : PL P n s ops rest Q (updA σ d (.os O.length 0 zs.length)) (O.set b none ++ [some ⟨.tr (eL zs), e', k0⟩])) :
    PL P n s ops (⟨some d, .call { callee := .builtin .append, args := #[x, y], argTypes := #[t, t] }, ty, pos, after, none⟩ :: rest) Q σ O := by
  obtain ⟨h1, h2, h3⟩ := appM_spec h
  exact PL.appE hm ys zs hd hx hO hy hsrc hb hk hn hyl h1 h2 h3 kk
theorem PR.apM {K : Fr → Obs → List Nat → Prop} {ids : List Nat} {m0 : Nat} (hm : s.L.length = m0) {t e' : TypeId} {x y : Operand} {b n0 m bytes k0 : Nat} {ya : AV} {ys zs : List α} [T : CSl P t e'] [Z : CE P e' k0 bytes] (hd : Nat.blt d n = true) (hx : evA σ x = .os b 0 n0) (hO : O[b]? = some (some ⟨.tr (eL xs), e', k0⟩)) (hy : evA σ y = ya)
    (hsrc : SrcA s (O.set b none) ya k0 m (eL ys)) (hb : Nat.ble m0 b = true) (hxs : ids.contains b = true) (hk : F.k = k0) (hn : n0 = xs.length) (hyl : m = ys.length) (h : appM bytes xs ys = some zs)
    (kk : PR P n s ops ids rest K (updA σ d (.os O.length 0 zs.length)) (O.set b none ++ [some ⟨.tr (eL zs), e', k0⟩])) :
    PR P n s ops ids (⟨some d, .call { callee := .builtin .append, args := #[x, y], argTypes := #[t, t] }, ty, pos, after, none⟩ :: rest) K σ O := by
  obtain ⟨h1, h2, h3⟩ := appM_spec h
  exact PR.appE hm ys zs hd hx hO hy hsrc hb hxs hk hn hyl h1 h2 h3 kk
theorem PR.apMX {K : Fr → Obs → List Nat → Prop} {ids : List Nat} {m0 : Nat} (hm : s.L.length = m0) {t e' : TypeId} {x y : Operand} {b n0 m bytes k0 : Nat} {ya : AV} {ys zs : List α} [T : CSl P t e'] [Z : CE P e' k0 bytes] (hd : Nat.blt d n = true) (hx : evA σ x = .os b 0 n0) (hO : O[b]? = some (some ⟨.tr (eL xs), e', k0⟩)) (hy : evA σ y = ya)
    (hsrc : SrcA s (O.set b none) ya k0 m (eL ys)) (hb : Nat.ble m0 b = true) (hxs : ids.contains b = true) (hk : F.k = k0) (hn : n0 = xs.length) (hyl : m = ys.length) (h : appM bytes xs ys = some zs)
    (kk : PR P n s ops (O.length :: ids) rest K (updA σ d (.os O.length 0 zs.length)) (O.set b none ++ [some ⟨.tr (eL zs), e', k0⟩])) :
    PR P n s ops ids (⟨some d, .call { callee := .builtin .append, args := #[x, y], argTypes := #[t, t] }, ty, pos, after, none⟩ :: rest) K σ O := by
  obtain ⟨h1, h2, h3⟩ := appM_spec h
  subst h1 hn hyl hk
  have hl : (xs ++ ys).length = xs.length + ys.length := List.length_append
  rw [hl] at kk
  exact PR.appX hm hd hx hO hy hsrc hb hxs (eL_all xs) (eL_len xs) h2 h3 (eL_app xs ys).symm kk
theorem flat_nil : ∀ ob, ob ∈ ([] : List Ob) → ob.flat := fun _ h => by cases h
theorem flat_cons {a : Ob} {l : List Ob} (h : a.flat) (t : ∀ ob, ob ∈ l → ob.flat) : ∀ ob, ob ∈ a :: l → ob.flat := fun ob hm => by
  rcases List.mem_cons.1 hm with rfl | hm
  · exact h
  · exact t ob hm
theorem Sb.nilE {z : Bool} {O : Obs} {ρ : Rho} : Sb z O ρ (sL ([] : List α)) (.t (.v (.slice none 0 0))) := .nil
end
/-- The result as a value, and the blocks that come with it. -/
abbrev RE (rv : AV) (rb : List Ob) : AV → List Ob → Prop := fun v bl => v = rv ∧ bl = rb
section
variable {P : Program} {n : Nat} {s : Bs} {Q : APost} {σ : Fr} {O : Obs} {ops : Array Oper} {rest : List Oper} {d : Nat} {ty : TypeId} {pos : String} {after : Array Edge} {xs : List Nat} {K : Fr → Obs → List Nat → Prop}
theorem PL.callM (z : Bool) (κ : List Nat) {f : FuncId} {O0 : List Ob} {args ds : List AV} {rv : AV} {rb : List Ob} {as' : List Operand} {ats : Array TypeId} (hc : FnX P f O0 args (RE rv rb)) (hd : Nat.blt d n = true)
    (hr : ∀ args w, (callFunc f args).run P w = .ok (.enter f args) w) (ha : as'.map (evA σ) = ds) (hs : SbL z O (κ.map some) args ds) (hnd : nodupB (κ.map some) = true) (hb : BlkL z O (κ.map some) (κ.map some) O0)
    (hfl : z = true → rv.flat ∧ ∀ ob, ob ∈ rb → ob.flat)
    (k : PL P n s ops rest Q (updA σ d (rv.ren (thet κ O.length))) (setK (O ++ (rb.drop κ.length).map (fun o => some (o.ren (thet κ O.length)))) κ (rb.map (·.ren (thet κ O.length))))) :
    PL P n s ops (⟨some d, .call { callee := .value (.func f), args := as'.toArray, argTypes := ats }, ty, pos, after, none⟩ :: rest) Q σ O :=
  PL.call z κ hc hd hr ha hs hnd hb (fun hz r bl h => by obtain ⟨rfl, rfl⟩ := h; exact hfl hz) (fun r bl h => by obtain ⟨rfl, rfl⟩ := h; exact k)
theorem PR.callM (z : Bool) (κ : List Nat) {f : FuncId} {O0 : List Ob} {args ds : List AV} {rv : AV} {rb : List Ob} {as' : List Operand} {ats : Array TypeId} (hc : FnX P f O0 args (RE rv rb)) (hd : Nat.blt d n = true)
    (hr : ∀ args w, (callFunc f args).run P w = .ok (.enter f args) w) (ha : as'.map (evA σ) = ds) (hs : SbL z O (κ.map some) args ds) (hnd : nodupB (κ.map some) = true) (hb : BlkL z O (κ.map some) (κ.map some) O0)
    (hfl : z = true → rv.flat ∧ ∀ ob, ob ∈ rb → ob.flat) (hκ : κ.all (fun b => xs.contains b) = true)
    (k : PR P n s ops xs rest K (updA σ d (rv.ren (thet κ O.length))) (setK (O ++ (rb.drop κ.length).map (fun o => some (o.ren (thet κ O.length)))) κ (rb.map (·.ren (thet κ O.length))))) :
    PR P n s ops xs (⟨some d, .call { callee := .value (.func f), args := as'.toArray, argTypes := ats }, ty, pos, after, none⟩ :: rest) K σ O :=
  PR.call z κ hc hd hr ha hs hnd hb (fun hz r bl h => by obtain ⟨rfl, rfl⟩ := h; exact hfl hz) hκ (fun r bl h => by obtain ⟨rfl, rfl⟩ := h; exact k)
theorem PR.callMX (ys : List Nat) (z : Bool) (κ : List Nat) {f : FuncId} {O0 : List Ob} {args ds : List AV} {rv : AV} {rb : List Ob} {as' : List Operand} {ats : Array TypeId} (hc : FnX P f O0 args (RE rv rb)) (hd : Nat.blt d n = true)
    (hr : ∀ args w, (callFunc f args).run P w = .ok (.enter f args) w) (ha : as'.map (evA σ) = ds) (hs : SbL z O (κ.map some) args ds) (hnd : nodupB (κ.map some) = true) (hb : BlkL z O (κ.map some) (κ.map some) O0)
    (hfl : z = true → rv.flat ∧ ∀ ob, ob ∈ rb → ob.flat) (hκ : κ.all (fun b => xs.contains b) = true) (hys : ys.all (fun b => Nat.ble O.length b) = true) (hyl : ys.all (fun b => Nat.blt b (O.length + (rb.drop κ.length).length)) = true)
    (k : PR P n s ops (ys ++ xs) rest K (updA σ d (rv.ren (thet κ O.length))) (setK (O ++ (rb.drop κ.length).map (fun o => some (o.ren (thet κ O.length)))) κ (rb.map (·.ren (thet κ O.length))))) :
    PR P n s ops xs (⟨some d, .call { callee := .value (.func f), args := as'.toArray, argTypes := ats }, ty, pos, after, none⟩ :: rest) K σ O :=
  PR.callX ys z κ hc hd hr ha hs hnd hb (fun hz r bl h => by obtain ⟨rfl, rfl⟩ := h; exact hfl hz) hκ hys (fun r bl h b hb => by obtain ⟨rfl, rfl⟩ := h; exact Nat.le_of_ble_eq_true (List.all_eq_true.1 hyl b hb)) (fun r bl h => by obtain ⟨rfl, rfl⟩ := h; exact k)
end
section
variable {P : Program} {n : Nat} {s : Bs} {Q : APost} {σ : Fr} {O : Obs} {ops : Array Oper} {rest : List Oper} {d : Nat} {xs : List Nat} {K : Fr → Obs → List Nat → Prop} {v0 : AV}
theorem PL.nm (v : AV) (O' : Obs) (hv : v0 = v) (hO : O = O') (k : PL P n s ops rest Q (updA σ d v) O') : PL P n s ops rest Q (updA σ d v0) O := by subst hv; subst hO; exact k
theorem PL.nO (O' : Obs) (hO : O = O') (k : PL P n s ops rest Q σ O') : PL P n s ops rest Q σ O := by subst hO; exact k
theorem PR.nm (v : AV) (O' : Obs) (hv : v0 = v) (hO : O = O') (k : PR P n s ops xs rest K (updA σ d v) O') : PR P n s ops xs rest K (updA σ d v0) O := by subst hv; subst hO; exact k
theorem PR.nO (O' : Obs) (hO : O = O') (k : PR P n s ops xs rest K σ O') : PR P n s ops xs rest K σ O := by subst hO; exact k
end
section
variable {P : Program} {s : Bs} {σ : Fr} {O : Obs} {ty t t' : TypeId} {x y lo hi : Operand} {a b m n : Int}
theorem subM_spec {α : Type} {xs zs : List α} (h : subM xs a b = some zs) : ∃ l r : Nat, a = l ∧ b = r ∧ l ≤ r ∧ r ≤ xs.length ∧ zs = (xs.drop l).take (r - l) := by
  unfold subM at h; split at h
  · rename_i hb; exact ⟨a.toNat, b.toNat, by omega, by omega, by omega, by omega, (Option.some.inj h).symm⟩
  · cases h
section
variable {α : Type} [F : Enc α] {xs zs : List α} {e : TypeId} {k : Nat}
theorem Rd.subTM [T : CSl P t e] [Z : CS P e k] (hx : evA σ x = sL xs) (h : V.subM xs 0 (xs.length : Int) = some zs) (hk : F.k = k := by rfl) : Rd P s O σ (.slice t x none none none) ty (sL zs) := by
  obtain ⟨l, r, h1, h2, h3, h4, rfl⟩ := subM_spec h
  exact Rd.sliceE hx (show r = xs.length by omega) (show l = 0 by omega) ⟨h3, h4⟩ hk
theorem Rd.subTMH [T : CSl P t e] [Z : CS P e k] (hx : evA σ x = sL xs) (hh : evA σ hi = iA b) (h : V.subM xs 0 b = some zs) (hk : F.k = k := by rfl) : Rd P s O σ (.slice t x none (some hi) none) ty (sL zs) := by
  obtain ⟨l, r, h1, rfl, h3, h4, rfl⟩ := subM_spec h
  exact Rd.sliceE hx hh (show l = 0 by omega) ⟨h3, h4⟩ hk
theorem Rd.subTML [T : CSl P t e] [Z : CS P e k] (hx : evA σ x = sL xs) (hl : evA σ lo = iA a) (h : V.subM xs a (xs.length : Int) = some zs) (hk : F.k = k := by rfl) : Rd P s O σ (.slice t x (some lo) none none) ty (sL zs) := by
  obtain ⟨l, r, rfl, h2, h3, h4, rfl⟩ := subM_spec h
  exact Rd.sliceE hx (show r = xs.length by omega) hl ⟨h3, h4⟩ hk
end
section
variable {u z : ByteArray}
end
theorem Rd.lssU (hx : evA σ x = .t (.v (.int .u8 m))) (hy : evA σ y = .t (.v (.int .u8 n))) : Rd P s O σ (.binOp .lss t x y t') ty (bA (decide (m < n))) :=
  Rd.of2 hx hy rfl fun _ _ h1 h2 => Yl.mk fun d pos after g => by simp [execOp, h1, h2, eqGuard, binOp, Op.intCmp]
theorem Rd.gtrU (hx : evA σ x = .t (.v (.int .u8 m))) (hy : evA σ y = .t (.v (.int .u8 n))) : Rd P s O σ (.binOp .gtr t x y t') ty (bA (decide (n < m))) :=
  Rd.of2 hx hy rfl fun _ _ h1 h2 => Yl.mk fun d pos after g => by simp [execOp, h1, h2, eqGuard, binOp, Op.intCmp]
end
section
variable {P : Program} {n : Nat} {s : Bs} {Q Q' : APost} {σ : Fr} {O : Obs}
theorem PC.monoQ {c : Code} (h : PC P n s c Q σ O) (hq : ∀ e σ O, Q e σ O → Q' e σ O) : PC P n s c Q' σ O := by
  refine ⟨fun M U σc w S hσ => (h.h M U σc w S hσ).mono ?_⟩
  rintro e τ w' ⟨M', U', σ', O', S', hσ', h1⟩
  exact ⟨M', U', σ', O', S', hσ', hq _ _ _ h1⟩
/-- The first part ends in a state that is told; the second part goes on from it. -/
theorem PC.cut {m : Nat} (hm : s.L.length = m) {α : Type} {x y : Code} (L : α → List (Nat × AV)) (B : α → List Ob) (J : α → Prop)
    (h1 : PC P n s x (thA (fun σ' O' => ∃ a, J a ∧ ∃ ρ, Rs m σ' O' ρ (L a) (B a)) Q) σ O) (h2 : ∀ a, J a → PC P n s y Q (ovA (L a)) ((B a).map some)) : PC P n s (.seq x y) Q σ O := by
  refine PC.seq (h1.monoQ fun e σ' O' hq => ?_)
  cases e with
  | normal =>
    obtain ⟨a, hj, ρ, hR⟩ := hq
    exact PC.told hm (L a) (B a) ρ hR (h2 a hj)
  | _ => exact hq
/-- The same, with nothing behind it in its sequence. -/
theorem PC.cutE {m : Nat} (hm : s.L.length = m) {α : Type} {x : Code} (L : α → List (Nat × AV)) (B : α → List Ob) (J : α → Prop)
    (h1 : PC P n s x (thA (fun σ' O' => ∃ a, J a ∧ ∃ ρ, Rs m σ' O' ρ (L a) (B a)) Q) σ O) (h2 : ∀ a, J a → Q .normal (ovA (L a)) ((B a).map some)) : PC P n s x Q σ O := by
  refine ⟨fun M U σc w S hσ => (h1.h M U σc w S hσ).mono ?_⟩
  rintro e τ w' ⟨M', U', σ', O', S', hσ', hq⟩
  cases e with
  | normal =>
    obtain ⟨a, hj, ρ, hR⟩ := hq
    exact ⟨_, _, _, _, S'.told hm hR.lent hR.nodup hR.blk, hR.pins.rels S' hσ', h2 a hj⟩
  | _ => exact ⟨M', U', σ', O', S', hσ', hq⟩
end
end V
end Go.Proofs.YtkjnnifnmoekjaaDoor
namespace Go.Proofs.YtkjnnifnmoekjaaDoor
namespace V
open Enc (enc)
set_option linter.unusedVariables false
set_option linter.unusedSimpArgs false
open Go.RowKit Go.ChangeShapes Go.WideShapes Go.ChangeAt
/-- Cells that stand for trees. -/
def TL (w : World) (U : Nat → Prop) (cs : List Tr) (ys : List Value) : Prop :=
  ys.length = cs.length ∧ (∀ y, y ∈ ys → y.oneCell' = true) ∧ ∀ (j : Nat) c y, cs[j]? = some c → ys[j]? = some y → TRel w U c y
theorem TL.nil {w : World} {U : Nat → Prop} : TL w U [] [] := ⟨rfl, fun y h => (List.not_mem_nil h).elim, fun j c y h => by simp at h⟩
theorem TL.app {w : World} {U : Nat → Prop} {cs ds : List Tr} {ys zs : List Value} (h1 : TL w U cs ys) (h2 : TL w U ds zs) : TL w U (cs ++ ds) (ys ++ zs) := by
  refine ⟨by simp [h1.1, h2.1], fun y h => (List.mem_append.1 h).elim (h1.2.1 y) (h2.2.1 y), fun j c y hc hy => ?_⟩
  rcases Nat.lt_or_ge j cs.length with hj | hj
  · rw [List.getElem?_append_left hj] at hc
    rw [List.getElem?_append_left (by rw [h1.1]; exact hj)] at hy
    exact h1.2.2 j c y hc hy
  · rw [List.getElem?_append_right hj] at hc
    rw [List.getElem?_append_right (by rw [h1.1]; exact hj), h1.1] at hy
    exact h2.2.2 _ c y hc hy
theorem TL.one {w : World} {U : Nat → Prop} {c : Tr} {y : Value} (h1 : y.oneCell' = true) (h : TRel w U c y) : TL w U [c] [y] := by
  refine ⟨rfl, fun z hz => by simp at hz; subst hz; exact h1, fun j d z hc hz => ?_⟩
  cases j with
  | zero => simp at hc hz; subst hc hz; exact h
  | succ j => simp at hc
/-- Plain data as Go can hold it. -/
class Szd (α : Type) where szd : α → Prop
open Szd (szd)
instance : Szd Int := ⟨fun n => -9223372036854775808 ≤ n ∧ n ≤ 9223372036854775807⟩
instance : Szd Bool := ⟨fun _ => True⟩
instance : Szd UInt8 := ⟨fun _ => True⟩
instance : Szd ByteArray := ⟨fun s => s.size ≤ 9223372036854775807⟩
instance {α : Type} [Szd α] : Szd (List α) := ⟨fun xs => xs.length ≤ 9223372036854775807 ∧ ∀ x ∈ xs, szd x⟩
/-- What the rows read at a type is some plain value. -/
class Opn (P : Program) (α : Type) [Enc α] [Szd α] (t : TypeId) : Prop where
  opn : ∀ {H : Type} {en : TypeId × Value → H} {W : World} {fuel : Nat} {cs : List Value} {x : DataW H × List MemPlace}, DataW.trod en P W 0 (fun _ => true) true fuel t cs = some x → ∃ a : α, TL W (· < W.heap.size) (enc a) cs ∧ szd a
section
variable {P : Program} {t : TypeId}
theorem Opn.u8 (ht : P.underlying t = some (.int .u8)) : Opn P UInt8 t := ⟨fun h => by
  obtain ⟨n, rfl, rfl, hw⟩ := DataW.trod_int ht h
  have hn : 0 ≤ n ∧ n ≤ 255 := by simpa [Lit.wf, IntKind.min, IntKind.max, IntKind.signed, IntKind.bits] using hw
  obtain ⟨k, rfl⟩ := Int.eq_ofNat_of_zero_le hn.1
  refine ⟨UInt8.ofNat k, TL.one rfl ?_, trivial⟩
  have : (UInt8.ofNat k).toNat = k := UInt8.toNat_ofNat_of_lt' (by show k < 256; omega)
  rw [this]; exact .v _ rfl⟩
theorem spot_none {w : World} {a : Addr} {v : Value} (h : w.cell? a = some v) : a.spot = none := by
  unfold World.cell? at h
  split at h
  · split at h
    · cases h
    · simpa using ‹¬ a.spot.isSome = true›
  · cases h
theorem cell_lt {w : World} {a : Addr} {v : Value} (h : w.cell? a = some v) : a.block < w.heap.size := by
  unfold World.cell? at h
  split at h
  · rename_i hq
    exact (Array.getElem?_eq_some_iff.1 hq).1
  · cases h
theorem addr_add' {B o j : Nat} : Addr.add ⟨B, o, none⟩ j = ⟨B, o + j, none⟩ := by unfold Addr.add; split <;> simp_all
theorem addr_add2 (a : Addr) (i j : Nat) : (a.add i).add j = a.add (i + j) := by unfold Addr.add; by_cases hi : i = 0 <;> by_cases hj : j = 0 <;> simp [hi, hj, Nat.add_assoc]
theorem Opn.sl {α : Type} [F : Enc α] [Szd α] {e : TypeId} (ht : P.underlying t = some (.slice e)) (hc : P.cellsOf e = F.k) (hpos : 0 < F.k) [E : Opn P α e] : Opn P (List α) t := ⟨fun {H en W fuel cs x} h => by
  rcases Go.Deep.open_slice ht h with ⟨rfl, rfl⟩ | ⟨a, len, cap, m, n, D, Pl, rfl, _, hl, hm, hmm, rfl, hel⟩
  · exact ⟨[], TL.one rfl .nil, by simp, fun x hx => by cases hx⟩
  · simp only [if_pos] at hmm
    have hm' : cap ≤ 9223372036854775807 := hm
    -- the elements, one by one
    have key : ∀ k, k ≤ len → ∃ (xs : List α) (ys : List Value), xs.length = k ∧ TL W (· < W.heap.size) (eL xs) ys ∧ (∀ x ∈ xs, szd x) ∧ ∀ (j : Nat) y, ys[j]? = some y → W.cell? (a.add j) = some y := by
      intro k
      induction k with
      | zero => intro _; exact ⟨[], [], rfl, TL.nil, fun x hx => (List.not_mem_nil hx).elim, fun j y hy => (by simp at hy)⟩
      | succ k ih =>
        intro hk
        obtain ⟨xs, ys, h1, h2, h3, h4⟩ := ih (by omega)
        obtain ⟨cs', h5, h6⟩ := hel k (by omega)
        obtain ⟨x, h7, h8⟩ := E.opn h6
        obtain ⟨_, hcl, hcg⟩ := World.cells?_some h5
        have hyl : ys.length = k * F.k := by rw [h2.1, eL_len, h1]
        refine ⟨xs ++ [x], ys ++ cs', by simp [h1], ?_, fun y hy => ?_, fun j y hy => ?_⟩
        · rw [eL_app, eL_one]; exact h2.app h7
        · rcases List.mem_append.1 hy with hy | hy
          · exact h3 y hy
          · simp at hy; subst hy; exact h8
        · rcases Nat.lt_or_ge j ys.length with hj | hj
          · rw [List.getElem?_append_left hj] at hy; exact h4 j y hy
          · rw [List.getElem?_append_right hj] at hy
            have hjl := (List.getElem?_eq_some_iff.1 hy).1
            have := hcg (j - ys.length) (by omega)
            rw [hy, hyl] at this
            rw [addr_add2, hc] at this
            rw [← this]
            congr 2; omega
    obtain ⟨xs, ys, h1, h2, h3, h4⟩ := key len (Nat.le_refl _)
    subst h1
    refine ⟨xs, ?_, by show xs.length ≤ 9223372036854775807; omega, h3⟩
    by_cases h0 : xs.length = 0
    · obtain rfl := List.eq_nil_of_length_eq_zero h0
      exact TL.one rfl (.sl0 _ _)
    · have hne : 0 < ys.length := by rw [h2.1, eL_len]; exact Nat.mul_pos (by omega) hpos
      have c0 := h4 0 _ (List.getElem?_eq_getElem hne)
      have hsp : a.spot = none := spot_none (by simpa [Addr.add] using c0)
      have hb := cell_lt c0
      obtain ⟨B, o, s⟩ := a
      simp only at hsp; subst hsp
      rw [addr_add'] at hb
      exact TL.one rfl (.sl B o xs.length cap (eL xs) ys hb h2.1 h2.2.1 (fun j y hy => by have := h4 j y hy; rwa [addr_add'] at this) h2.2.2 hl)⟩
/-- An argument of a law. -/
theorem Opn.arg {α : Type} [F : Enc α] [Szd α] {H : Type} {en : TypeId × Value → H} {W : World} {v : Value} {d : DataW H} {ps : List MemPlace} (E : Opn P α t) (hk : ∀ a : α, (enc a).length = 1) (hv : v.cells = #[v]) (h : DataW.Trod en P W 0 (fun _ => true) true t v d ps) :
    ∃ a : α, (∀ M, ∀ c, (enc a)[0]? = some c → Rel W (· < W.heap.size) M (.t c) v) ∧ szd a := by
  obtain ⟨fuel, hf⟩ := h
  rw [hv] at hf
  obtain ⟨a, h1, h2⟩ := E.opn hf
  exact ⟨a, fun M c hc => .t _ _ (h1.2.2 0 c v hc rfl), h2⟩
theorem args1 {w : World} {U : Nat → Prop} {M : Mp} {a : AV} {y : Value} (h : Rel w U M a y) : ArgsRel w U M [a] [y] :=
  ⟨rfl, fun i c z hc hz => by
    match i with
    | 0 => cases hc; cases hz; exact h
    | i + 1 => simp at hc⟩
theorem own : ownKnob Tryd.prog.godebug = none := by kernel_rfl
theorem laidOut : laidOutB Tryd.prog = true := by kernel_rfl
/-- What the call of a law comes to, from the start of a run. -/
theorem law_run {f : FuncId} {args : List AV} {av : List Value} {W : World} (ht : TabOk W (· < W.heap.size)) (hc : FnX P f [] args (RE (bA true) [])) (ha : ArgsRel W (· < W.heap.size) [] args av) : Calls P f av.toArray W fun e W' => e = .returned (.bool true) ∧ Below W.heap.size W W' := by
  have := hc ⟨W, [], (· < W.heap.size)⟩ (· < W.heap.size) av ?_ (fun B h => h) ha
  · refine this.mono ?_
    rintro e w' ⟨v, r, bl, M', U', rfl, ⟨rfl, rfl⟩, h3, h4⟩
    cases h3 with | t _ _ h =>
    cases h
    refine ⟨rfl, ?_⟩
    exact h4.base.below
  · have hno : ∀ B, ¬ InM [] B := fun B ⟨b, p, h, _⟩ => by simp at h
    exact ⟨BelowX.refl _ _, fun b x h => by simp at h, rfl, fun B h => (hno B h).elim, fun B h => (hno B h).elim, fun b b' p p' B h => by simp at h, fun f F h => by simp at h, fun b ob x h => by simp at h, fun B h => ⟨⟨h, hno B⟩, .inl h⟩, ht⟩
end
end V
end Go.Proofs.YtkjnnifnmoekjaaDoor
namespace Go.Proofs.YtkjnnifnmoekjaaDoor
namespace V
set_option linter.unusedVariables false
set_option maxRecDepth 100000
theorem mayEnter_of {P : Program} {c : List Char} {rest : List (List Char)} (h : behindMainWord (wordsSigns P.initOrder.toList) = c :: rest)
    (h1 : ((stripLifts liftWords (c :: rest)).2.head? == some "cut".toList) = true) (h2 : ((stripLifts liftWords (c :: rest)).1.contains "finals" || !P.laysLater) = true)
    (h3 : ((stripLifts liftWords (c :: rest)).1.contains "reflectrows" || !P.bearsReflect) = true) (h4 : ((stripLifts liftWords (c :: rest)).1.contains "reflectrows" || !(stripLifts liftWords (c :: rest)).1.contains "leanrows") = true)
    (h5 : P.doorFits (stripLifts liftWords (c :: rest)).1 = true) : P.mayEnter = true := by
  unfold Program.mayEnter
  rw [h]
  simp only [h1, h2, h3, h4, h5, Bool.and_true, Bool.or_true]
theorem lifted_of {P : Program} {b : Bool} (h : P.liftsFinal = false) (hb : b = false) : (b == P.liftsFinal) = true := by rw [h, hb]; rfl
theorem make_of {P : Program} {m : Make} (h : P.make = some .cut) (hm : m = .cut) : (P.make == some m) = true := by rw [h, hm]; rfl
theorem iniT : Tryd.prog.initOrder = String.ofList (List.map Char.ofNat [104, 97, 114, 110, 101, 115, 115, 32, 54, 54, 100, 98, 100, 54, 49, 54, 50, 52, 100, 53, 55, 52, 98, 97, 50, 101, 54, 56, 51, 57, 53, 50, 101, 54, 55, 53, 57, 56, 48, 99, 50, 48, 51, 50, 99, 98, 53, 55, 54, 99, 51, 51, 102, 49, 102, 52, 52, 102, 48, 48, 97, 48, 100, 52, 100, 57, 102, 97, 51, 101, 99, 50, 32, 99, 117, 116, 32, 97, 116, 32, 108, 111, 111, 112, 46, 101, 120, 97, 109, 112, 108, 101, 47, 115, 99, 104, 101, 109, 97, 109, 105, 103, 114, 97, 116, 105, 111, 110, 47, 108, 97, 119, 115, 46, 70, 110, 83, 99, 97, 110, 84, 97, 98, 108, 101]) := by kernel_rfl
theorem iniW : behindMainWord (wordsSigns Tryd.prog.initOrder.toList) = List.map Char.ofNat [99, 117, 116] :: List.map (List.map Char.ofNat) [[97, 116], [108, 111, 111, 112, 46, 101, 120, 97, 109, 112, 108, 101, 47, 115, 99, 104, 101, 109, 97, 109, 105, 103, 114, 97, 116, 105, 111, 110, 47, 108, 97, 119, 115, 46, 70, 110, 83, 99, 97, 110, 84, 97, 98, 108, 101]] := by rw [iniT, String.toList_ofList]; kernel_rfl
theorem mayE : Tryd.prog.mayEnter = true := mayEnter_of iniW (by kernel_rfl) (by kernel_rfl) (by kernel_rfl) (by kernel_rfl) (by kernel_rfl)
theorem liftE : Tryd.prog.liftsFinal = false := by
  unfold Program.liftsFinal Program.headLifts
  rw [iniW]
  kernel_rfl
theorem make_cut {P : Program} {c : List Char} {rest : List (List Char)} (h : behindMainWord (wordsSigns P.initOrder.toList) = c :: rest) (h1 : (c == "gc".toList || c == "spec".toList) = false) (h2 : (c == "cut".toList || (c == "finals".toList && rest.head? == some "cut".toList)) = true) : P.make = some .cut := by
  unfold Program.make
  rw [h]
  simp only [h1, h2, if_true, Bool.false_eq_true, if_false]
theorem makeE : Tryd.prog.make = some .cut := make_cut iniW (by kernel_rfl) (by kernel_rfl)
end V
end Go.Proofs.YtkjnnifnmoekjaaDoor
namespace Go.Proofs.YtkjnnifnmoekjaaDoor
namespace V
set_option linter.unusedVariables false
set_option maxRecDepth 100000
open Go.ChangeShapes Go.WideShapes Go.ChangeAt Go.RowKit
/-- What the rows list. -/
def seatLaid : List (String × DataW Unit) := [("math/bits.deBruijn32tab", Rows.laid_math_bits_deBruijn32tab), ("math/bits.deBruijn64tab", Rows.laid_math_bits_deBruijn64tab), ("internal/strconv.uint64pow10", Rows.laid_internal_strconv_uint64pow10)]
/-- How many steps the door's run takes. -/
def doorN : Nat := 24
theorem door_met (os : Os) (args : Array Value) : laidMetH Tryd.prog seatLaid ((World.doorLaid Tryd.prog doorN os).forCall (fun _ _ => 0) ⟨#[], args, []⟩).memory :=
  laidMetH_of_parts3 (fuel := 8) (laidMet_of_run' 8 (by kernel_rfl) (by kernel_rfl)) (by kernel_rfl) (by kernel_rfl)
theorem gPow : Tryd.prog.globalNamed "internal/strconv.uint64pow10" = some 0 := by kernel_rfl
theorem tPow : (Tryd.prog.globals[0]?).map (·.type) = some 116 := by kernel_rfl
theorem onePow : (seatLaid.filter fun x => x.1 == "internal/strconv.uint64pow10") = [("internal/strconv.uint64pow10", Lib.tabData .u64 Lib.pow10Tab)] := by kernel_rfl
theorem tabOk_laid {W : World} (h : laidMetH Tryd.prog seatLaid W) : TabOk W (· < W.heap.size) := by
  rw [MakeChecks.laidMetH_plain _ _ _ (by kernel_rfl)] at h
  have h2 := laidMet.filter (fun x => x.1 == "internal/strconv.uint64pow10") h
  rw [onePow] at h2
  have h3 := Lib.tabIs_of_head gPow tPow Tryd.underlying116 Tryd.underlying111 (by kernel_rfl) (by kernel_rfl) h2
  exact ⟨0, gPow, cell_lt (h3.cell gPow 0 (by decide)), h3⟩
end V
end Go.Proofs.YtkjnnifnmoekjaaDoor
namespace Go.Proofs.YtkjnnifnmoekjaaDoor
namespace V
open Enc (enc)
set_option linter.unusedVariables false
set_option linter.unusedSimpArgs false
open Go.RowKit
theorem text_inj {x y : ByteArray} (h : x.toList = y.toList) : x = y := by
  rw [ByteArray.toList_eq, ByteArray.toList_eq] at h
  exact ByteArray.ext (Array.ext' h)
theorem textEq (x y : ByteArray) : (x.toList == y.toList) = decide (x = y) := by
  by_cases h : x = y
  · subst h; simp
  · have : x.toList ≠ y.toList := fun e => h (text_inj e)
    simp [h, this]
variable {P : Program} {w : World}
/-- Codes tell values apart. -/
class EncI (α : Type) [Enc α] : Prop where inj : ∀ a b : α, enc a = enc b → a = b
section
variable {s : Bs} {O : Obs} {σ : Fr} {ty t t' : TypeId} {x y : Operand} {α : Type} [Enc α] [F : EncF α] [I : EncI α] [DecidableEq α] {a b : α} {ks : List Nat}
end
end V
end Go.Proofs.YtkjnnifnmoekjaaDoor
namespace Go.Proofs.YtkjnnifnmoekjaaDoor
namespace V
open Enc (enc)
set_option linter.unusedVariables false
set_option linter.unusedSimpArgs false
open Go.RowKit
def i2b (n : Int) : UInt8 := UInt8.ofNat (n % 256).toNat
def b2s (xs : List UInt8) : ByteArray := ⟨xs.toArray⟩
theorem i2b_toNat (n : Int) : ((i2b n).toNat : Int) = n % 256 := by
  unfold i2b
  have h1 : 0 ≤ n % 256 := Int.emod_nonneg _ (by decide)
  have h2 : n % 256 < 256 := Int.emod_lt_of_pos _ (by decide)
  rw [UInt8.toNat_ofNat']
  have h3 : (n % 256).toNat % 2 ^ 8 = (n % 256).toNat := Nat.mod_eq_of_lt (by omega)
  rw [h3]; omega
theorem wrap_u8 (n : Int) : IntKind.u8.wrap n = ((i2b n).toNat : Int) := by
  rw [i2b_toNat]; rfl
theorem eL_u8map : ∀ us : List UInt8, eL us = us.map fun u => Tr.v (.int .u8 u.toNat)
  | [] => rfl
  | u :: us => by rw [eL_cons, eL_u8map us]; rfl
theorem eL_u8 {us : List UInt8} {j : Nat} {v : UInt8} (h : us[j]? = some v) : (eL us)[j]? = some (.v (.int .u8 v.toNat)) := by
  rw [eL_u8map, List.getElem?_map, h]; rfl
section
variable {α : Type} [F : Enc α] {P : Program} {n : Nat} {s : Bs} {Q : APost} {σ : Fr} {O : Obs} {ops : Array Oper} {rest : List Oper} {d : Nat} {ty t t' : TypeId} {pos : String} {after : Array Edge} {x y hi : Operand} {xs zs : List α} {h : Int}
theorem Rd.toU8 {m : Int} [T : CIn P t] [T' : CU8 P t'] (hx : evA σ x = iA m) : Rd P s O σ (.convert t t' x) ty (.t (.v (.int .u8 (i2b m).toNat))) :=
  Rd.of1 hx rfl fun _ _ h1 => Yl.mk fun d pos after g => by simp [execOp, h1, convert, T.run, T'.run, Conv.intToInt, wrap_u8]
theorem run_b2s {w : World} {σc : Nat → Value} {e : TypeId} [T : CSl P t e] [T8 : CU8 P e] [TS : CSt P t'] {B o cap : Nat} {us : List UInt8} (hx : ev σc x = .slice (some ⟨B, o, none⟩) us.length cap)
    (hc : ∀ (j : Nat) u, us[j]? = some u → w.cell? ⟨B, o + j, none⟩ = some (.int .u8 u.toNat)) : Yl P σc (.convert t t' x) ty w (.string (b2s us)) w := Yl.mk fun d pos after g => by
  have hl : (loadCells ⟨B, o, none⟩ us.length).run P w = .ok ((us.map fun u => (u.toNat : Int)).map (Value.int .u8)).toArray w := by
    have := run_loadCells_list (P := P) w ⟨B, o, none⟩ ((us.map fun u => (u.toNat : Int)).map (Value.int .u8)) (fun j v hj => by
      rw [Rd.addr_add]
      simp only [List.getElem?_map] at hj
      cases hq : us[j]? with
      | none => rw [hq] at hj; cases hj
      | some u => rw [hq] at hj; simp at hj; subst hj; exact hc j u hq)
    simpa using this
  have hs := run_bytesToString (P := P) w ⟨B, o, none⟩ us.length cap (us.map fun u => (u.toNat : Int)) hl
  have he : (us.map fun u => (u.toNat : Int)).foldl (fun r n => r.push (UInt8.ofNat n.toNat)) ByteArray.empty = b2s us := by
    have hid : ((fun n : Int => UInt8.ofNat n.toNat) ∘ fun u : UInt8 => (u.toNat : Int)) = id := funext fun u => by simp
    rw [foldl_push_bytes]
    unfold b2s ByteArray.empty ByteArray.emptyWithCapacity
    congr 1
    apply Array.ext'
    simp only [List.map_map, hid, List.map_id, Array.toList_append]
    rfl
  rw [he] at hs
  simp [execOp, hx, convert, T.run, T8.run, TS.run, hs]
theorem run_b2s_nil {w : World} {σc : Nat → Value} {e : TypeId} [T : CSl P t e] [T8 : CU8 P e] [TS : CSt P t'] {l cap : Nat} (hx : ev σc x = .slice none l cap) : Yl P σc (.convert t t' x) ty w (.string (b2s [])) w := Yl.mk fun d pos after g => by
  have : b2s [] = ByteArray.empty := rfl
  simp [execOp, hx, convert, T.run, T8.run, TS.run, Conv.bytesToString, this]
theorem run_b2s_0 {w : World} {σc : Nat → Value} {e : TypeId} [T : CSl P t e] [T8 : CU8 P e] [TS : CSt P t'] {a : Addr} {cap : Nat} (hx : ev σc x = .slice (some a) 0 cap) : Yl P σc (.convert t t' x) ty w (.string (b2s [])) w := Yl.mk fun d pos after g => by
  have hl : (loadCells a 0).run P w = .ok (([] : List Int).map (Value.int .u8)).toArray w := by
    have := run_loadCells_list (P := P) w a [] (fun j v hj => by simp at hj)
    simpa using this
  have hs := run_bytesToString (P := P) w a 0 cap [] hl
  have : b2s [] = ByteArray.empty := rfl
  simp [execOp, hx, convert, T.run, T8.run, TS.run, hs, this]
/-- The text of bytes that are the call's own. -/
theorem Rd.b2sO {us : List UInt8} {e e' : TypeId} {b n0 k0 : Nat} [T : CSl P t e] [T8 : CU8 P e] [TS : CSt P t'] (hx : evA σ x = .os b 0 n0) (hO : O[b]? = some (some ⟨.tr (eL us), e', k0⟩)) (hn : n0 = us.length) : Rd P s O σ (.convert t t' x) ty (sA (b2s us)) := by
  intro M U w σc S hσ
  have e := evA_rel hσ x; rw [hx] at e
  generalize hu : ev σc x = u at e
  refine ⟨.string (b2s us), .t _ _ (.v _ rfl), fun w' A => ?_⟩
  cases e with
  | osn => have : us = [] := List.eq_nil_of_length_eq_zero hn.symm; subst this; exact run_b2s_nil hu
  | osd _ _ _ _ _ hM => exact (S.own _ _ _ hO hM).elim
  | osz => have : us = [] := List.eq_nil_of_length_eq_zero hn.symm; subst this; exact run_b2s_0 hu
  | os _ _ _ cap L hM hcap hle hx1 =>
    subst hn
    obtain ⟨h1, h2, cur, h3, h4, h5⟩ := S.own _ _ _ hO hM
    refine run_b2s (o := L.off + 0) hu fun j v hj => ?_
    have hj' := (List.getElem?_eq_some_iff.1 hj).1
    have hE := eL_u8 hj
    obtain ⟨y, g1, g2, g3⟩ := h5 j (.t (.v (.int .u8 v.toNat))) (by simp [Ob.cells, Cs.list, hE])
    have hw : w'.heap[L.blk]? = some (.cells cur e' (0, 0)) := by rw [A.own S hM hO]; exact h3
    rw [cell_of_row w' _ _ cur _ _ hw, show L.off + 0 + j = L.off + j by omega, g1]
    cases g3 with | t _ _ h => cases h; rfl
/-- An own slice cut short: what lies behind is forgotten. -/
theorem PL.cutM {e : TypeId} {b n0 k k0 : Nat} [T : CSl P t e] [Z : CS P e k] (hd : Nat.blt d n = true) (hx : evA σ x = .os b 0 n0) (hO : O[b]? = some (some ⟨.tr (eL xs), e, k0⟩)) (hn : n0 = xs.length) (hh : evA σ hi = iA h) (hz : V.subM xs 0 h = some zs)
    (kk : PL P n s ops rest Q (updA σ d (.os b 0 zs.length)) (O.set b (some ⟨.tr (eL zs), e, k0⟩))) : PL P n s ops (⟨some d, .slice t x none (some hi) none, ty, pos, after, none⟩ :: rest) Q σ O := by
  obtain ⟨l, r, h1, rfl, h3, h4, rfl⟩ := subM_spec hz
  obtain rfl : l = 0 := by omega
  simp only [List.drop_zero, Nat.sub_zero] at kk ⊢
  have hlen : (xs.take r).length = r := by simp; omega
  rw [hlen] at kk
  have hb : b < O.length := (List.getElem?_eq_some_iff.1 hO).1
  refine PL.eff hd (fun M U w σc S hσ => ?_) kk
  have e1 := evA_rel hσ x; rw [hx] at e1
  have e2 := evA_rel hσ hi; rw [hh] at e2
  have hi' := e2.int
  generalize hu : ev σc x = u at e1
  have hS : Mem s M (O.set b (some ⟨.tr (eL (xs.take r)), e, k0⟩)) U w := by
    refine ⟨S.base, S.lent, by simp [S.len], S.lt, S.fresh, S.sep, S.fok, fun b1 ob x1 hO1 hM1 => ?_, S.u, S.tab⟩
    by_cases hbb : b1 = b
    · subst hbb
      rw [List.getElem?_set_self hb] at hO1; cases hO1
      have hown := S.own _ _ _ hO hM1
      cases x1 with
      | dead => exact hown
      | nl =>
        show (eL (xs.take r)).map AV.t = []
        have : (eL xs).map AV.t = [] := hown
        have : eL xs = [] := by simpa using this
        rw [← eL_take, this]; simp
      | fm F => obtain ⟨css, e, _⟩ := hown; cases e
      | ad L =>
        obtain ⟨g1, g2, cur, g3, g4, g5⟩ := hown
        refine ⟨g1, ?_, cur, g3, g4, fun j c hc => g5 j c ?_⟩
        · simp only [Ob.cells, Cs.list, List.length_map] at g2 ⊢
          rw [← eL_take, List.length_take]; omega
        · simp only [Ob.cells, Cs.list, List.getElem?_map] at hc ⊢
          rw [← eL_take, List.getElem?_take] at hc
          split at hc
          · exact hc
          · cases hc
    · rw [List.getElem?_set_ne (Ne.symm hbb)] at hO1
      exact S.own b1 ob x1 hO1 hM1
  cases e1 with
  | osd _ _ _ _ _ hM => exact (S.own _ _ _ hO hM).elim
  | osn _ hM =>
    have hr : r = 0 := by omega
    subst hr
    refine ⟨.slice none 0 0, w, M, ?_, hS, .osn _ hM, fun c z h => h⟩
    have := run_slice (P := P) (ty := ty) (w := w) (t := t) (lo := none) (hi := some hi) (l := 0) (h := 0) hu ⟨hi', Nat.le_refl _⟩ rfl (Nat.le_refl _)
    simpa using this
  | osz _ _ o L hM =>
    have hr : r = 0 := by omega
    subst hr
    refine ⟨.slice (some ⟨L.blk, o, none⟩) 0 0, w, M, ?_, hS, .osz _ _ o L hM, fun c z h => h⟩
    have := run_slice (P := P) (ty := ty) (w := w) (t := t) (lo := none) (hi := some hi) (l := 0) (h := 0) hu ⟨hi', Nat.le_refl _⟩ rfl (Nat.le_refl _)
    simpa using this
  | os _ _ _ cap L hM hcap hle hx1 =>
    refine ⟨.slice (some ⟨L.blk, L.off + 0, none⟩) r cap, w, M, ?_, hS, .os _ _ _ cap L hM hcap (by omega) hx1, fun c z h => h⟩
    have := run_slice (P := P) (ty := ty) (w := w) (t := t) (lo := none) (hi := some hi) (l := 0) (h := r) hu ⟨hi', by omega⟩ rfl (Nat.zero_le _)
    simpa [Rd.addr_add] using this
end
def frzR (b m : Nat) : Rho := (List.range m).map fun i => some (bif Nat.beq i b then m else i)
theorem frzR_get {b m i : Nat} (h : i < m) : (frzR b m)[i]? = some (some (bif Nat.beq i b then m else i)) := by simp [frzR, h]
section
variable {P : Program} {n : Nat} {s : Bs} {Q : APost} {σ : Fr} {O : Obs} {ops : Array Oper} {rest : List Oper} {M : Mp} {U : Nat → Prop} {w : World} {xs : List Nat} {K : Fr → Obs → List Nat → Prop}
theorem frzR_mp (h : M.length = O.length) (b : Nat) : mpR M (frzR b O.length) = M.set b .dead := by
  apply List.ext_getElem?
  intro i
  by_cases hi : i < O.length
  · have e : mpR M (frzR b O.length) = (frzR b O.length).map fun r => match r with | none => .nl | some b => (M[b]?).getD .dead := rfl
    rw [e, List.getElem?_map, frzR_get hi]
    by_cases hb : i = b
    · subst hb
      rw [List.getElem?_set_self (by omega)]
      simp [Nat.beq_refl, h]
    · have : Nat.beq i b = false := by cases hq : Nat.beq i b; rfl; exact absurd (Nat.eq_of_beq_eq_true hq) hb
      rw [List.getElem?_set_ne (Ne.symm hb)]
      simp only [this, cond_false, Option.map_some]
      rw [List.getElem?_eq_getElem (by omega)]; rfl
  · rw [List.getElem?_eq_none (by simp [mpR, frzR]; omega), List.getElem?_eq_none (by simp; omega)]
/-- The blocks as they stand behind it. -/
def FzL (O : Obs) (ρ : Rho) (b : Nat) : Nat → Obs → Obs → Prop
  | _, [], [] => True
  | i, none :: O', _ :: O0 => FzL O ρ b (i + 1) O' O0
  | i, some ob :: O', x :: O0 => (Nat.beq i b = false ∧ (x = some ob ∨ ∃ ob0, x = some ob0 ∧ ob0.ty = ob.ty ∧ ob0.k = ob.k ∧ SbC true O ρ ob.c ob0.c)) ∧ FzL O ρ b (i + 1) O' O0
  | _, _, _ => False
theorem FzL.spec {ρ : Rho} {b : Nat} : ∀ {i : Nat} {O' O0 : Obs}, FzL O ρ b i O' O0 → O'.length = O0.length ∧ ∀ (j : Nat) ob, O'[j]? = some (some ob) → i + j ≠ b ∧ (O0[j]? = some (some ob) ∨ ∃ ob0, O0[j]? = some (some ob0) ∧ ob0.ty = ob.ty ∧ ob0.k = ob.k ∧ SbC true O ρ ob.c ob0.c)
  | _, [], [], _ => ⟨rfl, fun j ob h => by simp at h⟩
  | _, [], _ :: _, h => by cases h
  | i, none :: O', [], h => by cases h
  | i, some ob :: O', [], h => by cases h
  | i, none :: O', x :: O0, h => by
    obtain ⟨h1, h2⟩ := FzL.spec (i := i + 1) (O' := O') (O0 := O0) h
    refine ⟨by simp [h1], fun j ob hj => ?_⟩
    cases j with
    | zero => simp at hj
    | succ j =>
      obtain ⟨g1, g2⟩ := h2 j ob (by simpa using hj)
      exact ⟨by omega, by simpa using g2⟩
  | i, some ob0 :: O', x :: O0, h => by
    obtain ⟨h0, h⟩ := h
    obtain ⟨h1, h2⟩ := FzL.spec (i := i + 1) (O' := O') (O0 := O0) h
    refine ⟨by simp [h1], fun j ob hj => ?_⟩
    cases j with
    | zero =>
      simp at hj; subst hj
      refine ⟨fun e => ?_, ?_⟩
      · have : Nat.beq i b = true := by rw [show i = b by omega]; exact Nat.beq_refl b
        rw [this] at h0; cases h0.1
      · rcases h0.2 with h | ⟨o, h⟩
        · exact .inl (by simp [h])
        · exact .inr ⟨o, by simp [h.1], h.2⟩
    | succ j =>
      obtain ⟨g1, g2⟩ := h2 j ob (by simpa using hj)
      exact ⟨by omega, by simpa using g2⟩
theorem frz_core {b m : Nat} {O' : Obs} (S : Mem s M O U w) (hb : s.L.length ≤ b) (hm : O.length = m) (hO : FzL O (frzR b m) b 0 O' O) : Mem s (M.set b .dead) O' (frU true M (frzR b m) U) w ∧ (∀ c z, Rel w U M c z → Rel w (frU true M (frzR b m) U) (M.set b .dead) c z) ∧
    ∀ v v' z, Sb true O (frzR b m) v' v → Rel w U M v z → Rel w (frU true M (frzR b m) U) (M.set b .dead) v' z := by
  subst hm
  have hmp := frzR_mp S.len b
  obtain ⟨S1, h1⟩ := S.kill hb
  obtain ⟨hlen, hsp⟩ := hO.spec
  have up : ∀ c z, Rel w U (M.set b .dead) c z → Rel w (frU true M (frzR b O.length) U) (M.set b .dead) c z := fun c z h => h.mono (fun _ _ => rfl) (fun B hB => .inl hB) (fun _ _ e => e)
  have rt : ∀ v v' z, Sb true O (frzR b O.length) v' v → Rel w U M v z → Rel w (frU true M (frzR b O.length) U) (M.set b .dead) v' z := fun v v' z h hr => by
    have := h.rel S hr
    rw [hmp] at this; exact this
  refine ⟨⟨S1.base, S1.lent, by rw [hlen]; simpa using S.len, S1.lt, S1.fresh, S1.sep, S1.fok, fun b1 ob x hO hM => ?_, fun B hB => ⟨?_, ?_⟩, S1.tab.mono (fun _ _ => rfl) (fun B hB => .inl hB)⟩, fun c z h => up _ _ (h1 c z h), rt⟩
  · obtain ⟨hne, h⟩ := hsp b1 ob hO
    have hne : b ≠ b1 := by omega
    rw [List.getElem?_set_ne hne] at hM
    rcases h with h | ⟨ob0, h, ht, hk, hc⟩
    · exact (S.own b1 ob x h hM).mono (fun _ _ => rfl) (fun c z g => up _ _ (h1 _ _ g))
    · have := S.own b1 ob0 x h hM
      obtain ⟨q1, q2⟩ := hc.spec
      have q1 : ob.cells.length = ob0.cells.length := q1
      cases x with
      | nl =>
        show ob.cells = []
        have : ob0.cells = [] := this
        rw [this] at q1; exact List.eq_nil_of_length_eq_zero q1
      | dead => exact this
      | ad L =>
        obtain ⟨g1, g2, cur, g3, g4, g5⟩ := this
        refine ⟨by rw [g1, hk], by rw [q1]; exact g2, cur, by rw [← ht]; exact g3, g4, fun j c hc => ?_⟩
        have hj : j < ob0.cells.length := by rw [← q1]; exact (List.getElem?_eq_some_iff.1 hc).1
        obtain ⟨y, e1, e2, e3⟩ := g5 j _ (List.getElem?_eq_getElem hj)
        exact ⟨y, e1, e2, rt _ _ _ (q2 j c _ hc (List.getElem?_eq_getElem hj)) e3⟩
      | fm F =>
        obtain ⟨css, g1, g2, g3⟩ := this
        exact ⟨css, hc.fam g1, g2, by rw [← ht, ← hk]; exact g3⟩
  · rw [← hmp]; exact frU_fz S hB
  · rcases hB with hB | ⟨_, h2, h3⟩
    · exact (S.u B hB).2
    · rcases S.fresh B h2 with h4 | h4
      · exact .inr h4
      · obtain ⟨b', L, h5, h6⟩ := Bs.exX h4
        have hb' : b' < s.L.length := (List.getElem?_eq_some_iff.1 h5).1
        refine absurd ⟨b', L, ?_, h6⟩ h3
        rw [hmp, List.getElem?_set_ne (by omega)]
        exact S.lent b' _ h5
def updL (σ : Fr) : List (Nat × AV) → Fr
  | [] => σ
  | (d, v) :: l => updA (updL σ l) d v
theorem Rels.frz {σc : Nat → Value} {U' : Nat → Prop} {M' : Mp} {O : Obs} {ρ : Rho} (hσ : Rels w U M σ σc) (h1 : ∀ c z, Rel w U M c z → Rel w U' M' c z) (h2 : ∀ v v' z, Sb true O ρ v' v → Rel w U M v z → Rel w U' M' v' z) : ∀ {vs : List (Nat × AV)}, PinA O ρ σ vs → Rels w U' M' (updL σ vs) σc
  | [], _ => fun t => h1 _ _ (hσ t)
  | (d, v) :: l, ⟨hv, hl⟩ => by
    intro t
    show Rel _ _ _ (bif Nat.beq t d then v else updL σ l t) (σc t)
    cases hb : Nat.beq t d with
    | true =>
      have := Nat.eq_of_beq_eq_true hb
      subst this
      exact h2 _ _ _ hv (hσ t)
    | false => exact Rels.frz hσ h1 h2 hl t
/-- Own block b is written no more. -/
theorem PL.frz {m0 : Nat} (hm : s.L.length = m0) (b m : Nat) (vs : List (Nat × AV)) (O' : Obs) (hl : O.length = m) (hb : Nat.ble m0 b = true) (hv : PinA O (frzR b m) σ vs) (hO : FzL O (frzR b m) b 0 O' O) (k : PL P n s ops rest Q (updL σ vs) O') : PL P n s ops rest Q σ O := by
  refine ⟨fun M U σc w S hσ => ?_⟩
  obtain ⟨S', h1, h2⟩ := frz_core S (b := b) (by rw [hm]; exact Nat.le_of_ble_eq_true hb) hl hO
  exact k.h _ _ σc w S' (hσ.frz h1 h2 hv)
theorem PR.frz {m0 : Nat} (hm : s.L.length = m0) (b m : Nat) (vs : List (Nat × AV)) (O' : Obs) (hl : O.length = m) (hb : Nat.ble m0 b = true) (hxs : xs.contains b = false) (hv : PinA O (frzR b m) σ vs) (hO : FzL O (frzR b m) b 0 O' O) (k : PR P n s ops xs rest K (updL σ vs) O') : PR P n s ops xs rest K σ O := by
  refine ⟨fun M U σc w X S hσ hX a ha => ?_⟩
  obtain ⟨S', h1, h2⟩ := frz_core S (b := b) (by rw [hm]; exact Nat.le_of_ble_eq_true hb) hl hO
  have hxs' : b ∉ xs := fun h => by simp at hxs; exact hxs h
  refine k.h _ _ σc w X S' (hσ.frz h1 h2 hv) ⟨fun c hc => by simpa using hX.1 c hc, fun B hB => ?_, fun c L B hc hM hB => ?_⟩ a ha
  · obtain ⟨c, L, g1, g2, g3⟩ := hX.2.1 B hB
    have hne : b ≠ c := fun e => hxs' (by rw [e]; exact g1)
    exact ⟨c, L, g1, by rw [List.getElem?_set_ne hne]; exact g2, g3⟩
  · have hne : b ≠ c := fun e => hxs' (by rw [e]; exact hc)
    rw [List.getElem?_set_ne hne] at hM
    exact hX.2.2 c L B hc hM hB
end
section
variable {α : Type} [F : Enc α] {P : Program} {n : Nat} {s : Bs} {Q : APost} {σ : Fr} {O : Obs} {ops : Array Oper} {rest : List Oper} {d : Nat} {ty t e e' : TypeId} {pos : String} {after : Array Edge} {x y : Operand} {xs zs : List α} {a : α} {i : Int} {b k k0 m q : Nat}
end
section
variable {P : Program} {n : Nat} {s : Bs} {σ : Fr} {O : Obs} {ops : Array Oper} {rest : List Oper} {d : Nat} {ty : TypeId} {pos : String} {after : Array Edge} {xs : List Nat} {K : Fr → Obs → List Nat → Prop}
/-- A reading step at its place among those that turn memory. -/
theorem PR.rdE {op : Op} {x : AV} (hd : Nat.blt d n = true) (he : isEff ⟨some d, op, ty, pos, after, none⟩ = true) (hr : Rd P s O σ op ty x) (k : PR P n s ops xs rest K (updA σ d x) O) : PR P n s ops xs (⟨some d, op, ty, pos, after, none⟩ :: rest) K σ O := by
  refine ⟨fun M U σc w X S hσ hX a ha => ?_⟩
  obtain ⟨y, hy, hrun⟩ := hr M U w σc S hσ
  exact .inr ⟨he, rfl, .inr ⟨y, w, X, .inl (by rw [ha.eval]; exact (hrun w (Agr'.refl _ _ _)).run _ _ _ _), ⟨rfl, rfl, rfl, Nat.le_refl _, fun k hk _ => rfl⟩, XX.refl, k.h M U _ w X S (Rels.upd hσ d hy) hX _ (ha.put d y hd)⟩⟩
end
end V
end Go.Proofs.YtkjnnifnmoekjaaDoor
namespace Go.Proofs.YtkjnnifnmoekjaaDoor
namespace V
section
variable {P : Program} {s : Bs} {O : Obs} {σ : Fr} {ty : TypeId}
end
theorem bl_total : ∀ x y : List UInt8, (Op.bytesLess x y || x == y) = !Op.bytesLess y x
  | [], [] => rfl
  | [], _ :: _ => rfl
  | _ :: _, [] => rfl
  | a :: x, b :: y => by
    have ih := bl_total x y
    simp only [Op.bytesLess]
    rcases Nat.lt_trichotomy a.toNat b.toNat with h | h | h
    · have h1 : a < b := UInt8.lt_iff_toNat_lt.2 h
      have h2 : ¬ b < a := fun e => by have := UInt8.lt_iff_toNat_lt.1 e; omega
      have h3 : ¬ b = a := fun e => by rw [e] at h; omega
      simp [h1, h2, h3]
    · have h1 : a = b := UInt8.toNat_inj.1 h
      subst h1
      have h2 : ¬ a < a := fun e => by have := UInt8.lt_iff_toNat_lt.1 e; omega
      simpa [h2] using ih
    · have h1 : b < a := UInt8.lt_iff_toNat_lt.2 h
      have h2 : ¬ a < b := fun e => by have := UInt8.lt_iff_toNat_lt.1 e; omega
      have h3 : ¬ a = b := fun e => by rw [e] at h; omega
      simp [h1, h2, h3]
section
variable {P : Program} {s : Bs} {O : Obs} {σ : Fr} {ty t t' : TypeId} {x y : Operand} {a b : ByteArray}
theorem Rd.gtrS (hx : evA σ x = sA a) (hy : evA σ y = sA b) : Rd P s O σ (.binOp .gtr t x y t') ty (bA (Op.bytesLess b.toList a.toList)) :=
  Rd.of2 hx hy rfl fun _ _ h1 h2 => Yl.mk fun d pos after g => by
    have h := bl_total a.toList b.toList
    have h' : Op.bytesLess b.toList a.toList = !(Op.bytesLess a.toList b.toList || a.toList == b.toList) := by rw [h, Bool.not_not]
    rw [h']
    simp [execOp, h1, h2, eqGuard, binOp, Op.stringOp]
end
section
open Enc (enc)
variable {α : Type} [F : Enc α] {P : Program} {n : Nat} {s : Bs} {Q : APost} {σ : Fr} {O : Obs} {ops : Array Oper} {rest : List Oper} {ty : TypeId} {pos : String} {after : Array Edge} {xs : List α} {e : α} {i : Int}
theorem part_set {β : Type} {A E C cs : List β} {f q : Nat} (hf : f + q ≤ E.length) : (A ++ E ++ C).take (A.length + f) ++ cs ++ (A ++ E ++ C).drop (A.length + f + q) = A ++ (E.take f ++ cs ++ E.drop (f + q)) ++ C := by
  rw [List.append_assoc A E C, List.take_append, List.take_of_length_le (by omega), show A.length + f - A.length = f by omega, List.take_append_of_le_length (by omega),
    List.drop_append, List.drop_of_length_le (by omega), show A.length + f + q - A.length = f + q by omega, List.drop_append_of_le_length hf]
  simp [List.append_assoc]
/-- A part of an element of an own slice is stored. -/
theorem PL.stFRM {t e' : TypeId} {x y : Operand} {b k0 m f q : Nat} {v : AV} {cs : List Tr} (x' : α) [Z : CS P t q] (hx : evA σ x = .op b (0 + i.toNat * m + f)) (hy : evA σ y = v) (hw : wholeA v = true) (hcv : cellsA v = cs.map .t) (hq : cs.length = q) (hO : O[b]? = some (some ⟨.tr (eL xs), e', k0⟩)) (hk : F.k = m) (h : ixI xs i = some e) (hf : Nat.ble (f + q) m = true) (hc : enc x' = (enc e).take f ++ cs ++ (enc e).drop (f + q))
    (k : PL P n s ops rest Q σ (O.set b (some ⟨.tr (eL (xs.set i.toNat x')), e', k0⟩))) : PL P n s ops (⟨none, .store t x y, ty, pos, after, none⟩ :: rest) Q σ O := by
  obtain ⟨_, hi, rfl⟩ := ixI_spec h
  have hf := Nat.le_of_ble_eq_true hf
  subst hk
  have h0 := eL_setR xs[i.toNat] i.toNat hi
  rw [List.set_getElem_self] at h0
  have hl : i.toNat * F.k + F.k ≤ (eL xs).length := by
    rw [eL_len]; have : (i.toNat + 1) * F.k ≤ xs.length * F.k := Nat.mul_le_mul_right _ hi
    rw [Nat.add_mul] at this; omega
  refine PL.storeT (cs := cs) (by rw [hx, Nat.zero_add]) hy hw hcv hq hO (by omega) ?_
  have h1 := part_set (A := (eL xs).take (i.toNat * F.k)) (E := enc xs[i.toNat]) (C := (eL xs).drop (i.toNat * F.k + F.k)) (cs := cs) (f := f) (q := q) (by rw [F.len]; exact hf)
  rw [h0, ← hc, eL_setR x' i.toNat hi, List.length_take, Nat.min_eq_left (by omega)] at h1
  rw [h1]; exact k
end
end V
end Go.Proofs.YtkjnnifnmoekjaaDoor
namespace Go.Proofs.YtkjnnifnmoekjaaDoor
namespace V
set_option linter.unusedVariables false
set_option linter.unusedSimpArgs false
open Go.RowKit
section
variable {P : Program} {n : Nat} {s : Bs} {Q : APost} {σ : Fr} {O : Obs} {ops : Array Oper} {rest : List Oper} {d : Nat} {ty : TypeId} {pos : String} {after : Array Edge}
end
theorem ne_lit {x a b : Int} (h : decide (x = a) = true) (hab : decide (a = b) = false) : decide (x = b) = false := by
  have h1 := of_decide_eq_true h
  have h2 := of_decide_eq_false hab
  exact decide_eq_false fun e => h2 (h1.symm.trans e)
end V
end Go.Proofs.YtkjnnifnmoekjaaDoor
namespace Go.Proofs.YtkjnnifnmoekjaaDoor
namespace V
open Enc (enc)
set_option linter.unusedVariables false
set_option linter.unusedSimpArgs false
set_option maxHeartbeats 4000000
set_option maxRecDepth 100000
open Go.RowKit
attribute [local irreducible] thA inA FinA eL
structure S_reader where
  b : List UInt8
  p : Int
deriving DecidableEq
def m_S_newReader (N : Nat) (p_code : (List UInt8)) : Option (S_reader) :=
  cond (decide ((2000 : Int) < (p_code.length : Int)))
    ((V.subM p_code (0 : Int) (2000 : Int)).bind fun xs2 =>
    some (S_reader.mk xs2 (0 : Int)))
    (some (S_reader.mk p_code (0 : Int)))
theorem w_S_newReader (N : Nat) (p_code : (List UInt8)) (r : S_reader) (hh0 : m_S_newReader N p_code = some r) : FnX Tryd.prog 11 [] [sL p_code] (RE (.op 0 0) [⟨.mx [sL r.b, iA r.p], 58, 0⟩]) := by
  unfold m_S_newReader at hh0; refine FnX.mk Tryd.func11 rfl rfl ?_; intro s hs; refine PC.seq ?_; refine PC.region ?_; refine PL.op rfl (Rd.asnT rfl) ?_; refine PL.nil ?_; refine thA_n ?_; (iterate 2 refine PC.seq ?_); refine PC.region ?_; refine PL.op rfl (Rd.moveT rfl) ?_; refine PL.op rfl (Rd.lenT rfl) ?_; refine PL.op rfl (Rd.gtr rfl rfl) ?_; refine PL.nil ?_; refine thA_n ?_; rcases cond_some hh0 with ⟨h_1, hh0⟩ | ⟨h_1, hh0⟩; rotate_left
  · refine PC.cond_false rfl h_1 ?_; refine PC.skip ?_; refine thA_n ?_; refine PC.seq ?_; refine PC.region ?_; refine PL.op rfl (Rd.moveT rfl) ?_; refine PL.op rfl (Rd.build rfl rfl rfl rfl) ?_; refine PL.ef rfl (Ef.box rfl rfl rfl) ?_; refine PL.nm (.op 0 0) [some ⟨.mx [sL p_code, iA (0 : Int)], 58, 0⟩] rfl rfl ?_; refine PL.op rfl (Rd.asnP rfl) ?_; refine PL.nil ?_; refine thA_n ?_; refine PC.ret ?_; obtain rfl := some_in hh0; exact FinA.mk (r := .op 0 0) (bl := [⟨.mx [sL p_code, iA (0 : Int)], 58, 0⟩]) [some 0] (.inl rfl) rfl (rl := [.tmp 2]) (.tmp .nil) rfl rfl rfl (.op rfl) ⟨⟨_, rfl, rfl, rfl, .mx ⟨.t _, .t _, trivial⟩⟩, trivial⟩ ⟨rfl, rfl⟩
  refine PC.cond_true rfl h_1 ?_; obtain ⟨xs2, h_3, hh0⟩ := bind_some hh0; refine PC.region ?_; refine PL.op rfl (Rd.moveT rfl) ?_; refine PL.op rfl (Rd.subTMH rfl rfl h_3) ?_; refine PL.op rfl (Rd.asnT rfl) ?_; refine PL.nil ?_; refine thA_n ?_; refine PC.seq ?_; refine PC.region ?_; refine PL.op rfl (Rd.moveT rfl) ?_; refine PL.op rfl (Rd.build rfl rfl rfl rfl) ?_; refine PL.ef rfl (Ef.box rfl rfl rfl) ?_; refine PL.nm (.op 0 0) [some ⟨.mx [sL xs2, iA (0 : Int)], 58, 0⟩] rfl rfl ?_; refine PL.op rfl (Rd.asnP rfl) ?_; refine PL.nil ?_; refine thA_n ?_; refine PC.ret ?_; obtain rfl := some_in hh0; exact FinA.mk (r := .op 0 0) (bl := [⟨.mx [sL xs2, iA (0 : Int)], 58, 0⟩]) [some 0] (.inl rfl) rfl (rl := [.tmp 2]) (.tmp .nil) rfl rfl rfl (.op rfl) ⟨⟨_, rfl, rfl, rfl, .mx ⟨.t _, .t _, trivial⟩⟩, trivial⟩ ⟨rfl, rfl⟩
def m_S_reader_pick (N : Nat) (p_r : S_reader) (p_n : Int) : Option (Int × S_reader) :=
  (chk (p_r.p + (1 : Int))).bind fun n1 =>
  cond (decide (p_n < (1 : Int)))
    (some ((0 : Int), (S_reader.mk p_r.b n1)))
    (cond (decide ((p_r.b.length : Int) = (0 : Int)))
      (some ((0 : Int), (S_reader.mk p_r.b n1)))
      ((chk (n1 - (1 : Int))).bind fun n5 =>
      cond (decide (n5 < (p_r.b.length : Int)))
        ((ixI p_r.b n5).bind fun x8 =>
        (remM (x8.toNat : Int) p_n).bind fun n10 =>
        some (n10, (S_reader.mk p_r.b n1)))
        ((remM n5 (p_r.b.length : Int)).bind fun n12 =>
        (ixI p_r.b n12).bind fun x14 =>
        (chk ((x14.toNat : Int) * (131 : Int))).bind fun n16 =>
        (chk (n5 * (7 : Int))).bind fun n18 =>
        (chk (n18 + (3 : Int))).bind fun n20 =>
        (remM n20 (p_r.b.length : Int)).bind fun n22 =>
        (ixI p_r.b n22).bind fun x24 =>
        (chk ((x24.toNat : Int) * (1117 : Int))).bind fun n26 =>
        (chk (n16 + n26)).bind fun n28 =>
        (chk (n5 * (29 : Int))).bind fun n30 =>
        (chk (n28 + n30)).bind fun n32 =>
        (quoM n5 (p_r.b.length : Int)).bind fun n34 =>
        (chk (n34 * (53 : Int))).bind fun n36 =>
        (chk (n32 + n36)).bind fun n38 =>
        (quoM n38 (64 : Int)).bind fun n40 =>
        (xorM n38 n40).bind fun n42 =>
        (remM n42 p_n).bind fun n44 =>
        some (n44, (S_reader.mk p_r.b n1)))))
theorem w_S_reader_pick (N : Nat) (p_r : S_reader) (p_n : Int) (r : Int × S_reader) (hh0 : m_S_reader_pick N p_r p_n = some r) : FnX Tryd.prog 15 [⟨.mx [sL p_r.b, iA p_r.p], 58, 0⟩] [.op 0 0, iA p_n] (RE (iA r.1) [⟨.mx [sL r.2.b, iA r.2.p], 58, 0⟩]) := by
  unfold m_S_reader_pick at hh0; refine FnX.mk Tryd.func15 rfl rfl ?_; intro s hs; refine PC.seq ?_; refine PC.region ?_; refine PL.op rfl (Rd.asnT rfl) ?_; refine PL.nil ?_; refine thA_n ?_; refine PC.seq ?_; obtain ⟨n1, h_2, hh0⟩ := bind_some hh0; refine PC.region ?_; (iterate 2 refine PL.op rfl (Rd.moveP rfl) ?_); refine PL.op rfl (Rd.nilCheckO rfl rfl) ?_; refine PL.op rfl (Rd.fieldO rfl rfl) ?_; refine PL.op rfl (Rd.loadO rfl rfl rfl) ?_; refine PL.op rfl (Rd.addM rfl rfl h_2) ?_; refine PL.op rfl (Rd.nilCheckO rfl rfl) ?_; refine PL.op rfl (Rd.fieldO rfl rfl) ?_; refine PL.store rfl rfl rfl rfl rfl rfl rfl ?_; refine PL.nO [some ⟨.mx [sL p_r.b, iA n1], 58, 0⟩] rfl ?_; refine PL.nil ?_; refine thA_n ?_; (iterate 2 refine PC.seq ?_); rcases cond_some hh0 with ⟨h_3, hh0⟩ | ⟨h_3, hh0⟩
  · refine PC.region ?_; refine PL.op rfl (Rd.moveT rfl) ?_; refine PL.op rfl (Rd.lss rfl rfl) ?_; refine PL.op rfl (Rd.moveT rfl) ?_; (iterate 6 refine PL.guard_off rfl rfl h_3 ?_); refine PL.op rfl (Rd.pick_t rfl h_3) ?_; refine PL.nil ?_; refine thA_n ?_; refine PC.cond_true rfl rfl ?_; refine PC.seq ?_; refine PC.region ?_; refine PL.op rfl (Rd.asnT rfl) ?_; refine PL.nil ?_; refine thA_n ?_; refine PC.ret ?_; refine thA_r ?_; obtain rfl := some_in hh0; exact FinA.mk (r := iA (((0 : Int), (S_reader.mk p_r.b n1)).1)) (bl := [⟨.mx [sL (((0 : Int), (S_reader.mk p_r.b n1)).2.b), iA (((0 : Int), (S_reader.mk p_r.b n1)).2.p)], 58, 0⟩]) [some 0] (.inl rfl) rfl (rl := [.tmp 4]) (.tmp .nil) rfl rfl rfl (.t _) ⟨⟨_, rfl, rfl, rfl, .mx ⟨.t _, .t _, trivial⟩⟩, trivial⟩ ⟨rfl, rfl⟩
  refine PC.region ?_; refine PL.op rfl (Rd.moveT rfl) ?_; refine PL.op rfl (Rd.lss rfl rfl) ?_; refine PL.op rfl (Rd.moveT rfl) ?_; refine PL.guard_on rfl h_3 ?_; refine PL.op rfl (Rd.moveP rfl) ?_; refine PL.guard_on rfl h_3 ?_; refine PL.op rfl (Rd.nilCheckO rfl rfl) ?_; refine PL.guard_on rfl h_3 ?_; refine PL.op rfl (Rd.fieldO rfl rfl) ?_; refine PL.guard_on rfl h_3 ?_; refine PL.op rfl (Rd.loadO rfl rfl rfl) ?_; refine PL.guard_on rfl h_3 ?_; refine PL.op rfl (Rd.lenT rfl) ?_; refine PL.guard_on rfl h_3 ?_; refine PL.op rfl (Rd.eql rfl rfl) ?_; refine PL.op rfl (Rd.pick_f rfl h_3) ?_; refine PL.nil ?_; refine thA_n ?_; rcases cond_some hh0 with ⟨h_4, hh0⟩ | ⟨h_4, hh0⟩
  · refine PC.cond_true rfl h_4 ?_; refine PC.seq ?_; refine PC.region ?_; refine PL.op rfl (Rd.asnT rfl) ?_; refine PL.nil ?_; refine thA_n ?_; refine PC.ret ?_; refine thA_r ?_; obtain rfl := some_in hh0; exact FinA.mk (r := iA (((0 : Int), (S_reader.mk p_r.b n1)).1)) (bl := [⟨.mx [sL (((0 : Int), (S_reader.mk p_r.b n1)).2.b), iA (((0 : Int), (S_reader.mk p_r.b n1)).2.p)], 58, 0⟩]) [some 0] (.inl rfl) rfl (rl := [.tmp 4]) (.tmp .nil) rfl rfl rfl (.t _) ⟨⟨_, rfl, rfl, rfl, .mx ⟨.t _, .t _, trivial⟩⟩, trivial⟩ ⟨rfl, rfl⟩
  refine PC.cond_false rfl h_4 ?_; refine PC.skip ?_; refine thA_n ?_; refine PC.seq ?_; obtain ⟨n5, h_6, hh0⟩ := bind_some hh0; refine PC.region ?_; refine PL.op rfl (Rd.moveP rfl) ?_; refine PL.op rfl (Rd.nilCheckO rfl rfl) ?_; refine PL.op rfl (Rd.fieldO rfl rfl) ?_; refine PL.op rfl (Rd.loadO rfl rfl rfl) ?_; refine PL.op rfl (Rd.subM rfl rfl h_6) ?_; refine PL.op rfl (Rd.asnT rfl) ?_; refine PL.nil ?_; refine thA_n ?_; (iterate 2 refine PC.seq ?_); refine PC.region ?_; refine PL.op rfl (Rd.moveT rfl) ?_; refine PL.op rfl (Rd.moveP rfl) ?_; refine PL.op rfl (Rd.nilCheckO rfl rfl) ?_; refine PL.op rfl (Rd.fieldO rfl rfl) ?_; refine PL.op rfl (Rd.loadO rfl rfl rfl) ?_; refine PL.op rfl (Rd.lenT rfl) ?_; refine PL.op rfl (Rd.lss rfl rfl) ?_; refine PL.nil ?_; refine thA_n ?_; rcases cond_some hh0 with ⟨h_7, hh0⟩ | ⟨h_7, hh0⟩
  · refine PC.cond_true rfl h_7 ?_; refine PC.seq ?_; obtain ⟨x8, h_9, hh0⟩ := bind_some hh0; obtain ⟨n10, h_11, hh0⟩ := bind_some hh0; refine PC.region ?_; refine PL.op rfl (Rd.moveP rfl) ?_; refine PL.op rfl (Rd.nilCheckO rfl rfl) ?_; refine PL.op rfl (Rd.fieldO rfl rfl) ?_; refine PL.op rfl (Rd.loadO rfl rfl rfl) ?_; refine PL.op rfl (Rd.moveT rfl) ?_; refine PL.op rfl (Rd.ixM rfl rfl h_9) ?_; refine PL.op rfl (Rd.elM1 rfl h_9 rfl rfl) ?_; refine PL.op rfl (Rd.u8 rfl) ?_; refine PL.op rfl (Rd.moveT rfl) ?_; refine PL.op rfl (Rd.remM rfl rfl h_11) ?_; refine PL.op rfl (Rd.asnT rfl) ?_; refine PL.nil ?_; refine thA_n ?_; refine PC.ret ?_; refine thA_r ?_; obtain rfl := some_in hh0; exact FinA.mk (r := iA ((n10, (S_reader.mk p_r.b n1)).1)) (bl := [⟨.mx [sL ((n10, (S_reader.mk p_r.b n1)).2.b), iA ((n10, (S_reader.mk p_r.b n1)).2.p)], 58, 0⟩]) [some 0] (.inl rfl) rfl (rl := [.tmp 4]) (.tmp .nil) rfl rfl rfl (.t _) ⟨⟨_, rfl, rfl, rfl, .mx ⟨.t _, .t _, trivial⟩⟩, trivial⟩ ⟨rfl, rfl⟩
  refine PC.cond_false rfl h_7 ?_; refine PC.skip ?_; refine thA_n ?_; refine PC.seq ?_; obtain ⟨n12, h_13, hh0⟩ := bind_some hh0; obtain ⟨x14, h_15, hh0⟩ := bind_some hh0; obtain ⟨n16, h_17, hh0⟩ := bind_some hh0; obtain ⟨n18, h_19, hh0⟩ := bind_some hh0; obtain ⟨n20, h_21, hh0⟩ := bind_some hh0; obtain ⟨n22, h_23, hh0⟩ := bind_some hh0; obtain ⟨x24, h_25, hh0⟩ := bind_some hh0; obtain ⟨n26, h_27, hh0⟩ := bind_some hh0; obtain ⟨n28, h_29, hh0⟩ := bind_some hh0; obtain ⟨n30, h_31, hh0⟩ := bind_some hh0; obtain ⟨n32, h_33, hh0⟩ := bind_some hh0; obtain ⟨n34, h_35, hh0⟩ := bind_some hh0; obtain ⟨n36, h_37, hh0⟩ := bind_some hh0; obtain ⟨n38, h_39, hh0⟩ := bind_some hh0; refine PC.any (id := 7) 46 (.seg [0, 1, 2, 3, 4, 5, 6, 7, 8, 9, 10, 11, 12, 13, 14, 15, 16, 17, 18, 19, 20, 21, 22, 23, 24, 25, 26, 27, 28, 29, 30, 31, 32, 33, 34, 35, 36, 37, 38, 39, 40, 41, 42, 43, 44, 45] .done) [] rfl (by kernel_rfl) rfl ?_; refine PT.seg ?_; refine PR.op rfl (Rd.moveP rfl) ?_; refine PR.op rfl (Rd.nilCheckO rfl rfl) ?_; refine PR.op rfl (Rd.fieldO rfl rfl) ?_; refine PR.op rfl (Rd.loadO rfl rfl rfl) ?_; refine PR.op rfl (Rd.moveT rfl) ?_; refine PR.op rfl (Rd.moveP rfl) ?_; refine PR.op rfl (Rd.nilCheckO rfl rfl) ?_; refine PR.op rfl (Rd.fieldO rfl rfl) ?_; refine PR.op rfl (Rd.loadO rfl rfl rfl) ?_; refine PR.op rfl (Rd.lenT rfl) ?_; refine PR.op rfl (Rd.remM rfl rfl h_13) ?_; refine PR.op rfl (Rd.ixM rfl rfl h_15) ?_; refine PR.op rfl (Rd.elM1 rfl h_15 rfl rfl) ?_; refine PR.op rfl (Rd.u8 rfl) ?_; refine PR.op rfl (Rd.mulM rfl rfl h_17) ?_; refine PR.op rfl (Rd.moveP rfl) ?_; refine PR.op rfl (Rd.nilCheckO rfl rfl) ?_; refine PR.op rfl (Rd.fieldO rfl rfl) ?_; refine PR.op rfl (Rd.loadO rfl rfl rfl) ?_; refine PR.op rfl (Rd.moveT rfl) ?_; refine PR.op rfl (Rd.mulM rfl rfl h_19) ?_; refine PR.op rfl (Rd.addM rfl rfl h_21) ?_; refine PR.op rfl (Rd.moveP rfl) ?_; refine PR.op rfl (Rd.nilCheckO rfl rfl) ?_; refine PR.op rfl (Rd.fieldO rfl rfl) ?_; refine PR.op rfl (Rd.loadO rfl rfl rfl) ?_; refine PR.op rfl (Rd.lenT rfl) ?_; refine PR.op rfl (Rd.remM rfl rfl h_23) ?_; refine PR.op rfl (Rd.ixM rfl rfl h_25) ?_; refine PR.op rfl (Rd.elM1 rfl h_25 rfl rfl) ?_; refine PR.op rfl (Rd.u8 rfl) ?_; refine PR.op rfl (Rd.mulM rfl rfl h_27) ?_; refine PR.op rfl (Rd.addM rfl rfl h_29) ?_; refine PR.op rfl (Rd.moveT rfl) ?_; refine PR.op rfl (Rd.mulM rfl rfl h_31) ?_; refine PR.op rfl (Rd.addM rfl rfl h_33) ?_; refine PR.op rfl (Rd.moveT rfl) ?_; refine PR.op rfl (Rd.moveP rfl) ?_; refine PR.op rfl (Rd.nilCheckO rfl rfl) ?_; refine PR.op rfl (Rd.fieldO rfl rfl) ?_; refine PR.op rfl (Rd.loadO rfl rfl rfl) ?_; refine PR.op rfl (Rd.lenT rfl) ?_; refine PR.op rfl (Rd.quoM rfl rfl h_35) ?_; refine PR.op rfl (Rd.mulM rfl rfl h_37) ?_; refine PR.op rfl (Rd.addM rfl rfl h_39) ?_; refine PR.op rfl (Rd.asnT rfl) ?_; refine PR.nil ?_; refine PT.done ?_; refine PL.nil ?_; refine thA_n ?_; refine PC.seq ?_; obtain ⟨n40, h_41, hh0⟩ := bind_some hh0; obtain ⟨n42, h_43, hh0⟩ := bind_some hh0; refine PC.region ?_; (iterate 2 refine PL.op rfl (Rd.moveT rfl) ?_); refine PL.op rfl (Rd.quoM rfl rfl h_41) ?_; refine PL.op rfl (Rd.xorM rfl rfl h_43) ?_; refine PL.op rfl (Rd.asnT rfl) ?_; refine PL.nil ?_; refine thA_n ?_; refine PC.seq ?_; obtain ⟨n44, h_45, hh0⟩ := bind_some hh0; refine PC.region ?_; (iterate 2 refine PL.op rfl (Rd.moveT rfl) ?_); refine PL.op rfl (Rd.remM rfl rfl h_45) ?_; refine PL.op rfl (Rd.asnT rfl) ?_; refine PL.nil ?_; refine thA_n ?_; refine PC.ret ?_; obtain rfl := some_in hh0; exact FinA.mk (r := iA ((n44, (S_reader.mk p_r.b n1)).1)) (bl := [⟨.mx [sL ((n44, (S_reader.mk p_r.b n1)).2.b), iA ((n44, (S_reader.mk p_r.b n1)).2.p)], 58, 0⟩]) [some 0] (.inl rfl) rfl (rl := [.tmp 4]) (.tmp .nil) rfl rfl rfl (.t _) ⟨⟨_, rfl, rfl, rfl, .mx ⟨.t _, .t _, trivial⟩⟩, trivial⟩ ⟨rfl, rfl⟩
def m_S_reader_one (N : Nat) (p_r : S_reader) (p_list : (List Int)) : Option (Int × S_reader) :=
  (m_S_reader_pick N p_r (p_list.length : Int)).bind fun r1 =>
  (ixI p_list r1.1).bind fun x3 =>
  some (x3, r1.2)
theorem w_S_reader_one (N : Nat) (p_r : S_reader) (p_list : (List Int)) (r : Int × S_reader) (hh0 : m_S_reader_one N p_r p_list = some r) : FnX Tryd.prog 13 [⟨.mx [sL p_r.b, iA p_r.p], 58, 0⟩] [.op 0 0, sL p_list] (RE (iA r.1) [⟨.mx [sL r.2.b, iA r.2.p], 58, 0⟩]) := by
  unfold m_S_reader_one at hh0; refine FnX.mk Tryd.func13 rfl rfl ?_; intro s hs; refine PC.seq ?_; refine PC.region ?_; refine PL.op rfl (Rd.asnT rfl) ?_; refine PL.nil ?_; refine thA_n ?_; refine PC.seq ?_; obtain ⟨r1, h_2, hh0⟩ := bind_some hh0; obtain ⟨x3, h_4, hh0⟩ := bind_some hh0; refine PC.region ?_; refine PL.op rfl (Rd.moveT rfl) ?_; refine PL.op rfl (Rd.moveP rfl) ?_; refine PL.op rfl (Rd.moveT rfl) ?_; refine PL.op rfl (Rd.lenT rfl) ?_; refine PL.callM false [0] (w_S_reader_pick N p_r (p_list.length : Int) r1 h_2) rfl Tryd.call15 rfl ⟨.op rfl, .t _, trivial⟩ rfl ⟨⟨_, rfl, rfl, rfl, .mx ⟨.t _, .t _, trivial⟩⟩, trivial⟩ (fun h => by cases h) ?_; refine PL.nm (iA r1.1) [some ⟨.mx [sL r1.2.b, iA r1.2.p], 58, 0⟩] rfl rfl ?_; refine PL.op rfl (Rd.ixM rfl rfl h_4) ?_; refine PL.op rfl (Rd.elM1 rfl h_4 rfl rfl) ?_; refine PL.op rfl (Rd.asnT rfl) ?_; refine PL.nil ?_; refine thA_n ?_; refine PC.ret ?_; obtain rfl := some_in hh0; exact FinA.mk (r := iA ((x3, r1.2).1)) (bl := [⟨.mx [sL ((x3, r1.2).2.b), iA ((x3, r1.2).2.p)], 58, 0⟩]) [some 0] (.inl rfl) rfl (rl := [.tmp 4]) (.tmp .nil) rfl rfl rfl (.t _) ⟨⟨_, rfl, rfl, rfl, .mx ⟨.t _, .t _, trivial⟩⟩, trivial⟩ ⟨rfl, rfl⟩
def m_S_reader_of (N : Nat) (p_r : S_reader) (p_list : (List ByteArray)) : Option (ByteArray × S_reader) :=
  (m_S_reader_pick N p_r (p_list.length : Int)).bind fun r1 =>
  (ixI p_list r1.1).bind fun x3 =>
  some (x3, r1.2)
theorem w_S_reader_of (N : Nat) (p_r : S_reader) (p_list : (List ByteArray)) (r : ByteArray × S_reader) (hh0 : m_S_reader_of N p_r p_list = some r) : FnX Tryd.prog 33 [⟨.mx [sL p_r.b, iA p_r.p], 58, 0⟩] [.op 0 0, sL p_list] (RE (sA r.1) [⟨.mx [sL r.2.b, iA r.2.p], 58, 0⟩]) := by
  unfold m_S_reader_of at hh0; refine FnX.mk Tryd.func33 rfl rfl ?_; intro s hs; refine PC.seq ?_; refine PC.region ?_; refine PL.op rfl (Rd.asnT rfl) ?_; refine PL.nil ?_; refine thA_n ?_; refine PC.seq ?_; obtain ⟨r1, h_2, hh0⟩ := bind_some hh0; obtain ⟨x3, h_4, hh0⟩ := bind_some hh0; refine PC.region ?_; refine PL.op rfl (Rd.moveT rfl) ?_; refine PL.op rfl (Rd.moveP rfl) ?_; refine PL.op rfl (Rd.moveT rfl) ?_; refine PL.op rfl (Rd.lenT rfl) ?_; refine PL.callM false [0] (w_S_reader_pick N p_r (p_list.length : Int) r1 h_2) rfl Tryd.call15 rfl ⟨.op rfl, .t _, trivial⟩ rfl ⟨⟨_, rfl, rfl, rfl, .mx ⟨.t _, .t _, trivial⟩⟩, trivial⟩ (fun h => by cases h) ?_; refine PL.nm (iA r1.1) [some ⟨.mx [sL r1.2.b, iA r1.2.p], 58, 0⟩] rfl rfl ?_; refine PL.op rfl (Rd.ixM rfl rfl h_4) ?_; refine PL.op rfl (Rd.elM1 rfl h_4 rfl rfl) ?_; refine PL.op rfl (Rd.asnT rfl) ?_; refine PL.nil ?_; refine thA_n ?_; refine PC.ret ?_; obtain rfl := some_in hh0; exact FinA.mk (r := sA ((x3, r1.2).1)) (bl := [⟨.mx [sL ((x3, r1.2).2.b), iA ((x3, r1.2).2.p)], 58, 0⟩]) [some 0] (.inl rfl) rfl (rl := [.tmp 4]) (.tmp .nil) rfl rfl rfl (.t _) ⟨⟨_, rfl, rfl, rfl, .mx ⟨.t _, .t _, trivial⟩⟩, trivial⟩ ⟨rfl, rfl⟩
end V
end Go.Proofs.YtkjnnifnmoekjaaDoor
namespace Go.Proofs.YtkjnnifnmoekjaaDoor
namespace V
open Enc (enc)
set_option linter.unusedVariables false
set_option linter.unusedSimpArgs false
set_option maxHeartbeats 4000000
set_option maxRecDepth 100000
open Go.RowKit
attribute [local irreducible] thA inA FinA eL
structure I_Value where
  kind : Int
  num : Int
  text : ByteArray
deriving DecidableEq
instance : Enc I_Value := ⟨fun x => [.v (.int .i64 x.kind), .v (.int .i64 x.num), .v (.string x.text)], 3, fun _ => rfl⟩
instance : EncF I_Value := ⟨fun _ c h => by simp [enc] at h; rcases h with h | h | h <;> exact ⟨_, h⟩⟩
structure I_Column where
  kind : Int
  default : I_Value
deriving DecidableEq
instance : Enc I_Column := ⟨fun x => [.v (.int .i64 x.kind), .v (.int .i64 x.default.kind), .v (.int .i64 x.default.num), .v (.string x.default.text)], 4, fun _ => rfl⟩
def m_I_validText_k1 (N : Nat) : Option (Bool) :=
  some true
def m_I_validText_b1 (N : Nat) (p_s : ByteArray) (i2 : Int) : Option (Int ⊕ (Unit ⊕ Bool)) :=
  cond (decide (i2 < (p_s.size : Int)))
    ((ixS p_s i2).bind fun c18 =>
    cond (decide ((c18.toNat : Int) < ((32 : UInt8).toNat : Int)))
      (some (.inr (.inr false)))
      ((ixS p_s i2).bind fun c21 =>
      cond (decide (((126 : UInt8).toNat : Int) < (c21.toNat : Int)))
        (some (.inr (.inr false)))
        ((chk (i2 + (1 : Int))).bind fun n24 =>
        some (.inl n24))))
    (some (.inr (.inl ())))
def m_I_validText (N : Nat) (p_s : ByteArray) : Option (Bool) :=
  cond (decide ((12 : Int) < (p_s.size : Int)))
    (some false)
    ((loopM (β := Unit ⊕ Bool) (fun s : Int => m_I_validText_b1 N p_s s) N (0 : Int)).bind fun o => match o with
    | .inl e =>
      m_I_validText_k1 N 
    | .inr v =>
      some v)
theorem w_I_validText (N : Nat) (p_s : ByteArray) (r : Bool) (hh0 : m_I_validText N p_s = some r) : FnX Tryd.prog 35 [] [sA p_s] (RE (bA r) []) := by
  unfold m_I_validText at hh0; refine FnX.mk Tryd.func35 rfl rfl ?_; intro s hs; refine PC.seq ?_; refine PC.region ?_; refine PL.op rfl (Rd.asnT rfl) ?_; refine PL.nil ?_; refine thA_n ?_; (iterate 2 refine PC.seq ?_); refine PC.region ?_; refine PL.op rfl (Rd.moveT rfl) ?_; refine PL.op rfl (Rd.lenSt rfl) ?_; refine PL.op rfl (Rd.gtr rfl rfl) ?_; refine PL.nil ?_; refine thA_n ?_; rcases cond_some hh0 with ⟨h_1, hh0⟩ | ⟨h_1, hh0⟩
  · refine PC.cond_true rfl h_1 ?_; refine PC.seq ?_; refine PC.region ?_; refine PL.op rfl (Rd.asnT rfl) ?_; refine PL.nil ?_; refine thA_n ?_; refine PC.ret ?_; refine thA_r ?_; obtain rfl := some_in hh0; exact FinA.mk (r := bA false) (bl := []) [] (.inl rfl) rfl (rl := [.tmp 2]) (.tmp .nil) rfl rfl rfl (.t _) trivial ⟨rfl, rfl⟩
  refine PC.cond_false rfl h_1 ?_; refine PC.skip ?_; refine thA_n ?_; (iterate 2 refine PC.seq ?_); refine PC.region ?_; refine PL.op rfl (Rd.asnT rfl) ?_; refine PL.nil ?_; refine thA_n ?_; obtain ⟨o12, h_13, hh0⟩ := bind_some hh0; refine PC.cutE hs (fun x : Unit => []) (fun x => []) (fun x => m_I_validText_k1 N  = some r) ?_ ?_
  · refine PC.block ?_; refine PC.loop hs (fun x : Nat × (Int) => [(0, sA p_s), (3, iA x.2)]) (fun x => []) (fun x => loopM (β := Unit ⊕ Bool) (fun s : Int => m_I_validText_b1 N p_s s) x.1 x.2 = some o12) (fun x => x.1) (N, (0 : Int)) [] ⟨rfl, rfl, trivial, ⟨.t _, .t _, trivial⟩⟩ h_13 ?_
    rintro ⟨f14_, i2⟩ h_16
    obtain ⟨f14, y15, rfl, hh1, kk1⟩ := loopM_some h_16
    replace hh1 : m_I_validText_b1 N p_s i2 = some y15 := hh1
    unfold m_I_validText_b1 at hh1; (iterate 2 refine PC.seq ?_); refine PC.region ?_; (iterate 2 refine PL.op rfl (Rd.moveT rfl) ?_); refine PL.op rfl (Rd.lenSt rfl) ?_; refine PL.op rfl (Rd.lss rfl rfl) ?_; refine PL.nil ?_; refine thA_n ?_; rcases cond_some hh1 with ⟨h_17, hh1⟩ | ⟨h_17, hh1⟩; rotate_left
    · refine PC.cond_false rfl h_17 ?_; refine PC.exit ?_; (iterate 2 refine thA_e ?_); refine inA_eq rfl ?_; refine thA_n ?_; obtain rfl := some_in hh1; obtain rfl : (.inl () : Unit ⊕ Bool) = o12 := kk1; exact ⟨(), hh0, [], ⟨rfl, rfl, trivial, trivial⟩⟩
    refine PC.cond_true rfl h_17 ?_; refine PC.skip ?_; refine thA_n ?_; refine PC.seq ?_; refine PC.block ?_; refine PC.seq ?_; obtain ⟨c18, h_19, hh1⟩ := bind_some hh1; rcases cond_some hh1 with ⟨h_20, hh1⟩ | ⟨h_20, hh1⟩
    · refine PC.region ?_; (iterate 2 refine PL.op rfl (Rd.moveT rfl) ?_); refine PL.op rfl (Rd.ixSM rfl rfl h_19) ?_; refine PL.op rfl (Rd.lssU rfl rfl) ?_; refine PL.op rfl (Rd.moveT rfl) ?_; (iterate 4 refine PL.guard_off rfl rfl h_20 ?_); refine PL.op rfl (Rd.pick_t rfl h_20) ?_; refine PL.nil ?_; refine thA_n ?_; refine PC.cond_true rfl rfl ?_; refine PC.seq ?_; refine PC.region ?_; refine PL.op rfl (Rd.asnT rfl) ?_; refine PL.nil ?_; refine thA_n ?_; refine PC.ret ?_; refine inA_r ?_; (iterate 2 refine thA_r ?_); refine inA_r ?_; refine thA_r ?_; obtain rfl := some_in hh1; obtain rfl : (.inr false : Unit ⊕ Bool) = o12 := kk1; refine thA_r ?_; obtain rfl := some_in hh0; exact FinA.mk (r := bA false) (bl := []) [] (.inl rfl) rfl (rl := [.tmp 2]) (.tmp .nil) rfl rfl rfl (.t _) trivial ⟨rfl, rfl⟩
    obtain ⟨c21, h_22, hh1⟩ := bind_some hh1; refine PC.region ?_; (iterate 2 refine PL.op rfl (Rd.moveT rfl) ?_); refine PL.op rfl (Rd.ixSM rfl rfl h_19) ?_; refine PL.op rfl (Rd.lssU rfl rfl) ?_; refine PL.op rfl (Rd.moveT rfl) ?_; refine PL.guard_on rfl h_20 ?_; refine PL.op rfl (Rd.moveT rfl) ?_; refine PL.guard_on rfl h_20 ?_; refine PL.op rfl (Rd.moveT rfl) ?_; refine PL.guard_on rfl h_20 ?_; refine PL.op rfl (Rd.ixSM rfl rfl h_22) ?_; refine PL.guard_on rfl h_20 ?_; refine PL.op rfl (Rd.gtrU rfl rfl) ?_; refine PL.op rfl (Rd.pick_f rfl h_20) ?_; refine PL.nil ?_; refine thA_n ?_; rcases cond_some hh1 with ⟨h_23, hh1⟩ | ⟨h_23, hh1⟩; rotate_left
    · refine PC.cond_false rfl h_23 ?_; refine PC.skip ?_; refine inA_n ?_; refine thA_n ?_; obtain ⟨n24, h_25, hh1⟩ := bind_some hh1; refine PC.region ?_; refine PL.op rfl (Rd.moveT rfl) ?_; refine PL.op rfl (Rd.addM rfl rfl h_25) ?_; refine PL.op rfl (Rd.asnT rfl) ?_; refine PL.nil ?_; obtain rfl := some_in hh1; refine thA_n ?_; exact ⟨(f14, n24), Nat.lt_succ_self _, kk1, [], ⟨rfl, rfl, trivial, ⟨.t _, .t _, trivial⟩⟩⟩
    refine PC.cond_true rfl h_23 ?_; refine PC.seq ?_; refine PC.region ?_; refine PL.op rfl (Rd.asnT rfl) ?_; refine PL.nil ?_; refine thA_n ?_; refine PC.ret ?_; refine inA_r ?_; (iterate 2 refine thA_r ?_); refine inA_r ?_; refine thA_r ?_; obtain rfl := some_in hh1; obtain rfl : (.inr false : Unit ⊕ Bool) = o12 := kk1; refine thA_r ?_; obtain rfl := some_in hh0; exact FinA.mk (r := bA false) (bl := []) [] (.inl rfl) rfl (rl := [.tmp 2]) (.tmp .nil) rfl rfl rfl (.t _) trivial ⟨rfl, rfl⟩
  clear hh0
  rintro ⟨⟩ hh0
  replace hh0 : m_I_validText_k1 N  = some r := hh0
  unfold m_I_validText_k1 at hh0; refine thA_n ?_; refine PC.seq ?_; refine PC.region ?_; refine PL.op rfl (Rd.asnT rfl) ?_; refine PL.nil ?_; refine thA_n ?_; refine PC.ret ?_; obtain rfl := some_in hh0; exact FinA.mk (r := bA true) (bl := []) [] (.inl rfl) rfl (rl := [.tmp 2]) (.tmp .nil) rfl rfl rfl (.t _) trivial ⟨rfl, rfl⟩
def m_I_ValidValue (N : Nat) (p_v : I_Value) : Option (Bool) :=
  cond (decide (p_v.kind = (0 : Int)))
    (cond (decide (p_v.num = (0 : Int)))
      (some (p_v.text.toList == ByteArray.empty.toList))
      (some false))
    (cond (decide (p_v.kind = (1 : Int)))
      (cond (decide ((-999999 : Int) ≤ p_v.num))
        (cond (decide (p_v.num ≤ (999999 : Int)))
          (some (p_v.text.toList == ByteArray.empty.toList))
          (some false))
        (some false))
      (cond (decide (p_v.kind = (2 : Int)))
        (cond (decide (p_v.num = (0 : Int)))
          ((m_I_validText N p_v.text).bind fun r8 =>
          some r8)
          (some false))
        (some false)))
theorem w_I_ValidValue (N : Nat) (p_v : I_Value) (r : Bool) (hh0 : m_I_ValidValue N p_v = some r) : FnX Tryd.prog 17 [] [.agg [iA p_v.kind, iA p_v.num, sA p_v.text]] (RE (bA r) []) := by
  unfold m_I_ValidValue at hh0; refine FnX.mk Tryd.func17 rfl rfl ?_; intro s hs; refine PC.seq ?_; refine PC.region ?_; refine PL.ef rfl (Ef.box rfl rfl rfl) ?_; refine PL.nm (.op 0 0) [some ⟨.mx [iA p_v.kind, iA p_v.num, sA p_v.text], 29, 0⟩] rfl rfl ?_; refine PL.op rfl (Rd.asnT rfl) ?_; refine PL.nil ?_; refine thA_n ?_; (iterate 2 refine PC.seq ?_); refine PC.region ?_; refine PL.op rfl (Rd.fieldO rfl rfl) ?_; refine PL.op rfl (Rd.loadO rfl rfl rfl) ?_; refine PL.nil ?_; refine thA_n ?_; refine PC.block ?_; refine PC.seq ?_; refine PC.region ?_; refine PL.op rfl (Rd.eql rfl rfl) ?_; refine PL.op rfl (Rd.asnT rfl) ?_; refine PL.nil ?_; refine thA_n ?_; rcases cond_some hh0 with ⟨h_1, hh0⟩ | ⟨h_1, hh0⟩
  · refine PC.cond_true rfl h_1 ?_; refine PC.seq ?_; rcases cond_some hh0 with ⟨h_2, hh0⟩ | ⟨h_2, hh0⟩; rotate_left
    · refine PC.region ?_; refine PL.op rfl (Rd.fieldO rfl rfl) ?_; refine PL.op rfl (Rd.loadO rfl rfl rfl) ?_; refine PL.op rfl (Rd.eql rfl rfl) ?_; refine PL.op rfl (Rd.moveT rfl) ?_; (iterate 3 refine PL.guard_off rfl rfl h_2 ?_); refine PL.op rfl (Rd.pick_f rfl h_2) ?_; refine PL.op rfl (Rd.asnT rfl) ?_; refine PL.nil ?_; refine thA_n ?_; refine PC.ret ?_; refine inA_r ?_; refine thA_r ?_; obtain rfl := some_in hh0; exact FinA.mk (r := bA false) (bl := []) [] (.inl rfl) rfl (rl := [.tmp 2]) (.tmp .nil) rfl rfl rfl (.t _) trivial ⟨rfl, rfl⟩
    refine PC.region ?_; refine PL.op rfl (Rd.fieldO rfl rfl) ?_; refine PL.op rfl (Rd.loadO rfl rfl rfl) ?_; refine PL.op rfl (Rd.eql rfl rfl) ?_; refine PL.op rfl (Rd.moveT rfl) ?_; refine PL.guard_on rfl h_2 ?_; refine PL.op rfl (Rd.fieldO rfl rfl) ?_; refine PL.guard_on rfl h_2 ?_; refine PL.op rfl (Rd.loadO rfl rfl rfl) ?_; refine PL.guard_on rfl h_2 ?_; refine PL.op rfl (Rd.eqlS rfl rfl) ?_; refine PL.op rfl (Rd.pick_t rfl h_2) ?_; refine PL.op rfl (Rd.asnT rfl) ?_; refine PL.nil ?_; refine thA_n ?_; refine PC.ret ?_; refine inA_r ?_; refine thA_r ?_; obtain rfl := some_in hh0; exact FinA.mk (r := bA (p_v.text.toList == ByteArray.empty.toList)) (bl := []) [] (.inl rfl) rfl (rl := [.tmp 2]) (.tmp .nil) rfl rfl rfl (.t _) trivial ⟨rfl, rfl⟩
  refine PC.cond_false rfl h_1 ?_; refine PC.seq ?_; refine PC.region ?_; refine PL.op rfl (Rd.eql rfl rfl) ?_; refine PL.op rfl (Rd.asnT rfl) ?_; refine PL.nil ?_; refine thA_n ?_; rcases cond_some hh0 with ⟨h_3, hh0⟩ | ⟨h_3, hh0⟩; rotate_left
  · refine PC.cond_false rfl h_3 ?_; refine PC.seq ?_; refine PC.region ?_; refine PL.op rfl (Rd.eql rfl rfl) ?_; refine PL.op rfl (Rd.asnT rfl) ?_; refine PL.nil ?_; refine thA_n ?_; rcases cond_some hh0 with ⟨h_6, hh0⟩ | ⟨h_6, hh0⟩; rotate_left
    · refine PC.cond_false rfl h_6 ?_; refine PC.skip ?_; refine inA_n ?_; refine thA_n ?_; refine PC.seq ?_; refine PC.region ?_; refine PL.op rfl (Rd.asnT rfl) ?_; refine PL.nil ?_; refine thA_n ?_; refine PC.ret ?_; obtain rfl := some_in hh0; exact FinA.mk (r := bA false) (bl := []) [] (.inl rfl) rfl (rl := [.tmp 2]) (.tmp .nil) rfl rfl rfl (.t _) trivial ⟨rfl, rfl⟩
    refine PC.cond_true rfl h_6 ?_; refine PC.seq ?_; rcases cond_some hh0 with ⟨h_7, hh0⟩ | ⟨h_7, hh0⟩; rotate_left
    · refine PC.region ?_; refine PL.op rfl (Rd.fieldO rfl rfl) ?_; refine PL.op rfl (Rd.loadO rfl rfl rfl) ?_; refine PL.op rfl (Rd.eql rfl rfl) ?_; refine PL.op rfl (Rd.moveT rfl) ?_; (iterate 3 refine PL.guard_off rfl rfl h_7 ?_); refine PL.op rfl (Rd.pick_f rfl h_7) ?_; refine PL.op rfl (Rd.asnT rfl) ?_; refine PL.nil ?_; refine thA_n ?_; refine PC.ret ?_; refine inA_r ?_; refine thA_r ?_; obtain rfl := some_in hh0; exact FinA.mk (r := bA false) (bl := []) [] (.inl rfl) rfl (rl := [.tmp 2]) (.tmp .nil) rfl rfl rfl (.t _) trivial ⟨rfl, rfl⟩
    obtain ⟨r8, h_9, hh0⟩ := bind_some hh0; refine PC.region ?_; refine PL.op rfl (Rd.fieldO rfl rfl) ?_; refine PL.op rfl (Rd.loadO rfl rfl rfl) ?_; refine PL.op rfl (Rd.eql rfl rfl) ?_; refine PL.op rfl (Rd.moveT rfl) ?_; refine PL.guard_on rfl h_7 ?_; refine PL.op rfl (Rd.fieldO rfl rfl) ?_; refine PL.guard_on rfl h_7 ?_; refine PL.op rfl (Rd.loadO rfl rfl rfl) ?_; refine PL.guard_on rfl h_7 ?_; refine PL.callM false [] (w_I_validText N p_v.text r8 h_9) rfl Tryd.call35 rfl ⟨.t _, trivial⟩ rfl trivial (fun h => by cases h) ?_; refine PL.op rfl (Rd.pick_t rfl h_7) ?_; refine PL.op rfl (Rd.asnT rfl) ?_; refine PL.nil ?_; refine thA_n ?_; refine PC.ret ?_; refine inA_r ?_; refine thA_r ?_; obtain rfl := some_in hh0; exact FinA.mk (r := bA r8) (bl := []) [] (.inl rfl) rfl (rl := [.tmp 2]) (.tmp .nil) rfl rfl rfl (.t _) trivial ⟨rfl, rfl⟩
  refine PC.cond_true rfl h_3 ?_; refine PC.seq ?_; rcases cond_some hh0 with ⟨h_4, hh0⟩ | ⟨h_4, hh0⟩; rotate_left
  · refine PC.region ?_; refine PL.op rfl (Rd.fieldO rfl rfl) ?_; refine PL.op rfl (Rd.loadO rfl rfl rfl) ?_; refine PL.op rfl (Rd.geq rfl rfl) ?_; refine PL.op rfl (Rd.moveT rfl) ?_; (iterate 3 refine PL.guard_off rfl rfl h_4 ?_); refine PL.op rfl (Rd.pick_f rfl h_4) ?_; refine PL.op rfl (Rd.moveT rfl) ?_; (iterate 3 refine PL.guard_off rfl rfl rfl ?_); refine PL.op rfl (Rd.pick_f rfl rfl) ?_; refine PL.op rfl (Rd.asnT rfl) ?_; refine PL.nil ?_; refine thA_n ?_; refine PC.ret ?_; refine inA_r ?_; refine thA_r ?_; obtain rfl := some_in hh0; exact FinA.mk (r := bA false) (bl := []) [] (.inl rfl) rfl (rl := [.tmp 2]) (.tmp .nil) rfl rfl rfl (.t _) trivial ⟨rfl, rfl⟩
  rcases cond_some hh0 with ⟨h_5, hh0⟩ | ⟨h_5, hh0⟩; rotate_left
  · refine PC.region ?_; refine PL.op rfl (Rd.fieldO rfl rfl) ?_; refine PL.op rfl (Rd.loadO rfl rfl rfl) ?_; refine PL.op rfl (Rd.geq rfl rfl) ?_; refine PL.op rfl (Rd.moveT rfl) ?_; refine PL.guard_on rfl h_4 ?_; refine PL.op rfl (Rd.fieldO rfl rfl) ?_; refine PL.guard_on rfl h_4 ?_; refine PL.op rfl (Rd.loadO rfl rfl rfl) ?_; refine PL.guard_on rfl h_4 ?_; refine PL.op rfl (Rd.leq rfl rfl) ?_; refine PL.op rfl (Rd.pick_t rfl h_4) ?_; refine PL.op rfl (Rd.moveT rfl) ?_; (iterate 3 refine PL.guard_off rfl rfl h_5 ?_); refine PL.op rfl (Rd.pick_f rfl h_5) ?_; refine PL.op rfl (Rd.asnT rfl) ?_; refine PL.nil ?_; refine thA_n ?_; refine PC.ret ?_; refine inA_r ?_; refine thA_r ?_; obtain rfl := some_in hh0; exact FinA.mk (r := bA false) (bl := []) [] (.inl rfl) rfl (rl := [.tmp 2]) (.tmp .nil) rfl rfl rfl (.t _) trivial ⟨rfl, rfl⟩
  refine PC.region ?_; refine PL.op rfl (Rd.fieldO rfl rfl) ?_; refine PL.op rfl (Rd.loadO rfl rfl rfl) ?_; refine PL.op rfl (Rd.geq rfl rfl) ?_; refine PL.op rfl (Rd.moveT rfl) ?_; refine PL.guard_on rfl h_4 ?_; refine PL.op rfl (Rd.fieldO rfl rfl) ?_; refine PL.guard_on rfl h_4 ?_; refine PL.op rfl (Rd.loadO rfl rfl rfl) ?_; refine PL.guard_on rfl h_4 ?_; refine PL.op rfl (Rd.leq rfl rfl) ?_; refine PL.op rfl (Rd.pick_t rfl h_4) ?_; refine PL.op rfl (Rd.moveT rfl) ?_; refine PL.guard_on rfl h_5 ?_; refine PL.op rfl (Rd.fieldO rfl rfl) ?_; refine PL.guard_on rfl h_5 ?_; refine PL.op rfl (Rd.loadO rfl rfl rfl) ?_; refine PL.guard_on rfl h_5 ?_; refine PL.op rfl (Rd.eqlS rfl rfl) ?_; refine PL.op rfl (Rd.pick_t rfl h_5) ?_; refine PL.op rfl (Rd.asnT rfl) ?_; refine PL.nil ?_; refine thA_n ?_; refine PC.ret ?_; refine inA_r ?_; refine thA_r ?_; obtain rfl := some_in hh0; exact FinA.mk (r := bA (p_v.text.toList == ByteArray.empty.toList)) (bl := []) [] (.inl rfl) rfl (rl := [.tmp 2]) (.tmp .nil) rfl rfl rfl (.t _) trivial ⟨rfl, rfl⟩
def m_I_Column_valid (N : Nat) (p_c : I_Column) : Option (Bool) :=
  cond (decide (p_c.kind = (1 : Int)))
    ((m_I_ValidValue N p_c.default).bind fun r2 =>
    cond r2
      (cond (decide (p_c.default.kind = p_c.kind))
        (some true)
        (some (decide (p_c.default.kind = (0 : Int)))))
      (some false))
    (cond (decide (p_c.kind = (2 : Int)))
      ((m_I_ValidValue N p_c.default).bind fun r7 =>
      cond r7
        (cond (decide (p_c.default.kind = p_c.kind))
          (some true)
          (some (decide (p_c.default.kind = (0 : Int)))))
        (some false))
      (some false))
theorem w_I_Column_valid (N : Nat) (p_c : I_Column) (r : Bool) (hh0 : m_I_Column_valid N p_c = some r) : FnX Tryd.prog 71 [] [.agg [iA p_c.kind, iA p_c.default.kind, iA p_c.default.num, sA p_c.default.text]] (RE (bA r) []) := by
  unfold m_I_Column_valid at hh0; refine FnX.mk Tryd.func71 rfl rfl ?_; intro s hs; refine PC.seq ?_; refine PC.region ?_; refine PL.ef rfl (Ef.box rfl rfl rfl) ?_; refine PL.nm (.op 0 0) [some ⟨.mx [iA p_c.kind, iA p_c.default.kind, iA p_c.default.num, sA p_c.default.text], 82, 0⟩] rfl rfl ?_; refine PL.op rfl (Rd.asnT rfl) ?_; refine PL.nil ?_; refine thA_n ?_; (iterate 2 refine PC.seq ?_); rcases cond_some hh0 with ⟨h_1, hh0⟩ | ⟨h_1, hh0⟩
  · refine PC.region ?_; refine PL.op rfl (Rd.fieldO rfl rfl) ?_; refine PL.op rfl (Rd.loadO rfl rfl rfl) ?_; refine PL.op rfl (Rd.neq rfl rfl) ?_; refine PL.op rfl (Rd.moveT rfl) ?_; (iterate 3 refine PL.guard_off rfl rfl (not_t h_1) ?_); refine PL.op rfl (Rd.pick_f rfl (not_t h_1)) ?_; refine PL.nil ?_; refine thA_n ?_; refine PC.cond_false rfl rfl ?_; refine PC.skip ?_; refine thA_n ?_; refine PC.seq ?_; obtain ⟨r2, h_3, hh0⟩ := bind_some hh0; rcases cond_some hh0 with ⟨h_4, hh0⟩ | ⟨h_4, hh0⟩; rotate_left
    · refine PC.region ?_; refine PL.op rfl (Rd.fieldO rfl rfl) ?_; refine PL.op rfl (Rd.loadSub rfl rfl rfl rfl) ?_; refine PL.callM false [] (w_I_ValidValue N p_c.default r2 h_3) rfl Tryd.call17 rfl ⟨.aggL ⟨.t _, .t _, .t _, trivial⟩, trivial⟩ rfl trivial (fun h => by cases h) ?_; refine PL.op rfl (Rd.moveT rfl) ?_; (iterate 7 refine PL.guard_off rfl rfl h_4 ?_); (iterate 4 refine PL.guard_un rfl rfl ?_); refine PL.guard_off rfl rfl h_4 ?_; refine PL.op rfl (Rd.pick_f rfl h_4) ?_; refine PL.op rfl (Rd.asnT rfl) ?_; refine PL.nil ?_; refine thA_n ?_; refine PC.ret ?_; obtain rfl := some_in hh0; exact FinA.mk (r := bA false) (bl := []) [] (.inl rfl) rfl (rl := [.tmp 2]) (.tmp .nil) rfl rfl rfl (.t _) trivial ⟨rfl, rfl⟩
    rcases cond_some hh0 with ⟨h_5, hh0⟩ | ⟨h_5, hh0⟩
    · refine PC.region ?_; refine PL.op rfl (Rd.fieldO rfl rfl) ?_; refine PL.op rfl (Rd.loadSub rfl rfl rfl rfl) ?_; refine PL.callM false [] (w_I_ValidValue N p_c.default r2 h_3) rfl Tryd.call17 rfl ⟨.aggL ⟨.t _, .t _, .t _, trivial⟩, trivial⟩ rfl trivial (fun h => by cases h) ?_; refine PL.op rfl (Rd.moveT rfl) ?_; refine PL.guard_on rfl h_4 ?_; refine PL.op rfl (Rd.fieldO rfl rfl) ?_; refine PL.guard_on rfl h_4 ?_; refine PL.op rfl (Rd.fieldO rfl rfl) ?_; refine PL.guard_on rfl h_4 ?_; refine PL.op rfl (Rd.loadO rfl rfl rfl) ?_; refine PL.guard_on rfl h_4 ?_; refine PL.op rfl (Rd.fieldO rfl rfl) ?_; refine PL.guard_on rfl h_4 ?_; refine PL.op rfl (Rd.loadO rfl rfl rfl) ?_; refine PL.guard_on rfl h_4 ?_; refine PL.op rfl (Rd.eql rfl rfl) ?_; refine PL.guard_on rfl h_4 ?_; refine PL.op rfl (Rd.moveT rfl) ?_; (iterate 4 refine PL.guard_off rfl rfl h_5 ?_); refine PL.guard_on rfl h_4 ?_; refine PL.op rfl (Rd.pick_t rfl h_5) ?_; refine PL.op rfl (Rd.pick_t rfl h_4) ?_; refine PL.op rfl (Rd.asnT rfl) ?_; refine PL.nil ?_; refine thA_n ?_; refine PC.ret ?_; obtain rfl := some_in hh0; exact FinA.mk (r := bA true) (bl := []) [] (.inl rfl) rfl (rl := [.tmp 2]) (.tmp .nil) rfl rfl rfl (.t _) trivial ⟨rfl, rfl⟩
    refine PC.region ?_; refine PL.op rfl (Rd.fieldO rfl rfl) ?_; refine PL.op rfl (Rd.loadSub rfl rfl rfl rfl) ?_; refine PL.callM false [] (w_I_ValidValue N p_c.default r2 h_3) rfl Tryd.call17 rfl ⟨.aggL ⟨.t _, .t _, .t _, trivial⟩, trivial⟩ rfl trivial (fun h => by cases h) ?_; refine PL.op rfl (Rd.moveT rfl) ?_; refine PL.guard_on rfl h_4 ?_; refine PL.op rfl (Rd.fieldO rfl rfl) ?_; refine PL.guard_on rfl h_4 ?_; refine PL.op rfl (Rd.fieldO rfl rfl) ?_; refine PL.guard_on rfl h_4 ?_; refine PL.op rfl (Rd.loadO rfl rfl rfl) ?_; refine PL.guard_on rfl h_4 ?_; refine PL.op rfl (Rd.fieldO rfl rfl) ?_; refine PL.guard_on rfl h_4 ?_; refine PL.op rfl (Rd.loadO rfl rfl rfl) ?_; refine PL.guard_on rfl h_4 ?_; refine PL.op rfl (Rd.eql rfl rfl) ?_; refine PL.guard_on rfl h_4 ?_; refine PL.op rfl (Rd.moveT rfl) ?_; refine PL.guard_on rfl h_5 ?_; refine PL.op rfl (Rd.fieldO rfl rfl) ?_; refine PL.guard_on rfl h_5 ?_; refine PL.op rfl (Rd.fieldO rfl rfl) ?_; refine PL.guard_on rfl h_5 ?_; refine PL.op rfl (Rd.loadO rfl rfl rfl) ?_; refine PL.guard_on rfl h_5 ?_; refine PL.op rfl (Rd.eql rfl rfl) ?_; refine PL.guard_on rfl h_4 ?_; refine PL.op rfl (Rd.pick_f rfl h_5) ?_; refine PL.op rfl (Rd.pick_t rfl h_4) ?_; refine PL.op rfl (Rd.asnT rfl) ?_; refine PL.nil ?_; refine thA_n ?_; refine PC.ret ?_; obtain rfl := some_in hh0; exact FinA.mk (r := bA (decide (p_c.default.kind = (0 : Int)))) (bl := []) [] (.inl rfl) rfl (rl := [.tmp 2]) (.tmp .nil) rfl rfl rfl (.t _) trivial ⟨rfl, rfl⟩
  refine PC.region ?_; refine PL.op rfl (Rd.fieldO rfl rfl) ?_; refine PL.op rfl (Rd.loadO rfl rfl rfl) ?_; refine PL.op rfl (Rd.neq rfl rfl) ?_; refine PL.op rfl (Rd.moveT rfl) ?_; refine PL.guard_on rfl (not_f h_1) ?_; refine PL.op rfl (Rd.fieldO rfl rfl) ?_; refine PL.guard_on rfl (not_f h_1) ?_; refine PL.op rfl (Rd.loadO rfl rfl rfl) ?_; refine PL.guard_on rfl (not_f h_1) ?_; refine PL.op rfl (Rd.neq rfl rfl) ?_; refine PL.op rfl (Rd.pick_t rfl (not_f h_1)) ?_; refine PL.nil ?_; refine thA_n ?_; rcases cond_some hh0 with ⟨h_6, hh0⟩ | ⟨h_6, hh0⟩; rotate_left
  · refine PC.cond_true rfl (not_f h_6) ?_; refine PC.seq ?_; refine PC.region ?_; refine PL.op rfl (Rd.asnT rfl) ?_; refine PL.nil ?_; refine thA_n ?_; refine PC.ret ?_; refine thA_r ?_; obtain rfl := some_in hh0; exact FinA.mk (r := bA false) (bl := []) [] (.inl rfl) rfl (rl := [.tmp 2]) (.tmp .nil) rfl rfl rfl (.t _) trivial ⟨rfl, rfl⟩
  refine PC.cond_false rfl (not_t h_6) ?_; refine PC.skip ?_; refine thA_n ?_; refine PC.seq ?_; obtain ⟨r7, h_8, hh0⟩ := bind_some hh0; rcases cond_some hh0 with ⟨h_9, hh0⟩ | ⟨h_9, hh0⟩; rotate_left
  · refine PC.region ?_; refine PL.op rfl (Rd.fieldO rfl rfl) ?_; refine PL.op rfl (Rd.loadSub rfl rfl rfl rfl) ?_; refine PL.callM false [] (w_I_ValidValue N p_c.default r7 h_8) rfl Tryd.call17 rfl ⟨.aggL ⟨.t _, .t _, .t _, trivial⟩, trivial⟩ rfl trivial (fun h => by cases h) ?_; refine PL.op rfl (Rd.moveT rfl) ?_; (iterate 7 refine PL.guard_off rfl rfl h_9 ?_); (iterate 4 refine PL.guard_un rfl rfl ?_); refine PL.guard_off rfl rfl h_9 ?_; refine PL.op rfl (Rd.pick_f rfl h_9) ?_; refine PL.op rfl (Rd.asnT rfl) ?_; refine PL.nil ?_; refine thA_n ?_; refine PC.ret ?_; obtain rfl := some_in hh0; exact FinA.mk (r := bA false) (bl := []) [] (.inl rfl) rfl (rl := [.tmp 2]) (.tmp .nil) rfl rfl rfl (.t _) trivial ⟨rfl, rfl⟩
  rcases cond_some hh0 with ⟨h_10, hh0⟩ | ⟨h_10, hh0⟩
  · refine PC.region ?_; refine PL.op rfl (Rd.fieldO rfl rfl) ?_; refine PL.op rfl (Rd.loadSub rfl rfl rfl rfl) ?_; refine PL.callM false [] (w_I_ValidValue N p_c.default r7 h_8) rfl Tryd.call17 rfl ⟨.aggL ⟨.t _, .t _, .t _, trivial⟩, trivial⟩ rfl trivial (fun h => by cases h) ?_; refine PL.op rfl (Rd.moveT rfl) ?_; refine PL.guard_on rfl h_9 ?_; refine PL.op rfl (Rd.fieldO rfl rfl) ?_; refine PL.guard_on rfl h_9 ?_; refine PL.op rfl (Rd.fieldO rfl rfl) ?_; refine PL.guard_on rfl h_9 ?_; refine PL.op rfl (Rd.loadO rfl rfl rfl) ?_; refine PL.guard_on rfl h_9 ?_; refine PL.op rfl (Rd.fieldO rfl rfl) ?_; refine PL.guard_on rfl h_9 ?_; refine PL.op rfl (Rd.loadO rfl rfl rfl) ?_; refine PL.guard_on rfl h_9 ?_; refine PL.op rfl (Rd.eql rfl rfl) ?_; refine PL.guard_on rfl h_9 ?_; refine PL.op rfl (Rd.moveT rfl) ?_; (iterate 4 refine PL.guard_off rfl rfl h_10 ?_); refine PL.guard_on rfl h_9 ?_; refine PL.op rfl (Rd.pick_t rfl h_10) ?_; refine PL.op rfl (Rd.pick_t rfl h_9) ?_; refine PL.op rfl (Rd.asnT rfl) ?_; refine PL.nil ?_; refine thA_n ?_; refine PC.ret ?_; obtain rfl := some_in hh0; exact FinA.mk (r := bA true) (bl := []) [] (.inl rfl) rfl (rl := [.tmp 2]) (.tmp .nil) rfl rfl rfl (.t _) trivial ⟨rfl, rfl⟩
  refine PC.region ?_; refine PL.op rfl (Rd.fieldO rfl rfl) ?_; refine PL.op rfl (Rd.loadSub rfl rfl rfl rfl) ?_; refine PL.callM false [] (w_I_ValidValue N p_c.default r7 h_8) rfl Tryd.call17 rfl ⟨.aggL ⟨.t _, .t _, .t _, trivial⟩, trivial⟩ rfl trivial (fun h => by cases h) ?_; refine PL.op rfl (Rd.moveT rfl) ?_; refine PL.guard_on rfl h_9 ?_; refine PL.op rfl (Rd.fieldO rfl rfl) ?_; refine PL.guard_on rfl h_9 ?_; refine PL.op rfl (Rd.fieldO rfl rfl) ?_; refine PL.guard_on rfl h_9 ?_; refine PL.op rfl (Rd.loadO rfl rfl rfl) ?_; refine PL.guard_on rfl h_9 ?_; refine PL.op rfl (Rd.fieldO rfl rfl) ?_; refine PL.guard_on rfl h_9 ?_; refine PL.op rfl (Rd.loadO rfl rfl rfl) ?_; refine PL.guard_on rfl h_9 ?_; refine PL.op rfl (Rd.eql rfl rfl) ?_; refine PL.guard_on rfl h_9 ?_; refine PL.op rfl (Rd.moveT rfl) ?_; refine PL.guard_on rfl h_10 ?_; refine PL.op rfl (Rd.fieldO rfl rfl) ?_; refine PL.guard_on rfl h_10 ?_; refine PL.op rfl (Rd.fieldO rfl rfl) ?_; refine PL.guard_on rfl h_10 ?_; refine PL.op rfl (Rd.loadO rfl rfl rfl) ?_; refine PL.guard_on rfl h_10 ?_; refine PL.op rfl (Rd.eql rfl rfl) ?_; refine PL.guard_on rfl h_9 ?_; refine PL.op rfl (Rd.pick_f rfl h_10) ?_; refine PL.op rfl (Rd.pick_t rfl h_9) ?_; refine PL.op rfl (Rd.asnT rfl) ?_; refine PL.nil ?_; refine thA_n ?_; refine PC.ret ?_; obtain rfl := some_in hh0; exact FinA.mk (r := bA (decide (p_c.default.kind = (0 : Int)))) (bl := []) [] (.inl rfl) rfl (rl := [.tmp 2]) (.tmp .nil) rfl rfl rfl (.t _) trivial ⟨rfl, rfl⟩
def m_I_ValidFormat_k1 (N : Nat) : Option (Bool) :=
  some true
def m_I_ValidFormat_b1 (N : Nat) (p_f : (List I_Column)) (i3 : Int) : Option (Int ⊕ (Unit ⊕ Bool)) :=
  cond (decide (i3 < (p_f.length : Int)))
    ((ixI p_f i3).bind fun x18 =>
    (m_I_Column_valid N x18).bind fun r20 =>
    cond r20
      ((chk (i3 + (1 : Int))).bind fun n23 =>
      some (.inl n23))
      (some (.inr (.inr false))))
    (some (.inr (.inl ())))
def m_I_ValidFormat (N : Nat) (p_f : (List I_Column)) : Option (Bool) :=
  cond (decide ((p_f.length : Int) < (1 : Int)))
    (some false)
    (cond (decide ((5 : Int) < (p_f.length : Int)))
      (some false)
      ((loopM (β := Unit ⊕ Bool) (fun s : Int => m_I_ValidFormat_b1 N p_f s) N (0 : Int)).bind fun o => match o with
      | .inl e =>
        m_I_ValidFormat_k1 N 
      | .inr v =>
        some v))
theorem w_I_ValidFormat (N : Nat) (p_f : (List I_Column)) (r : Bool) (hh0 : m_I_ValidFormat N p_f = some r) : FnX Tryd.prog 63 [] [sL p_f] (RE (bA r) []) := by
  unfold m_I_ValidFormat at hh0; refine FnX.mk Tryd.func63 rfl rfl ?_; intro s hs; refine PC.seq ?_; refine PC.region ?_; refine PL.op rfl (Rd.asnT rfl) ?_; refine PL.nil ?_; refine thA_n ?_; (iterate 2 refine PC.seq ?_); rcases cond_some hh0 with ⟨h_1, hh0⟩ | ⟨h_1, hh0⟩
  · refine PC.region ?_; refine PL.op rfl (Rd.moveT rfl) ?_; refine PL.op rfl (Rd.lenT rfl) ?_; refine PL.op rfl (Rd.lss rfl rfl) ?_; refine PL.op rfl (Rd.moveT rfl) ?_; (iterate 3 refine PL.guard_off rfl rfl h_1 ?_); refine PL.op rfl (Rd.pick_t rfl h_1) ?_; refine PL.nil ?_; refine thA_n ?_; refine PC.cond_true rfl rfl ?_; refine PC.seq ?_; refine PC.region ?_; refine PL.op rfl (Rd.asnT rfl) ?_; refine PL.nil ?_; refine thA_n ?_; refine PC.ret ?_; refine thA_r ?_; obtain rfl := some_in hh0; exact FinA.mk (r := bA false) (bl := []) [] (.inl rfl) rfl (rl := [.tmp 2]) (.tmp .nil) rfl rfl rfl (.t _) trivial ⟨rfl, rfl⟩
  refine PC.region ?_; refine PL.op rfl (Rd.moveT rfl) ?_; refine PL.op rfl (Rd.lenT rfl) ?_; refine PL.op rfl (Rd.lss rfl rfl) ?_; refine PL.op rfl (Rd.moveT rfl) ?_; refine PL.guard_on rfl h_1 ?_; refine PL.op rfl (Rd.moveT rfl) ?_; refine PL.guard_on rfl h_1 ?_; refine PL.op rfl (Rd.lenT rfl) ?_; refine PL.guard_on rfl h_1 ?_; refine PL.op rfl (Rd.gtr rfl rfl) ?_; refine PL.op rfl (Rd.pick_f rfl h_1) ?_; refine PL.nil ?_; refine thA_n ?_; rcases cond_some hh0 with ⟨h_2, hh0⟩ | ⟨h_2, hh0⟩
  · refine PC.cond_true rfl h_2 ?_; refine PC.seq ?_; refine PC.region ?_; refine PL.op rfl (Rd.asnT rfl) ?_; refine PL.nil ?_; refine thA_n ?_; refine PC.ret ?_; refine thA_r ?_; obtain rfl := some_in hh0; exact FinA.mk (r := bA false) (bl := []) [] (.inl rfl) rfl (rl := [.tmp 2]) (.tmp .nil) rfl rfl rfl (.t _) trivial ⟨rfl, rfl⟩
  refine PC.cond_false rfl h_2 ?_; refine PC.skip ?_; refine thA_n ?_; (iterate 2 refine PC.seq ?_); refine PC.region ?_; refine PL.op rfl (Rd.moveT rfl) ?_; refine PL.op rfl (Rd.lenT rfl) ?_; refine PL.op rfl (Rd.moveT rfl) ?_; refine PL.nil ?_; refine thA_n ?_; obtain ⟨o12, h_13, hh0⟩ := bind_some hh0; refine PC.cutE hs (fun x : Unit => []) (fun x => []) (fun x => m_I_ValidFormat_k1 N  = some r) ?_ ?_
  · refine PC.block ?_; refine PC.loop hs (fun x : Nat × (Int) => [(13, sL p_f), (14, iA (p_f.length : Int)), (15, iA x.2)]) (fun x => []) (fun x => loopM (β := Unit ⊕ Bool) (fun s : Int => m_I_ValidFormat_b1 N p_f s) x.1 x.2 = some o12) (fun x => x.1) (N, (0 : Int)) [] ⟨rfl, rfl, trivial, ⟨.t _, .t _, .t _, trivial⟩⟩ h_13 ?_
    rintro ⟨f14_, i3⟩ h_16
    obtain ⟨f14, y15, rfl, hh1, kk1⟩ := loopM_some h_16
    replace hh1 : m_I_ValidFormat_b1 N p_f i3 = some y15 := hh1
    unfold m_I_ValidFormat_b1 at hh1; refine PC.seq ?_; refine PC.region ?_; refine PL.op rfl (Rd.lss rfl rfl) ?_; refine PL.nil ?_; refine thA_n ?_; refine PC.seq ?_; rcases cond_some hh1 with ⟨h_17, hh1⟩ | ⟨h_17, hh1⟩; rotate_left
    · refine PC.cond_false rfl h_17 ?_; refine PC.exit ?_; (iterate 2 refine thA_e ?_); refine inA_eq rfl ?_; refine thA_n ?_; obtain rfl := some_in hh1; obtain rfl : (.inl () : Unit ⊕ Bool) = o12 := kk1; exact ⟨(), hh0, [], ⟨rfl, rfl, trivial, trivial⟩⟩
    refine PC.cond_true rfl h_17 ?_; refine PC.skip ?_; refine thA_n ?_; refine PC.seq ?_; refine PC.block ?_; refine PC.seq ?_; obtain ⟨x18, h_19, hh1⟩ := bind_some hh1; refine PC.region ?_; refine PL.op rfl (Rd.ixM rfl rfl h_19) ?_; refine PL.op rfl (Rd.elMR rfl h_19 rfl rfl) ?_; refine PL.ef rfl (Ef.alloc rfl rfl) ?_; refine PL.nm (.op 0 0) [some ⟨.mx [iA (0 : Int), iA (0 : Int), iA (0 : Int), sA ByteArray.empty], 82, 0⟩] rfl rfl ?_; refine PL.store rfl rfl rfl rfl rfl rfl rfl ?_; refine PL.nO [some ⟨.mx [iA x18.kind, iA x18.default.kind, iA x18.default.num, sA x18.default.text], 82, 0⟩] rfl ?_; refine PL.nil ?_; refine thA_n ?_; refine PC.seq ?_; obtain ⟨r20, h_21, hh1⟩ := bind_some hh1; refine PC.region ?_; refine PL.op rfl (Rd.loadBox rfl rfl rfl) ?_; refine PL.callM false [] (w_I_Column_valid N x18 r20 h_21) rfl Tryd.call71 rfl ⟨.aggL ⟨.t _, .t _, .t _, .t _, trivial⟩, trivial⟩ rfl trivial (fun h => by cases h) ?_; refine PL.op rfl (Rd.unnot rfl) ?_; refine PL.nil ?_; refine thA_n ?_; rcases cond_some hh1 with ⟨h_22, hh1⟩ | ⟨h_22, hh1⟩
    · refine PC.cond_false rfl (not_t h_22) ?_; refine PC.skip ?_; refine inA_n ?_; refine thA_n ?_; obtain ⟨n23, h_24, hh1⟩ := bind_some hh1; refine PC.region ?_; refine PL.op rfl (Rd.addM rfl rfl h_24) ?_; refine PL.op rfl (Rd.moveT rfl) ?_; refine PL.nil ?_; obtain rfl := some_in hh1; refine thA_n ?_; exact ⟨(f14, n23), Nat.lt_succ_self _, kk1, [], ⟨rfl, rfl, trivial, ⟨.t _, .t _, .t _, trivial⟩⟩⟩
    refine PC.cond_true rfl (not_f h_22) ?_; refine PC.seq ?_; refine PC.region ?_; refine PL.op rfl (Rd.asnT rfl) ?_; refine PL.nil ?_; refine thA_n ?_; refine PC.ret ?_; refine inA_r ?_; (iterate 2 refine thA_r ?_); refine inA_r ?_; refine thA_r ?_; obtain rfl := some_in hh1; obtain rfl : (.inr false : Unit ⊕ Bool) = o12 := kk1; refine thA_r ?_; obtain rfl := some_in hh0; exact FinA.mk (r := bA false) (bl := []) [] (.inl rfl) rfl (rl := [.tmp 2]) (.tmp .nil) rfl rfl rfl (.t _) trivial ⟨rfl, rfl⟩
  clear hh0
  rintro ⟨⟩ hh0
  replace hh0 : m_I_ValidFormat_k1 N  = some r := hh0
  unfold m_I_ValidFormat_k1 at hh0; refine thA_n ?_; refine PC.seq ?_; refine PC.region ?_; refine PL.op rfl (Rd.asnT rfl) ?_; refine PL.nil ?_; refine thA_n ?_; refine PC.ret ?_; obtain rfl := some_in hh0; exact FinA.mk (r := bA true) (bl := []) [] (.inl rfl) rfl (rl := [.tmp 2]) (.tmp .nil) rfl rfl rfl (.t _) trivial ⟨rfl, rfl⟩
end V
end Go.Proofs.YtkjnnifnmoekjaaDoor
namespace Go.Proofs.YtkjnnifnmoekjaaDoor
namespace V
set_option linter.unusedVariables false
set_option linter.unusedSimpArgs false
open Go.RowKit
class CInU (P : Program) (T : TypeId) : Prop where u : P.underlying T = some (.int .i64)
instance : CInU Tryd.prog 3 := ⟨by kernel_rfl⟩
def insM {α : Type} (w : Nat) (xs : List α) (i : Int) (a : α) : Option (List α) := if 0 ≤ i ∧ i ≤ (xs.length : Int) ∧ (xs.length + 1) * w ≤ 140737488355328 ∧ xs.length + 1 ≤ 4611686018427387904 then some (xs.take i.toNat ++ a :: xs.drop i.toNat) else none
def delM {α : Type} (xs : List α) (i j : Int) : Option (List α) := if 0 ≤ i ∧ i ≤ j ∧ j ≤ (xs.length : Int) ∧ 0 < xs.length then some (xs.take i.toNat ++ xs.drop j.toNat) else none
section
variable {P : Program} {n : Nat} {Q : Post} {σ : Nat → Value} {w : World} {ops : Array Oper} {rest : List Oper} {d : Nat} {ty : TypeId} {pos : String} {after : Array Edge}
theorem R.capSl {t e : TypeId} {x : Operand} {a : Option Addr} {l c : Nat} [T : CSl P t e] (hx : ev σ x = .slice a l c) : Yl P σ (.call { callee := .builtin .cap, args := #[x], argTypes := #[t] }) ty w (.int .i64 (c : Int)) w := Yl.mk fun d pos after g => by
  simp [execOp, resolve, invoke, builtin, hx, Builtin.cap_, T.run, goInt]
theorem R.apd {x y : Operand} {tx ty' : TypeId} {vx vy v : Value} {w' : World} (hx : ev σ x = vx) (hy : ev σ y = vy) (hr : (Builtin.append_ #[tx, ty'] ty #[vx, vy]).run P w = .ok v w') : Yl P σ (.call { callee := .builtin .append, args := #[x, y], argTypes := #[tx, ty'] }) ty w v w' := Yl.mk fun d pos after g => by
  simp [execOp, resolve, invoke, builtin, hx, hy, hr]
theorem R.cpy {x y : Operand} {tx ty' : TypeId} {vx vy v : Value} {w' : World} (hx : ev σ x = vx) (hy : ev σ y = vy) (hr : (Builtin.copy_ #[tx, ty'] ty #[vx, vy]).run P w = .ok v w') : Yl P σ (.call { callee := .builtin .copy, args := #[x, y], argTypes := #[tx, ty'] }) ty w v w' := Yl.mk fun d pos after g => by
  simp [execOp, resolve, invoke, builtin, hx, hy, hr]
theorem run_clr {x : Operand} {tx : TypeId} {vx v : Value} {w' : World} (hx : ev σ x = vx) (hr : (Builtin.clear_ #[tx] ty #[vx]).run P w = .ok v w') : (execOp (ev σ) ⟨none, .call { callee := .builtin .clear, args := #[x], argTypes := #[tx] }, ty, pos, after, none⟩).run P w = .ok (.value v) w' := by
  simp [execOp, resolve, invoke, builtin, hx, hr]
theorem R.ext {f : FuncId} {xs : List Operand} {ats : Array TypeId} {args : List Value} {v : Value} (ha : xs.map (ev σ) = args) (hr : (callFunc f args.toArray).run P w = .ok (.value v) w) : Yl P σ (.call { callee := .value (.func f), args := xs.toArray, argTypes := ats }) ty w v w := Yl.mk fun d pos after g => by
  subst ha
  simp only [execOp, resolve, ev, Deferred.ofValue, Sem.run_bind, Sem.run_pure, Result.andThen_ok, invoke]
  simpa using hr
/-- A row with a part written over. -/
def putR (cur : Array Value) (o : Nat) (cs : List Value) : Array Value := (cur.toList.take o ++ cs ++ cur.toList.drop (o + cs.length)).toArray
theorem run_copy_row (w : World) (dT sT ty e : TypeId) (i : TypeInfo) (hu : P.underlying dT = some (.slice e)) (hi : P.info? e = some i) (B o dLen dCap : Nat) (a : Addr) (sLen sCap m : Nat) (hm : Nat.min sLen dLen = m) (cs : List Value) (hn : cs.length = m * i.size)
    (cur : Array Value) (hcur : w.heap[B]? = some (.cells cur e (0, 0))) (hle : o + cs.length ≤ cur.size) (hsrc : ∀ j v, cs[j]? = some v → w.cell? (a.add j) = some v) (h1 : ∀ v ∈ cs, v.oneCell' = true) :
    (Builtin.copy_ #[dT, sT] ty #[.slice (some ⟨B, o, none⟩) dLen dCap, .slice (some a) sLen sCap]).run P w = .ok (goInt m) (w.setRow B (putR cur o cs)) := by
  have hl := run_loadCells_list (P := P) w a cs hsrc
  rw [hn] at hl
  have hst := run_storeCells_at P B o e cs 0 cur w hcur (by simpa using hle) h1
  simp only [Nat.add_zero] at hst
  simp [Builtin.copy_, run_underlying hu, Builtin.lenOf, Builtin.firstCells, sizeOf, typeInfo, hi, hm, hl, hst, putR]
theorem run_clear_row (w : World) (t e ty : TypeId) (z : Value) (ht : P.underlying t = some (.slice e)) (hv : ∀ w, (zeroValue e).run P w = .ok z w) (B o m c : Nat) (hm : 0 < m) (zs : List Value) (hzs : (Builtin.zeroCells z.cells m).toList = zs)
    (cur : Array Value) (hcur : w.heap[B]? = some (.cells cur e (0, 0))) (hle : o + zs.length ≤ cur.size) (hz1 : ∀ v ∈ zs, v.oneCell' = true) :
    (Builtin.clear_ #[t] ty #[.slice (some ⟨B, o, none⟩) m c]).run P w = .ok (.tuple #[]) (w.setRow B (putR cur o zs)) := by
  have hst := run_storeCells_at P B o e zs 0 cur w hcur (by simpa using hle) hz1
  simp only [Nat.add_zero] at hst
  obtain ⟨m, rfl⟩ : ∃ q, m = q + 1 := ⟨m - 1, by omega⟩
  simp [Builtin.clear_, run_underlying ht, hv, hzs, hst, putR]
theorem zeros_one {z : Value} (h0 : 0 < z.cells.size) (hzc : ∀ v ∈ z.cells.toList, v.oneCell' = true) (m : Nat) : ∀ v ∈ (Builtin.zeroCells z.cells m).toList, v.oneCell' = true := by
  intro v hv'
  obtain ⟨q, hq⟩ := mem_get hv'
  simp only [Builtin.zeroCells, Array.toList_map, List.getElem?_map, Option.map_eq_some_iff] at hq
  obtain ⟨a, ha, rfl⟩ := hq
  have : a % z.cells.size < z.cells.size := Nat.mod_lt _ h0
  rw [getElem!_pos z.cells _ this]
  exact hzc _ (by simp)
/-- One that hands back a value that nobody takes. -/
theorem LW.opN {op : Op} {v : Value} {w' : World} (hr : (execOp (ev σ) ⟨none, op, ty, pos, after, none⟩).run P w = .ok (.value v) w') (k : LW P n ops rest Q σ w') :
    LW P n ops (⟨none, op, ty, pos, after, none⟩ :: rest) Q σ w := by
  constructor
  intro a ha
  refine wpList_plain rfl fun K hK => ?_
  unfold Oper.wp
  rw [ha.eval, hr]
  exact hK _ _ (k.h _ ha)
theorem R.slice3 {t e : TypeId} {k : Nat} {x lo hi mx : Operand} {a : Option Addr} {len cap l h m : Nat} [T : CSl P t e] [Z : CS P e k] (hx : ev σ x = .slice a len cap) (hl : ev σ lo = .int .i64 (l : Int)) (hh : ev σ hi = .int .i64 (h : Int)) (hm : ev σ mx = .int .i64 (m : Int)) (h1 : l ≤ h) (h2 : h ≤ m) (h3 : m ≤ cap) :
    Yl P σ (.slice t x (some lo) (some hi) (some mx)) ty w (.slice (if m = l then a else a.map (·.add (l * k))) (h - l) (m - l)) w := Yl.mk fun d pos after g => by
  simp [execOp, hx, hl, hh, hm, Instr.sliceAt, T.run, Z.run, Instr.slice, Instr.sliceBounds, Instr.sliceBound, asIntOf, h1, h2, h3]
def so (cap o l k : Nat) : Nat := if cap = l then o else o + l * k
theorem so_ne {cap o l k : Nat} (h : cap ≠ l) : so cap o l k = o + l * k := if_neg h
theorem R.slL {t e : TypeId} {k : Nat} {x lo : Operand} {B o len cap l : Nat} [T : CSl P t e] [Z : CS P e k] (hx : ev σ x = .slice (some ⟨B, o, none⟩) len cap) (hl : ev σ lo = .int .i64 (l : Int)) (hlh : l ≤ len) :
    Yl P σ (.slice t x (some lo) none none) ty w (.slice (some ⟨B, so cap o l k, none⟩) (len - l) (cap - l)) w := by
  have := run_slice (P := P) (ty := ty) (w := w) (t := t) (lo := some lo) (hi := none) (l := l) (h := len) hx rfl hl hlh
  have e : (if cap = l then (some ⟨B, o, none⟩ : Option Addr) else (some ⟨B, o, none⟩ : Option Addr).map (·.add (l * k))) = some ⟨B, so cap o l k, none⟩ := by
    unfold so
    split
    · rfl
    · simp [Rd.addr_add]
  rw [e] at this; exact this
theorem R.slH {t e : TypeId} {k : Nat} {x hi : Operand} {B o len cap h : Nat} [T : CSl P t e] [Z : CS P e k] (hx : ev σ x = .slice (some ⟨B, o, none⟩) len cap) (hh : ev σ hi = .int .i64 (h : Int)) (hlh : h ≤ cap) :
    Yl P σ (.slice t x none (some hi) none) ty w (.slice (some ⟨B, o, none⟩) h cap) w := by
  have := run_slice (P := P) (ty := ty) (w := w) (t := t) (lo := none) (hi := some hi) (l := 0) (h := h) hx ⟨hh, hlh⟩ rfl (Nat.zero_le _)
  have e : (if cap = 0 then (some ⟨B, o, none⟩ : Option Addr) else (some ⟨B, o, none⟩ : Option Addr).map (·.add (0 * k))) = some ⟨B, o, none⟩ := by
    split
    · rfl
    · simp [Rd.addr_add]
  rw [e] at this; exact this
theorem R.slLH {t e : TypeId} {k : Nat} {x lo hi : Operand} {B o len cap l h : Nat} [T : CSl P t e] [Z : CS P e k] (hx : ev σ x = .slice (some ⟨B, o, none⟩) len cap) (hl : ev σ lo = .int .i64 (l : Int)) (hh : ev σ hi = .int .i64 (h : Int)) (hlh : l ≤ h) (hc : h ≤ cap) :
    Yl P σ (.slice t x (some lo) (some hi) none) ty w (.slice (some ⟨B, so cap o l k, none⟩) (h - l) (cap - l)) w := by
  have := run_slice (P := P) (ty := ty) (w := w) (t := t) (lo := some lo) (hi := some hi) (l := l) (h := h) hx ⟨hh, hc⟩ hl hlh
  have e : (if cap = l then (some ⟨B, o, none⟩ : Option Addr) else (some ⟨B, o, none⟩ : Option Addr).map (·.add (l * k))) = some ⟨B, so cap o l k, none⟩ := by
    unfold so
    split
    · rfl
    · simp [Rd.addr_add]
  rw [e] at this; exact this
theorem putR_size {cur : Array Value} {o : Nat} {cs : List Value} (h : o + cs.length ≤ cur.size) : (putR cur o cs).size = cur.size := by
  simp [putR]; omega
theorem putR_get {cur : Array Value} {o : Nat} {cs : List Value} (h : o + cs.length ≤ cur.size) (q : Nat) : (putR cur o cs)[q]? = if q < o then cur[q]? else if q < o + cs.length then cs[q - o]? else cur[q]? := by
  simp only [putR, List.getElem?_toArray, List.getElem?_append, List.getElem?_take, List.getElem?_drop, List.length_append, List.length_take, Array.length_toList, Array.getElem?_toList]
  have h3 : min o cur.size = o := by omega
  rw [h3]
  by_cases c1 : q < o
  · rw [if_pos (by omega), if_pos c1, if_pos c1, if_pos c1]
  · by_cases c2 : q < o + cs.length
    · rw [if_pos c2, if_neg c1, if_neg c1, if_pos c2]
    · rw [if_neg c2, if_neg c1, if_neg c2]; congr 1; omega
theorem shape_of_row {w : World} {g : Nat} {cs : Array Value} {t : TypeId} {fr : Nat × Nat} (h : w.heap[g]? = some (.cells cs t fr)) : w.shape? g = some (t, cs.size) := by simp [World.shape?, h]
theorem frozen_of_row {w : World} {g o : Nat} {cs : Array Value} {t : TypeId} (h : w.heap[g]? = some (.cells cs t (0, 0))) : w.frozen? ⟨g, o, none⟩ = false := by simp [World.frozen?, h]
/-- Steps that read nothing. -/
structure SW (P : Program) (n : Nat) (ops : Array Oper) (l : List Oper) (K : (Nat → Value) → Prop) (σ : Nat → Value) : Prop where
  h : ∀ w a, Rp n a σ → gList P ops (fun _ a' w' => w' = w ∧ ∃ σ', Rp n a' σ' ∧ K σ') l [] a w
theorem SW.nil {K : (Nat → Value) → Prop} (h : K σ) : SW P n ops [] K σ := ⟨fun w a ha => ⟨rfl, σ, ha, h⟩⟩
theorem SW.op {K : (Nat → Value) → Prop} {op : Op} {v : Value} (hd : Nat.blt d n = true) (hr : ∀ w, Yl P σ op ty w v w) (k : SW P n ops rest K (upd σ d v)) : SW P n ops (⟨some d, op, ty, pos, after, none⟩ :: rest) K σ := by
  refine ⟨fun w a ha => .inl ⟨v, .inl ⟨rfl, fun w' _ => ?_⟩, k.h w _ (ha.put d v hd)⟩⟩
  rw [ha.eval, (hr w').run]
  exact ⟨rfl, rfl⟩
/-- A region that draws the order of its first q operations, which read nothing. -/
theorem CW.anyR (q : Nat) (ord : List Nat) {id : Nat} {l : List Oper} (hm : P.follows .mixedOrders = true) (hB : anyB l.toArray q (.seg ord .done) = true)
    (h : SW P n l.toArray (sel l ord) (fun σ' => LW P n l.toArray (l.drop q) Q σ' { w with drawn := w.drawn + 1 }) σ) : CW P n (.region id l.toArray true) Q σ w := by
  refine ⟨fun a ha => region_ord (X := []) q (.seg ord .done) hm hB ?_⟩
  refine gList_mono (fun X a w' hq => ?_) _ _ _ _ (h.h _ a ha)
  obtain ⟨rfl, σ', ha', hk⟩ := hq
  exact hk.h a ha'
end
end V
end Go.Proofs.YtkjnnifnmoekjaaDoor
