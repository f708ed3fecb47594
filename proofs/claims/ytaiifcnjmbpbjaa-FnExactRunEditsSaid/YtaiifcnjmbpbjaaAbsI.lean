/- Regions that draw their order: what only reads is taken first; a call is taken where nothing else can come up. No condition. -/
import Derived.Test.YtaiifcnjmbpbjaaAbsH
namespace Go.Proofs.Ytaiifcnjmbpbjaa
namespace V
set_option linter.unusedVariables false
set_option linter.unusedSimpArgs false
open Go.RowKit

section
variable {P : Program} {ops : Array Oper} {md : Region.Mode} {X : List Nat} {n : Nat}
/-- An operation yields v now and in all later worlds. -/
def Stb (P : Program) (ops : Array Oper) (X : List Nat) (o : Oper) (a : Act) (w : World) (v : Value) : Prop :=
  (Region.wanted o (yielded ops a.tmps) = true ∧ ∀ w', BelowX X w w' → nv w' v ((execOp a.eval o).run P w')) ∨ (Region.wanted o (yielded ops a.tmps) = false ∧ v = undef)
def XX (X : List Nat) (w : World) (X' : List Nat) : Prop := ∀ k, k ∈ X' → k ∈ X ∨ w.heap.size ≤ k
theorem XX.refl {w : World} : XX X w X := fun _ h => .inl h
theorem XX.trans {X' : List Nat} {w w' w2 : World} (h : XX X w X') (hb : BelowX X w w') (k : BelowX X' w' w2) : BelowX X w w2 :=
  ⟨k.os.trans hb.os, k.tape.trans hb.tape, k.output.trans hb.output, Nat.le_trans hb.size k.size, fun i hi hx => (k.block i (Nat.lt_of_lt_of_le hi hb.size) (fun hm => (h i hm).elim hx (fun hge => by omega))).trans (hb.block i hi hx)⟩
/-- It turns memory, but for 'X' only by what is new. What is new may join 'X'. -/
def Trn (P : Program) (ops : Array Oper) (X : List Nat) (o : Oper) (a : Act) (w : World) (K : List Nat → Act → World → Prop) : Prop :=
  Region.wanted o (yielded ops a.tmps) = true ∧ ((∃ f args, (execOp a.eval o).run P w = .ok (.enter f args) w ∧ Calls P f args w fun e w' => ∃ v X', e = .returned v ∧ BelowX X w w' ∧ XX X w X' ∧ K X' (a.put o.dst v) w') ∨
    ∃ v w' X', ((execOp a.eval o).run P w = .ok (.value v) w' ∨ (execOp a.eval o).run P w = .ok .skip w' ∧ o.dst = none) ∧ BelowX X w w' ∧ XX X w X' ∧ K X' (a.put o.dst v) w')
def gOp (P : Program) (ops : Array Oper) (X : List Nat) (i : Nat) (K : List Nat → Act → World → Prop) (a : Act) (w : World) : Prop :=
  match ops[i]? with
  | none => K X a w
  | some o => (∃ v, Stb P ops [] o a w v ∧ K X (a.put o.dst v) w) ∨ Trn P ops X o a w K
def anyG (P : Program) (md : Region.Mode) (ops : Array Oper) (n : Nat) (L : Array Bool → Act → World → Prop) : Nat → Array Bool → List Nat → Act → World → Prop
  | 0, listed, _, a, w => L listed a w
  | f + 1, listed, X, a, w => Region.ready md ops listed ≠ [] ∧ ∀ i ∈ Region.ready md ops listed, i < n ∧ gOp P ops X i (anyG P md ops n L f (listed.setIfInBounds i true)) a w
theorem Stb.nilX {o : Oper} {a : Act} {w : World} {v : Value} (h : Stb P ops X o a w v) : Stb P ops [] o a w v := by
  rcases h with ⟨h1, h2⟩ | h
  · exact .inl ⟨h1, fun w' hw => h2 w' ⟨hw.os, hw.tape, hw.output, hw.size, fun k hk hx => hw.block k hk (by simp)⟩⟩
  · exact .inr h
theorem Stb.later {X' : List Nat} {o : Oper} {a : Act} {w w' : World} {v : Value} (hw : BelowX X w w') (hx : XX X w X') (h : Stb P ops X o a w v) : Stb P ops X' o a w' v := by
  rcases h with ⟨h1, h2⟩ | h
  · exact .inl ⟨h1, fun w2 hw2 => h2 w2 (hx.trans hw hw2)⟩
  · exact .inr h
theorem Stb.same {o : Oper} {a a' : Act} {w : World} {v : Value} (h : Stb P ops X o a w v) (he : execOp a'.eval o = execOp a.eval o) (hw : Region.wanted o (yielded ops a'.tmps) = Region.wanted o (yielded ops a.tmps)) : Stb P ops X o a' w v := by
  unfold Stb at *; rw [he, hw]; exact h
theorem Trn.same {o : Oper} {a a' : Act} {w : World} {K K' : List Nat → Act → World → Prop} (h : Trn P ops X o a w K) (he : execOp a'.eval o = execOp a.eval o) (hw : Region.wanted o (yielded ops a'.tmps) = Region.wanted o (yielded ops a.tmps)) (hK : ∀ v w' X', BelowX X w w' → XX X w X' → K X' (a.put o.dst v) w' → K' X' (a'.put o.dst v) w') : Trn P ops X o a' w K' := by
  unfold Trn at *; rw [he, hw]
  refine ⟨h.1, ?_⟩
  rcases h.2 with ⟨f, args, h1, h2⟩ | ⟨v, w', X', h1, h2, h4, h3⟩
  · exact .inl ⟨f, args, h1, h2.mono fun e w' ⟨v, X', g1, g2, g4, g3⟩ => ⟨v, X', g1, g2, g4, hK v w' X' g2 g4 g3⟩⟩
  · exact .inr ⟨v, w', X', h1, h2, h4, hK v w' X' h2 h4 h3⟩
theorem wpOp_of_gOp {i : Nat} {a : Act} {w : World} {K : List Nat → Act → World → Prop} {K' : Act → World → Prop} {Q' : Exit → Act → World → Prop} (h : ∀ X a w, K X a w → K' a w) (hh : gOp P ops X i K a w) : wpOp P ops Q' i K' a w := by
  unfold gOp at hh
  unfold wpOp
  split
  · rename_i e; simp only [e] at hh; exact h _ _ _ hh
  · rename_i o e
    simp only [e] at hh
    rcases hh with ⟨v, hs, hk⟩ | ⟨hw, ht⟩
    · rcases hs with ⟨hw, h1⟩ | ⟨hw, rfl⟩
      · rw [if_pos hw]
        left
        have h2 := h1 w (BelowX.refl _ _)
        unfold Oper.wp
        generalize (execOp a.eval o).run P w = r at *
        cases r with
        | ok x w' =>
          cases x <;> simp only [nv] at h2 <;> first | exact h2.elim | simp only [Oper.upon]
          · obtain ⟨e1, e2⟩ := h2; rw [e1, e2]; exact h _ _ _ hk
          · obtain ⟨e1, e2⟩ := h2; rw [e1]; subst e2; exact h _ _ _ hk
        | halt x w' => simp only [nv] at h2
      · rw [if_neg (by simp [hw])]
        exact h _ _ _ hk
    · rw [if_pos hw]
      left
      unfold Oper.wp
      rcases ht with ⟨f, args, h1, h2⟩ | ⟨v, w', X', h1, _, _, h3⟩
      · rw [h1]
        simp only [Oper.upon]
        exact h2.mono fun e w' ⟨v, X', he, _, _, hk⟩ => by subst he; exact h _ _ _ hk
      · rcases h1 with h1 | ⟨h1, h4⟩
        · rw [h1]
          simp only [Oper.upon]
          exact h _ _ _ h3
        · rw [h1]
          simp only [Oper.upon]
          rw [h4] at h3 ⊢
          exact h _ _ _ h3
theorem wpAny_of_anyG {g : Nat} {L : Array Bool → Act → World → Prop} {Q' : Exit → Act → World → Prop} (hL : ∀ listed a w, L listed a w → wpAny P md ops Q' g listed a w) :
    ∀ (f : Nat) (listed : Array Bool) (X : List Nat) (a : Act) (w : World), anyG P md ops n L f listed X a w → wpAny P md ops Q' (f + g) listed a w
  | 0, listed, X, a, w, h => by rw [Nat.zero_add]; exact hL _ _ _ h
  | f + 1, listed, X, a, w, h => by
    rw [show f + 1 + g = (f + g) + 1 by omega]
    exact ⟨fun h0 => absurd h0 h.1, fun i hi => wpOp_of_gOp (fun X' a' w' h' => wpAny_of_anyG hL f _ X' a' w' h') (h.2 i hi).2⟩
/-- What only reads may be taken first. -/
theorem anyG_first {i : Nat} {oi : Oper} {L : Array Bool → Act → World → Prop} (hi : ops[i]? = some oi) (hsel : ∀ (j : Nat) (o : Oper) cs b, ops[j]? = some o → o.op ≠ .select cs b) (hin : i < n)
    (hlate : ∀ listed, HeadInv md ops n listed → listed.getD i true = false → ∀ t, n ≤ t → t ∉ Region.ready md ops listed)
    (hdone : ∀ listed a w, L listed a w → ∀ j ∈ Region.ready md ops listed, n ≤ j) :
    ∀ (f : Nat) (listed : Array Bool) (X : List Nat) (a : Act) (w : World) (v : Value), HeadInv md ops n listed →
      (∀ j oj, ops[j]? = some oj → j ≠ i → listed.getD j true = false → (∀ e ∈ oj.after, Region.binds md e = true → e.on ≠ i) → oi.apart ops oj = true) →
      i ∈ Region.ready md ops listed → Stb P ops X oi a w v →
      anyG P md ops n L f (listed.setIfInBounds i true) X (a.put oi.dst v) w → anyG P md ops n L (f + 1) listed X a w := by
  intro f
  induction f with
  | zero =>
    intro listed X a w v inv _ hr hy H
    have hun := (mem_ready.1 hr).1
    refine ⟨fun h => (by rw [h] at hr; cases hr), fun j hj => ?_⟩
    have hjn : j < n := by
      rcases Nat.lt_or_ge j n with h | h
      · exact h
      · exact absurd hj (hlate _ inv hun j h)
    refine ⟨hjn, ?_⟩
    by_cases hji : j = i
    · subst hji
      unfold gOp; simp only [hi]
      exact .inl ⟨v, hy.nilX, H⟩
    · have := hdone _ _ _ H j (ready_mono hj hji)
      omega
  | succ f ih =>
    intro listed X a w v inv hfree hr hy H
    have hun := (mem_ready.1 hr).1
    refine ⟨fun h => (by rw [h] at hr; cases hr), fun j hj => ?_⟩
    have hjn : j < n := by
      rcases Nat.lt_or_ge j n with h | h
      · exact h
      · exact absurd hj (hlate _ inv hun j h)
    refine ⟨hjn, ?_⟩
    by_cases hji : j = i
    · subst hji
      unfold gOp; simp only [hi]
      exact .inl ⟨v, hy.nilX, H⟩
    · obtain ⟨hjun, oj, hoj, hall⟩ := mem_ready.1 hj
      have hnot : ∀ e ∈ oj.after, Region.binds md e = true → e.on ≠ i := fun e he hb heq => by
        have h1 := hall e he hb
        rw [heq, getD_both hun] at h1
        cases h1
      obtain ⟨h1, h2, h3⟩ := Oper.apart_spec (hfree j oj hoj hji hjun hnot)
      have hsi := fun cs b => hsel i oi cs b hi
      have hsj := fun cs b => hsel j oj cs b hoj
      have hfree' : ∀ k ok, ops[k]? = some ok → k ≠ i → (listed.setIfInBounds j true).getD k true = false →
          (∀ e ∈ ok.after, Region.binds md e = true → e.on ≠ i) → oi.apart ops ok = true := fun k ok hk hki hun hno => by
        refine hfree k ok hk hki ?_ hno
        by_cases hjk : j = k
        · subst hjk; exact hjun
        · rw [getD_set_ne true hjk] at hun; exact hun
      have hj2 := (H.2 j (ready_mono hj hji)).2
      unfold gOp at hj2 ⊢
      simp only [hoj] at hj2 ⊢
      have cont : ∀ u w' X', BelowX X w w' → XX X w X' → anyG P md ops n L f ((listed.setIfInBounds i true).setIfInBounds j true) X' ((a.put oi.dst v).put oj.dst u) w' → anyG P md ops n L (f + 1) (listed.setIfInBounds j true) X' (a.put oj.dst u) w' := by
        intro u w' X' hb hx hk
        refine ih (listed.setIfInBounds j true) X' (a.put oj.dst u) w' v (inv.set hj hjn) hfree' (ready_mono hr (Ne.symm hji)) ((hy.later hb hx).same (execOp_put oi hsi a oj.dst u h3) (wanted_put oi a oj.dst u h3)) ?_
        rw [Array.setIfInBounds_comm _ _ hji, ← Act.put_comm a v u h2]
        exact hk
      rcases hj2 with ⟨u, hs, hk⟩ | ht
      · exact .inl ⟨u, hs.same (execOp_put oj hsj a oi.dst v h1).symm (wanted_put oj a oi.dst v h1).symm, cont u w X (BelowX.refl _ _) XX.refl hk⟩
      · exact .inr (ht.same (execOp_put oj hsj a oi.dst v h1).symm (wanted_put oj a oi.dst v h1).symm (fun u w' X' hb hx hk => cont u w' X' hb hx hk))
/-- Structs whose reading as a whole is ordered like a step that turns memory. -/
def effLoad (t : Nat) : Bool := false
def isEff (o : Oper) : Bool := match o.op with
  | .load t _ => effLoad t
  | .call { callee := .value _, .. } => true
  | .call { callee := .builtin .append, .. } => true
  | .alloc _ | .box _ _ | .buildSlice _ _ _ | .makeSlice _ _ _ | .store _ _ _ => true
  | _ => false
def nth (l : List Oper) (i : Nat) : Option Oper := match l, i with
  | [], _ => none
  | o :: _, 0 => some o
  | _ :: l, i + 1 => nth l i
theorem nth_eq : ∀ (l : List Oper) (i : Nat), nth l i = l[i]?
  | [], i => by simp [nth]
  | o :: l, 0 => by simp [nth]
  | o :: l, i + 1 => by simp [nth, nth_eq l i]
/-- The operations in an order. -/
def sel (l : List Oper) : List Nat → List Oper
  | [] => []
  | i :: r => match nth l i with
    | some o => o :: sel l r
    | none => sel l r
def ordB (md : Region.Mode) (ops : Array Oper) (n : Nat) (E : Array Bool → Bool) : Bool → List Nat → Array Bool → Bool
  | ins, [], listed => !ins && E listed
  | ins, i :: r, listed => (match ops[i]? with
    | some o => decide (i < n) && (if isEff o then (if ins then (Region.ready md ops listed).contains i else decide (Region.ready md ops listed = [i])) else !ins && (Region.ready md ops listed).contains i && Region.free md ops listed i)
    | none => false) && ordB md ops n E false r (listed.setIfInBounds i true)
def gList (P : Program) (ops : Array Oper) (Q : List Nat → Act → World → Prop) : List Oper → List Nat → Act → World → Prop
  | [], X, a, w => Q X a w
  | o :: r, X, a, w => (∃ v, Stb P ops X o a w v ∧ gList P ops Q r X (a.put o.dst v) w) ∨ (isEff o = true ∧ Trn P ops X o a w (gList P ops Q r))
/-- The orders of a region's heads: where what turns memory can come up in more than one order, each is walked. -/
inductive Ot where
  | done
  | seg (ord : List Nat) (t : Ot)
  | fork (a b : Ot)
def Ot.first : Ot → List Nat
  | .seg (i :: _) _ => [i]
  | .fork a b => a.first ++ b.first
  | _ => []
def Ot.ok (md : Region.Mode) (ops : Array Oper) (g n : Nat) : Ot → Nat → Bool → Array Bool → Bool
  | .done, f, ins, listed => !ins && Nat.beq f 0 && Region.seqB md ops g n listed
  | .seg ord t, f, ins, listed => Nat.ble ord.length f && ordB md ops n (t.ok md ops g n (f - ord.length) false) ins ord listed
  | .fork a b, f, ins, listed => (ins || (!(Region.ready md ops listed).isEmpty && (Region.ready md ops listed).all (fun i => (a.first ++ b.first).contains i))) && a.ok md ops g n f true listed && b.ok md ops g n f true listed
def gT (P : Program) (l : List Oper) (Q : List Nat → Act → World → Prop) : Ot → List Nat → Act → World → Prop
  | .done => Q
  | .seg ord t => gList P l.toArray (gT P l Q t) (sel l ord)
  | .fork a b => fun X A w => gT P l Q a X A w ∧ gT P l Q b X A w
section
variable {g : Nat} {Q : List Nat → Act → World → Prop} {l : List Oper} {L : Array Bool → Act → World → Prop} {E : Array Bool → Bool} {fe : Nat}
/-- One step that turns memory. -/
theorem gOp_of {i : Nat} {o : Oper} {a : Act} {w : World} {r : List Oper} {K : List Nat → Act → World → Prop} (ho : ops[i]? = some o) (ih : ∀ X a w, gList P ops Q r X a w → K X a w) (h : gList P ops Q (o :: r) X a w) : gOp P ops X i K a w := by
  unfold gOp; simp only [ho]
  rcases h with ⟨v, h1, h2⟩ | ⟨_, h2⟩
  · exact .inl ⟨v, h1.nilX, ih _ _ _ h2⟩
  · exact .inr (h2.same rfl rfl (fun v w' X' _ _ hk => ih _ _ _ hk))
theorem anyG_ord (hsel : Region.noSelect ops = true) (hlate : ∀ i, i < n → ∀ listed, HeadInv md ops n listed → listed.getD i true = false → ∀ t, n ≤ t → t ∉ Region.ready md ops listed) (hl : l.toArray = ops)
    (hdone : ∀ listed a w, L listed a w → ∀ j ∈ Region.ready md ops listed, n ≤ j)
    (hE : ∀ listed X a w, HeadInv md ops n listed → E listed = true → Q X a w → anyG P md ops n L fe listed X a w) :
    ∀ (ord : List Nat) (listed : Array Bool) (X : List Nat) (a : Act) (w : World), HeadInv md ops n listed → ordB md ops n E false ord listed = true → gList P ops Q (sel l ord) X a w →
    anyG P md ops n L (ord.length + fe) listed X a w
  | [], listed, X, a, w, inv, hB, h => by
    simp only [List.length_nil, Nat.zero_add]
    exact hE _ _ _ _ inv (by simpa [ordB] using hB) h
  | i :: ord, listed, X, a, w, inv, hB, h => by
    simp only [ordB, Bool.and_eq_true, Bool.not_false, Bool.true_and] at hB
    obtain ⟨hB1, hB2⟩ := hB
    cases ho : ops[i]? with
    | none => rw [ho] at hB1; cases hB1
    | some o =>
      rw [ho] at hB1
      simp only [Bool.and_eq_true, decide_eq_true_eq] at hB1
      obtain ⟨hin, hB3⟩ := hB1
      have hnth : nth l i = some o := by rw [nth_eq, ← ho, ← hl]; simp
      simp only [sel, hnth] at h
      simp only [List.length_cons]
      rw [show ord.length + 1 + fe = (ord.length + fe) + 1 by omega]
      have ih := fun hi X' a' w' => anyG_ord hsel hlate hl hdone hE ord (listed.setIfInBounds i true) X' a' w' (inv.set hi hin) hB2
      by_cases hEf : isEff o = true
      · rw [if_pos hEf] at hB3
        have hB3 := of_decide_eq_true (by simpa using hB3)
        have hi : i ∈ Region.ready md ops listed := by rw [hB3]; exact .head _
        refine ⟨by rw [hB3]; simp, fun j hj => ?_⟩
        rw [hB3] at hj
        have hji : j = i := by simpa using hj
        subst hji
        exact ⟨hin, gOp_of ho (ih hi) h⟩
      · rw [if_neg hEf] at hB3
        simp only [Bool.and_eq_true] at hB3
        obtain ⟨hr, hf⟩ := hB3
        have hr' : i ∈ Region.ready md ops listed := by simpa using hr
        rcases h with ⟨v, h1, h2⟩ | ⟨h1, _⟩
        · exact anyG_first ho (Region.noSelect_spec hsel) hin (hlate i hin) hdone (ord.length + fe) listed X a w v inv (Region.free_spec ho hf) hr' h1 (ih hr' _ _ _ h2)
        · exact absurd h1 hEf
/-- Within a fork each alternative begins with a step of its own. -/
def Alt (P : Program) (md : Region.Mode) (ops : Array Oper) (n : Nat) (L : Array Bool → Act → World → Prop) (f : Nat) (listed : Array Bool) (X : List Nat) (a : Act) (w : World) (i : Nat) : Prop :=
  i < n ∧ gOp P ops X i (anyG P md ops n L (f - 1) (listed.setIfInBounds i true)) a w
theorem anyG_tree (hsel : Region.noSelect ops = true) (hlate : ∀ i, i < n → ∀ listed, HeadInv md ops n listed → listed.getD i true = false → ∀ t, n ≤ t → t ∉ Region.ready md ops listed) (hl : l.toArray = ops) :
    ∀ (t : Ot) (f : Nat) (ins : Bool) (listed : Array Bool) (X : List Nat) (a : Act) (w : World), HeadInv md ops n listed → t.ok md ops g n f ins listed = true → gT P l Q t X a w →
    (ins = false → anyG P md ops n (fun listed' a' w' => Region.seqB md ops g n listed' = true ∧ ∃ X', Q X' a' w') f listed X a w) ∧
    (ins = true → 0 < f ∧ ∀ i ∈ t.first, Alt P md ops n (fun listed' a' w' => Region.seqB md ops g n listed' = true ∧ ∃ X', Q X' a' w') f listed X a w i)
  | .done, f, ins, listed, X, a, w, inv, hB, h => by
    simp only [Ot.ok, Bool.and_eq_true, Bool.not_eq_true'] at hB
    obtain ⟨⟨h1, h2⟩, h3⟩ := hB
    have := Nat.eq_of_beq_eq_true h2
    subst this; subst h1
    exact ⟨fun _ => ⟨h3, X, h⟩, fun h => by cases h⟩
  | .seg ord t, f, ins, listed, X, a, w, inv, hB, h => by
    simp only [Ot.ok, Bool.and_eq_true] at hB
    obtain ⟨h1, h2⟩ := hB
    have h1 := Nat.le_of_ble_eq_true h1
    simp only [gT, hl] at h
    have IH := fun listed X a w inv' hB' h' => (anyG_tree hsel hlate hl t (f - ord.length) false listed X a w inv' hB' h').1 rfl
    cases ins with
    | false =>
      refine ⟨fun _ => ?_, fun h => by cases h⟩
      have := anyG_ord (P := P) (md := md) (n := n) hsel hlate hl (fun listed' a' w' hL => seqB_ready hL.1) IH ord listed X a w inv h2 h
      rwa [show ord.length + (f - ord.length) = f by omega] at this
    | true =>
      refine ⟨fun h => by (cases h), fun _ => ?_⟩
      cases ord with
      | nil => simp [ordB] at h2
      | cons i ord =>
        simp only [List.length_cons] at h1
        refine ⟨by omega, fun j hj => ?_⟩
        simp only [Ot.first, List.mem_singleton] at hj
        subst hj
        simp only [ordB, Bool.and_eq_true] at h2
        obtain ⟨hB1, hB2⟩ := h2
        cases ho : ops[j]? with
        | none => rw [ho] at hB1; cases hB1
        | some o =>
          rw [ho] at hB1
          simp only [Bool.and_eq_true, decide_eq_true_eq] at hB1
          obtain ⟨hin, hB3⟩ := hB1
          have hnth : nth l j = some o := by rw [nth_eq, ← ho, ← hl]; simp
          simp only [sel, hnth] at h
          have hEf : isEff o = true := by
            by_cases e : isEff o = true
            · exact e
            · rw [if_neg e] at hB3; simp at hB3
          rw [if_pos hEf] at hB3
          have hi : j ∈ Region.ready md ops listed := by simpa using hB3
          refine ⟨hin, gOp_of ho (fun X' a' w' hk => ?_) h⟩
          have := anyG_ord (P := P) (md := md) (n := n) hsel hlate hl (fun listed' a' w' hL => seqB_ready hL.1) IH ord _ X' a' w' (inv.set hi hin) hB2 hk
          rwa [show ord.length + (f - (j :: ord).length) = f - 1 by simp only [List.length_cons]; omega] at this
  | .fork s t, f, ins, listed, X, a, w, inv, hB, h => by
    simp only [Ot.ok, Bool.and_eq_true] at hB
    obtain ⟨⟨h1, h2⟩, h3⟩ := hB
    obtain ⟨f1, g1⟩ := (anyG_tree hsel hlate hl s f true listed X a w inv h2 h.1).2 rfl
    obtain ⟨_, g2⟩ := (anyG_tree hsel hlate hl t f true listed X a w inv h3 h.2).2 rfl
    have all : ∀ i ∈ (Ot.fork s t).first, Alt P md ops n (fun listed' a' w' => Region.seqB md ops g n listed' = true ∧ ∃ X', Q X' a' w') f listed X a w i := by
      intro i hi
      simp only [Ot.first, List.mem_append] at hi
      exact hi.elim (g1 i) (g2 i)
    refine ⟨fun hins => ?_, fun _ => ⟨f1, all⟩⟩
    subst hins
    simp only [Bool.false_or, Bool.and_eq_true, Bool.not_eq_true'] at h1
    obtain ⟨k, rfl⟩ : ∃ k, f = k + 1 := ⟨f - 1, by omega⟩
    refine ⟨fun e => by (rw [e] at h1; simp at h1), fun i hi => ?_⟩
    exact all i (by simpa [Ot.first] using List.all_eq_true.1 h1.2 i hi)
end
/-- What is asked of a region and its orders. -/
def anyB (ops : Array Oper) (n : Nat) (t : Ot) : Bool :=
  Region.noSelect ops && (if n < ops.size then Region.sinkB .any ops n && Region.chainB .any ops n else Nat.beq n ops.size) && t.ok .any ops (ops.size - n) n n false (Array.replicate ops.size false)
theorem region_ord {id : Nat} {Q : Exit → Act → World → Prop} {a : Act} {w : World} {l : List Oper} (n : Nat) (t : Ot) (hm : P.follows .mixedOrders = true) (hB : anyB l.toArray n t = true)
    (h : gT P l (fun _ a' w' => wpList P l.toArray Q (l.drop n) a' w') t X a { w with drawn := w.drawn + 1 }) : (Code.region id l.toArray true).wp P Q a w := by
  simp only [anyB, Bool.and_eq_true] at hB
  obtain ⟨⟨hsel, hsink⟩, hord⟩ := hB
  have hsz : l.toArray.size = l.length := by simp
  have hnle : n ≤ l.length := by
    split at hsink
    · omega
    · have := Nat.eq_of_beq_eq_true hsink; omega
  have inv0 : HeadInv .any l.toArray n (Array.replicate l.toArray.size false) :=
    ⟨by simp, fun j oj _ hl => (by rw [getD_replicate_false] at hl; cases hl), fun t _ ht => getD_in (by simpa using ht) (getD_replicate_false _ _)⟩
  have hlate : ∀ i, i < n → ∀ listed, HeadInv .any l.toArray n listed → listed.getD i true = false → ∀ t, n ≤ t → t ∉ Region.ready .any l.toArray listed := by
    intro i hi listed inv hun t ht hr
    split at hsink
    · rename_i hlt
      simp only [Bool.and_eq_true] at hsink
      exact tail_waits hsink.1 hsink.2 hlt inv _ i rfl hi hun t ht hr
    · have := Nat.eq_of_beq_eq_true hsink
      obtain ⟨_, ot, hot, _⟩ := mem_ready.1 hr
      have := (Array.getElem?_eq_some_iff.1 hot).1
      omega
  have H := (anyG_tree (P := P) (md := .any) (n := n) (g := l.toArray.size - n) hsel hlate rfl t n false _ X a { w with drawn := w.drawn + 1 } inv0 hord h).1 rfl
  refine wp_region_any hm ?_
  have hdl : (l.drop n).length = l.toArray.size - n := by simp
  have := wpAny_of_anyG (Q' := Q) (g := l.toArray.size - n) (fun listed a' w' hL => by
    obtain ⟨hL1, _, hL2⟩ := hL
    have := wpAny_of_seq (md := .any) (Q' := Q) (l.drop n) n listed a' w' (fun j => by simp [List.getElem?_drop]) (by rw [hdl]; exact hL1) hL2
    rwa [hdl] at this) _ _ _ _ _ H
  rw [show n + (l.toArray.size - n) = l.toArray.size by omega] at this
  exact this
end
end V
end Go.Proofs.Ytaiifcnjmbpbjaa
