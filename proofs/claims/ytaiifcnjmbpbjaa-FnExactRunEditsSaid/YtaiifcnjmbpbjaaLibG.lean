/- Regions that draw their order and hold calls whose results are known in part only: one walk of the text's order serves every order; at the end an operation that turns memory may stand. No condition. -/
import Derived.Test.YtaiifcnjmbpbjaaLibC
import Derived.StillTail
namespace Go.Proofs.Ytaiifcnjmbpbjaa
namespace V
open Flat (enc)
set_option linter.unusedVariables false
set_option linter.unusedSimpArgs false
open Go.RowKit
section
variable {P : Program} {ops : Array Oper} {md : Region.Mode} {C : Nat → World → Prop} {N : Nat} {Φ : Nat → Array Value → Value → Prop}

def nv (w : World) (v : Value) : Result Next → Prop
  | .ok (.value u) w' => w' = w ∧ u = v
  | .ok .skip w' => w' = w ∧ v = undef
  | _ => False
/-- Operation i, carried out in state a in whatever world of the class, hands back a value of the set V and leaves a world of the class. -/
def Y (P : Program) (ops : Array Oper) (C : Nat → World → Prop) (N : Nat) (Φ : Nat → Array Value → Value → Prop) (i : Nat) (o : Oper) (a : Act) (V : Value → Prop) : Prop :=
  (Region.wanted o (yielded ops a.tmps) = true ∧ ∃ v, (∀ m w, m < N → C m w → nv w v ((execOp a.eval o).run P w)) ∧ V = fun u => u = v) ∨
  (Region.wanted o (yielded ops a.tmps) = true ∧ ∃ f args, (∀ m w, m < N → C m w → (execOp a.eval o).run P w = .ok (.enter f args) w ∧ Calls P f args w fun e w' => ∃ v, e = .returned v ∧ Φ i args v ∧ C (m + 1) w') ∧ V = Φ i args) ∨
  (Region.wanted o (yielded ops a.tmps) = false ∧ V = fun u => u = undef)

theorem Y.exi {i : Nat} {o : Oper} {a : Act} {V : Value → Prop} (h : Y P ops C N Φ i o a V) {w : World} (hN : 0 < N) (hw : C 0 w) : ∃ v, V v := by
  rcases h with ⟨_, v, _, rfl⟩ | ⟨_, f, args, h, rfl⟩ | ⟨_, rfl⟩
  · exact ⟨v, rfl⟩
  · obtain ⟨e, w', fr, ⟨v, _, hv, _⟩, _⟩ := (h 0 w hN hw).2 []
    exact ⟨v, hv⟩
  · exact ⟨undef, rfl⟩
theorem Y.uniq {i : Nat} {o : Oper} {a : Act} {V V' : Value → Prop} (h : Y P ops C N Φ i o a V) (h' : Y P ops C N Φ i o a V') {w : World} (hN : 0 < N) (hw : C 0 w) : V = V' := by
  rcases h with ⟨hw1, v, h1, rfl⟩ | ⟨hw1, f, args, h1, rfl⟩ | ⟨hw1, rfl⟩ <;> rcases h' with ⟨hw2, v', h2, rfl⟩ | ⟨hw2, f', args', h2, rfl⟩ | ⟨hw2, rfl⟩
  · have a1 := h1 0 w hN hw
    have a2 := h2 0 w hN hw
    have : v = v' := by
      generalize (execOp a.eval o).run P w = r at a1 a2
      cases r with
      | ok n w' => cases n <;> simp only [nv] at a1 a2 <;> first | exact a1.2.symm.trans a2.2 | exact a1.2.trans a2.2.symm | exact a1.elim
      | halt x w' => simp only [nv] at a1
    rw [this]
  · have a1 := h1 0 w hN hw
    rw [(h2 0 w hN hw).1] at a1
    simp only [nv] at a1
  · rw [hw1] at hw2; cases hw2
  · have a1 := h2 0 w hN hw
    rw [(h1 0 w hN hw).1] at a1
    simp only [nv] at a1
  · have := (h1 0 w hN hw).1.symm.trans (h2 0 w hN hw).1
    simp only [Result.ok.injEq, Next.enter.injEq] at this
    obtain ⟨⟨_, rfl⟩, _⟩ := this
    rfl
  · rw [hw1] at hw2; cases hw2
  · rw [hw1] at hw2; cases hw2
  · rw [hw1] at hw2; cases hw2
  · rfl
theorem Y.of_same {i : Nat} {o : Oper} {a a' : Act} {V : Value → Prop} (h : Y P ops C N Φ i o a V) (he : execOp a'.eval o = execOp a.eval o)
    (hw : Region.wanted o (yielded ops a'.tmps) = Region.wanted o (yielded ops a.tmps)) : Y P ops C N Φ i o a' V := by
  unfold Y at *
  rw [he, hw]
  exact h

/-- Operation number i comes up in state a. -/
def nOp (P : Program) (ops : Array Oper) (C : Nat → World → Prop) (N : Nat) (Φ : Nat → Array Value → Value → Prop) (i : Nat) (K : Act → Prop) (a : Act) : Prop :=
  match ops[i]? with
  | none => K a
  | some o => ∃ V, Y P ops C N Φ i o a V ∧ ∀ v, V v → K (a.put o.dst v)
theorem nOp_mono {i : Nat} {a : Act} {K K' : Act → Prop} (h : ∀ a, K a → K' a) (hh : nOp P ops C N Φ i K a) : nOp P ops C N Φ i K' a := by
  unfold nOp at *
  split
  · rename_i e; simp only [e] at hh; exact h _ hh
  · rename_i o e; simp only [e] at hh; obtain ⟨V, hV, hk⟩ := hh; exact ⟨V, hV, fun v hv => h _ (hk v hv)⟩

/-- Whatever order is picked from here on, till 'L' holds behind 'fuel' operations. -/
def anyN (P : Program) (md : Region.Mode) (ops : Array Oper) (C : Nat → World → Prop) (N : Nat) (Φ : Nat → Array Value → Value → Prop) (n : Nat) (L : Array Bool → Act → Prop) : Nat → Array Bool → Act → Prop
  | 0, listed, a => L listed a
  | f + 1, listed, a =>
    Region.ready md ops listed ≠ [] ∧ ∀ i ∈ Region.ready md ops listed, i < n ∧ nOp P ops C N Φ i (anyN P md ops C N Φ n L f (listed.setIfInBounds i true)) a

theorem wpOp_of_nOp {i : Nat} {a : Act} {K : Act → Prop} {K' : Act → World → Prop} {Q' : Exit → Act → World → Prop} {w : World} {m : Nat} (hmono : ∀ m w, C m w → C (m + 1) w) (hm : m < N) (hC : C m w) (h : ∀ a w', C (m + 1) w' → K a → K' a w') (hh : nOp P ops C N Φ i K a) : wpOp P ops Q' i K' a w := by
  unfold nOp at hh
  unfold wpOp
  split
  · rename_i e; simp only [e] at hh; exact h _ _ (hmono _ _ hC) hh
  · rename_i o e
    simp only [e] at hh
    obtain ⟨V, hV, hk⟩ := hh
    rcases hV with ⟨hw, v, h1, rfl⟩ | ⟨hw, f, args, h1, rfl⟩ | ⟨hw, rfl⟩
    · rw [if_pos hw]
      left
      have h2 := h1 m w hm hC
      unfold Oper.wp
      generalize (execOp a.eval o).run P w = r at *
      cases r with
      | ok x w' =>
        cases x <;> simp only [nv] at h2 <;> first | exact h2.elim | simp only [Oper.upon]
        · obtain ⟨e1, e2⟩ := h2; rw [e1]; exact h _ _ (hmono _ _ hC) (hk _ e2)
        · obtain ⟨e1, e2⟩ := h2; rw [e1, ← e2]; exact h _ _ (hmono _ _ hC) (hk _ rfl)
      | halt x w' => simp only [nv] at h2
    · rw [if_pos hw]
      left
      obtain ⟨h2, hc⟩ := h1 m w hm hC
      unfold Oper.wp
      rw [h2]
      simp only [Oper.upon]
      exact hc.mono fun e w'' ⟨v, he, hv, hw''⟩ => by subst he; exact h _ _ hw'' (hk v hv)
    · rw [if_neg (by simp [hw])]
      exact h _ _ (hmono _ _ hC) (hk _ rfl)

theorem wpAny_of_anyN {n g : Nat} {L : Array Bool → Act → Prop} {Q' : Exit → Act → World → Prop} (hmono : ∀ m w, C m w → C (m + 1) w) (hL : ∀ listed a w, C N w → L listed a → wpAny P md ops Q' g listed a w) :
    ∀ (f : Nat) (listed : Array Bool) (a : Act) (w : World) (m : Nat), m + f = N → C m w → anyN P md ops C N Φ n L f listed a → wpAny P md ops Q' (f + g) listed a w
  | 0, listed, a, w, m, hm, hw, h => by rw [Nat.zero_add]; exact hL _ _ _ (by rw [Nat.add_zero] at hm; rw [← hm]; exact hw) h
  | f + 1, listed, a, w, m, hm, hw, h => by
    rw [show f + 1 + g = (f + g) + 1 by omega]
    exact ⟨fun h0 => absurd h0 h.1, fun i hi => wpOp_of_nOp hmono (by omega) hw (fun a' w' hw' h' => wpAny_of_anyN hmono hL f _ a' w' (m + 1) (by omega) hw' h') (h.2 i hi).2⟩

/-- What one operation yields is not turned by another that is apart from it. -/
theorem Y.put {i : Nat} {o : Oper} {a : Act} {V : Value → Prop} (hs : ∀ cs b, o.op ≠ .select cs b) {d : Option Tmp} (hd : ∀ t, d = some t → t ∉ o.looksAt ops) (u : Value) (h : Y P ops C N Φ i o a V) : Y P ops C N Φ i o (a.put d u) V :=
  h.of_same (execOp_put o hs a d u hd) (wanted_put o a d u hd)
theorem Y.unput {i : Nat} {o : Oper} {a : Act} {V : Value → Prop} (hs : ∀ cs b, o.op ≠ .select cs b) {d : Option Tmp} (hd : ∀ t, d = some t → t ∉ o.looksAt ops) (u : Value) (h : Y P ops C N Φ i o (a.put d u) V) : Y P ops C N Φ i o a V :=
  h.of_same (execOp_put o hs a d u hd).symm (wanted_put o a d u hd).symm

/-- An operation that may come up now may be taken first. -/
theorem anyN_first {n i : Nat} {oi : Oper} {V : Value → Prop} {L : Array Bool → Act → Prop} {w0 : World} (hN : 0 < N) (hw0 : C 0 w0) (hi : ops[i]? = some oi) (hsel : ∀ (j : Nat) (o : Oper) cs b, ops[j]? = some o → o.op ≠ .select cs b) (hin : i < n)
    (hlate : ∀ listed, HeadInv md ops n listed → listed.getD i true = false → ∀ t, n ≤ t → t ∉ Region.ready md ops listed)
    (hdone : ∀ listed a, L listed a → ∀ j ∈ Region.ready md ops listed, n ≤ j) :
    ∀ (f : Nat) (listed : Array Bool) (a : Act), HeadInv md ops n listed →
      (∀ j oj, ops[j]? = some oj → j ≠ i → listed.getD j true = false → (∀ e ∈ oj.after, Region.binds md e = true → e.on ≠ i) → oi.apart ops oj = true) →
      i ∈ Region.ready md ops listed → Y P ops C N Φ i oi a V →
      (∀ v, V v → anyN P md ops C N Φ n L f (listed.setIfInBounds i true) (a.put oi.dst v)) → anyN P md ops C N Φ n L (f + 1) listed a := by
  intro f
  induction f with
  | zero =>
    intro listed a inv _ hr hy H
    have hun := (mem_ready.1 hr).1
    refine ⟨fun h => (by rw [h] at hr; cases hr), fun j hj => ?_⟩
    have hjn : j < n := by
      rcases Nat.lt_or_ge j n with h | h
      · exact h
      · exact absurd hj (hlate _ inv hun j h)
    refine ⟨hjn, ?_⟩
    by_cases hji : j = i
    · subst hji
      unfold nOp; simp only [hi]
      exact ⟨V, hy, H⟩
    · obtain ⟨v, hv⟩ := hy.exi hN hw0
      have := hdone _ _ (H v hv) j (ready_mono hj hji)
      omega
  | succ f ih =>
    intro listed a inv hfree hr hy H
    have hun := (mem_ready.1 hr).1
    refine ⟨fun h => (by rw [h] at hr; cases hr), fun j hj => ?_⟩
    have hjn : j < n := by
      rcases Nat.lt_or_ge j n with h | h
      · exact h
      · exact absurd hj (hlate _ inv hun j h)
    refine ⟨hjn, ?_⟩
    by_cases hji : j = i
    · subst hji
      unfold nOp; simp only [hi]
      exact ⟨V, hy, H⟩
    · obtain ⟨hjun, oj, hoj, hall⟩ := mem_ready.1 hj
      have hnot : ∀ e ∈ oj.after, Region.binds md e = true → e.on ≠ i := fun e he hb heq => by
        have h1 := hall e he hb
        rw [heq, getD_both hun] at h1
        cases h1
      obtain ⟨h1, h2, h3⟩ := Oper.apart_spec (hfree j oj hoj hji hjun hnot)
      have hsi := fun cs b => hsel i oi cs b hi
      have hsj := fun cs b => hsel j oj cs b hoj
      have step : ∀ v, V v → ∃ U, Y P ops C N Φ j oj a U ∧ ∀ u, U u → anyN P md ops C N Φ n L f ((listed.setIfInBounds i true).setIfInBounds j true) ((a.put oi.dst v).put oj.dst u) := by
        intro v hv
        have := ((H v hv).2 j (ready_mono hj hji)).2
        unfold nOp at this; simp only [hoj] at this
        obtain ⟨U, hU, hk⟩ := this
        exact ⟨U, hU.unput hsj h1 v, hk⟩
      obtain ⟨v0, hv0⟩ := hy.exi hN hw0
      obtain ⟨U, hU, _⟩ := step v0 hv0
      unfold nOp; simp only [hoj]
      refine ⟨U, hU, fun u hu => ?_⟩
      have hfree' : ∀ k ok, ops[k]? = some ok → k ≠ i → (listed.setIfInBounds j true).getD k true = false →
          (∀ e ∈ ok.after, Region.binds md e = true → e.on ≠ i) → oi.apart ops ok = true := fun k ok hk hki hun hno => by
        refine hfree k ok hk hki ?_ hno
        by_cases hjk : j = k
        · subst hjk; exact hjun
        · rw [getD_set_ne true hjk] at hun; exact hun
      refine ih (listed.setIfInBounds j true) (a.put oj.dst u) (inv.set hj hjn) hfree' (ready_mono hr (Ne.symm hji)) (hy.put hsi h3 u) ?_
      intro v hv
      obtain ⟨U', hU', hk⟩ := step v hv
      have e := hU.uniq hU' hN hw0
      subst e
      have := hk u hu
      rw [Array.setIfInBounds_comm _ _ hji, ← Act.put_comm a v u h2]
      exact this

/-- The walk of the text's order. -/
def lexN (P : Program) (ops : Array Oper) (C : Nat → World → Prop) (N : Nat) (Φ : Nat → Array Value → Value → Prop) (Q : Act → Prop) : Nat → List Oper → Act → Prop
  | _, [], a => Q a
  | i, o :: rest, a => ∃ V, Y P ops C N Φ i o a V ∧ ∀ v, V v → lexN P ops C N Φ Q (i + 1) rest (a.put o.dst v)

theorem anyN_lex {n g : Nat} {Lq : Act → Prop} {w0 : World} (hw0 : N = 0 ∨ C 0 w0) (hnN : n ≤ N) (hsel : Region.noSelect ops = true) (hlate : ∀ i, i < n → ∀ listed, HeadInv md ops n listed → listed.getD i true = false → ∀ t, n ≤ t → t ∉ Region.ready md ops listed) :
    ∀ (l : List Oper) (k : Nat) (listed : Array Bool) (a : Act), (∀ j, j < l.length → l[j]? = ops[k + j]?) → k + l.length = n → HeadInv md ops n listed →
    Region.lexHead md ops g l.length k listed = true → lexN P ops C N Φ Lq k l a →
    anyN P md ops C N Φ n (fun listed' a' => Region.seqB md ops g n listed' = true ∧ Lq a') l.length listed a
  | [], k, listed, a, _, hk, _, hB, h => by
    have : k = n := by simpa using hk
    subst this
    exact ⟨by simpa [Region.lexHead] using hB, h⟩
  | o :: l, k, listed, a, hl, hk, inv, hB, h => by
    have h0 : ops[k]? = some o := by simpa using (hl 0 (by simp)).symm
    simp only [List.length_cons, Region.lexHead, Bool.and_eq_true] at hB
    obtain ⟨⟨hr, hf⟩, hB'⟩ := hB
    have hkn : k < n := by simp only [List.length_cons] at hk; omega
    have hr' : k ∈ Region.ready md ops listed := by simpa using hr
    obtain ⟨V, hV, hK⟩ := h
    exact anyN_first (by omega) (hw0.resolve_left (by omega)) h0 (Region.noSelect_spec hsel) hkn (hlate k hkn) (fun listed' a' hL => seqB_ready hL.1) l.length listed a inv (Region.free_spec h0 hf) hr' hV
      (fun v hv => anyN_lex hw0 hnN hsel hlate l (k + 1) _ _ (fun j hj => by have := hl (j + 1) (by simp; omega); simpa [Nat.add_assoc, Nat.add_comm 1 j] using this) (by simp only [List.length_cons] at hk; omega) (inv.set hr' hkn) hB' (hK v hv))

theorem region_tail {id : Nat} {Q : Exit → Act → World → Prop} {a : Act} {w : World} {l : List Oper} (n : Nat) (hm : P.follows .mixedOrders = true) (hB : Region.lexTailB .any l.toArray n = true) (hmono : ∀ m w, C m w → C (m + 1) w) (hw : C 0 { w with drawn := w.drawn + 1 })
    (h : lexN P l.toArray C n Φ (fun a' => ∀ w', C n w' → wpList P l.toArray Q (l.drop n) a' w') 0 (l.take n) a) : (Code.region id l.toArray true).wp P Q a w := by
  simp only [Region.lexTailB, Bool.and_eq_true, decide_eq_true_eq] at hB
  obtain ⟨⟨⟨⟨hsel, hn⟩, hs⟩, hc⟩, hlex⟩ := hB
  have hn' : n < l.length := by simpa using hn
  have htl : (l.take n).length = n := by simp; omega
  have hdl : (l.drop n).length = l.toArray.size - n := by simp
  have inv0 : HeadInv .any l.toArray n (Array.replicate l.toArray.size false) :=
    ⟨by simp, fun j oj _ hl => (by rw [getD_replicate_false] at hl; cases hl), fun t _ ht => getD_in (by simpa using ht) (getD_replicate_false _ _)⟩
  have H := anyN_lex (md := .any) (N := n) (g := l.toArray.size - n) (.inr hw) (Nat.le_refl _) hsel (fun i hi listed inv hun t ht => tail_waits hs hc hn inv _ i rfl hi hun t ht) (l.take n) 0 _ a (fun j hj => by
    have hj' : j < n := by rw [htl] at hj; exact hj
    simp [hj']) (by simpa using htl) inv0 (by rw [htl]; exact hlex) h
  refine wp_region_any hm ?_
  have := wpAny_of_anyN (Q' := Q) (g := l.toArray.size - n) hmono (fun listed a' w' hw' hL => by
    have := wpAny_of_seq (md := .any) (Q' := Q) (l.drop n) n listed a' w' (fun j => by simp [List.getElem?_drop]) (by rw [hdl]; exact hL.1) (hL.2 w' hw')
    rwa [hdl] at this) _ _ _ _ 0 (by rw [htl]; omega) hw H
  rw [htl, show n + (l.toArray.size - n) = l.toArray.size by omega] at this
  exact this

/-- The same where nothing stands behind: the whole region is walked. -/
theorem region_all {id : Nat} {Q : Exit → Act → World → Prop} {a : Act} {w : World} {l : List Oper} (hm : P.follows .mixedOrders = true) (hB : (Region.noSelect l.toArray && Region.lexHead .any l.toArray 0 l.length 0 (Array.replicate l.toArray.size false)) = true) (hmono : ∀ m w, C m w → C (m + 1) w) (hw : C 0 { w with drawn := w.drawn + 1 })
    (h : lexN P l.toArray C l.length Φ (fun a' => ∀ w', C l.length w' → Q .normal a' w') 0 l a) : (Code.region id l.toArray true).wp P Q a w := by
  simp only [Bool.and_eq_true] at hB
  obtain ⟨hsel, hlex⟩ := hB
  have hsz : l.toArray.size = l.length := by simp
  have inv0 : HeadInv .any l.toArray l.length (Array.replicate l.toArray.size false) :=
    ⟨by simp, fun j oj _ hl => (by rw [getD_replicate_false] at hl; cases hl), fun t ht hl => by simp at hl; omega⟩
  have H := anyN_lex (md := .any) (N := l.length) (g := 0) (.inr hw) (Nat.le_refl _) hsel (fun i hi listed inv hun t ht hr => by
    obtain ⟨_, ot, hot, _⟩ := mem_ready.1 hr
    have := (Array.getElem?_eq_some_iff.1 hot).1
    simp at this; omega) l 0 _ a (fun j hj => by simp) (by simp) inv0 hlex h
  refine wp_region_any hm ?_
  have := wpAny_of_anyN (Q' := Q) (g := 0) hmono (fun listed a' w' hw' hL => ⟨by simpa [Region.seqB] using hL.1, hL.2 w' hw'⟩) _ _ _ _ 0 (by omega) hw H
  simpa using this
end

/-! ### On frames as functions -/
section
variable {P : Program} {n : Nat} {Q : Post} {σ : Nat → Value} {w : World} {ops : Array Oper} {rest : List Oper} {ty : TypeId} {pos : String} {after : Array Edge} {C : Nat → World → Prop} {N : Nat} {Φ : Nat → Array Value → Value → Prop} {K : (Nat → Value) → Prop} {i : Nat}
structure NW (P : Program) (n : Nat) (ops : Array Oper) (C : Nat → World → Prop) (N : Nat) (Φ : Nat → Array Value → Value → Prop) (i : Nat) (l : List Oper) (K : (Nat → Value) → Prop) (σ : Nat → Value) : Prop where
  h : ∀ a, Rp n a σ → lexN P ops C N Φ (fun a => ∃ σ, Rp n a σ ∧ K σ) i l a
theorem NW.nil (h : K σ) : NW P n ops C N Φ i [] K σ := ⟨fun a ha => ⟨σ, ha, h⟩⟩
theorem NW.kOp {o : Oper} (h : NW P n ops C N Φ i (o :: rest) K σ) : NW P n ops C N Φ i (o :: rest) K σ := h
theorem NW.op {d : Nat} {op : Op} {v : Value} (hd : Nat.blt d n = true)
    (hr : ∀ m w, m < N → C m w → Yl P σ op ty w v w) (k : NW P n ops C N Φ (i + 1) rest K (upd σ d v)) :
    NW P n ops C N Φ i (⟨some d, op, ty, pos, after, none⟩ :: rest) K σ := by
  constructor
  intro a ha
  refine ⟨_, .inl ⟨rfl, v, fun m w hm hw => ?_, rfl⟩, fun u hu => ?_⟩
  · rw [ha.eval, (hr m w hm hw).run]; exact ⟨rfl, rfl⟩
  · subst hu; exact k.h _ (ha.put d _ hd)
theorem NW.call {d : Nat} {f : FuncId} {xs : List Operand} {ats : Array TypeId} {args : List Value} (hd : Nat.blt d n = true)
    (hr : ∀ args w, (callFunc f args).run P w = .ok (.enter f args) w) (ha : xs.map (ev σ) = args)
    (hc : ∀ m w, m < N → C m w → Calls P f args.toArray w fun e w' => ∃ v, e = .returned v ∧ Φ i args.toArray v ∧ C (m + 1) w')
    (k : ∀ v, Φ i args.toArray v → NW P n ops C N Φ (i + 1) rest K (upd σ d v)) :
    NW P n ops C N Φ i (⟨some d, .call { callee := .value (.func f), args := xs.toArray, argTypes := ats }, ty, pos, after, none⟩ :: rest) K σ := by
  constructor
  intro a hA
  refine ⟨_, .inr (.inl ⟨rfl, f, args.toArray, fun m w hm hw => ⟨?_, hc m w hm hw⟩, rfl⟩), fun u hu => (k u hu).h _ (hA.put d _ hd)⟩
  rw [hA.eval]
  exact run_fcall hr ha
theorem NW.guard {d : Option Nat} {op : Op} {j : Nat} {want b : Bool}
    (hg : gd ops σ j = some (.bool b)) (hd : (match d with | some d => Nat.blt d n | none => true) = true)
    (h1 : b = want → NW P n ops C N Φ i (⟨d, op, ty, pos, after, none⟩ :: rest) K σ)
    (h2 : b = (!want) → NW P n ops C N Φ (i + 1) rest K (V.put σ d undef)) :
    NW P n ops C N Φ i (⟨d, op, ty, pos, after, some (j, want)⟩ :: rest) K σ := by
  constructor
  intro a ha
  have hy := gd_yield ha hg
  have hw : Region.wanted ⟨d, op, ty, pos, after, some (j, want)⟩ (yielded ops a.tmps) = (b == want) := by
    simp [Region.wanted, hy]
  by_cases e : b = want
  · obtain ⟨V, hV, hk⟩ := (h1 e).h a ha
    refine ⟨V, ?_, hk⟩
    rcases hV with ⟨_, v, h3, rfl⟩ | ⟨_, f, args, h3, rfl⟩ | ⟨h3, _⟩
    · exact .inl ⟨by rw [hw]; simp [e], v, h3, rfl⟩
    · exact .inr (.inl ⟨by rw [hw]; simp [e], f, args, h3, rfl⟩)
    · simp [Region.wanted] at h3
  · have e2 : b = !want := by cases b <;> cases want <;> simp_all
    refine ⟨_, .inr (.inr ⟨by rw [hw]; simp [e], rfl⟩), fun u hu => ?_⟩
    subst hu
    cases d with
    | none => exact (h2 e2).h a ha
    | some d => exact (h2 e2).h _ (ha.put d undef hd)
theorem NW.guard_on {d : Option Nat} {op : Op} {j : Nat} {want b : Bool}
    (hg : gd ops σ j = some (.bool b)) (hd : (match d with | some d => Nat.blt d n | none => true) = true) (hb : b = want)
    (h1 : NW P n ops C N Φ i (⟨d, op, ty, pos, after, none⟩ :: rest) K σ) :
    NW P n ops C N Φ i (⟨d, op, ty, pos, after, some (j, want)⟩ :: rest) K σ :=
  NW.guard hg hd (fun _ => h1) (fun e => by rw [e] at hb; cases want <;> simp at hb)
theorem NW.guard_off {d : Option Nat} {op : Op} {j : Nat} {want b : Bool}
    (hg : gd ops σ j = some (.bool b)) (hd : (match d with | some d => Nat.blt d n | none => true) = true) (hb : b = !want)
    (h2 : NW P n ops C N Φ (i + 1) rest K (V.put σ d undef)) :
    NW P n ops C N Φ i (⟨d, op, ty, pos, after, some (j, want)⟩ :: rest) K σ :=
  NW.guard hg hd (fun e => by rw [e] at hb; cases want <;> simp at hb) (fun _ => h2)
theorem lexN_mono {Q Q' : Act → Prop} (h : ∀ a, Q a → Q' a) : ∀ (l : List Oper) (i : Nat) (a : Act), lexN P ops C N Φ Q i l a → lexN P ops C N Φ Q' i l a
  | [], _, _, hq => h _ hq
  | o :: rest, i, a, ⟨V, hV, hk⟩ => ⟨V, hV, fun v hv => lexN_mono h rest (i + 1) _ (hk v hv)⟩
theorem NW.mono {K K' : (Nat → Value) → Prop} {l : List Oper} (hk : ∀ σ, K σ → K' σ) (h : NW P n ops C N Φ i l K σ) : NW P n ops C N Φ i l K' σ :=
  ⟨fun a ha => lexN_mono (fun a ⟨s, hs, hq⟩ => ⟨s, hs, hk s hq⟩) _ _ _ (h.h a ha)⟩
/-- A region that draws: calls by what is known of their results (Φ), one operation at the end that may turn memory. -/
theorem CW.nd {id : Nat} {l : List Oper} (C : Nat → World → Prop) (Φ : Nat → Array Value → Value → Prop) (m : Nat) (hm : P.follows .mixedOrders = true) (hB : Region.lexTailB .any l.toArray m = true) (hmono : ∀ m w, C m w → C (m + 1) w) (hw : C 0 { w with drawn := w.drawn + 1 })
    (h : NW P n l.toArray C m Φ 0 (l.take m) (fun σ' => ∀ w', C m w' → LW P n l.toArray (l.drop m) Q σ' w') σ) : CW P n (.region id l.toArray true) Q σ w := by
  constructor
  intro a ha
  refine region_tail (C := C) (Φ := Φ) m hm hB hmono hw ?_
  exact lexN_mono (fun a ⟨s, hs, hq⟩ w' hw' => (hq w' hw').h a hs) _ _ _ (h.h a ha)
/-- The same where nothing stands behind. -/
theorem CW.ndAll {id : Nat} {l : List Oper} (C : Nat → World → Prop) (Φ : Nat → Array Value → Value → Prop) (hm : P.follows .mixedOrders = true) (hB : (Region.noSelect l.toArray && Region.lexHead .any l.toArray 0 l.length 0 (Array.replicate l.toArray.size false)) = true) (hmono : ∀ m w, C m w → C (m + 1) w) (hw : C 0 { w with drawn := w.drawn + 1 })
    (h : NW P n l.toArray C l.length Φ 0 l (fun σ' => ∀ w', C l.length w' → Q .normal σ' w') σ) : CW P n (.region id l.toArray true) Q σ w := by
  constructor
  intro a ha
  refine region_all (C := C) (Φ := Φ) hm hB hmono hw ?_
  exact lexN_mono (fun a ⟨s, hs, hq⟩ w' hw' => ⟨s, hs, hq w' hw'⟩) _ _ _ (h.h a ha)
end
end V
end Go.Proofs.Ytaiifcnjmbpbjaa
