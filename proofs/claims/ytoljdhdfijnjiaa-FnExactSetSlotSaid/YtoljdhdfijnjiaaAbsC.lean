/- Walks over abstract values: code, regions in order, loops; what turns memory. No condition. -/
import Derived.Test.YtoljdhdfijnjiaaAbsB
namespace Go.Proofs.Ytoljdhdfijnjiaa
namespace V
set_option linter.unusedVariables false
set_option linter.unusedSimpArgs false
open Go.RowKit

abbrev Obs := List (Option Ob)
abbrev APost := Exit → Fr → Obs → Prop
def lft (s : Bs) (Q : APost) : Post := fun e σc w => ∃ M U σ O, Mem s M O U w ∧ Rels w U M σ σc ∧ Q e σ O
structure PC (P : Program) (n : Nat) (s : Bs) (c : Code) (Q : APost) (σ : Fr) (O : Obs) : Prop where
  h : ∀ M U σc w, Mem s M O U w → Rels w U M σ σc → CW P n c (lft s Q) σc w
structure PL (P : Program) (n : Nat) (s : Bs) (ops : Array Oper) (l : List Oper) (Q : APost) (σ : Fr) (O : Obs) : Prop where
  h : ∀ M U σc w, Mem s M O U w → Rels w U M σ σc → LW P n ops l (lft s Q) σc w
def thA (K : Fr → Obs → Prop) (Q : APost) : APost
  | .normal, σ, O => K σ O
  | e, σ, O => Q e σ O
def inA (id : Nat) (Q : APost) : APost
  | .exit id', σ, O => bif Nat.beq id' id then Q .normal σ O else Q (.exit id') σ O
  | e, σ, O => Q e σ O
def updA (σ : Fr) (d : Nat) (x : AV) : Fr := fun t => bif Nat.beq t d then x else σ t
theorem Rels.upd {w : World} {U : Nat → Prop} {M : Mp} {σ : Fr} {σc : Nat → Value} (h : Rels w U M σ σc) (d : Nat) {x : AV} {y : Value} (hx : Rel w U M x y) : Rels w U M (updA σ d x) (V.upd σc d y) := by
  intro t
  unfold updA V.upd
  cases Nat.beq t d with
  | true => exact hx
  | false => exact h t
section
variable {P : Program} {n : Nat} {s : Bs} {Q : APost} {σ : Fr} {O : Obs} {ops : Array Oper} {rest : List Oper} {d : Nat} {ty : TypeId} {pos : String} {after : Array Edge}

theorem PC.skip (h : Q .normal σ O) : PC P n s .skip Q σ O := ⟨fun M U σc w S hσ => CW.skip ⟨M, U, σ, O, S, hσ, h⟩⟩
theorem PC.ret (h : Q .ret σ O) : PC P n s .ret Q σ O := ⟨fun M U σc w S hσ => CW.ret ⟨M, U, σ, O, S, hσ, h⟩⟩
theorem PC.exit {id : Nat} (h : Q (.exit id) σ O) : PC P n s (.exit id) Q σ O := ⟨fun M U σc w S hσ => CW.exit ⟨M, U, σ, O, S, hσ, h⟩⟩
theorem PC.seq {x y : Code} (h : PC P n s x (thA (PC P n s y Q) Q) σ O) : PC P n s (.seq x y) Q σ O := by
  refine ⟨fun M U σc w S hσ => CW.seq ((h.h M U σc w S hσ).mono ?_)⟩
  rintro e τ w' ⟨M', U', σ', O', S', hσ', hq⟩
  unfold thn
  cases e with
  | normal => exact PC.h hq _ _ _ _ S' hσ'
  | _ => exact ⟨M', U', σ', O', S', hσ', hq⟩
theorem PC.block {id : Nat} {c : Code} (h : PC P n s c (inA id Q) σ O) : PC P n s (.block id c) Q σ O := by
  refine ⟨fun M U σc w S hσ => CW.block ((h.h M U σc w S hσ).mono ?_)⟩
  rintro e τ w' ⟨M', U', σ', O', S', hσ', hq⟩
  unfold inB
  cases e with
  | exit i =>
    simp only [inA] at hq ⊢
    cases hb : Nat.beq i id with
    | true => rw [hb] at hq; exact ⟨M', U', σ', O', S', hσ', hq⟩
    | false => rw [hb] at hq; exact ⟨M', U', σ', O', S', hσ', hq⟩
  | _ => exact ⟨M', U', σ', O', S', hσ', hq⟩
theorem PC.cond {c : Operand} {x y : Code} {b : Bool} (hc : evA σ c = bA b) (ht : b = true → PC P n s x Q σ O) (hf : b = false → PC P n s y Q σ O) : PC P n s (.cond c x y) Q σ O := by
  refine ⟨fun M U σc w S hσ => ?_⟩
  have e := evA_rel hσ c; rw [hc] at e
  exact CW.cond e.int (fun h => (ht h).h M U σc w S hσ) (fun h => (hf h).h M U σc w S hσ)
theorem PC.cond_true {c : Operand} {x y : Code} {b : Bool} (hc : evA σ c = bA b) (h : b = true) (ht : PC P n s x Q σ O) : PC P n s (.cond c x y) Q σ O :=
  PC.cond hc (fun _ => ht) (fun h' => by rw [h] at h'; cases h')
theorem PC.cond_false {c : Operand} {x y : Code} {b : Bool} (hc : evA σ c = bA b) (h : b = false) (ht : PC P n s y Q σ O) : PC P n s (.cond c x y) Q σ O :=
  PC.cond hc (fun h' => by rw [h] at h'; cases h') (fun _ => ht)
theorem PC.region {id : Nat} {l : List Oper} (h : PL P n s l.toArray l Q σ O) : PC P n s (.region id l.toArray false) Q σ O :=
  ⟨fun M U σc w S hσ => CW.region (h.h M U σc w S hσ)⟩
theorem PC.mono {c : Code} {Q' : APost} (h : PC P n s c Q σ O) (hq : ∀ e σ O, Q e σ O → Q' e σ O) : PC P n s c Q' σ O :=
  ⟨fun M U σc w S hσ => (h.h M U σc w S hσ).mono fun e τ w' ⟨M', U', σ', O', S', hσ', q⟩ => ⟨M', U', σ', O', S', hσ', hq _ _ _ q⟩⟩
theorem thA_n {K : Fr → Obs → Prop} (h : K σ O) : thA K Q .normal σ O := h
theorem thA_r {K : Fr → Obs → Prop} (h : Q .ret σ O) : thA K Q .ret σ O := h
theorem thA_e {K : Fr → Obs → Prop} {i : Nat} (h : Q (.exit i) σ O) : thA K Q (.exit i) σ O := h
theorem inA_n {id : Nat} (h : Q .normal σ O) : inA id Q .normal σ O := h
theorem inA_r {id : Nat} (h : Q .ret σ O) : inA id Q .ret σ O := h
theorem inA_eq {id i : Nat} (hi : Nat.beq i id = true) (h : Q .normal σ O) : inA id Q (.exit i) σ O := by show bif Nat.beq i id then _ else _; rw [hi]; exact h
theorem inA_ne {id i : Nat} (hi : Nat.beq i id = false) (h : Q (.exit i) σ O) : inA id Q (.exit i) σ O := by show bif Nat.beq i id then _ else _; rw [hi]; exact h

theorem PL.nil (h : Q .normal σ O) : PL P n s ops [] Q σ O := ⟨fun M U σc w S hσ => LW.nil ⟨M, U, σ, O, S, hσ, h⟩⟩
theorem PL.op {op : Op} {x : AV} (hd : Nat.blt d n = true) (hr : Rd P s O σ op ty x) (k : PL P n s ops rest Q (updA σ d x) O) : PL P n s ops (⟨some d, op, ty, pos, after, none⟩ :: rest) Q σ O := by
  refine ⟨fun M U σc w S hσ => ?_⟩
  obtain ⟨y, hy, hrun⟩ := hr M U w σc S hσ
  exact LW.op hd (hrun w (Agr'.refl _ _ _)) (k.h M U _ w S (hσ.upd d hy))
def gdA (ops : Array Oper) (σ : Fr) (j : Nat) : Option AV := ((ops[j]?).bind (·.dst)).map σ
theorem gdA_gd {w : World} {U : Nat → Prop} {M : Mp} {σc : Nat → Value} (hσ : Rels w U M σ σc) {j : Nat} {b : Bool} (h : gdA ops σ j = some (bA b)) : gd ops σc j = some (.bool b) := by
  unfold gdA at h; unfold gd
  cases hx : (ops[j]?).bind (·.dst) with
  | none => rw [hx] at h; cases h
  | some d =>
    rw [hx] at h
    simp only [Option.map_some, Option.some.injEq] at h ⊢
    have := hσ d
    rw [h] at this
    exact this.int
theorem gd_none {σc : Nat → Value} {a : Act} (ha : Rp n a σc) {j : Nat} (h : gd ops σc j = some undef) : yielded ops a.tmps j = none := by
  unfold gd at h
  unfold yielded
  cases hx : (ops[j]?).bind (·.dst) with
  | none => simp
  | some d =>
    rw [hx] at h
    simp only [Option.map_some, Option.some.injEq] at h
    have h1 := ha.get d
    rw [h] at h1
    simp only [Option.bind_some]
    cases hy : a.tmps[d]? with
    | none => rfl
    | some v => simp [hy, undef] at h1; simp [h1]
theorem gdA_un {w : World} {U : Nat → Prop} {M : Mp} {σc : Nat → Value} (hσ : Rels w U M σ σc) {j : Nat} (h : gdA ops σ j = some (.tup [])) : gd ops σc j = some undef := by
  unfold gdA at h; unfold gd
  cases hx : (ops[j]?).bind (·.dst) with
  | none => rw [hx] at h; cases h
  | some d =>
    rw [hx] at h
    simp only [Option.map_some, Option.some.injEq] at h ⊢
    have := hσ d
    rw [h] at this
    generalize σc d = y at this
    cases this with | tup _ ys hl _ => have : ys = [] := List.eq_nil_of_length_eq_zero hl; subst this; rfl
theorem LW.guard_un {σc : Nat → Value} {w : World} {Q : Post} {d : Option Nat} {op : Op} {j : Nat} {want : Bool} (hg : gd ops σc j = some undef) (hd : (match d with | some d => Nat.blt d n | none => true) = true)
    (h2 : LW P n ops rest Q (V.put σc d undef) w) : LW P n ops (⟨d, op, ty, pos, after, some (j, want)⟩ :: rest) Q σc w := by
  constructor
  intro a ha
  have hy := gd_none ha hg
  have hw : Region.wanted ⟨d, op, ty, pos, after, some (j, want)⟩ (yielded ops a.tmps) = false := by
    simp [Region.wanted, hy]
  unfold wpList
  rw [hw, if_neg (by simp)]
  cases d with
  | none => exact h2.h a ha
  | some d => exact h2.h _ (ha.put d undef hd)
def putA (σ : Fr) (d : Option Nat) (x : AV) : Fr := match d with | some d => updA σ d x | none => σ
theorem PL.guard {d : Option Nat} {op : Op} {j : Nat} {want b : Bool} (hg : gdA ops σ j = some (bA b)) (hd : (match d with | some d => Nat.blt d n | none => true) = true)
    (h1 : b = want → PL P n s ops (⟨d, op, ty, pos, after, none⟩ :: rest) Q σ O) (h2 : b = (!want) → PL P n s ops rest Q (putA σ d (.tup [])) O) : PL P n s ops (⟨d, op, ty, pos, after, some (j, want)⟩ :: rest) Q σ O := by
  refine ⟨fun M U σc w S hσ => LW.guard (gdA_gd hσ hg) hd (fun e => (h1 e).h M U σc w S hσ) (fun e => (h2 e).h M U _ w S ?_)⟩
  cases d with
  | none => exact hσ
  | some d => exact hσ.upd d (.tup [] [] rfl (fun j c y h => by simp at h))
/-- What hangs on a step that was left out is left out. -/
theorem PL.guard_un {d : Option Nat} {op : Op} {j : Nat} {want : Bool} (hg : gdA ops σ j = some (.tup [])) (hd : (match d with | some d => Nat.blt d n | none => true) = true)
    (h2 : PL P n s ops rest Q (putA σ d (.tup [])) O) : PL P n s ops (⟨d, op, ty, pos, after, some (j, want)⟩ :: rest) Q σ O := by
  refine ⟨fun M U σc w S hσ => LW.guard_un (gdA_un hσ hg) hd (h2.h M U _ w S ?_)⟩
  cases d with
  | none => exact hσ
  | some d => exact hσ.upd d (.tup [] [] rfl (fun j c y h => by simp at h))
theorem PL.guard_on {d : Option Nat} {op : Op} {j : Nat} {want b : Bool} (hg : gdA ops σ j = some (bA b)) (hb : b = want)
    (h1 : PL P n s ops (⟨d, op, ty, pos, after, none⟩ :: rest) Q σ O) : PL P n s ops (⟨d, op, ty, pos, after, some (j, want)⟩ :: rest) Q σ O :=
  ⟨fun M U σc w S hσ => LW.guard_on (gdA_gd hσ hg) hb (h1.h M U σc w S hσ)⟩
theorem PL.guard_off {d : Option Nat} {op : Op} {j : Nat} {want b : Bool} (hg : gdA ops σ j = some (bA b)) (hd : (match d with | some d => Nat.blt d n | none => true) = true) (hb : b = !want)
    (h2 : PL P n s ops rest Q (putA σ d (.tup [])) O) : PL P n s ops (⟨d, op, ty, pos, after, some (j, want)⟩ :: rest) Q σ O :=
  PL.guard hg hd (fun e => by rw [e] at hb; cases want <;> simp at hb) (fun _ => h2)

/-! ### Memory turned -/
theorem Fz.old {M : Mp} {w w' : World} (h : w.heap.size ≤ w'.heap.size) {B : Nat} (hB : Fz M w B) : Fz M w' B := ⟨Nat.lt_of_lt_of_le hB.1 h, hB.2⟩
theorem Mem.below {M : Mp} {U : Nat → Prop} {w w' : World} (S : Mem s M O U w) (hb : Below w.heap.size w w') : Mem s M O U w' := by
  refine ⟨S.base.trans (BelowX.of _ hb), S.lent, S.len, fun B hB => Nat.lt_of_lt_of_le (S.lt B hB) hb.size, S.fresh, S.one, fun b ob x hO hM => ?_, fun B hB => ⟨(S.u B hB).1.old hb.size, (S.u B hB).2⟩⟩
  have := S.own b ob x hO hM
  cases x with
  | nl => exact this
  | dead => exact this
  | ad L =>
    obtain ⟨h1, h2, cur, h3, h4, h5⟩ := this
    refine ⟨h1, h2, cur, by rw [hb.block _ (S.lt _ ⟨b, L, hM, rfl⟩)]; exact h3, h4, fun j c hc => ?_⟩
    obtain ⟨y, hy, hy1, hy2⟩ := h5 j c hc
    exact ⟨y, hy, hy1, hy2.mono (fun B hB => hb.block _ (S.u B hB).1.1) (fun B hB => hB) (fun _ _ e => e)⟩
theorem Rel.keepB {M : Mp} {U : Nat → Prop} {w w' : World} (S : Mem s M O U w) (hb : Below w.heap.size w w') {c : AV} {y : Value} (h : Rel w U M c y) : Rel w' U M c y :=
  h.mono (fun B hB => hb.block _ (S.u B hB).1.1) (fun B hB => hB) (fun _ _ e => e)
theorem snoc_get {α : Type} {l : List α} {x y : α} {b : Nat} (h : (l ++ [x])[b]? = some y) : (l[b]? = some y) ∨ (b = l.length ∧ y = x) := by
  rcases Nat.lt_trichotomy b l.length with h1 | h1 | h1
  · rw [List.getElem?_append_left h1] at h; exact .inl h
  · subst h1; simp at h; exact .inr ⟨rfl, h.symm⟩
  · rw [List.getElem?_append_right (by omega)] at h
    have : ([x] : List α)[b - l.length]? = none := List.getElem?_eq_none (by simp; omega)
    rw [this] at h; cases h
theorem snoc_old {α : Type} {l : List α} {x y : α} {b : Nat} (h : l[b]? = some y) : (l ++ [x])[b]? = some y := by
  rw [List.getElem?_append_left (List.getElem?_eq_some_iff.1 h).1]; exact h
theorem snoc_new {α : Type} {l : List α} {x : α} {b : Nat} (h : b = l.length) : (l ++ [x])[b]? = some x := by subst h; simp
/-- A new block becomes the call's own. -/
theorem Mem.ins {M : Mp} {U : Nat → Prop} {w w' : World} {L : Loc} {ob : Ob} (S : Mem s M O U w) (hb : Below w.heap.size w w') (hg : w.heap.size ≤ L.blk) (hlt : L.blk < w'.heap.size)
    (hB : (∃ cur : Array Value, L.k = ob.k ∧ L.off + ob.cells.length ≤ L.size ∧ w'.heap[L.blk]? = some (.cells cur ob.ty (0, 0)) ∧ cur.size = L.size ∧ ∀ (j : Nat) c, ob.cells[j]? = some c → ∃ y, cur[L.off + j]? = some y ∧ y.oneCell' = true ∧ Rel w U M c y)) :
    Mem s (M ++ [.ad L]) (O ++ [some ob]) U w' ∧ (∀ c z, Rel w U M c z → Rel w' U (M ++ [.ad L]) c z) := by
  have hrel : ∀ c z, Rel w U M c z → Rel w' U (M ++ [.ad L]) c z := fun c z h => h.mono (fun B hB => hb.block _ (S.u B hB).1.1) (fun B hB => hB) (fun b x e => snoc_old e)
  refine ⟨⟨S.base.trans (BelowX.of _ hb), fun b x h => snoc_old (S.lent b x h), by simp [S.len], ?_, ?_, ?_, ?_, fun B hB => ⟨⟨Nat.lt_of_lt_of_le (S.u B hB).1.1 hb.size, by
    rintro ⟨b, L', h1, h2⟩
    rcases snoc_get h1 with h3 | ⟨_, h3⟩
    · exact (S.u B hB).1.2 ⟨b, L', h3, h2⟩
    · cases h3; have := (S.u B hB).1.1; omega⟩, (S.u B hB).2⟩⟩, hrel⟩
  · rintro B ⟨b, L', h1, rfl⟩
    rcases snoc_get h1 with h3 | ⟨_, h3⟩
    · exact Nat.lt_of_lt_of_le (S.lt _ ⟨b, L', h3, rfl⟩) hb.size
    · cases h3; exact hlt
  · rintro B ⟨b, L', h1, rfl⟩
    rcases snoc_get h1 with h3 | ⟨_, h3⟩
    · exact S.fresh _ ⟨b, L', h3, rfl⟩
    · cases h3; exact .inl (Nat.le_trans S.base.size hg)
  · intro b b' L1 L2 h1 h2 e
    rcases snoc_get h1 with h3 | ⟨h3, h3'⟩ <;> rcases snoc_get h2 with h4 | ⟨h4, h4'⟩
    · exact S.one b b' L1 L2 h3 h4 e
    · cases h4'; have := S.lt _ ⟨b, L1, h3, rfl⟩; omega
    · cases h3'; have := S.lt _ ⟨b', L2, h4, rfl⟩; omega
    · omega
  · intro b ob' x hO hM
    rcases snoc_get hM with h3 | ⟨h3, h3'⟩
    · have hO' : O[b]? = some (some ob') := by
        rcases snoc_get hO with h4 | ⟨h4, _⟩
        · exact h4
        · have := (List.getElem?_eq_some_iff.1 h3).1; rw [S.len] at this; omega
      have := S.own b ob' x hO' h3
      cases x with
      | nl => exact this
      | dead => exact this
      | ad L' =>
        obtain ⟨h1, h2, cur, h5, h6, h7⟩ := this
        refine ⟨h1, h2, cur, by rw [hb.block _ (S.lt _ ⟨b, L', h3, rfl⟩)]; exact h5, h6, fun j c hc => ?_⟩
        obtain ⟨y, hy, hy1, hy2⟩ := h7 j c hc
        exact ⟨y, hy, hy1, hrel _ _ hy2⟩
    · subst h3'
      rcases snoc_get hO with h4 | ⟨h4, h4'⟩
      · have := (List.getElem?_eq_some_iff.1 h4).1; rw [h3, S.len] at this; omega
      · cases h4'
        obtain ⟨cur, h1, h2, h5, h6, h7⟩ := hB
        refine ⟨h1, h2, cur, h5, h6, fun j c hc => ?_⟩
        obtain ⟨y, hy, hy1, hy2⟩ := h7 j c hc
        exact ⟨y, hy, hy1, hrel _ _ hy2⟩
/-- A nil slice becomes the call's own. -/
theorem Mem.insN {M : Mp} {U : Nat → Prop} {w w' : World} (ty : TypeId) (k : Nat) (S : Mem s M O U w) (hb : Below w.heap.size w w') : Mem s (M ++ [.nl]) (O ++ [some ⟨.tr [], ty, k⟩]) U w' ∧ (∀ c z, Rel w U M c z → Rel w' U (M ++ [.nl]) c z) := by
  have hin : ∀ B, InM (M ++ [.nl]) B → InM M B := by
    rintro B ⟨b, L', h1, h2⟩
    rcases snoc_get h1 with h3 | ⟨_, h3⟩
    · exact ⟨b, L', h3, h2⟩
    · cases h3
  have hrel : ∀ c z, Rel w U M c z → Rel w' U (M ++ [.nl]) c z := fun c z h => h.mono (fun B hB => hb.block _ (S.u B hB).1.1) (fun B hB => hB) (fun b x e => snoc_old e)
  refine ⟨⟨S.base.trans (BelowX.of _ hb), fun b x h => snoc_old (S.lent b x h), by simp [S.len], fun B hB => Nat.lt_of_lt_of_le (S.lt B (hin B hB)) hb.size, fun B hB => S.fresh B (hin B hB), ?_, ?_, fun B hB => ⟨⟨Nat.lt_of_lt_of_le (S.u B hB).1.1 hb.size, fun h => (S.u B hB).1.2 (hin B h)⟩, (S.u B hB).2⟩⟩, hrel⟩
  · intro b b' L1 L2 h1 h2 e
    rcases snoc_get h1 with h3 | ⟨h3, h3'⟩ <;> rcases snoc_get h2 with h4 | ⟨h4, h4'⟩
    · exact S.one b b' L1 L2 h3 h4 e
    · cases h4'
    · cases h3'
    · omega
  · intro b ob' x hO hM
    rcases snoc_get hM with h3 | ⟨h3, h3'⟩
    · have hO' : O[b]? = some (some ob') := by
        rcases snoc_get hO with h4 | ⟨h4, _⟩
        · exact h4
        · have := (List.getElem?_eq_some_iff.1 h3).1; rw [S.len] at this; omega
      have := S.own b ob' x hO' h3
      cases x with
      | nl => exact this
      | dead => exact this
      | ad L' =>
        obtain ⟨h1, h2, cur, h5, h6, h7⟩ := this
        refine ⟨h1, h2, cur, by rw [hb.block _ (S.lt _ ⟨b, L', h3, rfl⟩)]; exact h5, h6, fun j c hc => ?_⟩
        obtain ⟨y, hy, hy1, hy2⟩ := h7 j c hc
        exact ⟨y, hy, hy1, hrel _ _ hy2⟩
    · subst h3'
      rcases snoc_get hO with h4 | ⟨h4, h4'⟩
      · have := (List.getElem?_eq_some_iff.1 h4).1; rw [h3, S.len] at this; omega
      · cases h4'; rfl
/-- One of the own blocks holds other cells now. -/
theorem Mem.turn {M : Mp} {U : Nat → Prop} {w w' : World} {b : Nat} {L : Loc} {ob' : Ob} (S : Mem s M O U w) (hM : M[b]? = some (.ad L)) (hb : BelowX [L.blk] w w') (hlt : b < O.length)
    (hB : L.k = ob'.k ∧ L.off + ob'.cells.length ≤ L.size ∧ ∃ cur : Array Value, w'.heap[L.blk]? = some (.cells cur ob'.ty (0, 0)) ∧ cur.size = L.size ∧ ∀ (j : Nat) c, ob'.cells[j]? = some c → ∃ y, cur[L.off + j]? = some y ∧ y.oneCell' = true ∧ Rel w U M c y) :
    Mem s M (O.set b (some ob')) U w' ∧ (∀ c z, Rel w U M c z → Rel w' U M c z) := by
  have hne : ∀ B, U B → w'.heap[B]? = w.heap[B]? := fun B hB => hb.block B (S.u B hB).1.1 (fun h => by
    simp at h; subst h; exact (S.u _ hB).1.2 ⟨b, L, hM, rfl⟩)
  have hrel : ∀ c z, Rel w U M c z → Rel w' U M c z := fun c z h => h.mono hne (fun B hB => hB) (fun _ _ e => e)
  refine ⟨⟨?_, S.lent, by simp [S.len], fun B hB => Nat.lt_of_lt_of_le (S.lt B hB) hb.size, S.fresh, S.one, ?_, fun B hB => ⟨(S.u B hB).1.old hb.size, (S.u B hB).2⟩⟩, hrel⟩
  · refine ⟨hb.os.trans S.base.os, hb.tape.trans S.base.tape, hb.output.trans S.base.output, Nat.le_trans S.base.size hb.size, fun k hk hx => ?_⟩
    rw [hb.block k (Nat.lt_of_lt_of_le hk S.base.size) (fun e => by
      simp at e; subst e
      rcases S.fresh _ ⟨b, L, hM, rfl⟩ with h1 | h1
      · omega
      · exact hx h1)]
    exact S.base.block k hk hx
  · intro b1 ob x hO hM1
    by_cases hbb : b1 = b
    · subst hbb
      rw [hM] at hM1; cases hM1
      rw [List.getElem?_set_self hlt] at hO; cases hO
      obtain ⟨h1, h2, cur, h5, h6, h7⟩ := hB
      refine ⟨h1, h2, cur, h5, h6, fun j c hc => ?_⟩
      obtain ⟨y, hy, hy1, hy2⟩ := h7 j c hc
      exact ⟨y, hy, hy1, hrel _ _ hy2⟩
    · rw [List.getElem?_set_ne (Ne.symm hbb)] at hO
      have := S.own b1 ob x hO hM1
      cases x with
      | nl => exact this
      | dead => exact this
      | ad L' =>
        obtain ⟨h1, h2, cur, h5, h6, h7⟩ := this
        refine ⟨h1, h2, cur, by rw [hb.block _ (S.lt _ ⟨b1, L', hM1, rfl⟩) (fun e => by simp at e; exact hbb (S.one b1 b L' L hM1 hM e))]; exact h5, h6, fun j c hc => ?_⟩
        obtain ⟨y, hy, hy1, hy2⟩ := h7 j c hc
        exact ⟨y, hy, hy1, hrel _ _ hy2⟩

/-- A step that turns memory. -/
theorem PL.eff {op : Op} {x : AV} {O' : Obs} (hd : Nat.blt d n = true)
    (h : ∀ M U w σc, Mem s M O U w → Rels w U M σ σc → ∃ y w' M', Yl P σc op ty w y w' ∧ Mem s M' O' U w' ∧ Rel w' U M' x y ∧ (∀ c z, Rel w U M c z → Rel w' U M' c z))
    (k : PL P n s ops rest Q (updA σ d x) O') : PL P n s ops (⟨some d, op, ty, pos, after, none⟩ :: rest) Q σ O := by
  refine ⟨fun M U σc w S hσ => ?_⟩
  obtain ⟨y, w', M', hrun, S', hx, hall⟩ := h M U w σc S hσ
  have hσ' : Rels w' U M' σ σc := fun t => hall _ _ (hσ t)
  exact LW.op hd hrun (k.h M' U _ w' S' (hσ'.upd d hx))
def isC : AV → Bool
  | .t _ | .os _ _ _ | .op _ _ | .fn _ _ => true
  | _ => false
theorem TRel.cell {w : World} {U : Nat → Prop} {c : Tr} {y : Value} (h : TRel w U c y) : y.oneCell' = true := by
  cases h with
  | v x h => exact plain_cell h
  | _ => rfl
theorem Rel.cell {w : World} {U : Nat → Prop} {M : Mp} {c : AV} {y : Value} (h : Rel w U M c y) (hc : isC c = true) : y.oneCell' = true := by
  cases h <;> first | rfl | assumption | exact TRel.cell ‹_› | cases hc
/-- The cells of a value. -/
def cellsA : AV → List AV
  | .agg cs => cs
  | c => [c]
def wholeA : AV → Bool
  | .agg _ => true
  | c => isC c
theorem Rel.cells {w : World} {U : Nat → Prop} {M : Mp} {c : AV} {y : Value} (h : Rel w U M c y) (hc : wholeA c = true) :
    y.cells.size = (cellsA c).length ∧ ∀ (j : Nat) d, (cellsA c)[j]? = some d → ∃ z, y.cells[j]? = some z ∧ z.oneCell' = true ∧ Rel w U M d z := by
  have one : isC c = true → (cellsA c = [c]) → y.cells = #[y] → y.cells.size = (cellsA c).length ∧ ∀ (j : Nat) d, (cellsA c)[j]? = some d → ∃ z, y.cells[j]? = some z ∧ z.oneCell' = true ∧ Rel w U M d z := by
    intro h1 h2 h3
    rw [h2, h3]
    refine ⟨rfl, fun j d hd => ?_⟩
    cases j with
    | zero => simp at hd; subst hd; exact ⟨y, rfl, h.cell h1, h⟩
    | succ j => simp at hd
  cases h with
  | any y => cases hc
  | tup cs ys => cases hc
  | t c y h =>
    refine one rfl rfl ?_
    cases h with
    | v _ h => cases y <;> first | rfl | (simp [plain] at h)
    | _ => rfl
  | agg cs ys hl h1 hr =>
    refine ⟨by simpa [Value.cells, cellsA] using hl, fun j d hd => ?_⟩
    have hj : j < ys.length := by rw [hl]; exact (List.getElem?_eq_some_iff.1 hd).1
    have hy : ys[j]? = some ys[j] := List.getElem?_eq_getElem hj
    exact ⟨ys[j], by simp [Value.cells, hy], h1 _ (List.getElem_mem hj), hr j d _ hd hy⟩
  | osd _ _ _ _ h1 _ => exact one rfl rfl (by cases y <;> first | rfl | cases h1)
  | opd _ _ _ h1 _ => exact one rfl rfl (by cases y <;> first | rfl | cases h1)
  | _ => exact one rfl rfl rfl
/-- A step that makes a block. -/
def Ef (P : Program) (s : Bs) (O : Obs) (σ : Fr) (op : Op) (ty : TypeId) (x : AV) (O' : Obs) : Prop :=
  ∀ M U w σc, Mem s M O U w → Rels w U M σ σc → ∃ y w' p, Yl P σc op ty w y w' ∧ Mem s (M ++ [p]) O' U w' ∧ Rel w' U (M ++ [p]) x y ∧ (∀ c z, Rel w U M c z → Rel w' U (M ++ [p]) c z) ∧ BelowX [] w w' ∧ ∀ L, p = .ad L → w.heap.size ≤ L.blk
theorem PL.ef {op : Op} {x : AV} {O' : Obs} (hd : Nat.blt d n = true) (h : Ef P s O σ op ty x O') (k : PL P n s ops rest Q (updA σ d x) O') : PL P n s ops (⟨some d, op, ty, pos, after, none⟩ :: rest) Q σ O :=
  PL.eff hd (fun M U w σc S hσ => by obtain ⟨y, w', p, h1, h2, h3, h4, _⟩ := h M U w σc S hσ; exact ⟨y, w', _, h1, h2, h3, h4⟩) k
theorem Ef.box {t : TypeId} {x : Operand} {v : AV} {cs : List AV} (hx : evA σ x = v) (hw : wholeA v = true) (hc : cellsA v = cs) : Ef P s O σ (.box t x) ty (.op O.length 0) (O ++ [some ⟨.mx cs, t, 0⟩]) := by
  intro M U w σc S hσ
  have e := evA_rel hσ x
  rw [hx] at e
  obtain ⟨h1, h2⟩ := e.cells hw
  rw [hc] at h1 h2
  obtain ⟨S', hall⟩ := S.ins (w' := w.alloc (.cells (ev σc x).cells t)) (L := ⟨w.heap.size, (ev σc x).cells.size, 0⟩) (ob := ⟨.mx cs, t, 0⟩) ((Below.refl _ _).alloc (Nat.le_refl _) _) (Nat.le_refl _) (by simp)
    (⟨(ev σc x).cells, rfl, by simp [h1, Ob.cells, Cs.list, Loc.off], heap_alloc_new _ _, rfl, fun j c hj => by simpa [Loc.off] using h2 j c hj⟩)
  refine ⟨.pointer (some ⟨w.heap.size, 0, none⟩), _, _, Yl.mk fun d pos after g => ?_, S', ?_, hall, BelowX.of _ ((Below.refl _ _).alloc (Nat.le_refl _) _), fun L h => by cases h; exact Nat.le_refl _⟩
  · simp [execOp, Instr.box, newVar, newRow]
  · have := Rel.op (w := w.alloc (.cells (ev σc x).cells t)) (U := U) (M := M ++ [.ad ⟨w.heap.size, (ev σc x).cells.size, 0⟩]) O.length 0 ⟨w.heap.size, (ev σc x).cells.size, 0⟩ (snoc_new S.len.symm)
    exact this
theorem PL.box {t : TypeId} {x : Operand} {v : AV} {cs : List AV} (hd : Nat.blt d n = true) (hx : evA σ x = v) (hw : wholeA v = true) (hc : cellsA v = cs)
    (k : PL P n s ops rest Q (updA σ d (.op O.length 0)) (O ++ [some ⟨.mx cs, t, 0⟩])) : PL P n s ops (⟨some d, .box t x, ty, pos, after, none⟩ :: rest) Q σ O := PL.ef hd (Ef.box hx hw hc) k
/-- A variable of zeros. -/
theorem Ef.alloc {t : TypeId} {z : Value} {cs : List AV} [Z : CZ P t z] (hz : z.cells.toList.all plain = true) (hc : z.cells.toList.map (fun x => AV.t (.v x)) = cs) : Ef P s O σ (.alloc t) ty (.op O.length 0) (O ++ [some ⟨.mx cs, t, 0⟩]) := by
  intro M U w σc S hσ
  have hall' : ∀ x, x ∈ z.cells.toList → plain x = true := fun x hx => List.all_eq_true.1 hz x hx
  obtain ⟨S', hall⟩ := S.ins (w' := w.alloc (.cells z.cells t)) (L := ⟨w.heap.size, z.cells.size, 0⟩) (ob := ⟨.mx cs, t, 0⟩) ((Below.refl _ _).alloc (Nat.le_refl _) _) (Nat.le_refl _) (by simp)
    (⟨z.cells, rfl, by simp [← hc, Ob.cells, Cs.list, Loc.off], heap_alloc_new _ _, rfl, fun j c hj => by
      simp only [← hc, Ob.cells, Cs.list, List.getElem?_map] at hj
      cases hq : z.cells.toList[j]? with
      | none => rw [hq] at hj; cases hj
      | some q =>
        rw [hq] at hj
        simp only [Option.map_some, Option.some.injEq] at hj
        subst hj
        have hp := hall' q (get_mem hq)
        exact ⟨q, by simpa [Loc.off] using hq, plain_cell hp, .t _ _ (.v _ hp)⟩⟩)
  refine ⟨.pointer (some ⟨w.heap.size, 0, none⟩), _, _, Yl.mk fun d pos after g => ?_, S', ?_, hall, BelowX.of _ ((Below.refl _ _).alloc (Nat.le_refl _) _), fun L h => by cases h; exact Nat.le_refl _⟩
  · simp [execOp, Instr.alloc, Z.run, newVar, newRow]
  · have := Rel.op (w := w.alloc (.cells z.cells t)) (U := U) (M := M ++ [.ad ⟨w.heap.size, z.cells.size, 0⟩]) O.length 0 ⟨w.heap.size, z.cells.size, 0⟩ (snoc_new S.len.symm)
    exact this
theorem PL.alloc {t : TypeId} {z : Value} {cs : List AV} [Z : CZ P t z] (hd : Nat.blt d n = true) (hz : z.cells.toList.all plain = true) (hc : z.cells.toList.map (fun x => AV.t (.v x)) = cs)
    (k : PL P n s ops rest Q (updA σ d (.op O.length 0)) (O ++ [some ⟨.mx cs, t, 0⟩])) : PL P n s ops (⟨some d, .alloc t, ty, pos, after, none⟩ :: rest) Q σ O := PL.ef hd (Ef.alloc hz hc) k
/-- A store into a block of the call's own. -/
theorem store_core {t : TypeId} {x y : Operand} {b j m : Nat} {ob ob' : Ob} {v : AV} {cs : List AV} [Z : CS P t m] (hx : evA σ x = .op b j) (hy : evA σ y = v) (hw : wholeA v = true) (hc : cellsA v = cs) (hm : cs.length = m) (hO : O[b]? = some (some ob)) (hj : j + m ≤ ob.cells.length)
    (hc' : ob'.cells = ob.cells.take j ++ cs ++ ob.cells.drop (j + m)) (ht' : ob'.ty = ob.ty) (hk' : ob'.k = ob.k)
    {M : Mp} {U : Nat → Prop} {σc : Nat → Value} {w : World} (S : Mem s M O U w) (hσ : Rels w U M σ σc) :
    ∃ w' L, (execOp (ev σc) ⟨none, .store t x y, ty, pos, after, none⟩).run P w = .ok .skip w' ∧ Mem s M (O.set b (some ob')) U w' ∧ (∀ c z, Rel w U M c z → Rel w' U M c z) ∧ M[b]? = some (.ad L) ∧ BelowX [L.blk] w w' := by
  have e := evA_rel hσ x; rw [hx] at e
  generalize hx' : ev σc x = u at e
  cases e with
  | opd _ _ _ _ hM => exact (S.own _ _ _ hO hM).elim
  | op _ _ L hM =>
    have e := evA_rel hσ y; rw [hy] at e
    obtain ⟨h1, h2⟩ := e.cells hw
    rw [hc, hm] at h1
    rw [hc] at h2
    obtain ⟨hk, hle, cur, hcur, hsz, hr⟩ := S.own b ob _ hO hM
    have hone : ∀ q, q ∈ (ev σc y).cells.toList → q.oneCell' = true := fun q hq => by
      obtain ⟨i, hi⟩ := mem_get hq
      have hil : i < cs.length := by
        have := (List.getElem?_eq_some_iff.1 hi).1; simp at this; omega
      obtain ⟨z, hz, hz1, _⟩ := h2 i _ (List.getElem?_eq_getElem hil)
      have : (ev σc y).cells[i]? = some q := by simpa using hi
      rw [this] at hz; cases hz; exact hz1
    have hst := run_storeCells_at P L.blk (L.off + j) ob.ty (ev σc y).cells.toList 0 cur w hcur (by simp; omega) hone
    simp only [Nat.add_zero, Array.length_toList, h1] at hst
    let new := (cur.toList.take (L.off + j) ++ (ev σc y).cells.toList ++ cur.toList.drop (L.off + j + m)).toArray
    have hlist : ∀ i, new[i]? = if i < L.off + j then cur[i]? else if i < L.off + j + m then (ev σc y).cells[i - (L.off + j)]? else cur[i]? := by
      intro i
      simp only [new, List.getElem?_toArray, List.getElem?_append, List.getElem?_take, List.getElem?_drop, List.length_append, List.length_take, Array.length_toList, h1, hsz, Array.getElem?_toList]
      have h3 : min (L.off + j) L.size = L.off + j := by omega
      rw [h3]
      by_cases c1 : i < L.off + j
      · rw [if_pos (by omega), if_pos c1, if_pos c1, if_pos c1]
      · by_cases c2 : i < L.off + j + m
        · rw [if_pos c2, if_neg c1, if_neg c1, if_pos c2]
        · rw [if_neg c2, if_neg c1, if_neg c2]; congr 1; omega
    obtain ⟨S', hall⟩ := S.turn (w' := w.setRow L.blk new) (ob' := ob') hM ⟨rfl, rfl, rfl, by simp, fun k hk hx => setRow_other _ _ _ _ (by simpa using hx)⟩ (List.getElem?_eq_some_iff.1 hO).1
      ⟨by rw [hk', hk], by rw [hc']; simp; omega, new, by rw [ht']; exact setRow_heap _ _ _ _ _ _ hcur, by simp [new, h1]; omega, fun i c hi => by
        rw [hc'] at hi
        rw [hlist]
        simp only [List.getElem?_append, List.getElem?_take, List.getElem?_drop, List.length_append, List.length_take] at hi
        have h3 : min j ob.cells.length = j := by omega
        rw [h3, hm] at hi
        by_cases c1 : i < j
        · rw [if_pos (by omega), if_pos c1, if_pos c1] at hi
          rw [if_pos (by omega)]; exact hr i c hi
        · by_cases c2 : i < j + m
          · rw [if_pos c2, if_neg c1] at hi
            rw [if_neg (by omega), if_pos (by omega), show L.off + i - (L.off + j) = i - j by omega]; exact h2 _ _ hi
          · rw [if_neg c2] at hi
            rw [if_neg (by omega), if_neg (by omega)]
            exact hr i c (by rw [← hi]; congr 1; omega)⟩
    refine ⟨w.setRow L.blk new, L, ?_, S', hall, hM, ⟨rfl, rfl, rfl, by simp, fun k hk hx => setRow_other _ _ _ _ (by simpa using hx)⟩⟩
    have hsz2 : (ev σc y).cells.size = m := h1
    simp only [execOp, hx', Instr.storeAt, Instr.sureAddr, Sem.run_bind, Sem.run_pure, Result.andThen_ok, storeVar, Z.run]
    simp [hst, hsz2, new]
theorem PL.storeG {t : TypeId} {x y : Operand} {b j m : Nat} {ob ob' : Ob} {v : AV} {cs : List AV} [Z : CS P t m] (hx : evA σ x = .op b j) (hy : evA σ y = v) (hw : wholeA v = true) (hc : cellsA v = cs) (hm : cs.length = m) (hO : O[b]? = some (some ob)) (hj : j + m ≤ ob.cells.length)
    (hc' : ob'.cells = ob.cells.take j ++ cs ++ ob.cells.drop (j + m)) (ht' : ob'.ty = ob.ty) (hk' : ob'.k = ob.k)
    (k : PL P n s ops rest Q σ (O.set b (some ob'))) : PL P n s ops (⟨none, .store t x y, ty, pos, after, none⟩ :: rest) Q σ O := by
  refine ⟨fun M U σc w S hσ => ?_⟩
  obtain ⟨w', L, hrun, S', hall, _⟩ := store_core (P := P) (t := t) (ty := ty) (pos := pos) (after := after) hx hy hw hc hm hO hj hc' ht' hk' S hσ
  exact LW.op0 (w' := w') hrun (k.h M U σc _ S' fun t => hall _ _ (hσ t))
theorem PL.store {t : TypeId} {x y : Operand} {b j m k0 : Nat} {T' : TypeId} {v : AV} {cs ds : List AV} [Z : CS P t m] (hx : evA σ x = .op b j) (hy : evA σ y = v) (hw : wholeA v = true) (hc : cellsA v = cs) (hm : cs.length = m) (hO : O[b]? = some (some ⟨.mx ds, T', k0⟩)) (hj : Nat.ble (j + m) ds.length = true)
    (k : PL P n s ops rest Q σ (O.set b (some ⟨.mx (ds.take j ++ cs ++ ds.drop (j + m)), T', k0⟩))) : PL P n s ops (⟨none, .store t x y, ty, pos, after, none⟩ :: rest) Q σ O :=
  PL.storeG hx hy hw hc hm hO (Nat.le_of_ble_eq_true hj) (ob' := ⟨.mx (ds.take j ++ cs ++ ds.drop (j + m)), T', k0⟩) rfl rfl rfl k
theorem PL.storeT {t : TypeId} {x y : Operand} {b j m k0 : Nat} {T' : TypeId} {v : AV} {cs ds : List Tr} [Z : CS P t m] (hx : evA σ x = .op b j) (hy : evA σ y = v) (hw : wholeA v = true) (hc : cellsA v = cs.map .t) (hm : cs.length = m) (hO : O[b]? = some (some ⟨.tr ds, T', k0⟩)) (hj : j + m ≤ ds.length)
    (k : PL P n s ops rest Q σ (O.set b (some ⟨.tr (ds.take j ++ cs ++ ds.drop (j + m)), T', k0⟩))) : PL P n s ops (⟨none, .store t x y, ty, pos, after, none⟩ :: rest) Q σ O :=
  PL.storeG hx hy hw hc (by simpa using hm) hO (by simpa [Ob.cells, Cs.list] using hj) (ob' := ⟨.tr (ds.take j ++ cs ++ ds.drop (j + m)), T', k0⟩) (by simp [Ob.cells, Cs.list]) rfl rfl k
end
end V
end Go.Proofs.Ytoljdhdfijnjiaa
