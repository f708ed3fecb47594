/- Equality of structs of numbers and flags. No condition. -/
import Derived.Laws.StructEq
import Derived.ChangeKeysEq
import Derived.Test.YtifcacahgiihoaaAbsN
import Derived.Test.YtifcacahgiihoaaTypes
namespace Go.Proofs.Ytifcacahgiihoaa
namespace V
open Enc (enc)
set_option linter.unusedVariables false
set_option linter.unusedSimpArgs false
open Go.RowKit

def eqB (P : Program) : Nat → List Field → List Nat → Bool
  | _, [], [] => true
  | i, f :: fs, k :: ks => f.name != "_" && P.plainKey f.type && Nat.beq f.offset i && (match P.underlying f.type, k with | some .bool, 0 => true | some (.int _), 1 => true | _, _ => false) && eqB P (i + 1) fs ks
  | _, _, _ => false
/-- A struct type whose fields are flags (0) and numbers (1). -/
class CEq (P : Program) (t : TypeId) (ks : outParam (List Nat)) : Prop where
  st : P.underlying t = some (.struct (P.fieldsOf t))
  held : P.stoodInHeld t = false
  gt : P.eqGuardType P.depth t = false
  fs : eqB P 0 (P.fieldsOf t).toList ks = true
def fitK : Nat → Value → Bool
  | 0, .bool _ => true
  | 1, .int .i64 _ => true
  | _, _ => false
def fitL : List Nat → List Value → Bool
  | [], [] => true
  | k :: ks, v :: vs => fitK k v && fitL ks vs
  | _, _ => false
def valT : Tr → Value
  | .v x => x
  | _ => undef
variable {P : Program} {w : World}
theorem eq_cell {t : TypeId} {k : Nat} {x y : Value} (D : Nat) (hu : (match P.underlying t, k with | some .bool, 0 => true | some (.int _), 1 => true | _, _ => false) = true) (hx : fitK k x = true) (hy : fitK k y = true) :
    ∃ r, (Op.equalIn (D + 1) t x y).run P w = .ok r w ∧ (r = true ↔ x = y) := by
  match k, x, y, hx, hy with
  | 0, .bool a, .bool b, _, _ =>
    cases h : P.underlying t with
    | none => rw [h] at hu; cases hu
    | some u =>
      rw [h] at hu
      cases u <;> simp at hu
      exact ⟨_, run_equalIn_bool w D t a b h, by simp⟩
  | 1, .int .i64 a, .int .i64 b, _, _ =>
    cases h : P.underlying t with
    | none => rw [h] at hu; cases hu
    | some u =>
      rw [h] at hu
      cases u <;> simp at hu
      rename_i q
      exact ⟨_, run_equalIn_int w D t .i64 q a b h, by simp⟩
theorem eq_fields (D : Nat) (xs ys : Array Value) : ∀ (fs : List Field) (ks : List Nat) (i : Nat) (us ws : List Value), eqB P i fs ks = true → fitL ks us = true → fitL ks ws = true → (∀ j v, us[j]? = some v → xs[i + j]? = some v) → (∀ j v, ws[j]? = some v → ys[i + j]? = some v) →
    ∃ r, (Op.eqFields (D + 1) xs ys fs).run P w = .ok r w ∧ (r = true ↔ us = ws)
  | [], [], i, [], [], _, _, _, _, _ => ⟨true, by simp [Op.eqFields], by simp⟩
  | f :: fs, k :: ks, i, a :: us, b :: ws, h, ha, hb, hxa, hyb => by
    simp only [eqB, Bool.and_eq_true, bne_iff_ne] at h
    obtain ⟨⟨⟨⟨h1, h2⟩, h3⟩, h4⟩, h5⟩ := h
    have h3 := Nat.eq_of_beq_eq_true h3
    simp only [fitL, Bool.and_eq_true] at ha hb
    have hx : xs[f.offset]? = some a := by rw [h3]; exact hxa 0 a rfl
    have hy : ys[f.offset]? = some b := by rw [h3]; exact hyb 0 b rfl
    obtain ⟨r, hr, hiff⟩ := eq_cell (w := w) D h4 ha.1 hb.1
    obtain ⟨r', hr', hiff'⟩ := eq_fields D xs ys fs ks (i + 1) us ws h5 ha.2 hb.2 (fun j v hv => by rw [show i + 1 + j = i + (j + 1) by omega]; exact hxa (j + 1) v hv) (fun j v hv => by rw [show i + 1 + j = i + (j + 1) by omega]; exact hyb (j + 1) v hv)
    simp only [Op.eqFields, h1, ne_eq, not_false_eq_true, if_true, Sem.run_bind, run_part_plain w h2 hx, run_part_plain w h2 hy, hr, Result.andThen_ok]
    cases r with
    | false => exact ⟨false, by simp, by simp; intro e; exact absurd (hiff.2 e) (by simp)⟩
    | true => exact ⟨r', by simpa using hr', by rw [hiff']; simp [hiff.1 rfl]⟩
theorem eq_struct {t : TypeId} {ks : List Nat} [T : CEq P t ks] {us ws : List Value} (ha : fitL ks us = true) (hb : fitL ks ws = true) : ∃ r, (Op.equal t (.agg us.toArray) (.agg ws.toArray)).run P w = .ok r w ∧ (r = true ↔ us = ws) := by
  obtain ⟨r, hr, hiff⟩ := eq_fields (P := P) (w := w) 9998 us.toArray ws.toArray (P.fieldsOf t).toList ks 0 us ws T.fs ha hb (fun j v h => by simpa using h) (fun j v h => by simpa using h)
  exact ⟨r, by unfold Op.equal; rw [show Op.maxDepth = 9999 + 1 from rfl, run_equalIn_struct w 9999 t _ _ T.st T.held]; exact hr, hiff⟩
/-- Codes tell values apart. -/
class EncI (α : Type) [Enc α] : Prop where inj : ∀ a b : α, enc a = enc b → a = b
theorem vals_rel {U : Nat → Prop} {M : Mp} : ∀ {cs : List Tr} {ys : List Value}, (∀ c ∈ cs, ∃ x, c = .v x) → ys.length = (cs.map AV.t).length → (∀ (j : Nat) c y, (cs.map AV.t)[j]? = some c → ys[j]? = some y → Rel w U M c y) → ys = cs.map valT
  | [], [], _, _, _ => rfl
  | c :: cs, y :: ys, hf, hl, hr => by
    have h0 := hr 0 _ _ rfl rfl
    obtain ⟨x, rfl⟩ := hf c (.head _)
    cases h0 with | t _ _ h =>
      cases h with | v _ _ =>
        rw [vals_rel (fun c h => hf c (.tail _ h)) (by simpa using hl) (fun j c y h1 h2 => hr (j + 1) c y h1 h2)]; rfl
  | [], y :: ys, _, hl, _ => by simp at hl
  | c :: cs, [], _, hl, _ => by simp at hl
section
variable {s : Bs} {O : Obs} {σ : Fr} {ty t t' : TypeId} {x y : Operand} {α : Type} [Enc α] [F : EncF α] [I : EncI α] [DecidableEq α] {a b : α} {ks : List Nat}
theorem vals_inj {us ws : List Tr} (ha : ∀ c ∈ us, ∃ x, c = .v x) (hb : ∀ c ∈ ws, ∃ x, c = .v x) (h : us.map valT = ws.map valT) : us = ws := by
  induction us generalizing ws with
  | nil => cases ws with | nil => rfl | cons _ _ => simp at h
  | cons c cs ih =>
    cases ws with
    | nil => simp at h
    | cons d ds =>
      simp only [List.map_cons, List.cons.injEq] at h
      obtain ⟨x, rfl⟩ := ha c (.head _)
      obtain ⟨y, rfl⟩ := hb d (.head _)
      have := h.1
      simp only [valT] at this
      rw [this, ih (fun c h => ha c (.tail _ h)) (fun c h => hb c (.tail _ h)) h.2]
theorem eqG_core [T : CEq P t ks] (op : BinOp) (neg : Bool) (hop : ∀ u v, binOp op t (.agg u) (.agg v) = (do pure (.bool (neg ^^ (← Op.equal t (.agg u) (.agg v)))))) (hx : evA σ x = .agg ((enc a).map .t)) (hy : evA σ y = .agg ((enc b).map .t)) (ha : fitL ks ((enc a).map valT) = true) (hb : fitL ks ((enc b).map valT) = true) :
    Rd P s O σ (.binOp op t x y t') ty (bA (neg ^^ decide (a = b))) := by
  intro M U w σc S hσ
  have ex := evA_rel hσ x; rw [hx] at ex
  have ey := evA_rel hσ y; rw [hy] at ey
  generalize hu : ev σc x = u at ex
  generalize hv : ev σc y = v at ey
  cases ex with
  | agg _ us hl _ hr =>
    cases ey with
    | agg _ ws hl' _ hr' =>
      have e1 := vals_rel (F.flat _) hl hr
      have e2 := vals_rel (F.flat _) hl' hr'
      subst e1; subst e2
      refine ⟨.bool (neg ^^ decide (a = b)), .t _ _ (.v _ rfl), fun w' _ => ?_⟩
      obtain ⟨r, h1, h2⟩ := eq_struct (P := P) (t := t) (w := w') ha hb
      have hre : r = decide (a = b) := by
        have : r = true ↔ a = b := h2.trans ⟨fun h => I.inj a b (vals_inj (F.flat _) (F.flat _) h), fun h => by rw [h]⟩
        cases r <;> simp_all
      refine R.exBin ?_ ?_
      · rw [hu, hv]
        simp [eqGuard, T.gt]
      · rw [hu, hv, hop]
        simp [h1, hre]
theorem Rd.eqlE [T : CEq P t ks] (hx : evA σ x = .agg ((enc a).map .t)) (hy : evA σ y = .agg ((enc b).map .t)) (ha : fitL ks ((enc a).map valT) = true) (hb : fitL ks ((enc b).map valT) = true) : Rd P s O σ (.binOp .eql t x y t') ty (bA (decide (a = b))) := by
  have := eqG_core (P := P) (s := s) (O := O) (ty := ty) (t := t) (t' := t') .eql false (fun u v => by
    have : binOp .eql t (.agg u) (.agg v) = (do pure (.bool (← Op.equal t (.agg u) (.agg v)))) := rfl
    rw [this]; simp) hx hy ha hb
  simpa using this
theorem Rd.neqE [T : CEq P t ks] (hx : evA σ x = .agg ((enc a).map .t)) (hy : evA σ y = .agg ((enc b).map .t)) (ha : fitL ks ((enc a).map valT) = true) (hb : fitL ks ((enc b).map valT) = true) : Rd P s O σ (.binOp .neq t x y t') ty (bA (!decide (a = b))) := by
  have := eqG_core (P := P) (s := s) (O := O) (ty := ty) (t := t) (t' := t') .neq true (fun u v => by
    have : binOp .neq t (.agg u) (.agg v) = (do pure (.bool (!(← Op.equal t (.agg u) (.agg v))))) := rfl
    rw [this]; simp) hx hy ha hb
  simpa using this
end
end V
end Go.Proofs.Ytifcacahgiihoaa
