/- Equality of structs of numbers and flags. No condition. -/
import Derived.Laws.StructEq
import Derived.ChangeKeysEq
import Derived.Test.YtaiifcnjmbpbjaaAbsN
import Derived.Test.YtaiifcnjmbpbjaaTypes
namespace Go.Proofs.Ytaiifcnjmbpbjaa
namespace V
open Enc (enc)
set_option linter.unusedVariables false
set_option linter.unusedSimpArgs false
open Go.RowKit

/-- The shape of a type that is compared cell by cell: flags 0, numbers 1, texts 2. -/
def shpF (P : Program) (rec : TypeId → Option (List Nat)) : Nat → List Field → Option (List Nat)
  | _, [] => some []
  | o, f :: fs => bif f.name != "_" && Nat.beq f.offset o then (match rec f.type with
      | some ks => bif Nat.beq (P.cellsOf f.type) ks.length then (match shpF P rec (o + ks.length) fs with
          | some ls => some (ks ++ ls)
          | none => none) else none
      | none => none) else none
def shp (P : Program) : Nat → TypeId → Option (List Nat)
  | 0, _ => none
  | d + 1, t => match P.underlying t with
    | some .bool => some [0]
    | some (.int _) => some [1]
    | some .string => some [2]
    | some (.struct fs) => bif P.stoodInHeld t then none else shpF P (shp P d) 0 fs.toList
    | _ => none
def isStD : TypeDesc → Bool
  | .struct _ => true
  | _ => false
def isSt (P : Program) (t : TypeId) : Bool := match P.underlying t with
  | some u => isStD u
  | none => false
/-- A struct type whose fields are flags, numbers, texts, and structs of these. -/
class CEq (P : Program) (t : TypeId) (ks : outParam (List Nat)) : Prop where
  st : isSt P t = true
  gt : P.eqGuardType P.depth t = false
  sh : shp P 5 t = some ks
def fitK : Nat → Value → Bool
  | 0, .bool _ => true
  | 1, .int .i64 _ => true
  | 2, .string _ => true
  | _, _ => false
def fitL : List Nat → List Value → Bool
  | [], [] => true
  | k :: ks, v :: vs => fitK k v && fitL ks vs
  | _, _ => false
theorem fitL_len : ∀ {ks : List Nat} {vs : List Value}, fitL ks vs = true → vs.length = ks.length
  | [], [], _ => rfl
  | [], _ :: _, h => by cases h
  | _ :: _, [], h => by cases h
  | _ :: ks, _ :: vs, h => by simp only [fitL, Bool.and_eq_true] at h; simp [fitL_len h.2]
theorem fitL_app : ∀ {ks ls : List Nat} {vs : List Value}, fitL (ks ++ ls) vs = true → ∃ us ws, vs = us ++ ws ∧ fitL ks us = true ∧ fitL ls ws = true
  | [], ls, vs, h => ⟨[], vs, rfl, rfl, h⟩
  | k :: ks, ls, [], h => by cases h
  | k :: ks, ls, v :: vs, h => by
    simp only [List.cons_append, fitL, Bool.and_eq_true] at h
    obtain ⟨us, ws, rfl, h1, h2⟩ := fitL_app h.2
    exact ⟨v :: us, ws, rfl, by simp [fitL, h.1, h1], h2⟩
/-- The value of a type with cells. -/
def mkV (P : Program) (t : TypeId) (us : List Value) : Value := bif isSt P t then .agg us.toArray else us.headD undef
def valT : Tr → Value
  | .v x => x
  | _ => undef
theorem text_inj {x y : ByteArray} (h : x.toList = y.toList) : x = y := by
  rw [ByteArray.toList_eq, ByteArray.toList_eq] at h
  exact ByteArray.ext (Array.ext' h)
theorem textEq (x y : ByteArray) : (x.toList == y.toList) = decide (x = y) := by
  by_cases h : x = y
  · subst h; simp
  · have : x.toList ≠ y.toList := fun e => h (text_inj e)
    simp [h, this]
variable {P : Program} {w : World}
theorem part_mkV {t : TypeId} {ks : List Nat} {us pre post : List Value} {d : Nat} (hs : shp P d t = some ks) (hc : P.cellsOf t = ks.length) (hf : fitL ks us = true) : (part t (pre ++ us ++ post).toArray pre.length).run P w = .ok (mkV P t us) w := by
  have hl := fitL_len hf
  cases d with
  | zero => cases hs
  | succ d =>
    unfold shp at hs
    cases hu : P.underlying t with
    | none => rw [hu] at hs; cases hs
    | some u =>
      rw [hu] at hs
      have hst : isSt P t = isStD u := by unfold isSt; rw [hu]
      obtain ⟨i, hi⟩ := info_of_underlying hu
      cases u <;> simp only [Option.some.injEq, reduceCtorEq] at hs
      case struct fs =>
        have : (((pre ++ us ++ post).toArray.extract pre.length (pre.length + P.cellsOf t))) = us.toArray := by
          apply Array.ext'
          simp [hc, ← hl]
        simp [part, isAgg, run_underlying hu, run_sizeOf w hi, mkV, hst, isStD]
        simpa using this
      all_goals
        subst hs
        obtain ⟨v, rfl⟩ : ∃ v, us = [v] := by
          cases us with
          | nil => simp at hl
          | cons v vs => cases vs with
            | nil => exact ⟨v, rfl⟩
            | cons _ _ => simp at hl
        simp [part, isAgg, run_underlying hu, mkV, hst, isStD]
theorem eq_fields (D : Nat) (rec : TypeId → Option (List Nat)) (hpart : ∀ t ks, rec t = some ks → ∃ d, shp P d t = some ks)
    (heq : ∀ t ks, rec t = some ks → ∀ us ws, fitL ks us = true → fitL ks ws = true → ∃ r, (Op.equalIn D t (mkV P t us) (mkV P t ws)).run P w = .ok r w ∧ (r = true ↔ us = ws)) :
    ∀ (fs : List Field) (ks : List Nat) (pre pre' us ws : List Value), pre.length = pre'.length → shpF P rec pre.length fs = some ks → fitL ks us = true → fitL ks ws = true →
      ∃ r, (Op.eqFields D (pre ++ us).toArray (pre' ++ ws).toArray fs).run P w = .ok r w ∧ (r = true ↔ us = ws)
  | [], ks, pre, pre', us, ws, hp, hs, ha, hb => by
    simp only [shpF, Option.some.injEq] at hs; subst hs
    cases us <;> cases ws <;> simp [fitL] at ha hb
    exact ⟨true, by simp [Op.eqFields], by simp⟩
  | f :: fs, ks, pre, pre', us, ws, hp, hs, ha, hb => by
    unfold shpF at hs
    cases hc : (f.name != "_" && Nat.beq f.offset pre.length) with
    | false => rw [hc] at hs; cases hs
    | true =>
      rw [hc, cond_true] at hs
      simp only [Bool.and_eq_true, bne_iff_ne] at hc
      have hoff := Nat.eq_of_beq_eq_true hc.2
      cases hr : rec f.type with
      | none => rw [hr] at hs; cases hs
      | some k1 =>
        rw [hr] at hs
        simp only at hs
        cases hb1 : Nat.beq (P.cellsOf f.type) k1.length with
        | false => rw [hb1] at hs; cases hs
        | true =>
          rw [hb1, cond_true] at hs
          have hcell := Nat.eq_of_beq_eq_true hb1
          cases hl : shpF P rec (pre.length + k1.length) fs with
          | none => rw [hl] at hs; cases hs
          | some ls =>
            rw [hl] at hs
            simp only [Option.some.injEq] at hs
            subst hs
            obtain ⟨u1, u2, rfl, h1, h2⟩ := fitL_app ha
            obtain ⟨w1, w2, rfl, h3, h4⟩ := fitL_app hb
            obtain ⟨d, hd⟩ := hpart _ _ hr
            have e1 := part_mkV (P := P) (w := w) (pre := pre) (post := u2) hd hcell h1
            have e2 := part_mkV (P := P) (w := w) (pre := pre') (post := w2) hd hcell h3
            rw [List.append_assoc] at e1 e2
            rw [← hp] at e2
            obtain ⟨r, hr1, hiff⟩ := heq _ _ hr u1 w1 h1 h3
            obtain ⟨r', hr2, hiff'⟩ := eq_fields D rec hpart heq fs ls (pre ++ u1) (pre' ++ w1) u2 w2 (by simp [hp, fitL_len h1, fitL_len h3]) (by rw [List.length_append, fitL_len h1]; exact hl) h2 h4
            simp only [List.append_assoc] at hr2
            simp only [Op.eqFields, hc.1, ne_eq, not_false_eq_true, if_true, Sem.run_bind, hoff, e1, e2, hr1, Result.andThen_ok]
            cases r with
            | false => 
              refine ⟨false, by simp, fun h => (by cases h), fun h => ?_⟩
              exact absurd (hiff.2 (List.append_inj h (by rw [fitL_len h1, fitL_len h3])).1) (by simp)
            | true =>
              refine ⟨r', by simpa using hr2, ?_⟩
              rw [hiff', hiff.1 rfl]; simp
theorem eq_type : ∀ (d D : Nat) (t : TypeId) (ks : List Nat), d ≤ D → shp P d t = some ks → ∀ us ws, fitL ks us = true → fitL ks ws = true → ∃ r, (Op.equalIn D t (mkV P t us) (mkV P t ws)).run P w = .ok r w ∧ (r = true ↔ us = ws)
  | 0, _, _, _, _, h, _, _, _, _ => by cases h
  | d + 1, 0, _, _, hD, _, _, _, _, _ => by omega
  | d + 1, D + 1, t, ks, hD, hs, us, ws, ha, hb => by
    have hs0 := hs
    unfold shp at hs
    have one : ∀ {k : Nat} {vs : List Value}, fitL [k] vs = true → ∃ v, vs = [v] ∧ fitK k v = true := by
      intro k vs h
      cases vs with
      | nil => cases h
      | cons v vs => cases vs with
        | nil => exact ⟨v, rfl, by simpa [fitL] using h⟩
        | cons _ _ => simp [fitL] at h
    cases hu : P.underlying t with
    | none => rw [hu] at hs; cases hs
    | some u =>
      rw [hu] at hs
      have hst : isSt P t = isStD u := by unfold isSt; rw [hu]
      cases u <;> simp only [Option.some.injEq, reduceCtorEq] at hs
      case struct fs =>
        cases hh : P.stoodInHeld t with
        | true => rw [hh] at hs; cases hs
        | false =>
          rw [hh, cond_false] at hs
          have hfs : P.fieldsOf t = fs := by unfold Program.fieldsOf; rw [hu]
          obtain ⟨r, h1, h2⟩ := eq_fields (P := P) (w := w) D (shp P d) (fun t ks h => ⟨d, h⟩) (fun t ks h us ws h1 h2 => eq_type d D t ks (by omega) h us ws h1 h2) fs.toList ks [] [] us ws rfl hs ha hb
          refine ⟨r, ?_, h2⟩
          simp only [mkV, hst, isStD, cond_true]
          rw [run_equalIn_struct w D t _ _ (by rw [hfs]; exact hu) hh, hfs]
          simpa using h1
      case bool =>
        subst hs
        obtain ⟨a, rfl, ha'⟩ := one ha
        obtain ⟨b, rfl, hb'⟩ := one hb
        cases a <;> simp [fitK] at ha'
        cases b <;> simp [fitK] at hb'
        exact ⟨_, by simp only [mkV, hst, isStD, cond_false, List.headD]; exact run_equalIn_bool w D t _ _ hu, by simp⟩
      case int q =>
        subst hs
        obtain ⟨a, rfl, ha'⟩ := one ha
        obtain ⟨b, rfl, hb'⟩ := one hb
        cases a <;> simp [fitK] at ha'
        cases b <;> simp [fitK] at hb'
        rename_i k1 n1 k2 n2
        have : k1 = .i64 := by cases k1 <;> first | rfl | simp at ha'
        subst this
        have : k2 = .i64 := by cases k2 <;> first | rfl | simp at hb'
        subst this
        exact ⟨_, by simp only [mkV, hst, isStD, cond_false, List.headD]; exact run_equalIn_int w D t .i64 q _ _ hu, by simp⟩
      case string =>
        subst hs
        obtain ⟨a, rfl, ha'⟩ := one ha
        obtain ⟨b, rfl, hb'⟩ := one hb
        cases a <;> simp [fitK] at ha'
        cases b <;> simp [fitK] at hb'
        rename_i x y
        exact ⟨_, by simp only [mkV, hst, isStD, cond_false, List.headD]; exact run_equalIn_string w D t _ _ hu, by rw [textEq]; simp⟩
theorem eq_struct {t : TypeId} {ks : List Nat} [T : CEq P t ks] {us ws : List Value} (ha : fitL ks us = true) (hb : fitL ks ws = true) : ∃ r, (Op.equal t (.agg us.toArray) (.agg ws.toArray)).run P w = .ok r w ∧ (r = true ↔ us = ws) := by
  obtain ⟨r, hr, hiff⟩ := eq_type (P := P) (w := w) 5 10000 t ks (by decide) T.sh us ws ha hb
  simp only [mkV, T.st, cond_true] at hr
  exact ⟨r, hr, hiff⟩
/-- Codes tell values apart. -/
class EncI (α : Type) [Enc α] : Prop where inj : ∀ a b : α, enc a = enc b → a = b
theorem vals_rel {U : Nat → Prop} {M : Mp} : ∀ {cs : List Tr} {ys : List Value}, (∀ c ∈ cs, ∃ x, c = .v x) → ys.length = (cs.map AV.t).length → (∀ (j : Nat) c y, (cs.map AV.t)[j]? = some c → ys[j]? = some y → Rel w U M c y) → ys = cs.map valT
  | [], [], _, _, _ => rfl
  | c :: cs, y :: ys, hf, hl, hr => by
    have h0 := hr 0 _ _ rfl rfl
    obtain ⟨x, rfl⟩ := hf c (.head _)
    cases h0 with | t _ _ h =>
      cases h with | v _ _ =>
        rw [vals_rel (fun c h => hf c (.tail _ h)) (by simpa using hl) (fun j c y h1 h2 => hr (j + 1) c y h1 h2)]; rfl
  | [], y :: ys, _, hl, _ => by simp at hl
  | c :: cs, [], _, hl, _ => by simp at hl
section
variable {s : Bs} {O : Obs} {σ : Fr} {ty t t' : TypeId} {x y : Operand} {α : Type} [Enc α] [F : EncF α] [I : EncI α] [DecidableEq α] {a b : α} {ks : List Nat}
theorem vals_inj {us ws : List Tr} (ha : ∀ c ∈ us, ∃ x, c = .v x) (hb : ∀ c ∈ ws, ∃ x, c = .v x) (h : us.map valT = ws.map valT) : us = ws := by
  induction us generalizing ws with
  | nil => cases ws with | nil => rfl | cons _ _ => simp at h
  | cons c cs ih =>
    cases ws with
    | nil => simp at h
    | cons d ds =>
      simp only [List.map_cons, List.cons.injEq] at h
      obtain ⟨x, rfl⟩ := ha c (.head _)
      obtain ⟨y, rfl⟩ := hb d (.head _)
      have := h.1
      simp only [valT] at this
      rw [this, ih (fun c h => ha c (.tail _ h)) (fun c h => hb c (.tail _ h)) h.2]
theorem eqG_core [T : CEq P t ks] (op : BinOp) (neg : Bool) (hop : ∀ u v, binOp op t (.agg u) (.agg v) = (do pure (.bool (neg ^^ (← Op.equal t (.agg u) (.agg v)))))) (hx : evA σ x = .agg ((enc a).map .t)) (hy : evA σ y = .agg ((enc b).map .t)) (ha : fitL ks ((enc a).map valT) = true) (hb : fitL ks ((enc b).map valT) = true) :
    Rd P s O σ (.binOp op t x y t') ty (bA (neg ^^ decide (a = b))) := by
  intro M U w σc S hσ
  have ex := evA_rel hσ x; rw [hx] at ex
  have ey := evA_rel hσ y; rw [hy] at ey
  generalize hu : ev σc x = u at ex
  generalize hv : ev σc y = v at ey
  cases ex with
  | agg _ us hl _ hr =>
    cases ey with
    | agg _ ws hl' _ hr' =>
      have e1 := vals_rel (F.flat _) hl hr
      have e2 := vals_rel (F.flat _) hl' hr'
      subst e1; subst e2
      refine ⟨.bool (neg ^^ decide (a = b)), .t _ _ (.v _ rfl), fun w' _ => ?_⟩
      obtain ⟨r, h1, h2⟩ := eq_struct (P := P) (t := t) (w := w') ha hb
      have hre : r = decide (a = b) := by
        have : r = true ↔ a = b := h2.trans ⟨fun h => I.inj a b (vals_inj (F.flat _) (F.flat _) h), fun h => by rw [h]⟩
        cases r <;> simp_all
      refine R.exBin ?_ ?_
      · rw [hu, hv]
        simp [eqGuard, T.gt]
      · rw [hu, hv, hop]
        simp [h1, hre]
theorem Rd.eqlE [T : CEq P t ks] (hx : evA σ x = .agg ((enc a).map .t)) (hy : evA σ y = .agg ((enc b).map .t)) (ha : fitL ks ((enc a).map valT) = true) (hb : fitL ks ((enc b).map valT) = true) : Rd P s O σ (.binOp .eql t x y t') ty (bA (decide (a = b))) := by
  have := eqG_core (P := P) (s := s) (O := O) (ty := ty) (t := t) (t' := t') .eql false (fun u v => by
    have : binOp .eql t (.agg u) (.agg v) = (do pure (.bool (← Op.equal t (.agg u) (.agg v)))) := rfl
    rw [this]; simp) hx hy ha hb
  simpa using this
theorem Rd.neqE [T : CEq P t ks] (hx : evA σ x = .agg ((enc a).map .t)) (hy : evA σ y = .agg ((enc b).map .t)) (ha : fitL ks ((enc a).map valT) = true) (hb : fitL ks ((enc b).map valT) = true) : Rd P s O σ (.binOp .neq t x y t') ty (bA (!decide (a = b))) := by
  have := eqG_core (P := P) (s := s) (O := O) (ty := ty) (t := t) (t' := t') .neq true (fun u v => by
    have : binOp .neq t (.agg u) (.agg v) = (do pure (.bool (!(← Op.equal t (.agg u) (.agg v))))) := rfl
    rw [this]; simp) hx hy ha hb
  simpa using this
end
end V
end Go.Proofs.Ytaiifcnjmbpbjaa
