/- More steps of walks: own slices cut short, bytes and texts turned into each other. No condition. -/
import Derived.Test.YtoljdhdfijnjiaaGenA
import Derived.Laws.BytesArg
namespace Go.Proofs.Ytoljdhdfijnjiaa
namespace V
open Enc (enc)
set_option linter.unusedVariables false
set_option linter.unusedSimpArgs false
open Go.RowKit

def i2b (n : Int) : UInt8 := UInt8.ofNat (n % 256).toNat
def b2s (xs : List UInt8) : ByteArray := ⟨xs.toArray⟩
theorem i2b_toNat (n : Int) : ((i2b n).toNat : Int) = n % 256 := by
  unfold i2b
  have h1 : 0 ≤ n % 256 := Int.emod_nonneg _ (by decide)
  have h2 : n % 256 < 256 := Int.emod_lt_of_pos _ (by decide)
  rw [UInt8.toNat_ofNat']
  have h3 : (n % 256).toNat % 2 ^ 8 = (n % 256).toNat := Nat.mod_eq_of_lt (by omega)
  rw [h3]; omega
theorem wrap_u8 (n : Int) : IntKind.u8.wrap n = ((i2b n).toNat : Int) := by
  rw [i2b_toNat]; rfl
theorem eL_u8map : ∀ us : List UInt8, eL us = us.map fun u => Tr.v (.int .u8 u.toNat)
  | [] => rfl
  | u :: us => by rw [eL_cons, eL_u8map us]; rfl
theorem eL_u8 {us : List UInt8} {j : Nat} {v : UInt8} (h : us[j]? = some v) : (eL us)[j]? = some (.v (.int .u8 v.toNat)) := by
  rw [eL_u8map, List.getElem?_map, h]; rfl
section
variable {α : Type} [F : Enc α] {P : Program} {n : Nat} {s : Bs} {Q : APost} {σ : Fr} {O : Obs} {ops : Array Oper} {rest : List Oper} {d : Nat} {ty t t' : TypeId} {pos : String} {after : Array Edge} {x y hi : Operand} {xs zs : List α} {h : Int}
theorem Rd.toU8 {m : Int} [T : CIn P t] [T' : CU8 P t'] (hx : evA σ x = iA m) : Rd P s O σ (.convert t t' x) ty (.t (.v (.int .u8 (i2b m).toNat))) :=
  Rd.of1 hx rfl fun _ _ h1 => Yl.mk fun d pos after g => by simp [execOp, h1, convert, T.run, T'.run, Conv.intToInt, wrap_u8]
theorem run_b2s {w : World} {σc : Nat → Value} {e : TypeId} [T : CSl P t e] [T8 : CU8 P e] [TS : CSt P t'] {B o cap : Nat} {us : List UInt8} (hx : ev σc x = .slice (some ⟨B, o, none⟩) us.length cap)
    (hc : ∀ (j : Nat) u, us[j]? = some u → w.cell? ⟨B, o + j, none⟩ = some (.int .u8 u.toNat)) : Yl P σc (.convert t t' x) ty w (.string (b2s us)) w := Yl.mk fun d pos after g => by
  have hl : (loadCells ⟨B, o, none⟩ us.length).run P w = .ok ((us.map fun u => (u.toNat : Int)).map (Value.int .u8)).toArray w := by
    have := run_loadCells_list (P := P) w ⟨B, o, none⟩ ((us.map fun u => (u.toNat : Int)).map (Value.int .u8)) (fun j v hj => by
      rw [Rd.addr_add]
      simp only [List.getElem?_map] at hj
      cases hq : us[j]? with
      | none => rw [hq] at hj; cases hj
      | some u => rw [hq] at hj; simp at hj; subst hj; exact hc j u hq)
    simpa using this
  have hs := run_bytesToString (P := P) w ⟨B, o, none⟩ us.length cap (us.map fun u => (u.toNat : Int)) hl
  have he : (us.map fun u => (u.toNat : Int)).foldl (fun r n => r.push (UInt8.ofNat n.toNat)) ByteArray.empty = b2s us := by
    have hid : ((fun n : Int => UInt8.ofNat n.toNat) ∘ fun u : UInt8 => (u.toNat : Int)) = id := funext fun u => by simp
    rw [foldl_push_bytes]
    unfold b2s ByteArray.empty ByteArray.emptyWithCapacity
    congr 1
    apply Array.ext'
    simp only [List.map_map, hid, List.map_id, Array.toList_append]
    rfl
  rw [he] at hs
  simp [execOp, hx, convert, T.run, T8.run, TS.run, hs]
theorem run_b2s_nil {w : World} {σc : Nat → Value} {e : TypeId} [T : CSl P t e] [T8 : CU8 P e] [TS : CSt P t'] {l cap : Nat} (hx : ev σc x = .slice none l cap) : Yl P σc (.convert t t' x) ty w (.string (b2s [])) w := Yl.mk fun d pos after g => by
  have : b2s [] = ByteArray.empty := rfl
  simp [execOp, hx, convert, T.run, T8.run, TS.run, Conv.bytesToString, this]
theorem run_b2s_0 {w : World} {σc : Nat → Value} {e : TypeId} [T : CSl P t e] [T8 : CU8 P e] [TS : CSt P t'] {a : Addr} {cap : Nat} (hx : ev σc x = .slice (some a) 0 cap) : Yl P σc (.convert t t' x) ty w (.string (b2s [])) w := Yl.mk fun d pos after g => by
  have hl : (loadCells a 0).run P w = .ok (([] : List Int).map (Value.int .u8)).toArray w := by
    have := run_loadCells_list (P := P) w a [] (fun j v hj => by simp at hj)
    simpa using this
  have hs := run_bytesToString (P := P) w a 0 cap [] hl
  have : b2s [] = ByteArray.empty := rfl
  simp [execOp, hx, convert, T.run, T8.run, TS.run, hs, this]
/-- The text of bytes that are only read. -/
theorem Rd.b2sT {us : List UInt8} {e : TypeId} [T : CSl P t e] [T8 : CU8 P e] [TS : CSt P t'] (hx : evA σ x = sL us) : Rd P s O σ (.convert t t' x) ty (sA (b2s us)) := by
  intro M U w σc S hσ
  have e := evA_rel hσ x; rw [hx] at e
  generalize hu : ev σc x = u at e
  refine ⟨.string (b2s us), .t _ _ (.v _ rfl), fun w' A => ?_⟩
  cases e with | t _ _ ht =>
    generalize hn : us.length = n0 at ht
    generalize hcs : eL us = cs at ht
    cases ht with
    | nil => have : us = [] := List.eq_nil_of_length_eq_zero hn; subst this; exact run_b2s_nil hu
    | sl0 a cap => have : us = [] := List.eq_nil_of_length_eq_zero hn; subst this; exact run_b2s_0 hu
    | sl B off _ cap _ ys hU hyl h1 hc hr hle =>
      subst hn; subst hcs
      refine run_b2s hu fun j v hj => ?_
      have hj' := (List.getElem?_eq_some_iff.1 hj).1
      have hlen : (eL us).length = us.length := by rw [eL_len]; show us.length * 1 = _; omega
      have hy : ys[j]? = some ys[j] := List.getElem?_eq_getElem (by omega)
      have hE := eL_u8 hj
      have := hr j _ _ hE hy
      rw [cell_eq (A.fz S hU), hc j _ hy]
      generalize ys[j] = y at this
      cases this; rfl
/-- The text of bytes that are the call's own. -/
theorem Rd.b2sO {us : List UInt8} {e e' : TypeId} {b n0 k0 : Nat} [T : CSl P t e] [T8 : CU8 P e] [TS : CSt P t'] (hx : evA σ x = .os b 0 n0) (hO : O[b]? = some (some ⟨.tr (eL us), e', k0⟩)) (hn : n0 = us.length) : Rd P s O σ (.convert t t' x) ty (sA (b2s us)) := by
  intro M U w σc S hσ
  have e := evA_rel hσ x; rw [hx] at e
  generalize hu : ev σc x = u at e
  refine ⟨.string (b2s us), .t _ _ (.v _ rfl), fun w' A => ?_⟩
  cases e with
  | osn => have : us = [] := List.eq_nil_of_length_eq_zero hn.symm; subst this; exact run_b2s_nil hu
  | osd _ _ _ _ _ hM => exact (S.own _ _ _ hO hM).elim
  | osz => have : us = [] := List.eq_nil_of_length_eq_zero hn.symm; subst this; exact run_b2s_0 hu
  | os _ _ _ cap L hM hcap hle hx1 =>
    subst hn
    obtain ⟨h1, h2, cur, h3, h4, h5⟩ := S.own _ _ _ hO hM
    refine run_b2s (o := L.off + 0) hu fun j v hj => ?_
    have hj' := (List.getElem?_eq_some_iff.1 hj).1
    have hE := eL_u8 hj
    obtain ⟨y, g1, g2, g3⟩ := h5 j (.t (.v (.int .u8 v.toNat))) (by simp [Ob.cells, Cs.list, hE])
    have hw : w'.heap[L.blk]? = some (.cells cur e' (0, 0)) := by rw [A.own S hM hO]; exact h3
    rw [cell_of_row w' _ _ cur _ _ hw, show L.off + 0 + j = L.off + j by omega, g1]
    cases g3 with | t _ _ h => cases h; rfl
/-- An own slice cut short: what lies behind is forgotten. -/
theorem PL.cutM {e : TypeId} {b n0 k k0 : Nat} [T : CSl P t e] [Z : CS P e k] (hd : Nat.blt d n = true) (hx : evA σ x = .os b 0 n0) (hO : O[b]? = some (some ⟨.tr (eL xs), e, k0⟩)) (hn : n0 = xs.length) (hh : evA σ hi = iA h) (hz : V.subM xs 0 h = some zs)
    (kk : PL P n s ops rest Q (updA σ d (.os b 0 zs.length)) (O.set b (some ⟨.tr (eL zs), e, k0⟩))) : PL P n s ops (⟨some d, .slice t x none (some hi) none, ty, pos, after, none⟩ :: rest) Q σ O := by
  obtain ⟨l, r, h1, rfl, h3, h4, rfl⟩ := subM_spec hz
  obtain rfl : l = 0 := by omega
  simp only [List.drop_zero, Nat.sub_zero] at kk ⊢
  have hlen : (xs.take r).length = r := by simp; omega
  rw [hlen] at kk
  have hb : b < O.length := (List.getElem?_eq_some_iff.1 hO).1
  refine PL.eff hd (fun M U w σc S hσ => ?_) kk
  have e1 := evA_rel hσ x; rw [hx] at e1
  have e2 := evA_rel hσ hi; rw [hh] at e2
  have hi' := e2.int
  generalize hu : ev σc x = u at e1
  have hS : Mem s M (O.set b (some ⟨.tr (eL (xs.take r)), e, k0⟩)) U w := by
    refine ⟨S.base, S.lent, by simp [S.len], S.lt, S.fresh, S.one, fun b1 ob x1 hO1 hM1 => ?_, S.u⟩
    by_cases hbb : b1 = b
    · subst hbb
      rw [List.getElem?_set_self hb] at hO1; cases hO1
      have hown := S.own _ _ _ hO hM1
      cases x1 with
      | dead => exact hown
      | nl =>
        show (eL (xs.take r)).map AV.t = []
        have : (eL xs).map AV.t = [] := hown
        have : eL xs = [] := by simpa using this
        rw [← eL_take, this]; simp
      | ad L =>
        obtain ⟨g1, g2, cur, g3, g4, g5⟩ := hown
        refine ⟨g1, ?_, cur, g3, g4, fun j c hc => g5 j c ?_⟩
        · simp only [Ob.cells, Cs.list, List.length_map] at g2 ⊢
          rw [← eL_take, List.length_take]; omega
        · simp only [Ob.cells, Cs.list, List.getElem?_map] at hc ⊢
          rw [← eL_take, List.getElem?_take] at hc
          split at hc
          · exact hc
          · cases hc
    · rw [List.getElem?_set_ne (Ne.symm hbb)] at hO1
      exact S.own b1 ob x1 hO1 hM1
  cases e1 with
  | osd _ _ _ _ _ hM => exact (S.own _ _ _ hO hM).elim
  | osn _ hM =>
    have hr : r = 0 := by omega
    subst hr
    refine ⟨.slice none 0 0, w, M, ?_, hS, .osn _ hM, fun c z h => h⟩
    have := run_slice (P := P) (ty := ty) (w := w) (t := t) (lo := none) (hi := some hi) (l := 0) (h := 0) hu ⟨hi', Nat.le_refl _⟩ rfl (Nat.le_refl _)
    simpa using this
  | osz _ _ o L hM =>
    have hr : r = 0 := by omega
    subst hr
    refine ⟨.slice (some ⟨L.blk, o, none⟩) 0 0, w, M, ?_, hS, .osz _ _ o L hM, fun c z h => h⟩
    have := run_slice (P := P) (ty := ty) (w := w) (t := t) (lo := none) (hi := some hi) (l := 0) (h := 0) hu ⟨hi', Nat.le_refl _⟩ rfl (Nat.le_refl _)
    simpa using this
  | os _ _ _ cap L hM hcap hle hx1 =>
    refine ⟨.slice (some ⟨L.blk, L.off + 0, none⟩) r cap, w, M, ?_, hS, .os _ _ _ cap L hM hcap (by omega) hx1, fun c z h => h⟩
    have := run_slice (P := P) (ty := ty) (w := w) (t := t) (lo := none) (hi := some hi) (l := 0) (h := r) hu ⟨hi', by omega⟩ rfl (Nat.zero_le _)
    simpa [Rd.addr_add] using this
end
/-! an own block that is written no more -/
def frzR (b m : Nat) : Rho := (List.range m).map fun i => some (bif Nat.beq i b then m else i)
theorem frzR_get {b m i : Nat} (h : i < m) : (frzR b m)[i]? = some (some (bif Nat.beq i b then m else i)) := by simp [frzR, h]
section
variable {P : Program} {n : Nat} {s : Bs} {Q : APost} {σ : Fr} {O : Obs} {ops : Array Oper} {rest : List Oper} {M : Mp} {U : Nat → Prop} {w : World} {xs : List Nat} {K : Fr → Obs → List Nat → Prop}
theorem frzR_mp (h : M.length = O.length) (b : Nat) : mpR M (frzR b O.length) = M.set b .dead := by
  apply List.ext_getElem?
  intro i
  by_cases hi : i < O.length
  · have e : mpR M (frzR b O.length) = (frzR b O.length).map fun r => match r with | none => .nl | some b => (M[b]?).getD .dead := rfl
    rw [e, List.getElem?_map, frzR_get hi]
    by_cases hb : i = b
    · subst hb
      rw [List.getElem?_set_self (by omega)]
      simp [Nat.beq_refl, h]
    · have : Nat.beq i b = false := by cases hq : Nat.beq i b; rfl; exact absurd (Nat.eq_of_beq_eq_true hq) hb
      rw [List.getElem?_set_ne (Ne.symm hb)]
      simp only [this, cond_false, Option.map_some]
      rw [List.getElem?_eq_getElem (by omega)]; rfl
  · rw [List.getElem?_eq_none (by simp [mpR, frzR]; omega), List.getElem?_eq_none (by simp; omega)]
/-- The blocks as they stand behind it. -/
def FzL (O : Obs) (ρ : Rho) (b : Nat) : Nat → Obs → Obs → Prop
  | _, [], [] => True
  | i, none :: O', _ :: O0 => FzL O ρ b (i + 1) O' O0
  | i, some ob :: O', x :: O0 => (Nat.beq i b = false ∧ (x = some ob ∨ ∃ ob0, x = some ob0 ∧ ob0.ty = ob.ty ∧ ob0.k = ob.k ∧ SbC true O ρ ob.c ob0.c)) ∧ FzL O ρ b (i + 1) O' O0
  | _, _, _ => False
theorem FzL.spec {ρ : Rho} {b : Nat} : ∀ {i : Nat} {O' O0 : Obs}, FzL O ρ b i O' O0 → O'.length = O0.length ∧ ∀ (j : Nat) ob, O'[j]? = some (some ob) → i + j ≠ b ∧ (O0[j]? = some (some ob) ∨ ∃ ob0, O0[j]? = some (some ob0) ∧ ob0.ty = ob.ty ∧ ob0.k = ob.k ∧ SbC true O ρ ob.c ob0.c)
  | _, [], [], _ => ⟨rfl, fun j ob h => by simp at h⟩
  | _, [], _ :: _, h => by cases h
  | i, none :: O', [], h => by cases h
  | i, some ob :: O', [], h => by cases h
  | i, none :: O', x :: O0, h => by
    obtain ⟨h1, h2⟩ := FzL.spec (i := i + 1) (O' := O') (O0 := O0) h
    refine ⟨by simp [h1], fun j ob hj => ?_⟩
    cases j with
    | zero => simp at hj
    | succ j =>
      obtain ⟨g1, g2⟩ := h2 j ob (by simpa using hj)
      exact ⟨by omega, by simpa using g2⟩
  | i, some ob0 :: O', x :: O0, h => by
    obtain ⟨h0, h⟩ := h
    obtain ⟨h1, h2⟩ := FzL.spec (i := i + 1) (O' := O') (O0 := O0) h
    refine ⟨by simp [h1], fun j ob hj => ?_⟩
    cases j with
    | zero =>
      simp at hj; subst hj
      refine ⟨fun e => ?_, ?_⟩
      · have : Nat.beq i b = true := by rw [show i = b by omega]; exact Nat.beq_refl b
        rw [this] at h0; cases h0.1
      · rcases h0.2 with h | ⟨o, h⟩
        · exact .inl (by simp [h])
        · exact .inr ⟨o, by simp [h.1], h.2⟩
    | succ j =>
      obtain ⟨g1, g2⟩ := h2 j ob (by simpa using hj)
      exact ⟨by omega, by simpa using g2⟩
theorem frz_core {b m : Nat} {O' : Obs} (S : Mem s M O U w) (hb : s.L.length ≤ b) (hm : O.length = m) (hO : FzL O (frzR b m) b 0 O' O) : Mem s (M.set b .dead) O' (frU true M (frzR b m) U) w ∧ (∀ c z, Rel w U M c z → Rel w (frU true M (frzR b m) U) (M.set b .dead) c z) ∧
    ∀ v v' z, Sb true O (frzR b m) v' v → Rel w U M v z → Rel w (frU true M (frzR b m) U) (M.set b .dead) v' z := by
  subst hm
  have hmp := frzR_mp S.len b
  obtain ⟨S1, h1⟩ := S.kill hb
  obtain ⟨hlen, hsp⟩ := hO.spec
  have up : ∀ c z, Rel w U (M.set b .dead) c z → Rel w (frU true M (frzR b O.length) U) (M.set b .dead) c z := fun c z h => h.mono (fun _ _ => rfl) (fun B hB => .inl hB) (fun _ _ e => e)
  have rt : ∀ v v' z, Sb true O (frzR b O.length) v' v → Rel w U M v z → Rel w (frU true M (frzR b O.length) U) (M.set b .dead) v' z := fun v v' z h hr => by
    have := h.rel S hr
    rw [hmp] at this; exact this
  refine ⟨⟨S1.base, S1.lent, by rw [hlen]; simpa using S.len, S1.lt, S1.fresh, S1.one, fun b1 ob x hO hM => ?_, fun B hB => ⟨?_, ?_⟩⟩, fun c z h => up _ _ (h1 c z h), rt⟩
  · obtain ⟨hne, h⟩ := hsp b1 ob hO
    have hne : b ≠ b1 := by omega
    rw [List.getElem?_set_ne hne] at hM
    rcases h with h | ⟨ob0, h, ht, hk, hc⟩
    · have := S.own b1 ob x h hM
      cases x with
      | nl => exact this
      | dead => exact this
      | ad L =>
        obtain ⟨g1, g2, cur, g3, g4, g5⟩ := this
        exact ⟨g1, g2, cur, g3, g4, fun j c hc => by obtain ⟨y, e1, e2, e3⟩ := g5 j c hc; exact ⟨y, e1, e2, up _ _ (h1 _ _ e3)⟩⟩
    · have := S.own b1 ob0 x h hM
      obtain ⟨q1, q2⟩ := hc.spec
      have q1 : ob.cells.length = ob0.cells.length := q1
      cases x with
      | nl =>
        show ob.cells = []
        have : ob0.cells = [] := this
        rw [this] at q1; exact List.eq_nil_of_length_eq_zero q1
      | dead => exact this
      | ad L =>
        obtain ⟨g1, g2, cur, g3, g4, g5⟩ := this
        refine ⟨by rw [g1, hk], by rw [q1]; exact g2, cur, by rw [← ht]; exact g3, g4, fun j c hc => ?_⟩
        have hj : j < ob0.cells.length := by rw [← q1]; exact (List.getElem?_eq_some_iff.1 hc).1
        obtain ⟨y, e1, e2, e3⟩ := g5 j _ (List.getElem?_eq_getElem hj)
        exact ⟨y, e1, e2, rt _ _ _ (q2 j c _ hc (List.getElem?_eq_getElem hj)) e3⟩
  · rw [← hmp]; exact frU_fz S hB
  · rcases hB with hB | ⟨_, h2, h3⟩
    · exact (S.u B hB).2
    · rcases S.fresh B h2 with h4 | h4
      · exact .inr h4
      · obtain ⟨b', L, h5, rfl⟩ := Bs.exX h4
        have hb' : b' < s.L.length := (List.getElem?_eq_some_iff.1 h5).1
        refine absurd ⟨b', L, ?_, rfl⟩ h3
        rw [hmp, List.getElem?_set_ne (by omega)]
        exact S.lent b' _ h5
def updL (σ : Fr) : List (Nat × AV) → Fr
  | [] => σ
  | (d, v) :: l => updA (updL σ l) d v
theorem Rels.frz {σc : Nat → Value} {U' : Nat → Prop} {M' : Mp} {O : Obs} {ρ : Rho} (hσ : Rels w U M σ σc) (h1 : ∀ c z, Rel w U M c z → Rel w U' M' c z) (h2 : ∀ v v' z, Sb true O ρ v' v → Rel w U M v z → Rel w U' M' v' z) : ∀ {vs : List (Nat × AV)}, PinA O ρ σ vs → Rels w U' M' (updL σ vs) σc
  | [], _ => fun t => h1 _ _ (hσ t)
  | (d, v) :: l, ⟨hv, hl⟩ => by
    intro t
    show Rel _ _ _ (bif Nat.beq t d then v else updL σ l t) (σc t)
    cases hb : Nat.beq t d with
    | true =>
      have := Nat.eq_of_beq_eq_true hb
      subst this
      exact h2 _ _ _ hv (hσ t)
    | false => exact Rels.frz hσ h1 h2 hl t
/-- Own block b is written no more. -/
theorem PL.frz {m0 : Nat} (hm : s.L.length = m0) (b m : Nat) (vs : List (Nat × AV)) (O' : Obs) (hl : O.length = m) (hb : Nat.ble m0 b = true) (hv : PinA O (frzR b m) σ vs) (hO : FzL O (frzR b m) b 0 O' O) (k : PL P n s ops rest Q (updL σ vs) O') : PL P n s ops rest Q σ O := by
  refine ⟨fun M U σc w S hσ => ?_⟩
  obtain ⟨S', h1, h2⟩ := frz_core S (b := b) (by rw [hm]; exact Nat.le_of_ble_eq_true hb) hl hO
  exact k.h _ _ σc w S' (hσ.frz h1 h2 hv)
theorem PR.frz {m0 : Nat} (hm : s.L.length = m0) (b m : Nat) (vs : List (Nat × AV)) (O' : Obs) (hl : O.length = m) (hb : Nat.ble m0 b = true) (hxs : xs.contains b = false) (hv : PinA O (frzR b m) σ vs) (hO : FzL O (frzR b m) b 0 O' O) (k : PR P n s ops xs rest K (updL σ vs) O') : PR P n s ops xs rest K σ O := by
  refine ⟨fun M U σc w X S hσ hX a ha => ?_⟩
  obtain ⟨S', h1, h2⟩ := frz_core S (b := b) (by rw [hm]; exact Nat.le_of_ble_eq_true hb) hl hO
  have hxs' : b ∉ xs := fun h => by simp at hxs; exact hxs h
  refine k.h _ _ σc w X S' (hσ.frz h1 h2 hv) ⟨fun c hc => by simpa using hX.1 c hc, fun B hB => ?_, fun c L hc hM => ?_⟩ a ha
  · obtain ⟨c, L, g1, g2, g3⟩ := hX.2.1 B hB
    have hne : b ≠ c := fun e => hxs' (by rw [e]; exact g1)
    exact ⟨c, L, g1, by rw [List.getElem?_set_ne hne]; exact g2, g3⟩
  · have hne : b ≠ c := fun e => hxs' (by rw [e]; exact hc)
    rw [List.getElem?_set_ne hne] at hM
    exact hX.2.2 c L hc hM
end
end V
end Go.Proofs.Ytoljdhdfijnjiaa
