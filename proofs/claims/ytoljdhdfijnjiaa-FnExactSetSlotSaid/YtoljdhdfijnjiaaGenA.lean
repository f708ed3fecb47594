/- Steps of walks whose values are told by functions of plain data. No condition. -/
import Derived.Test.YtoljdhdfijnjiaaAbsN
import Derived.Test.YtoljdhdfijnjiaaTypes
namespace Go.Proofs.Ytoljdhdfijnjiaa
namespace V
open Enc (enc)
set_option linter.unusedVariables false
set_option linter.unusedSimpArgs false
open Go.RowKit

/-! what the functions are made of -/
def ixI {α : Type} (xs : List α) (i : Int) : Option α := if 0 ≤ i then xs[i.toNat]? else none
def chk (e : Int) : Option Int := if -9223372036854775808 ≤ e ∧ e ≤ 9223372036854775807 then some e else none
def quoM (a b : Int) : Option Int := if 0 ≤ a ∧ a ≤ 9223372036854775807 ∧ 1 ≤ b then some (a / b) else none
def remM (a b : Int) : Option Int := if 0 ≤ a ∧ 1 ≤ b then some (a % b) else none
def xorM (a b : Int) : Option Int := if 0 ≤ a ∧ a ≤ 9223372036854775807 ∧ 0 ≤ b ∧ b ≤ 9223372036854775807 then some ((a.toNat ^^^ b.toNat : Nat) : Int) else none
def appM {α : Type} (w : Nat) (xs ys : List α) : Option (List α) := if (xs.length + ys.length) * w ≤ 140737488355328 ∧ xs.length + ys.length ≤ 4611686018427387904 then some (xs ++ ys) else none
def ixS (u : ByteArray) (i : Int) : Option UInt8 := if h : 0 ≤ i ∧ i.toNat < u.size then some (u[i.toNat]'h.2) else none
def addS (a b : ByteArray) : Option ByteArray := if a.size + b.size ≤ 9223372036854775807 then some (a ++ b) else none
def subM {α : Type} (xs : List α) (l h : Int) : Option (List α) := if 0 ≤ l ∧ l ≤ h ∧ h ≤ (xs.length : Int) then some ((xs.drop l.toNat).take (h.toNat - l.toNat)) else none
def subS (u : ByteArray) (l h : Int) : Option ByteArray := if 0 ≤ l ∧ l ≤ h ∧ h ≤ (u.size : Int) then some (u.extract l.toNat h.toNat) else none
def loopM {σ β : Type} (body : σ → Option (σ ⊕ β)) : Nat → σ → Option β
  | 0, _ => none
  | n + 1, s => match body s with
    | none => none
    | some (.inl s') => loopM body n s'
    | some (.inr b) => some b
section
variable {α β : Type}
theorem cond_some {c : Bool} {a b : Option α} {r : α} (h : cond c a b = some r) : (c = true ∧ a = some r) ∨ (c = false ∧ b = some r) := by
  cases c
  · exact .inr ⟨rfl, h⟩
  · exact .inl ⟨rfl, h⟩
theorem bind_some {o : Option α} {f : α → Option β} {r : β} (h : o.bind f = some r) : ∃ x, o = some x ∧ f x = some r := Option.bind_eq_some_iff.1 h
theorem some_in {a b : α} (h : some a = some b) : a = b := Option.some.inj h
theorem loopM_some {σ : Type} {body : σ → Option (σ ⊕ β)} {n : Nat} {s : σ} {b : β} (h : loopM body n s = some b) : ∃ m y, n = m + 1 ∧ body s = some y ∧ (match y with | .inl s' => loopM body m s' = some b | .inr b' => b' = b) := by
  cases n with
  | zero => cases h
  | succ m =>
    unfold loopM at h
    cases hb : body s with
    | none => rw [hb] at h; cases h
    | some y =>
      rw [hb] at h
      refine ⟨m, y, rfl, rfl, ?_⟩
      cases y with
      | inl s' => exact h
      | inr b' => exact Option.some.inj h
theorem ixI_spec {xs : List α} {i : Int} {x : α} (h : ixI xs i = some x) : 0 ≤ i ∧ ∃ h : i.toNat < xs.length, xs[i.toNat] = x := by
  unfold ixI at h
  split at h
  · obtain ⟨h1, h2⟩ := List.getElem?_eq_some_iff.1 h
    exact ⟨by assumption, h1, h2⟩
  · cases h
theorem ixI_lt {xs : List α} {i : Int} {x : α} (h : ixI xs i = some x) : 0 ≤ i ∧ i < (xs.length : Int) := by
  obtain ⟨h1, h2, _⟩ := ixI_spec h; omega
theorem ixI_set {xs : List α} {i : Int} {x y : α} (h : ixI xs i = some x) : ixI (xs.set i.toNat y) i = some y := by
  obtain ⟨h1, h2, _⟩ := ixI_spec h
  unfold ixI; rw [if_pos h1, List.getElem?_set_self h2]
theorem not_t {b : Bool} (h : b = true) : (!b) = false := by rw [h]; rfl
theorem not_f {b : Bool} (h : b = false) : (!b) = true := by rw [h]; rfl
end

section
variable {P : Program} {n : Nat} {s : Bs} {Q : APost} {σ : Fr} {O : Obs} {ops : Array Oper} {rest : List Oper} {d : Nat} {ty t t' : TypeId} {pos : String} {after : Array Edge} {x y : Operand} {a b v : Int}
theorem chk_spec (h : chk a = some v) : a = v ∧ -9223372036854775808 ≤ a ∧ a ≤ 9223372036854775807 := by
  unfold chk at h; split at h
  · rename_i hb; exact ⟨Option.some.inj h, hb⟩
  · cases h
theorem Rd.addM (hx : evA σ x = iA a) (hy : evA σ y = iA b) (h : chk (a + b) = some v) : Rd P s O σ (.binOp .add t x y t') ty (iA v) := by
  obtain ⟨rfl, hb⟩ := chk_spec h; exact Rd.add hx hy hb
theorem Rd.subM (hx : evA σ x = iA a) (hy : evA σ y = iA b) (h : chk (a - b) = some v) : Rd P s O σ (.binOp .sub t x y t') ty (iA v) := by
  obtain ⟨rfl, hb⟩ := chk_spec h; exact Rd.sub hx hy hb
theorem Rd.mulM (hx : evA σ x = iA a) (hy : evA σ y = iA b) (h : chk (a * b) = some v) : Rd P s O σ (.binOp .mul t x y t') ty (iA v) := by
  obtain ⟨rfl, hb⟩ := chk_spec h; exact Rd.mul hx hy hb
theorem Rd.negM (hx : evA σ x = iA a) (h : chk (-a) = some v) : Rd P s O σ (.unOp .neg t x) ty (iA v) := by
  obtain ⟨rfl, hb⟩ := chk_spec h; exact Rd.neg hx hb
theorem Rd.quoM (hx : evA σ x = iA a) (hy : evA σ y = iA b) (h : quoM a b = some v) : Rd P s O σ (.binOp .quo t x y t') ty (iA v) := by
  unfold V.quoM at h; split at h
  · cases h; exact Rd.quo hx hy (by assumption)
  · cases h
theorem Rd.remM (hx : evA σ x = iA a) (hy : evA σ y = iA b) (h : remM a b = some v) : Rd P s O σ (.binOp .rem t x y t') ty (iA v) := by
  unfold V.remM at h; split at h
  · cases h; exact Rd.rem hx hy (by assumption)
  · cases h
theorem Rd.xorM (hx : evA σ x = iA a) (hy : evA σ y = iA b) (h : xorM a b = some v) : Rd P s O σ (.binOp .xor t x y t') ty (iA v) := by
  unfold V.xorM at h; split at h
  · rename_i hb
    cases h
    exact Rd.xor (m := a.toNat) (n := b.toNat) (by rw [hx, Int.toNat_of_nonneg hb.1]) (by rw [hy, Int.toNat_of_nonneg hb.2.2.1]) (by omega) (by omega)
  · cases h
theorem Rd.ixSM {u : ByteArray} {i : Int} {c : UInt8} [T : CSt P t] (hx : evA σ x = sA u) (hy : evA σ y = iA i) (h : ixS u i = some c) : Rd P s O σ (.index t x y) ty (.t (.v (.int .u8 c.toNat))) := by
  unfold ixS at h; split at h
  · rename_i hb; cases h; exact Rd.ixStr hx hy hb
  · cases h
theorem Rd.addSM {u u' c : ByteArray} (hx : evA σ x = sA u) (hy : evA σ y = sA u') (h : V.addS u u' = some c) : Rd P s O σ (.binOp .add t x y t') ty (sA c) := by
  unfold V.addS at h; split at h
  · cases h; exact Rd.addS hx hy (by assumption)
  · cases h
end
section
variable {α : Type} [F : Enc α] {P : Program} {n : Nat} {s : Bs} {Q : APost} {σ : Fr} {O : Obs} {ops : Array Oper} {rest : List Oper} {d : Nat} {ty : TypeId} {pos : String} {after : Array Edge} {xs : List α} {e : α} {i : Int}
theorem Rd.ixM {t e' : TypeId} {k : Nat} {x y : Operand} [T : CSl P t e'] [Z : CS P e' k] (hx : evA σ x = sL xs) (hy : evA σ y = iA i) (h : ixI xs i = some e) : Rd P s O σ (.indexAddr t x y) ty (.t (.pt (eL xs) (i.toNat * k))) := Rd.ixT hx hy (ixI_lt h)
theorem Rd.elM1 {t : TypeId} {x : Operand} {c : Tr} [T : CA P t false] (hx : evA σ x = .t (.pt (eL xs) (i.toNat * 1))) (h : ixI xs i = some e) (hk : F.k = 1) (hc : enc e = [c]) : Rd P s O σ (.load t x) ty (.t c) := by
  obtain ⟨_, h2, rfl⟩ := ixI_spec h; exact Rd.el1 hx hk h2 hc
theorem Rd.elMF {t : TypeId} {x : Operand} {m f : Nat} {c : Tr} [T : CA P t false] (hx : evA σ x = .t (.pt (eL xs) (i.toNat * m + f))) (h : ixI xs i = some e) (hk : F.k = m) (hc : (enc e)[f]? = some c) : Rd P s O σ (.load t x) ty (.t c) := by
  obtain ⟨_, h2, rfl⟩ := ixI_spec h; exact Rd.elF hx hk h2 hc
theorem Rd.elMR {t : TypeId} {x : Operand} {m : Nat} {ds : List AV} [T : CA P t true] [Z : CS P t m] (hx : evA σ x = .t (.pt (eL xs) (i.toNat * m))) (h : ixI xs i = some e) (hk : F.k = m) (hd : (enc e).map .t = ds) : Rd P s O σ (.load t x) ty (.agg ds) := by
  obtain ⟨_, h2, rfl⟩ := ixI_spec h; rw [← hd]; exact Rd.elR hx hk h2
theorem Rd.elMFR {t : TypeId} {x : Operand} {m f q : Nat} {ds : List AV} [T : CA P t true] [Z : CS P t q] (hx : evA σ x = .t (.pt (eL xs) (i.toNat * m + f))) (h : ixI xs i = some e) (hk : F.k = m) (hf : Nat.ble (f + q) m = true) (hd : (((enc e).drop f).take q).map .t = ds) : Rd P s O σ (.load t x) ty (.agg ds) := by
  obtain ⟨_, h2, rfl⟩ := ixI_spec h; rw [← hd]; exact Rd.elFR hx hk h2 (Nat.le_of_ble_eq_true hf) rfl
theorem Rd.ixOM {t e' : TypeId} {k b n0 : Nat} {x y : Operand} {ob : Ob} [T : CSl P t e'] [Z : CS P e' k] (hx : evA σ x = .os b 0 n0) (hO : O[b]? = some (some ob)) (hy : evA σ y = iA i) (h : 0 ≤ i ∧ i < (n0 : Int)) : Rd P s O σ (.indexAddr t x y) ty (.op b (0 + i.toNat * k)) := Rd.ixO hx hO hy h
theorem Rd.owM1 {t e' : TypeId} {x : Operand} {b k0 : Nat} {c : Tr} [T : CA P t false] (hx : evA σ x = .op b (0 + i.toNat * 1)) (hO : O[b]? = some (some ⟨.tr (eL xs), e', k0⟩)) (h : ixI xs i = some e) (hk : F.k = 1) (hc : enc e = [c]) : Rd P s O σ (.load t x) ty (.t c) := by
  obtain ⟨_, h2, rfl⟩ := ixI_spec h; exact Rd.own1 hx hO hk h2 hc
theorem Rd.owMF {t e' : TypeId} {x : Operand} {b m f k0 : Nat} {c : Tr} [T : CA P t false] (hx : evA σ x = .op b (0 + i.toNat * m + f)) (hO : O[b]? = some (some ⟨.tr (eL xs), e', k0⟩)) (h : ixI xs i = some e) (hk : F.k = m) (hc : (enc e)[f]? = some c) : Rd P s O σ (.load t x) ty (.t c) := by
  obtain ⟨_, h2, rfl⟩ := ixI_spec h; exact Rd.ownF hx hO hk h2 hc
theorem Rd.owMR {t e' : TypeId} {x : Operand} {b k0 m : Nat} {ds : List AV} [T : CA P t true] [Z : CS P t m] (hx : evA σ x = .op b (0 + i.toNat * m)) (hO : O[b]? = some (some ⟨.tr (eL xs), e', k0⟩)) (h : ixI xs i = some e) (hk : F.k = m) (hd : (enc e).map .t = ds) : Rd P s O σ (.load t x) ty (.agg ds) := by
  obtain ⟨_, h2, rfl⟩ := ixI_spec h; rw [← hd]; exact Rd.ownR hx hO hk h2
theorem Rd.owMFR {t e' : TypeId} {x : Operand} {b m f q k0 : Nat} {ds : List AV} [T : CA P t true] [Z : CS P t q] (hx : evA σ x = .op b (0 + i.toNat * m + f)) (hO : O[b]? = some (some ⟨.tr (eL xs), e', k0⟩)) (h : ixI xs i = some e) (hk : F.k = m) (hf : Nat.ble (f + q) m = true) (hd : (((enc e).drop f).take q).map .t = ds) : Rd P s O σ (.load t x) ty (.agg ds) := by
  obtain ⟨_, h2, rfl⟩ := ixI_spec h; rw [← hd, List.map_take, List.map_drop]
  have hf' := Nat.le_of_ble_eq_true hf
  refine Rd.loadOR hx hO (by rw [List.length_take, List.length_drop, List.length_map, F.len, hk]; omega) fun g hg => ?_
  rw [← hk, Nat.add_assoc, Nat.add_assoc, Nat.zero_add, List.getElem?_take, if_pos hg, List.getElem?_drop, List.getElem?_map]
  show ((eL xs).map AV.t)[i.toNat * F.k + (f + g)]? = _
  rw [List.getElem?_map, eL_get h2 (by rw [hk]; omega)]
theorem PL.stRM {t e' : TypeId} {x y : Operand} {b k0 m : Nat} {v : AV} (x' : α) [Z : CS P t m] (hx : evA σ x = .op b (0 + i.toNat * m)) (hy : evA σ y = v) (hw : wholeA v = true) (hO : O[b]? = some (some ⟨.tr (eL xs), e', k0⟩)) (hk : F.k = m) (h : ixI xs i = some e) (hc : cellsA v = (enc x').map .t)
    (k : PL P n s ops rest Q σ (O.set b (some ⟨.tr (eL (xs.set i.toNat x')), e', k0⟩))) : PL P n s ops (⟨none, .store t x y, ty, pos, after, none⟩ :: rest) Q σ O := by
  obtain ⟨_, h2, rfl⟩ := ixI_spec h; exact PL.stR x' hx hy hw hO hk h2 hc k
theorem PL.stFM {t e' : TypeId} {x y : Operand} {b k0 m f : Nat} {c : Tr} (x' : α) [Z : CS P t 1] (hx : evA σ x = .op b (0 + i.toNat * m + f)) (hy : evA σ y = .t c) (hO : O[b]? = some (some ⟨.tr (eL xs), e', k0⟩)) (hk : F.k = m) (h : ixI xs i = some e) (hf : Nat.blt f m = true) (hc : enc x' = (enc e).set f c)
    (k : PL P n s ops rest Q σ (O.set b (some ⟨.tr (eL (xs.set i.toNat x')), e', k0⟩))) : PL P n s ops (⟨none, .store t x y, ty, pos, after, none⟩ :: rest) Q σ O := by
  obtain ⟨_, h2, rfl⟩ := ixI_spec h; exact PL.stF x' hx hy hO hk h2 (by simpa using hf) hc k
/-- One element of an own slice is told anew, as its cells stand behind a store. -/
theorem cells_conv {M : Mp} {U : Nat → Prop} {w : World} {O : Obs} {c c' : Cs} {e' : TypeId} {k : Nat} (h : c.list = c'.list) (S : Mem s M (O ++ [some ⟨c, e', k⟩]) U w) : Mem s M (O ++ [some ⟨c', e', k⟩]) U w := by
  refine ⟨S.base, S.lent, by simpa using S.len, S.lt, S.fresh, S.one, fun b ob x hO hM => ?_, S.u⟩
  rcases snoc_get hO with h1 | ⟨h1, h2⟩
  · refine S.own b ob x ?_ hM
    have := (List.getElem?_eq_some_iff.1 h1).1
    rw [List.getElem?_append_left this]; exact h1
  · cases h2
    have hb := S.own b ⟨c, e', k⟩ x (by subst h1; simp) hM
    unfold Blk at hb ⊢
    cases x <;> simp only [Ob.cells] at hb ⊢ <;> rw [← h] <;> exact hb
theorem Ef.conv {op : Op} {v : AV} {c c' : Cs} {e' : TypeId} {k : Nat} (h : c.list = c'.list) (H : Ef P s O σ op ty v (O ++ [some ⟨c, e', k⟩])) : Ef P s O σ op ty v (O ++ [some ⟨c', e', k⟩]) := by
  intro M U w σc S hσ
  obtain ⟨y, w', p, h1, S', h3⟩ := H M U w σc S hσ
  exact ⟨y, w', p, h1, cells_conv h S', h3⟩
theorem Ef.lit0M (α : Type) [F : Enc α] {t e' : TypeId} {q : Nat} [T : CSl P t e'] [Z : CS P e' q] : Ef P s O σ (.buildSlice t 0 #[]) ty (.os O.length 0 0) (O ++ [some ⟨.tr (eL ([] : List α)), e', q⟩]) := Ef.lit0
/-- A nil slice among trees. -/
def nz : AV → AV
  | .t (.v (.slice none 0 0)) => .t (.sl 0 [])
  | x => x
theorem nz_rel {w : World} {U : Nat → Prop} {M : Mp} {c : AV} {y : Value} (h : Rel w U M c y) : Rel w U M (nz c) y := by
  unfold nz
  split
  · cases h with | t _ _ h => cases h; exact .t _ _ .nil
  · exact h
theorem Ef.convN {op : Op} {v : AV} {c c' : Cs} {e' : TypeId} {k : Nat} (h : c.list.map nz = c'.list) (H : Ef P s O σ op ty v (O ++ [some ⟨c, e', k⟩])) : Ef P s O σ op ty v (O ++ [some ⟨c', e', k⟩]) := by
  intro M U w σc S hσ
  obtain ⟨y, w', p, h1, S', h3⟩ := H M U w σc S hσ
  refine ⟨y, w', p, h1, ⟨S'.base, S'.lent, by simpa using S'.len, S'.lt, S'.fresh, S'.one, fun b ob x hO hM => ?_, S'.u⟩, h3⟩
  rcases snoc_get hO with h4 | ⟨h4, h5⟩
  · refine S'.own b ob x ?_ hM
    have := (List.getElem?_eq_some_iff.1 h4).1
    rw [List.getElem?_append_left this]; exact h4
  · cases h5
    have hb := S'.own b ⟨c, e', k⟩ x (by subst h4; simp) hM
    have hl : c'.list.length = c.list.length := by rw [← h]; simp
    cases x with
    | nl =>
      show c'.list = []
      have : c.list = [] := hb
      rw [this] at hl; exact List.eq_nil_of_length_eq_zero hl
    | dead => exact hb
    | ad L =>
      obtain ⟨g1, g2, cur, g3, g4, g5⟩ := hb
      refine ⟨g1, by show L.off + c'.list.length ≤ L.size; rw [hl]; exact g2, cur, g3, g4, fun j d hd => ?_⟩
      simp only [Ob.cells] at hd
      rw [← h, List.getElem?_map] at hd
      cases hq : c.list[j]? with
      | none => rw [hq] at hd; cases hd
      | some q =>
        rw [hq] at hd; simp at hd; subst hd
        obtain ⟨y, e1, e2, e3⟩ := g5 j q hq
        exact ⟨y, e1, e2, nz_rel e3⟩
theorem Ef.litM (ys : List α) (avs : List AV) {t e' : TypeId} {q len : Nat} {parts : Array (Nat × Operand)} {z : Value} [T : CSl P t e'] [Z : CS P e' q] [Y : CZ P e' z] (hz : z.cells.size = q) (hlen : avs.length = len) (hle : 0 < len * q ∧ len * q ≤ 16777216)
    (hw : avs.all wholeA = true) (hq : avs.all (fun c => Nat.beq (cellsA c).length q) = true) (hp : parts.toList.map (fun x => (x.1, evA σ x.2)) = (avs.zipIdx 0).map fun x => (x.2, x.1)) (hcs : (avs.flatMap cellsA).map nz = (ys.flatMap enc).map .t) : Ef P s O σ (.buildSlice t len parts) ty (.os O.length 0 len) (O ++ [some ⟨.tr (eL ys), e', q⟩]) :=
  Ef.convN (c := .mx (avs.flatMap cellsA)) hcs (Ef.lit avs hz hlen hle hw hq hp rfl)
theorem appM_spec {α : Type} {w : Nat} {xs ys zs : List α} (h : appM w xs ys = some zs) : zs = xs ++ ys ∧ (xs.length + ys.length) * w ≤ 140737488355328 ∧ xs.length + ys.length ≤ 4611686018427387904 := by
  unfold appM at h; split at h
  · rename_i hb; exact ⟨(Option.some.inj h).symm, hb⟩
  · cases h
/-- append to a slice of the call's own. -/
theorem PL.apM {m0 : Nat} (hm : s.L.length = m0) {t e' : TypeId} {x y : Operand} {b n0 m bytes k0 : Nat} {ya : AV} {ys zs : List α} [T : CSl P t e'] [Z : CE P e' k0 bytes] (hd : Nat.blt d n = true) (hx : evA σ x = .os b 0 n0) (hO : O[b]? = some (some ⟨.tr (eL xs), e', k0⟩)) (hy : evA σ y = ya)
    (hsrc : SrcA s (O.set b none) ya k0 m (eL ys)) (hb : Nat.ble m0 b = true) (hk : F.k = k0) (hn : n0 = xs.length) (hyl : m = ys.length) (h : appM bytes xs ys = some zs)
    (kk : PL P n s ops rest Q (updA σ d (.os O.length 0 zs.length)) (O.set b none ++ [some ⟨.tr (eL zs), e', k0⟩])) :
    PL P n s ops (⟨some d, .call { callee := .builtin .append, args := #[x, y], argTypes := #[t, t] }, ty, pos, after, none⟩ :: rest) Q σ O := by
  obtain ⟨h1, h2, h3⟩ := appM_spec h
  exact PL.appE hm ys zs hd hx hO hy hsrc hb hk hn hyl h1 h2 h3 kk
theorem PL.apMN {t e' : TypeId} {x y : Operand} {m bytes k0 : Nat} {ya : AV} {ys zs : List α} [T : CSl P t e'] [Z : CE P e' k0 bytes] (hd : Nat.blt d n = true) (hx : evA σ x = .t (.v (.slice none 0 0))) (hy : evA σ y = ya) (hsrc : SrcA s O ya k0 m (eL ys))
    (hk : F.k = k0) (hyl : m = ys.length) (h : appM bytes ([] : List α) ys = some zs)
    (kk : PL P n s ops rest Q (updA σ d (.os O.length 0 zs.length)) (O ++ [some ⟨.tr (eL zs), e', k0⟩])) :
    PL P n s ops (⟨some d, .call { callee := .builtin .append, args := #[x, y], argTypes := #[t, t] }, ty, pos, after, none⟩ :: rest) Q σ O := by
  obtain ⟨h1, h2, h3⟩ := appM_spec h
  simp only [List.nil_append] at h1
  subst h1
  exact PL.appNE zs hd hx hy hsrc hk hyl (by simpa using h2) (by simpa using h3) kk
theorem PR.apM {K : Fr → Obs → List Nat → Prop} {ids : List Nat} {m0 : Nat} (hm : s.L.length = m0) {t e' : TypeId} {x y : Operand} {b n0 m bytes k0 : Nat} {ya : AV} {ys zs : List α} [T : CSl P t e'] [Z : CE P e' k0 bytes] (hd : Nat.blt d n = true) (hx : evA σ x = .os b 0 n0) (hO : O[b]? = some (some ⟨.tr (eL xs), e', k0⟩)) (hy : evA σ y = ya)
    (hsrc : SrcA s (O.set b none) ya k0 m (eL ys)) (hb : Nat.ble m0 b = true) (hxs : ids.contains b = true) (hk : F.k = k0) (hn : n0 = xs.length) (hyl : m = ys.length) (h : appM bytes xs ys = some zs)
    (kk : PR P n s ops ids rest K (updA σ d (.os O.length 0 zs.length)) (O.set b none ++ [some ⟨.tr (eL zs), e', k0⟩])) :
    PR P n s ops ids (⟨some d, .call { callee := .builtin .append, args := #[x, y], argTypes := #[t, t] }, ty, pos, after, none⟩ :: rest) K σ O := by
  obtain ⟨h1, h2, h3⟩ := appM_spec h
  exact PR.appE hm ys zs hd hx hO hy hsrc hb hxs hk hn hyl h1 h2 h3 kk
theorem flat_nil : ∀ ob, ob ∈ ([] : List Ob) → ob.flat := fun _ h => by cases h
theorem flat_cons {a : Ob} {l : List Ob} (h : a.flat) (t : ∀ ob, ob ∈ l → ob.flat) : ∀ ob, ob ∈ a :: l → ob.flat := fun ob hm => by
  rcases List.mem_cons.1 hm with rfl | hm
  · exact h
  · exact t ob hm
theorem Sb.nilE {z : Bool} {O : Obs} {ρ : Rho} : Sb z O ρ (sL ([] : List α)) (.t (.v (.slice none 0 0))) := .nil
end
/-- The result as a value, and the blocks that come with it. -/
abbrev RE (rv : AV) (rb : List Ob) : AV → List Ob → Prop := fun v bl => v = rv ∧ bl = rb
section
variable {P : Program} {n : Nat} {s : Bs} {Q : APost} {σ : Fr} {O : Obs} {ops : Array Oper} {rest : List Oper} {d : Nat} {ty : TypeId} {pos : String} {after : Array Edge} {xs : List Nat} {K : Fr → Obs → List Nat → Prop}
theorem PL.callM (z : Bool) (κ : List Nat) {f : FuncId} {O0 : List Ob} {args ds : List AV} {rv : AV} {rb : List Ob} {as' : List Operand} {ats : Array TypeId} (hc : FnX P f O0 args (RE rv rb)) (hd : Nat.blt d n = true)
    (hr : ∀ args w, (callFunc f args).run P w = .ok (.enter f args) w) (ha : as'.map (evA σ) = ds) (hs : SbL z O (κ.map some) args ds) (hnd : nodupB (κ.map some) = true) (hb : BlkL z O (κ.map some) (κ.map some) O0)
    (hfl : z = true → rv.flat ∧ ∀ ob, ob ∈ rb → ob.flat)
    (k : PL P n s ops rest Q (updA σ d (rv.ren (thet κ O.length))) (setK (O ++ (rb.drop κ.length).map (fun o => some (o.ren (thet κ O.length)))) κ (rb.map (·.ren (thet κ O.length))))) :
    PL P n s ops (⟨some d, .call { callee := .value (.func f), args := as'.toArray, argTypes := ats }, ty, pos, after, none⟩ :: rest) Q σ O :=
  PL.call z κ hc hd hr ha hs hnd hb (fun hz r bl h => by obtain ⟨rfl, rfl⟩ := h; exact hfl hz) (fun r bl h => by obtain ⟨rfl, rfl⟩ := h; exact k)
theorem PR.callM (z : Bool) (κ : List Nat) {f : FuncId} {O0 : List Ob} {args ds : List AV} {rv : AV} {rb : List Ob} {as' : List Operand} {ats : Array TypeId} (hc : FnX P f O0 args (RE rv rb)) (hd : Nat.blt d n = true)
    (hr : ∀ args w, (callFunc f args).run P w = .ok (.enter f args) w) (ha : as'.map (evA σ) = ds) (hs : SbL z O (κ.map some) args ds) (hnd : nodupB (κ.map some) = true) (hb : BlkL z O (κ.map some) (κ.map some) O0)
    (hfl : z = true → rv.flat ∧ ∀ ob, ob ∈ rb → ob.flat) (hκ : κ.all (fun b => xs.contains b) = true)
    (k : PR P n s ops xs rest K (updA σ d (rv.ren (thet κ O.length))) (setK (O ++ (rb.drop κ.length).map (fun o => some (o.ren (thet κ O.length)))) κ (rb.map (·.ren (thet κ O.length))))) :
    PR P n s ops xs (⟨some d, .call { callee := .value (.func f), args := as'.toArray, argTypes := ats }, ty, pos, after, none⟩ :: rest) K σ O :=
  PR.call z κ hc hd hr ha hs hnd hb (fun hz r bl h => by obtain ⟨rfl, rfl⟩ := h; exact hfl hz) hκ (fun r bl h => by obtain ⟨rfl, rfl⟩ := h; exact k)
/-- A function value's call, one argument. -/
theorem PL.callF1M {g : FuncId} {x a : Operand} {cs : List Tr} {A : AV} {v : Value} {ats : Array TypeId} (hc : Fn P g (A :: cs.map .t) (RE (.t (.v v)) [])) (hx : evA σ x = .t (.fn (.func g) cs)) (ha : evA σ a = A) (hd : Nat.blt d n = true)
    (hr : ∀ args w, (callFunc g args).run P w = .ok (.enter g args) w) (hA : Sb true O [] A A)
    (k : PL P n s ops rest Q (updA σ d (.t (.v v))) O) :
    PL P n s ops (⟨some d, .call { callee := .value x, args := #[a], argTypes := ats }, ty, pos, after, none⟩ :: rest) Q σ O :=
  PL.callF (as' := [a]) (ds := A :: cs.map .t) hx hc hd hr (by simp [ha]) ⟨hA, SbL.self cs⟩ k
theorem PL.callF2M {g : FuncId} {x a b : Operand} {cs : List Tr} {A B : AV} {v : Value} {ats : Array TypeId} (hc : Fn P g (A :: B :: cs.map .t) (RE (.t (.v v)) [])) (hx : evA σ x = .t (.fn (.func g) cs)) (ha : evA σ a = A) (hb : evA σ b = B) (hd : Nat.blt d n = true)
    (hr : ∀ args w, (callFunc g args).run P w = .ok (.enter g args) w) (hA : Sb true O [] A A) (hB : Sb true O [] B B)
    (k : PL P n s ops rest Q (updA σ d (.t (.v v))) O) :
    PL P n s ops (⟨some d, .call { callee := .value x, args := #[a, b], argTypes := ats }, ty, pos, after, none⟩ :: rest) Q σ O :=
  PL.callF (as' := [a, b]) (ds := A :: B :: cs.map .t) hx hc hd hr (by simp [ha, hb]) ⟨hA, hB, SbL.self cs⟩ k
theorem Sb.aggS' {z : Bool} {O : Obs} {ρ : Rho} (ts : List Tr) : Sb z O ρ (.agg (ts.map .t)) (.agg (ts.map .t)) := .aggL (SbL.self ts)
end
/-! the state told anew, as it stands -/
section
variable {P : Program} {n : Nat} {s : Bs} {Q : APost} {σ : Fr} {O : Obs} {ops : Array Oper} {rest : List Oper} {d : Nat} {xs : List Nat} {K : Fr → Obs → List Nat → Prop} {v0 : AV}
theorem PL.nm (v : AV) (O' : Obs) (hv : v0 = v) (hO : O = O') (k : PL P n s ops rest Q (updA σ d v) O') : PL P n s ops rest Q (updA σ d v0) O := by subst hv; subst hO; exact k
theorem PL.nO (O' : Obs) (hO : O = O') (k : PL P n s ops rest Q σ O') : PL P n s ops rest Q σ O := by subst hO; exact k
theorem PR.nm (v : AV) (O' : Obs) (hv : v0 = v) (hO : O = O') (k : PR P n s ops xs rest K (updA σ d v) O') : PR P n s ops xs rest K (updA σ d v0) O := by subst hv; subst hO; exact k
theorem PR.nO (O' : Obs) (hO : O = O') (k : PR P n s ops xs rest K σ O') : PR P n s ops xs rest K σ O := by subst hO; exact k
end
/-! slices of what is read, bytes, texts -/
section
variable {P : Program} {s : Bs} {σ : Fr} {O : Obs} {ty t t' : TypeId} {x y lo hi : Operand} {a b m n : Int}
theorem subM_spec {α : Type} {xs zs : List α} (h : subM xs a b = some zs) : ∃ l r : Nat, a = l ∧ b = r ∧ l ≤ r ∧ r ≤ xs.length ∧ zs = (xs.drop l).take (r - l) := by
  unfold subM at h; split at h
  · rename_i hb; exact ⟨a.toNat, b.toNat, by omega, by omega, by omega, by omega, (Option.some.inj h).symm⟩
  · cases h
theorem subS_spec {u z : ByteArray} (h : subS u a b = some z) : ∃ l r : Nat, a = l ∧ b = r ∧ l ≤ r ∧ r ≤ u.size ∧ z = u.extract l r := by
  unfold subS at h; split at h
  · rename_i hb; exact ⟨a.toNat, b.toNat, by omega, by omega, by omega, by omega, (Option.some.inj h).symm⟩
  · cases h
section
variable {α : Type} [F : Enc α] {xs zs : List α} {e : TypeId} {k : Nat}
theorem Rd.subTM [T : CSl P t e] [Z : CS P e k] (hx : evA σ x = sL xs) (h : V.subM xs 0 (xs.length : Int) = some zs) (hk : F.k = k := by rfl) : Rd P s O σ (.slice t x none none none) ty (sL zs) := by
  obtain ⟨l, r, h1, h2, h3, h4, rfl⟩ := subM_spec h
  exact Rd.sliceE hx (show r = xs.length by omega) (show l = 0 by omega) ⟨h3, h4⟩ hk
theorem Rd.subTMH [T : CSl P t e] [Z : CS P e k] (hx : evA σ x = sL xs) (hh : evA σ hi = iA b) (h : V.subM xs 0 b = some zs) (hk : F.k = k := by rfl) : Rd P s O σ (.slice t x none (some hi) none) ty (sL zs) := by
  obtain ⟨l, r, h1, rfl, h3, h4, rfl⟩ := subM_spec h
  exact Rd.sliceE hx hh (show l = 0 by omega) ⟨h3, h4⟩ hk
theorem Rd.subTML [T : CSl P t e] [Z : CS P e k] (hx : evA σ x = sL xs) (hl : evA σ lo = iA a) (h : V.subM xs a (xs.length : Int) = some zs) (hk : F.k = k := by rfl) : Rd P s O σ (.slice t x (some lo) none none) ty (sL zs) := by
  obtain ⟨l, r, rfl, h2, h3, h4, rfl⟩ := subM_spec h
  exact Rd.sliceE hx (show r = xs.length by omega) hl ⟨h3, h4⟩ hk
theorem Rd.subTMLH [T : CSl P t e] [Z : CS P e k] (hx : evA σ x = sL xs) (hl : evA σ lo = iA a) (hh : evA σ hi = iA b) (h : V.subM xs a b = some zs) (hk : F.k = k := by rfl) : Rd P s O σ (.slice t x (some lo) (some hi) none) ty (sL zs) := by
  obtain ⟨l, r, rfl, rfl, h3, h4, rfl⟩ := subM_spec h
  exact Rd.sliceE hx hh hl ⟨h3, h4⟩ hk
end
section
variable {u z : ByteArray}
theorem Rd.subSM [T : CSt P t] (hx : evA σ x = sA u) (h : subS u 0 (u.size : Int) = some z) : Rd P s O σ (.slice t x none none none) ty (sA z) := by
  obtain ⟨l, r, h1, h2, h3, h4, rfl⟩ := subS_spec h
  exact Rd.sliceS hx (show r = u.size by omega) (show l = 0 by omega) ⟨h3, h4⟩
theorem Rd.subSMH [T : CSt P t] (hx : evA σ x = sA u) (hh : evA σ hi = iA b) (h : subS u 0 b = some z) : Rd P s O σ (.slice t x none (some hi) none) ty (sA z) := by
  obtain ⟨l, r, h1, rfl, h3, h4, rfl⟩ := subS_spec h
  exact Rd.sliceS hx hh (show l = 0 by omega) ⟨h3, h4⟩
theorem Rd.subSML [T : CSt P t] (hx : evA σ x = sA u) (hl : evA σ lo = iA a) (h : subS u a (u.size : Int) = some z) : Rd P s O σ (.slice t x (some lo) none none) ty (sA z) := by
  obtain ⟨l, r, rfl, h2, h3, h4, rfl⟩ := subS_spec h
  exact Rd.sliceS hx (show r = u.size by omega) hl ⟨h3, h4⟩
theorem Rd.subSMLH [T : CSt P t] (hx : evA σ x = sA u) (hl : evA σ lo = iA a) (hh : evA σ hi = iA b) (h : subS u a b = some z) : Rd P s O σ (.slice t x (some lo) (some hi) none) ty (sA z) := by
  obtain ⟨l, r, rfl, rfl, h3, h4, rfl⟩ := subS_spec h
  exact Rd.sliceS hx hh hl ⟨h3, h4⟩
end
theorem Rd.lssU (hx : evA σ x = .t (.v (.int .u8 m))) (hy : evA σ y = .t (.v (.int .u8 n))) : Rd P s O σ (.binOp .lss t x y t') ty (bA (decide (m < n))) :=
  Rd.of2 hx hy rfl fun _ _ h1 h2 => Yl.mk fun d pos after g => by simp [execOp, h1, h2, eqGuard, binOp, Op.intCmp]
theorem Rd.leqU (hx : evA σ x = .t (.v (.int .u8 m))) (hy : evA σ y = .t (.v (.int .u8 n))) : Rd P s O σ (.binOp .leq t x y t') ty (bA (decide (m ≤ n))) :=
  Rd.of2 hx hy rfl fun _ _ h1 h2 => Yl.mk fun d pos after g => by simp [execOp, h1, h2, eqGuard, binOp, Op.intCmp]
theorem Rd.gtrU (hx : evA σ x = .t (.v (.int .u8 m))) (hy : evA σ y = .t (.v (.int .u8 n))) : Rd P s O σ (.binOp .gtr t x y t') ty (bA (decide (n < m))) :=
  Rd.of2 hx hy rfl fun _ _ h1 h2 => Yl.mk fun d pos after g => by simp [execOp, h1, h2, eqGuard, binOp, Op.intCmp]
theorem Rd.geqU (hx : evA σ x = .t (.v (.int .u8 m))) (hy : evA σ y = .t (.v (.int .u8 n))) : Rd P s O σ (.binOp .geq t x y t') ty (bA (decide (n ≤ m))) :=
  Rd.of2 hx hy rfl fun _ _ h1 h2 => Yl.mk fun d pos after g => by simp [execOp, h1, h2, eqGuard, binOp, Op.intCmp]
end
/-! make -/
/-- Zero values as trees. -/
def ZL : List Tr → List Value → Prop
  | [], [] => True
  | c :: cs, v :: vs => ((c = .v v ∧ plain v = true) ∨ (c = .sl 0 [] ∧ v = .slice none 0 0)) ∧ ZL cs vs
  | _, _ => False
theorem ZL.spec {w : World} {U : Nat → Prop} {M : Mp} : ∀ {cs : List Tr} {vs : List Value}, ZL cs vs → vs.length = cs.length ∧ ∀ (j : Nat) c, cs[j]? = some c → ∃ y, vs[j]? = some y ∧ y.oneCell' = true ∧ Rel w U M (.t c) y
  | [], [], _ => ⟨rfl, fun j c h => by simp at h⟩
  | [], v :: vs, h => by cases h
  | c :: cs, [], h => by cases h
  | c :: cs, v :: vs, ⟨h1, h2⟩ => by
    obtain ⟨h3, h4⟩ := ZL.spec (w := w) (U := U) (M := M) h2
    refine ⟨by simp [h3], fun j d hd => ?_⟩
    cases j with
    | zero =>
      simp at hd; subst hd
      rcases h1 with ⟨rfl, hp⟩ | ⟨rfl, rfl⟩
      · exact ⟨v, rfl, plain_cell hp, .t _ _ (.v _ hp)⟩
      · exact ⟨_, rfl, rfl, .t _ _ .nil⟩
    | succ j => simpa using h4 j d (by simpa using hd)
theorem ZL.app : ∀ {cs ds : List Tr} {vs ws : List Value}, ZL cs vs → ZL ds ws → ZL (cs ++ ds) (vs ++ ws)
  | [], _, [], _, _, h => h
  | [], _, v :: vs, _, h, _ => by cases h
  | c :: cs, _, [], _, h, _ => by cases h
  | c :: cs, _, v :: vs, _, ⟨h1, h2⟩, h => ⟨h1, ZL.app h2 h⟩
def mkM {α : Type} (w : Nat) (z : α) (n : Int) : Option (List α) := if 0 ≤ n ∧ (w : Int) * n ≤ 281474976710656 ∧ n ≤ 4611686018427387904 then some (List.replicate n.toNat z) else none
theorem run_make {P : Program} {w : World} {σc : Nat → Value} {ty t e : TypeId} {q bytes : Nat} {z : Value} {x y : Operand} {m : Nat} [T : CSl P t e] [Z : CS P e q] [Y : CZ P e z] [B : CY P e bytes] (hx : ev σc x = .int .i64 (m : Int)) (hy : ev σc y = .int .i64 (m : Int))
    (hb : bytes * m ≤ 281474976710656) (hm : m ≤ 4611686018427387904) (hz : z.cells.size = q) (hq : 0 < q) :
    Yl P σc (.makeSlice t x y) ty w (.slice (some ⟨w.heap.size, 0, none⟩) m m) (w.alloc (.cells ((List.range m).flatMap fun _ => z.cells.toList).toArray e)) := by
  have hw := R.wrap_in (n := (m : Int)) (by omega)
  obtain ⟨i, hi, hby⟩ := B.run w
  have hcell : (if m * q = 0 then (#[] : Array Value) else z.cells).size = q ∨ m = 0 := by
    by_cases h : m = 0
    · exact .inr h
    · left; rw [if_neg (Nat.mul_ne_zero h (by omega))]; exact hz
  have hcs : (Array.range (m * q)).map (fun i => (if m * q = 0 then (#[] : Array Value) else z.cells)[i % (if m * q = 0 then (#[] : Array Value) else z.cells).size]!) = ((List.range m).flatMap fun _ => z.cells.toList).toArray := by
    rcases hcell with h | h
    · by_cases h0 : m * q = 0
      · have : m = 0 := by rcases Nat.mul_eq_zero.1 h0 with h1 | h1 <;> omega
        subst this; simp
      · rw [if_neg h0, hz]
        apply Array.ext'
        simp only [Array.toList_map, Array.toList_range]
        clear hx hy hb hm hw h h0
        induction m with
        | zero => simp
        | succ m ih =>
          rw [Nat.add_mul, Nat.one_mul, List.range_add, List.map_append, ih, List.range_succ, List.flatMap_append]
          congr 1
          simp only [List.map_map, List.flatMap_cons, List.flatMap_nil, List.append_nil]
          apply List.ext_getElem
          · simp [hz]
          · intro i h1 h2
            simp at h1 h2
            have : (m * q + i) % q = i := by rw [Nat.mul_comm, Nat.mul_add_mod]; exact Nat.mod_eq_of_lt (by omega)
            simp [this, h2]
    · subst h; simp
  refine Yl.mk fun d pos after g => ?_
  have h1 : ¬ ((281474976710656 : Int) < (bytes : Int) * (m : Int)) := by
    have : ((bytes * m : Nat) : Int) = (bytes : Int) * (m : Int) := by simp
    omega
  have h2 : ¬ ((m : Int) < 0) := by omega
  have hmq : (m : Int).toNat = m := by simp
  by_cases h0 : m * q = 0
  · simp only [h0, if_true] at hcs
    simp [execOp, hx, hy, Instr.makeSlice, T.run, asInt, asIntOf, hi, hby, hw, h1, h2, Z.run, h0, newRow] at hcs ⊢
    rw [hcs]
  · simp only [h0, if_false] at hcs
    simp [execOp, hx, hy, Instr.makeSlice, T.run, asInt, asIntOf, hi, hby, hw, h1, h2, Z.run, Y.run, h0, newRow] at hcs ⊢
    rw [hcs]
theorem ZL.rep {α : Type} [F : Enc α] {z0 : α} {vs : List Value} (h : ZL (enc z0) vs) : ∀ m, ZL (eL (List.replicate m z0)) ((List.range m).flatMap fun _ => vs)
  | 0 => trivial
  | m + 1 => by
    rw [List.replicate_succ', eL_app, eL_one, List.range_succ, List.flatMap_append]
    exact (ZL.rep h m).app (by simpa using h)
theorem Ef.makeM {α : Type} [F : Enc α] (z0 : α) {P : Program} {s : Bs} {σ : Fr} {O : Obs} {ty t e : TypeId} {q bytes : Nat} {z : Value} {x y : Operand} {n : Int} {zs : List α} [T : CSl P t e] [Z : CS P e q] [Y : CZ P e z] [B : CY P e bytes] (hx : evA σ x = iA n) (hy : evA σ y = iA n)
    (h : mkM bytes z0 n = some zs) (hk : F.k = q) (hz : z.cells.size = q) (hq : Nat.blt 0 q = true) (hzl : ZL (enc z0) z.cells.toList) : Ef P s O σ (.makeSlice t x y) ty (.os O.length 0 zs.length) (O ++ [some ⟨.tr (eL zs), e, q⟩]) := by
  unfold mkM at h
  split at h
  · rename_i hb
    cases h
    obtain ⟨m, rfl⟩ := Int.eq_ofNat_of_zero_le hb.1
    have hq' : 0 < q := by simpa using hq
    have hbm : bytes * m ≤ 281474976710656 := by
      have : ((bytes * m : Nat) : Int) = (bytes : Int) * (m : Int) := by simp
      omega
    have hm : m ≤ 4611686018427387904 := by omega
    intro M U w σc S hσ
    have ex := evA_rel hσ x; rw [hx] at ex
    have ey := evA_rel hσ y; rw [hy] at ey
    simp only [Int.toNat_natCast, List.length_replicate]
    have hlen : ((List.range m).flatMap fun _ => z.cells.toList).length = m * q := by
      rw [(ZL.spec (w := w) (U := U) (M := M) (hzl.rep m)).1, eL_len, hk, List.length_replicate]
    obtain ⟨S', hall2⟩ := S.ins (w' := w.alloc (.cells ((List.range m).flatMap fun _ => z.cells.toList).toArray e)) (L := ⟨w.heap.size, m * q, q⟩) (ob := ⟨.tr (eL (List.replicate m z0)), e, q⟩) ((Below.refl _ _).alloc (Nat.le_refl _) _) (Nat.le_refl _) (by simp)
      ⟨_, rfl, by simp [Ob.cells, Cs.list, Loc.off, eL_len, hk], heap_alloc_new _ _, by simpa using hlen, fun j c hj => by
        simp only [Ob.cells, Cs.list, List.getElem?_map] at hj
        cases hq : (eL (List.replicate m z0))[j]? with
        | none => rw [hq] at hj; cases hj
        | some q =>
          rw [hq] at hj; simp at hj; subst hj
          obtain ⟨y, h1, h2, h3⟩ := (ZL.spec (w := w) (U := U) (M := M) (hzl.rep m)).2 j q hq
          exact ⟨y, by simpa [Loc.off] using h1, h2, h3⟩⟩
    refine ⟨_, _, _, run_make ex.int ey.int hbm hm hz hq', S', ?_, hall2, BelowX.of _ ((Below.refl _ _).alloc (Nat.le_refl _) _), fun L h => by cases h; exact Nat.le_refl _⟩
    have hml : maxLen = 9223372036854775807 := rfl
    exact .os (U := U) (M := M ++ [.ad ⟨w.heap.size, m * q, q⟩]) O.length 0 m m ⟨w.heap.size, m * q, q⟩ (snoc_new S.len.symm) (by simp [Loc.off]) (Nat.le_refl _) (by omega)
  · cases h
section
variable {P : Program} {n : Nat} {s : Bs} {Q Q' : APost} {σ : Fr} {O : Obs}
theorem PC.monoQ {c : Code} (h : PC P n s c Q σ O) (hq : ∀ e σ O, Q e σ O → Q' e σ O) : PC P n s c Q' σ O := by
  refine ⟨fun M U σc w S hσ => (h.h M U σc w S hσ).mono ?_⟩
  rintro e τ w' ⟨M', U', σ', O', S', hσ', h1⟩
  exact ⟨M', U', σ', O', S', hσ', hq _ _ _ h1⟩
/-- The first part ends in a state that is told; the second part goes on from it. -/
theorem PC.cut {m : Nat} (hm : s.L.length = m) {α : Type} {x y : Code} (L : α → List (Nat × AV)) (B : α → List Ob) (J : α → Prop)
    (h1 : PC P n s x (thA (fun σ' O' => ∃ a, J a ∧ ∃ ρ, Rs m σ' O' ρ (L a) (B a)) Q) σ O) (h2 : ∀ a, J a → PC P n s y Q (ovA (L a)) ((B a).map some)) : PC P n s (.seq x y) Q σ O := by
  refine PC.seq (h1.monoQ fun e σ' O' hq => ?_)
  cases e with
  | normal =>
    obtain ⟨a, hj, ρ, hR⟩ := hq
    exact PC.told hm (L a) (B a) ρ hR (h2 a hj)
  | _ => exact hq
/-- The same, with nothing behind it in its sequence. -/
theorem PC.cutE {m : Nat} (hm : s.L.length = m) {α : Type} {x : Code} (L : α → List (Nat × AV)) (B : α → List Ob) (J : α → Prop)
    (h1 : PC P n s x (thA (fun σ' O' => ∃ a, J a ∧ ∃ ρ, Rs m σ' O' ρ (L a) (B a)) Q) σ O) (h2 : ∀ a, J a → Q .normal (ovA (L a)) ((B a).map some)) : PC P n s x Q σ O := by
  refine ⟨fun M U σc w S hσ => (h1.h M U σc w S hσ).mono ?_⟩
  rintro e τ w' ⟨M', U', σ', O', S', hσ', hq⟩
  cases e with
  | normal =>
    obtain ⟨a, hj, ρ, hR⟩ := hq
    exact ⟨_, _, _, _, S'.told hm hR.lent hR.nodup hR.blk, hR.pins.rels S' hσ', h2 a hj⟩
  | _ => exact ⟨M', U', σ', O', S', hσ', hq⟩
end
end V
end Go.Proofs.Ytoljdhdfijnjiaa
