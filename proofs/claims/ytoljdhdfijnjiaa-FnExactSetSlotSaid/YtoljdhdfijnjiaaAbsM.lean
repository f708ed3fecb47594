/- Literals of slices that are only read. No condition. -/
import Derived.Test.YtoljdhdfijnjiaaAbsL
namespace Go.Proofs.Ytoljdhdfijnjiaa
namespace V
set_option linter.unusedVariables false
set_option linter.unusedSimpArgs false
open Go.RowKit

section
variable {P : Program} {n : Nat} {s : Bs} {Q : APost} {σ : Fr} {O : Obs} {ops : Array Oper} {rest : List Oper} {d : Nat} {ty : TypeId} {pos : String} {after : Array Edge} {xs : List Nat} {K : Fr → Obs → List Nat → Prop}
theorem Mem.addU {M : Mp} {U : Nat → Prop} {w : World} {B0 : Nat} (S : Mem s M O U w) (h1 : ¬ InM M B0) (h2 : B0 < w.heap.size) (h3 : s.w.heap.size ≤ B0) : Mem s M O (fun B => U B ∨ B = B0) w := by
  refine ⟨S.base, S.lent, S.len, S.lt, S.fresh, S.one, fun b ob x hO hM => ?_, fun B hB => ?_⟩
  · have := S.own b ob x hO hM
    cases x with
    | nl => exact this
    | dead => exact this
    | ad L =>
      obtain ⟨h1, h2, cur, h3, h4, h5⟩ := this
      refine ⟨h1, h2, cur, h3, h4, fun j c hc => ?_⟩
      obtain ⟨y, g1, g2, g3⟩ := h5 j c hc
      exact ⟨y, g1, g2, g3.mono (fun _ _ => rfl) (fun B hB => .inl hB) (fun _ _ e => e)⟩
  · rcases hB with hB | rfl
    · exact S.u B hB
    · exact ⟨⟨h2, h1⟩, .inr h3⟩
/-- A step that makes a block which is only read from then on. -/
def Er (P : Program) (s : Bs) (O : Obs) (σ : Fr) (op : Op) (ty : TypeId) (x : AV) : Prop :=
  ∀ M U w σc, Mem s M O U w → Rels w U M σ σc → ∃ y w' U', Yl P σc op ty w y w' ∧ Mem s M O U' w' ∧ Rel w' U' M x y ∧ (∀ c z, Rel w U M c z → Rel w' U' M c z) ∧ BelowX [] w w'
theorem Er.of {op : Op} {len k : Nat} {e : TypeId} {cs : List AV} {ds : List Tr} (h : Ef P s O σ op ty (.os O.length 0 len) (O ++ [some ⟨.mx cs, e, k⟩])) (hd : trsL cs = some ds) (hl : ds.length = len * k) : Er P s O σ op ty (.t (.sl len ds)) := by
  intro M U w σc S hσ
  obtain ⟨y, w', p, hrun, S', hx, hall, hb, _⟩ := h M U w σc S hσ
  have hbl : Below w.heap.size w w' := hb.below
  have hcs := trsL_spec hd
  have hml : M.length = O.length := S.len
  have hlast : (M ++ [p])[O.length]? = some p := snoc_new hml.symm
  have hO : (O ++ [some (⟨.mx cs, e, k⟩ : Ob)])[O.length]? = some (some ⟨.mx cs, e, k⟩) := snoc_new rfl
  have keep : ∀ U' : Nat → Prop, (∀ B, U B → U' B) → ∀ c z, Rel w U M c z → Rel w' U' M c z := fun U' hU c z h => h.mono (fun B hB => hbl.block B (S.u B hB).1.1) hU (fun _ _ e => e)
  cases hx with
  | osd _ _ _ _ _ hM => rw [hlast] at hM; cases hM; exact (S'.own _ _ _ hO hlast).elim
  | osn _ hM =>
    rw [hlast] at hM; cases hM
    have hd0 : ds = [] := List.eq_nil_of_length_eq_zero (by simpa using hl)
    subst hd0
    exact ⟨_, w', U, hrun, S.below hbl, .t _ _ .nil, keep U (fun _ h => h), hb⟩
  | osz _ _ o L hM =>
    rw [hlast] at hM; cases hM
    have hd0 : ds = [] := List.eq_nil_of_length_eq_zero (by simpa using hl)
    subst hd0
    have hnew : ¬ InM M L.blk := by
      rintro ⟨b, L', h1, h2⟩
      have := S'.one b O.length L' L (snoc_old h1) hlast h2
      have := (List.getElem?_eq_some_iff.1 h1).1; omega
    have hfr : s.w.heap.size ≤ L.blk := by
      rcases S'.fresh _ ⟨O.length, L, hlast, rfl⟩ with h | h
      · exact h
      · obtain ⟨b', L', h1, h2⟩ := Bs.exX h
        exact absurd ⟨b', L', S.lent _ _ h1, h2⟩ hnew
    exact ⟨_, w', _, hrun, (S.below hbl).addU hnew (S'.lt _ ⟨O.length, L, hlast, rfl⟩) hfr, .t _ _ (.sl L.blk o 0 0 [] [] (.inr rfl) rfl (fun y h => by simp at h) (fun j y h => by simp at h) (fun j c y h => by simp at h) (Nat.le_refl _)), keep _ (fun _ h => .inl h), hb⟩
  | os _ _ _ cap L hM hcap hn hx1 =>
    rw [hlast] at hM; cases hM
    have hnew : ¬ InM M L.blk := by
      rintro ⟨b, L', h1, h2⟩
      have := S'.one b O.length L' L (snoc_old h1) hlast h2
      have := (List.getElem?_eq_some_iff.1 h1).1; omega
    have hfr : s.w.heap.size ≤ L.blk := by
      rcases S'.fresh _ ⟨O.length, L, hlast, rfl⟩ with h | h
      · exact h
      · obtain ⟨b', L', h1, h2⟩ := Bs.exX h
        exact absurd ⟨b', L', S.lent _ _ h1, h2⟩ hnew
    obtain ⟨hk, hle, cur, hcur, hsz, hr⟩ := S'.own _ _ _ hO hlast
    have hcl : (Ob.cells ⟨.mx cs, e, k⟩) = ds.map .t := hcs
    rw [hcl] at hle hr
    simp only [List.length_map] at hle
    have hyl : ((cur.toList.drop L.off).take ds.length).length = ds.length := by simp; omega
    have hget : ∀ i y, ((cur.toList.drop L.off).take ds.length)[i]? = some y → i < ds.length ∧ cur[L.off + i]? = some y := by
      intro i y h
      rw [List.getElem?_take] at h
      split at h
      · rename_i hi; rw [List.getElem?_drop] at h; exact ⟨hi, by simpa using h⟩
      · cases h
    refine ⟨_, w', _, hrun, (S.below hbl).addU hnew (S'.lt _ ⟨O.length, L, hlast, rfl⟩) hfr, .t _ _ (.sl L.blk (L.off + 0) len cap ds ((cur.toList.drop L.off).take ds.length) (.inr rfl) hyl ?_ ?_ ?_ hn), keep _ (fun _ h => .inl h), hb⟩
    · intro y hy
      obtain ⟨i, hi⟩ := mem_get hy
      obtain ⟨h3, h4⟩ := hget i y hi
      obtain ⟨y', h5, h6, _⟩ := hr i (.t ds[i]) (by simp [h3])
      rw [h4] at h5; cases h5; exact h6
    · intro i y hy
      obtain ⟨h3, h4⟩ := hget i y hy
      rw [cell_of_row w' _ _ cur _ _ hcur, Nat.add_zero]; exact h4
    · intro i c y hc hy
      obtain ⟨h3, h4⟩ := hget i y hy
      obtain ⟨y', h5, _, h6⟩ := hr i (.t c) (by simp [hc])
      rw [h4] at h5; cases h5
      cases h6 with | t _ _ h => exact h.mono (fun _ _ => rfl) (fun B hB => .inl hB)
theorem PL.er {op : Op} {x : AV} (hd : Nat.blt d n = true) (h : Er P s O σ op ty x) (k : PL P n s ops rest Q (updA σ d x) O) : PL P n s ops (⟨some d, op, ty, pos, after, none⟩ :: rest) Q σ O := by
  refine ⟨fun M U σc w S hσ => ?_⟩
  obtain ⟨y, w', U', hrun, S', hx, hall, _⟩ := h M U w σc S hσ
  exact LW.op hd hrun (k.h M U' _ w' S' (Rels.upd (fun t => hall _ _ (hσ t)) d hx))
theorem PR.er {op : Op} {x : AV} (hd : Nat.blt d n = true) (he : isEff ⟨some d, op, ty, pos, after, none⟩ = true) (h : Er P s O σ op ty x) (k : PR P n s ops xs rest K (updA σ d x) O) : PR P n s ops xs (⟨some d, op, ty, pos, after, none⟩ :: rest) K σ O := by
  refine ⟨fun M U σc w X S hσ hX a ha => ?_⟩
  obtain ⟨y, w', U', hrun, S', hx, hall, hb⟩ := h M U w σc S hσ
  exact .inr ⟨he, rfl, .inr ⟨y, w', X, .inl (by rw [ha.eval]; exact hrun.run _ _ _ _), ⟨hb.os, hb.tape, hb.output, hb.size, fun k hk _ => hb.block k hk (by simp)⟩, XX.refl,
    k.h M U' _ w' X S' (Rels.upd (fun t => hall _ _ (hσ t)) d hx) hX _ (ha.put d y hd)⟩⟩
/-- xs[l:h] -/
theorem Rd.sliceE {α : Type} [F : Enc α] {ys : List α} {t e : TypeId} {k l h : Nat} {x : Operand} {lo hi : Option Operand} [T : CSl P t e] [Z : CS P e k] (hx : evA σ x = sL ys) (hh : bnd σ hi ys.length h) (hl : bnd σ lo 0 l) (hb : l ≤ h ∧ h ≤ ys.length) (hk : F.k = k := by rfl) :
    Rd P s O σ (.slice t x lo hi none) ty (.t (.sl ((ys.drop l).take (h - l)).length (eL ((ys.drop l).take (h - l))))) := by
  have := Rd.sliceT (P := P) (s := s) (O := O) (ty := ty) (t := t) hx hh hl hb (by rw [← hk, eL_drop, eL_take])
  have e : ((ys.drop l).take (h - l)).length = h - l := by simp; omega
  rw [e]; exact this
theorem map_ints : ∀ (xs : List Int), (xs.map iA).flatMap cellsA = (eL xs).map .t
  | [] => rfl
  | x :: xs => by rw [List.map_cons, List.flatMap_cons, map_ints xs]; rfl
theorem map_strs : ∀ (xs : List ByteArray), (xs.map sA).flatMap cellsA = (eL xs).map .t
  | [] => rfl
  | x :: xs => by rw [List.map_cons, List.flatMap_cons, map_strs xs]; rfl
theorem trsL_map : ∀ (ds : List Tr), trsL (ds.map .t) = some ds
  | [] => rfl
  | c :: ds => by simp [trsL, trsL_map ds]
/-- The literal of a slice of numbers. -/
theorem Er.ints (xs : List Int) {t e : TypeId} {len : Nat} {parts : Array (Nat × Operand)} {z : Value} [T : CSl P t e] [Z : CS P e 1] [Y : CZ P e z] (hz : z.cells.size = 1) (hlen : xs.length = len) (hle : 0 < len * 1 ∧ len * 1 ≤ 16777216)
    (hp : parts.toList.map (fun x => (x.1, evA σ x.2)) = ((xs.map iA).zipIdx 0).map fun x => (x.2, x.1)) : Er P s O σ (.buildSlice t len parts) ty (.t (.sl len (eL xs))) :=
  Er.of (Ef.lit (xs.map iA) hz (by simpa using hlen) hle (by simp [wholeA, isC]) (by simp [cellsA]) hp (map_ints xs)) (trsL_map _) (by rw [eL_len, hlen]; rfl)
theorem Er.strs (xs : List ByteArray) {t e : TypeId} {len : Nat} {parts : Array (Nat × Operand)} {z : Value} [T : CSl P t e] [Z : CS P e 1] [Y : CZ P e z] (hz : z.cells.size = 1) (hlen : xs.length = len) (hle : 0 < len * 1 ∧ len * 1 ≤ 16777216)
    (hp : parts.toList.map (fun x => (x.1, evA σ x.2)) = ((xs.map sA).zipIdx 0).map fun x => (x.2, x.1)) : Er P s O σ (.buildSlice t len parts) ty (.t (.sl len (eL xs))) :=
  Er.of (Ef.lit (xs.map sA) hz (by simpa using hlen) hle (by simp [wholeA, isC]) (by simp [cellsA]) hp (map_strs xs)) (trsL_map _) (by rw [eL_len, hlen]; rfl)
end
end V
end Go.Proofs.Ytoljdhdfijnjiaa
