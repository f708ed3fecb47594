/- What is known is told anew: other names for own blocks, own blocks that are written no more. Loops, contracts, calls, the ends of calls. No condition. -/
import Derived.Test.YtoljdhdfijnjiaaAbsC
namespace Go.Proofs.Ytoljdhdfijnjiaa
namespace V
set_option linter.unusedVariables false
set_option linter.unusedSimpArgs false
open Go.RowKit

abbrev Rho := List (Option Nat)
/-- A value told by the names of ρ; an own block without a name is written no more. -/
inductive Sb (z : Bool) (O : Obs) (ρ : Rho) : AV → AV → Prop
  | any (x : AV) : Sb z O ρ .any x
  | t (c : Tr) : Sb z O ρ (.t c) (.t c)
  | nil : Sb z O ρ (.t (.sl 0 [])) (.t (.v (.slice none 0 0)))
  | osn {b : Nat} (hρ : ρ[b]? = some none) : Sb z O ρ (.os b 0 0) (.t (.v (.slice none 0 0)))
  | fz {b j n : Nat} {ob : Ob} {cs ds : List Tr} (hz : z = true) (hO : O[b]? = some (some ob)) (hb : some b ∉ ρ) (hcs : ob.c = .tr cs) (hd : (cs.drop j).take (n * ob.k) = ds) (hj : j + n * ob.k ≤ cs.length) : Sb z O ρ (.t (.sl n ds)) (.os b j n)
  | fzp {b j : Nat} {ob : Ob} {cs : List Tr} (hz : z = true) (hO : O[b]? = some (some ob)) (hb : some b ∉ ρ) (hcs : ob.cells = cs.map .t) : Sb z O ρ (.t (.pt cs j)) (.op b j)
  | os {b b' j n : Nat} (hρ : ρ[b]? = some (some b')) : Sb z O ρ (.os b j n) (.os b' j n)
  | op {b b' j : Nat} (hρ : ρ[b]? = some (some b')) : Sb z O ρ (.op b j) (.op b' j)
  | fn {f : Fn} {cs cs0 : List AV} (hl : cs.length = cs0.length) (hr : ∀ (j : Nat) c c0, cs[j]? = some c → cs0[j]? = some c0 → Sb z O ρ c c0) : Sb z O ρ (.fn f cs) (.fn f cs0)
  | fnt {f : Fn} {cs : List Tr} {cs0 : List AV} (hl : cs.length = cs0.length) (hr : ∀ (j : Nat) c c0, cs[j]? = some c → cs0[j]? = some c0 → Sb z O ρ (.t c) c0) : Sb z O ρ (.t (.fn f cs)) (.fn f cs0)
  | agg {cs cs0 : List AV} (hl : cs.length = cs0.length) (hr : ∀ (j : Nat) c c0, cs[j]? = some c → cs0[j]? = some c0 → Sb z O ρ c c0) : Sb z O ρ (.agg cs) (.agg cs0)
  | tup {cs cs0 : List AV} (hl : cs.length = cs0.length) (hr : ∀ (j : Nat) c c0, cs[j]? = some c → cs0[j]? = some c0 → Sb z O ρ c c0) : Sb z O ρ (.tup cs) (.tup cs0)
/-- Value by value. -/
def SbL (z : Bool) (O : Obs) (ρ : Rho) : List AV → List AV → Prop
  | [], [] => True
  | c :: cs, d :: ds => Sb z O ρ c d ∧ SbL z O ρ cs ds
  | _, _ => False
theorem SbL.spec {z : Bool} {O : Obs} {ρ : Rho} : ∀ {cs ds : List AV}, SbL z O ρ cs ds → cs.length = ds.length ∧ ∀ (j : Nat) c d, cs[j]? = some c → ds[j]? = some d → Sb z O ρ c d
  | [], [], _ => ⟨rfl, fun j c d h => by simp at h⟩
  | [], d :: ds, h => by cases h
  | c :: cs, [], h => by cases h
  | c :: cs, d :: ds, ⟨h1, h2⟩ => by
    obtain ⟨h3, h4⟩ := SbL.spec h2
    refine ⟨by simp [h3], fun j c' d' h5 h6 => ?_⟩
    cases j with
    | zero => simp at h5 h6; subst h5; subst h6; exact h1
    | succ j => exact h4 j c' d' (by simpa using h5) (by simpa using h6)
theorem Sb.aggL {z : Bool} {O : Obs} {ρ : Rho} {cs ds : List AV} (h : SbL z O ρ cs ds) : Sb z O ρ (.agg cs) (.agg ds) := .agg h.spec.1 h.spec.2
theorem Sb.tupL {z : Bool} {O : Obs} {ρ : Rho} {cs ds : List AV} (h : SbL z O ρ cs ds) : Sb z O ρ (.tup cs) (.tup ds) := .tup h.spec.1 h.spec.2
theorem Sb.fntL {z : Bool} {O : Obs} {ρ : Rho} {f : Fn} {cs : List Tr} {ds : List AV} (h : SbL z O ρ (cs.map .t) ds) : Sb z O ρ (.t (.fn f cs)) (.fn f ds) :=
  .fnt (by simpa using h.spec.1) fun j c d h1 h2 => h.spec.2 j _ d (by simp [h1]) h2
/-- Cells of a block. -/
inductive SbC (z : Bool) (O : Obs) (ρ : Rho) : Cs → Cs → Prop
  | tr (cs : List Tr) : SbC z O ρ (.tr cs) (.tr cs)
  | trm {cs : List Tr} {ds : List AV} (h : SbL z O ρ (cs.map .t) ds) : SbC z O ρ (.tr cs) (.mx ds)
  | mx {cs ds : List AV} (h : SbL z O ρ cs ds) : SbC z O ρ (.mx cs) (.mx ds)
theorem SbC.spec {z : Bool} {O : Obs} {ρ : Rho} {c d : Cs} (h : SbC z O ρ c d) : c.list.length = d.list.length ∧ ∀ (j : Nat) x y, c.list[j]? = some x → d.list[j]? = some y → Sb z O ρ x y := by
  cases h with
  | tr cs => exact ⟨rfl, fun j x y h1 h2 => by
      rw [h1] at h2; cases h2
      simp only [Cs.list, List.getElem?_map] at h1
      cases hq : cs[j]? with
      | none => rw [hq] at h1; cases h1
      | some q => rw [hq] at h1; simp at h1; subst h1; exact .t q⟩
  | trm h => exact h.spec
  | mx h => exact h.spec
def nodupB : Rho → Bool
  | [] => true
  | none :: ρ => nodupB ρ
  | some b :: ρ => !ρ.contains (some b) && nodupB ρ
theorem nodupB_spec : ∀ {ρ : Rho}, nodupB ρ = true → ∀ (i j b : Nat), ρ[i]? = some (some b) → ρ[j]? = some (some b) → i = j
  | [], _, i, j, b, h, _ => by simp at h
  | none :: ρ, hn, i, j, b, h1, h2 => by
    cases i <;> cases j <;> simp at h1 h2 ⊢
    exact nodupB_spec (ρ := ρ) hn _ _ b h1 h2
  | some c :: ρ, hn, i, j, b, h1, h2 => by
    simp only [nodupB, Bool.and_eq_true, Bool.not_eq_true', List.contains_eq_mem, decide_eq_false_iff_not] at hn
    cases i <;> cases j <;> simp at h1 h2 ⊢
    · subst h1; exact hn.1 (get_mem h2)
    · subst h2; exact hn.1 (get_mem h1)
    · exact nodupB_spec (ρ := ρ) hn.2 _ _ b h1 h2
/-- The blocks as they are told. -/
def BlkL (z : Bool) (O : Obs) (ρ0 : Rho) : Rho → List Ob → Prop
  | [], [] => True
  | none :: ρ, ob :: B => ob.c = .tr [] ∧ BlkL z O ρ0 ρ B
  | some b :: ρ, ob :: B => (∃ ob0, O[b]? = some (some ob0) ∧ ob0.ty = ob.ty ∧ ob0.k = ob.k ∧ SbC z O ρ0 ob.c ob0.c) ∧ BlkL z O ρ0 ρ B
  | _, _ => False
theorem BlkL.spec {z : Bool} {O : Obs} {ρ0 : Rho} : ∀ {ρ : Rho} {B : List Ob}, BlkL z O ρ0 ρ B → B.length = ρ.length ∧ ∀ (i : Nat) ob r, B[i]? = some ob → ρ[i]? = some r → (r = none → ob.c = .tr []) ∧ ∀ b, r = some b → ∃ ob0, O[b]? = some (some ob0) ∧ ob0.ty = ob.ty ∧ ob0.k = ob.k ∧ SbC z O ρ0 ob.c ob0.c
  | [], [], _ => ⟨rfl, fun i ob r h => by simp at h⟩
  | [], ob :: B, h => by cases h
  | none :: ρ, [], h => by cases h
  | some b :: ρ, [], h => by cases h
  | none :: ρ, ob :: B, ⟨h1, h2⟩ => by
    obtain ⟨h3, h4⟩ := BlkL.spec h2
    refine ⟨by simp [h3], fun i ob' r h5 h6 => ?_⟩
    cases i with
    | zero => simp at h5 h6; subst h5; subst h6; exact ⟨fun _ => h1, fun b h => by cases h⟩
    | succ i => exact h4 i ob' r (by simpa using h5) (by simpa using h6)
  | some b :: ρ, ob :: B, ⟨h1, h2⟩ => by
    obtain ⟨h3, h4⟩ := BlkL.spec h2
    refine ⟨by simp [h3], fun i ob' r h5 h6 => ?_⟩
    cases i with
    | zero => simp at h5 h6; subst h5; subst h6; exact ⟨fun h => by (cases h), fun b' h => by cases h; exact h1⟩
    | succ i => exact h4 i ob' r (by simpa using h5) (by simpa using h6)

def mpR (M : Mp) (ρ : Rho) : Mp := ρ.map fun r => match r with | none => .nl | some b => (M[b]?).getD .dead
theorem mpR_some {M : Mp} {ρ : Rho} {i b : Nat} {x : Pl} (h : ρ[i]? = some (some b)) (hM : M[b]? = some x) : (mpR M ρ)[i]? = some x := by simp [mpR, h, hM]
theorem mpR_none {M : Mp} {ρ : Rho} {i : Nat} (h : ρ[i]? = some none) : (mpR M ρ)[i]? = some .nl := by simp [mpR, h]
theorem mpR_loc {M : Mp} {ρ : Rho} {i : Nat} {L : Loc} (h : (mpR M ρ)[i]? = some (.ad L)) : ∃ b, ρ[i]? = some (some b) ∧ M[b]? = some (.ad L) := by
  simp only [mpR, List.getElem?_map] at h
  cases hr : ρ[i]? with
  | none => rw [hr] at h; cases h
  | some r =>
    rw [hr] at h
    cases r with
    | none => cases h
    | some b =>
      simp only [Option.map_some, Option.some.injEq] at h
      cases hm : M[b]? with
      | none => rw [hm] at h; cases h
      | some x => rw [hm] at h; simp at h; subst h; exact ⟨b, rfl, hm⟩
section
variable {s : Bs} {O : Obs} {M : Mp} {U : Nat → Prop} {w : World} {ρ : Rho} {z : Bool}
def frU (z : Bool) (M : Mp) (ρ : Rho) (U : Nat → Prop) : Nat → Prop := fun B => U B ∨ (z = true ∧ InM M B ∧ ¬ InM (mpR M ρ) B)
theorem inM_R {B : Nat} (h : InM (mpR M ρ) B) : InM M B := by
  obtain ⟨i, L, h1, h2⟩ := h
  obtain ⟨b, _, h4⟩ := mpR_loc h1
  exact ⟨b, L, h4, h2⟩
theorem frU_fz (S : Mem s M O U w) {B : Nat} (h : frU z M ρ U B) : Fz (mpR M ρ) w B := by
  rcases h with h | ⟨_, h1, h2⟩
  · exact ⟨(S.u B h).1.1, fun h' => (S.u B h).1.2 (inM_R h')⟩
  · exact ⟨S.lt B h1, h2⟩
theorem not_named (S : Mem s M O U w) {b : Nat} {L : Loc} (hM : M[b]? = some (.ad L)) (hb : some b ∉ ρ) : frU true M ρ U L.blk := by
  refine .inr ⟨rfl, ⟨b, L, hM, rfl⟩, ?_⟩
  rintro ⟨i, L', h1, h2⟩
  obtain ⟨b', h3, h4⟩ := mpR_loc h1
  have := S.one b' b L' L h4 hM h2
  subst this; exact hb (get_mem h3)
theorem Sb.rel (S : Mem s M O U w) {a a0 : AV} {y : Value} (h : Sb z O ρ a a0) (hr : Rel w U M a0 y) : Rel w (frU z M ρ U) (mpR M ρ) a y := by
  induction h generalizing y with
  | any x => exact .any y
  | t c => cases hr with | t _ _ h => exact .t _ _ (h.mono (fun _ _ => rfl) (fun B hB => .inl hB))
  | nil => cases hr with | t _ _ h => cases h; exact .t _ _ .nil
  | osn hρ => cases hr with | t _ _ h => cases h; exact .osn _ (mpR_none hρ)
  | @fz b j n ob cs ds hz hO hb hcs hd hj =>
    subst hz; subst hd
    have hcl : ob.cells = cs.map .t := by simp [Ob.cells, hcs, Cs.list]
    cases hr with
    | osn _ hM => simp only [Nat.zero_mul, List.take_zero]; exact .t _ _ .nil
    | osd _ _ _ _ _ hM => exact (S.own _ _ _ hO hM).elim
    | osz _ _ o L hM =>
      simp only [Nat.zero_mul, List.take_zero]
      exact .t _ _ (.sl L.blk o 0 0 [] [] (not_named S hM hb) rfl (fun y hy => by simp at hy) (fun j y h => by simp at h) (fun j c y h => by simp at h) (Nat.le_refl _))
    | os _ _ _ cap L hM hcap hn hx =>
      obtain ⟨hk, hle, cur, hcur, hsz, hrr⟩ := S.own b ob _ hO hM
      have hlen : cs.length = ob.cells.length := by rw [hcl]; simp
      have hyl : ((cur.toList.drop (L.off + j)).take (n * ob.k)).length = n * ob.k := by simp; omega
      have hget : ∀ i y, ((cur.toList.drop (L.off + j)).take (n * ob.k))[i]? = some y → i < n * ob.k ∧ cur[L.off + (j + i)]? = some y := by
        intro i y h
        rw [List.getElem?_take] at h
        split at h
        · rename_i hi; rw [List.getElem?_drop] at h; exact ⟨hi, by rw [← Nat.add_assoc]; simpa using h⟩
        · cases h
      refine .t _ _ (.sl L.blk (L.off + j) n cap _ ((cur.toList.drop (L.off + j)).take (n * ob.k)) (not_named S hM hb) (by rw [hyl]; simp; omega) ?_ ?_ ?_ hn)
      · intro y hy
        obtain ⟨i, hi⟩ := mem_get hy
        obtain ⟨h3, h4⟩ := hget i y hi
        obtain ⟨c, hc⟩ : ∃ c, ob.cells[j + i]? = some c := ⟨_, List.getElem?_eq_getElem (by omega)⟩
        obtain ⟨y', h5, h6, _⟩ := hrr _ _ hc
        rw [h4] at h5; cases h5; exact h6
      · intro i y hy
        obtain ⟨h3, h4⟩ := hget i y hy
        rw [cell_of_row w _ _ cur _ _ hcur, Nat.add_assoc]; exact h4
      · intro i c y hc hy
        obtain ⟨h3, h4⟩ := hget i y hy
        rw [List.getElem?_take, if_pos h3, List.getElem?_drop] at hc
        obtain ⟨y', h5, _, h6⟩ := hrr (j + i) (.t c) (by rw [hcl]; simp [hc])
        rw [h4] at h5; cases h5
        cases h6 with | t _ _ h => exact h.mono (fun _ _ => rfl) (fun B hB => .inl hB)
  | @fzp b j ob cs hz hO hb hcl =>
    subst hz
    cases hr with
    | opd _ _ _ _ hM => exact (S.own _ _ _ hO hM).elim
    | op _ _ L hM =>
      obtain ⟨hk, hle, cur, hcur, hsz, hrr⟩ := S.own b ob _ hO hM
      have hlen : cs.length = ob.cells.length := by rw [hcl]; simp
      have hyl : ((cur.toList.drop L.off).take cs.length).length = cs.length := by simp; omega
      have hget : ∀ i y, ((cur.toList.drop L.off).take cs.length)[i]? = some y → i < cs.length ∧ cur[L.off + i]? = some y := by
        intro i y h
        rw [List.getElem?_take] at h
        split at h
        · rename_i hi; rw [List.getElem?_drop] at h; exact ⟨hi, by simpa using h⟩
        · cases h
      refine .t _ _ (.pt L.blk L.off j cs ((cur.toList.drop L.off).take cs.length) (not_named S hM hb) hyl ?_ ?_ ?_)
      · intro y hy
        obtain ⟨i, hi⟩ := mem_get hy
        obtain ⟨h3, h4⟩ := hget i y hi
        obtain ⟨c, hc⟩ : ∃ c, ob.cells[i]? = some c := ⟨_, List.getElem?_eq_getElem (by omega)⟩
        obtain ⟨y', h5, h6, _⟩ := hrr _ _ hc
        rw [h4] at h5; cases h5; exact h6
      · intro i y hy
        obtain ⟨h3, h4⟩ := hget i y hy
        rw [cell_of_row w _ _ cur _ _ hcur]; exact h4
      · intro i c y hc hy
        obtain ⟨h3, h4⟩ := hget i y hy
        obtain ⟨y', h5, _, h6⟩ := hrr i (.t c) (by rw [hcl]; simp [hc])
        rw [h4] at h5; cases h5
        cases h6 with | t _ _ h => exact h.mono (fun _ _ => rfl) (fun B hB => .inl hB)
  | os hρ =>
    cases hr with
    | os _ _ _ cap L hM hcap hn hx => exact .os _ _ _ _ L (mpR_some hρ hM) hcap hn hx
    | osn _ hM => exact .osn _ (mpR_some hρ hM)
    | osz _ _ o L hM => exact .osz _ _ _ L (mpR_some hρ hM)
    | osd _ _ _ _ h1 hM => exact .osd _ _ _ _ h1 (mpR_some hρ hM)
  | op hρ =>
    cases hr with
    | op _ _ L hM => exact .op _ _ L (mpR_some hρ hM)
    | opd _ _ _ h1 hM => exact .opd _ _ _ h1 (mpR_some hρ hM)
  | @fn f cs cs0 hl _ ih =>
    cases hr with | fn _ _ ys hl' hr' =>
      refine .fn _ _ ys (by omega) fun j c y h1 h2 => ?_
      have hj : j < cs0.length := by have := (List.getElem?_eq_some_iff.1 h1).1; omega
      exact ih j c _ h1 (List.getElem?_eq_getElem hj) (hr' j _ y (List.getElem?_eq_getElem hj) h2)
  | @fnt f cs cs0 hl _ ih =>
    cases hr with | fn _ _ ys hl' hr' =>
      refine .t _ _ (.fn _ _ ys (by omega) fun j c y h1 h2 => ?_)
      have hj : j < cs0.length := by have := (List.getElem?_eq_some_iff.1 h1).1; omega
      have := ih j c _ h1 (List.getElem?_eq_getElem hj) (hr' j _ y (List.getElem?_eq_getElem hj) h2)
      cases this with | t _ _ h => exact h
  | @agg cs cs0 hl _ ih =>
    cases hr with | agg _ ys hl' h1' hr' =>
      refine .agg _ ys (by omega) h1' fun j c y h1 h2 => ?_
      have hj : j < cs0.length := by have := (List.getElem?_eq_some_iff.1 h1).1; omega
      exact ih j c _ h1 (List.getElem?_eq_getElem hj) (hr' j _ y (List.getElem?_eq_getElem hj) h2)
  | @tup cs cs0 hl _ ih =>
    cases hr with | tup _ ys hl' hr' =>
      refine .tup _ ys (by omega) fun j c y h1 h2 => ?_
      have hj : j < cs0.length := by have := (List.getElem?_eq_some_iff.1 h1).1; omega
      exact ih j c _ h1 (List.getElem?_eq_getElem hj) (hr' j _ y (List.getElem?_eq_getElem hj) h2)
/-- The blocks, told anew. -/
theorem BlkL.own (S : Mem s M O U w) {B : List Ob} (hB : BlkL z O ρ ρ B) (i : Nat) (ob : Ob) (x : Pl) (hO : (B.map some)[i]? = some (some ob)) (hM : (mpR M ρ)[i]? = some x) : Blk w (frU z M ρ U) (mpR M ρ) ob x := by
  obtain ⟨hlen, hsp⟩ := hB.spec
  have hO' : B[i]? = some ob := by
    rw [List.getElem?_map] at hO
    cases hq : B[i]? with
    | none => rw [hq] at hO; cases hO
    | some q => rw [hq] at hO; simp at hO; rw [hO]
  obtain ⟨r, hr⟩ : ∃ r, ρ[i]? = some r := ⟨_, List.getElem?_eq_getElem (by rw [← hlen]; exact (List.getElem?_eq_some_iff.1 hO').1)⟩
  obtain ⟨hn, hs⟩ := hsp i ob r hO' hr
  cases r with
  | none =>
    rw [mpR_none hr] at hM; cases hM
    show ob.cells = []
    simp [Ob.cells, hn rfl, Cs.list]
  | some b =>
    obtain ⟨ob0, h1, h2, h3, h4⟩ := hs b rfl
    obtain ⟨h5, h6⟩ := h4.spec
    have hb : b < M.length := by rw [S.len]; exact (List.getElem?_eq_some_iff.1 h1).1
    obtain ⟨x', hx'⟩ : ∃ x', M[b]? = some x' := ⟨_, List.getElem?_eq_getElem hb⟩
    rw [mpR_some hr hx'] at hM; cases hM
    have hown := S.own b ob0 x h1 hx'
    cases x with
    | dead => exact hown
    | nl =>
      show ob.cells = []
      have : ob0.cells.length = 0 := by rw [hown]; rfl
      exact List.eq_nil_of_length_eq_zero (by show ob.c.list.length = 0; rw [h5]; exact this)
    | ad L =>
      obtain ⟨hk, hle, cur, hcur, hsz, hrr⟩ := hown
      refine ⟨by rw [hk, h3], by show L.off + ob.c.list.length ≤ L.size; rw [h5]; exact hle, cur, by rw [← h2]; exact hcur, hsz, fun j c hc => ?_⟩
      have hj : j < ob0.cells.length := by show j < ob0.c.list.length; rw [← h5]; exact (List.getElem?_eq_some_iff.1 hc).1
      have hc0 : ob0.cells[j]? = some ob0.cells[j] := List.getElem?_eq_getElem hj
      obtain ⟨y, hy, hy1, hy2⟩ := hrr j _ hc0
      exact ⟨y, hy, hy1, (h6 j c _ hc hc0).rel S hy2⟩
theorem mpR_one (S : Mem s M O U w) (hnd : nodupB ρ = true) (b b' : Nat) (L L' : Loc) (h1 : (mpR M ρ)[b]? = some (.ad L)) (h2 : (mpR M ρ)[b']? = some (.ad L')) (e : L.blk = L'.blk) : b = b' := by
  obtain ⟨c, h3, h4⟩ := mpR_loc h1
  obtain ⟨c', h5, h6⟩ := mpR_loc h2
  have := S.one c c' L L' h4 h6 e
  subst this
  exact nodupB_spec hnd b b' c h3 h5
/-- The lent blocks keep their names. -/
def lentB : Nat → Rho → Bool
  | 0, _ => true
  | m + 1, ρ => (ρ[m]? == some (some m)) && lentB m ρ
theorem lentB_spec : ∀ {m : Nat} {ρ : Rho}, lentB m ρ = true → ∀ i, i < m → ρ[i]? = some (some i)
  | 0, _, _, i, h => by omega
  | m + 1, ρ, hl, i, h => by
    simp only [lentB, Bool.and_eq_true, beq_iff_eq] at hl
    by_cases e : i = m
    · subst e; exact hl.1
    · exact lentB_spec hl.2 i (by omega)
theorem Mem.told (S : Mem s M O U w) {B : List Ob} {m : Nat} (hm : s.L.length = m) (hl : lentB m ρ = true) (hnd : nodupB ρ = true) (hB : BlkL z O ρ ρ B) : Mem s (mpR M ρ) (B.map some) (frU z M ρ U) w := by
  have hlent := lentB_spec hl
  refine ⟨S.base, fun b x h => ?_, by simp [mpR, hB.spec.1], fun B hB => S.lt B (inM_R hB), fun B hB => S.fresh B (inM_R hB), mpR_one S hnd, hB.own S, fun B hB => ⟨frU_fz S hB, ?_⟩⟩
  · have hb : b < m := by rw [← hm]; exact (List.getElem?_eq_some_iff.1 h).1
    exact mpR_some (hlent b hb) (S.lent b x h)
  · rcases hB with hB | ⟨_, h1, h2⟩
    · exact (S.u B hB).2
    · rcases S.fresh B h1 with h3 | h3
      · exact .inr h3
      · obtain ⟨b, L, h4, rfl⟩ := Bs.exX h3
        have hb : b < m := by rw [← hm]; exact (List.getElem?_eq_some_iff.1 h4).1
        exact absurd ⟨b, L, mpR_some (hlent b hb) (S.lent b _ h4), rfl⟩ h2
end

/-! ### Loops -/
def PinA (O : Obs) (ρ : Rho) (σ : Fr) : List (Nat × AV) → Prop
  | [] => True
  | (t, a) :: l => Sb true O ρ a (σ t) ∧ PinA O ρ σ l
def ovA : List (Nat × AV) → Fr
  | [] => fun _ => .any
  | (d, v) :: l => updA (ovA l) d v
theorem PinA.rels {s : Bs} {M : Mp} {O : Obs} {U : Nat → Prop} {w : World} {ρ : Rho} {σ : Fr} {σc : Nat → Value} (S : Mem s M O U w) (hσ : Rels w U M σ σc) : ∀ {l : List (Nat × AV)}, PinA O ρ σ l → Rels w (frU true M ρ U) (mpR M ρ) (ovA l) σc
  | [], _ => fun t => .any _
  | (d, v) :: l, ⟨h1, h2⟩ => by
    intro t
    have ih := PinA.rels S hσ h2 t
    show Rel _ _ _ (bif Nat.beq t d then v else ovA l t) (σc t)
    cases hb : Nat.beq t d with
    | true =>
      have : t = d := Nat.eq_of_beq_eq_true hb
      subst this
      exact h1.rel S (hσ t)
    | false => exact ih
/-- Slots and blocks as they are told at a loop's head. -/
structure Rs (m : Nat) (σ : Fr) (O : Obs) (ρ : Rho) (l : List (Nat × AV)) (B : List Ob) : Prop where
  lent : lentB m ρ = true
  nodup : nodupB ρ = true
  blk : BlkL true O ρ ρ B
  pins : PinA O ρ σ l
section
variable {P : Program} {n : Nat} {s : Bs} {Q : APost} {σ : Fr} {O : Obs} {ops : Array Oper} {rest : List Oper} {d : Nat} {ty : TypeId} {pos : String} {after : Array Edge}
theorem PC.loop {m : Nat} (hm : s.L.length = m) {α : Type} {c : Code} (L : α → List (Nat × AV)) (B : α → List Ob) (J : α → Prop) (μ : α → Nat) (x0 : α) (ρ0 : Rho) (h0 : Rs m σ O ρ0 (L x0) (B x0)) (j0 : J x0)
    (round : ∀ x, J x → PC P n s c (thA (fun σ' O' => ∃ x', μ x' < μ x ∧ J x' ∧ ∃ ρ, Rs m σ' O' ρ (L x') (B x')) Q) (ovA (L x)) ((B x).map some)) : PC P n s (.loop c) Q σ O := by
  refine ⟨fun M U σc w S hσ => CW.loop (fun x σc w => J x ∧ ∃ M U, Mem s M ((B x).map some) U w ∧ Rels w U M (ovA (L x)) σc) μ x0 ⟨j0, _, _, S.told hm h0.lent h0.nodup h0.blk, h0.pins.rels S hσ⟩ ?_⟩
  rintro x τ w1 ⟨hj, M1, U1, S1, h1⟩
  refine ((round x hj).h M1 U1 τ w1 S1 h1).mono ?_
  rintro e τ' w' ⟨M', U', σ', O', S', hσ', hq⟩
  unfold thn
  cases e with
  | normal =>
    obtain ⟨x', hlt, hj', ρ, hR⟩ := hq
    exact ⟨x', hlt, hj', _, _, S'.told hm hR.lent hR.nodup hR.blk, hR.pins.rels S' hσ'⟩
  | _ => exact ⟨M', U', σ', O', S', hσ', hq⟩
/-- What follows goes on from what is told. -/
theorem PC.told {m : Nat} (hm : s.L.length = m) {c : Code} (l : List (Nat × AV)) (B : List Ob) (ρ : Rho) (h0 : Rs m σ O ρ l B) (h : PC P n s c Q (ovA l) (B.map some)) : PC P n s c Q σ O :=
  ⟨fun M U σc w S hσ => h.h _ _ σc w (S.told hm h0.lent h0.nodup h0.blk) (h0.pins.rels S hσ)⟩

/-! ### Contracts -/
def ArgsRel (w : World) (U : Nat → Prop) (M : Mp) (args : List AV) (av : List Value) : Prop := av.length = args.length ∧ ∀ (i : Nat) a y, args[i]? = some a → av[i]? = some y → Rel w U M a y
/-- What a call does: of arguments as told, and blocks that are lent to it for writing. -/
def FnX (P : Program) (f : FuncId) (O0 : List Ob) (args : List AV) (R : AV → List Ob → Prop) : Prop :=
  ∀ (s : Bs) (U : Nat → Prop) (av : List Value), Mem s s.L (O0.map some) U s.w → (∀ B, U B → s.V B) → ArgsRel s.w U s.L args av →
    Calls P f av.toArray s.w fun e w' => ∃ v r bl M' U', e = .returned v ∧ R r bl ∧ Rel w' U' M' r v ∧ Mem s M' (bl.map some) U' w'
abbrev Fn (P : Program) (f : FuncId) (args : List AV) (R : AV → List Ob → Prop) : Prop := FnX P f [] args R
theorem FnX.mono {f : FuncId} {O0 : List Ob} {args : List AV} {R R' : AV → List Ob → Prop} (h : FnX P f O0 args R) (hR : ∀ r bl, R r bl → R' r bl) : FnX P f O0 args R' :=
  fun s U av S hV ha => (h s U av S hV ha).mono fun e w' ⟨v, r, bl, M', U', h1, h2, h3⟩ => ⟨v, r, bl, M', U', h1, hR _ _ h2, h3⟩

/-- The result variables' values. -/
inductive RVA (P : Program) (σ : Fr) (O : Obs) : List ResultVar → List AV → Prop
  | nil : RVA P σ O [] []
  | tmp {t : Nat} {r : List ResultVar} {vs : List AV} (h : RVA P σ O r vs) : RVA P σ O (.tmp t :: r) (σ t :: vs)
  | cell1 {t b : Nat} {T : TypeId} {ob : Ob} {c : AV} {r : List ResultVar} {vs : List AV} [Y : CA P T false] (ht : σ t = .op b 0) (hO : O[b]? = some (some ob)) (hc : ob.cells[0]? = some c) (h : RVA P σ O r vs) : RVA P σ O (.cell t T :: r) (c :: vs)
  | cellN {t b m : Nat} {T : TypeId} {ob : Ob} {cs : List AV} {r : List ResultVar} {vs : List AV} [Y : CA P T true] [Z : CS P T m] (ht : σ t = .op b 0) (hO : O[b]? = some (some ob)) (hc : ob.cells = cs) (hm : cs.length = m) (h : RVA P σ O r vs) : RVA P σ O (.cell t T :: r) (.agg cs :: vs)
theorem RVA.len {rl : List ResultVar} {vs : List AV} (h : RVA P σ O rl vs) : vs.length = rl.length := by
  induction h with
  | nil => rfl
  | tmp _ ih => simp [ih]
  | cell1 _ _ _ _ ih => simp [ih]
  | cellN _ _ _ _ _ ih => simp [ih]
theorem RVA.rv {M : Mp} {U : Nat → Prop} {w : World} {σc : Nat → Value} (S : Mem s M O U w) (hσ : Rels w U M σ σc) {rl : List ResultVar} {vs : List AV} (h : RVA P σ O rl vs) : ∃ ys, RV P σc w rl ys ∧ ys.length = vs.length ∧ ∀ (j : Nat) c y, vs[j]? = some c → ys[j]? = some y → Rel w U M c y := by
  have step : ∀ {vs : List AV} {ys : List Value} {c : AV} {y : Value}, ys.length = vs.length → (∀ (j : Nat) c y, vs[j]? = some c → ys[j]? = some y → Rel w U M c y) → Rel w U M c y → (y :: ys).length = (c :: vs).length ∧ ∀ (j : Nat) c' y', (c :: vs)[j]? = some c' → (y :: ys)[j]? = some y' → Rel w U M c' y' := by
    intro vs ys c y h1 h2 h3
    refine ⟨by simp [h1], fun j c' y' h4 h5 => ?_⟩
    cases j with
    | zero => simp at h4 h5; subst h4; subst h5; exact h3
    | succ j => exact h2 j c' y' (by simpa using h4) (by simpa using h5)
  induction h with
  | nil => exact ⟨[], .nil, rfl, fun j c y h => by simp at h⟩
  | @tmp t r vs _ ih =>
    obtain ⟨ys, h1, h2, h3⟩ := ih
    exact ⟨_, .tmp h1, step h2 h3 (hσ t)⟩
  | @cell1 t b T ob c r vs Y ht hO hc _ ih =>
    obtain ⟨ys, h1, h2, h3⟩ := ih
    have e := hσ t; rw [ht] at e
    generalize hx : σc t = u at e
    cases e with
    | opd _ _ _ _ hM => exact (S.own _ _ _ hO hM).elim
    | op _ _ L hM =>
      obtain ⟨_, _, cur, hcur, _, hr⟩ := S.own b ob _ hO hM
      obtain ⟨y, hy, _, hR⟩ := hr 0 c hc
      refine ⟨_, .cell hx (v := y) ?_ h1, step h2 h3 hR⟩
      have : w.cell? ⟨L.blk, L.off, none⟩ = some y := by rw [cell_of_row w _ _ cur _ _ hcur]; exact hy
      simp [loadVar, Y.run, this]
  | @cellN t b m T ob cs r vs Y Z ht hO hc hm _ ih =>
    obtain ⟨ys, h1, h2, h3⟩ := ih
    have e := hσ t; rw [ht] at e
    generalize hx : σc t = u at e
    cases e with
    | opd _ _ _ _ hM => exact (S.own _ _ _ hO hM).elim
    | op _ _ L hM =>
      obtain ⟨_, hle, cur, hcur, hsz, hr⟩ := S.own b ob _ hO hM
      rw [hc] at hr hle
      have hyl : ((cur.toList.drop L.off).take m).length = m := by simp; omega
      have hget : ∀ i y, ((cur.toList.drop L.off).take m)[i]? = some y → i < m ∧ cur[L.off + i]? = some y := by
        intro i y h
        rw [List.getElem?_take] at h
        split at h
        · rename_i hi; rw [List.getElem?_drop] at h; exact ⟨hi, by simpa using h⟩
        · cases h
      refine ⟨_, .cell hx (v := .agg ((cur.toList.drop L.off).take m).toArray) ?_ h1, step h2 h3 (.agg _ _ (by rw [hyl, hm]) ?_ ?_)⟩
      · have hl : (loadCells ⟨L.blk, L.off, none⟩ ((cur.toList.drop L.off).take m).length).run P w = .ok ((cur.toList.drop L.off).take m).toArray w :=
          run_loadCells_list (P := P) w _ _ (fun j u hu => by
            obtain ⟨_, h6⟩ := hget j u hu
            rw [Rd.addr_add, cell_of_row w _ _ cur _ _ hcur]; exact h6)
        rw [hyl] at hl
        simp [loadVar, Y.run, Z.run, hl]
      · intro y hy
        obtain ⟨i, hi⟩ := mem_get hy
        obtain ⟨h4, h5⟩ := hget i y hi
        obtain ⟨y', h6, h7, _⟩ := hr i _ (List.getElem?_eq_getElem (by omega))
        rw [h5] at h6; cases h6; exact h7
      · intro i c y h4 h5
        obtain ⟨_, h6⟩ := hget i y h5
        obtain ⟨y', h7, _, h8⟩ := hr i c h4
        rw [h6] at h7; cases h7; exact h8
def packA : List AV → AV
  | [v] => v
  | vs => .tup vs
def FinA (P : Program) (fn : Func) (m : Nat) (R : AV → List Ob → Prop) : APost := fun e σ O => (e = .ret ∨ e = .normal) ∧ ∃ vs ρ r bl, RVA P σ O fn.results.toList vs ∧ Sb true O ρ r (packA vs) ∧ lentB m ρ = true ∧ nodupB ρ = true ∧ BlkL true O ρ ρ bl ∧ R r bl
theorem FinA.mk {fn : Func} {m : Nat} {R : AV → List Ob → Prop} {e : Exit} {rl : List ResultVar} {vs : List AV} {v0 : AV} {r : AV} {bl : List Ob} (ρ : Rho) (he : e = .ret ∨ e = .normal) (hf : fn.results = rl.toArray) (hv : RVA P σ O rl vs) (hp : packA vs = v0) (hl : lentB m ρ = true) (hn : nodupB ρ = true) (hs : Sb true O ρ r v0) (hb : BlkL true O ρ ρ bl) (hR : R r bl) : FinA P fn m R e σ O :=
  ⟨he, vs, ρ, r, bl, by rw [hf]; exact hv, by rw [hp]; exact hs, hl, hn, hb, hR⟩
def iniA (args : List AV) : Fr := fun t => args.getD t .any
theorem FnX.mk {f : FuncId} {fn : Func} {c : Code} {O0 : List Ob} {args : List AV} {R : AV → List Ob → Prop} (hf : P.funcs[f]? = some fn) (hb : fn.body = some c) (hn : Nat.ble args.length fn.ntmps = true)
    (h : ∀ s : Bs, s.L.length = O0.length → PC P fn.ntmps s c (FinA P fn O0.length R) (iniA args) (O0.map some)) : FnX P f O0 args R := by
  intro s U av S hV ha
  have hs : s.L.length = O0.length := by rw [S.len]; simp
  have hle : args.length ≤ fn.ntmps := Nat.le_of_ble_eq_true hn
  refine calls hf hb (Nat.ble_eq_true_of_le (by rw [ha.1]; exact hle)) ?_
  have hσ : Rels s.w U s.L (iniA args) (ini av) := by
    intro t
    unfold iniA ini
    simp only [List.getD_eq_getElem?_getD]
    rcases Nat.lt_or_ge t args.length with h1 | h1
    · rw [List.getElem?_eq_getElem h1, List.getElem?_eq_getElem (by rw [ha.1]; exact h1)]
      exact ha.2 t _ _ (List.getElem?_eq_getElem h1) (List.getElem?_eq_getElem (by rw [ha.1]; exact h1))
    · rw [List.getElem?_eq_none h1]; exact .any _
  refine ((h s hs).h s.L U (ini av) s.w S hσ).mono ?_
  rintro e τ w' ⟨M', U', σ', O', S', hσ', he, vs, ρ, r, bl, hv, hsb, hl, hnd, hbl, hR⟩
  obtain ⟨ys, hrv, hyl, hyr⟩ := hv.rv S' hσ'
  have S2 := S'.told hs hl hnd hbl
  have hlen : vs.length = fn.results.toList.length := hv.len
  match hvs : vs, hys : ys, hyl with
  | [v], [y], _ =>
    have hr1 : ∃ rv, fn.results = #[rv] := by
      match hq : fn.results.toList, hlen with
      | [rv], _ => exact ⟨rv, by rw [← Array.toArray_toList (xs := fn.results), hq]⟩
    obtain ⟨rv', hrv'⟩ := hr1
    rw [hrv'] at hrv
    refine Fin.rets1 (l := rv') he hrv' (by simpa using hrv) ?_
    exact ⟨y, r, bl, _, _, rfl, hR, hsb.rel S' (hyr 0 _ _ rfl rfl), S2⟩
  | [], [], _ =>
    have h0 : fn.results = #[] := by
      have : fn.results.toList = [] := List.eq_nil_of_length_eq_zero (by simpa using hlen.symm)
      rw [← Array.toArray_toList (xs := fn.results), this]
    refine Fin.ret (v := .tuple #[]) he (fun a ha => ?_) ?_
    · rw [results_eq, h0]; simp
    · exact ⟨_, r, bl, _, _, rfl, hR, hsb.rel S' (.tup [] [] rfl (fun j c y h => by simp at h)), S2⟩
  | v1 :: v2 :: vs', y1 :: y2 :: ys', hyl =>
    refine Fin.rets (l := fn.results.toList) he (by simp) (by rw [← hlen]; rfl) hrv ?_
    exact ⟨_, r, bl, _, _, rfl, hR, hsb.rel S' (.tup _ _ hyl hyr), S2⟩
end
end V
end Go.Proofs.Ytoljdhdfijnjiaa
