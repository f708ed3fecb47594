/- Steps of walks: literals of structs, make, slice expressions, strings. No condition. -/
import Derived.Test.YtaiifcnjmbpbjaaAbsG
namespace Go.Proofs.Ytaiifcnjmbpbjaa
namespace V
set_option linter.unusedVariables false
set_option linter.unusedSimpArgs false
open Go.RowKit

/-- A struct's cells, its parts filled in. -/
def blA (pl : List (Nat × Nat)) : List AV → List (Nat × AV) → List AV
  | zs, [] => zs
  | zs, (i, v) :: r => blA pl (zs.take (pl.getD i (0, 0)).1 ++ cellsA v ++ zs.drop ((pl.getD i (0, 0)).1 + (pl.getD i (0, 0)).2)) r
def blokA (pl : List (Nat × Nat)) (n : Nat) : List (Nat × AV) → Bool
  | [] => true
  | (i, v) :: r => Nat.blt i pl.length && Nat.beq (cellsA v).length (pl.getD i (0, 0)).2 && Nat.ble ((pl.getD i (0, 0)).1 + (pl.getD i (0, 0)).2) n && wholeA v && blokA pl n r
def CellsRel (w : World) (U : Nat → Prop) (M : Mp) (cs : List AV) (ys : List Value) : Prop := ys.length = cs.length ∧ ∀ (j : Nat) d, cs[j]? = some d → ∃ z, ys[j]? = some z ∧ z.oneCell' = true ∧ Rel w U M d z
theorem CellsRel.app {w : World} {U : Nat → Prop} {M : Mp} {cs ds : List AV} {ys zs : List Value} (h : CellsRel w U M cs ys) (h' : CellsRel w U M ds zs) : CellsRel w U M (cs ++ ds) (ys ++ zs) := by
  refine ⟨by simp [h.1, h'.1], fun j d hd => ?_⟩
  rcases Nat.lt_or_ge j cs.length with hj | hj
  · rw [List.getElem?_append_left hj] at hd
    rw [List.getElem?_append_left (by rw [h.1]; exact hj)]; exact h.2 j d hd
  · rw [List.getElem?_append_right hj] at hd
    rw [List.getElem?_append_right (by rw [h.1]; exact hj), h.1]; exact h'.2 _ d hd
theorem CellsRel.take {w : World} {U : Nat → Prop} {M : Mp} {cs : List AV} {ys : List Value} (h : CellsRel w U M cs ys) (k : Nat) : CellsRel w U M (cs.take k) (ys.take k) := by
  refine ⟨by simp [h.1], fun j d hd => ?_⟩
  rw [List.getElem?_take] at hd ⊢
  split at hd
  · rename_i hj; rw [if_pos hj]; exact h.2 j d hd
  · cases hd
theorem CellsRel.drop {w : World} {U : Nat → Prop} {M : Mp} {cs : List AV} {ys : List Value} (h : CellsRel w U M cs ys) (k : Nat) : CellsRel w U M (cs.drop k) (ys.drop k) := by
  refine ⟨by simp [h.1], fun j d hd => ?_⟩
  rw [List.getElem?_drop] at hd ⊢
  exact h.2 _ d hd
theorem blA_rel {w : World} {U : Nat → Prop} {M : Mp} (pl : List (Nat × Nat)) : ∀ (parts : List (Nat × AV)) (vs : List (Nat × Value)) (zs : List AV) (ys : List Value), blokA pl zs.length parts = true → parts.map (·.1) = vs.map (·.1) → (∀ (j : Nat) a b, parts[j]? = some a → vs[j]? = some b → Rel w U M a.2 b.2) → CellsRel w U M zs ys →
    R.blok pl ys.length vs = true ∧ CellsRel w U M (blA pl zs parts) (R.bl pl ys vs)
  | [], [], zs, ys, _, _, _, h => ⟨rfl, h⟩
  | [], b :: vs, _, _, _, h, _, _ => by simp at h
  | a :: parts, [], _, _, _, h, _, _ => by simp at h
  | (i, a) :: parts, (i', b) :: vs, zs, ys, hok, hi, hr, h => by
    simp only [List.map_cons, List.cons.injEq] at hi
    obtain ⟨rfl, hi⟩ := hi
    simp only [blokA, Bool.and_eq_true] at hok
    obtain ⟨⟨⟨⟨h1, h2⟩, h3⟩, h4⟩, h5⟩ := hok
    obtain ⟨c1, c2⟩ := (hr 0 _ _ rfl rfl).cells h4
    have hc : CellsRel w U M (cellsA a) b.cells.toList := ⟨by simpa using c1, fun j d hd => by simpa using c2 j d hd⟩
    have hz := ((h.take (pl.getD i (0, 0)).1).app hc).app (h.drop ((pl.getD i (0, 0)).1 + (pl.getD i (0, 0)).2))
    have e2 := Nat.eq_of_beq_eq_true h2
    have e3 := Nat.le_of_ble_eq_true h3
    have hlen : (zs.take (pl.getD i (0, 0)).1 ++ cellsA a ++ zs.drop ((pl.getD i (0, 0)).1 + (pl.getD i (0, 0)).2)).length = zs.length := by
      simp only [List.length_append, List.length_take, List.length_drop, e2]; omega
    obtain ⟨g1, g2⟩ := blA_rel pl parts vs _ _ (by rw [hlen]; exact h5) hi (fun j a b ha hb => hr (j + 1) a b (by simpa using ha) (by simpa using hb)) hz
    refine ⟨?_, g2⟩
    simp only [R.blok, Bool.and_eq_true]
    rw [hz.1, hlen] at g1
    rw [h.1]
    exact ⟨⟨⟨h1, by rw [hc.1]; exact h2⟩, h3⟩, g1⟩
section
variable {P : Program} {n : Nat} {s : Bs} {Q : APost} {σ : Fr} {O : Obs} {ops : Array Oper} {rest : List Oper} {d : Nat} {ty : TypeId} {pos : String} {after : Array Edge}
/-- The literal of a struct. -/
theorem Rd.build {t : TypeId} {parts : Array (Nat × Operand)} {z : Value} {pl : List (Nat × Nat)} {cs : List AV} {ps : List (Nat × AV)} [Y : CZ P t z] [B : CB P t pl] (hz : z.cells.toList.all plain = true) (hp : parts.toList.map (fun x => (x.1, evA σ x.2)) = ps)
    (hok : blokA pl (z.cells.toList.map fun x => AV.t (.v x)).length ps = true) (hc : blA pl (z.cells.toList.map fun x => AV.t (.v x)) ps = cs) : Rd P s O σ (.build t parts) ty (.agg cs) := by
  intro M U w σc S hσ
  have hzr : CellsRel w U M (z.cells.toList.map fun x => AV.t (.v x)) z.cells.toList := by
    refine ⟨by simp, fun j d hd => ?_⟩
    rw [List.getElem?_map] at hd
    cases hq : z.cells.toList[j]? with
    | none => rw [hq] at hd; cases hd
    | some q =>
      rw [hq] at hd; simp at hd; subst hd
      have hpl := List.all_eq_true.1 hz q (get_mem hq)
      exact ⟨q, rfl, plain_cell hpl, .t _ _ (.v _ hpl)⟩
  obtain ⟨g1, g2⟩ := blA_rel (w := w) (U := U) (M := M) pl ps (parts.toList.map fun x => (x.1, ev σc x.2)) _ _ hok (by rw [← hp]; simp) (fun j a b ha hb => by
    rw [← hp] at ha
    simp only [List.getElem?_map] at ha hb
    cases hq : parts.toList[j]? with
    | none => rw [hq] at ha; cases ha
    | some q => rw [hq] at ha hb; simp at ha hb; subst ha; subst hb; exact evA_rel hσ q.2) hzr
  rw [hc] at g2
  refine ⟨.agg (R.bl pl z.cells.toList (parts.toList.map fun x => (x.1, ev σc x.2))).toArray, .agg cs _ g2.1 (fun y hy => ?_) (fun j c y h1 h2 => ?_), fun w' _ => R.buildL rfl rfl g1 rfl⟩
  · obtain ⟨j, hj⟩ := mem_get hy
    have hj' : j < cs.length := by rw [← g2.1]; exact (List.getElem?_eq_some_iff.1 hj).1
    obtain ⟨z, h1, h2, _⟩ := g2.2 j _ (List.getElem?_eq_getElem hj')
    rw [hj] at h1; cases h1; exact h2
  · obtain ⟨z, h3, _, h4⟩ := g2.2 j c h1
    rw [h2] at h3; cases h3; exact h4
/-- A field of a struct value. -/
theorem Rd.field {t : TypeId} {x : Operand} {f : Nat} {cs : List AV} {v : AV} (hx : evA σ x = .agg cs)
    (hf : ∀ (w : World) (U : Nat → Prop) (M : Mp) (ys : List Value), ys.length = cs.length → (∀ (j : Nat) c y, cs[j]? = some c → ys[j]? = some y → Rel w U M c y) → ∃ y, Rel w U M v y ∧ ∀ w', (Instr.field t (.agg ys.toArray) f).run P w' = .ok y w') : Rd P s O σ (.field t x f) ty v := by
  intro M U w σc S hσ
  have e := evA_rel hσ x; rw [hx] at e
  generalize hy : ev σc x = u at e
  cases e with | agg _ ys hl h1 hr =>
    obtain ⟨y, h2, h3⟩ := hf w U M ys hl hr
    exact ⟨y, h2, fun w' _ => R.field hy (h3 w')⟩
/-! slice expressions -/
def hiC (σc : Nat → Value) (hi : Option Operand) (len h cap : Nat) : Prop := match hi with | none => h = len | some y => ev σc y = .int .i64 (h : Int) ∧ h ≤ cap
def loC (σc : Nat → Value) (lo : Option Operand) (l : Nat) : Prop := match lo with | none => l = 0 | some y => ev σc y = .int .i64 (l : Int)
theorem run_slice {w : World} {σc : Nat → Value} {t e : TypeId} {k : Nat} {x : Operand} {lo hi : Option Operand} {a : Option Addr} {len cap l h : Nat} [T : CSl P t e] [Z : CS P e k] (hx : ev σc x = .slice a len cap)
    (hh : hiC σc hi len h cap) (hl : loC σc lo l) (hlh : l ≤ h) :
    Yl P σc (.slice t x lo hi none) ty w (.slice (if cap = l then a else a.map (·.add (l * k))) (h - l) (cap - l)) w := Yl.mk fun d pos after g => by
  cases lo <;> cases hi <;> simp only [hiC, loC] at hh hl
  · subst hl; subst hh
    simp [execOp, hx, Instr.sliceAt, T.run, Z.run, Instr.slice, Instr.sliceBounds, Instr.sliceBound, asIntOf]
  · subst hl
    obtain ⟨h1, h2⟩ := hh
    simp [execOp, hx, h1, Instr.sliceAt, T.run, Z.run, Instr.slice, Instr.sliceBounds, Instr.sliceBound, asIntOf, h2]
  · subst hh
    simp [execOp, hx, hl, Instr.sliceAt, T.run, Z.run, Instr.slice, Instr.sliceBounds, Instr.sliceBound, asIntOf, hlh]
  · obtain ⟨h1, h2⟩ := hh
    simp [execOp, hx, h1, hl, Instr.sliceAt, T.run, Z.run, Instr.slice, Instr.sliceBounds, Instr.sliceBound, asIntOf, h2, hlh]
def bnd (σ : Fr) (o : Option Operand) (dflt v : Nat) : Prop := match o with | none => v = dflt | some y => evA σ y = iA (v : Int)
theorem Rd.sliceT {t e : TypeId} {k n0 l h : Nat} {x : Operand} {lo hi : Option Operand} {cs ds : List Tr} [T : CSl P t e] [Z : CS P e k] (hx : evA σ x = .t (.sl n0 cs)) (hh : bnd σ hi n0 h) (hl : bnd σ lo 0 l) (hb : l ≤ h ∧ h ≤ n0) (hds : (cs.drop (l * k)).take ((h - l) * k) = ds) :
    Rd P s O σ (.slice t x lo hi none) ty (.t (.sl (h - l) ds)) := by
  intro M U w σc S hσ
  have e := evA_rel hσ x; rw [hx] at e
  generalize hy : ev σc x = u at e
  have hh' : ∀ cap, n0 ≤ cap → hiC σc hi n0 h cap := by
    intro cap hc
    cases hi with
    | none => exact hh
    | some y => have e := evA_rel hσ y; rw [show evA σ y = iA h from hh] at e; exact ⟨e.int, by omega⟩
  have hl' : loC σc lo l := by
    cases lo with
    | none => exact hl
    | some y => have e := evA_rel hσ y; rw [show evA σ y = iA l from hl] at e; exact e.int
  subst hds
  cases e with | t _ _ ht =>
    cases ht with
    | nil =>
      have h0 : h = 0 := by omega
      have l0 : l = 0 := by omega
      subst h0; subst l0
      refine ⟨.slice none 0 0, ?_, fun w' _ => by have := run_slice (P := P) (ty := ty) (w := w') (t := t) hy (hh' 0 (Nat.le_refl _)) hl' hb.1; simpa using this⟩
      simp only [Nat.sub_self, Nat.zero_mul, List.take_zero]
      exact .t _ _ .nil
    | sl0 a cap =>
      have h0 : h = 0 := by omega
      have l0 : l = 0 := by omega
      subst h0; subst l0
      refine ⟨_, ?_, fun w' _ => run_slice (P := P) (ty := ty) (w := w') (t := t) hy (hh' cap (Nat.zero_le _)) hl' hb.1⟩
      simp only [Nat.sub_self, Nat.zero_mul, List.take_zero]
      split
      · exact .t _ _ (.sl0 _ _)
      · exact .t _ _ (.sl0 _ _)
    | sl B off _ cap _ ys hU hyl h1 hc hr hn =>
      refine ⟨_, ?_, fun w' _ => run_slice (P := P) (ty := ty) (w := w') (t := t) hy (hh' cap hn) hl' hb.1⟩
      by_cases hcl : cap = l
      · have : h - l = 0 := by omega
        rw [if_pos hcl, this]
        simp only [Nat.zero_mul, List.take_zero]
        exact .t _ _ (.sl B off 0 _ [] [] hU rfl (fun y hy => by simp at hy) (fun j y hy => by simp at hy) (fun j c y hy => by simp at hy) (Nat.zero_le _))
      · rw [if_neg hcl]
        simp only [Option.map_some, Rd.addr_add]
        have hg : ∀ {α : Type} (zs : List α) (j : Nat) (y : α), ((zs.drop (l * k)).take ((h - l) * k))[j]? = some y → j < (h - l) * k ∧ zs[l * k + j]? = some y := by
          intro α zs j y hj
          rw [List.getElem?_take] at hj
          split at hj
          · rw [List.getElem?_drop] at hj; exact ⟨‹_›, hj⟩
          · cases hj
        refine .t _ _ (.sl B (off + l * k) (h - l) (cap - l) _ ((ys.drop (l * k)).take ((h - l) * k)) hU (by simp [hyl]) (fun y hy => h1 y (List.mem_of_mem_drop (List.mem_of_mem_take hy))) (fun j y hj => ?_) (fun j c y hj hj' => ?_) (by omega))
        · rw [Nat.add_assoc]; exact hc _ _ (hg ys j y hj).2
        · exact hr _ _ _ (hg cs j c hj).2 (hg ys j y hj').2
theorem Rd.sliceO {t e : TypeId} {k n0 l h b j : Nat} {ob : Ob} {x : Operand} {lo hi : Option Operand} [T : CSl P t e] [Z : CS P e k] (hx : evA σ x = .os b j n0) (hO : O[b]? = some (some ob)) (hk : ob.k = k) (hh : bnd σ hi n0 h) (hl : bnd σ lo 0 l) (hb : l ≤ h ∧ h ≤ n0) :
    Rd P s O σ (.slice t x lo hi none) ty (.os b (j + l * k) (h - l)) := by
  intro M U w σc S hσ
  have e := evA_rel hσ x; rw [hx] at e
  generalize hy : ev σc x = u at e
  have hh' : ∀ cap, n0 ≤ cap → hiC σc hi n0 h cap := by
    intro cap hc
    cases hi with
    | none => exact hh
    | some y => have e := evA_rel hσ y; rw [show evA σ y = iA h from hh] at e; exact ⟨e.int, by omega⟩
  have hl' : loC σc lo l := by
    cases lo with
    | none => exact hl
    | some y => have e := evA_rel hσ y; rw [show evA σ y = iA l from hl] at e; exact e.int
  cases e with
  | osd _ _ _ _ _ hM => exact (S.own _ _ _ hO hM).elim
  | osn _ hM =>
    have h0 : h = 0 := by omega
    have l0 : l = 0 := by omega
    subst h0; subst l0
    refine ⟨.slice none 0 0, ?_, fun w' _ => by have := run_slice (P := P) (ty := ty) (w := w') (t := t) hy (hh' 0 (Nat.le_refl _)) hl' hb.1; simpa using this⟩
    simp only [Nat.zero_mul, Nat.add_zero, Nat.sub_self]
    exact .osn _ hM
  | osz _ _ o L hM =>
    have h0 : h = 0 := by omega
    have l0 : l = 0 := by omega
    subst h0; subst l0
    refine ⟨.slice (some ⟨L.blk, o, none⟩) 0 0, .osz _ _ _ L hM, fun w' _ => by have := run_slice (P := P) (ty := ty) (w := w') (t := t) hy (hh' 0 (Nat.le_refl _)) hl' hb.1; simpa using this⟩
  | os _ _ _ cap L hM hcap hn hx1 =>
    have hLk : L.k = k := by obtain ⟨h3, _⟩ := S.own b ob _ hO hM; rw [h3, hk]
    refine ⟨_, ?_, fun w' _ => run_slice (P := P) (ty := ty) (w := w') (t := t) hy (hh' cap hn) hl' hb.1⟩
    by_cases hcl : cap = l
    · have h3 : h - l = 0 := by omega
      have h4 : cap - l = 0 := by omega
      rw [if_pos hcl, h3, h4]
      exact .osz _ _ _ L hM
    · rw [if_neg hcl]
      simp only [Option.map_some, Rd.addr_add]
      rw [Nat.add_assoc]
      have hsub : (cap - l) * k + l * k = cap * k := by rw [← Nat.add_mul]; congr 1; omega
      exact .os _ _ _ _ L hM (by rw [hLk] at hcap ⊢; omega) (by omega) (by omega)
theorem Rd.sliceS {t : TypeId} {l h : Nat} {x : Operand} {u : ByteArray} {lo hi : Option Operand} [T : CSt P t] (hx : evA σ x = sA u) (hh : bnd σ hi u.size h) (hl : bnd σ lo 0 l) (hb : l ≤ h ∧ h ≤ u.size) :
    Rd P s O σ (.slice t x lo hi none) ty (sA (u.extract l h)) := by
  intro M U w σc S hσ
  have e := evA_rel hσ x; rw [hx] at e
  have hy := e.int
  refine ⟨.string (u.extract l h), .t _ _ (.v _ rfl), fun w' _ => Yl.mk fun d pos after g => ?_⟩
  cases lo <;> cases hi <;> simp only [bnd] at hh hl
  · subst hl; subst hh
    simp [execOp, hy, Instr.sliceAt, T.run, Instr.slice, Instr.sliceBounds, Instr.sliceBound, asIntOf]
  · subst hl
    rename_i y
    have e1 := evA_rel hσ y; rw [hh] at e1
    simp [execOp, hy, e1.int, Instr.sliceAt, T.run, Instr.slice, Instr.sliceBounds, Instr.sliceBound, asIntOf, hb]
  · subst hh
    rename_i y
    have e1 := evA_rel hσ y; rw [hl] at e1
    simp [execOp, hy, e1.int, Instr.sliceAt, T.run, Instr.slice, Instr.sliceBounds, Instr.sliceBound, asIntOf, hb]
  · rename_i y y'
    have e1 := evA_rel hσ y; rw [hl] at e1
    have e2 := evA_rel hσ y'; rw [hh] at e2
    simp [execOp, hy, e1.int, e2.int, Instr.sliceAt, T.run, Instr.slice, Instr.sliceBounds, Instr.sliceBound, asIntOf, hb]
end
end V
end Go.Proofs.Ytaiifcnjmbpbjaa
