/- Abstract values: what a value is, read through memory as a tree; blocks of the call's own. The relation to the machine's values and memory. No condition. -/
import Derived.Test.YtoljdhdfijnjiaaLibF
namespace Go.Proofs.Ytoljdhdfijnjiaa
namespace V
set_option linter.unusedVariables false
set_option linter.unusedSimpArgs false
open Go.RowKit

/-- A tree: a value with all that it leads to, which is not written any more. -/
inductive Tr where
  | v (x : Value)
  | sl (n : Nat) (cs : List Tr)
  | pt (cs : List Tr) (j : Nat)
  | fn (f : Fn) (caps : List Tr)
/-- An abstract value: a tree, or a way into a block of the call's own. -/
inductive AV where
  | any
  | t (c : Tr)
  | os (b j n : Nat)
  | op (b j : Nat)
  | fn (f : Fn) (caps : List AV)
  | agg (cs : List AV)
  | tup (vs : List AV)
structure Loc where
  blk : Nat
  size : Nat
  k : Nat
def Loc.off (_ : Loc) : Nat := 0
/-- A block of the call's own: its cells, the type it is made of, the cells of an element. -/
inductive Cs where
  | tr (cs : List Tr)
  | mx (cs : List AV)
def Cs.list : Cs → List AV
  | .tr cs => cs.map .t
  | .mx cs => cs
structure Ob where
  c : Cs
  ty : TypeId
  k : Nat
def Ob.cells (ob : Ob) : List AV := ob.c.list
mutual
/-- Other names for the own blocks. -/
def AV.ren (θ : Nat → Nat) : AV → AV
  | .any => .any
  | .t c => .t c
  | .os b j n => .os (θ b) j n
  | .op b j => .op (θ b) j
  | .fn f cs => .fn f (AV.renL θ cs)
  | .agg cs => .agg (AV.renL θ cs)
  | .tup cs => .tup (AV.renL θ cs)
def AV.renL (θ : Nat → Nat) : List AV → List AV
  | [] => []
  | c :: cs => AV.ren θ c :: AV.renL θ cs
end
def Cs.ren (θ : Nat → Nat) : Cs → Cs
  | .tr cs => .tr cs
  | .mx cs => .mx (AV.renL θ cs)
def Ob.ren (θ : Nat → Nat) (ob : Ob) : Ob := ⟨ob.c.ren θ, ob.ty, ob.k⟩
theorem AV.renL_get (θ : Nat → Nat) : ∀ (cs : List AV) (j : Nat), (AV.renL θ cs)[j]? = cs[j]?.map (AV.ren θ)
  | [], j => by simp [AV.renL]
  | c :: cs, 0 => by simp [AV.renL]
  | c :: cs, j + 1 => by simpa [AV.renL] using AV.renL_get θ cs j
theorem AV.renL_len (θ : Nat → Nat) : ∀ (cs : List AV), (AV.renL θ cs).length = cs.length
  | [] => rfl
  | c :: cs => by simp [AV.renL, AV.renL_len θ cs]
theorem Ob.ren_get (θ : Nat → Nat) (ob : Ob) (j : Nat) : (ob.ren θ).cells[j]? = ob.cells[j]?.map (AV.ren θ) := by
  obtain ⟨c, t, k⟩ := ob
  cases c with
  | tr cs =>
    simp only [Ob.ren, Ob.cells, Cs.ren, Cs.list, List.getElem?_map]
    cases cs[j]? <;> rfl
  | mx cs => exact AV.renL_get θ cs j
theorem Ob.ren_len (θ : Nat → Nat) (ob : Ob) : (ob.ren θ).cells.length = ob.cells.length := by
  obtain ⟨c, t, k⟩ := ob
  cases c with
  | tr cs => rfl
  | mx cs => exact AV.renL_len θ cs
example (θ : Nat → Nat) : AV.ren θ (.tup [.os 0 0 3, .t (.v .nilFunc)]) = .tup [.os (θ 0) 0 3, .t (.v .nilFunc)] := rfl
def plain : Value → Bool
  | .bool _ | .int _ _ | .string _ | .nilFunc | .nilIface | .pointer none | .slice none 0 0 => true
  | _ => false
theorem plain_cell {x : Value} (h : plain x = true) : x.oneCell' = true := by
  cases x <;> first | rfl | (simp [plain] at h)

/-- Where an own block lies: nowhere (nil), here; or it is named otherwise by now. -/
inductive Pl where
  | nl
  | ad (L : Loc)
  | dead
abbrev Mp := List Pl
inductive TRel (w : World) (U : Nat → Prop) : Tr → Value → Prop
  | v (x : Value) (h : plain x = true) : TRel w U (.v x) x
  | nil : TRel w U (.sl 0 []) (.slice none 0 0)
  | sl (B off n cap : Nat) (cs : List Tr) (ys : List Value) (hU : U B) (hl : ys.length = cs.length) (h1 : ∀ y, y ∈ ys → y.oneCell' = true) (hc : ∀ (j : Nat) y, ys[j]? = some y → w.cell? ⟨B, off + j, none⟩ = some y)
      (hr : ∀ (j : Nat) c y, cs[j]? = some c → ys[j]? = some y → TRel w U c y) (hn : n ≤ cap) : TRel w U (.sl n cs) (.slice (some ⟨B, off, none⟩) n cap)
  | pt (B off j : Nat) (cs : List Tr) (ys : List Value) (hU : U B) (hl : ys.length = cs.length) (h1 : ∀ y, y ∈ ys → y.oneCell' = true) (hc : ∀ (j : Nat) y, ys[j]? = some y → w.cell? ⟨B, off + j, none⟩ = some y)
      (hr : ∀ (j : Nat) c y, cs[j]? = some c → ys[j]? = some y → TRel w U c y) : TRel w U (.pt cs j) (.pointer (some ⟨B, off + j, none⟩))
  | fn (f : Fn) (cs : List Tr) (ys : List Value) (hl : ys.length = cs.length) (hr : ∀ (j : Nat) c y, cs[j]? = some c → ys[j]? = some y → TRel w U c y) : TRel w U (.fn f cs) (.func f #[] ys.toArray)
  | sl0 (a : Addr) (cap : Nat) : TRel w U (.sl 0 []) (.slice (some a) 0 cap)
inductive Rel (w : World) (U : Nat → Prop) (M : Mp) : AV → Value → Prop
  | any (y : Value) : Rel w U M .any y
  | t (c : Tr) (y : Value) (h : TRel w U c y) : Rel w U M (.t c) y
  | os (b j n cap : Nat) (L : Loc) (hM : M[b]? = some (.ad L)) (hcap : L.off + j + cap * L.k = L.size) (hn : n ≤ cap) (hx : cap ≤ maxLen) : Rel w U M (.os b j n) (.slice (some ⟨L.blk, L.off + j, none⟩) n cap)
  | osn (b : Nat) (hM : M[b]? = some .nl) : Rel w U M (.os b 0 0) (.slice none 0 0)
  | osd (b j n : Nat) (y : Value) (h1 : y.oneCell' = true) (hM : M[b]? = some .dead) : Rel w U M (.os b j n) y
  | opd (b j : Nat) (y : Value) (h1 : y.oneCell' = true) (hM : M[b]? = some .dead) : Rel w U M (.op b j) y
  | osz (b j o : Nat) (L : Loc) (hM : M[b]? = some (.ad L)) : Rel w U M (.os b j 0) (.slice (some ⟨L.blk, o, none⟩) 0 0)
  | op (b j : Nat) (L : Loc) (hM : M[b]? = some (.ad L)) : Rel w U M (.op b j) (.pointer (some ⟨L.blk, L.off + j, none⟩))
  | fn (f : Fn) (cs : List AV) (ys : List Value) (hl : ys.length = cs.length) (hr : ∀ (j : Nat) c y, cs[j]? = some c → ys[j]? = some y → Rel w U M c y) : Rel w U M (.fn f cs) (.func f #[] ys.toArray)
  | agg (cs : List AV) (ys : List Value) (hl : ys.length = cs.length) (h1 : ∀ y, y ∈ ys → y.oneCell' = true) (hr : ∀ (j : Nat) c y, cs[j]? = some c → ys[j]? = some y → Rel w U M c y) : Rel w U M (.agg cs) (.agg ys.toArray)
  | tup (cs : List AV) (ys : List Value) (hl : ys.length = cs.length) (hr : ∀ (j : Nat) c y, cs[j]? = some c → ys[j]? = some y → Rel w U M c y) : Rel w U M (.tup cs) (.tuple ys.toArray)

theorem cell_eq {w w' : World} {B o : Nat} (h : w'.heap[B]? = w.heap[B]?) : w'.cell? ⟨B, o, none⟩ = w.cell? ⟨B, o, none⟩ := World.cell?_of_block (w := w) (by exact h)
theorem TRel.mono {w w' : World} {U U' : Nat → Prop} (hw : ∀ B, U B → w'.heap[B]? = w.heap[B]?) (hU : ∀ B, U B → U' B) {c : Tr} {y : Value} (h : TRel w U c y) : TRel w' U' c y := by
  induction h with
  | v x h => exact .v x h
  | nil => exact .nil
  | sl B off n cap cs ys hB hl h1 hc _ hn ih => exact .sl B off n cap cs ys (hU _ hB) hl h1 (fun j y hy => by rw [cell_eq (hw _ hB)]; exact hc j y hy) (fun j c y h1 h2 => ih j c y h1 h2) hn
  | pt B off j cs ys hB hl h1 hc _ ih => exact .pt B off j cs ys (hU _ hB) hl h1 (fun j y hy => by rw [cell_eq (hw _ hB)]; exact hc j y hy) (fun j c y h1 h2 => ih j c y h1 h2)
  | fn f cs ys hl _ ih => exact .fn f cs ys hl (fun j c y h1 h2 => ih j c y h1 h2)
  | sl0 a cap => exact .sl0 a cap
theorem Rel.mono {w w' : World} {U U' : Nat → Prop} {M M' : Mp} (hw : ∀ B, U B → w'.heap[B]? = w.heap[B]?) (hU : ∀ B, U B → U' B) (hM : ∀ (b : Nat) x, M[b]? = some x → M'[b]? = some x) {c : AV} {y : Value} (h : Rel w U M c y) : Rel w' U' M' c y := by
  induction h with
  | any y => exact .any y
  | t c y h => exact .t c y (h.mono hw hU)
  | os b j n cap L h hc hn hx => exact .os b j n cap L (hM _ _ h) hc hn hx
  | osn b h => exact .osn b (hM _ _ h)
  | osz b j o L h => exact .osz b j o L (hM _ _ h)
  | osd b j n y h1 h => exact .osd b j n y h1 (hM _ _ h)
  | opd b j y h1 h => exact .opd b j y h1 (hM _ _ h)
  | op b j L h => exact .op b j L (hM _ _ h)
  | fn f cs ys hl _ ih => exact .fn f cs ys hl (fun j c y h1 h2 => ih j c y h1 h2)
  | agg cs ys hl h1 _ ih => exact .agg cs ys hl h1 (fun j c y h1 h2 => ih j c y h1 h2)
  | tup cs ys hl _ ih => exact .tup cs ys hl (fun j c y h1 h2 => ih j c y h1 h2)

/-! ### Memory -/
/-- Where the call began; the blocks that were lent to it, and where they lie. -/
structure Bs where
  w : World
  L : Mp
  V : Nat → Prop
def Bs.X (s : Bs) : List Nat := s.L.filterMap fun x => match x with | .ad L => some L.blk | _ => none
def InM (M : Mp) (B : Nat) : Prop := ∃ (b : Nat) (L : Loc), M[b]? = some (.ad L) ∧ L.blk = B
def Fz (M : Mp) (w : World) : Nat → Prop := fun B => B < w.heap.size ∧ ¬ InM M B
def Blk (w : World) (U : Nat → Prop) (M : Mp) (ob : Ob) : Pl → Prop
  | .nl => ob.cells = []
  | .dead => False
  | .ad L => L.k = ob.k ∧ L.off + ob.cells.length ≤ L.size ∧ ∃ cur : Array Value, w.heap[L.blk]? = some (.cells cur ob.ty (0, 0)) ∧ cur.size = L.size ∧
      ∀ (j : Nat) c, ob.cells[j]? = some c → ∃ y, cur[L.off + j]? = some y ∧ y.oneCell' = true ∧ Rel w U M c y
structure Mem (s : Bs) (M : Mp) (O : List (Option Ob)) (U : Nat → Prop) (w : World) : Prop where
  base : BelowX s.X s.w w
  lent : ∀ (b : Nat) x, s.L[b]? = some x → M[b]? = some x
  len : M.length = O.length
  lt : ∀ B, InM M B → B < w.heap.size
  fresh : ∀ B, InM M B → s.w.heap.size ≤ B ∨ B ∈ s.X
  one : ∀ (b b' : Nat) (L L' : Loc), M[b]? = some (.ad L) → M[b']? = some (.ad L') → L.blk = L'.blk → b = b'
  own : ∀ (b : Nat) ob x, O[b]? = some (some ob) → M[b]? = some x → Blk w U M ob x
  u : ∀ B, U B → Fz M w B ∧ (s.V B ∨ s.w.heap.size ≤ B)

theorem Bs.inX {s : Bs} {b : Nat} {L : Loc} (h : s.L[b]? = some (.ad L)) : L.blk ∈ s.X :=
  List.mem_filterMap.2 ⟨.ad L, get_mem h, rfl⟩
theorem Bs.exX {s : Bs} {B : Nat} (h : B ∈ s.X) : ∃ (b : Nat) (L : Loc), s.L[b]? = some (.ad L) ∧ L.blk = B := by
  obtain ⟨x, hx, e⟩ := List.mem_filterMap.1 h
  obtain ⟨b, hb⟩ := mem_get hx
  cases x with
  | nl => cases e
  | dead => cases e
  | ad L => exact ⟨b, L, hb, by simpa using e⟩

abbrev Fr := Nat → AV
def Rels (w : World) (U : Nat → Prop) (M : Mp) (σ : Fr) (σc : Nat → Value) : Prop := ∀ t, Rel w U M (σ t) (σc t)
/-- Two worlds that hold the same in all that is known. -/
def Agr' (M : Mp) (O : List (Option Ob)) (w w' : World) : Prop := w.heap.size ≤ w'.heap.size ∧ ∀ B, B < w.heap.size → (∀ (b : Nat) (L : Loc), M[b]? = some (.ad L) → L.blk = B → ∃ ob, O[b]? = some (some ob)) → w'.heap[B]? = w.heap[B]?
theorem Agr'.refl (M : Mp) (O : List (Option Ob)) (w : World) : Agr' M O w w := ⟨Nat.le_refl _, fun _ _ _ => rfl⟩
theorem Agr'.fz {s : Bs} {M : Mp} {O : List (Option Ob)} {U : Nat → Prop} {w w' : World} (h : Agr' M O w w') (S : Mem s M O U w) {B : Nat} (hB : U B) : w'.heap[B]? = w.heap[B]? :=
  h.2 B (S.u B hB).1.1 fun b L h1 h2 => absurd ⟨b, L, h1, h2⟩ (S.u B hB).1.2
theorem Agr'.own {s : Bs} {M : Mp} {O : List (Option Ob)} {U : Nat → Prop} {w w' : World} (h : Agr' M O w w') (S : Mem s M O U w) {b : Nat} {L : Loc} {ob : Ob} (hM : M[b]? = some (.ad L)) (hO : O[b]? = some (some ob)) : w'.heap[L.blk]? = w.heap[L.blk]? :=
  h.2 _ (S.lt _ ⟨b, L, hM, rfl⟩) fun b' L' h1 h2 => by
    have := S.one b' b L' L h1 hM h2
    subst this; exact ⟨ob, hO⟩
theorem Fz.mono {M : Mp} {w w' : World} (h : w.heap.size ≤ w'.heap.size) {B : Nat} (hB : Fz M w B) : Fz M w' B := ⟨Nat.lt_of_lt_of_le hB.1 h, hB.2⟩

/-- What a step reads: what it yields is the same in all later worlds that hold the same. -/
def Rd (P : Program) (s : Bs) (O : List (Option Ob)) (σ : Fr) (op : Op) (ty : TypeId) (x : AV) : Prop :=
  ∀ M U w σc, Mem s M O U w → Rels w U M σ σc → ∃ y, Rel w U M x y ∧ ∀ w', Agr' M O w w' → Yl P σc op ty w' y w'
def evA (σ : Fr) : Operand → AV
  | .tmp t => σ t
  | .const v => bif plain v then .t (.v v) else match v with | .agg cs => bif cs.toList.all plain then .agg (cs.toList.map fun x => .t (.v x)) else .any | _ => .any
  | .global _ => .any
  | .func f => .fn (.func f) []
theorem evA_rel {w : World} {U : Nat → Prop} {M : Mp} {σ : Fr} {σc : Nat → Value} (h : Rels w U M σ σc) (x : Operand) : Rel w U M (evA σ x) (ev σc x) := by
  cases x with
  | tmp t => exact h t
  | const v =>
    simp only [evA, ev]
    cases hp : plain v with
    | true => exact .t _ _ (.v _ hp)
    | false =>
      simp only [cond_false]
      cases v <;> try exact .any _
      rename_i cs
      simp only
      cases hq : cs.toList.all plain with
      | false => exact .any _
      | true =>
        simp only [cond_true]
        have hall : ∀ x, x ∈ cs.toList → plain x = true := fun x hx => List.all_eq_true.1 hq x hx
        have := Rel.agg (w := w) (U := U) (M := M) (cs.toList.map fun x => AV.t (.v x)) cs.toList (by simp) (fun y hy => plain_cell (hall y hy)) (fun j c y h1 h2 => by
          rw [List.getElem?_map, h2] at h1
          simp at h1; subst h1
          exact .t _ _ (.v _ (hall y (get_mem h2))))
        simpa using this
  | global g => exact .any _
  | func f => exact .fn _ [] [] rfl (fun j c y h => by simp at h)
theorem Rel.int {w : World} {U : Nat → Prop} {M : Mp} {x y : Value} (h : Rel w U M (.t (.v x)) y) : y = x := by
  cases h with | t _ _ h => cases h; rfl
end V
end Go.Proofs.Ytoljdhdfijnjiaa
