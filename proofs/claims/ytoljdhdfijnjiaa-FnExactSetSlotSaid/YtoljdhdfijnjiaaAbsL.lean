/- Names found by program: of results at a call's end, of pins at a loop's head. No condition. -/
import Derived.Test.YtoljdhdfijnjiaaAbsK
namespace Go.Proofs.Ytoljdhdfijnjiaa
namespace V
set_option linter.unusedVariables false
set_option linter.unusedSimpArgs false
open Go.RowKit

mutual
/-- A result with its own blocks named in order. -/
def canon (st : Rho) : AV → AV × Rho
  | .any => (.any, st)
  | .t c => match c with
    | .v (.slice none 0 0) => (.os st.length 0 0, st ++ [none])
    | c => (.t c, st)
  | .os b j n => (.os st.length j n, st ++ [some b])
  | .op b j => (.op st.length j, st ++ [some b])
  | .fn f cs => (.fn f (canonL st cs).1, (canonL st cs).2)
  | .agg cs => (.agg (canonL st cs).1, (canonL st cs).2)
  | .tup cs => (.tup (canonL st cs).1, (canonL st cs).2)
def canonL (st : Rho) : List AV → List AV × Rho
  | [] => ([], st)
  | c :: cs => ((canon st c).1 :: (canonL (canon st c).2 cs).1, (canonL (canon st c).2 cs).2)
end
def Pre (a b : Rho) : Prop := ∃ c, b = a ++ c
theorem Pre.refl (a : Rho) : Pre a a := ⟨[], by simp⟩
theorem Pre.trans {a b c : Rho} (h : Pre a b) (k : Pre b c) : Pre a c := by
  obtain ⟨x, rfl⟩ := h; obtain ⟨y, rfl⟩ := k; exact ⟨x ++ y, by simp⟩
theorem Pre.snoc (a : Rho) (x : Option Nat) : Pre a (a ++ [x]) := ⟨[x], rfl⟩
theorem Pre.ad {a b : Rho} {x : Option Nat} (h : Pre (a ++ [x]) b) : b[a.length]? = some x := by
  obtain ⟨c, rfl⟩ := h; simp
mutual
theorem canon_spec {O : Obs} {ρ : Rho} : ∀ (v : AV) (st : Rho), Pre st (canon st v).2 ∧ (Pre (canon st v).2 ρ → Sb true O ρ (canon st v).1 v)
  | .any, st => ⟨Pre.refl _, fun _ => .any _⟩
  | .t c, st => by
    unfold canon
    split
    · exact ⟨Pre.snoc _ _, fun h => .osn h.ad⟩
    · exact ⟨Pre.refl _, fun _ => .t _⟩
  | .os b j n, st => ⟨Pre.snoc _ _, fun h => .os h.ad⟩
  | .op b j, st => ⟨Pre.snoc _ _, fun h => .op h.ad⟩
  | .fn f cs, st => by
    obtain ⟨h1, h2⟩ := canonL_spec (O := O) (ρ := ρ) cs st
    exact ⟨h1, fun h => .fn (h2 h).spec.1 (h2 h).spec.2⟩
  | .agg cs, st => by
    obtain ⟨h1, h2⟩ := canonL_spec (O := O) (ρ := ρ) cs st
    exact ⟨h1, fun h => .aggL (h2 h)⟩
  | .tup cs, st => by
    obtain ⟨h1, h2⟩ := canonL_spec (O := O) (ρ := ρ) cs st
    exact ⟨h1, fun h => .tupL (h2 h)⟩
theorem canonL_spec {O : Obs} {ρ : Rho} : ∀ (vs : List AV) (st : Rho), Pre st (canonL st vs).2 ∧ (Pre (canonL st vs).2 ρ → SbL true O ρ (canonL st vs).1 vs)
  | [], st => ⟨Pre.refl _, fun _ => trivial⟩
  | v :: vs, st => by
    obtain ⟨h1, h2⟩ := canon_spec (O := O) (ρ := ρ) v st
    obtain ⟨h3, h4⟩ := canonL_spec (O := O) (ρ := ρ) vs (canon st v).2
    exact ⟨h1.trans h3, fun h => ⟨h2 (h3.trans h), h4 h⟩⟩
end
/-- The names of the lent blocks. -/
def lent0 (m : Nat) : Rho := (List.range m).map some
section
variable {P : Program} {n : Nat} {s : Bs} {Q : APost} {σ : Fr} {O : Obs}
theorem FinA.can {fn : Func} {m : Nat} {R : AV → List Ob → Prop} {e : Exit} {rl : List ResultVar} {vs : List AV} {r : AV} {ρ : Rho} {bl : List Ob} (he : e = .ret ∨ e = .normal) (hf : fn.results = rl.toArray) (hv : RVA P σ O rl vs)
    (hp : canon (lent0 m) (packA vs) = (r, ρ)) (hl : lentB m ρ = true) (hn : nodupB ρ = true) (hb : BlkL true O ρ ρ bl) (hR : R r bl) : FinA P fn m R e σ O := by
  have h := canon_spec (O := O) (ρ := ρ) (packA vs) (lent0 m)
  rw [hp] at h
  exact FinA.mk ρ he hf hv rfl hl hn (h.2 (Pre.refl _)) hb hR
end
section
variable {P : Program} {n : Nat} {s : Bs} {Q : APost} {σ : Fr} {O : Obs} {ops : Array Oper} {rest : List Oper} {d : Nat} {ty : TypeId} {pos : String} {after : Array Edge}
/-- x == nil, of a slice that is read: true only if it has no elements. -/
theorem PL.eqNil {t t' e : TypeId} {x y : Operand} {n0 : Nat} {cs : List Tr} [T : CSl P t e] (hd : Nat.blt d n = true) (hx : evA σ x = .t (.sl n0 cs)) (hy : evA σ y = .t (.v (.slice none 0 0)))
    (k : ∀ b : Bool, (b = true → n0 = 0) → PL P n s ops rest Q (updA σ d (bA b)) O) : PL P n s ops (⟨some d, .binOp .eql t x y t', ty, pos, after, none⟩ :: rest) Q σ O := by
  refine ⟨fun M U σc w S hσ => ?_⟩
  have ex := evA_rel hσ x; rw [hx] at ex
  have ey := (by have := evA_rel hσ y; rw [hy] at this; exact this.int)
  generalize hx' : ev σc x = u at ex
  cases ex with | t _ _ h =>
    cases h with
    | nil => exact LW.op hd (R.eqlNil hx' ey) ((k true (fun _ => rfl)).h M U _ w S (hσ.upd d (.t _ _ (.v _ rfl))))
    | sl0 => exact LW.op hd (R.eqlNil hx' ey) ((k false (fun h => by cases h)).h M U _ w S (hσ.upd d (.t _ _ (.v _ rfl))))
    | sl B off _ cap _ ys hU hl h1 hc hr hn => exact LW.op hd (R.eqlNil hx' ey) ((k false (fun h => by cases h)).h M U _ w S (hσ.upd d (.t _ _ (.v _ rfl))))
end
/-! the names at a loop's head -/
def setR (ρ : Rho) (i : Nat) (x : Option Nat) : Rho := if i < ρ.length then ρ.set i x else ρ ++ List.replicate (i - ρ.length) none ++ [x]
mutual
def rho1 (ρ : Rho) : AV → AV → Rho
  | .os i _ _, .os b _ _ => setR ρ i (some b)
  | .os i _ _, .t (.v (.slice none 0 0)) => setR ρ i none
  | .op i _, .op b _ => setR ρ i (some b)
  | .agg cs, .agg ds => rhoL ρ cs ds
  | .fn _ cs, .fn _ ds => rhoL ρ cs ds
  | .tup cs, .tup ds => rhoL ρ cs ds
  | _, _ => ρ
def rhoL (ρ : Rho) : List AV → List AV → Rho
  | c :: cs, d :: ds => rhoL (rho1 ρ c d) cs ds
  | _, _ => ρ
end
def rhoP (ρ : Rho) (σ : Fr) : List (Nat × AV) → Rho
  | [] => ρ
  | (t, a) :: l => rhoP (rho1 ρ a (σ t)) σ l
def rhoB (O : Obs) (ρ : Rho) : Nat → List Ob → Rho
  | i, ob :: B => match ρ[i]? with
    | some (some b) => match O[b]? with
      | some (some ob0) => match ob.c, ob0.c with
        | .mx cs, .mx ds => rhoB O (rhoL ρ cs ds) (i + 1) B
        | _, _ => rhoB O ρ (i + 1) B
      | _ => rhoB O ρ (i + 1) B
    | _ => rhoB O ρ (i + 1) B
  | _, [] => ρ
def rhoOf (m : Nat) (σ : Fr) (O : Obs) (l : List (Nat × AV)) (B : List Ob) : Rho := rhoB O (rhoP (lent0 m) σ l) 0 B
theorem Rs.auto {m : Nat} {σ : Fr} {O : Obs} {l : List (Nat × AV)} {B : List Ob} {ρ : Rho} (hρ : rhoOf m σ O l B = ρ) (h1 : lentB m ρ = true) (h2 : nodupB ρ = true) (h3 : BlkL true O ρ ρ B) (h4 : PinA O ρ σ l) : Rs m σ O ρ l B := ⟨h1, h2, h3, h4⟩
theorem Sb.iE {z : Bool} {O : Obs} {ρ : Rho} {a b : Int} (h : a = b) : Sb z O ρ (iA a) (iA b) := by subst h; exact .t _
theorem Sb.bE {z : Bool} {O : Obs} {ρ : Rho} {a b : Bool} (h : a = b) : Sb z O ρ (bA a) (bA b) := by subst h; exact .t _
theorem Sb.sE {z : Bool} {O : Obs} {ρ : Rho} {a b : ByteArray} (h : a = b) : Sb z O ρ (sA a) (sA b) := by subst h; exact .t _
theorem Sb.osE {z : Bool} {O : Obs} {ρ : Rho} {b b' j n n' : Nat} (hρ : ρ[b]? = some (some b')) (h : n = n') : Sb z O ρ (.os b j n) (.os b' j n') := by subst h; exact .os hρ
theorem Sb.tE {z : Bool} {O : Obs} {ρ : Rho} {α : Type} [Enc α] {xs ys : List α} (h : xs = ys) : Sb z O ρ (sL xs) (sL ys) := by subst h; exact .t _
theorem SbC.trE {z : Bool} {O : Obs} {ρ : Rho} {α : Type} [Enc α] {xs ys : List α} (h : xs = ys) : SbC z O ρ (.tr (eL xs)) (.tr (eL ys)) := by subst h; exact .tr _
theorem flat_ow {α : Type} [Enc α] [E : EncF α] {e : TypeId} {xs : List α} : (ow e xs).flat := by
  intro c hc
  simp only [eL, List.mem_flatMap] at hc
  obtain ⟨x, _, h⟩ := hc
  exact E.flat x c h
theorem SbC.nilE {z : Bool} {O : Obs} {ρ : Rho} {α : Type} [Enc α] : SbC z O ρ (.tr (eL ([] : List α))) (.tr []) := .tr _
theorem ow_nil {α : Type} [Enc α] (e : TypeId) : (ow e ([] : List α)).c = .tr [] := rfl
theorem eL_nil {α : Type} [Enc α] : eL ([] : List α) = [] := rfl
end V
end Go.Proofs.Ytoljdhdfijnjiaa
