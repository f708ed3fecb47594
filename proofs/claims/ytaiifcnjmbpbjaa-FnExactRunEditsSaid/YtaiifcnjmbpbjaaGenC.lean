/- More steps that read. No condition. -/
import Derived.Test.YtaiifcnjmbpbjaaGenB
namespace Go.Proofs.Ytaiifcnjmbpbjaa
namespace V
section
variable {P : Program} {s : Bs} {O : Obs} {σ : Fr} {ty : TypeId}
/-- A field of a struct value, of one cell. -/
theorem Rd.field1M {t t' : TypeId} {x : Operand} {f off : Nat} {cs : List AV} {v : AV} [Y : CA P t' false] (hx : evA σ x = .agg cs) (hT : ∀ ys w, (Instr.field t (.agg ys) f).run P w = (part t' ys off).run P w) (hc : cs[off]? = some v) : Rd P s O σ (.field t x f) ty v :=
  Rd.field hx fun w U M ys hl hr => by
    have h1 : off < cs.length := (List.getElem?_eq_some_iff.1 hc).1
    have h2 : ys[off]? = some ys[off] := List.getElem?_eq_getElem (by omega)
    refine ⟨ys[off], hr off v _ hc h2, fun w' => ?_⟩
    rw [hT]
    simp [part, Y.run, h2]
end
theorem bl_total : ∀ x y : List UInt8, (Op.bytesLess x y || x == y) = !Op.bytesLess y x
  | [], [] => rfl
  | [], _ :: _ => rfl
  | _ :: _, [] => rfl
  | a :: x, b :: y => by
    have ih := bl_total x y
    simp only [Op.bytesLess]
    rcases Nat.lt_trichotomy a.toNat b.toNat with h | h | h
    · have h1 : a < b := UInt8.lt_iff_toNat_lt.2 h
      have h2 : ¬ b < a := fun e => by have := UInt8.lt_iff_toNat_lt.1 e; omega
      have h3 : ¬ b = a := fun e => by rw [e] at h; omega
      simp [h1, h2, h3]
    · have h1 : a = b := UInt8.toNat_inj.1 h
      subst h1
      have h2 : ¬ a < a := fun e => by have := UInt8.lt_iff_toNat_lt.1 e; omega
      simpa [h2] using ih
    · have h1 : b < a := UInt8.lt_iff_toNat_lt.2 h
      have h2 : ¬ a < b := fun e => by have := UInt8.lt_iff_toNat_lt.1 e; omega
      have h3 : ¬ a = b := fun e => by rw [e] at h; omega
      simp [h1, h2, h3]
section
variable {P : Program} {s : Bs} {O : Obs} {σ : Fr} {ty t t' : TypeId} {x y : Operand} {a b : ByteArray}
theorem Rd.geqS (hx : evA σ x = sA a) (hy : evA σ y = sA b) : Rd P s O σ (.binOp .geq t x y t') ty (bA (!Op.bytesLess a.toList b.toList)) :=
  Rd.of2 hx hy rfl fun _ _ h1 h2 => Yl.mk fun d pos after g => by simp [execOp, h1, h2, eqGuard, binOp, Op.stringOp]
theorem Rd.leqS (hx : evA σ x = sA a) (hy : evA σ y = sA b) : Rd P s O σ (.binOp .leq t x y t') ty (bA (!Op.bytesLess b.toList a.toList)) :=
  Rd.of2 hx hy rfl fun _ _ h1 h2 => Yl.mk fun d pos after g => by
    rw [← bl_total]
    simp [execOp, h1, h2, eqGuard, binOp, Op.stringOp]
theorem Rd.gtrS (hx : evA σ x = sA a) (hy : evA σ y = sA b) : Rd P s O σ (.binOp .gtr t x y t') ty (bA (Op.bytesLess b.toList a.toList)) :=
  Rd.of2 hx hy rfl fun _ _ h1 h2 => Yl.mk fun d pos after g => by
    have h := bl_total a.toList b.toList
    have h' : Op.bytesLess b.toList a.toList = !(Op.bytesLess a.toList b.toList || a.toList == b.toList) := by rw [h, Bool.not_not]
    rw [h']
    simp [execOp, h1, h2, eqGuard, binOp, Op.stringOp]
end
end V
end Go.Proofs.Ytaiifcnjmbpbjaa
