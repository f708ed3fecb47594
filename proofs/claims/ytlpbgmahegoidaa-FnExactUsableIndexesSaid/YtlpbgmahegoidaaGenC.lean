/- More steps that read. No condition. -/
import Derived.Test.YtlpbgmahegoidaaGenB
namespace Go.Proofs.Ytlpbgmahegoidaa
namespace V
section
variable {P : Program} {s : Bs} {O : Obs} {σ : Fr} {ty : TypeId}
/-- A field of a struct value, of one cell. -/
theorem Rd.field1M {t t' : TypeId} {x : Operand} {f off : Nat} {cs : List AV} {v : AV} [Y : CA P t' false] (hx : evA σ x = .agg cs) (hT : ∀ ys w, (Instr.field t (.agg ys) f).run P w = (part t' ys off).run P w) (hc : cs[off]? = some v) : Rd P s O σ (.field t x f) ty v :=
  Rd.field hx fun w U M ys hl hr => by
    have h1 : off < cs.length := (List.getElem?_eq_some_iff.1 hc).1
    have h2 : ys[off]? = some ys[off] := List.getElem?_eq_getElem (by omega)
    refine ⟨ys[off], hr off v _ hc h2, fun w' => ?_⟩
    rw [hT]
    simp [part, Y.run, h2]
end
end V
end Go.Proofs.Ytlpbgmahegoidaa
