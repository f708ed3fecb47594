/- Small steps at the ends of pieces of code, and the ends of calls. No condition. -/
import Derived.Test.YtaiifcnjmbpbjaaLibC
import Derived.Test.YtaiifcnjmbpbjaaTypes
namespace Go.Proofs.Ytaiifcnjmbpbjaa
namespace V
open Flat (enc)
set_option linter.unusedVariables false
set_option linter.unusedSimpArgs false
open Go.RowKit
section
variable {P : Program} {n : Nat} {Q : Post} {σ : Nat → Value} {w0 : Base} {w wi : World} {K : (Nat → Value) → World → Prop} {id i : Nat}
variable {ops : Array Oper} {rest : List Oper} {d : Nat} {ty : TypeId} {pos : String} {after : Array Edge} {Sn : List Snap} {O : List (Nat × Obj)}
theorem LW.kBin {x y : Operand} {t t' : TypeId} {o : BinOp} {dd : Option Nat} (h : LW P n ops (⟨dd, .binOp o t x y t', ty, pos, after, none⟩ :: rest) Q σ w) : LW P n ops (⟨dd, .binOp o t x y t', ty, pos, after, none⟩ :: rest) Q σ w := h
theorem LW.kBui {c : Builtin} {xs : Array Operand} {ats : Array TypeId} {dd : Option Nat} (h : LW P n ops (⟨dd, .call { callee := .builtin c, args := xs, argTypes := ats }, ty, pos, after, none⟩ :: rest) Q σ w) : LW P n ops (⟨dd, .call { callee := .builtin c, args := xs, argTypes := ats }, ty, pos, after, none⟩ :: rest) Q σ w := h
theorem LW.kCal {f : FuncId} {xs : Array Operand} {ats : Array TypeId} {dd : Option Nat} (h : LW P n ops (⟨dd, .call { callee := .value (.func f), args := xs, argTypes := ats }, ty, pos, after, none⟩ :: rest) Q σ w) : LW P n ops (⟨dd, .call { callee := .value (.func f), args := xs, argTypes := ats }, ty, pos, after, none⟩ :: rest) Q σ w := h
theorem LW.kLoad {x : Operand} {t : TypeId} {dd : Option Nat} (h : LW P n ops (⟨dd, .load t x, ty, pos, after, none⟩ :: rest) Q σ w) : LW P n ops (⟨dd, .load t x, ty, pos, after, none⟩ :: rest) Q σ w := h
theorem LW.kStore {x y : Operand} {t : TypeId} {dd : Option Nat} (h : LW P n ops (⟨dd, .store t x y, ty, pos, after, none⟩ :: rest) Q σ w) : LW P n ops (⟨dd, .store t x y, ty, pos, after, none⟩ :: rest) Q σ w := h
theorem LW.kIx {x y : Operand} {t : TypeId} {dd : Option Nat} (h : LW P n ops (⟨dd, .indexAddr t x y, ty, pos, after, none⟩ :: rest) Q σ w) : LW P n ops (⟨dd, .indexAddr t x y, ty, pos, after, none⟩ :: rest) Q σ w := h
theorem LW.kOp {o : Oper} (h : LW P n ops (o :: rest) Q σ w) : LW P n ops (o :: rest) Q σ w := h
theorem LW.kGu {o : Op} {q : Nat × Bool} {dd : Option Nat} (h : LW P n ops (⟨dd, o, ty, pos, after, some q⟩ :: rest) Q σ w) : LW P n ops (⟨dd, o, ty, pos, after, some q⟩ :: rest) Q σ w := h
theorem LW.boxAgg (S : Now w0 Sn O w) {t : TypeId} {x : Operand} {cs : Array Value} (hd : Nat.blt d n = true) (hx : ev σ x = .agg cs)
    (k : ∀ b w', Now w0 Sn ((b, .cells cs t) :: O) w' → LW P n ops rest Q (upd σ d (.pointer (some ⟨b, 0, none⟩))) w') :
    LW P n ops (⟨some d, .box t x, ty, pos, after, none⟩ :: rest) Q σ w := LW.box S hd hx rfl k
theorem LW.store1I (S : Now w0 Sn O w) (i : Nat) {t : TypeId} {x y : Operand} {b j : Nat} {cs : Array Value} {T' : TypeId} {q : IntKind} {m : Int} [Z : CS P t 1] (hx : ev σ x = .pointer (some ⟨b, j, none⟩)) (hy : ev σ y = .int q m)
    (hO : O[i]? = some (b, .cells cs T' (0, 0))) (hj : j < cs.size)
    (k : ∀ w', Now w0 Sn (O.set i (b, .cells (cs.setIfInBounds j (.int q m)) T' (0, 0))) w' → LW P n ops rest Q σ w') :
    LW P n ops (⟨none, .store t x y, ty, pos, after, none⟩ :: rest) Q σ w := LW.store1 S i hx hy rfl hO hj k
theorem LW.store1S (S : Now w0 Sn O w) (i : Nat) {t : TypeId} {x y : Operand} {b j : Nat} {cs : Array Value} {T' : TypeId} {a : Option Addr} {l c : Nat} [Z : CS P t 1] (hx : ev σ x = .pointer (some ⟨b, j, none⟩)) (hy : ev σ y = .slice a l c)
    (hO : O[i]? = some (b, .cells cs T' (0, 0))) (hj : j < cs.size)
    (k : ∀ w', Now w0 Sn (O.set i (b, .cells (cs.setIfInBounds j (.slice a l c)) T' (0, 0))) w' → LW P n ops rest Q σ w') :
    LW P n ops (⟨none, .store t x y, ty, pos, after, none⟩ :: rest) Q σ w := LW.store1 S i hx hy rfl hO hj k
theorem LW.store1B (S : Now w0 Sn O w) (i : Nat) {t : TypeId} {x y : Operand} {b j : Nat} {cs : Array Value} {T' : TypeId} {bb : Bool} [Z : CS P t 1] (hx : ev σ x = .pointer (some ⟨b, j, none⟩)) (hy : ev σ y = .bool bb)
    (hO : O[i]? = some (b, .cells cs T' (0, 0))) (hj : j < cs.size)
    (k : ∀ w', Now w0 Sn (O.set i (b, .cells (cs.setIfInBounds j (.bool bb)) T' (0, 0))) w' → LW P n ops rest Q σ w') :
    LW P n ops (⟨none, .store t x y, ty, pos, after, none⟩ :: rest) Q σ w := LW.store1 S i hx hy rfl hO hj k
theorem LW.store1T (S : Now w0 Sn O w) (i : Nat) {t : TypeId} {x y : Operand} {b j : Nat} {cs : Array Value} {T' : TypeId} {bb : ByteArray} [Z : CS P t 1] (hx : ev σ x = .pointer (some ⟨b, j, none⟩)) (hy : ev σ y = .string bb)
    (hO : O[i]? = some (b, .cells cs T' (0, 0))) (hj : j < cs.size)
    (k : ∀ w', Now w0 Sn (O.set i (b, .cells (cs.setIfInBounds j (.string bb)) T' (0, 0))) w' → LW P n ops rest Q σ w') :
    LW P n ops (⟨none, .store t x y, ty, pos, after, none⟩ :: rest) Q σ w := LW.store1 S i hx hy rfl hO hj k
theorem LW.storeRowL (S : Now w0 Sn O w) (i : Nat) {t : TypeId} {x y : Operand} {b : Nat} {cs : Array Value} {vs : List Value} {T' : TypeId} {m : Nat} [Z : CS P t m] (hx : ev σ x = .pointer (some ⟨b, 0, none⟩)) (hy : ev σ y = .agg vs.toArray)
    (hO : O[i]? = some (b, .cells cs T' (0, 0))) (hm : vs.length = m) (hc : cs.size = m) (hv : vs.all (·.oneCell') = true)
    (k : ∀ w', Now w0 Sn (O.set i (b, .cells vs.toArray T' (0, 0))) w' → LW P n ops rest Q σ w') :
    LW P n ops (⟨none, .store t x y, ty, pos, after, none⟩ :: rest) Q σ w :=
  LW.storeRow S i hx hy hO (by simpa using hm) hc (by simpa using hv) k
/-- A call whose value is known and that leaves what was there. -/
theorem LW.callV (S : Now w0 Sn O w) {f : FuncId} {xs : List Operand} {ats : Array TypeId} {args : List Value} {v : Value} (hd : Nat.blt d n = true)
    (hr : ∀ args w, (callFunc f args).run P w = .ok (.enter f args) w) (ha : xs.map (ev σ) = args)
    (hc : Calls P f args.toArray w fun e w' => e = .returned v ∧ Below w.heap.size w w')
    (k : ∀ w', Now w0 Sn O w' → LW P n ops rest Q (upd σ d v) w') :
    LW P n ops (⟨some d, .call { callee := .value (.func f), args := xs.toArray, argTypes := ats }, ty, pos, after, none⟩ :: rest) Q σ w := by
  refine LW.call hd (f := f) (args := args.toArray) (run_fcall hr ha) hc ?_
  rintro e w' ⟨rfl, hb⟩
  exact ⟨v, rfl, k w' (S.below hb)⟩
/-- A call by a contract of one's own. -/
theorem LW.callR (S : Now w0 Sn O w) {f : FuncId} {xs : List Operand} {ats : Array TypeId} {args : List Value} {R : Value → World → Prop} (hd : Nat.blt d n = true)
    (hr : ∀ args w, (callFunc f args).run P w = .ok (.enter f args) w) (ha : xs.map (ev σ) = args)
    (hc : Calls P f args.toArray w fun e w' => ∃ v, e = .returned v ∧ R v w')
    (k : ∀ v w', R v w' → LW P n ops rest Q (upd σ d v) w') :
    LW P n ops (⟨some d, .call { callee := .value (.func f), args := xs.toArray, argTypes := ats }, ty, pos, after, none⟩ :: rest) Q σ w := by
  refine LW.call hd (f := f) (args := args.toArray) (run_fcall hr ha) hc ?_
  rintro e w' ⟨v, rfl, hR⟩
  exact ⟨v, rfl, k v w' hR⟩
/-- A call whose value is known, in a region that draws. -/
theorem QW.callV {K' : (Nat → Value) → Prop} {f : FuncId} {xs : List Operand} {ats : Array TypeId} {args : List Value} {v : Value} (hd : Nat.blt d n = true)
    (hr : ∀ args w, (callFunc f args).run P w = .ok (.enter f args) w) (ha : xs.map (ev σ) = args)
    (hc : ∀ w, Now w0 Sn O w → Calls P f args.toArray w fun e w' => e = .returned v ∧ Below w.heap.size w w')
    (k : QW P n ops (Now w0 Sn O) rest K' (upd σ d v)) :
    QW P n ops (Now w0 Sn O) (⟨some d, .call { callee := .value (.func f), args := xs.toArray, argTypes := ats }, ty, pos, after, none⟩ :: rest) K' σ :=
  QW.call hd hr ha (fun w S => (hc w S).mono fun e w' ⟨h1, h2⟩ => ⟨h1, S.below h2⟩) k
/-- The function ends with one value. -/
theorem Fin.val {fn : Func} {e : Exit} {t : Nat} {v v' : Value} (h : fn.results = #[.tmp t]) (he : e = .ret ∨ e = .normal) (S : Now ⟨wi, []⟩ Sn O w)
    (hv : σ t = v') (hb : v' = v) : Fin P fn (fun e w' => e = .returned v ∧ Below wi.heap.size wi w') e σ w :=
  Fin.ret1 h he ⟨by rw [hv, hb], S.base.below⟩
theorem Fin.bool {fn : Func} {e : Exit} {t : Nat} {b b' : Bool} (h : fn.results = #[.tmp t]) (he : e = .ret ∨ e = .normal) (S : Now ⟨wi, []⟩ Sn O w)
    (hv : σ t = .bool b') (hb : b' = b) : Fin P fn (fun e w' => e = .returned (.bool b) ∧ Below wi.heap.size wi w') e σ w :=
  Fin.val h he S hv (by rw [hb])
theorem Fin.int {fn : Func} {e : Exit} {t : Nat} {b b' : Int} (h : fn.results = #[.tmp t]) (he : e = .ret ∨ e = .normal) (S : Now ⟨wi, []⟩ Sn O w)
    (hv : σ t = .int .i64 b') (hb : b' = b) : Fin P fn (fun e w' => e = .returned (.int .i64 b) ∧ Below wi.heap.size wi w') e σ w :=
  Fin.val h he S hv (by rw [hb])
end
end V
end Go.Proofs.Ytaiifcnjmbpbjaa
