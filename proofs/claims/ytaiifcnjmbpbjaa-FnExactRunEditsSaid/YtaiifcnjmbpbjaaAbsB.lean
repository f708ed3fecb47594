/- What each operation that only reads yields, of abstract values. No condition. -/
import Derived.Test.YtaiifcnjmbpbjaaAbsA
namespace Go.Proofs.Ytaiifcnjmbpbjaa
namespace V
set_option linter.unusedVariables false
set_option linter.unusedSimpArgs false
open Go.RowKit

abbrev iA (n : Int) : AV := .t (.v (.int .i64 n))
abbrev bA (b : Bool) : AV := .t (.v (.bool b))
abbrev sA (s : ByteArray) : AV := .t (.v (.string s))
namespace Rd
section
variable {P : Program} {s : Bs} {O : List (Option Ob)} {σ : Fr} {ty : TypeId} {op : Op}
theorem of1 {x : Operand} {a b : Value} (hx : evA σ x = .t (.v a)) (hb : plain b = true) (h : ∀ σc w, ev σc x = a → Yl P σc op ty w b w) : Rd P s O σ op ty (.t (.v b)) := by
  intro M U w σc S hσ
  have e := evA_rel hσ x
  rw [hx] at e
  exact ⟨b, .t _ _ (.v _ hb), fun w' _ => h σc w' e.int⟩
theorem of2 {x y : Operand} {a a' b : Value} (hx : evA σ x = .t (.v a)) (hy : evA σ y = .t (.v a')) (hb : plain b = true) (h : ∀ σc w, ev σc x = a → ev σc y = a' → Yl P σc op ty w b w) : Rd P s O σ op ty (.t (.v b)) := by
  intro M U w σc S hσ
  have e := evA_rel hσ x
  have e' := evA_rel hσ y
  rw [hx] at e; rw [hy] at e'
  exact ⟨b, .t _ _ (.v _ hb), fun w' _ => h σc w' e.int e'.int⟩
theorem move {x : Operand} : Rd P s O σ (.move x) ty (evA σ x) := fun M U w σc S hσ => ⟨_, evA_rel hσ x, fun w' _ => R.move⟩
theorem assign {x : Operand} : Rd P s O σ (.assign x) ty (evA σ x) := fun M U w σc S hσ => ⟨_, evA_rel hσ x, fun w' _ => R.assign⟩
theorem moveT {x : Operand} {c : Tr} (hx : evA σ x = .t c) : Rd P s O σ (.move x) ty (.t c) := hx ▸ move
theorem moveO {x : Operand} {b j n : Nat} (hx : evA σ x = .os b j n) : Rd P s O σ (.move x) ty (.os b j n) := hx ▸ move
theorem moveP {x : Operand} {b j : Nat} (hx : evA σ x = .op b j) : Rd P s O σ (.move x) ty (.op b j) := hx ▸ move
theorem moveG {x : Operand} {cs : List AV} (hx : evA σ x = .agg cs) : Rd P s O σ (.move x) ty (.agg cs) := hx ▸ move
theorem moveU {x : Operand} {cs : List AV} (hx : evA σ x = .tup cs) : Rd P s O σ (.move x) ty (.tup cs) := hx ▸ move
theorem asnT {x : Operand} {c : Tr} (hx : evA σ x = .t c) : Rd P s O σ (.assign x) ty (.t c) := hx ▸ assign
theorem asnO {x : Operand} {b j n : Nat} (hx : evA σ x = .os b j n) : Rd P s O σ (.assign x) ty (.os b j n) := hx ▸ assign
theorem asnP {x : Operand} {b j : Nat} (hx : evA σ x = .op b j) : Rd P s O σ (.assign x) ty (.op b j) := hx ▸ assign
theorem asnG {x : Operand} {cs : List AV} (hx : evA σ x = .agg cs) : Rd P s O σ (.assign x) ty (.agg cs) := hx ▸ assign
theorem asnU {x : Operand} {cs : List AV} (hx : evA σ x = .tup cs) : Rd P s O σ (.assign x) ty (.tup cs) := hx ▸ assign
theorem pick_t {c x y : Operand} {b : Bool} (hc : evA σ c = bA b) (h : b = true) : Rd P s O σ (.pick c x y) ty (evA σ x) := fun M U w σc S hσ => by
  have e := evA_rel hσ c; rw [hc] at e
  exact ⟨_, evA_rel hσ x, fun w' _ => R.pick_t e.int h⟩
theorem pick_f {c x y : Operand} {b : Bool} (hc : evA σ c = bA b) (h : b = false) : Rd P s O σ (.pick c x y) ty (evA σ y) := fun M U w σc S hσ => by
  have e := evA_rel hσ c; rw [hc] at e
  exact ⟨_, evA_rel hσ y, fun w' _ => R.pick_f e.int h⟩
section
variable {t t' : TypeId} {x y : Operand} {m n : Int}
theorem lss (hx : evA σ x = iA m) (hy : evA σ y = iA n) : Rd P s O σ (.binOp .lss t x y t') ty (bA (decide (m < n))) := of2 hx hy rfl fun _ _ h1 h2 => R.lss h1 h2
theorem leq (hx : evA σ x = iA m) (hy : evA σ y = iA n) : Rd P s O σ (.binOp .leq t x y t') ty (bA (decide (m ≤ n))) := of2 hx hy rfl fun _ _ h1 h2 => R.leq h1 h2
theorem gtr (hx : evA σ x = iA m) (hy : evA σ y = iA n) : Rd P s O σ (.binOp .gtr t x y t') ty (bA (decide (n < m))) := of2 hx hy rfl fun _ _ h1 h2 => R.gtr h1 h2
theorem geq (hx : evA σ x = iA m) (hy : evA σ y = iA n) : Rd P s O σ (.binOp .geq t x y t') ty (bA (decide (n ≤ m))) := of2 hx hy rfl fun _ _ h1 h2 => R.geq h1 h2
theorem eql (hx : evA σ x = iA m) (hy : evA σ y = iA n) : Rd P s O σ (.binOp .eql t x y t') ty (bA (decide (m = n))) := of2 hx hy rfl fun _ _ h1 h2 => R.eql h1 h2
theorem neq (hx : evA σ x = iA m) (hy : evA σ y = iA n) : Rd P s O σ (.binOp .neq t x y t') ty (bA (!decide (m = n))) := of2 hx hy rfl fun _ _ h1 h2 => R.neq h1 h2
theorem add (hx : evA σ x = iA m) (hy : evA σ y = iA n) (hb : -9223372036854775808 ≤ m + n ∧ m + n ≤ 9223372036854775807) : Rd P s O σ (.binOp .add t x y t') ty (iA (m + n)) := of2 hx hy rfl fun _ _ h1 h2 => R.add h1 h2 hb
theorem sub (hx : evA σ x = iA m) (hy : evA σ y = iA n) (hb : -9223372036854775808 ≤ m - n ∧ m - n ≤ 9223372036854775807) : Rd P s O σ (.binOp .sub t x y t') ty (iA (m - n)) := of2 hx hy rfl fun _ _ h1 h2 => R.sub h1 h2 hb
theorem mul (hx : evA σ x = iA m) (hy : evA σ y = iA n) (hb : -9223372036854775808 ≤ m * n ∧ m * n ≤ 9223372036854775807) : Rd P s O σ (.binOp .mul t x y t') ty (iA (m * n)) := of2 hx hy rfl fun _ _ h1 h2 => R.mul h1 h2 hb
theorem quo (hx : evA σ x = iA m) (hy : evA σ y = iA n) (hb : 0 ≤ m ∧ m ≤ 9223372036854775807 ∧ 1 ≤ n) : Rd P s O σ (.binOp .quo t x y t') ty (iA (m / n)) := of2 hx hy rfl fun _ _ h1 h2 => R.quo h1 h2 hb
theorem rem (hx : evA σ x = iA m) (hy : evA σ y = iA n) (hb : 0 ≤ m ∧ 1 ≤ n) : Rd P s O σ (.binOp .rem t x y t') ty (iA (m % n)) := of2 hx hy rfl fun _ _ h1 h2 => R.rem h1 h2 hb
theorem xor {m n : Nat} (hx : evA σ x = iA (m : Int)) (hy : evA σ y = iA (n : Int)) (hm : m < 2 ^ 63) (hn : n < 2 ^ 63) : Rd P s O σ (.binOp .xor t x y t') ty (iA ((m ^^^ n : Nat) : Int)) := of2 hx hy rfl fun _ _ h1 h2 => R.xor h1 h2 hm hn
theorem eqlB {a b : Bool} [T : CBo P t] (hx : evA σ x = bA a) (hy : evA σ y = bA b) : Rd P s O σ (.binOp .eql t x y t') ty (bA (a == b)) := of2 hx hy rfl fun _ _ h1 h2 => R.eqlB h1 h2
theorem neqB {a b : Bool} [T : CBo P t] (hx : evA σ x = bA a) (hy : evA σ y = bA b) : Rd P s O σ (.binOp .neq t x y t') ty (bA (!(a == b))) := of2 hx hy rfl fun _ _ h1 h2 => R.neqB h1 h2
theorem eqlS {a b : ByteArray} (hx : evA σ x = sA a) (hy : evA σ y = sA b) : Rd P s O σ (.binOp .eql t x y t') ty (bA (a.toList == b.toList)) := of2 hx hy rfl fun _ _ h1 h2 => R.eqlS h1 h2
theorem neqS {a b : ByteArray} (hx : evA σ x = sA a) (hy : evA σ y = sA b) : Rd P s O σ (.binOp .neq t x y t') ty (bA (!(a.toList == b.toList))) := of2 hx hy rfl fun _ _ h1 h2 => R.neqS h1 h2
theorem lssS {a b : ByteArray} (hx : evA σ x = sA a) (hy : evA σ y = sA b) : Rd P s O σ (.binOp .lss t x y t') ty (bA (Op.bytesLess a.toList b.toList)) := of2 hx hy rfl fun _ _ h1 h2 => R.lssS h1 h2
theorem addS {a b : ByteArray} (hx : evA σ x = sA a) (hy : evA σ y = sA b) (hb : a.size + b.size ≤ 9223372036854775807) : Rd P s O σ (.binOp .add t x y t') ty (sA (a ++ b)) := of2 hx hy rfl fun _ _ h1 h2 => R.addS h1 h2 hb
theorem unnot {b : Bool} (hx : evA σ x = bA b) : Rd P s O σ (.unOp .not t x) ty (bA (!b)) := of1 hx rfl fun _ _ h => R.unnot h
theorem neg (hx : evA σ x = iA n) (hb : -9223372036854775808 ≤ -n ∧ -n ≤ 9223372036854775807) : Rd P s O σ (.unOp .neg t x) ty (iA (-n)) := of1 hx rfl fun _ _ h => R.neg h hb
theorem max2 (hx : evA σ x = iA m) (hy : evA σ y = iA n) : Rd P s O σ (.call { callee := .builtin .max, args := #[x, y], argTypes := #[t, t'] }) ty (iA (max m n)) := of2 hx hy rfl fun _ _ h1 h2 => R.max2 h1 h2
theorem min2 (hx : evA σ x = iA m) (hy : evA σ y = iA n) : Rd P s O σ (.call { callee := .builtin .min, args := #[x, y], argTypes := #[t, t'] }) ty (iA (min m n)) := of2 hx hy rfl fun _ _ h1 h2 => R.min2 h1 h2
theorem u8 {u : UInt8} [T : CIn P t'] [T' : CU8 P t] (hx : evA σ x = .t (.v (.int .u8 u.toNat))) : Rd P s O σ (.convert t t' x) ty (iA u.toNat) := of1 hx rfl fun _ _ h => R.u8 h
theorem i64i64 [T : CIn P t'] [T' : CIn P t] (hx : evA σ x = iA n) (hn : -9223372036854775808 ≤ n ∧ n ≤ 9223372036854775807) : Rd P s O σ (.convert t t' x) ty (iA n) := of1 hx rfl fun _ _ h => R.i64i64 h hn
theorem lenSt {u : ByteArray} [T : CSt P t] (hx : evA σ x = sA u) : Rd P s O σ (.call { callee := .builtin .len, args := #[x], argTypes := #[t] }) ty (iA (u.size : Int)) := of1 hx rfl fun _ _ h => R.lenSt h
theorem ixStr {u : ByteArray} {i : Int} [T : CSt P t] (hx : evA σ x = sA u) (hy : evA σ y = iA i) (hi : 0 ≤ i ∧ i.toNat < u.size) : Rd P s O σ (.index t x y) ty (.t (.v (.int .u8 ((u[i.toNat]'hi.2).toNat : Nat)))) := of2 hx hy rfl fun _ _ h1 h2 => R.ixStr h1 h2 hi
end
theorem nilCheckP {x : Operand} {cs : List Tr} {j : Nat} (hx : evA σ x = .t (.pt cs j)) : Rd P s O σ (.nilCheck x) ty (.t (.pt cs j)) := fun M U w σc S hσ => by
  have e := evA_rel hσ x; rw [hx] at e
  generalize hy : ev σc x = y at e
  cases e with | t _ _ h => cases h with | pt B off _ _ ys hU hl h1 hc hr => exact ⟨_, .t _ _ (.pt B off _ _ ys hU hl h1 hc hr), fun w' _ => R.nilCheck hy⟩
theorem nilCheckO {x : Operand} {b j : Nat} {ob : Ob} (hx : evA σ x = .op b j) (hO : O[b]? = some (some ob)) : Rd P s O σ (.nilCheck x) ty (.op b j) := fun M U w σc S hσ => by
  have e := evA_rel hσ x; rw [hx] at e
  generalize hy : ev σc x = y at e
  cases e with
  | opd _ _ _ _ hM => exact (S.own _ _ _ hO hM).elim
  | op _ _ L hM => exact ⟨_, .op b j L hM, fun w' _ => R.nilCheck hy⟩
theorem extract {x : Operand} {i : Nat} {vs : List AV} {v : AV} (hx : evA σ x = .tup vs) (hv : vs[i]? = some v) : Rd P s O σ (.extract x i) ty v := fun M U w σc S hσ => by
  have e := evA_rel hσ x; rw [hx] at e
  generalize hy : ev σc x = y at e
  cases e with | tup _ ys hl hr =>
    obtain ⟨hi, _⟩ := List.getElem?_eq_some_iff.1 hv
    have hy' : ys[i]? = some (ys[i]'(by omega)) := List.getElem?_eq_getElem _
    exact ⟨_, hr i v _ hv hy', fun w' _ => R.extract hy (by simp [hy'])⟩
/-! lengths -/
theorem lenT {x : Operand} {t e : TypeId} {n : Nat} {cs : List Tr} [T : CSl P t e] (hx : evA σ x = .t (.sl n cs)) : Rd P s O σ (.call { callee := .builtin .len, args := #[x], argTypes := #[t] }) ty (iA (n : Int)) := fun M U w σc S hσ => by
  have e := evA_rel hσ x; rw [hx] at e
  generalize hy : ev σc x = y at e
  refine ⟨.int .i64 n, .t _ _ (.v _ rfl), fun w' _ => ?_⟩
  cases e with | t _ _ h => cases h <;> exact R.lenSl hy
theorem lenN {x : Operand} {t e : TypeId} [T : CSl P t e] (hx : evA σ x = .t (.v (.slice none 0 0))) : Rd P s O σ (.call { callee := .builtin .len, args := #[x], argTypes := #[t] }) ty (iA 0) := of1 hx rfl fun _ _ h => R.lenSl h
theorem lenO {x : Operand} {t e : TypeId} {b j n : Nat} {ob : Ob} [T : CSl P t e] (hx : evA σ x = .os b j n) (hO : O[b]? = some (some ob)) : Rd P s O σ (.call { callee := .builtin .len, args := #[x], argTypes := #[t] }) ty (iA (n : Int)) := fun M U w σc S hσ => by
  have e := evA_rel hσ x; rw [hx] at e
  generalize hy : ev σc x = y at e
  refine ⟨.int .i64 n, .t _ _ (.v _ rfl), fun w' _ => ?_⟩
  cases e with
  | osd _ _ _ _ _ hM => exact (S.own _ _ _ hO hM).elim
  | _ => exact R.lenSl hy
/-! addresses -/
theorem ixT {t e : TypeId} {k n : Nat} {x y : Operand} {cs : List Tr} {i : Int} [T : CSl P t e] [Z : CS P e k] (hx : evA σ x = .t (.sl n cs)) (hy : evA σ y = iA i) (hi : 0 ≤ i ∧ i < n) : Rd P s O σ (.indexAddr t x y) ty (.t (.pt cs (i.toNat * k))) := fun M U w σc S hσ => by
  have e := evA_rel hσ x; rw [hx] at e
  have e' := evA_rel hσ y; rw [hy] at e'
  have hy' := e'.int
  generalize hx' : ev σc x = u at e
  cases e with | t _ _ h =>
    cases h with
    | nil => simp at hi; omega
    | sl0 => simp at hi; omega
    | sl B off _ cap _ ys hU hl h1 hc hr hn =>
      refine ⟨.pointer (some ⟨B, off + i.toNat * k, none⟩), .t _ _ (.pt B off _ _ ys hU hl h1 hc hr), fun w' _ => Yl.mk fun d pos after g => ?_⟩
      have : Addr.add ⟨B, off, none⟩ (i.toNat * k) = ⟨B, off + i.toNat * k, none⟩ := by unfold Addr.add; split <;> simp_all
      simp [execOp, hx', hy', Instr.indexAt, asIntOf, T.run, Z.run, hi, this]
theorem ixTN {t e : TypeId} {k n : Nat} {x y : Operand} {cs : List Tr} {i : Nat} [T : CSl P t e] [Z : CS P e k] (hx : evA σ x = .t (.sl n cs)) (hy : evA σ y = iA (i : Int)) (hi : i < n) : Rd P s O σ (.indexAddr t x y) ty (.t (.pt cs (i * k))) := by
  exact ixT (P := P) (s := s) (O := O) (ty := ty) (t := t) (i := (i : Int)) hx hy (by omega)
theorem ixO {t e : TypeId} {k n : Nat} {x y : Operand} {b j : Nat} {i : Int} {ob : Ob} [T : CSl P t e] [Z : CS P e k] (hx : evA σ x = .os b j n) (hO : O[b]? = some (some ob)) (hy : evA σ y = iA i) (hi : 0 ≤ i ∧ i < n) : Rd P s O σ (.indexAddr t x y) ty (.op b (j + i.toNat * k)) := fun M U w σc S hσ => by
  have e := evA_rel hσ x; rw [hx] at e
  have e' := evA_rel hσ y; rw [hy] at e'
  have hy' := e'.int
  generalize hx' : ev σc x = u at e
  cases e with
  | osn => simp at hi; omega
  | osd _ _ _ _ _ hM => exact (S.own _ _ _ hO hM).elim
  | osz => simp at hi; omega
  | os _ _ _ cap L hM hcap hn hx1 =>
    refine ⟨.pointer (some ⟨L.blk, L.off + (j + i.toNat * k), none⟩), .op b _ L hM, fun w' _ => Yl.mk fun d pos after g => ?_⟩
    have : Addr.add ⟨L.blk, L.off + j, none⟩ (i.toNat * k) = ⟨L.blk, L.off + (j + i.toNat * k), none⟩ := by unfold Addr.add; split <;> simp_all <;> omega
    simp [execOp, hx', hy', Instr.indexAt, asIntOf, T.run, Z.run, hi, this]
theorem ixON {t e : TypeId} {k n : Nat} {x y : Operand} {b j : Nat} {i : Nat} {ob : Ob} [T : CSl P t e] [Z : CS P e k] (hx : evA σ x = .os b j n) (hO : O[b]? = some (some ob)) (hy : evA σ y = iA (i : Int)) (hi : i < n) : Rd P s O σ (.indexAddr t x y) ty (.op b (j + i * k)) := by
  exact ixO (P := P) (s := s) (O := O) (ty := ty) (t := t) (i := (i : Int)) hx hO hy (by omega)
theorem addr_add (B o n : Nat) : Addr.add ⟨B, o, none⟩ n = ⟨B, o + n, none⟩ := by unfold Addr.add; split <;> simp_all
/-- An element of an array variable of the call's own. -/
theorem ixA {t e : TypeId} {k n : Nat} {x y : Operand} {b j : Nat} {i : Int} {ob : Ob} [T : CAr P t n e] [Z : CS P e k] (hx : evA σ x = .op b j) (hO : O[b]? = some (some ob)) (hy : evA σ y = iA i) (hi : 0 ≤ i ∧ i < n) : Rd P s O σ (.indexAddr t x y) ty (.op b (j + i.toNat * k)) := fun M U w σc S hσ => by
  have e := evA_rel hσ x; rw [hx] at e
  have e' := evA_rel hσ y; rw [hy] at e'
  have hy' := e'.int
  generalize hx' : ev σc x = u at e
  cases e with
  | opd _ _ _ _ hM => exact (S.own _ _ _ hO hM).elim
  | op _ _ L hM =>
    refine ⟨.pointer (some ⟨L.blk, L.off + (j + i.toNat * k), none⟩), .op b _ L hM, fun w' _ => Yl.mk fun d pos after g => ?_⟩
    have : Addr.add ⟨L.blk, L.off + j, none⟩ (i.toNat * k) = ⟨L.blk, L.off + (j + i.toNat * k), none⟩ := by rw [addr_add, Nat.add_assoc]
    simp [execOp, hx', hy', Instr.indexAt, asIntOf, T.run, Z.run, hi, this, Instr.sureAddr]
theorem fieldT {t : TypeId} {x : Operand} {f off j : Nat} {cs : List Tr} [T : CF P t f off] (hx : evA σ x = .t (.pt cs j)) : Rd P s O σ (.fieldAddr t x f) ty (.t (.pt cs (j + off))) := fun M U w σc S hσ => by
  have e := evA_rel hσ x; rw [hx] at e
  generalize hx' : ev σc x = u at e
  cases e with | t _ _ h => cases h with | pt B o _ _ ys hU hl h1 hc hr =>
    refine ⟨.pointer (some ⟨B, o + (j + off), none⟩), .t _ _ (.pt B o _ _ ys hU hl h1 hc hr), fun w' _ => Yl.mk fun d pos after g => ?_⟩
    simp [execOp, hx', T.run, addr_add, Nat.add_assoc]
theorem fieldO {t : TypeId} {x : Operand} {f off b j : Nat} {ob : Ob} [T : CF P t f off] (hx : evA σ x = .op b j) (hO : O[b]? = some (some ob)) : Rd P s O σ (.fieldAddr t x f) ty (.op b (j + off)) := fun M U w σc S hσ => by
  have e := evA_rel hσ x; rw [hx] at e
  generalize hx' : ev σc x = u at e
  cases e with
  | opd _ _ _ _ hM => exact (S.own _ _ _ hO hM).elim
  | op _ _ L hM =>
    refine ⟨.pointer (some ⟨L.blk, L.off + (j + off), none⟩), .op b _ L hM, fun w' _ => Yl.mk fun d pos after g => ?_⟩
    simp [execOp, hx', T.run, addr_add, Nat.add_assoc]
/-! loads -/
theorem load1 {w : World} {σc : Nat → Value} {t : TypeId} {x : Operand} {B o : Nat} {y : Value} [T : CA P t false] (hx : ev σc x = .pointer (some ⟨B, o, none⟩)) (hc : w.cell? ⟨B, o, none⟩ = some y) : Yl P σc (.load t x) ty w y w := Yl.mk fun d pos after g => by
  simp [execOp, hx, Instr.loadAt, Instr.sureAddr, loadVar, T.run, hc]
theorem loadN {w : World} {σc : Nat → Value} {t : TypeId} {x : Operand} {B o m : Nat} {ys : List Value} [T : CA P t true] [Z : CS P t m] (hx : ev σc x = .pointer (some ⟨B, o, none⟩)) (hm : ys.length = m) (hc : ∀ (j : Nat) y, ys[j]? = some y → w.cell? ⟨B, o + j, none⟩ = some y) : Yl P σc (.load t x) ty w (.agg ys.toArray) w := Yl.mk fun d pos after g => by
  have hl : (loadCells ⟨B, o, none⟩ ys.length).run P w = .ok ys.toArray w :=
    run_loadCells_list (P := P) w _ ys (fun j u hu => by rw [addr_add]; exact hc j u hu)
  rw [hm] at hl
  simp [execOp, hx, Instr.loadAt, Instr.sureAddr, loadVar, T.run, Z.run, hl]
theorem loadT {t : TypeId} {x : Operand} {j : Nat} {cs : List Tr} {c : Tr} [T : CA P t false] (hx : evA σ x = .t (.pt cs j)) (hv : cs[j]? = some c) : Rd P s O σ (.load t x) ty (.t c) := fun M U w σc S hσ => by
  have e := evA_rel hσ x; rw [hx] at e
  generalize hx' : ev σc x = u at e
  cases e with | t _ _ h => cases h with | pt B o _ _ ys hU hl h1 hc hr =>
    obtain ⟨hi, _⟩ := List.getElem?_eq_some_iff.1 hv
    have hy : ys[j]? = some (ys[j]'(by omega)) := List.getElem?_eq_getElem _
    exact ⟨_, .t _ _ (hr j c _ hv hy), fun w' hw => load1 hx' (by rw [cell_eq (hw.fz S hU)]; exact hc j _ hy)⟩
theorem loadTR {t : TypeId} {x : Operand} {j m : Nat} {cs ds : List Tr} [T : CA P t true] [Z : CS P t m] (hx : evA σ x = .t (.pt cs j)) (hd : ds.length = m) (hv : ∀ i, i < m → cs[j + i]? = ds[i]?) : Rd P s O σ (.load t x) ty (.agg (ds.map .t)) := fun M U w σc S hσ => by
  have e := evA_rel hσ x; rw [hx] at e
  generalize hx' : ev σc x = u at e
  cases e with | t _ _ h => cases h with | pt B o _ _ ys hU hl h1 hc hr =>
    by_cases hm : m = 0
    · subst hm
      have : ds = [] := List.eq_nil_of_length_eq_zero hd
      subst this
      exact ⟨.agg #[], .agg [] [] rfl (fun y hy => by simp at hy) (fun j c y h => by simp at h), fun w' _ => loadN (ys := []) hx' rfl (fun j y h => by simp at h)⟩
    have hlen : j + m ≤ ys.length := by
      have h2 := hv (m - 1) (by omega)
      have h3 : (ds[m - 1]?).isSome = true := by rw [List.getElem?_eq_getElem (by omega)]; rfl
      rw [← h2] at h3
      rcases Nat.lt_or_ge (j + (m - 1)) cs.length with h4 | h4
      · omega
      · rw [List.getElem?_eq_none h4] at h3; cases h3
    have hyl : ((ys.drop j).take m).length = m := by simp; omega
    refine ⟨.agg ((ys.drop j).take m).toArray, .agg _ _ (by rw [List.length_map, hyl, hd]) (fun y hy => h1 y (List.mem_of_mem_drop (List.mem_of_mem_take hy))) ?_, fun w' hw => loadN hx' hyl ?_⟩
    · intro i c y hc1 hy1
      rw [List.getElem?_take] at hy1
      split at hy1
      · rename_i hi
        rw [List.getElem?_drop] at hy1
        rw [List.getElem?_map, ← hv i hi] at hc1
        cases hq : cs[j + i]? with
        | none => rw [hq] at hc1; simp at hc1
        | some q => rw [hq] at hc1; simp at hc1; subst hc1; exact .t _ _ (hr _ _ _ hq hy1)
      · cases hy1
    · intro i y hy1
      rw [List.getElem?_take] at hy1
      split at hy1
      · rw [List.getElem?_drop] at hy1
        rw [cell_eq (hw.fz S hU), Nat.add_assoc]
        exact hc _ _ hy1
      · cases hy1
theorem loadO {t : TypeId} {x : Operand} {b j : Nat} {ob : Ob} {c : AV} [T : CA P t false] (hx : evA σ x = .op b j) (hO : O[b]? = some (some ob)) (hv : ob.cells[j]? = some c) : Rd P s O σ (.load t x) ty c := fun M U w σc S hσ => by
  have e := evA_rel hσ x; rw [hx] at e
  generalize hx' : ev σc x = u at e
  cases e with
  | opd _ _ _ _ hM => exact (S.own _ _ _ hO hM).elim
  | op _ _ L hM =>
    obtain ⟨_, _, cur, hcur, _, hr⟩ := S.own b ob _ hO hM
    obtain ⟨y, hy, _, hR⟩ := hr j c hv
    refine ⟨y, hR, fun w' hw => load1 hx' ?_⟩
    rw [cell_eq (hw.own S hM hO), cell_of_row w _ _ cur _ _ hcur]; exact hy
theorem loadOR {t : TypeId} {x : Operand} {b j m : Nat} {ob : Ob} {ds : List AV} [T : CA P t true] [Z : CS P t m] (hx : evA σ x = .op b j) (hO : O[b]? = some (some ob)) (hd : ds.length = m) (hv : ∀ i, i < m → ob.cells[j + i]? = ds[i]?) : Rd P s O σ (.load t x) ty (.agg ds) := fun M U w σc S hσ => by
  have e := evA_rel hσ x; rw [hx] at e
  generalize hx' : ev σc x = u at e
  cases e with
  | opd _ _ _ _ hM => exact (S.own _ _ _ hO hM).elim
  | op _ _ L hM =>
    obtain ⟨_, hle, cur, hcur, hsz, hr⟩ := S.own b ob _ hO hM
    by_cases hm : m = 0
    · subst hm
      have : ds = [] := List.eq_nil_of_length_eq_zero hd
      subst this
      exact ⟨.agg #[], .agg [] [] rfl (fun y hy => by simp at hy) (fun j c y h => by simp at h), fun w' _ => loadN (ys := []) hx' rfl (fun j y h => by simp at h)⟩
    have hlen : j + m ≤ ob.cells.length := by
      have h2 := hv (m - 1) (by omega)
      have h3 : (ds[m - 1]?).isSome = true := by rw [List.getElem?_eq_getElem (by omega)]; rfl
      rw [← h2] at h3
      rcases Nat.lt_or_ge (j + (m - 1)) ob.cells.length with h4 | h4
      · omega
      · rw [List.getElem?_eq_none h4] at h3; cases h3
    have hyl : ((cur.toList.drop (L.off + j)).take m).length = m := by simp; omega
    have hget : ∀ i y, ((cur.toList.drop (L.off + j)).take m)[i]? = some y → i < m ∧ cur[L.off + (j + i)]? = some y := by
      intro i y h
      rw [List.getElem?_take] at h
      split at h
      · rename_i hi; rw [List.getElem?_drop] at h; exact ⟨hi, by rw [← Nat.add_assoc]; simpa using h⟩
      · cases h
    refine ⟨.agg ((cur.toList.drop (L.off + j)).take m).toArray, .agg _ _ (by rw [hyl, hd]) ?_ ?_, fun w' hw => loadN hx' hyl ?_⟩
    · intro y hy
      obtain ⟨i, hi⟩ := mem_get hy
      obtain ⟨h3, h4⟩ := hget i y hi
      obtain ⟨c, hc⟩ : ∃ c, ob.cells[j + i]? = some c := ⟨_, List.getElem?_eq_getElem (by omega)⟩
      obtain ⟨y', h5, h6, _⟩ := hr _ _ hc
      rw [h4] at h5; cases h5; exact h6
    · intro i c y hc1 hy1
      obtain ⟨h3, h4⟩ := hget i y hy1
      rw [← hv i h3] at hc1
      obtain ⟨y', h5, _, h6⟩ := hr _ _ hc1
      rw [h4] at h5; cases h5; exact h6
    · intro i y hy1
      obtain ⟨h3, h4⟩ := hget i y hy1
      rw [cell_eq (hw.own S hM hO), cell_of_row w _ _ cur _ _ hcur, Nat.add_assoc]; exact h4
theorem tr_get {cs : List Tr} {ty : TypeId} {k j : Nat} {c : Tr} (h : cs[j]? = some c) : (Ob.cells ⟨.tr cs, ty, k⟩)[j]? = some (.t c) := by
  simp [Ob.cells, Cs.list, h]
theorem loadOT {t : TypeId} {x : Operand} {b j k : Nat} {cs : List Tr} {T' : TypeId} {c : Tr} [T : CA P t false] (hx : evA σ x = .op b j) (hO : O[b]? = some (some ⟨.tr cs, T', k⟩)) (hv : cs[j]? = some c) : Rd P s O σ (.load t x) ty (.t c) :=
  loadO hx hO (tr_get hv)
theorem loadOTR {t : TypeId} {x : Operand} {b j k m : Nat} {cs ds : List Tr} {T' : TypeId} [T : CA P t true] [Z : CS P t m] (hx : evA σ x = .op b j) (hO : O[b]? = some (some ⟨.tr cs, T', k⟩)) (hd : ds.length = m) (hv : ∀ i, i < m → cs[j + i]? = ds[i]?) : Rd P s O σ (.load t x) ty (.agg (ds.map .t)) :=
  loadOR hx hO (by simpa using hd) (fun i hi => by simp [Ob.cells, Cs.list, hv i hi])
end
end Rd
end V
end Go.Proofs.Ytaiifcnjmbpbjaa
