/- What the rows need, part 1. No condition. -/
import Derived.Test.YtkjnnifnmoekjaaDoorRows
import Derived.WalkKit
import Derived.ProofKit
import Derived.Deep.Quiet
import Derived.StillTail
import Derived.Deep.AppendSrc
import Derived.Deep.Upon
import Derived.Great.FillDense
import Derived.Lib.LaidTab
import Derived.Lib.ItoaNum
namespace Go.Proofs.YtkjnnifnmoekjaaDoor
namespace V
set_option linter.unusedVariables false
set_option linter.unusedSimpArgs false
open Go.RowKit
theorem nbeq {a b : Nat} (h : a ≠ b) : Nat.beq a b = false := by
  cases e : Nat.beq a b with
  | false => rfl
  | true => exact absurd (Nat.eq_of_beq_eq_true e) h
/-- A slot is written. -/
def upd (σ : Nat → Value) (d : Nat) (v : Value) : Nat → Value := fun t => bif Nat.beq t d then v else σ t
def put (σ : Nat → Value) (d : Option Nat) (v : Value) : Nat → Value := match d with | some d => upd σ d v | none => σ
def ini (args : List Value) : Nat → Value := fun t => args.getD t undef
def ev (σ : Nat → Value) : Operand → Value
  | .tmp t => σ t
  | .const v => v
  | .global g => .pointer (some ⟨g, 0, none⟩)
  | .func f => .func (.func f) #[] #[]
structure Rp (n : Nat) (a : Act) (σ : Nat → Value) : Prop where
  size : a.tmps.size = n
  defers : a.defers = []
  get : ∀ t, a.tmps.getD t undef = σ t
theorem Rp.eval {n : Nat} {a : Act} {σ : Nat → Value} (h : Rp n a σ) : a.eval = ev σ := by
  funext x; cases x with
  | tmp t => exact h.get t
  | _ => rfl
theorem Rp.put {n : Nat} {a : Act} {σ : Nat → Value} (h : Rp n a σ) (d : Nat) (v : Value) (hd : Nat.blt d n = true) : Rp n (a.put (some d) v) (upd σ d v) := by
  have hd' : d < n := Nat.le_of_ble_eq_true hd
  refine ⟨by simp [Act.put, h.size], h.defers, fun t => ?_⟩
  have := h.get t
  simp only [Act.put, upd]
  by_cases e : t = d
  · subst e
    simp [h.size, hd']
  · have e' : Nat.beq t d = false := nbeq e
    rw [e', cond_false, ← this]
    simp [Array.getElem?_setIfInBounds_ne (Ne.symm e)]
abbrev Post := Exit → (Nat → Value) → World → Prop
def lift (n : Nat) (Q : Post) : Exit → Act → World → Prop := fun e a w => ∃ σ, Rp n a σ ∧ Q e σ w
structure CW (P : Program) (n : Nat) (c : Code) (Q : Post) (σ : Nat → Value) (w : World) : Prop where h : ∀ a, Rp n a σ → c.wp P (lift n Q) a w
structure LW (P : Program) (n : Nat) (ops : Array Oper) (l : List Oper) (Q : Post) (σ : Nat → Value) (w : World) : Prop where h : ∀ a, Rp n a σ → wpList P ops (lift n Q) l a w
def thn (K : (Nat → Value) → World → Prop) (Q : Post) : Post
  | .normal, σ, w => K σ w
  | e, σ, w => Q e σ w
def inB (id : Nat) (Q : Post) : Post
  | .exit id', σ, w => bif Nat.beq id' id then Q .normal σ w else Q (.exit id') σ w
  | e, σ, w => Q e σ w
section
variable {P : Program} {n : Nat} {Q : Post} {σ : Nat → Value} {w : World}
theorem CW.mono {c : Code} {Q' : Post} (h : CW P n c Q σ w) (hq : ∀ e σ w, Q e σ w → Q' e σ w) : CW P n c Q' σ w :=
  ⟨fun a ha => Code.wp_mono (fun _ _ _ ⟨s, hs, q⟩ => ⟨s, hs, hq _ _ _ q⟩) (h.h a ha)⟩
theorem CW.skip (h : Q .normal σ w) : CW P n .skip Q σ w := ⟨fun _ ha => wp_skip ⟨σ, ha, h⟩⟩
theorem CW.ret (h : Q .ret σ w) : CW P n .ret Q σ w := ⟨fun _ ha => wp_ret ⟨σ, ha, h⟩⟩
theorem CW.exit {id : Nat} (h : Q (.exit id) σ w) : CW P n (.exit id) Q σ w := ⟨fun _ ha => wp_exit ⟨σ, ha, h⟩⟩
theorem CW.seq {x y : Code} (h : CW P n x (thn (CW P n y Q) Q) σ w) : CW P n (.seq x y) Q σ w := by
  constructor
  intro a ha
  refine wp_seq (Code.wp_mono ?_ (h.h a ha))
  intro e a w ⟨s, hs, q⟩
  cases e <;> first | exact CW.h q a hs | exact ⟨s, hs, q⟩
theorem CW.block {id : Nat} {c : Code} (h : CW P n c (inB id Q) σ w) : CW P n (.block id c) Q σ w := by
  constructor
  intro a ha
  refine wp_block (Code.wp_mono ?_ (h.h a ha))
  intro e a w ⟨s, hs, q⟩
  cases e with
  | exit id' =>
    simp only [inB] at q
    by_cases e : id' = id
    · subst e; simp at q; simp only [Exit.inBlock, if_true]; exact ⟨s, hs, q⟩
    · have e' : Nat.beq id' id = false := nbeq e
      rw [e', cond_false] at q
      simp only [Exit.inBlock, e, if_false]; exact ⟨s, hs, q⟩
  | _ => exact ⟨s, hs, q⟩
theorem CW.cond {c : Operand} {x y : Code} {t : Bool} (hc : ev σ c = .bool t) (ht : t = true → CW P n x Q σ w) (hf : t = false → CW P n y Q σ w) : CW P n (.cond c x y) Q σ w :=
  ⟨fun a ha => wp_cond_split (by rw [ha.eval]; exact hc) (fun h => (ht h).h a ha) (fun h => (hf h).h a ha)⟩
theorem CW.cond_true {c : Operand} {x y : Code} {t : Bool} (hc : ev σ c = .bool t) (h : t = true) (ht : CW P n x Q σ w) : CW P n (.cond c x y) Q σ w :=
  CW.cond hc (fun _ => ht) (fun h' => by rw [h] at h'; cases h')
theorem CW.cond_false {c : Operand} {x y : Code} {t : Bool} (hc : ev σ c = .bool t) (h : t = false) (ht : CW P n y Q σ w) : CW P n (.cond c x y) Q σ w :=
  CW.cond hc (fun h' => by rw [h] at h'; cases h') (fun _ => ht)
theorem least {p : Nat → Prop} (h : ∃ m, p m) : ∃ m, p m ∧ ∀ k, p k → m ≤ k := by
  obtain ⟨m, hm⟩ := h
  induction m using Nat.strongRecOn with
  | _ m ih =>
    by_cases hx : ∃ k, k < m ∧ p k
    · obtain ⟨k, hk, hp⟩ := hx; exact ih k hk hp
    · exact ⟨m, hm, fun k hk => by
        rcases Nat.lt_or_ge k m with h | h
        · exact absurd ⟨k, h, hk⟩ hx
        · exact h⟩
open Classical in
/-- A loop: what holds at every round's head is told of a ghost 'x'; the measure is the ghost's. -/
theorem CW.loop {α : Type} {c : Code} (I : α → (Nat → Value) → World → Prop) (μ : α → Nat) (x0 : α) (h0 : I x0 σ w)
    (round : ∀ x σ w, I x σ w → CW P n c (thn (fun σ' w' => ∃ x', μ x' < μ x ∧ I x' σ' w') Q) σ w) : CW P n (.loop c) Q σ w := by
  constructor
  intro a ha
  let J : α → Act → World → Prop := fun x a w => ∃ σ, Rp n a σ ∧ I x σ w
  let p : Act → World → Nat → Prop := fun a w m => ∃ x, J x a w ∧ μ x = m
  let ν : Act → World → Nat := fun a w => if h : ∃ m, p a w m then Classical.choose (least h) else 0
  have hν : ∀ a w, (∃ m, p a w m) → p a w (ν a w) ∧ ∀ k, p a w k → ν a w ≤ k := by
    intro a w h
    have : ν a w = Classical.choose (least h) := by simp only [ν]; rw [dif_pos h]
    rw [this]; exact Classical.choose_spec (least h)
  refine wp_loop (fun a w => ∃ x, J x a w) ν ⟨x0, σ, ha, h0⟩ ?_
  intro a w ⟨x, hx⟩
  obtain ⟨⟨y, ⟨s, hs, hy⟩, hm⟩, _⟩ := hν a w ⟨_, x, hx, rfl⟩
  refine Code.wp_mono ?_ ((round y s w hy).h a hs)
  intro e a' w' ⟨s', hs', q⟩
  cases e with
  | normal =>
    obtain ⟨x', hlt, hI⟩ := q
    refine ⟨⟨x', s', hs', hI⟩, ?_⟩
    have := (hν a' w' ⟨_, x', ⟨s', hs', hI⟩, rfl⟩).2 (μ x') ⟨x', ⟨s', hs', hI⟩, rfl⟩
    omega
  | _ => exact ⟨s', hs', q⟩
theorem CW.region {id : Nat} {l : List Oper} (h : LW P n l.toArray l Q σ w) : CW P n (.region id l.toArray false) Q σ w :=
  ⟨fun a ha => wp_region_lit (h.h a ha)⟩
theorem LW.nil {ops : Array Oper} (h : Q .normal σ w) : LW P n ops [] Q σ w := ⟨fun _ ha => wpList_nil ⟨σ, ha, h⟩⟩
/-- What an operation yields. -/
structure Yl (P : Program) (σ : Nat → Value) (o : Op) (ty : TypeId) (w : World) (v : Value) (w' : World) : Prop where
  run : ∀ d pos after g, (execOp (ev σ) ⟨d, o, ty, pos, after, g⟩).run P w = .ok (.value v) w'
/-- An operation that hands back a value. -/
theorem LW.op {ops : Array Oper} {rest : List Oper} {d : Nat} {op : Op} {ty : TypeId} {pos : String} {after : Array Edge} {v : Value} {w' : World} (hd : Nat.blt d n = true)
    (hr : Yl P σ op ty w v w') (k : LW P n ops rest Q (upd σ d v) w') :
    LW P n ops (⟨some d, op, ty, pos, after, none⟩ :: rest) Q σ w := by
  constructor
  intro a ha
  refine wpList_plain rfl fun K hK => ?_
  unfold Oper.wp
  rw [ha.eval, hr.run]
  exact hK _ _ (k.h _ (ha.put d v hd))
/-- One that hands back nothing. -/
theorem LW.op0 {ops : Array Oper} {rest : List Oper} {op : Op} {ty : TypeId} {pos : String} {after : Array Edge} {w' : World}
    (hr : (execOp (ev σ) ⟨none, op, ty, pos, after, none⟩).run P w = .ok .skip w') (k : LW P n ops rest Q σ w') :
    LW P n ops (⟨none, op, ty, pos, after, none⟩ :: rest) Q σ w := by
  constructor
  intro a ha
  refine wpList_plain rfl fun K hK => ?_
  unfold Oper.wp
  rw [ha.eval, hr]
  exact hK _ _ (k.h _ ha)
theorem LW.call {ops : Array Oper} {rest : List Oper} {d : Nat} {op : Op} {ty : TypeId} {pos : String} {after : Array Edge} {f : FuncId} {args : Array Value} {R : Ending → World → Prop} (hd : Nat.blt d n = true)
    (hr : (execOp (ev σ) ⟨some d, op, ty, pos, after, none⟩).run P w = .ok (.enter f args) w) (hc : Calls P f args w R)
    (k : ∀ e w', R e w' → ∃ v, e = .returned v ∧ LW P n ops rest Q (upd σ d v) w') :
    LW P n ops (⟨some d, op, ty, pos, after, none⟩ :: rest) Q σ w := by
  constructor
  intro a ha
  refine wpList_plain rfl fun K hK => ?_
  unfold Oper.wp
  rw [ha.eval, hr]
  refine hc.mono fun e w' hR => ?_
  obtain ⟨v, rfl, hk⟩ := k e w' hR
  exact hK _ _ (hk.h _ (ha.put d v hd))
/-- What a guard reads. -/
def gd (ops : Array Oper) (σ : Nat → Value) (j : Nat) : Option Value := ((ops[j]?).bind (·.dst)).map σ
theorem gd_yield {ops : Array Oper} {a : Act} (ha : Rp n a σ) {j : Nat} {b : Bool} (h : gd ops σ j = some (.bool b)) : yielded ops a.tmps j = some b := by
  unfold gd at h
  unfold yielded
  cases hx : (ops[j]?).bind (·.dst) with
  | none => rw [hx] at h; simp at h
  | some d =>
    rw [hx] at h
    simp only [Option.map_some, Option.some.injEq] at h
    have h1 := ha.get d
    rw [h] at h1
    simp only [Option.bind_some]
    cases hy : a.tmps[d]? with
    | none => simp [hy, undef] at h1
    | some v => simp [hy] at h1; simp [h1]
theorem LW.guard {ops : Array Oper} {rest : List Oper} {d : Option Nat} {op : Op} {ty : TypeId} {pos : String} {after : Array Edge} {j : Nat} {want b : Bool}
    (hg : gd ops σ j = some (.bool b)) (hd : (match d with | some d => Nat.blt d n | none => true) = true)
    (h1 : b = want → LW P n ops (⟨d, op, ty, pos, after, none⟩ :: rest) Q σ w)
    (h2 : b = (!want) → LW P n ops rest Q (V.put σ d undef) w) :
    LW P n ops (⟨d, op, ty, pos, after, some (j, want)⟩ :: rest) Q σ w := by
  constructor
  intro a ha
  have hy := gd_yield ha hg
  have hw : Region.wanted ⟨d, op, ty, pos, after, some (j, want)⟩ (yielded ops a.tmps) = (b == want) := by
    simp [Region.wanted, hy]
  unfold wpList
  rw [hw]
  by_cases e : b = want
  · have := (h1 e).h a ha
    unfold wpList at this
    simp only [Region.wanted, if_true] at this
    rw [if_pos (by simp [e])]
    exact this
  · have e2 : b = !want := by cases b <;> cases want <;> simp_all
    rw [if_neg (by simp [e])]
    cases d with
    | none => exact (h2 e2).h a ha
    | some d => exact (h2 e2).h _ (ha.put d undef hd)
theorem LW.guard_on {ops : Array Oper} {rest : List Oper} {d : Option Nat} {op : Op} {ty : TypeId} {pos : String} {after : Array Edge} {j : Nat} {want b : Bool}
    (hg : gd ops σ j = some (.bool b)) (hb : b = want)
    (h1 : LW P n ops (⟨d, op, ty, pos, after, none⟩ :: rest) Q σ w) :
    LW P n ops (⟨d, op, ty, pos, after, some (j, want)⟩ :: rest) Q σ w := by
  constructor
  intro a ha
  have hy := gd_yield ha hg
  have hw : Region.wanted ⟨d, op, ty, pos, after, some (j, want)⟩ (yielded ops a.tmps) = (b == want) := by
    simp [Region.wanted, hy]
  unfold wpList
  rw [hw]
  have := h1.h a ha
  unfold wpList at this
  simp only [Region.wanted, if_true] at this
  rw [if_pos (by simp [hb])]
  exact this
theorem thn_n {K : (Nat → Value) → World → Prop} (h : K σ w) : thn K Q .normal σ w := h
theorem thn_r {K : (Nat → Value) → World → Prop} (h : Q .ret σ w) : thn K Q .ret σ w := h
def Fin (P : Program) (fn : Func) (R : Ending → World → Prop) : Post := fun e σ w => ∀ a, Rp fn.ntmps a σ → bodyPost P fn R e a w
theorem Rp_ini (args : Array Value) (n : Nat) (h : args.size ≤ n) : Rp n { tmps := args ++ Array.replicate (n - args.size) undef, defers := [] } (ini args.toList) := by
  refine ⟨by simp; omega, rfl, fun t => ?_⟩
  simp only [ini, Array.getD_eq_getD_getElem?, List.getD_eq_getElem?_getD, Array.getElem?_append, Array.getElem?_toList]
  split
  · rfl
  · rename_i hx
    rw [Array.getElem?_replicate, Array.getElem?_eq_none (by omega)]
    split <;> rfl
theorem calls {f : FuncId} {fn : Func} {c : Code} {args : List Value} {R : Ending → World → Prop}
    (hf : P.funcs[f]? = some fn) (hb : fn.body = some c) (hn : Nat.ble args.length fn.ntmps = true)
    (h : CW P fn.ntmps c (Fin P fn R) (ini args) w) : Calls P f args.toArray w R := by
  refine calls_of_wp hf hb ?_
  have hn' : args.length ≤ fn.ntmps := by simpa [Nat.ble] using hn
  have := h.h _ (by simpa using Rp_ini args.toArray fn.ntmps (by simpa using hn'))
  exact Code.wp_mono (fun e a w ⟨s, hs, q⟩ => q a hs) this
theorem Fin.ret {fn : Func} {R : Ending → World → Prop} {e : Exit} {v : Value} (he : e = .ret ∨ e = .normal)
    (hr : ∀ a, Rp fn.ntmps a σ → (results fn a.tmps).run P w = .ok v w) (hR : R (.returned v) w) : Fin P fn R e σ w := by
  intro a ha
  rcases he with rfl | rfl <;> exact ⟨ha.defers, v, hr a ha, hR⟩
theorem Fin.ret1 {fn : Func} {R : Ending → World → Prop} {e : Exit} {t : Nat} (h : fn.results = #[.tmp t]) (he : e = .ret ∨ e = .normal)
    (hR : R (.returned (σ t)) w) : Fin P fn R e σ w :=
  Fin.ret he (fun a ha => by rw [results_tmp h, ha.get]) hR
/-- The result variables' values. -/
inductive RV (P : Program) (σ : Nat → Value) (w : World) : List ResultVar → List Value → Prop
  | nil : RV P σ w [] []
  | tmp {t : Nat} {r : List ResultVar} {vs : List Value} (h : RV P σ w r vs) : RV P σ w (.tmp t :: r) (σ t :: vs)
  | cell {t : Nat} {T : TypeId} {a : Addr} {v : Value} {r : List ResultVar} {vs : List Value} (ht : σ t = .pointer (some a)) (hv : (loadVar T a).run P w = .ok v w) (h : RV P σ w r vs) : RV P σ w (.cell t T :: r) (v :: vs)
def rv (tmps : Array Value) : ResultVar → Sem Value
  | ResultVar.tmp t => pure (tmps.getD t undef)
  | ResultVar.cell b t => do loadVar t (← asAddr (tmps.getD b undef))
theorem results_eq (fn : Func) (tmps : Array Value) : results fn tmps = (do let vs ← fn.results.mapM (rv tmps); pure (if h : vs.size = 1 then vs[0] else .tuple vs)) := by
  have : rv tmps = (fun x => match x with | ResultVar.tmp t => (pure (tmps.getD t undef) : Sem Value) | ResultVar.cell b t => (asAddr (tmps.getD b undef)) >>= fun a => loadVar t a) := by
    funext x; cases x <;> rfl
  rw [this]; rfl
theorem RV.run {a : Act} (ha : Rp n a σ) {r : List ResultVar} {vs : List Value} (h : RV P σ w r vs) : (r.mapM (rv a.tmps)).run P w = .ok vs w := by
  induction h with
  | nil => simp
  | @tmp t r vs h ih =>
    simp only [List.mapM_cons, Sem.run_bind, rv, Sem.run_pure, Result.andThen_ok, ih, ha.get]
  | @cell t T b v r vs ht hv h ih =>
    simp only [List.mapM_cons, Sem.run_bind, rv, ha.get, ht, asAddr, Sem.run_pure, Result.andThen_ok, hv, ih]
theorem Fin.rets {fn : Func} {R : Ending → World → Prop} {e : Exit} {l : List ResultVar} {vs : List Value} (he : e = .ret ∨ e = .normal) (h : fn.results = l.toArray) (hl : Nat.ble 2 l.length = true)
    (hv : RV P σ w l vs) (hR : R (.returned (.tuple vs.toArray)) w) : Fin P fn R e σ w := by
  refine Fin.ret he (fun a ha => ?_) hR
  have h1 := RV.run ha hv
  have hlen : vs.length = l.length := by
    clear h1 hl h hR
    induction hv with
    | nil => rfl
    | tmp _ ih => simp [ih]
    | cell _ _ _ ih => simp [ih]
  have hl' : 2 ≤ l.length := by simpa [Nat.ble] using hl
  rw [results_eq, h, List.mapM_toArray, Sem.run_bind, Sem.run_map, h1]
  simp only [Result.andThen_ok]
  rw [dif_neg (by simp; omega)]
  rfl
theorem Fin.rets1 {fn : Func} {R : Ending → World → Prop} {e : Exit} {l : ResultVar} {v : Value} (he : e = .ret ∨ e = .normal) (h : fn.results = #[l]) 
    (hv : RV P σ w [l] [v]) (hR : R (.returned v) w) : Fin P fn R e σ w := by
  refine Fin.ret he (fun a ha => ?_) hR
  have h1 := RV.run ha hv
  rw [results_eq, h, show (#[l] : Array ResultVar) = [l].toArray from rfl, List.mapM_toArray, Sem.run_bind, Sem.run_map, h1]
  simp only [Result.andThen_ok]
  rfl
end
attribute [irreducible] thn inB Fin
end V
end Go.Proofs.YtkjnnifnmoekjaaDoor
namespace Go.Proofs.YtkjnnifnmoekjaaDoor
namespace V
set_option linter.unusedVariables false
set_option linter.unusedSimpArgs false
open Go.RowKit
structure Snap where
  lo : Nat
  hi : Nat
  w : World
/-- But for the blocks of 'X', what was there is as it was. -/
structure BelowX (X : List Nat) (w w' : World) : Prop where
  os : w'.os = w.os
  tape : w'.tape = w.tape
  output : w'.output = w.output
  size : w.heap.size ≤ w'.heap.size
  block : ∀ k, k < w.heap.size → k ∉ X → w'.heap[k]? = w.heap[k]?
theorem BelowX.refl (X : List Nat) (w : World) : BelowX X w w := ⟨rfl, rfl, rfl, Nat.le_refl _, fun _ _ _ => rfl⟩
theorem BelowX.trans {X : List Nat} {a b c : World} (h : BelowX X a b) (k : BelowX X b c) : BelowX X a c :=
  ⟨k.os.trans h.os, k.tape.trans h.tape, k.output.trans h.output, Nat.le_trans h.size k.size, fun i hi hx => (k.block i (Nat.lt_of_lt_of_le hi h.size) hx).trans (h.block i hi hx)⟩
theorem BelowX.of {w w' : World} (X : List Nat) (h : Below w.heap.size w w') : BelowX X w w' := ⟨h.os, h.tape, h.output, h.size, fun k hk _ => h.block k hk⟩
theorem BelowX.below {w w' : World} (h : BelowX [] w w') : Below w.heap.size w w' := ⟨h.os, h.tape, h.output, h.size, fun k hk => h.block k hk (by simp)⟩
/-- Where the walk began, and the blocks that were lent to it for writing. -/
structure Base where
  w : World
  X : List Nat
section
variable {w0 : Base} {w w' : World} {Sn : List Snap} {O : List (Nat × Obj)}
theorem mem_get {α : Type} {l : List α} {p : α} (h : p ∈ l) : ∃ j : Nat, l[j]? = some p := by
  obtain ⟨j, hj, e⟩ := List.mem_iff_getElem.1 h; exact ⟨j, by rw [List.getElem?_eq_getElem hj, e]⟩
theorem get_mem {α : Type} {l : List α} {p : α} {j : Nat} (h : l[j]? = some p) : p ∈ l := List.mem_of_getElem? h
end
/-- A type whose values are a fixed number of cells and lead nowhere. -/
class Flat (α : Type) where
  enc : α → List Value
  k : Nat
  len : ∀ x, (enc x).length = k
  one : ∀ x v, v ∈ enc x → v.oneCell' = true
open Flat (enc)
class CSl (P : Program) (T : TypeId) (e : outParam TypeId) : Prop where
  run : ∀ w, (underlying T).run P w = .ok (.slice e) w
  u : P.underlying T = some (.slice e)
class CE (P : Program) (e : TypeId) (k : outParam Nat) (bytes : outParam Nat) : Prop where ex : ∃ i z, P.info? e = some i ∧ i.zero = some z ∧ i.size = k ∧ i.bytes = bytes ∧ z.cells.size = k
class CIn (P : Program) (T : TypeId) : Prop where run : ∀ w, (underlying T).run P w = .ok (.int .i64) w
class CU8 (P : Program) (T : TypeId) : Prop where run : ∀ w, (underlying T).run P w = .ok (.int .u8) w
/-- A struct's fields: the offset and the size of each. -/
class CB (P : Program) (T : TypeId) (pl : outParam (List (Nat × Nat))) : Prop where run : ∀ w, ∃ fs, (underlying T).run P w = .ok (.struct fs) w ∧ (fs.mapM fun f => (do pure (f.offset, ← sizeOf f.type) : Sem (Nat × Nat))).run P w = .ok pl.toArray w
class CBo (P : Program) (T : TypeId) : Prop where run : ∀ w, (underlying T).run P w = .ok .bool w
class CSt (P : Program) (T : TypeId) : Prop where run : ∀ w, (underlying T).run P w = .ok .string w
class CS (P : Program) (T : TypeId) (k : outParam Nat) : Prop where run : ∀ w, (sizeOf T).run P w = .ok k w
class CA (P : Program) (T : TypeId) (b : outParam Bool) : Prop where run : ∀ w, (isAgg T).run P w = .ok b w
class CZ (P : Program) (T : TypeId) (z : outParam Value) : Prop where run : ∀ w, (zeroValue T).run P w = .ok z w
class CF (P : Program) (T : TypeId) (f : Nat) (off : outParam Nat) : Prop where run : ∀ a w, (Instr.fieldAt T (.pointer (some a)) f).run P w = .ok (.pointer (some (a.add off))) w
end V
end Go.Proofs.YtkjnnifnmoekjaaDoor
namespace Go.Proofs.YtkjnnifnmoekjaaDoor
namespace V
open Flat (enc)
set_option linter.unusedVariables false
set_option linter.unusedSimpArgs false
open Go.RowKit
namespace R
section
variable {P : Program} {σ : Nat → Value} {w0 : Base} {w ws : World} {Sn : List Snap} {O : List (Nat × Obj)} {ty : TypeId}
theorem move {x : Operand} : Yl P σ (.move x) ty w ((ev σ x)) w := Yl.mk fun d pos after g => rfl
theorem assign {x : Operand} : Yl P σ (.assign x) ty w ((ev σ x)) w := Yl.mk fun d pos after g => rfl
theorem moveI {x : Operand} {q : IntKind} {m : Int} (hx : ev σ x = .int q m) : Yl P σ (.move x) ty w (.int q m) w := Yl.mk fun d pos after g => by simp [execOp, hx]
theorem assignI {x : Operand} {q : IntKind} {m : Int} (hx : ev σ x = .int q m) : Yl P σ (.assign x) ty w (.int q m) w := Yl.mk fun d pos after g => by simp [execOp, hx]
theorem moveS {x : Operand} {a : Option Addr} {l c : Nat} (hx : ev σ x = .slice a l c) : Yl P σ (.move x) ty w (.slice a l c) w := Yl.mk fun d pos after g => by simp [execOp, hx]
theorem assignS {x : Operand} {a : Option Addr} {l c : Nat} (hx : ev σ x = .slice a l c) : Yl P σ (.assign x) ty w (.slice a l c) w := Yl.mk fun d pos after g => by simp [execOp, hx]
theorem pick_t {c x y : Operand} {b : Bool} (hc : ev σ c = .bool b) (h : b = true) : Yl P σ (.pick c x y) ty w ((ev σ x)) w := Yl.mk fun d pos after g => by
  subst h; simp [execOp, hc, asBool]
theorem pick_f {c x y : Operand} {b : Bool} (hc : ev σ c = .bool b) (h : b = false) : Yl P σ (.pick c x y) ty w ((ev σ y)) w := Yl.mk fun d pos after g => by
  subst h; simp [execOp, hc, asBool]
theorem unnot {t : TypeId} {x : Operand} {b : Bool} (hx : ev σ x = .bool b) : Yl P σ (.unOp .not t x) ty w ((.bool (!b))) w := Yl.mk fun d pos after g => by
  simp [execOp, hx, Op.unary]
theorem wrap_in {n : Int} (hb : -9223372036854775808 ≤ n ∧ n ≤ 9223372036854775807) : IntKind.i64.wrap n = n := by
  exact IntWalk.i64_in _ (by omega)
theorem neg {t : TypeId} {x : Operand} {n : Int} (hx : ev σ x = .int .i64 n) (hb : -9223372036854775808 ≤ -n ∧ -n ≤ 9223372036854775807) : Yl P σ (.unOp .neg t x) ty w ((.int .i64 (-n))) w := Yl.mk fun d pos after g => by
  have := wrap_in hb
  simp [execOp, hx, Op.unary, Op.intArith, this]
section
variable {t t' : TypeId} {x y : Operand} {m n : Int}
theorem add (hx : ev σ x = .int .i64 m) (hy : ev σ y = .int .i64 n) (hb : -9223372036854775808 ≤ m + n ∧ m + n ≤ 9223372036854775807) :
    Yl P σ (.binOp .add t x y t') ty w ((.int .i64 (m + n))) w := Yl.mk fun d pos after g => by
  simp [execOp, hx, hy, eqGuard, binOp, Op.intArith, wrap_in hb]
theorem sub (hx : ev σ x = .int .i64 m) (hy : ev σ y = .int .i64 n) (hb : -9223372036854775808 ≤ m - n ∧ m - n ≤ 9223372036854775807) :
    Yl P σ (.binOp .sub t x y t') ty w ((.int .i64 (m - n))) w := Yl.mk fun d pos after g => by
  simp [execOp, hx, hy, eqGuard, binOp, Op.intArith, wrap_in hb]
theorem mul (hx : ev σ x = .int .i64 m) (hy : ev σ y = .int .i64 n) (hb : -9223372036854775808 ≤ m * n ∧ m * n ≤ 9223372036854775807) :
    Yl P σ (.binOp .mul t x y t') ty w ((.int .i64 (m * n))) w := Yl.mk fun d pos after g => by
  simp [execOp, hx, hy, eqGuard, binOp, Op.intArith, wrap_in hb]
/-- '/' at a number that is not negative, by one that is positive. -/
theorem quo (hx : ev σ x = .int .i64 m) (hy : ev σ y = .int .i64 n) (hb : 0 ≤ m ∧ m ≤ 9223372036854775807 ∧ 1 ≤ n) :
    Yl P σ (.binOp .quo t x y t') ty w ((.int .i64 (m / n))) w := Yl.mk fun d pos after g => by
  have h0 : n ≠ 0 := by omega
  have h1 : m.tdiv n = m / n := by rw [Int.tdiv_eq_ediv_of_nonneg hb.1]
  have h2 : 0 ≤ m / n := Int.ediv_nonneg hb.1 (by omega)
  have h3 : m / n ≤ m := Int.ediv_le_self _ hb.1
  simp [execOp, hx, hy, eqGuard, binOp, Op.intDiv, h0, h1, wrap_in (show -9223372036854775808 ≤ m / n ∧ m / n ≤ 9223372036854775807 by omega)]
theorem rem (hx : ev σ x = .int .i64 m) (hy : ev σ y = .int .i64 n) (hb : 0 ≤ m ∧ 1 ≤ n) :
    Yl P σ (.binOp .rem t x y t') ty w ((.int .i64 (m % n))) w := Yl.mk fun d pos after g => by
  have h0 : n ≠ 0 := by omega
  have h1 : m.tmod n = m % n := by rw [Int.tmod_eq_emod_of_nonneg hb.1]
  simp [execOp, hx, hy, eqGuard, binOp, Op.intDiv, h0, h1]
theorem lss (hx : ev σ x = .int .i64 m) (hy : ev σ y = .int .i64 n) : Yl P σ (.binOp .lss t x y t') ty w ((.bool (decide (m < n)))) w := Yl.mk fun d pos after g => by
  simp [execOp, hx, hy, eqGuard, binOp, Op.intCmp]
theorem leq (hx : ev σ x = .int .i64 m) (hy : ev σ y = .int .i64 n) : Yl P σ (.binOp .leq t x y t') ty w ((.bool (decide (m ≤ n)))) w := Yl.mk fun d pos after g => by
  simp [execOp, hx, hy, eqGuard, binOp, Op.intCmp]
theorem gtr (hx : ev σ x = .int .i64 m) (hy : ev σ y = .int .i64 n) : Yl P σ (.binOp .gtr t x y t') ty w ((.bool (decide (n < m)))) w := Yl.mk fun d pos after g => by
  simp [execOp, hx, hy, eqGuard, binOp, Op.intCmp]
theorem geq (hx : ev σ x = .int .i64 m) (hy : ev σ y = .int .i64 n) : Yl P σ (.binOp .geq t x y t') ty w ((.bool (decide (n ≤ m)))) w := Yl.mk fun d pos after g => by
  simp [execOp, hx, hy, eqGuard, binOp, Op.intCmp]
theorem eql (hx : ev σ x = .int .i64 m) (hy : ev σ y = .int .i64 n) : Yl P σ (.binOp .eql t x y t') ty w ((.bool (decide (m = n)))) w := Yl.mk fun d pos after g => by
  simp [execOp, hx, hy, eqGuard, binOp, Op.intCmp]; rfl
theorem neq (hx : ev σ x = .int .i64 m) (hy : ev σ y = .int .i64 n) : Yl P σ (.binOp .neq t x y t') ty w ((.bool (!decide (m = n)))) w := Yl.mk fun d pos after g => by
  simp [execOp, hx, hy, eqGuard, binOp, Op.intCmp, bne]; rfl
theorem exBin {op : BinOp} {v : Value} (hg : (eqGuard op t x y (ev σ x) (ev σ y)).run P w = .ok () w) (hb : (binOp op t (ev σ x) (ev σ y)).run P w = .ok v w) :
    Yl P σ (.binOp op t x y t') ty w (v) w := Yl.mk fun d pos after g => by
  have : execOp (ev σ) ⟨d, .binOp op t x y t', ty, pos, after, g⟩ = (do let v ← (do eqGuard op t x y (ev σ x) (ev σ y); binOp op t (ev σ x) (ev σ y)); pure (.value v)) := rfl
  rw [this]; simp [hg, hb]
theorem eqBoolD {a b : Bool} (D : Nat) [T : CBo P t] : (Op.equalIn (D + 1) t (.bool a) (.bool b)).run P w = .ok (a == b) w := by
  simp [Op.equalIn, T.run]
theorem eqBool {a b : Bool} [T : CBo P t] : (Op.equal t (.bool a) (.bool b)).run P w = .ok (a == b) w := eqBoolD 9999
theorem eqSlNilD {a : Option Addr} {l c : Nat} {e : TypeId} (D : Nat) [T : CSl P t e] : (Op.equalIn (D + 1) t (.slice a l c) (.slice none 0 0)).run P w = .ok a.isNone w := by
  cases a <;> simp [Op.equalIn, T.run]
theorem eqSlNil {a : Option Addr} {l c : Nat} {e : TypeId} [T : CSl P t e] : (Op.equal t (.slice a l c) (.slice none 0 0)).run P w = .ok a.isNone w := eqSlNilD 9999
theorem neqB {a b : Bool} [T : CBo P t] (hx : ev σ x = .bool a) (hy : ev σ y = .bool b) : Yl P σ (.binOp .neq t x y t') ty w ((.bool (!(a == b)))) w := by
  refine exBin (by rw [hx, hy]; rfl) ?_
  rw [hx, hy]
  have : binOp .neq t (.bool a) (.bool b) = (do pure (.bool (!(← Op.equal t (.bool a) (.bool b))))) := rfl
  rw [this]; simp [eqBool]
theorem eqlS {a b : ByteArray} (hx : ev σ x = .string a) (hy : ev σ y = .string b) : Yl P σ (.binOp .eql t x y t') ty w ((.bool (a.toList == b.toList))) w := Yl.mk fun d pos after g => by
  simp [execOp, hx, hy, eqGuard, binOp, Op.stringOp]
theorem neqS {a b : ByteArray} (hx : ev σ x = .string a) (hy : ev σ y = .string b) : Yl P σ (.binOp .neq t x y t') ty w ((.bool (!(a.toList == b.toList)))) w := Yl.mk fun d pos after g => by
  simp [execOp, hx, hy, eqGuard, binOp, Op.stringOp]
theorem lssS {a b : ByteArray} (hx : ev σ x = .string a) (hy : ev σ y = .string b) : Yl P σ (.binOp .lss t x y t') ty w ((.bool (Op.bytesLess a.toList b.toList))) w := Yl.mk fun d pos after g => by
  simp [execOp, hx, hy, eqGuard, binOp, Op.stringOp]
theorem addS {a b : ByteArray} (hx : ev σ x = .string a) (hy : ev σ y = .string b) (hb : a.size + b.size ≤ 9223372036854775807) : Yl P σ (.binOp .add t x y t') ty w ((.string (a ++ b))) w := by
  have : ¬ (((a.size + b.size : Nat) : Int) > IntKind.i64.max) := by simp [IntKind.max, IntKind.signed, IntKind.bits]; omega
  refine exBin (by rw [hx, hy]; rfl) ?_
  rw [hx, hy]
  have e : binOp .add t (.string a) (.string b) = Op.stringOp .add a b := rfl
  rw [e, Op.stringOp, if_neg this]; rfl
theorem eqlNil {a : Option Addr} {l c : Nat} {e : TypeId} [T : CSl P t e] (hx : ev σ x = .slice a l c) (hy : ev σ y = .slice none 0 0) : Yl P σ (.binOp .eql t x y t') ty w ((.bool a.isNone)) w := by
  refine exBin (by rw [hx, hy]; rfl) ?_
  rw [hx, hy]
  have : binOp .eql t (.slice a l c) (.slice none 0 0) = (do pure (.bool (← Op.equal t (.slice a l c) (.slice none 0 0)))) := rfl
  rw [this]; simp [eqSlNil]
end
theorem lenSl {t e : TypeId} {x : Operand} {a : Option Addr} {l c : Nat} [T : CSl P t e] (hx : ev σ x = .slice a l c) :
    Yl P σ (.call { callee := .builtin .len, args := #[x], argTypes := #[t] }) ty w ((.int .i64 (l : Int))) w := Yl.mk fun d pos after g => by
  simp [execOp, resolve, invoke, builtin, Builtin.len_, hx, T.run, goInt]
theorem lenSt {t : TypeId} {x : Operand} {s : ByteArray} [T : CSt P t] (hx : ev σ x = .string s) :
    Yl P σ (.call { callee := .builtin .len, args := #[x], argTypes := #[t] }) ty w ((.int .i64 (s.size : Int))) w := Yl.mk fun d pos after g => by
  simp [execOp, resolve, invoke, builtin, Builtin.len_, hx, T.run, goInt]
theorem max2 {t t' : TypeId} {x y : Operand} {m n : Int} (hx : ev σ x = .int .i64 m) (hy : ev σ y = .int .i64 n) :
    Yl P σ (.call { callee := .builtin .max, args := #[x, y], argTypes := #[t, t'] }) ty w ((.int .i64 (max m n))) w := Yl.mk fun d pos after g => by
  by_cases h : m < n
  · have : max m n = n := by omega
    simp [execOp, resolve, invoke, builtin, Builtin.max_, Builtin.max2, hx, hy, this, h]
  · have : max m n = m := by omega
    simp [execOp, resolve, invoke, builtin, Builtin.max_, Builtin.max2, hx, hy, this, h]
theorem nilCheck {x : Operand} {a : Addr} (hx : ev σ x = .pointer (some a)) : Yl P σ (.nilCheck x) ty w ((.pointer (some a))) w := Yl.mk fun d pos after g => by
  simp [execOp, hx]
theorem extract {x : Operand} {i : Nat} {vs : Array Value} {v : Value} (hx : ev σ x = .tuple vs) (hv : vs[i]? = some v) : Yl P σ (.extract x i) ty w (v) w := Yl.mk fun d pos after g => by
  simp [execOp, hx, Instr.extract, hv]
theorem ixStr {t : TypeId} {x y : Operand} {s : ByteArray} {i : Int} [T : CSt P t] (hx : ev σ x = .string s) (hy : ev σ y = .int .i64 i) (hi : 0 ≤ i ∧ i.toNat < s.size) :
    Yl P σ (.index t x y) ty w ((.int .u8 ((s[i.toNat]'hi.2).toNat : Nat))) w := Yl.mk fun d pos after g => by
  simp [execOp, hx, hy, Instr.index, asIntOf, T.run, hi.1, getElem?_pos, hi.2]
end
end R
section
variable {P : Program} {n : Nat} {Q : Post} {σ : Nat → Value} {w0 : Base} {w ws : World} {Sn : List Snap} {O : List (Nat × Obj)} {ops : Array Oper} {rest : List Oper} {d : Nat} {ty : TypeId} {pos : String} {after : Array Edge}
theorem run_fcall {f : FuncId} {xs : List Operand} {ats : Array TypeId} {args : List Value} {dd : Option Nat} {gu : Option (Nat × Bool)} (hr : ∀ args w, (callFunc f args).run P w = .ok (.enter f args) w) (ha : xs.map (ev σ) = args) :
    (execOp (ev σ) ⟨dd, .call { callee := .value (.func f), args := xs.toArray, argTypes := ats }, ty, pos, after, gu⟩).run P w = .ok (.enter f args.toArray) w := by
  have := hr args.toArray w
  subst ha
  simp only [execOp, resolve, ev, Deferred.ofValue, Sem.run_bind, Sem.run_pure, Result.andThen_ok, invoke] at this ⊢
  simpa using this
end
section
variable {P : Program} {n : Nat} {Q : Post} {σ : Nat → Value} {w0 : Base} {w ws : World} {Sn : List Snap} {O : List (Nat × Obj)} {ops : Array Oper} {rest : List Oper} {ty : TypeId} {pos : String} {after : Array Edge}
end
end V
end Go.Proofs.YtkjnnifnmoekjaaDoor
namespace Go.Proofs.YtkjnnifnmoekjaaDoor
namespace V
open Go.RowKit
instance : CIn Tryd.prog 3 := ⟨Tryd.runUnderlying3⟩
instance : CS Tryd.prog 3 1 := ⟨Tryd.sizeOf3⟩
instance : CA Tryd.prog 3 false := ⟨Tryd.isAgg3⟩
instance : CZ Tryd.prog 3 (.int .i64 0) := ⟨Tryd.zeroValue3⟩
instance : CE Tryd.prog 3 1 8 := ⟨Tryd.t3, (.int .i64 0), by kernel_rfl, by kernel_rfl, by kernel_rfl, by kernel_rfl, by kernel_rfl⟩
instance : CBo Tryd.prog 4 := ⟨Tryd.runUnderlying4⟩
instance : CU8 Tryd.prog 5 := ⟨Tryd.runUnderlying5⟩
instance : CS Tryd.prog 5 1 := ⟨Tryd.sizeOf5⟩
instance : CA Tryd.prog 5 false := ⟨Tryd.isAgg5⟩
instance : CZ Tryd.prog 5 (.int .u8 0) := ⟨Tryd.zeroValue5⟩
instance : CSt Tryd.prog 9 := ⟨Tryd.runUnderlying9⟩
instance : CS Tryd.prog 9 1 := ⟨Tryd.sizeOf9⟩
instance : CA Tryd.prog 9 false := ⟨Tryd.isAgg9⟩
instance : CZ Tryd.prog 9 (.string ⟨#[]⟩) := ⟨Tryd.zeroValue9⟩
instance : CSl Tryd.prog 22 5 := ⟨Tryd.runUnderlying22, Tryd.underlying22⟩
instance : CA Tryd.prog 22 false := ⟨Tryd.isAgg22⟩
instance : CSl Tryd.prog 23 82 := ⟨Tryd.runUnderlying23, Tryd.underlying23⟩
instance : CS Tryd.prog 23 1 := ⟨Tryd.sizeOf23⟩
instance : CA Tryd.prog 23 false := ⟨Tryd.isAgg23⟩
instance : CZ Tryd.prog 23 (.slice none 0 0) := ⟨Tryd.zeroValue23⟩
instance : CE Tryd.prog 23 1 24 := ⟨Tryd.t23, (.slice none 0 0), by kernel_rfl, by kernel_rfl, by kernel_rfl, by kernel_rfl, by kernel_rfl⟩
instance : CSl Tryd.prog 24 84 := ⟨Tryd.runUnderlying24, Tryd.underlying24⟩
instance : CA Tryd.prog 24 false := ⟨Tryd.isAgg24⟩
instance : CSl Tryd.prog 25 55 := ⟨Tryd.runUnderlying25, Tryd.underlying25⟩
instance : CA Tryd.prog 25 false := ⟨Tryd.isAgg25⟩
instance : CS Tryd.prog 27 3 := ⟨Tryd.sizeOf27⟩
instance : CA Tryd.prog 27 true := ⟨Tryd.isAgg27⟩
instance : CZ Tryd.prog 27 (.agg #[.slice none 0 0, .slice none 0 0, .slice none 0 0]) := ⟨Tryd.zeroValue27⟩
instance : CB Tryd.prog 27 [(0, 1), (1, 1), (2, 1)] := ⟨fun w => ⟨_, Tryd.runUnderlying27 w, by kernel_rfl⟩⟩
instance : CF Tryd.prog 27 0 0 := ⟨fun _ _ => by kernel_rfl⟩
instance : CF Tryd.prog 27 1 1 := ⟨fun _ _ => by kernel_rfl⟩
instance : CF Tryd.prog 27 2 2 := ⟨fun _ _ => by kernel_rfl⟩
instance : CS Tryd.prog 29 3 := ⟨Tryd.sizeOf29⟩
instance : CA Tryd.prog 29 true := ⟨Tryd.isAgg29⟩
instance : CZ Tryd.prog 29 (.agg #[.int .i64 0, .int .i64 0, .string ⟨#[]⟩]) := ⟨Tryd.zeroValue29⟩
instance : CE Tryd.prog 29 3 32 := ⟨Tryd.t29, (.agg #[.int .i64 0, .int .i64 0, .string ⟨#[]⟩]), by kernel_rfl, by kernel_rfl, by kernel_rfl, by kernel_rfl, by kernel_rfl⟩
instance : CB Tryd.prog 29 [(0, 1), (1, 1), (2, 1)] := ⟨fun w => ⟨_, Tryd.runUnderlying29 w, by kernel_rfl⟩⟩
instance : CF Tryd.prog 29 0 0 := ⟨fun _ _ => by kernel_rfl⟩
instance : CF Tryd.prog 29 1 1 := ⟨fun _ _ => by kernel_rfl⟩
instance : CF Tryd.prog 29 2 2 := ⟨fun _ _ => by kernel_rfl⟩
instance : CSl Tryd.prog 32 3 := ⟨Tryd.runUnderlying32, Tryd.underlying32⟩
instance : CSl Tryd.prog 35 37 := ⟨Tryd.runUnderlying35, Tryd.underlying35⟩
instance : CSl Tryd.prog 37 29 := ⟨Tryd.runUnderlying37, Tryd.underlying37⟩
instance : CS Tryd.prog 37 1 := ⟨Tryd.sizeOf37⟩
instance : CA Tryd.prog 37 false := ⟨Tryd.isAgg37⟩
instance : CZ Tryd.prog 37 (.slice none 0 0) := ⟨Tryd.zeroValue37⟩
instance : CE Tryd.prog 37 1 24 := ⟨Tryd.t37, (.slice none 0 0), by kernel_rfl, by kernel_rfl, by kernel_rfl, by kernel_rfl, by kernel_rfl⟩
instance : CS Tryd.prog 55 2 := ⟨Tryd.sizeOf55⟩
instance : CA Tryd.prog 55 true := ⟨Tryd.isAgg55⟩
instance : CZ Tryd.prog 55 (.agg #[.int .i64 0, .slice none 0 0]) := ⟨Tryd.zeroValue55⟩
instance : CE Tryd.prog 55 2 32 := ⟨Tryd.t55, (.agg #[.int .i64 0, .slice none 0 0]), by kernel_rfl, by kernel_rfl, by kernel_rfl, by kernel_rfl, by kernel_rfl⟩
instance : CB Tryd.prog 55 [(0, 1), (1, 1)] := ⟨fun w => ⟨_, Tryd.runUnderlying55 w, by kernel_rfl⟩⟩
instance : CF Tryd.prog 55 0 0 := ⟨fun _ _ => by kernel_rfl⟩
instance : CF Tryd.prog 55 1 1 := ⟨fun _ _ => by kernel_rfl⟩
instance : CZ Tryd.prog 58 (.agg #[.slice none 0 0, .int .i64 0]) := ⟨Tryd.zeroValue58⟩
instance : CB Tryd.prog 58 [(0, 1), (1, 1)] := ⟨fun w => ⟨_, Tryd.runUnderlying58 w, by kernel_rfl⟩⟩
instance : CF Tryd.prog 58 0 0 := ⟨fun _ _ => by kernel_rfl⟩
instance : CF Tryd.prog 58 1 1 := ⟨fun _ _ => by kernel_rfl⟩
instance : CSl Tryd.prog 61 23 := ⟨Tryd.runUnderlying61, Tryd.underlying61⟩
instance : CSl Tryd.prog 68 9 := ⟨Tryd.runUnderlying68, Tryd.underlying68⟩
instance : CS Tryd.prog 82 4 := ⟨Tryd.sizeOf82⟩
instance : CA Tryd.prog 82 true := ⟨Tryd.isAgg82⟩
instance : CZ Tryd.prog 82 (.agg #[.int .i64 0, .int .i64 0, .int .i64 0, .string ⟨#[]⟩]) := ⟨Tryd.zeroValue82⟩
instance : CE Tryd.prog 82 4 40 := ⟨Tryd.t82, (.agg #[.int .i64 0, .int .i64 0, .int .i64 0, .string ⟨#[]⟩]), by kernel_rfl, by kernel_rfl, by kernel_rfl, by kernel_rfl, by kernel_rfl⟩
instance : CB Tryd.prog 82 [(0, 1), (1, 3)] := ⟨fun w => ⟨_, Tryd.runUnderlying82 w, by kernel_rfl⟩⟩
instance : CF Tryd.prog 82 0 0 := ⟨fun _ _ => by kernel_rfl⟩
instance : CF Tryd.prog 82 1 1 := ⟨fun _ _ => by kernel_rfl⟩
instance : CS Tryd.prog 84 6 := ⟨Tryd.sizeOf84⟩
instance : CA Tryd.prog 84 true := ⟨Tryd.isAgg84⟩
instance : CZ Tryd.prog 84 (.agg #[.int .i64 0, .int .i64 0, .int .i64 0, .int .i64 0, .int .i64 0, .string ⟨#[]⟩]) := ⟨Tryd.zeroValue84⟩
instance : CE Tryd.prog 84 6 56 := ⟨Tryd.t84, (.agg #[.int .i64 0, .int .i64 0, .int .i64 0, .int .i64 0, .int .i64 0, .string ⟨#[]⟩]), by kernel_rfl, by kernel_rfl, by kernel_rfl, by kernel_rfl, by kernel_rfl⟩
instance : CB Tryd.prog 84 [(0, 1), (1, 1), (2, 4)] := ⟨fun w => ⟨_, Tryd.runUnderlying84 w, by kernel_rfl⟩⟩
instance : CF Tryd.prog 84 0 0 := ⟨fun _ _ => by kernel_rfl⟩
instance : CF Tryd.prog 84 1 1 := ⟨fun _ _ => by kernel_rfl⟩
instance : CF Tryd.prog 84 2 2 := ⟨fun _ _ => by kernel_rfl⟩
end V
end Go.Proofs.YtkjnnifnmoekjaaDoor
namespace Go.Proofs.YtkjnnifnmoekjaaDoor
namespace V
open Flat (enc)
set_option linter.unusedVariables false
set_option linter.unusedSimpArgs false
open Go.RowKit
section
variable {P : Program} {n : Nat} {Q : Post} {σ : Nat → Value} {w0 : Base} {w wi : World} {K : (Nat → Value) → World → Prop} {id i : Nat}
variable {ops : Array Oper} {rest : List Oper} {d : Nat} {ty : TypeId} {pos : String} {after : Array Edge} {Sn : List Snap} {O : List (Nat × Obj)}
end
end V
end Go.Proofs.YtkjnnifnmoekjaaDoor
namespace Go.Proofs.YtkjnnifnmoekjaaDoor
namespace V
open Flat (enc)
set_option linter.unusedVariables false
set_option linter.unusedSimpArgs false
open Go.RowKit
section
variable {P : Program} {w0 : Base} {w : World} {Sn : List Snap} {O O1 O2 E : List (Nat × Obj)}
end
section
variable {α : Type} [F : Flat α] {P : Program} {w0 : Base} {w ws : World} {Sn : List Snap} {O O1 O2 E : List (Nat × Obj)} {e : TypeId} {v : Value} {xs ys : List α}
end
section
variable {α : Type} [F : Flat α] {P : Program} {n : Nat} {Q : Post} {σ : Nat → Value} {w0 : Base} {w ws : World} {Sn : List Snap} {O O1 O2 E : List (Nat × Obj)} {ops : Array Oper} {rest : List Oper} {d : Nat} {ty : TypeId} {pos : String} {after : Array Edge}
end
end V
end Go.Proofs.YtkjnnifnmoekjaaDoor
namespace Go.Proofs.YtkjnnifnmoekjaaDoor
namespace V
open Flat (enc)
set_option linter.unusedVariables false
set_option linter.unusedSimpArgs false
open Go.RowKit
section
variable {P : Program} {ops : Array Oper} {md : Region.Mode} {C : Nat → World → Prop} {N : Nat} {Φ : Nat → Array Value → Value → Prop}
def nv (w : World) (v : Value) : Result Next → Prop
  | .ok (.value u) w' => w' = w ∧ u = v
  | .ok .skip w' => w' = w ∧ v = undef
  | _ => False
/-- Operation i, carried out in state a in whatever world of the class, hands back a value of the set V and leaves a world of the class. -/
def Y (P : Program) (ops : Array Oper) (C : Nat → World → Prop) (N : Nat) (Φ : Nat → Array Value → Value → Prop) (i : Nat) (o : Oper) (a : Act) (V : Value → Prop) : Prop :=
  (Region.wanted o (yielded ops a.tmps) = true ∧ ∃ v, (∀ m w, m < N → C m w → nv w v ((execOp a.eval o).run P w)) ∧ V = fun u => u = v) ∨
  (Region.wanted o (yielded ops a.tmps) = true ∧ ∃ f args, (∀ m w, m < N → C m w → (execOp a.eval o).run P w = .ok (.enter f args) w ∧ Calls P f args w fun e w' => ∃ v, e = .returned v ∧ Φ i args v ∧ C (m + 1) w') ∧ V = Φ i args) ∨
  (Region.wanted o (yielded ops a.tmps) = false ∧ V = fun u => u = undef)
end
section
variable {P : Program} {n : Nat} {Q : Post} {σ : Nat → Value} {w : World} {ops : Array Oper} {rest : List Oper} {ty : TypeId} {pos : String} {after : Array Edge} {C : Nat → World → Prop} {N : Nat} {Φ : Nat → Array Value → Value → Prop} {K : (Nat → Value) → Prop} {i : Nat}
end
end V
end Go.Proofs.YtkjnnifnmoekjaaDoor
namespace Go.Proofs.YtkjnnifnmoekjaaDoor
namespace V
open Flat (enc)
set_option linter.unusedVariables false
set_option linter.unusedSimpArgs false
open Go.RowKit
namespace R
section
variable {P : Program} {σ : Nat → Value} {w ws : World} {w0 : Base} {Sn : List Snap} {O : List (Nat × Obj)} {ty : TypeId}
theorem u8 {s t : TypeId} {x : Operand} {u : UInt8} [T : CIn P t] [T' : CU8 P s] (hx : ev σ x = .int .u8 u.toNat) : Yl P σ (.convert s t x) ty w (.int .i64 u.toNat) w := Yl.mk fun d pos after g => by
  have := wrap_in (n := (u.toNat : Int)) (by have := u.toNat_lt; omega)
  simp [execOp, hx, convert, T'.run, T.run, Conv.intToInt, this]
theorem xor_lt {m n : Nat} (hm : m < 2 ^ 63) (hn : n < 2 ^ 63) : m ^^^ n < 2 ^ 63 := Nat.xor_lt_two_pow hm hn
theorem xor {t t' : TypeId} {x y : Operand} {m n : Nat} (hx : ev σ x = .int .i64 (m : Int)) (hy : ev σ y = .int .i64 (n : Int)) (hm : m < 2 ^ 63) (hn : n < 2 ^ 63) :
    Yl P σ (.binOp .xor t x y t') ty w (.int .i64 ((m ^^^ n : Nat) : Int)) w := by
  refine exBin (by rw [hx, hy]; rfl) ?_
  rw [hx, hy]
  have h1 : BitVec.ofInt 64 (m : Int) = BitVec.ofNat 64 m := BitVec.ofInt_natCast ..
  have h2 : BitVec.ofInt 64 (n : Int) = BitVec.ofNat 64 n := BitVec.ofInt_natCast ..
  have h3 : (BitVec.ofNat 64 m ^^^ BitVec.ofNat 64 n).toNat = m ^^^ n := by
    rw [BitVec.toNat_xor, BitVec.toNat_ofNat, BitVec.toNat_ofNat, Nat.mod_eq_of_lt (by omega), Nat.mod_eq_of_lt (by omega)]
  have h4 := xor_lt hm hn
  have h5 := wrap_in (n := ((m ^^^ n : Nat) : Int)) (by omega)
  have e : binOp .xor t (.int .i64 (m : Int)) (.int .i64 (n : Int)) = Op.intBits .xor .i64 m n := rfl
  rw [e]
  show (Pure.pure (Value.int .i64 (IntKind.i64.wrap ((BitVec.ofInt 64 (m : Int) ^^^ BitVec.ofInt 64 (n : Int)).toNat : Int))) : Sem Value).run P w = _
  rw [h1, h2, h3, h5]
  rfl
/-- A struct's cells, its parts filled in. -/
def bl (pl : List (Nat × Nat)) : List Value → List (Nat × Value) → List Value
  | zs, [] => zs
  | zs, (i, v) :: r => bl pl (zs.take (pl.getD i (0, 0)).1 ++ v.cells.toList ++ zs.drop ((pl.getD i (0, 0)).1 + (pl.getD i (0, 0)).2)) r
def blok (pl : List (Nat × Nat)) (n : Nat) : List (Nat × Value) → Bool
  | [] => true
  | (i, v) :: r => Nat.blt i pl.length && Nat.beq v.cells.toList.length (pl.getD i (0, 0)).2 && Nat.ble ((pl.getD i (0, 0)).1 + (pl.getD i (0, 0)).2) n && blok pl n r
theorem fill_bl (pl : List (Nat × Nat)) : ∀ (parts : List (Nat × Value)) (zs : List Value), blok pl zs.length parts = true → Instr.fill (pl.toArray[·]?) zs.toArray parts = some (bl pl zs parts).toArray
  | [], zs, _ => rfl
  | (i, v) :: r, zs, h => by
    simp only [blok, Bool.and_eq_true] at h
    obtain ⟨⟨⟨h1, h2⟩, h3⟩, h4⟩ := h
    have h1 : i < pl.length := Nat.le_of_ble_eq_true h1
    have h2 := Nat.eq_of_beq_eq_true h2
    have h3 := Nat.le_of_ble_eq_true h3
    have hp : pl.toArray[i]? = some (pl.getD i (0, 0)) := by simp [h1]
    have hbl : bl pl zs ((i, v) :: r) = bl pl (zs.take (pl.getD i (0, 0)).1 ++ v.cells.toList ++ zs.drop ((pl.getD i (0, 0)).1 + (pl.getD i (0, 0)).2)) r := rfl
    rw [hbl]
    clear hbl
    generalize pl.getD i (0, 0) = q at *
    obtain ⟨off, size⟩ := q
    have h2' : v.cells.size = size := by simpa using h2
    simp only [Instr.fill, hp]
    rw [if_neg (by simp at h3 ⊢; omega)]
    have hf := Great.foldl_set off v.cells.toList 0 zs.toArray
    have he : (v.cells.zipIdx.foldl (fun cs (x : Value × Nat) => cs.setIfInBounds (off + x.2) x.1) zs.toArray) = (zs.take off ++ v.cells.toList ++ zs.drop (off + size)).toArray := by
      have e1 : v.cells.zipIdx.foldl (fun cs (x : Value × Nat) => cs.setIfInBounds (off + x.2) x.1) zs.toArray = (v.cells.toList.zipIdx 0).foldl (fun cs (x : Value × Nat) => cs.setIfInBounds (off + x.2) x.1) zs.toArray := by
        rw [← Array.foldl_toList, Array.toList_zipIdx]
      rw [e1]
      apply Array.ext_getElem?
      intro k
      rw [hf.2 k]
      simp only [Nat.add_zero, List.getElem?_toArray, List.size_toArray, List.getElem?_append, List.getElem?_take, List.getElem?_drop, List.length_append, List.length_take]
      simp only [Array.length_toList, h2'] at *
      grind
    have hlen : (zs.take off ++ v.cells.toList ++ zs.drop (off + size)).length = zs.length := by
      simp only [List.length_append, List.length_take, List.length_drop, Array.length_toList, h2']
      simp at h3; omega
    have ih := fill_bl pl r (zs.take off ++ v.cells.toList ++ zs.drop (off + size)) (by rw [hlen]; exact h4)
    rw [← ih, ← he]
/-- A struct's literal, by its fields' places. -/
theorem buildL {t : TypeId} {parts : Array (Nat × Operand)} {z : Value} {pl : List (Nat × Nat)} {zs cs : List Value} {ps : List (Nat × Value)} [Y : CZ P t z] [B : CB P t pl] (hz : z.cells.toList = zs) (hp : List.map (fun x => (x.fst, ev σ x.snd)) parts.toList = ps) (hok : blok pl zs.length ps = true) (hc : bl pl zs ps = cs) :
    Yl P σ (.build t parts) ty w (.agg cs.toArray) w := Yl.mk fun d pos after g => by
  obtain ⟨fs, h1, h2⟩ := B.run w
  have hz' : z.cells = zs.toArray := by rw [← hz]
  have h3 := fill_bl pl ps zs hok
  rw [hc, ← hp] at h3
  simp only [List.getElem?_toArray] at h3
  simp only [execOp, Instr.build, Sem.run_bind, Y.run, h1, h2, Result.andThen_ok, hz']
  simp [h3]
end
end R
section
variable {P : Program} {n : Nat} {Q : Post} {σ : Nat → Value} {w ws : World} {w0 : Base} {Sn : List Snap} {O O1 O2 E : List (Nat × Obj)} {ops : Array Oper} {rest : List Oper} {d : Nat} {ty : TypeId} {pos : String} {after : Array Edge}
end
section
variable {α : Type} [F : Flat α] {P : Program} {n : Nat} {Q : Post} {σ : Nat → Value} {w ws : World} {w0 : Base} {Sn : List Snap} {O O1 O2 E : List (Nat × Obj)} {ops : Array Oper} {rest : List Oper} {d : Nat} {ty : TypeId} {ps : String} {after : Array Edge} {e : TypeId} {v : Value} {xs : List α}
end
end V
end Go.Proofs.YtkjnnifnmoekjaaDoor
namespace Go.Proofs.YtkjnnifnmoekjaaDoor
namespace V
set_option linter.unusedVariables false
set_option linter.unusedSimpArgs false
open Go.RowKit
/-- A tree: a value with all that it leads to, which is not written any more. -/
inductive Tr where
  | v (x : Value)
  | sl (n : Nat) (cs : List Tr)
  | pt (cs : List Tr) (j : Nat)
  | fn (f : Fn) (caps : List Tr)
/-- An abstract value: a tree, or a way into a block of the call's own. -/
inductive AV where
  | any
  | t (c : Tr)
  | os (b j n : Nat)
  | op (b j : Nat)
  | fn (f : Fn) (caps : List AV)
  | agg (cs : List AV)
  | tup (vs : List AV)
  | oi (f j n : Nat)
structure Loc where
  blk : Nat
  size : Nat
  k : Nat
def Loc.off (_ : Loc) : Nat := 0
/-- A block of the call's own: its cells, the type it is made of, the cells of an element. -/
inductive Cs where
  | tr (cs : List Tr)
  | mx (cs : List AV)
  | fm (css : List (List Tr))
def Cs.list : Cs → List AV
  | .tr cs => cs.map .t
  | .mx cs => cs
  | .fm _ => []
def Cs.noFm : Cs → Bool
  | .fm _ => false
  | _ => true
structure Ob where
  c : Cs
  ty : TypeId
  k : Nat
def Ob.cells (ob : Ob) : List AV := ob.c.list
mutual
/-- Other names for the own blocks. -/
def AV.ren (θ : Nat → Nat) : AV → AV
  | .any => .any
  | .t c => .t c
  | .os b j n => .os (θ b) j n
  | .op b j => .op (θ b) j
  | .fn f cs => .fn f (AV.renL θ cs)
  | .agg cs => .agg (AV.renL θ cs)
  | .tup cs => .tup (AV.renL θ cs)
  | .oi f j n => .oi (θ f) j n
def AV.renL (θ : Nat → Nat) : List AV → List AV
  | [] => []
  | c :: cs => AV.ren θ c :: AV.renL θ cs
end
def Cs.ren (θ : Nat → Nat) : Cs → Cs
  | .tr cs => .tr cs
  | .mx cs => .mx (AV.renL θ cs)
  | .fm css => .fm css
def Ob.ren (θ : Nat → Nat) (ob : Ob) : Ob := ⟨ob.c.ren θ, ob.ty, ob.k⟩
theorem AV.renL_get (θ : Nat → Nat) : ∀ (cs : List AV) (j : Nat), (AV.renL θ cs)[j]? = cs[j]?.map (AV.ren θ)
  | [], j => by simp [AV.renL]
  | c :: cs, 0 => by simp [AV.renL]
  | c :: cs, j + 1 => by simpa [AV.renL] using AV.renL_get θ cs j
theorem AV.renL_len (θ : Nat → Nat) : ∀ (cs : List AV), (AV.renL θ cs).length = cs.length
  | [] => rfl
  | c :: cs => by simp [AV.renL, AV.renL_len θ cs]
theorem Ob.ren_get (θ : Nat → Nat) (ob : Ob) (j : Nat) : (ob.ren θ).cells[j]? = ob.cells[j]?.map (AV.ren θ) := by
  obtain ⟨c, t, k⟩ := ob
  cases c with
  | tr cs =>
    simp only [Ob.ren, Ob.cells, Cs.ren, Cs.list, List.getElem?_map]
    cases cs[j]? <;> rfl
  | mx cs => exact AV.renL_get θ cs j
  | fm css => rfl
theorem Ob.ren_len (θ : Nat → Nat) (ob : Ob) : (ob.ren θ).cells.length = ob.cells.length := by
  obtain ⟨c, t, k⟩ := ob
  cases c with
  | tr cs => rfl
  | mx cs => exact AV.renL_len θ cs
  | fm css => rfl
example (θ : Nat → Nat) : AV.ren θ (.tup [.os 0 0 3, .t (.v .nilFunc)]) = .tup [.os (θ 0) 0 3, .t (.v .nilFunc)] := rfl
def plain : Value → Bool
  | .bool _ | .int _ _ | .string _ | .nilFunc | .nilIface | .pointer none | .slice none 0 0 => true
  | _ => false
theorem plain_cell {x : Value} (h : plain x = true) : x.oneCell' = true := by
  cases x <;> first | rfl | (simp [plain] at h)
/-- Where an own block lies: nowhere (nil), here; or it is named otherwise by now; or it is a family: own blocks that are known by one name. -/
inductive Pl where
  | nl
  | ad (L : Loc)
  | dead
  | fm (F : List (Option Loc))
/-- The blocks of memory that a name stands for. -/
def Pl.has : Pl → Nat → Prop
  | .ad L, B => L.blk = B
  | .fm F, B => ∃ L : Loc, some L ∈ F ∧ L.blk = B
  | _, _ => False
def Pl.all : Pl → List Nat
  | .ad L => [L.blk]
  | .fm F => F.filterMap fun o => o.map (·.blk)
  | _ => []
theorem Pl.mem_all {p : Pl} {B : Nat} : B ∈ p.all ↔ p.has B := by
  cases p with
  | nl => simp [Pl.all, Pl.has]
  | dead => simp [Pl.all, Pl.has]
  | ad L => simp only [Pl.all, Pl.has, List.mem_singleton]; exact ⟨fun h => h.symm, fun h => h.symm⟩
  | fm F =>
    simp only [Pl.all, Pl.has, List.mem_filterMap]
    constructor
    · rintro ⟨o, h1, h2⟩
      cases o with
      | none => cases h2
      | some L => exact ⟨L, h1, by simpa using h2⟩
    · rintro ⟨L, h1, h2⟩
      exact ⟨some L, h1, by simp [h2]⟩
abbrev Mp := List Pl
inductive TRel (w : World) (U : Nat → Prop) : Tr → Value → Prop
  | v (x : Value) (h : plain x = true) : TRel w U (.v x) x
  | nil : TRel w U (.sl 0 []) (.slice none 0 0)
  | sl (B off n cap : Nat) (cs : List Tr) (ys : List Value) (hU : U B) (hl : ys.length = cs.length) (h1 : ∀ y, y ∈ ys → y.oneCell' = true) (hc : ∀ (j : Nat) y, ys[j]? = some y → w.cell? ⟨B, off + j, none⟩ = some y)
      (hr : ∀ (j : Nat) c y, cs[j]? = some c → ys[j]? = some y → TRel w U c y) (hn : n ≤ cap) : TRel w U (.sl n cs) (.slice (some ⟨B, off, none⟩) n cap)
  | pt (B off j : Nat) (cs : List Tr) (ys : List Value) (hU : U B) (hl : ys.length = cs.length) (h1 : ∀ y, y ∈ ys → y.oneCell' = true) (hc : ∀ (j : Nat) y, ys[j]? = some y → w.cell? ⟨B, off + j, none⟩ = some y)
      (hr : ∀ (j : Nat) c y, cs[j]? = some c → ys[j]? = some y → TRel w U c y) : TRel w U (.pt cs j) (.pointer (some ⟨B, off + j, none⟩))
  | fn (f : Fn) (cs : List Tr) (ys : List Value) (hl : ys.length = cs.length) (hr : ∀ (j : Nat) c y, cs[j]? = some c → ys[j]? = some y → TRel w U c y) : TRel w U (.fn f cs) (.func f #[] ys.toArray)
  | sl0 (a : Addr) (cap : Nat) : TRel w U (.sl 0 []) (.slice (some a) 0 cap)
inductive Rel (w : World) (U : Nat → Prop) (M : Mp) : AV → Value → Prop
  | any (y : Value) : Rel w U M .any y
  | t (c : Tr) (y : Value) (h : TRel w U c y) : Rel w U M (.t c) y
  | os (b j n cap : Nat) (L : Loc) (hM : M[b]? = some (.ad L)) (hcap : L.off + j + cap * L.k = L.size) (hn : n ≤ cap) (hx : cap ≤ maxLen) : Rel w U M (.os b j n) (.slice (some ⟨L.blk, L.off + j, none⟩) n cap)
  | osn (b : Nat) (hM : M[b]? = some .nl) : Rel w U M (.os b 0 0) (.slice none 0 0)
  | osd (b j n : Nat) (y : Value) (h1 : y.oneCell' = true) (hM : M[b]? = some .dead) : Rel w U M (.os b j n) y
  | opd (b j : Nat) (y : Value) (h1 : y.oneCell' = true) (hM : M[b]? = some .dead) : Rel w U M (.op b j) y
  | osz (b j o : Nat) (L : Loc) (hM : M[b]? = some (.ad L)) : Rel w U M (.os b j 0) (.slice (some ⟨L.blk, o, none⟩) 0 0)
  | op (b j : Nat) (L : Loc) (hM : M[b]? = some (.ad L)) : Rel w U M (.op b j) (.pointer (some ⟨L.blk, L.off + j, none⟩))
  | fn (f : Fn) (cs : List AV) (ys : List Value) (hl : ys.length = cs.length) (hr : ∀ (j : Nat) c y, cs[j]? = some c → ys[j]? = some y → Rel w U M c y) : Rel w U M (.fn f cs) (.func f #[] ys.toArray)
  | agg (cs : List AV) (ys : List Value) (hl : ys.length = cs.length) (h1 : ∀ y, y ∈ ys → y.oneCell' = true) (hr : ∀ (j : Nat) c y, cs[j]? = some c → ys[j]? = some y → Rel w U M c y) : Rel w U M (.agg cs) (.agg ys.toArray)
  | tup (cs : List AV) (ys : List Value) (hl : ys.length = cs.length) (hr : ∀ (j : Nat) c y, cs[j]? = some c → ys[j]? = some y → Rel w U M c y) : Rel w U M (.tup cs) (.tuple ys.toArray)
  | oi (f j n cap : Nat) (F : List (Option Loc)) (L : Loc) (hM : M[f]? = some (.fm F)) (hj : F[j]? = some (some L)) (hcap : cap * L.k = L.size) (hn : n ≤ cap) (hx : cap ≤ maxLen) : Rel w U M (.oi f j n) (.slice (some ⟨L.blk, 0, none⟩) n cap)
  | oin (f j : Nat) (F : List (Option Loc)) (hM : M[f]? = some (.fm F)) (hj : F[j]? = some none) : Rel w U M (.oi f j 0) (.slice none 0 0)
  | oiz (f j o : Nat) (F : List (Option Loc)) (L : Loc) (hM : M[f]? = some (.fm F)) (hj : F[j]? = some (some L)) : Rel w U M (.oi f j 0) (.slice (some ⟨L.blk, o, none⟩) 0 0)
  | oid (f j n : Nat) (y : Value) (h1 : y.oneCell' = true) (hM : M[f]? = some .dead) : Rel w U M (.oi f j n) y
theorem cell_eq {w w' : World} {B o : Nat} (h : w'.heap[B]? = w.heap[B]?) : w'.cell? ⟨B, o, none⟩ = w.cell? ⟨B, o, none⟩ := World.cell?_of_block (w := w) (by exact h)
theorem TRel.mono {w w' : World} {U U' : Nat → Prop} (hw : ∀ B, U B → w'.heap[B]? = w.heap[B]?) (hU : ∀ B, U B → U' B) {c : Tr} {y : Value} (h : TRel w U c y) : TRel w' U' c y := by
  induction h with
  | v x h => exact .v x h
  | nil => exact .nil
  | sl B off n cap cs ys hB hl h1 hc _ hn ih => exact .sl B off n cap cs ys (hU _ hB) hl h1 (fun j y hy => by rw [cell_eq (hw _ hB)]; exact hc j y hy) (fun j c y h1 h2 => ih j c y h1 h2) hn
  | pt B off j cs ys hB hl h1 hc _ ih => exact .pt B off j cs ys (hU _ hB) hl h1 (fun j y hy => by rw [cell_eq (hw _ hB)]; exact hc j y hy) (fun j c y h1 h2 => ih j c y h1 h2)
  | fn f cs ys hl _ ih => exact .fn f cs ys hl (fun j c y h1 h2 => ih j c y h1 h2)
  | sl0 a cap => exact .sl0 a cap
theorem Rel.mono {w w' : World} {U U' : Nat → Prop} {M M' : Mp} (hw : ∀ B, U B → w'.heap[B]? = w.heap[B]?) (hU : ∀ B, U B → U' B) (hM : ∀ (b : Nat) x, M[b]? = some x → M'[b]? = some x) {c : AV} {y : Value} (h : Rel w U M c y) : Rel w' U' M' c y := by
  induction h with
  | any y => exact .any y
  | t c y h => exact .t c y (h.mono hw hU)
  | os b j n cap L h hc hn hx => exact .os b j n cap L (hM _ _ h) hc hn hx
  | osn b h => exact .osn b (hM _ _ h)
  | osz b j o L h => exact .osz b j o L (hM _ _ h)
  | osd b j n y h1 h => exact .osd b j n y h1 (hM _ _ h)
  | opd b j y h1 h => exact .opd b j y h1 (hM _ _ h)
  | op b j L h => exact .op b j L (hM _ _ h)
  | oi f j n cap F L h h1 h2 h3 h4 => exact .oi f j n cap F L (hM _ _ h) h1 h2 h3 h4
  | oin f j F h h1 => exact .oin f j F (hM _ _ h) h1
  | oiz f j o F L h h1 => exact .oiz f j o F L (hM _ _ h) h1
  | oid f j n y h1 h => exact .oid f j n y h1 (hM _ _ h)
  | fn f cs ys hl _ ih => exact .fn f cs ys hl (fun j c y h1 h2 => ih j c y h1 h2)
  | agg cs ys hl h1 _ ih => exact .agg cs ys hl h1 (fun j c y h1 h2 => ih j c y h1 h2)
  | tup cs ys hl _ ih => exact .tup cs ys hl (fun j c y h1 h2 => ih j c y h1 h2)
/-- Where the call began; the blocks that were lent to it, and where they lie. -/
structure Bs where
  w : World
  L : Mp
  V : Nat → Prop
def Bs.X (s : Bs) : List Nat := s.L.flatMap Pl.all
def InM (M : Mp) (B : Nat) : Prop := ∃ (b : Nat) (p : Pl), M[b]? = some p ∧ p.has B
theorem InM.ad {M : Mp} {b : Nat} {L : Loc} (h : M[b]? = some (.ad L)) : InM M L.blk := ⟨b, _, h, rfl⟩
/-- A member of a family: its cells are plain values. -/
def Mbr (w : World) (ty : TypeId) (k : Nat) (cs : List Tr) : Option Loc → Prop
  | none => cs = []
  | some L => L.k = k ∧ cs.length ≤ L.size ∧ ∃ cur : Array Value, w.heap[L.blk]? = some (.cells cur ty (0, 0)) ∧ cur.size = L.size ∧ ∀ (j : Nat) c, cs[j]? = some c → ∃ v, c = .v v ∧ plain v = true ∧ cur[j]? = some v
def Fz (M : Mp) (w : World) : Nat → Prop := fun B => B < w.heap.size ∧ ¬ InM M B
def Blk (w : World) (U : Nat → Prop) (M : Mp) (ob : Ob) : Pl → Prop
  | .nl => ob.cells = []
  | .dead => False
  | .ad L => L.k = ob.k ∧ L.off + ob.cells.length ≤ L.size ∧ ∃ cur : Array Value, w.heap[L.blk]? = some (.cells cur ob.ty (0, 0)) ∧ cur.size = L.size ∧
      ∀ (j : Nat) c, ob.cells[j]? = some c → ∃ y, cur[L.off + j]? = some y ∧ y.oneCell' = true ∧ Rel w U M c y
  | .fm F => ∃ css, ob.c = .fm css ∧ css.length = F.length ∧ ∀ (j : Nat) cs l, css[j]? = some cs → F[j]? = some l → Mbr w ob.ty ob.k cs l
theorem Mbr.mono {w w' : World} {ty : TypeId} {k : Nat} {cs : List Tr} {l : Option Loc} (hw : ∀ L, l = some L → w'.heap[L.blk]? = w.heap[L.blk]?) (h : Mbr w ty k cs l) : Mbr w' ty k cs l := by
  cases l with
  | none => exact h
  | some L =>
    obtain ⟨h1, h2, cur, h3, h4⟩ := h
    exact ⟨h1, h2, cur, by rw [hw L rfl]; exact h3, h4⟩
/-- A block stands where it stood, and its cells too. -/
theorem Blk.mono {w w' : World} {U U' : Nat → Prop} {M M' : Mp} {ob : Ob} {x : Pl} (hw : ∀ B, x.has B → w'.heap[B]? = w.heap[B]?) (hr : ∀ c z, Rel w U M c z → Rel w' U' M' c z) (h : Blk w U M ob x) : Blk w' U' M' ob x := by
  cases x with
  | nl => exact h
  | dead => exact h
  | ad L =>
    obtain ⟨h1, h2, cur, h3, h4, h5⟩ := h
    refine ⟨h1, h2, cur, by rw [hw _ rfl]; exact h3, h4, fun j c hc => ?_⟩
    obtain ⟨y, g1, g2, g3⟩ := h5 j c hc
    exact ⟨y, g1, g2, hr _ _ g3⟩
  | fm F =>
    obtain ⟨css, h1, h2, h3⟩ := h
    exact ⟨css, h1, h2, fun j cs l g1 g2 => (h3 j cs l g1 g2).mono fun L e => hw _ ⟨L, by rw [← e]; exact get_mem g2, rfl⟩⟩
/-- The library's tables, where a seat's functions read them. -/
def TabOk (w : World) (U : Nat → Prop) : Prop := ∃ g, Tryd.prog.globalNamed "internal/strconv.uint64pow10" = some g ∧ U g ∧ Lib.TabIs Tryd.prog w "internal/strconv.uint64pow10" .u64 Lib.pow10Tab
theorem TabOk.mono {w w' : World} {U U' : Nat → Prop} (hw : ∀ B, U B → w'.heap[B]? = w.heap[B]?) (hU : ∀ B, U B → U' B) (h : TabOk w U) : TabOk w' U' := by
  obtain ⟨g, h1, h2, h3⟩ := h
  refine ⟨g, h1, hU g h2, ?_⟩
  unfold Lib.TabIs World.var? at *
  rw [h1] at h3 ⊢
  simp only [Option.bind_some] at h3 ⊢
  rw [hw g h2]; exact h3
/-- The members of a family lie apart. -/
def FOk (F : List (Option Loc)) : Prop := ∀ (i j : Nat) (L L' : Loc), F[i]? = some (some L) → F[j]? = some (some L') → L.blk = L'.blk → i = j
structure Mem (s : Bs) (M : Mp) (O : List (Option Ob)) (U : Nat → Prop) (w : World) : Prop where
  base : BelowX s.X s.w w
  lent : ∀ (b : Nat) x, s.L[b]? = some x → M[b]? = some x
  len : M.length = O.length
  lt : ∀ B, InM M B → B < w.heap.size
  fresh : ∀ B, InM M B → s.w.heap.size ≤ B ∨ B ∈ s.X
  sep : ∀ (b b' : Nat) (p p' : Pl) (B : Nat), M[b]? = some p → M[b']? = some p' → p.has B → p'.has B → b = b'
  fok : ∀ (f : Nat) (F : List (Option Loc)), M[f]? = some (.fm F) → FOk F
  own : ∀ (b : Nat) ob x, O[b]? = some (some ob) → M[b]? = some x → Blk w U M ob x
  u : ∀ B, U B → Fz M w B ∧ (s.V B ∨ s.w.heap.size ≤ B)
  tab : TabOk w U
theorem Bs.inX {s : Bs} {b : Nat} {p : Pl} {B : Nat} (h : s.L[b]? = some p) (hB : p.has B) : B ∈ s.X :=
  List.mem_flatMap.2 ⟨p, get_mem h, Pl.mem_all.2 hB⟩
theorem Bs.exX {s : Bs} {B : Nat} (h : B ∈ s.X) : ∃ (b : Nat) (p : Pl), s.L[b]? = some p ∧ p.has B := by
  obtain ⟨x, hx, e⟩ := List.mem_flatMap.1 h
  obtain ⟨b, hb⟩ := mem_get hx
  exact ⟨b, x, hb, Pl.mem_all.1 e⟩
abbrev Fr := Nat → AV
def Rels (w : World) (U : Nat → Prop) (M : Mp) (σ : Fr) (σc : Nat → Value) : Prop := ∀ t, Rel w U M (σ t) (σc t)
/-- Two worlds that hold the same in all that is known. -/
def Agr' (M : Mp) (O : List (Option Ob)) (w w' : World) : Prop := w.heap.size ≤ w'.heap.size ∧ ∀ B, B < w.heap.size → (∀ (b : Nat) (p : Pl), M[b]? = some p → p.has B → ∃ ob, O[b]? = some (some ob)) → w'.heap[B]? = w.heap[B]?
theorem Agr'.refl (M : Mp) (O : List (Option Ob)) (w : World) : Agr' M O w w := ⟨Nat.le_refl _, fun _ _ _ => rfl⟩
theorem Agr'.fz {s : Bs} {M : Mp} {O : List (Option Ob)} {U : Nat → Prop} {w w' : World} (h : Agr' M O w w') (S : Mem s M O U w) {B : Nat} (hB : U B) : w'.heap[B]? = w.heap[B]? :=
  h.2 B (S.u B hB).1.1 fun b L h1 h2 => absurd ⟨b, L, h1, h2⟩ (S.u B hB).1.2
theorem Agr'.own {s : Bs} {M : Mp} {O : List (Option Ob)} {U : Nat → Prop} {w w' : World} (h : Agr' M O w w') (S : Mem s M O U w) {b : Nat} {L : Loc} {ob : Ob} (hM : M[b]? = some (.ad L)) (hO : O[b]? = some (some ob)) : w'.heap[L.blk]? = w.heap[L.blk]? :=
  h.2 _ (S.lt _ (.ad hM)) fun b' p' h1 h2 => by
    have := S.sep b' b p' _ _ h1 hM h2 rfl
    subst this; exact ⟨ob, hO⟩
/-- What a step reads: what it yields is the same in all later worlds that hold the same. -/
def Rd (P : Program) (s : Bs) (O : List (Option Ob)) (σ : Fr) (op : Op) (ty : TypeId) (x : AV) : Prop :=
  ∀ M U w σc, Mem s M O U w → Rels w U M σ σc → ∃ y, Rel w U M x y ∧ ∀ w', Agr' M O w w' → Yl P σc op ty w' y w'
def evA (σ : Fr) : Operand → AV
  | .tmp t => σ t
  | .const v => bif plain v then .t (.v v) else match v with | .agg cs => bif cs.toList.all plain then .agg (cs.toList.map fun x => .t (.v x)) else .any | _ => .any
  | .global _ => .any
  | .func f => .fn (.func f) []
theorem evA_rel {w : World} {U : Nat → Prop} {M : Mp} {σ : Fr} {σc : Nat → Value} (h : Rels w U M σ σc) (x : Operand) : Rel w U M (evA σ x) (ev σc x) := by
  cases x with
  | tmp t => exact h t
  | const v =>
    simp only [evA, ev]
    cases hp : plain v with
    | true => exact .t _ _ (.v _ hp)
    | false =>
      simp only [cond_false]
      cases v <;> try exact .any _
      rename_i cs
      simp only
      cases hq : cs.toList.all plain with
      | false => exact .any _
      | true =>
        simp only [cond_true]
        have hall : ∀ x, x ∈ cs.toList → plain x = true := fun x hx => List.all_eq_true.1 hq x hx
        have := Rel.agg (w := w) (U := U) (M := M) (cs.toList.map fun x => AV.t (.v x)) cs.toList (by simp) (fun y hy => plain_cell (hall y hy)) (fun j c y h1 h2 => by
          rw [List.getElem?_map, h2] at h1
          simp at h1; subst h1
          exact .t _ _ (.v _ (hall y (get_mem h2))))
        simpa using this
  | global g => exact .any _
  | func f => exact .fn _ [] [] rfl (fun j c y h => by simp at h)
theorem Rel.int {w : World} {U : Nat → Prop} {M : Mp} {x y : Value} (h : Rel w U M (.t (.v x)) y) : y = x := by
  cases h with | t _ _ h => cases h; rfl
end V
end Go.Proofs.YtkjnnifnmoekjaaDoor
namespace Go.Proofs.YtkjnnifnmoekjaaDoor
namespace V
set_option linter.unusedVariables false
set_option linter.unusedSimpArgs false
open Go.RowKit
abbrev iA (n : Int) : AV := .t (.v (.int .i64 n))
abbrev bA (b : Bool) : AV := .t (.v (.bool b))
abbrev sA (s : ByteArray) : AV := .t (.v (.string s))
namespace Rd
section
variable {P : Program} {s : Bs} {O : List (Option Ob)} {σ : Fr} {ty : TypeId} {op : Op}
theorem of1 {x : Operand} {a b : Value} (hx : evA σ x = .t (.v a)) (hb : plain b = true) (h : ∀ σc w, ev σc x = a → Yl P σc op ty w b w) : Rd P s O σ op ty (.t (.v b)) := by
  intro M U w σc S hσ
  have e := evA_rel hσ x
  rw [hx] at e
  exact ⟨b, .t _ _ (.v _ hb), fun w' _ => h σc w' e.int⟩
theorem of2 {x y : Operand} {a a' b : Value} (hx : evA σ x = .t (.v a)) (hy : evA σ y = .t (.v a')) (hb : plain b = true) (h : ∀ σc w, ev σc x = a → ev σc y = a' → Yl P σc op ty w b w) : Rd P s O σ op ty (.t (.v b)) := by
  intro M U w σc S hσ
  have e := evA_rel hσ x
  have e' := evA_rel hσ y
  rw [hx] at e; rw [hy] at e'
  exact ⟨b, .t _ _ (.v _ hb), fun w' _ => h σc w' e.int e'.int⟩
theorem move {x : Operand} : Rd P s O σ (.move x) ty (evA σ x) := fun M U w σc S hσ => ⟨_, evA_rel hσ x, fun w' _ => R.move⟩
theorem assign {x : Operand} : Rd P s O σ (.assign x) ty (evA σ x) := fun M U w σc S hσ => ⟨_, evA_rel hσ x, fun w' _ => R.assign⟩
theorem moveT {x : Operand} {c : Tr} (hx : evA σ x = .t c) : Rd P s O σ (.move x) ty (.t c) := hx ▸ move
theorem moveO {x : Operand} {b j n : Nat} (hx : evA σ x = .os b j n) : Rd P s O σ (.move x) ty (.os b j n) := hx ▸ move
theorem moveP {x : Operand} {b j : Nat} (hx : evA σ x = .op b j) : Rd P s O σ (.move x) ty (.op b j) := hx ▸ move
theorem moveU {x : Operand} {cs : List AV} (hx : evA σ x = .tup cs) : Rd P s O σ (.move x) ty (.tup cs) := hx ▸ move
theorem asnT {x : Operand} {c : Tr} (hx : evA σ x = .t c) : Rd P s O σ (.assign x) ty (.t c) := hx ▸ assign
theorem asnO {x : Operand} {b j n : Nat} (hx : evA σ x = .os b j n) : Rd P s O σ (.assign x) ty (.os b j n) := hx ▸ assign
theorem asnP {x : Operand} {b j : Nat} (hx : evA σ x = .op b j) : Rd P s O σ (.assign x) ty (.op b j) := hx ▸ assign
theorem pick_t {c x y : Operand} {b : Bool} (hc : evA σ c = bA b) (h : b = true) : Rd P s O σ (.pick c x y) ty (evA σ x) := fun M U w σc S hσ => by
  have e := evA_rel hσ c; rw [hc] at e
  exact ⟨_, evA_rel hσ x, fun w' _ => R.pick_t e.int h⟩
theorem pick_f {c x y : Operand} {b : Bool} (hc : evA σ c = bA b) (h : b = false) : Rd P s O σ (.pick c x y) ty (evA σ y) := fun M U w σc S hσ => by
  have e := evA_rel hσ c; rw [hc] at e
  exact ⟨_, evA_rel hσ y, fun w' _ => R.pick_f e.int h⟩
section
variable {t t' : TypeId} {x y : Operand} {m n : Int}
theorem lss (hx : evA σ x = iA m) (hy : evA σ y = iA n) : Rd P s O σ (.binOp .lss t x y t') ty (bA (decide (m < n))) := of2 hx hy rfl fun _ _ h1 h2 => R.lss h1 h2
theorem leq (hx : evA σ x = iA m) (hy : evA σ y = iA n) : Rd P s O σ (.binOp .leq t x y t') ty (bA (decide (m ≤ n))) := of2 hx hy rfl fun _ _ h1 h2 => R.leq h1 h2
theorem gtr (hx : evA σ x = iA m) (hy : evA σ y = iA n) : Rd P s O σ (.binOp .gtr t x y t') ty (bA (decide (n < m))) := of2 hx hy rfl fun _ _ h1 h2 => R.gtr h1 h2
theorem geq (hx : evA σ x = iA m) (hy : evA σ y = iA n) : Rd P s O σ (.binOp .geq t x y t') ty (bA (decide (n ≤ m))) := of2 hx hy rfl fun _ _ h1 h2 => R.geq h1 h2
theorem eql (hx : evA σ x = iA m) (hy : evA σ y = iA n) : Rd P s O σ (.binOp .eql t x y t') ty (bA (decide (m = n))) := of2 hx hy rfl fun _ _ h1 h2 => R.eql h1 h2
theorem neq (hx : evA σ x = iA m) (hy : evA σ y = iA n) : Rd P s O σ (.binOp .neq t x y t') ty (bA (!decide (m = n))) := of2 hx hy rfl fun _ _ h1 h2 => R.neq h1 h2
theorem add (hx : evA σ x = iA m) (hy : evA σ y = iA n) (hb : -9223372036854775808 ≤ m + n ∧ m + n ≤ 9223372036854775807) : Rd P s O σ (.binOp .add t x y t') ty (iA (m + n)) := of2 hx hy rfl fun _ _ h1 h2 => R.add h1 h2 hb
theorem sub (hx : evA σ x = iA m) (hy : evA σ y = iA n) (hb : -9223372036854775808 ≤ m - n ∧ m - n ≤ 9223372036854775807) : Rd P s O σ (.binOp .sub t x y t') ty (iA (m - n)) := of2 hx hy rfl fun _ _ h1 h2 => R.sub h1 h2 hb
theorem mul (hx : evA σ x = iA m) (hy : evA σ y = iA n) (hb : -9223372036854775808 ≤ m * n ∧ m * n ≤ 9223372036854775807) : Rd P s O σ (.binOp .mul t x y t') ty (iA (m * n)) := of2 hx hy rfl fun _ _ h1 h2 => R.mul h1 h2 hb
theorem quo (hx : evA σ x = iA m) (hy : evA σ y = iA n) (hb : 0 ≤ m ∧ m ≤ 9223372036854775807 ∧ 1 ≤ n) : Rd P s O σ (.binOp .quo t x y t') ty (iA (m / n)) := of2 hx hy rfl fun _ _ h1 h2 => R.quo h1 h2 hb
theorem rem (hx : evA σ x = iA m) (hy : evA σ y = iA n) (hb : 0 ≤ m ∧ 1 ≤ n) : Rd P s O σ (.binOp .rem t x y t') ty (iA (m % n)) := of2 hx hy rfl fun _ _ h1 h2 => R.rem h1 h2 hb
theorem xor {m n : Nat} (hx : evA σ x = iA (m : Int)) (hy : evA σ y = iA (n : Int)) (hm : m < 2 ^ 63) (hn : n < 2 ^ 63) : Rd P s O σ (.binOp .xor t x y t') ty (iA ((m ^^^ n : Nat) : Int)) := of2 hx hy rfl fun _ _ h1 h2 => R.xor h1 h2 hm hn
theorem neqB {a b : Bool} [T : CBo P t] (hx : evA σ x = bA a) (hy : evA σ y = bA b) : Rd P s O σ (.binOp .neq t x y t') ty (bA (!(a == b))) := of2 hx hy rfl fun _ _ h1 h2 => R.neqB h1 h2
theorem eqlS {a b : ByteArray} (hx : evA σ x = sA a) (hy : evA σ y = sA b) : Rd P s O σ (.binOp .eql t x y t') ty (bA (a.toList == b.toList)) := of2 hx hy rfl fun _ _ h1 h2 => R.eqlS h1 h2
theorem neqS {a b : ByteArray} (hx : evA σ x = sA a) (hy : evA σ y = sA b) : Rd P s O σ (.binOp .neq t x y t') ty (bA (!(a.toList == b.toList))) := of2 hx hy rfl fun _ _ h1 h2 => R.neqS h1 h2
theorem lssS {a b : ByteArray} (hx : evA σ x = sA a) (hy : evA σ y = sA b) : Rd P s O σ (.binOp .lss t x y t') ty (bA (Op.bytesLess a.toList b.toList)) := of2 hx hy rfl fun _ _ h1 h2 => R.lssS h1 h2
theorem addS {a b : ByteArray} (hx : evA σ x = sA a) (hy : evA σ y = sA b) (hb : a.size + b.size ≤ 9223372036854775807) : Rd P s O σ (.binOp .add t x y t') ty (sA (a ++ b)) := of2 hx hy rfl fun _ _ h1 h2 => R.addS h1 h2 hb
theorem unnot {b : Bool} (hx : evA σ x = bA b) : Rd P s O σ (.unOp .not t x) ty (bA (!b)) := of1 hx rfl fun _ _ h => R.unnot h
theorem neg (hx : evA σ x = iA n) (hb : -9223372036854775808 ≤ -n ∧ -n ≤ 9223372036854775807) : Rd P s O σ (.unOp .neg t x) ty (iA (-n)) := of1 hx rfl fun _ _ h => R.neg h hb
theorem max2 (hx : evA σ x = iA m) (hy : evA σ y = iA n) : Rd P s O σ (.call { callee := .builtin .max, args := #[x, y], argTypes := #[t, t'] }) ty (iA (max m n)) := of2 hx hy rfl fun _ _ h1 h2 => R.max2 h1 h2
theorem u8 {u : UInt8} [T : CIn P t'] [T' : CU8 P t] (hx : evA σ x = .t (.v (.int .u8 u.toNat))) : Rd P s O σ (.convert t t' x) ty (iA u.toNat) := of1 hx rfl fun _ _ h => R.u8 h
theorem lenSt {u : ByteArray} [T : CSt P t] (hx : evA σ x = sA u) : Rd P s O σ (.call { callee := .builtin .len, args := #[x], argTypes := #[t] }) ty (iA (u.size : Int)) := of1 hx rfl fun _ _ h => R.lenSt h
theorem ixStr {u : ByteArray} {i : Int} [T : CSt P t] (hx : evA σ x = sA u) (hy : evA σ y = iA i) (hi : 0 ≤ i ∧ i.toNat < u.size) : Rd P s O σ (.index t x y) ty (.t (.v (.int .u8 ((u[i.toNat]'hi.2).toNat : Nat)))) := of2 hx hy rfl fun _ _ h1 h2 => R.ixStr h1 h2 hi
end
theorem nilCheckO {x : Operand} {b j : Nat} {ob : Ob} (hx : evA σ x = .op b j) (hO : O[b]? = some (some ob)) : Rd P s O σ (.nilCheck x) ty (.op b j) := fun M U w σc S hσ => by
  have e := evA_rel hσ x; rw [hx] at e
  generalize hy : ev σc x = y at e
  cases e with
  | opd _ _ _ _ hM => exact (S.own _ _ _ hO hM).elim
  | op _ _ L hM => exact ⟨_, .op b j L hM, fun w' _ => R.nilCheck hy⟩
theorem extract {x : Operand} {i : Nat} {vs : List AV} {v : AV} (hx : evA σ x = .tup vs) (hv : vs[i]? = some v) : Rd P s O σ (.extract x i) ty v := fun M U w σc S hσ => by
  have e := evA_rel hσ x; rw [hx] at e
  generalize hy : ev σc x = y at e
  cases e with | tup _ ys hl hr =>
    obtain ⟨hi, _⟩ := List.getElem?_eq_some_iff.1 hv
    have hy' : ys[i]? = some (ys[i]'(by omega)) := List.getElem?_eq_getElem _
    exact ⟨_, hr i v _ hv hy', fun w' _ => R.extract hy (by simp [hy'])⟩
theorem lenT {x : Operand} {t e : TypeId} {n : Nat} {cs : List Tr} [T : CSl P t e] (hx : evA σ x = .t (.sl n cs)) : Rd P s O σ (.call { callee := .builtin .len, args := #[x], argTypes := #[t] }) ty (iA (n : Int)) := fun M U w σc S hσ => by
  have e := evA_rel hσ x; rw [hx] at e
  generalize hy : ev σc x = y at e
  refine ⟨.int .i64 n, .t _ _ (.v _ rfl), fun w' _ => ?_⟩
  cases e with | t _ _ h => cases h <;> exact R.lenSl hy
theorem lenO {x : Operand} {t e : TypeId} {b j n : Nat} {ob : Ob} [T : CSl P t e] (hx : evA σ x = .os b j n) (hO : O[b]? = some (some ob)) : Rd P s O σ (.call { callee := .builtin .len, args := #[x], argTypes := #[t] }) ty (iA (n : Int)) := fun M U w σc S hσ => by
  have e := evA_rel hσ x; rw [hx] at e
  generalize hy : ev σc x = y at e
  refine ⟨.int .i64 n, .t _ _ (.v _ rfl), fun w' _ => ?_⟩
  cases e with
  | osd _ _ _ _ _ hM => exact (S.own _ _ _ hO hM).elim
  | _ => exact R.lenSl hy
theorem ixT {t e : TypeId} {k n : Nat} {x y : Operand} {cs : List Tr} {i : Int} [T : CSl P t e] [Z : CS P e k] (hx : evA σ x = .t (.sl n cs)) (hy : evA σ y = iA i) (hi : 0 ≤ i ∧ i < n) : Rd P s O σ (.indexAddr t x y) ty (.t (.pt cs (i.toNat * k))) := fun M U w σc S hσ => by
  have e := evA_rel hσ x; rw [hx] at e
  have e' := evA_rel hσ y; rw [hy] at e'
  have hy' := e'.int
  generalize hx' : ev σc x = u at e
  cases e with | t _ _ h =>
    cases h with
    | nil => simp at hi; omega
    | sl0 => simp at hi; omega
    | sl B off _ cap _ ys hU hl h1 hc hr hn =>
      refine ⟨.pointer (some ⟨B, off + i.toNat * k, none⟩), .t _ _ (.pt B off _ _ ys hU hl h1 hc hr), fun w' _ => Yl.mk fun d pos after g => ?_⟩
      have : Addr.add ⟨B, off, none⟩ (i.toNat * k) = ⟨B, off + i.toNat * k, none⟩ := by unfold Addr.add; split <;> simp_all
      simp [execOp, hx', hy', Instr.indexAt, asIntOf, T.run, Z.run, hi, this]
theorem ixO {t e : TypeId} {k n : Nat} {x y : Operand} {b j : Nat} {i : Int} {ob : Ob} [T : CSl P t e] [Z : CS P e k] (hx : evA σ x = .os b j n) (hO : O[b]? = some (some ob)) (hy : evA σ y = iA i) (hi : 0 ≤ i ∧ i < n) : Rd P s O σ (.indexAddr t x y) ty (.op b (j + i.toNat * k)) := fun M U w σc S hσ => by
  have e := evA_rel hσ x; rw [hx] at e
  have e' := evA_rel hσ y; rw [hy] at e'
  have hy' := e'.int
  generalize hx' : ev σc x = u at e
  cases e with
  | osn => simp at hi; omega
  | osd _ _ _ _ _ hM => exact (S.own _ _ _ hO hM).elim
  | osz => simp at hi; omega
  | os _ _ _ cap L hM hcap hn hx1 =>
    refine ⟨.pointer (some ⟨L.blk, L.off + (j + i.toNat * k), none⟩), .op b _ L hM, fun w' _ => Yl.mk fun d pos after g => ?_⟩
    have : Addr.add ⟨L.blk, L.off + j, none⟩ (i.toNat * k) = ⟨L.blk, L.off + (j + i.toNat * k), none⟩ := by unfold Addr.add; split <;> simp_all <;> omega
    simp [execOp, hx', hy', Instr.indexAt, asIntOf, T.run, Z.run, hi, this]
theorem addr_add (B o n : Nat) : Addr.add ⟨B, o, none⟩ n = ⟨B, o + n, none⟩ := by unfold Addr.add; split <;> simp_all
theorem fieldT {t : TypeId} {x : Operand} {f off j : Nat} {cs : List Tr} [T : CF P t f off] (hx : evA σ x = .t (.pt cs j)) : Rd P s O σ (.fieldAddr t x f) ty (.t (.pt cs (j + off))) := fun M U w σc S hσ => by
  have e := evA_rel hσ x; rw [hx] at e
  generalize hx' : ev σc x = u at e
  cases e with | t _ _ h => cases h with | pt B o _ _ ys hU hl h1 hc hr =>
    refine ⟨.pointer (some ⟨B, o + (j + off), none⟩), .t _ _ (.pt B o _ _ ys hU hl h1 hc hr), fun w' _ => Yl.mk fun d pos after g => ?_⟩
    simp [execOp, hx', T.run, addr_add, Nat.add_assoc]
theorem fieldO {t : TypeId} {x : Operand} {f off b j : Nat} {ob : Ob} [T : CF P t f off] (hx : evA σ x = .op b j) (hO : O[b]? = some (some ob)) : Rd P s O σ (.fieldAddr t x f) ty (.op b (j + off)) := fun M U w σc S hσ => by
  have e := evA_rel hσ x; rw [hx] at e
  generalize hx' : ev σc x = u at e
  cases e with
  | opd _ _ _ _ hM => exact (S.own _ _ _ hO hM).elim
  | op _ _ L hM =>
    refine ⟨.pointer (some ⟨L.blk, L.off + (j + off), none⟩), .op b _ L hM, fun w' _ => Yl.mk fun d pos after g => ?_⟩
    simp [execOp, hx', T.run, addr_add, Nat.add_assoc]
theorem load1 {w : World} {σc : Nat → Value} {t : TypeId} {x : Operand} {B o : Nat} {y : Value} [T : CA P t false] (hx : ev σc x = .pointer (some ⟨B, o, none⟩)) (hc : w.cell? ⟨B, o, none⟩ = some y) : Yl P σc (.load t x) ty w y w := Yl.mk fun d pos after g => by
  simp [execOp, hx, Instr.loadAt, Instr.sureAddr, loadVar, T.run, hc]
theorem loadN {w : World} {σc : Nat → Value} {t : TypeId} {x : Operand} {B o m : Nat} {ys : List Value} [T : CA P t true] [Z : CS P t m] (hx : ev σc x = .pointer (some ⟨B, o, none⟩)) (hm : ys.length = m) (hc : ∀ (j : Nat) y, ys[j]? = some y → w.cell? ⟨B, o + j, none⟩ = some y) : Yl P σc (.load t x) ty w (.agg ys.toArray) w := Yl.mk fun d pos after g => by
  have hl : (loadCells ⟨B, o, none⟩ ys.length).run P w = .ok ys.toArray w :=
    run_loadCells_list (P := P) w _ ys (fun j u hu => by rw [addr_add]; exact hc j u hu)
  rw [hm] at hl
  simp [execOp, hx, Instr.loadAt, Instr.sureAddr, loadVar, T.run, Z.run, hl]
theorem loadT {t : TypeId} {x : Operand} {j : Nat} {cs : List Tr} {c : Tr} [T : CA P t false] (hx : evA σ x = .t (.pt cs j)) (hv : cs[j]? = some c) : Rd P s O σ (.load t x) ty (.t c) := fun M U w σc S hσ => by
  have e := evA_rel hσ x; rw [hx] at e
  generalize hx' : ev σc x = u at e
  cases e with | t _ _ h => cases h with | pt B o _ _ ys hU hl h1 hc hr =>
    obtain ⟨hi, _⟩ := List.getElem?_eq_some_iff.1 hv
    have hy : ys[j]? = some (ys[j]'(by omega)) := List.getElem?_eq_getElem _
    exact ⟨_, .t _ _ (hr j c _ hv hy), fun w' hw => load1 hx' (by rw [cell_eq (hw.fz S hU)]; exact hc j _ hy)⟩
theorem loadTR {t : TypeId} {x : Operand} {j m : Nat} {cs ds : List Tr} [T : CA P t true] [Z : CS P t m] (hx : evA σ x = .t (.pt cs j)) (hd : ds.length = m) (hv : ∀ i, i < m → cs[j + i]? = ds[i]?) : Rd P s O σ (.load t x) ty (.agg (ds.map .t)) := fun M U w σc S hσ => by
  have e := evA_rel hσ x; rw [hx] at e
  generalize hx' : ev σc x = u at e
  cases e with | t _ _ h => cases h with | pt B o _ _ ys hU hl h1 hc hr =>
    by_cases hm : m = 0
    · subst hm
      have : ds = [] := List.eq_nil_of_length_eq_zero hd
      subst this
      exact ⟨.agg #[], .agg [] [] rfl (fun y hy => by simp at hy) (fun j c y h => by simp at h), fun w' _ => loadN (ys := []) hx' rfl (fun j y h => by simp at h)⟩
    have hlen : j + m ≤ ys.length := by
      have h2 := hv (m - 1) (by omega)
      have h3 : (ds[m - 1]?).isSome = true := by rw [List.getElem?_eq_getElem (by omega)]; rfl
      rw [← h2] at h3
      rcases Nat.lt_or_ge (j + (m - 1)) cs.length with h4 | h4
      · omega
      · rw [List.getElem?_eq_none h4] at h3; cases h3
    have hyl : ((ys.drop j).take m).length = m := by simp; omega
    refine ⟨.agg ((ys.drop j).take m).toArray, .agg _ _ (by rw [List.length_map, hyl, hd]) (fun y hy => h1 y (List.mem_of_mem_drop (List.mem_of_mem_take hy))) ?_, fun w' hw => loadN hx' hyl ?_⟩
    · intro i c y hc1 hy1
      rw [List.getElem?_take] at hy1
      split at hy1
      · rename_i hi
        rw [List.getElem?_drop] at hy1
        rw [List.getElem?_map, ← hv i hi] at hc1
        cases hq : cs[j + i]? with
        | none => rw [hq] at hc1; simp at hc1
        | some q => rw [hq] at hc1; simp at hc1; subst hc1; exact .t _ _ (hr _ _ _ hq hy1)
      · cases hy1
    · intro i y hy1
      rw [List.getElem?_take] at hy1
      split at hy1
      · rw [List.getElem?_drop] at hy1
        rw [cell_eq (hw.fz S hU), Nat.add_assoc]
        exact hc _ _ hy1
      · cases hy1
theorem loadO {t : TypeId} {x : Operand} {b j : Nat} {ob : Ob} {c : AV} [T : CA P t false] (hx : evA σ x = .op b j) (hO : O[b]? = some (some ob)) (hv : ob.cells[j]? = some c) : Rd P s O σ (.load t x) ty c := fun M U w σc S hσ => by
  have e := evA_rel hσ x; rw [hx] at e
  generalize hx' : ev σc x = u at e
  cases e with
  | opd _ _ _ _ hM => exact (S.own _ _ _ hO hM).elim
  | op _ _ L hM =>
    obtain ⟨_, _, cur, hcur, _, hr⟩ := S.own b ob _ hO hM
    obtain ⟨y, hy, _, hR⟩ := hr j c hv
    refine ⟨y, hR, fun w' hw => load1 hx' ?_⟩
    rw [cell_eq (hw.own S hM hO), cell_of_row w _ _ cur _ _ hcur]; exact hy
theorem loadOR {t : TypeId} {x : Operand} {b j m : Nat} {ob : Ob} {ds : List AV} [T : CA P t true] [Z : CS P t m] (hx : evA σ x = .op b j) (hO : O[b]? = some (some ob)) (hd : ds.length = m) (hv : ∀ i, i < m → ob.cells[j + i]? = ds[i]?) : Rd P s O σ (.load t x) ty (.agg ds) := fun M U w σc S hσ => by
  have e := evA_rel hσ x; rw [hx] at e
  generalize hx' : ev σc x = u at e
  cases e with
  | opd _ _ _ _ hM => exact (S.own _ _ _ hO hM).elim
  | op _ _ L hM =>
    obtain ⟨_, hle, cur, hcur, hsz, hr⟩ := S.own b ob _ hO hM
    by_cases hm : m = 0
    · subst hm
      have : ds = [] := List.eq_nil_of_length_eq_zero hd
      subst this
      exact ⟨.agg #[], .agg [] [] rfl (fun y hy => by simp at hy) (fun j c y h => by simp at h), fun w' _ => loadN (ys := []) hx' rfl (fun j y h => by simp at h)⟩
    have hlen : j + m ≤ ob.cells.length := by
      have h2 := hv (m - 1) (by omega)
      have h3 : (ds[m - 1]?).isSome = true := by rw [List.getElem?_eq_getElem (by omega)]; rfl
      rw [← h2] at h3
      rcases Nat.lt_or_ge (j + (m - 1)) ob.cells.length with h4 | h4
      · omega
      · rw [List.getElem?_eq_none h4] at h3; cases h3
    have hyl : ((cur.toList.drop (L.off + j)).take m).length = m := by simp; omega
    have hget : ∀ i y, ((cur.toList.drop (L.off + j)).take m)[i]? = some y → i < m ∧ cur[L.off + (j + i)]? = some y := by
      intro i y h
      rw [List.getElem?_take] at h
      split at h
      · rename_i hi; rw [List.getElem?_drop] at h; exact ⟨hi, by rw [← Nat.add_assoc]; simpa using h⟩
      · cases h
    refine ⟨.agg ((cur.toList.drop (L.off + j)).take m).toArray, .agg _ _ (by rw [hyl, hd]) ?_ ?_, fun w' hw => loadN hx' hyl ?_⟩
    · intro y hy
      obtain ⟨i, hi⟩ := mem_get hy
      obtain ⟨h3, h4⟩ := hget i y hi
      obtain ⟨c, hc⟩ : ∃ c, ob.cells[j + i]? = some c := ⟨_, List.getElem?_eq_getElem (by omega)⟩
      obtain ⟨y', h5, h6, _⟩ := hr _ _ hc
      rw [h4] at h5; cases h5; exact h6
    · intro i c y hc1 hy1
      obtain ⟨h3, h4⟩ := hget i y hy1
      rw [← hv i h3] at hc1
      obtain ⟨y', h5, _, h6⟩ := hr _ _ hc1
      rw [h4] at h5; cases h5; exact h6
    · intro i y hy1
      obtain ⟨h3, h4⟩ := hget i y hy1
      rw [cell_eq (hw.own S hM hO), cell_of_row w _ _ cur _ _ hcur, Nat.add_assoc]; exact h4
theorem tr_get {cs : List Tr} {ty : TypeId} {k j : Nat} {c : Tr} (h : cs[j]? = some c) : (Ob.cells ⟨.tr cs, ty, k⟩)[j]? = some (.t c) := by
  simp [Ob.cells, Cs.list, h]
theorem loadOT {t : TypeId} {x : Operand} {b j k : Nat} {cs : List Tr} {T' : TypeId} {c : Tr} [T : CA P t false] (hx : evA σ x = .op b j) (hO : O[b]? = some (some ⟨.tr cs, T', k⟩)) (hv : cs[j]? = some c) : Rd P s O σ (.load t x) ty (.t c) :=
  loadO hx hO (tr_get hv)
theorem loadOTR {t : TypeId} {x : Operand} {b j k m : Nat} {cs ds : List Tr} {T' : TypeId} [T : CA P t true] [Z : CS P t m] (hx : evA σ x = .op b j) (hO : O[b]? = some (some ⟨.tr cs, T', k⟩)) (hd : ds.length = m) (hv : ∀ i, i < m → cs[j + i]? = ds[i]?) : Rd P s O σ (.load t x) ty (.agg (ds.map .t)) :=
  loadOR hx hO (by simpa using hd) (fun i hi => by simp [Ob.cells, Cs.list, hv i hi])
end
end Rd
end V
end Go.Proofs.YtkjnnifnmoekjaaDoor
namespace Go.Proofs.YtkjnnifnmoekjaaDoor
namespace V
set_option linter.unusedVariables false
set_option linter.unusedSimpArgs false
open Go.RowKit
abbrev Obs := List (Option Ob)
abbrev APost := Exit → Fr → Obs → Prop
def lft (s : Bs) (Q : APost) : Post := fun e σc w => ∃ M U σ O, Mem s M O U w ∧ Rels w U M σ σc ∧ Q e σ O
structure PC (P : Program) (n : Nat) (s : Bs) (c : Code) (Q : APost) (σ : Fr) (O : Obs) : Prop where
  h : ∀ M U σc w, Mem s M O U w → Rels w U M σ σc → CW P n c (lft s Q) σc w
structure PL (P : Program) (n : Nat) (s : Bs) (ops : Array Oper) (l : List Oper) (Q : APost) (σ : Fr) (O : Obs) : Prop where
  h : ∀ M U σc w, Mem s M O U w → Rels w U M σ σc → LW P n ops l (lft s Q) σc w
def thA (K : Fr → Obs → Prop) (Q : APost) : APost
  | .normal, σ, O => K σ O
  | e, σ, O => Q e σ O
def inA (id : Nat) (Q : APost) : APost
  | .exit id', σ, O => bif Nat.beq id' id then Q .normal σ O else Q (.exit id') σ O
  | e, σ, O => Q e σ O
def updA (σ : Fr) (d : Nat) (x : AV) : Fr := fun t => bif Nat.beq t d then x else σ t
theorem Rels.upd {w : World} {U : Nat → Prop} {M : Mp} {σ : Fr} {σc : Nat → Value} (h : Rels w U M σ σc) (d : Nat) {x : AV} {y : Value} (hx : Rel w U M x y) : Rels w U M (updA σ d x) (V.upd σc d y) := by
  intro t
  unfold updA V.upd
  cases Nat.beq t d with
  | true => exact hx
  | false => exact h t
section
variable {P : Program} {n : Nat} {s : Bs} {Q : APost} {σ : Fr} {O : Obs} {ops : Array Oper} {rest : List Oper} {d : Nat} {ty : TypeId} {pos : String} {after : Array Edge}
theorem PC.skip (h : Q .normal σ O) : PC P n s .skip Q σ O := ⟨fun M U σc w S hσ => CW.skip ⟨M, U, σ, O, S, hσ, h⟩⟩
theorem PC.ret (h : Q .ret σ O) : PC P n s .ret Q σ O := ⟨fun M U σc w S hσ => CW.ret ⟨M, U, σ, O, S, hσ, h⟩⟩
theorem PC.exit {id : Nat} (h : Q (.exit id) σ O) : PC P n s (.exit id) Q σ O := ⟨fun M U σc w S hσ => CW.exit ⟨M, U, σ, O, S, hσ, h⟩⟩
theorem PC.seq {x y : Code} (h : PC P n s x (thA (PC P n s y Q) Q) σ O) : PC P n s (.seq x y) Q σ O := by
  refine ⟨fun M U σc w S hσ => CW.seq ((h.h M U σc w S hσ).mono ?_)⟩
  rintro e τ w' ⟨M', U', σ', O', S', hσ', hq⟩
  unfold thn
  cases e with
  | normal => exact PC.h hq _ _ _ _ S' hσ'
  | _ => exact ⟨M', U', σ', O', S', hσ', hq⟩
theorem PC.block {id : Nat} {c : Code} (h : PC P n s c (inA id Q) σ O) : PC P n s (.block id c) Q σ O := by
  refine ⟨fun M U σc w S hσ => CW.block ((h.h M U σc w S hσ).mono ?_)⟩
  rintro e τ w' ⟨M', U', σ', O', S', hσ', hq⟩
  unfold inB
  cases e with
  | exit i =>
    simp only [inA] at hq ⊢
    cases hb : Nat.beq i id with
    | true => rw [hb] at hq; exact ⟨M', U', σ', O', S', hσ', hq⟩
    | false => rw [hb] at hq; exact ⟨M', U', σ', O', S', hσ', hq⟩
  | _ => exact ⟨M', U', σ', O', S', hσ', hq⟩
theorem PC.cond {c : Operand} {x y : Code} {b : Bool} (hc : evA σ c = bA b) (ht : b = true → PC P n s x Q σ O) (hf : b = false → PC P n s y Q σ O) : PC P n s (.cond c x y) Q σ O := by
  refine ⟨fun M U σc w S hσ => ?_⟩
  have e := evA_rel hσ c; rw [hc] at e
  exact CW.cond e.int (fun h => (ht h).h M U σc w S hσ) (fun h => (hf h).h M U σc w S hσ)
theorem PC.cond_true {c : Operand} {x y : Code} {b : Bool} (hc : evA σ c = bA b) (h : b = true) (ht : PC P n s x Q σ O) : PC P n s (.cond c x y) Q σ O :=
  PC.cond hc (fun _ => ht) (fun h' => by rw [h] at h'; cases h')
theorem PC.cond_false {c : Operand} {x y : Code} {b : Bool} (hc : evA σ c = bA b) (h : b = false) (ht : PC P n s y Q σ O) : PC P n s (.cond c x y) Q σ O :=
  PC.cond hc (fun h' => by rw [h] at h'; cases h') (fun _ => ht)
theorem PC.region {id : Nat} {l : List Oper} (h : PL P n s l.toArray l Q σ O) : PC P n s (.region id l.toArray false) Q σ O :=
  ⟨fun M U σc w S hσ => CW.region (h.h M U σc w S hσ)⟩
theorem thA_n {K : Fr → Obs → Prop} (h : K σ O) : thA K Q .normal σ O := h
theorem thA_r {K : Fr → Obs → Prop} (h : Q .ret σ O) : thA K Q .ret σ O := h
theorem thA_e {K : Fr → Obs → Prop} {i : Nat} (h : Q (.exit i) σ O) : thA K Q (.exit i) σ O := h
theorem inA_n {id : Nat} (h : Q .normal σ O) : inA id Q .normal σ O := h
theorem inA_r {id : Nat} (h : Q .ret σ O) : inA id Q .ret σ O := h
theorem inA_eq {id i : Nat} (hi : Nat.beq i id = true) (h : Q .normal σ O) : inA id Q (.exit i) σ O := by show bif Nat.beq i id then _ else _; rw [hi]; exact h
theorem PL.nil (h : Q .normal σ O) : PL P n s ops [] Q σ O := ⟨fun M U σc w S hσ => LW.nil ⟨M, U, σ, O, S, hσ, h⟩⟩
theorem PL.op {op : Op} {x : AV} (hd : Nat.blt d n = true) (hr : Rd P s O σ op ty x) (k : PL P n s ops rest Q (updA σ d x) O) : PL P n s ops (⟨some d, op, ty, pos, after, none⟩ :: rest) Q σ O := by
  refine ⟨fun M U σc w S hσ => ?_⟩
  obtain ⟨y, hy, hrun⟩ := hr M U w σc S hσ
  exact LW.op hd (hrun w (Agr'.refl _ _ _)) (k.h M U _ w S (hσ.upd d hy))
def gdA (ops : Array Oper) (σ : Fr) (j : Nat) : Option AV := ((ops[j]?).bind (·.dst)).map σ
theorem gdA_gd {w : World} {U : Nat → Prop} {M : Mp} {σc : Nat → Value} (hσ : Rels w U M σ σc) {j : Nat} {b : Bool} (h : gdA ops σ j = some (bA b)) : gd ops σc j = some (.bool b) := by
  unfold gdA at h; unfold gd
  cases hx : (ops[j]?).bind (·.dst) with
  | none => rw [hx] at h; cases h
  | some d =>
    rw [hx] at h
    simp only [Option.map_some, Option.some.injEq] at h ⊢
    have := hσ d
    rw [h] at this
    exact this.int
theorem gd_none {σc : Nat → Value} {a : Act} (ha : Rp n a σc) {j : Nat} (h : gd ops σc j = some undef) : yielded ops a.tmps j = none := by
  unfold gd at h
  unfold yielded
  cases hx : (ops[j]?).bind (·.dst) with
  | none => simp
  | some d =>
    rw [hx] at h
    simp only [Option.map_some, Option.some.injEq] at h
    have h1 := ha.get d
    rw [h] at h1
    simp only [Option.bind_some]
    cases hy : a.tmps[d]? with
    | none => rfl
    | some v => simp [hy, undef] at h1; simp [h1]
theorem gdA_un {w : World} {U : Nat → Prop} {M : Mp} {σc : Nat → Value} (hσ : Rels w U M σ σc) {j : Nat} (h : gdA ops σ j = some (.tup [])) : gd ops σc j = some undef := by
  unfold gdA at h; unfold gd
  cases hx : (ops[j]?).bind (·.dst) with
  | none => rw [hx] at h; cases h
  | some d =>
    rw [hx] at h
    simp only [Option.map_some, Option.some.injEq] at h ⊢
    have := hσ d
    rw [h] at this
    generalize σc d = y at this
    cases this with | tup _ ys hl _ => have : ys = [] := List.eq_nil_of_length_eq_zero hl; subst this; rfl
theorem LW.guard_un {σc : Nat → Value} {w : World} {Q : Post} {d : Option Nat} {op : Op} {j : Nat} {want : Bool} (hg : gd ops σc j = some undef) (hd : (match d with | some d => Nat.blt d n | none => true) = true)
    (h2 : LW P n ops rest Q (V.put σc d undef) w) : LW P n ops (⟨d, op, ty, pos, after, some (j, want)⟩ :: rest) Q σc w := by
  constructor
  intro a ha
  have hy := gd_none ha hg
  have hw : Region.wanted ⟨d, op, ty, pos, after, some (j, want)⟩ (yielded ops a.tmps) = false := by
    simp [Region.wanted, hy]
  unfold wpList
  rw [hw, if_neg (by simp)]
  cases d with
  | none => exact h2.h a ha
  | some d => exact h2.h _ (ha.put d undef hd)
def putA (σ : Fr) (d : Option Nat) (x : AV) : Fr := match d with | some d => updA σ d x | none => σ
theorem PL.guard {d : Option Nat} {op : Op} {j : Nat} {want b : Bool} (hg : gdA ops σ j = some (bA b)) (hd : (match d with | some d => Nat.blt d n | none => true) = true)
    (h1 : b = want → PL P n s ops (⟨d, op, ty, pos, after, none⟩ :: rest) Q σ O) (h2 : b = (!want) → PL P n s ops rest Q (putA σ d (.tup [])) O) : PL P n s ops (⟨d, op, ty, pos, after, some (j, want)⟩ :: rest) Q σ O := by
  refine ⟨fun M U σc w S hσ => LW.guard (gdA_gd hσ hg) hd (fun e => (h1 e).h M U σc w S hσ) (fun e => (h2 e).h M U _ w S ?_)⟩
  cases d with
  | none => exact hσ
  | some d => exact hσ.upd d (.tup [] [] rfl (fun j c y h => by simp at h))
/-- What hangs on a step that was left out is left out. -/
theorem PL.guard_un {d : Option Nat} {op : Op} {j : Nat} {want : Bool} (hg : gdA ops σ j = some (.tup [])) (hd : (match d with | some d => Nat.blt d n | none => true) = true)
    (h2 : PL P n s ops rest Q (putA σ d (.tup [])) O) : PL P n s ops (⟨d, op, ty, pos, after, some (j, want)⟩ :: rest) Q σ O := by
  refine ⟨fun M U σc w S hσ => LW.guard_un (gdA_un hσ hg) hd (h2.h M U _ w S ?_)⟩
  cases d with
  | none => exact hσ
  | some d => exact hσ.upd d (.tup [] [] rfl (fun j c y h => by simp at h))
theorem PL.guard_on {d : Option Nat} {op : Op} {j : Nat} {want b : Bool} (hg : gdA ops σ j = some (bA b)) (hb : b = want)
    (h1 : PL P n s ops (⟨d, op, ty, pos, after, none⟩ :: rest) Q σ O) : PL P n s ops (⟨d, op, ty, pos, after, some (j, want)⟩ :: rest) Q σ O :=
  ⟨fun M U σc w S hσ => LW.guard_on (gdA_gd hσ hg) hb (h1.h M U σc w S hσ)⟩
theorem PL.guard_off {d : Option Nat} {op : Op} {j : Nat} {want b : Bool} (hg : gdA ops σ j = some (bA b)) (hd : (match d with | some d => Nat.blt d n | none => true) = true) (hb : b = !want)
    (h2 : PL P n s ops rest Q (putA σ d (.tup [])) O) : PL P n s ops (⟨d, op, ty, pos, after, some (j, want)⟩ :: rest) Q σ O :=
  PL.guard hg hd (fun e => by rw [e] at hb; cases want <;> simp at hb) (fun _ => h2)
theorem Fz.old {M : Mp} {w w' : World} (h : w.heap.size ≤ w'.heap.size) {B : Nat} (hB : Fz M w B) : Fz M w' B := ⟨Nat.lt_of_lt_of_le hB.1 h, hB.2⟩
theorem Mem.below {M : Mp} {U : Nat → Prop} {w w' : World} (S : Mem s M O U w) (hb : Below w.heap.size w w') : Mem s M O U w' := by
  refine ⟨S.base.trans (BelowX.of _ hb), S.lent, S.len, fun B hB => Nat.lt_of_lt_of_le (S.lt B hB) hb.size, S.fresh, S.sep, S.fok, fun b ob x hO hM => ?_, fun B hB => ⟨(S.u B hB).1.old hb.size, (S.u B hB).2⟩, S.tab.mono (fun B hB => hb.block _ (S.u B hB).1.1) (fun B hB => hB)⟩
  exact (S.own b ob x hO hM).mono (fun B hB => hb.block _ (S.lt _ ⟨b, x, hM, hB⟩)) (fun c z h => h.mono (fun B hB => hb.block _ (S.u B hB).1.1) (fun B hB => hB) (fun _ _ e => e))
theorem Rel.keepB {M : Mp} {U : Nat → Prop} {w w' : World} (S : Mem s M O U w) (hb : Below w.heap.size w w') {c : AV} {y : Value} (h : Rel w U M c y) : Rel w' U M c y :=
  h.mono (fun B hB => hb.block _ (S.u B hB).1.1) (fun B hB => hB) (fun _ _ e => e)
theorem snoc_get {α : Type} {l : List α} {x y : α} {b : Nat} (h : (l ++ [x])[b]? = some y) : (l[b]? = some y) ∨ (b = l.length ∧ y = x) := by
  rcases Nat.lt_trichotomy b l.length with h1 | h1 | h1
  · rw [List.getElem?_append_left h1] at h; exact .inl h
  · subst h1; simp at h; exact .inr ⟨rfl, h.symm⟩
  · rw [List.getElem?_append_right (by omega)] at h
    have : ([x] : List α)[b - l.length]? = none := List.getElem?_eq_none (by simp; omega)
    rw [this] at h; cases h
theorem snoc_old {α : Type} {l : List α} {x y : α} {b : Nat} (h : l[b]? = some y) : (l ++ [x])[b]? = some y := by
  rw [List.getElem?_append_left (List.getElem?_eq_some_iff.1 h).1]; exact h
theorem snoc_new {α : Type} {l : List α} {x : α} {b : Nat} (h : b = l.length) : (l ++ [x])[b]? = some x := by subst h; simp
/-- What nothing else knows becomes the call's own; such blocks may have been written. -/
theorem Mem.insY {M : Mp} {U : Nat → Prop} {w w' : World} {p : Pl} {ob : Ob} {X : List Nat} (S : Mem s M O U w) (hb : BelowX X w w') (hX : ∀ B, B ∈ X → ¬ InM M B ∧ ¬ U B ∧ s.w.heap.size ≤ B) (hL : ∀ B, p.has B → ¬ InM M B ∧ ¬ U B ∧ s.w.heap.size ≤ B ∧ B < w'.heap.size) (hok : ∀ F, p = .fm F → FOk F)
    (hBk : Blk w' U (M ++ [p]) ob p) :
    Mem s (M ++ [p]) (O ++ [some ob]) U w' ∧ (∀ c z, Rel w U M c z → Rel w' U (M ++ [p]) c z) := by
  have hsame : ∀ B, U B → w'.heap[B]? = w.heap[B]? := fun B hB => hb.block B (S.u B hB).1.1 (fun h => (hX B h).2.1 hB)
  have hrel : ∀ c z, Rel w U M c z → Rel w' U (M ++ [p]) c z := fun c z h => h.mono hsame (fun B hB => hB) (fun b x e => snoc_old e)
  refine ⟨⟨?_, fun b x h => snoc_old (S.lent b x h), by simp [S.len], ?_, ?_, ?_, ?_, ?_, fun B hB => ⟨⟨Nat.lt_of_lt_of_le (S.u B hB).1.1 hb.size, ?_⟩, (S.u B hB).2⟩, S.tab.mono hsame (fun B hB => hB)⟩, hrel⟩
  · refine ⟨hb.os.trans S.base.os, hb.tape.trans S.base.tape, hb.output.trans S.base.output, Nat.le_trans S.base.size hb.size, fun k hk hx => ?_⟩
    rw [hb.block k (Nat.lt_of_lt_of_le hk S.base.size) (fun h => by have := (hX k h).2.2; omega)]
    exact S.base.block k hk hx
  · rintro B ⟨b, q, h1, h2⟩
    rcases snoc_get h1 with h3 | ⟨_, h3⟩
    · exact Nat.lt_of_lt_of_le (S.lt _ ⟨b, q, h3, h2⟩) hb.size
    · subst h3; exact (hL B h2).2.2.2
  · rintro B ⟨b, q, h1, h2⟩
    rcases snoc_get h1 with h3 | ⟨_, h3⟩
    · exact S.fresh _ ⟨b, q, h3, h2⟩
    · subst h3; exact .inl (hL B h2).2.2.1
  · intro b b' p1 p2 B h1 h2 e1 e2
    rcases snoc_get h1 with h3 | ⟨h3, h3'⟩ <;> rcases snoc_get h2 with h4 | ⟨h4, h4'⟩
    · exact S.sep b b' p1 p2 B h3 h4 e1 e2
    · subst h4'; exact absurd ⟨b, p1, h3, e1⟩ (hL B e2).1
    · subst h3'; exact absurd ⟨b', p2, h4, e2⟩ (hL B e1).1
    · omega
  · intro f F h1
    rcases snoc_get h1 with h3 | ⟨_, h3⟩
    · exact S.fok f F h3
    · exact hok F h3.symm
  · intro b ob' x hO hM
    rcases snoc_get hM with h3 | ⟨h3, h3'⟩
    · have hO' : O[b]? = some (some ob') := by
        rcases snoc_get hO with h4 | ⟨h4, _⟩
        · exact h4
        · have := (List.getElem?_eq_some_iff.1 h3).1; rw [S.len] at this; omega
      exact (S.own b ob' x hO' h3).mono (fun B hB => hb.block _ (S.lt _ ⟨b, x, h3, hB⟩) (fun h => (hX _ h).1 ⟨b, x, h3, hB⟩)) hrel
    · subst h3'
      rcases snoc_get hO with h4 | ⟨h4, h4'⟩
      · have := (List.getElem?_eq_some_iff.1 h4).1; rw [h3, S.len] at this; omega
      · cases h4'; exact hBk
  · rintro ⟨b, q, h1, h2⟩
    rcases snoc_get h1 with h3 | ⟨_, h3⟩
    · exact (S.u B hB).1.2 ⟨b, q, h3, h2⟩
    · subst h3; exact (hL B h2).2.1 hB
/-- A block that nothing else knows becomes the call's own; such blocks may have been written. -/
theorem Mem.insX {M : Mp} {U : Nat → Prop} {w w' : World} {L : Loc} {ob : Ob} {X : List Nat} (S : Mem s M O U w) (hb : BelowX X w w') (hX : ∀ B, B ∈ X → ¬ InM M B ∧ ¬ U B ∧ s.w.heap.size ≤ B) (hL : ¬ InM M L.blk ∧ ¬ U L.blk ∧ s.w.heap.size ≤ L.blk ∧ L.blk < w'.heap.size)
    (hB : ∃ cur : Array Value, L.k = ob.k ∧ L.off + ob.cells.length ≤ L.size ∧ w'.heap[L.blk]? = some (.cells cur ob.ty (0, 0)) ∧ cur.size = L.size ∧ ∀ (j : Nat) c, ob.cells[j]? = some c → ∃ y, cur[L.off + j]? = some y ∧ y.oneCell' = true ∧ Rel w U M c y) :
    Mem s (M ++ [.ad L]) (O ++ [some ob]) U w' ∧ (∀ c z, Rel w U M c z → Rel w' U (M ++ [.ad L]) c z) := by
  refine S.insY hb hX (fun B h => by have h : L.blk = B := h; rw [← h]; exact hL) (fun F e => by cases e) ?_
  obtain ⟨cur, h1, h2, h3, h4, h5⟩ := hB
  refine ⟨h1, h2, cur, h3, h4, fun j c hc => ?_⟩
  obtain ⟨y, g1, g2, g3⟩ := h5 j c hc
  exact ⟨y, g1, g2, g3.mono (fun B hB => hb.block B (S.u B hB).1.1 (fun h => (hX B h).2.1 hB)) (fun B hB => hB) (fun b x e => snoc_old e)⟩
/-- A new block becomes the call's own. -/
theorem Mem.ins {M : Mp} {U : Nat → Prop} {w w' : World} {L : Loc} {ob : Ob} (S : Mem s M O U w) (hb : Below w.heap.size w w') (hg : w.heap.size ≤ L.blk) (hlt : L.blk < w'.heap.size)
    (hB : (∃ cur : Array Value, L.k = ob.k ∧ L.off + ob.cells.length ≤ L.size ∧ w'.heap[L.blk]? = some (.cells cur ob.ty (0, 0)) ∧ cur.size = L.size ∧ ∀ (j : Nat) c, ob.cells[j]? = some c → ∃ y, cur[L.off + j]? = some y ∧ y.oneCell' = true ∧ Rel w U M c y)) :
    Mem s (M ++ [.ad L]) (O ++ [some ob]) U w' ∧ (∀ c z, Rel w U M c z → Rel w' U (M ++ [.ad L]) c z) :=
  S.insX (X := []) (BelowX.of _ hb) (fun B h => by simp at h) ⟨fun h => by have := S.lt _ h; omega, fun h => by have := (S.u _ h).1.1; omega, Nat.le_trans S.base.size hg, hlt⟩ hB
/-- A nil slice becomes the call's own. -/
theorem Mem.insN {M : Mp} {U : Nat → Prop} {w w' : World} (ty : TypeId) (k : Nat) (S : Mem s M O U w) (hb : Below w.heap.size w w') : Mem s (M ++ [.nl]) (O ++ [some ⟨.tr [], ty, k⟩]) U w' ∧ (∀ c z, Rel w U M c z → Rel w' U (M ++ [.nl]) c z) :=
  S.insY (X := []) (BelowX.of _ hb) (fun B h => by simp at h) (fun B h => h.elim) (fun F e => by cases e) rfl
/-- One of the own blocks holds other cells now. -/
theorem Mem.turnB {M : Mp} {U : Nat → Prop} {w w' : World} {b : Nat} {p : Pl} {ob' : Ob} (S : Mem s M O U w) (hM : M[b]? = some p) (hb : BelowX p.all w w') (hlt : b < O.length) (hB : Blk w' U M ob' p) :
    Mem s M (O.set b (some ob')) U w' ∧ (∀ c z, Rel w U M c z → Rel w' U M c z) := by
  have hne : ∀ B, U B → w'.heap[B]? = w.heap[B]? := fun B hB => hb.block B (S.u B hB).1.1 (fun h => (S.u _ hB).1.2 ⟨b, p, hM, Pl.mem_all.1 h⟩)
  have hrel : ∀ c z, Rel w U M c z → Rel w' U M c z := fun c z h => h.mono hne (fun B hB => hB) (fun _ _ e => e)
  refine ⟨⟨?_, S.lent, by simp [S.len], fun B hB => Nat.lt_of_lt_of_le (S.lt B hB) hb.size, S.fresh, S.sep, S.fok, ?_, fun B hB => ⟨(S.u B hB).1.old hb.size, (S.u B hB).2⟩, S.tab.mono hne (fun B hB => hB)⟩, hrel⟩
  · refine ⟨hb.os.trans S.base.os, hb.tape.trans S.base.tape, hb.output.trans S.base.output, Nat.le_trans S.base.size hb.size, fun k hk hx => ?_⟩
    rw [hb.block k (Nat.lt_of_lt_of_le hk S.base.size) (fun e => by
      rcases S.fresh _ ⟨b, p, hM, Pl.mem_all.1 e⟩ with h1 | h1
      · omega
      · exact hx h1)]
    exact S.base.block k hk hx
  · intro b1 ob x hO hM1
    by_cases hbb : b1 = b
    · subst hbb
      rw [hM] at hM1; cases hM1
      rw [List.getElem?_set_self hlt] at hO; cases hO
      exact hB
    · rw [List.getElem?_set_ne (Ne.symm hbb)] at hO
      exact (S.own b1 ob x hO hM1).mono (fun B hB => hb.block _ (S.lt _ ⟨b1, x, hM1, hB⟩) (fun e => hbb (S.sep b1 b x p B hM1 hM hB (Pl.mem_all.1 e)))) hrel
theorem Mem.turn {M : Mp} {U : Nat → Prop} {w w' : World} {b : Nat} {L : Loc} {ob' : Ob} (S : Mem s M O U w) (hM : M[b]? = some (.ad L)) (hb : BelowX [L.blk] w w') (hlt : b < O.length)
    (hB : L.k = ob'.k ∧ L.off + ob'.cells.length ≤ L.size ∧ ∃ cur : Array Value, w'.heap[L.blk]? = some (.cells cur ob'.ty (0, 0)) ∧ cur.size = L.size ∧ ∀ (j : Nat) c, ob'.cells[j]? = some c → ∃ y, cur[L.off + j]? = some y ∧ y.oneCell' = true ∧ Rel w U M c y) :
    Mem s M (O.set b (some ob')) U w' ∧ (∀ c z, Rel w U M c z → Rel w' U M c z) := by
  have hne : ∀ B, U B → w'.heap[B]? = w.heap[B]? := fun B hB => hb.block B (S.u B hB).1.1 (fun h => (S.u _ hB).1.2 ⟨b, _, hM, by simp at h; exact h.symm⟩)
  refine S.turnB hM hb hlt ?_
  obtain ⟨h1, h2, cur, h3, h4, h5⟩ := hB
  refine ⟨h1, h2, cur, h3, h4, fun j c hc => ?_⟩
  obtain ⟨y, g1, g2, g3⟩ := h5 j c hc
  exact ⟨y, g1, g2, g3.mono hne (fun B hB => hB) (fun _ _ e => e)⟩
/-- A step that turns memory. -/
theorem PL.eff {op : Op} {x : AV} {O' : Obs} (hd : Nat.blt d n = true)
    (h : ∀ M U w σc, Mem s M O U w → Rels w U M σ σc → ∃ y w' M', Yl P σc op ty w y w' ∧ Mem s M' O' U w' ∧ Rel w' U M' x y ∧ (∀ c z, Rel w U M c z → Rel w' U M' c z))
    (k : PL P n s ops rest Q (updA σ d x) O') : PL P n s ops (⟨some d, op, ty, pos, after, none⟩ :: rest) Q σ O := by
  refine ⟨fun M U σc w S hσ => ?_⟩
  obtain ⟨y, w', M', hrun, S', hx, hall⟩ := h M U w σc S hσ
  have hσ' : Rels w' U M' σ σc := fun t => hall _ _ (hσ t)
  exact LW.op hd hrun (k.h M' U _ w' S' (hσ'.upd d hx))
def isC : AV → Bool
  | .t _ | .os _ _ _ | .op _ _ | .fn _ _ | .oi _ _ _ => true
  | _ => false
theorem TRel.cell {w : World} {U : Nat → Prop} {c : Tr} {y : Value} (h : TRel w U c y) : y.oneCell' = true := by
  cases h with
  | v x h => exact plain_cell h
  | _ => rfl
theorem Rel.cell {w : World} {U : Nat → Prop} {M : Mp} {c : AV} {y : Value} (h : Rel w U M c y) (hc : isC c = true) : y.oneCell' = true := by
  cases h <;> first | rfl | assumption | exact TRel.cell ‹_› | cases hc
/-- The cells of a value. -/
def cellsA : AV → List AV
  | .agg cs => cs
  | c => [c]
def wholeA : AV → Bool
  | .agg _ => true
  | c => isC c
theorem Rel.cells {w : World} {U : Nat → Prop} {M : Mp} {c : AV} {y : Value} (h : Rel w U M c y) (hc : wholeA c = true) :
    y.cells.size = (cellsA c).length ∧ ∀ (j : Nat) d, (cellsA c)[j]? = some d → ∃ z, y.cells[j]? = some z ∧ z.oneCell' = true ∧ Rel w U M d z := by
  have one : isC c = true → (cellsA c = [c]) → y.cells = #[y] → y.cells.size = (cellsA c).length ∧ ∀ (j : Nat) d, (cellsA c)[j]? = some d → ∃ z, y.cells[j]? = some z ∧ z.oneCell' = true ∧ Rel w U M d z := by
    intro h1 h2 h3
    rw [h2, h3]
    refine ⟨rfl, fun j d hd => ?_⟩
    cases j with
    | zero => simp at hd; subst hd; exact ⟨y, rfl, h.cell h1, h⟩
    | succ j => simp at hd
  cases h with
  | any y => cases hc
  | tup cs ys => cases hc
  | t c y h =>
    refine one rfl rfl ?_
    cases h with
    | v _ h => cases y <;> first | rfl | (simp [plain] at h)
    | _ => rfl
  | agg cs ys hl h1 hr =>
    refine ⟨by simpa [Value.cells, cellsA] using hl, fun j d hd => ?_⟩
    have hj : j < ys.length := by rw [hl]; exact (List.getElem?_eq_some_iff.1 hd).1
    have hy : ys[j]? = some ys[j] := List.getElem?_eq_getElem hj
    exact ⟨ys[j], by simp [Value.cells, hy], h1 _ (List.getElem_mem hj), hr j d _ hd hy⟩
  | osd _ _ _ _ h1 _ => exact one rfl rfl (by cases y <;> first | rfl | cases h1)
  | oid _ _ _ _ h1 _ => exact one rfl rfl (by cases y <;> first | rfl | cases h1)
  | opd _ _ _ h1 _ => exact one rfl rfl (by cases y <;> first | rfl | cases h1)
  | _ => exact one rfl rfl rfl
/-- A step that makes a block. -/
def Ef (P : Program) (s : Bs) (O : Obs) (σ : Fr) (op : Op) (ty : TypeId) (x : AV) (O' : Obs) : Prop :=
  ∀ M U w σc, Mem s M O U w → Rels w U M σ σc → ∃ y w' p, Yl P σc op ty w y w' ∧ Mem s (M ++ [p]) O' U w' ∧ Rel w' U (M ++ [p]) x y ∧ (∀ c z, Rel w U M c z → Rel w' U (M ++ [p]) c z) ∧ BelowX [] w w' ∧ ∀ B, p.has B → w.heap.size ≤ B
theorem PL.ef {op : Op} {x : AV} {O' : Obs} (hd : Nat.blt d n = true) (h : Ef P s O σ op ty x O') (k : PL P n s ops rest Q (updA σ d x) O') : PL P n s ops (⟨some d, op, ty, pos, after, none⟩ :: rest) Q σ O :=
  PL.eff hd (fun M U w σc S hσ => by obtain ⟨y, w', p, h1, h2, h3, h4, _⟩ := h M U w σc S hσ; exact ⟨y, w', _, h1, h2, h3, h4⟩) k
theorem Ef.box {t : TypeId} {x : Operand} {v : AV} {cs : List AV} (hx : evA σ x = v) (hw : wholeA v = true) (hc : cellsA v = cs) : Ef P s O σ (.box t x) ty (.op O.length 0) (O ++ [some ⟨.mx cs, t, 0⟩]) := by
  intro M U w σc S hσ
  have e := evA_rel hσ x
  rw [hx] at e
  obtain ⟨h1, h2⟩ := e.cells hw
  rw [hc] at h1 h2
  obtain ⟨S', hall⟩ := S.ins (w' := w.alloc (.cells (ev σc x).cells t)) (L := ⟨w.heap.size, (ev σc x).cells.size, 0⟩) (ob := ⟨.mx cs, t, 0⟩) ((Below.refl _ _).alloc (Nat.le_refl _) _) (Nat.le_refl _) (by simp)
    (⟨(ev σc x).cells, rfl, by simp [h1, Ob.cells, Cs.list, Loc.off], heap_alloc_new _ _, rfl, fun j c hj => by simpa [Loc.off] using h2 j c hj⟩)
  refine ⟨.pointer (some ⟨w.heap.size, 0, none⟩), _, _, Yl.mk fun d pos after g => ?_, S', ?_, hall, BelowX.of _ ((Below.refl _ _).alloc (Nat.le_refl _) _), fun B h => Nat.le_of_eq h⟩
  · simp [execOp, Instr.box, newVar, newRow]
  · have := Rel.op (w := w.alloc (.cells (ev σc x).cells t)) (U := U) (M := M ++ [.ad ⟨w.heap.size, (ev σc x).cells.size, 0⟩]) O.length 0 ⟨w.heap.size, (ev σc x).cells.size, 0⟩ (snoc_new S.len.symm)
    exact this
/-- A variable of zeros. -/
theorem Ef.alloc {t : TypeId} {z : Value} {cs : List AV} [Z : CZ P t z] (hz : z.cells.toList.all plain = true) (hc : z.cells.toList.map (fun x => AV.t (.v x)) = cs) : Ef P s O σ (.alloc t) ty (.op O.length 0) (O ++ [some ⟨.mx cs, t, 0⟩]) := by
  intro M U w σc S hσ
  have hall' : ∀ x, x ∈ z.cells.toList → plain x = true := fun x hx => List.all_eq_true.1 hz x hx
  obtain ⟨S', hall⟩ := S.ins (w' := w.alloc (.cells z.cells t)) (L := ⟨w.heap.size, z.cells.size, 0⟩) (ob := ⟨.mx cs, t, 0⟩) ((Below.refl _ _).alloc (Nat.le_refl _) _) (Nat.le_refl _) (by simp)
    (⟨z.cells, rfl, by simp [← hc, Ob.cells, Cs.list, Loc.off], heap_alloc_new _ _, rfl, fun j c hj => by
      simp only [← hc, Ob.cells, Cs.list, List.getElem?_map] at hj
      cases hq : z.cells.toList[j]? with
      | none => rw [hq] at hj; cases hj
      | some q =>
        rw [hq] at hj
        simp only [Option.map_some, Option.some.injEq] at hj
        subst hj
        have hp := hall' q (get_mem hq)
        exact ⟨q, by simpa [Loc.off] using hq, plain_cell hp, .t _ _ (.v _ hp)⟩⟩)
  refine ⟨.pointer (some ⟨w.heap.size, 0, none⟩), _, _, Yl.mk fun d pos after g => ?_, S', ?_, hall, BelowX.of _ ((Below.refl _ _).alloc (Nat.le_refl _) _), fun B h => Nat.le_of_eq h⟩
  · simp [execOp, Instr.alloc, Z.run, newVar, newRow]
  · have := Rel.op (w := w.alloc (.cells z.cells t)) (U := U) (M := M ++ [.ad ⟨w.heap.size, z.cells.size, 0⟩]) O.length 0 ⟨w.heap.size, z.cells.size, 0⟩ (snoc_new S.len.symm)
    exact this
/-- A store into a block of the call's own. -/
theorem store_core {t : TypeId} {x y : Operand} {b j m : Nat} {ob ob' : Ob} {v : AV} {cs : List AV} [Z : CS P t m] (hx : evA σ x = .op b j) (hy : evA σ y = v) (hw : wholeA v = true) (hc : cellsA v = cs) (hm : cs.length = m) (hO : O[b]? = some (some ob)) (hj : j + m ≤ ob.cells.length)
    (hc' : ob'.cells = ob.cells.take j ++ cs ++ ob.cells.drop (j + m)) (ht' : ob'.ty = ob.ty) (hk' : ob'.k = ob.k)
    {M : Mp} {U : Nat → Prop} {σc : Nat → Value} {w : World} (S : Mem s M O U w) (hσ : Rels w U M σ σc) :
    ∃ w' L, (execOp (ev σc) ⟨none, .store t x y, ty, pos, after, none⟩).run P w = .ok .skip w' ∧ Mem s M (O.set b (some ob')) U w' ∧ (∀ c z, Rel w U M c z → Rel w' U M c z) ∧ M[b]? = some (.ad L) ∧ BelowX [L.blk] w w' := by
  have e := evA_rel hσ x; rw [hx] at e
  generalize hx' : ev σc x = u at e
  cases e with
  | opd _ _ _ _ hM => exact (S.own _ _ _ hO hM).elim
  | op _ _ L hM =>
    have e := evA_rel hσ y; rw [hy] at e
    obtain ⟨h1, h2⟩ := e.cells hw
    rw [hc, hm] at h1
    rw [hc] at h2
    obtain ⟨hk, hle, cur, hcur, hsz, hr⟩ := S.own b ob _ hO hM
    have hone : ∀ q, q ∈ (ev σc y).cells.toList → q.oneCell' = true := fun q hq => by
      obtain ⟨i, hi⟩ := mem_get hq
      have hil : i < cs.length := by
        have := (List.getElem?_eq_some_iff.1 hi).1; simp at this; omega
      obtain ⟨z, hz, hz1, _⟩ := h2 i _ (List.getElem?_eq_getElem hil)
      have : (ev σc y).cells[i]? = some q := by simpa using hi
      rw [this] at hz; cases hz; exact hz1
    have hst := run_storeCells_at P L.blk (L.off + j) ob.ty (ev σc y).cells.toList 0 cur w hcur (by simp; omega) hone
    simp only [Nat.add_zero, Array.length_toList, h1] at hst
    let new := (cur.toList.take (L.off + j) ++ (ev σc y).cells.toList ++ cur.toList.drop (L.off + j + m)).toArray
    have hlist : ∀ i, new[i]? = if i < L.off + j then cur[i]? else if i < L.off + j + m then (ev σc y).cells[i - (L.off + j)]? else cur[i]? := by
      intro i
      simp only [new, List.getElem?_toArray, List.getElem?_append, List.getElem?_take, List.getElem?_drop, List.length_append, List.length_take, Array.length_toList, h1, hsz, Array.getElem?_toList]
      have h3 : min (L.off + j) L.size = L.off + j := by omega
      rw [h3]
      by_cases c1 : i < L.off + j
      · rw [if_pos (by omega), if_pos c1, if_pos c1, if_pos c1]
      · by_cases c2 : i < L.off + j + m
        · rw [if_pos c2, if_neg c1, if_neg c1, if_pos c2]
        · rw [if_neg c2, if_neg c1, if_neg c2]; congr 1; omega
    obtain ⟨S', hall⟩ := S.turn (w' := w.setRow L.blk new) (ob' := ob') hM ⟨rfl, rfl, rfl, by simp, fun k hk hx => setRow_other _ _ _ _ (by simpa using hx)⟩ (List.getElem?_eq_some_iff.1 hO).1
      ⟨by rw [hk', hk], by rw [hc']; simp; omega, new, by rw [ht']; exact setRow_heap _ _ _ _ _ _ hcur, by simp [new, h1]; omega, fun i c hi => by
        rw [hc'] at hi
        rw [hlist]
        simp only [List.getElem?_append, List.getElem?_take, List.getElem?_drop, List.length_append, List.length_take] at hi
        have h3 : min j ob.cells.length = j := by omega
        rw [h3, hm] at hi
        by_cases c1 : i < j
        · rw [if_pos (by omega), if_pos c1, if_pos c1] at hi
          rw [if_pos (by omega)]; exact hr i c hi
        · by_cases c2 : i < j + m
          · rw [if_pos c2, if_neg c1] at hi
            rw [if_neg (by omega), if_pos (by omega), show L.off + i - (L.off + j) = i - j by omega]; exact h2 _ _ hi
          · rw [if_neg c2] at hi
            rw [if_neg (by omega), if_neg (by omega)]
            exact hr i c (by rw [← hi]; congr 1; omega)⟩
    refine ⟨w.setRow L.blk new, L, ?_, S', hall, hM, ⟨rfl, rfl, rfl, by simp, fun k hk hx => setRow_other _ _ _ _ (by simpa using hx)⟩⟩
    have hsz2 : (ev σc y).cells.size = m := h1
    simp only [execOp, hx', Instr.storeAt, Instr.sureAddr, Sem.run_bind, Sem.run_pure, Result.andThen_ok, storeVar, Z.run]
    simp [hst, hsz2, new]
theorem PL.storeG {t : TypeId} {x y : Operand} {b j m : Nat} {ob ob' : Ob} {v : AV} {cs : List AV} [Z : CS P t m] (hx : evA σ x = .op b j) (hy : evA σ y = v) (hw : wholeA v = true) (hc : cellsA v = cs) (hm : cs.length = m) (hO : O[b]? = some (some ob)) (hj : j + m ≤ ob.cells.length)
    (hc' : ob'.cells = ob.cells.take j ++ cs ++ ob.cells.drop (j + m)) (ht' : ob'.ty = ob.ty) (hk' : ob'.k = ob.k)
    (k : PL P n s ops rest Q σ (O.set b (some ob'))) : PL P n s ops (⟨none, .store t x y, ty, pos, after, none⟩ :: rest) Q σ O := by
  refine ⟨fun M U σc w S hσ => ?_⟩
  obtain ⟨w', L, hrun, S', hall, _⟩ := store_core (P := P) (t := t) (ty := ty) (pos := pos) (after := after) hx hy hw hc hm hO hj hc' ht' hk' S hσ
  exact LW.op0 (w' := w') hrun (k.h M U σc _ S' fun t => hall _ _ (hσ t))
theorem PL.store {t : TypeId} {x y : Operand} {b j m k0 : Nat} {T' : TypeId} {v : AV} {cs ds : List AV} [Z : CS P t m] (hx : evA σ x = .op b j) (hy : evA σ y = v) (hw : wholeA v = true) (hc : cellsA v = cs) (hm : cs.length = m) (hO : O[b]? = some (some ⟨.mx ds, T', k0⟩)) (hj : Nat.ble (j + m) ds.length = true)
    (k : PL P n s ops rest Q σ (O.set b (some ⟨.mx (ds.take j ++ cs ++ ds.drop (j + m)), T', k0⟩))) : PL P n s ops (⟨none, .store t x y, ty, pos, after, none⟩ :: rest) Q σ O :=
  PL.storeG hx hy hw hc hm hO (Nat.le_of_ble_eq_true hj) (ob' := ⟨.mx (ds.take j ++ cs ++ ds.drop (j + m)), T', k0⟩) rfl rfl rfl k
theorem PL.storeT {t : TypeId} {x y : Operand} {b j m k0 : Nat} {T' : TypeId} {v : AV} {cs ds : List Tr} [Z : CS P t m] (hx : evA σ x = .op b j) (hy : evA σ y = v) (hw : wholeA v = true) (hc : cellsA v = cs.map .t) (hm : cs.length = m) (hO : O[b]? = some (some ⟨.tr ds, T', k0⟩)) (hj : j + m ≤ ds.length)
    (k : PL P n s ops rest Q σ (O.set b (some ⟨.tr (ds.take j ++ cs ++ ds.drop (j + m)), T', k0⟩))) : PL P n s ops (⟨none, .store t x y, ty, pos, after, none⟩ :: rest) Q σ O :=
  PL.storeG hx hy hw hc (by simpa using hm) hO (by simpa [Ob.cells, Cs.list] using hj) (ob' := ⟨.tr (ds.take j ++ cs ++ ds.drop (j + m)), T', k0⟩) (by simp [Ob.cells, Cs.list]) rfl rfl k
end
end V
end Go.Proofs.YtkjnnifnmoekjaaDoor
namespace Go.Proofs.YtkjnnifnmoekjaaDoor
namespace V
set_option linter.unusedVariables false
set_option linter.unusedSimpArgs false
open Go.RowKit
abbrev Rho := List (Option Nat)
/-- Cells as trees: members of families without a name, and what is written no more. -/
def UnL (O : Obs) (ρ : Rho) (avs : List AV) (ds : List Tr) : Prop := avs.length = ds.length ∧ ∀ (j : Nat) a c, avs[j]? = some a → ds[j]? = some c → a = .t c ∨ ∃ f i n cs css ty k, a = .oi f i n ∧ some f ∉ ρ ∧ O[f]? = some (some ⟨.fm css, ty, k⟩) ∧ css[i]? = some cs ∧ cs.length = n * k ∧ c = .sl n cs
/-- A value told by the names of ρ; an own block without a name is written no more. -/
inductive Sb (z : Bool) (O : Obs) (ρ : Rho) : AV → AV → Prop
  | any (x : AV) : Sb z O ρ .any x
  | t (c : Tr) : Sb z O ρ (.t c) (.t c)
  | nil : Sb z O ρ (.t (.sl 0 [])) (.t (.v (.slice none 0 0)))
  | osn {b : Nat} (hρ : ρ[b]? = some none) : Sb z O ρ (.os b 0 0) (.t (.v (.slice none 0 0)))
  | fz {b j n : Nat} {ob : Ob} {cs ds : List Tr} (hz : z = true) (hO : O[b]? = some (some ob)) (hb : some b ∉ ρ) (hcs : ob.c = .tr cs) (hd : (cs.drop j).take (n * ob.k) = ds) (hj : j + n * ob.k ≤ cs.length) : Sb z O ρ (.t (.sl n ds)) (.os b j n)
  | fzp {b j : Nat} {ob : Ob} {cs : List Tr} (hz : z = true) (hO : O[b]? = some (some ob)) (hb : some b ∉ ρ) (hcs : ob.cells = cs.map .t) : Sb z O ρ (.t (.pt cs j)) (.op b j)
  | os {b b' j n : Nat} (hρ : ρ[b]? = some (some b')) : Sb z O ρ (.os b j n) (.os b' j n)
  | oi {f f' j n : Nat} (hρ : ρ[f]? = some (some f')) : Sb z O ρ (.oi f j n) (.oi f' j n)
  | fzi {f i n k : Nat} {cs : List Tr} {css : List (List Tr)} {ty : TypeId} (hz : z = true) (hO : O[f]? = some (some ⟨.fm css, ty, k⟩)) (hb : some f ∉ ρ) (hi : css[i]? = some cs) (hl : cs.length = n * k) : Sb z O ρ (.t (.sl n cs)) (.oi f i n)
  | fzd {b n : Nat} {ob : Ob} {ds : List Tr} (hz : z = true) (hO : O[b]? = some (some ob)) (hb : some b ∉ ρ) (hu : UnL O ρ ob.cells ds) (hn : n * ob.k = ds.length) : Sb z O ρ (.t (.sl n ds)) (.os b 0 n)
  | op {b b' j : Nat} (hρ : ρ[b]? = some (some b')) : Sb z O ρ (.op b j) (.op b' j)
  | fn {f : Fn} {cs cs0 : List AV} (hl : cs.length = cs0.length) (hr : ∀ (j : Nat) c c0, cs[j]? = some c → cs0[j]? = some c0 → Sb z O ρ c c0) : Sb z O ρ (.fn f cs) (.fn f cs0)
  | fnt {f : Fn} {cs : List Tr} {cs0 : List AV} (hl : cs.length = cs0.length) (hr : ∀ (j : Nat) c c0, cs[j]? = some c → cs0[j]? = some c0 → Sb z O ρ (.t c) c0) : Sb z O ρ (.t (.fn f cs)) (.fn f cs0)
  | agg {cs cs0 : List AV} (hl : cs.length = cs0.length) (hr : ∀ (j : Nat) c c0, cs[j]? = some c → cs0[j]? = some c0 → Sb z O ρ c c0) : Sb z O ρ (.agg cs) (.agg cs0)
  | tup {cs cs0 : List AV} (hl : cs.length = cs0.length) (hr : ∀ (j : Nat) c c0, cs[j]? = some c → cs0[j]? = some c0 → Sb z O ρ c c0) : Sb z O ρ (.tup cs) (.tup cs0)
/-- Value by value. -/
def SbL (z : Bool) (O : Obs) (ρ : Rho) : List AV → List AV → Prop
  | [], [] => True
  | c :: cs, d :: ds => Sb z O ρ c d ∧ SbL z O ρ cs ds
  | _, _ => False
theorem SbL.spec {z : Bool} {O : Obs} {ρ : Rho} : ∀ {cs ds : List AV}, SbL z O ρ cs ds → cs.length = ds.length ∧ ∀ (j : Nat) c d, cs[j]? = some c → ds[j]? = some d → Sb z O ρ c d
  | [], [], _ => ⟨rfl, fun j c d h => by simp at h⟩
  | [], d :: ds, h => by cases h
  | c :: cs, [], h => by cases h
  | c :: cs, d :: ds, ⟨h1, h2⟩ => by
    obtain ⟨h3, h4⟩ := SbL.spec h2
    refine ⟨by simp [h3], fun j c' d' h5 h6 => ?_⟩
    cases j with
    | zero => simp at h5 h6; subst h5; subst h6; exact h1
    | succ j => exact h4 j c' d' (by simpa using h5) (by simpa using h6)
theorem Sb.aggL {z : Bool} {O : Obs} {ρ : Rho} {cs ds : List AV} (h : SbL z O ρ cs ds) : Sb z O ρ (.agg cs) (.agg ds) := .agg h.spec.1 h.spec.2
theorem Sb.tupL {z : Bool} {O : Obs} {ρ : Rho} {cs ds : List AV} (h : SbL z O ρ cs ds) : Sb z O ρ (.tup cs) (.tup ds) := .tup h.spec.1 h.spec.2
/-- Cells of a block. -/
inductive SbC (z : Bool) (O : Obs) (ρ : Rho) : Cs → Cs → Prop
  | tr (cs : List Tr) : SbC z O ρ (.tr cs) (.tr cs)
  | trm {cs : List Tr} {ds : List AV} (h : SbL z O ρ (cs.map .t) ds) : SbC z O ρ (.tr cs) (.mx ds)
  | mx {cs ds : List AV} (h : SbL z O ρ cs ds) : SbC z O ρ (.mx cs) (.mx ds)
  | fm (css : List (List Tr)) : SbC z O ρ (.fm css) (.fm css)
theorem SbC.spec {z : Bool} {O : Obs} {ρ : Rho} {c d : Cs} (h : SbC z O ρ c d) : c.list.length = d.list.length ∧ ∀ (j : Nat) x y, c.list[j]? = some x → d.list[j]? = some y → Sb z O ρ x y := by
  cases h with
  | tr cs => exact ⟨rfl, fun j x y h1 h2 => by
      rw [h1] at h2; cases h2
      simp only [Cs.list, List.getElem?_map] at h1
      cases hq : cs[j]? with
      | none => rw [hq] at h1; cases h1
      | some q => rw [hq] at h1; simp at h1; subst h1; exact .t q⟩
  | trm h => exact h.spec
  | mx h => exact h.spec
  | fm css => exact ⟨rfl, fun j x y h1 => by simp [Cs.list] at h1⟩
theorem SbC.fam {z : Bool} {O : Obs} {ρ : Rho} {c d : Cs} (h : SbC z O ρ c d) {css : List (List Tr)} (e : d = .fm css) : c = .fm css := by
  cases h <;> first | exact e | cases e
def nodupB : Rho → Bool
  | [] => true
  | none :: ρ => nodupB ρ
  | some b :: ρ => !ρ.contains (some b) && nodupB ρ
theorem nodupB_spec : ∀ {ρ : Rho}, nodupB ρ = true → ∀ (i j b : Nat), ρ[i]? = some (some b) → ρ[j]? = some (some b) → i = j
  | [], _, i, j, b, h, _ => by simp at h
  | none :: ρ, hn, i, j, b, h1, h2 => by
    cases i <;> cases j <;> simp at h1 h2 ⊢
    exact nodupB_spec (ρ := ρ) hn _ _ b h1 h2
  | some c :: ρ, hn, i, j, b, h1, h2 => by
    simp only [nodupB, Bool.and_eq_true, Bool.not_eq_true', List.contains_eq_mem, decide_eq_false_iff_not] at hn
    cases i <;> cases j <;> simp at h1 h2 ⊢
    · subst h1; exact hn.1 (get_mem h2)
    · subst h2; exact hn.1 (get_mem h1)
    · exact nodupB_spec (ρ := ρ) hn.2 _ _ b h1 h2
/-- The blocks as they are told. -/
def BlkL (z : Bool) (O : Obs) (ρ0 : Rho) : Rho → List Ob → Prop
  | [], [] => True
  | none :: ρ, ob :: B => ob.c.list = [] ∧ BlkL z O ρ0 ρ B
  | some b :: ρ, ob :: B => (∃ ob0, O[b]? = some (some ob0) ∧ ob0.ty = ob.ty ∧ ob0.k = ob.k ∧ SbC z O ρ0 ob.c ob0.c) ∧ BlkL z O ρ0 ρ B
  | _, _ => False
theorem BlkL.spec {z : Bool} {O : Obs} {ρ0 : Rho} : ∀ {ρ : Rho} {B : List Ob}, BlkL z O ρ0 ρ B → B.length = ρ.length ∧ ∀ (i : Nat) ob r, B[i]? = some ob → ρ[i]? = some r → (r = none → ob.c.list = []) ∧ ∀ b, r = some b → ∃ ob0, O[b]? = some (some ob0) ∧ ob0.ty = ob.ty ∧ ob0.k = ob.k ∧ SbC z O ρ0 ob.c ob0.c
  | [], [], _ => ⟨rfl, fun i ob r h => by simp at h⟩
  | [], ob :: B, h => by cases h
  | none :: ρ, [], h => by cases h
  | some b :: ρ, [], h => by cases h
  | none :: ρ, ob :: B, ⟨h1, h2⟩ => by
    obtain ⟨h3, h4⟩ := BlkL.spec h2
    refine ⟨by simp [h3], fun i ob' r h5 h6 => ?_⟩
    cases i with
    | zero => simp at h5 h6; subst h5; subst h6; exact ⟨fun _ => h1, fun b h => by cases h⟩
    | succ i => exact h4 i ob' r (by simpa using h5) (by simpa using h6)
  | some b :: ρ, ob :: B, ⟨h1, h2⟩ => by
    obtain ⟨h3, h4⟩ := BlkL.spec h2
    refine ⟨by simp [h3], fun i ob' r h5 h6 => ?_⟩
    cases i with
    | zero => simp at h5 h6; subst h5; subst h6; exact ⟨fun h => by (cases h), fun b' h => by cases h; exact h1⟩
    | succ i => exact h4 i ob' r (by simpa using h5) (by simpa using h6)
def mpR (M : Mp) (ρ : Rho) : Mp := ρ.map fun r => match r with | none => .nl | some b => (M[b]?).getD .dead
theorem mpR_some {M : Mp} {ρ : Rho} {i b : Nat} {x : Pl} (h : ρ[i]? = some (some b)) (hM : M[b]? = some x) : (mpR M ρ)[i]? = some x := by simp [mpR, h, hM]
theorem mpR_none {M : Mp} {ρ : Rho} {i : Nat} (h : ρ[i]? = some none) : (mpR M ρ)[i]? = some .nl := by simp [mpR, h]
theorem mpR_pl {M : Mp} {ρ : Rho} {i B : Nat} {p : Pl} (h : (mpR M ρ)[i]? = some p) (hB : p.has B) : ∃ b, ρ[i]? = some (some b) ∧ M[b]? = some p := by
  simp only [mpR, List.getElem?_map] at h
  cases hr : ρ[i]? with
  | none => rw [hr] at h; cases h
  | some r =>
    rw [hr] at h
    cases r with
    | none => cases h; exact hB.elim
    | some b =>
      simp only [Option.map_some, Option.some.injEq] at h
      cases hm : M[b]? with
      | none => rw [hm] at h; simp at h; subst h; exact hB.elim
      | some x => rw [hm] at h; simp at h; subst h; exact ⟨b, rfl, hm⟩
theorem mpR_fm {M : Mp} {ρ : Rho} {i : Nat} {F : List (Option Loc)} (h : (mpR M ρ)[i]? = some (.fm F)) : ∃ b, ρ[i]? = some (some b) ∧ M[b]? = some (.fm F) := by
  simp only [mpR, List.getElem?_map] at h
  cases hr : ρ[i]? with
  | none => rw [hr] at h; cases h
  | some r =>
    rw [hr] at h
    cases r with
    | none => cases h
    | some b =>
      simp only [Option.map_some, Option.some.injEq] at h
      cases hm : M[b]? with
      | none => rw [hm] at h; cases h
      | some x => rw [hm] at h; simp at h; subst h; exact ⟨b, rfl, hm⟩
section
variable {s : Bs} {O : Obs} {M : Mp} {U : Nat → Prop} {w : World} {ρ : Rho} {z : Bool}
def frU (z : Bool) (M : Mp) (ρ : Rho) (U : Nat → Prop) : Nat → Prop := fun B => U B ∨ (z = true ∧ InM M B ∧ ¬ InM (mpR M ρ) B)
theorem inM_R {B : Nat} (h : InM (mpR M ρ) B) : InM M B := by
  obtain ⟨i, p, h1, h2⟩ := h
  obtain ⟨b, _, h4⟩ := mpR_pl h1 h2
  exact ⟨b, p, h4, h2⟩
theorem frU_fz (S : Mem s M O U w) {B : Nat} (h : frU z M ρ U B) : Fz (mpR M ρ) w B := by
  rcases h with h | ⟨_, h1, h2⟩
  · exact ⟨(S.u B h).1.1, fun h' => (S.u B h).1.2 (inM_R h')⟩
  · exact ⟨S.lt B h1, h2⟩
theorem not_namedB (S : Mem s M O U w) {b B : Nat} {p : Pl} (hM : M[b]? = some p) (hB : p.has B) (hb : some b ∉ ρ) : frU true M ρ U B := by
  refine .inr ⟨rfl, ⟨b, p, hM, hB⟩, ?_⟩
  rintro ⟨i, p', h1, h2⟩
  obtain ⟨b', h3, h4⟩ := mpR_pl h1 h2
  have := S.sep b' b p' p B h4 hM h2 hB
  subst this; exact hb (get_mem h3)
theorem not_named (S : Mem s M O U w) {b : Nat} {L : Loc} (hM : M[b]? = some (.ad L)) (hb : some b ∉ ρ) : frU true M ρ U L.blk := not_namedB S hM rfl hb
/-- A member of a family without a name, as a tree. -/
theorem oi_tree (S : Mem s M O U w) {f i n k : Nat} {cs : List Tr} {css : List (List Tr)} {ty : TypeId} {y : Value} (hO : O[f]? = some (some ⟨.fm css, ty, k⟩)) (hb : some f ∉ ρ) (hi : css[i]? = some cs) (hl : cs.length = n * k) (hr : Rel w U M (.oi f i n) y) : TRel w (frU true M ρ U) (.sl n cs) y := by
  cases hr with
  | oid _ _ _ _ _ hM => exact (S.own _ _ _ hO hM).elim
  | oin => rw [Nat.zero_mul] at hl; rw [List.eq_nil_of_length_eq_zero hl]; exact .nil
  | oiz => rw [Nat.zero_mul] at hl; rw [List.eq_nil_of_length_eq_zero hl]; exact .sl0 _ _
  | oi _ _ _ cap F L hM hj hcap hn hx =>
    obtain ⟨css', e, _, hm⟩ := S.own _ _ _ hO hM
    cases e
    obtain ⟨hk, hle, cur, hcur, hsz, hc⟩ := hm i cs _ hi hj
    have hget : ∀ (i : Nat) y, (cur.toList.take cs.length)[i]? = some y → i < cs.length ∧ cur[i]? = some y := by
      intro i y h
      rw [List.getElem?_take] at h
      split at h
      · exact ⟨‹_›, by simpa using h⟩
      · cases h
    refine .sl L.blk 0 n cap cs (cur.toList.take cs.length) (not_namedB S hM ⟨L, get_mem hj, rfl⟩ hb) (by simp; omega) (fun y hy => ?_) (fun i y hy => ?_) (fun i c y h1 h2 => ?_) hn
    · obtain ⟨i, hi⟩ := mem_get hy
      obtain ⟨h1, h2⟩ := hget i y hi
      obtain ⟨v, _, h3, h4⟩ := hc i _ (List.getElem?_eq_getElem h1)
      rw [h2] at h4; cases h4; exact plain_cell h3
    · obtain ⟨h1, h2⟩ := hget i y hy
      rw [cell_of_row w _ _ cur _ _ hcur, Nat.zero_add]; exact h2
    · obtain ⟨_, h3⟩ := hget i y h2
      obtain ⟨v, rfl, h4, h5⟩ := hc i c h1
      rw [h3] at h5; cases h5; exact .v _ h4
theorem Sb.rel (S : Mem s M O U w) {a a0 : AV} {y : Value} (h : Sb z O ρ a a0) (hr : Rel w U M a0 y) : Rel w (frU z M ρ U) (mpR M ρ) a y := by
  induction h generalizing y with
  | any x => exact .any y
  | t c => cases hr with | t _ _ h => exact .t _ _ (h.mono (fun _ _ => rfl) (fun B hB => .inl hB))
  | nil => cases hr with | t _ _ h => cases h; exact .t _ _ .nil
  | osn hρ => cases hr with | t _ _ h => cases h; exact .osn _ (mpR_none hρ)
  | @fz b j n ob cs ds hz hO hb hcs hd hj =>
    subst hz; subst hd
    have hcl : ob.cells = cs.map .t := by simp [Ob.cells, hcs, Cs.list]
    cases hr with
    | osn _ hM => simp only [Nat.zero_mul, List.take_zero]; exact .t _ _ .nil
    | osd _ _ _ _ _ hM => exact (S.own _ _ _ hO hM).elim
    | osz _ _ o L hM =>
      simp only [Nat.zero_mul, List.take_zero]
      exact .t _ _ (.sl L.blk o 0 0 [] [] (not_named S hM hb) rfl (fun y hy => by simp at hy) (fun j y h => by simp at h) (fun j c y h => by simp at h) (Nat.le_refl _))
    | os _ _ _ cap L hM hcap hn hx =>
      obtain ⟨hk, hle, cur, hcur, hsz, hrr⟩ := S.own b ob _ hO hM
      have hlen : cs.length = ob.cells.length := by rw [hcl]; simp
      have hyl : ((cur.toList.drop (L.off + j)).take (n * ob.k)).length = n * ob.k := by simp; omega
      have hget : ∀ i y, ((cur.toList.drop (L.off + j)).take (n * ob.k))[i]? = some y → i < n * ob.k ∧ cur[L.off + (j + i)]? = some y := by
        intro i y h
        rw [List.getElem?_take] at h
        split at h
        · rename_i hi; rw [List.getElem?_drop] at h; exact ⟨hi, by rw [← Nat.add_assoc]; simpa using h⟩
        · cases h
      refine .t _ _ (.sl L.blk (L.off + j) n cap _ ((cur.toList.drop (L.off + j)).take (n * ob.k)) (not_named S hM hb) (by rw [hyl]; simp; omega) ?_ ?_ ?_ hn)
      · intro y hy
        obtain ⟨i, hi⟩ := mem_get hy
        obtain ⟨h3, h4⟩ := hget i y hi
        obtain ⟨c, hc⟩ : ∃ c, ob.cells[j + i]? = some c := ⟨_, List.getElem?_eq_getElem (by omega)⟩
        obtain ⟨y', h5, h6, _⟩ := hrr _ _ hc
        rw [h4] at h5; cases h5; exact h6
      · intro i y hy
        obtain ⟨h3, h4⟩ := hget i y hy
        rw [cell_of_row w _ _ cur _ _ hcur, Nat.add_assoc]; exact h4
      · intro i c y hc hy
        obtain ⟨h3, h4⟩ := hget i y hy
        rw [List.getElem?_take, if_pos h3, List.getElem?_drop] at hc
        obtain ⟨y', h5, _, h6⟩ := hrr (j + i) (.t c) (by rw [hcl]; simp [hc])
        rw [h4] at h5; cases h5
        cases h6 with | t _ _ h => exact h.mono (fun _ _ => rfl) (fun B hB => .inl hB)
  | oi hρ =>
    cases hr with
    | oi _ _ _ cap F L hM hj hcap hn hx => exact .oi _ _ _ cap F L (mpR_some hρ hM) hj hcap hn hx
    | oin _ _ F hM hj => exact .oin _ _ F (mpR_some hρ hM) hj
    | oiz _ _ o F L hM hj => exact .oiz _ _ _ F L (mpR_some hρ hM) hj
    | oid _ _ _ _ h1 hM => exact .oid _ _ _ _ h1 (mpR_some hρ hM)
  | fzi hz hO hb hi hl => subst hz; exact .t _ _ (oi_tree S hO hb hi hl hr)
  | @fzd b n ob ds hz hO hb hu hn0 =>
    subst hz
    obtain ⟨hul, hu⟩ := hu
    have tree : ∀ (j : Nat) a c y, ob.cells[j]? = some a → ds[j]? = some c → Rel w U M a y → TRel w (frU true M ρ U) c y := by
      intro j a c y h1 h2 h3
      rcases hu j a c h1 h2 with rfl | ⟨f, i, n', cs, css, ty, k, rfl, g1, g2, g3, g4, rfl⟩
      · cases h3 with | t _ _ h => exact h.mono (fun _ _ => rfl) (fun B hB => .inl hB)
      · exact oi_tree S g2 g1 g3 g4 h3
    cases hr with
    | osd _ _ _ _ _ hM => exact (S.own _ _ _ hO hM).elim
    | osn _ hM => rw [Nat.zero_mul] at hn0; rw [List.eq_nil_of_length_eq_zero hn0.symm]; exact .t _ _ .nil
    | osz _ _ o L hM => rw [Nat.zero_mul] at hn0; rw [List.eq_nil_of_length_eq_zero hn0.symm]; exact .t _ _ (.sl0 _ _)
    | os _ _ _ cap L hM hcap hn hx =>
      obtain ⟨hk, hle, cur, hcur, hsz, hrr⟩ := S.own b ob _ hO hM
      have hyl : ((cur.toList.drop L.off).take ds.length).length = ds.length := by simp; omega
      have hget : ∀ i y, ((cur.toList.drop L.off).take ds.length)[i]? = some y → i < ds.length ∧ cur[L.off + i]? = some y := by
        intro i y h
        rw [List.getElem?_take] at h
        split at h
        · rename_i hi; rw [List.getElem?_drop] at h; exact ⟨hi, by simpa using h⟩
        · cases h
      refine .t _ _ (.sl L.blk (L.off + 0) n cap ds ((cur.toList.drop L.off).take ds.length) (not_named S hM hb) hyl (fun y hy => ?_) (fun i y hy => ?_) (fun i c y h1 h2 => ?_) hn)
      · obtain ⟨i, hi⟩ := mem_get hy
        obtain ⟨h3, h4⟩ := hget i y hi
        obtain ⟨y', h5, h6, _⟩ := hrr i _ (List.getElem?_eq_getElem (by omega))
        rw [h4] at h5; cases h5; exact h6
      · obtain ⟨h3, h4⟩ := hget i y hy
        rw [cell_of_row w _ _ cur _ _ hcur, Nat.add_zero]; exact h4
      · obtain ⟨h3, h4⟩ := hget i y h2
        obtain ⟨y', h5, _, h6⟩ := hrr i _ (List.getElem?_eq_getElem (by omega))
        rw [h4] at h5; cases h5
        exact tree i _ c _ (List.getElem?_eq_getElem (by omega)) h1 h6
  | @fzp b j ob cs hz hO hb hcl =>
    subst hz
    cases hr with
    | opd _ _ _ _ hM => exact (S.own _ _ _ hO hM).elim
    | op _ _ L hM =>
      obtain ⟨hk, hle, cur, hcur, hsz, hrr⟩ := S.own b ob _ hO hM
      have hlen : cs.length = ob.cells.length := by rw [hcl]; simp
      have hyl : ((cur.toList.drop L.off).take cs.length).length = cs.length := by simp; omega
      have hget : ∀ i y, ((cur.toList.drop L.off).take cs.length)[i]? = some y → i < cs.length ∧ cur[L.off + i]? = some y := by
        intro i y h
        rw [List.getElem?_take] at h
        split at h
        · rename_i hi; rw [List.getElem?_drop] at h; exact ⟨hi, by simpa using h⟩
        · cases h
      refine .t _ _ (.pt L.blk L.off j cs ((cur.toList.drop L.off).take cs.length) (not_named S hM hb) hyl ?_ ?_ ?_)
      · intro y hy
        obtain ⟨i, hi⟩ := mem_get hy
        obtain ⟨h3, h4⟩ := hget i y hi
        obtain ⟨c, hc⟩ : ∃ c, ob.cells[i]? = some c := ⟨_, List.getElem?_eq_getElem (by omega)⟩
        obtain ⟨y', h5, h6, _⟩ := hrr _ _ hc
        rw [h4] at h5; cases h5; exact h6
      · intro i y hy
        obtain ⟨h3, h4⟩ := hget i y hy
        rw [cell_of_row w _ _ cur _ _ hcur]; exact h4
      · intro i c y hc hy
        obtain ⟨h3, h4⟩ := hget i y hy
        obtain ⟨y', h5, _, h6⟩ := hrr i (.t c) (by rw [hcl]; simp [hc])
        rw [h4] at h5; cases h5
        cases h6 with | t _ _ h => exact h.mono (fun _ _ => rfl) (fun B hB => .inl hB)
  | os hρ =>
    cases hr with
    | os _ _ _ cap L hM hcap hn hx => exact .os _ _ _ _ L (mpR_some hρ hM) hcap hn hx
    | osn _ hM => exact .osn _ (mpR_some hρ hM)
    | osz _ _ o L hM => exact .osz _ _ _ L (mpR_some hρ hM)
    | osd _ _ _ _ h1 hM => exact .osd _ _ _ _ h1 (mpR_some hρ hM)
  | op hρ =>
    cases hr with
    | op _ _ L hM => exact .op _ _ L (mpR_some hρ hM)
    | opd _ _ _ h1 hM => exact .opd _ _ _ h1 (mpR_some hρ hM)
  | @fn f cs cs0 hl _ ih =>
    cases hr with | fn _ _ ys hl' hr' =>
      refine .fn _ _ ys (by omega) fun j c y h1 h2 => ?_
      have hj : j < cs0.length := by have := (List.getElem?_eq_some_iff.1 h1).1; omega
      exact ih j c _ h1 (List.getElem?_eq_getElem hj) (hr' j _ y (List.getElem?_eq_getElem hj) h2)
  | @fnt f cs cs0 hl _ ih =>
    cases hr with | fn _ _ ys hl' hr' =>
      refine .t _ _ (.fn _ _ ys (by omega) fun j c y h1 h2 => ?_)
      have hj : j < cs0.length := by have := (List.getElem?_eq_some_iff.1 h1).1; omega
      have := ih j c _ h1 (List.getElem?_eq_getElem hj) (hr' j _ y (List.getElem?_eq_getElem hj) h2)
      cases this with | t _ _ h => exact h
  | @agg cs cs0 hl _ ih =>
    cases hr with | agg _ ys hl' h1' hr' =>
      refine .agg _ ys (by omega) h1' fun j c y h1 h2 => ?_
      have hj : j < cs0.length := by have := (List.getElem?_eq_some_iff.1 h1).1; omega
      exact ih j c _ h1 (List.getElem?_eq_getElem hj) (hr' j _ y (List.getElem?_eq_getElem hj) h2)
  | @tup cs cs0 hl _ ih =>
    cases hr with | tup _ ys hl' hr' =>
      refine .tup _ ys (by omega) fun j c y h1 h2 => ?_
      have hj : j < cs0.length := by have := (List.getElem?_eq_some_iff.1 h1).1; omega
      exact ih j c _ h1 (List.getElem?_eq_getElem hj) (hr' j _ y (List.getElem?_eq_getElem hj) h2)
/-- The blocks, told anew. -/
theorem BlkL.own (S : Mem s M O U w) {B : List Ob} (hB : BlkL z O ρ ρ B) (i : Nat) (ob : Ob) (x : Pl) (hO : (B.map some)[i]? = some (some ob)) (hM : (mpR M ρ)[i]? = some x) : Blk w (frU z M ρ U) (mpR M ρ) ob x := by
  obtain ⟨hlen, hsp⟩ := hB.spec
  have hO' : B[i]? = some ob := by
    rw [List.getElem?_map] at hO
    cases hq : B[i]? with
    | none => rw [hq] at hO; cases hO
    | some q => rw [hq] at hO; simp at hO; rw [hO]
  obtain ⟨r, hr⟩ : ∃ r, ρ[i]? = some r := ⟨_, List.getElem?_eq_getElem (by rw [← hlen]; exact (List.getElem?_eq_some_iff.1 hO').1)⟩
  obtain ⟨hn, hs⟩ := hsp i ob r hO' hr
  cases r with
  | none =>
    rw [mpR_none hr] at hM; cases hM
    show ob.cells = []
    exact hn rfl
  | some b =>
    obtain ⟨ob0, h1, h2, h3, h4⟩ := hs b rfl
    obtain ⟨h5, h6⟩ := h4.spec
    have hb : b < M.length := by rw [S.len]; exact (List.getElem?_eq_some_iff.1 h1).1
    obtain ⟨x', hx'⟩ : ∃ x', M[b]? = some x' := ⟨_, List.getElem?_eq_getElem hb⟩
    rw [mpR_some hr hx'] at hM; cases hM
    have hown := S.own b ob0 x h1 hx'
    cases x with
    | dead => exact hown
    | nl =>
      show ob.cells = []
      have : ob0.cells.length = 0 := by rw [hown]; rfl
      exact List.eq_nil_of_length_eq_zero (by show ob.c.list.length = 0; rw [h5]; exact this)
    | ad L =>
      obtain ⟨hk, hle, cur, hcur, hsz, hrr⟩ := hown
      refine ⟨by rw [hk, h3], by show L.off + ob.c.list.length ≤ L.size; rw [h5]; exact hle, cur, by rw [← h2]; exact hcur, hsz, fun j c hc => ?_⟩
      have hj : j < ob0.cells.length := by show j < ob0.c.list.length; rw [← h5]; exact (List.getElem?_eq_some_iff.1 hc).1
      have hc0 : ob0.cells[j]? = some ob0.cells[j] := List.getElem?_eq_getElem hj
      obtain ⟨y, hy, hy1, hy2⟩ := hrr j _ hc0
      exact ⟨y, hy, hy1, (h6 j c _ hc hc0).rel S hy2⟩
    | fm F =>
      obtain ⟨css, h7, h8, h9⟩ := hown
      refine ⟨css, h4.fam h7, h8, fun j cs l g1 g2 => ?_⟩
      rw [← h2, ← h3]; exact h9 j cs l g1 g2
theorem mpR_fok (S : Mem s M O U w) (f : Nat) (F : List (Option Loc)) (h1 : (mpR M ρ)[f]? = some (.fm F)) : FOk F := by
  obtain ⟨c, h3, h4⟩ := mpR_fm h1
  exact S.fok c F h4
theorem mpR_sep (S : Mem s M O U w) (hnd : nodupB ρ = true) (b b' : Nat) (p p' : Pl) (B : Nat) (h1 : (mpR M ρ)[b]? = some p) (h2 : (mpR M ρ)[b']? = some p') (e1 : p.has B) (e2 : p'.has B) : b = b' := by
  obtain ⟨c, h3, h4⟩ := mpR_pl h1 e1
  obtain ⟨c', h5, h6⟩ := mpR_pl h2 e2
  have := S.sep c c' p p' B h4 h6 e1 e2
  subst this
  exact nodupB_spec hnd b b' c h3 h5
/-- The lent blocks keep their names. -/
def lentB : Nat → Rho → Bool
  | 0, _ => true
  | m + 1, ρ => (ρ[m]? == some (some m)) && lentB m ρ
theorem lentB_spec : ∀ {m : Nat} {ρ : Rho}, lentB m ρ = true → ∀ i, i < m → ρ[i]? = some (some i)
  | 0, _, _, i, h => by omega
  | m + 1, ρ, hl, i, h => by
    simp only [lentB, Bool.and_eq_true, beq_iff_eq] at hl
    by_cases e : i = m
    · subst e; exact hl.1
    · exact lentB_spec hl.2 i (by omega)
theorem Mem.told (S : Mem s M O U w) {B : List Ob} {m : Nat} (hm : s.L.length = m) (hl : lentB m ρ = true) (hnd : nodupB ρ = true) (hB : BlkL z O ρ ρ B) : Mem s (mpR M ρ) (B.map some) (frU z M ρ U) w := by
  have hlent := lentB_spec hl
  refine ⟨S.base, fun b x h => ?_, by simp [mpR, hB.spec.1], fun B hB => S.lt B (inM_R hB), fun B hB => S.fresh B (inM_R hB), mpR_sep S hnd, mpR_fok S, hB.own S, fun B hB => ⟨frU_fz S hB, ?_⟩, S.tab.mono (fun _ _ => rfl) (fun B hB => .inl hB)⟩
  · have hb : b < m := by rw [← hm]; exact (List.getElem?_eq_some_iff.1 h).1
    exact mpR_some (hlent b hb) (S.lent b x h)
  · rcases hB with hB | ⟨_, h1, h2⟩
    · exact (S.u B hB).2
    · rcases S.fresh B h1 with h3 | h3
      · exact .inr h3
      · obtain ⟨b, L, h4, h5⟩ := Bs.exX h3
        have hb : b < m := by rw [← hm]; exact (List.getElem?_eq_some_iff.1 h4).1
        exact absurd ⟨b, L, mpR_some (hlent b hb) (S.lent b _ h4), h5⟩ h2
end
def PinA (O : Obs) (ρ : Rho) (σ : Fr) : List (Nat × AV) → Prop
  | [] => True
  | (t, a) :: l => Sb true O ρ a (σ t) ∧ PinA O ρ σ l
def ovA : List (Nat × AV) → Fr
  | [] => fun _ => .any
  | (d, v) :: l => updA (ovA l) d v
theorem PinA.rels {s : Bs} {M : Mp} {O : Obs} {U : Nat → Prop} {w : World} {ρ : Rho} {σ : Fr} {σc : Nat → Value} (S : Mem s M O U w) (hσ : Rels w U M σ σc) : ∀ {l : List (Nat × AV)}, PinA O ρ σ l → Rels w (frU true M ρ U) (mpR M ρ) (ovA l) σc
  | [], _ => fun t => .any _
  | (d, v) :: l, ⟨h1, h2⟩ => by
    intro t
    have ih := PinA.rels S hσ h2 t
    show Rel _ _ _ (bif Nat.beq t d then v else ovA l t) (σc t)
    cases hb : Nat.beq t d with
    | true =>
      have : t = d := Nat.eq_of_beq_eq_true hb
      subst this
      exact h1.rel S (hσ t)
    | false => exact ih
/-- Slots and blocks as they are told at a loop's head. -/
structure Rs (m : Nat) (σ : Fr) (O : Obs) (ρ : Rho) (l : List (Nat × AV)) (B : List Ob) : Prop where
  lent : lentB m ρ = true
  nodup : nodupB ρ = true
  blk : BlkL true O ρ ρ B
  pins : PinA O ρ σ l
section
variable {P : Program} {n : Nat} {s : Bs} {Q : APost} {σ : Fr} {O : Obs} {ops : Array Oper} {rest : List Oper} {d : Nat} {ty : TypeId} {pos : String} {after : Array Edge}
theorem PC.loop {m : Nat} (hm : s.L.length = m) {α : Type} {c : Code} (L : α → List (Nat × AV)) (B : α → List Ob) (J : α → Prop) (μ : α → Nat) (x0 : α) (ρ0 : Rho) (h0 : Rs m σ O ρ0 (L x0) (B x0)) (j0 : J x0)
    (round : ∀ x, J x → PC P n s c (thA (fun σ' O' => ∃ x', μ x' < μ x ∧ J x' ∧ ∃ ρ, Rs m σ' O' ρ (L x') (B x')) Q) (ovA (L x)) ((B x).map some)) : PC P n s (.loop c) Q σ O := by
  refine ⟨fun M U σc w S hσ => CW.loop (fun x σc w => J x ∧ ∃ M U, Mem s M ((B x).map some) U w ∧ Rels w U M (ovA (L x)) σc) μ x0 ⟨j0, _, _, S.told hm h0.lent h0.nodup h0.blk, h0.pins.rels S hσ⟩ ?_⟩
  rintro x τ w1 ⟨hj, M1, U1, S1, h1⟩
  refine ((round x hj).h M1 U1 τ w1 S1 h1).mono ?_
  rintro e τ' w' ⟨M', U', σ', O', S', hσ', hq⟩
  unfold thn
  cases e with
  | normal =>
    obtain ⟨x', hlt, hj', ρ, hR⟩ := hq
    exact ⟨x', hlt, hj', _, _, S'.told hm hR.lent hR.nodup hR.blk, hR.pins.rels S' hσ'⟩
  | _ => exact ⟨M', U', σ', O', S', hσ', hq⟩
/-- What follows goes on from what is told. -/
theorem PC.told {m : Nat} (hm : s.L.length = m) {c : Code} (l : List (Nat × AV)) (B : List Ob) (ρ : Rho) (h0 : Rs m σ O ρ l B) (h : PC P n s c Q (ovA l) (B.map some)) : PC P n s c Q σ O :=
  ⟨fun M U σc w S hσ => h.h _ _ σc w (S.told hm h0.lent h0.nodup h0.blk) (h0.pins.rels S hσ)⟩
def ArgsRel (w : World) (U : Nat → Prop) (M : Mp) (args : List AV) (av : List Value) : Prop := av.length = args.length ∧ ∀ (i : Nat) a y, args[i]? = some a → av[i]? = some y → Rel w U M a y
/-- What a call does: of arguments as told, and blocks that are lent to it for writing. -/
def FnX (P : Program) (f : FuncId) (O0 : List Ob) (args : List AV) (R : AV → List Ob → Prop) : Prop :=
  ∀ (s : Bs) (U : Nat → Prop) (av : List Value), Mem s s.L (O0.map some) U s.w → (∀ B, U B → s.V B) → ArgsRel s.w U s.L args av →
    Calls P f av.toArray s.w fun e w' => ∃ v r bl M' U', e = .returned v ∧ R r bl ∧ Rel w' U' M' r v ∧ Mem s M' (bl.map some) U' w'
abbrev Fn (P : Program) (f : FuncId) (args : List AV) (R : AV → List Ob → Prop) : Prop := FnX P f [] args R
/-- The result variables' values. -/
inductive RVA (P : Program) (σ : Fr) (O : Obs) : List ResultVar → List AV → Prop
  | nil : RVA P σ O [] []
  | tmp {t : Nat} {r : List ResultVar} {vs : List AV} (h : RVA P σ O r vs) : RVA P σ O (.tmp t :: r) (σ t :: vs)
  | cell1 {t b : Nat} {T : TypeId} {ob : Ob} {c : AV} {r : List ResultVar} {vs : List AV} [Y : CA P T false] (ht : σ t = .op b 0) (hO : O[b]? = some (some ob)) (hc : ob.cells[0]? = some c) (h : RVA P σ O r vs) : RVA P σ O (.cell t T :: r) (c :: vs)
  | cellN {t b m : Nat} {T : TypeId} {ob : Ob} {cs : List AV} {r : List ResultVar} {vs : List AV} [Y : CA P T true] [Z : CS P T m] (ht : σ t = .op b 0) (hO : O[b]? = some (some ob)) (hc : ob.cells = cs) (hm : cs.length = m) (h : RVA P σ O r vs) : RVA P σ O (.cell t T :: r) (.agg cs :: vs)
theorem RVA.len {rl : List ResultVar} {vs : List AV} (h : RVA P σ O rl vs) : vs.length = rl.length := by
  induction h with
  | nil => rfl
  | tmp _ ih => simp [ih]
  | cell1 _ _ _ _ ih => simp [ih]
  | cellN _ _ _ _ _ ih => simp [ih]
theorem RVA.rv {M : Mp} {U : Nat → Prop} {w : World} {σc : Nat → Value} (S : Mem s M O U w) (hσ : Rels w U M σ σc) {rl : List ResultVar} {vs : List AV} (h : RVA P σ O rl vs) : ∃ ys, RV P σc w rl ys ∧ ys.length = vs.length ∧ ∀ (j : Nat) c y, vs[j]? = some c → ys[j]? = some y → Rel w U M c y := by
  have step : ∀ {vs : List AV} {ys : List Value} {c : AV} {y : Value}, ys.length = vs.length → (∀ (j : Nat) c y, vs[j]? = some c → ys[j]? = some y → Rel w U M c y) → Rel w U M c y → (y :: ys).length = (c :: vs).length ∧ ∀ (j : Nat) c' y', (c :: vs)[j]? = some c' → (y :: ys)[j]? = some y' → Rel w U M c' y' := by
    intro vs ys c y h1 h2 h3
    refine ⟨by simp [h1], fun j c' y' h4 h5 => ?_⟩
    cases j with
    | zero => simp at h4 h5; subst h4; subst h5; exact h3
    | succ j => exact h2 j c' y' (by simpa using h4) (by simpa using h5)
  induction h with
  | nil => exact ⟨[], .nil, rfl, fun j c y h => by simp at h⟩
  | @tmp t r vs _ ih =>
    obtain ⟨ys, h1, h2, h3⟩ := ih
    exact ⟨_, .tmp h1, step h2 h3 (hσ t)⟩
  | @cell1 t b T ob c r vs Y ht hO hc _ ih =>
    obtain ⟨ys, h1, h2, h3⟩ := ih
    have e := hσ t; rw [ht] at e
    generalize hx : σc t = u at e
    cases e with
    | opd _ _ _ _ hM => exact (S.own _ _ _ hO hM).elim
    | op _ _ L hM =>
      obtain ⟨_, _, cur, hcur, _, hr⟩ := S.own b ob _ hO hM
      obtain ⟨y, hy, _, hR⟩ := hr 0 c hc
      refine ⟨_, .cell hx (v := y) ?_ h1, step h2 h3 hR⟩
      have : w.cell? ⟨L.blk, L.off, none⟩ = some y := by rw [cell_of_row w _ _ cur _ _ hcur]; exact hy
      simp [loadVar, Y.run, this]
  | @cellN t b m T ob cs r vs Y Z ht hO hc hm _ ih =>
    obtain ⟨ys, h1, h2, h3⟩ := ih
    have e := hσ t; rw [ht] at e
    generalize hx : σc t = u at e
    cases e with
    | opd _ _ _ _ hM => exact (S.own _ _ _ hO hM).elim
    | op _ _ L hM =>
      obtain ⟨_, hle, cur, hcur, hsz, hr⟩ := S.own b ob _ hO hM
      rw [hc] at hr hle
      have hyl : ((cur.toList.drop L.off).take m).length = m := by simp; omega
      have hget : ∀ i y, ((cur.toList.drop L.off).take m)[i]? = some y → i < m ∧ cur[L.off + i]? = some y := by
        intro i y h
        rw [List.getElem?_take] at h
        split at h
        · rename_i hi; rw [List.getElem?_drop] at h; exact ⟨hi, by simpa using h⟩
        · cases h
      refine ⟨_, .cell hx (v := .agg ((cur.toList.drop L.off).take m).toArray) ?_ h1, step h2 h3 (.agg _ _ (by rw [hyl, hm]) ?_ ?_)⟩
      · have hl : (loadCells ⟨L.blk, L.off, none⟩ ((cur.toList.drop L.off).take m).length).run P w = .ok ((cur.toList.drop L.off).take m).toArray w :=
          run_loadCells_list (P := P) w _ _ (fun j u hu => by
            obtain ⟨_, h6⟩ := hget j u hu
            rw [Rd.addr_add, cell_of_row w _ _ cur _ _ hcur]; exact h6)
        rw [hyl] at hl
        simp [loadVar, Y.run, Z.run, hl]
      · intro y hy
        obtain ⟨i, hi⟩ := mem_get hy
        obtain ⟨h4, h5⟩ := hget i y hi
        obtain ⟨y', h6, h7, _⟩ := hr i _ (List.getElem?_eq_getElem (by omega))
        rw [h5] at h6; cases h6; exact h7
      · intro i c y h4 h5
        obtain ⟨_, h6⟩ := hget i y h5
        obtain ⟨y', h7, _, h8⟩ := hr i c h4
        rw [h6] at h7; cases h7; exact h8
def packA : List AV → AV
  | [v] => v
  | vs => .tup vs
def FinA (P : Program) (fn : Func) (m : Nat) (R : AV → List Ob → Prop) : APost := fun e σ O => (e = .ret ∨ e = .normal) ∧ ∃ vs ρ r bl, RVA P σ O fn.results.toList vs ∧ Sb true O ρ r (packA vs) ∧ lentB m ρ = true ∧ nodupB ρ = true ∧ BlkL true O ρ ρ bl ∧ R r bl
theorem FinA.mk {fn : Func} {m : Nat} {R : AV → List Ob → Prop} {e : Exit} {rl : List ResultVar} {vs : List AV} {v0 : AV} {r : AV} {bl : List Ob} (ρ : Rho) (he : e = .ret ∨ e = .normal) (hf : fn.results = rl.toArray) (hv : RVA P σ O rl vs) (hp : packA vs = v0) (hl : lentB m ρ = true) (hn : nodupB ρ = true) (hs : Sb true O ρ r v0) (hb : BlkL true O ρ ρ bl) (hR : R r bl) : FinA P fn m R e σ O :=
  ⟨he, vs, ρ, r, bl, by rw [hf]; exact hv, by rw [hp]; exact hs, hl, hn, hb, hR⟩
def iniA (args : List AV) : Fr := fun t => args.getD t .any
theorem FnX.mk {f : FuncId} {fn : Func} {c : Code} {O0 : List Ob} {args : List AV} {R : AV → List Ob → Prop} (hf : P.funcs[f]? = some fn) (hb : fn.body = some c) (hn : Nat.ble args.length fn.ntmps = true)
    (h : ∀ s : Bs, s.L.length = O0.length → PC P fn.ntmps s c (FinA P fn O0.length R) (iniA args) (O0.map some)) : FnX P f O0 args R := by
  intro s U av S hV ha
  have hs : s.L.length = O0.length := by rw [S.len]; simp
  have hle : args.length ≤ fn.ntmps := Nat.le_of_ble_eq_true hn
  refine calls hf hb (Nat.ble_eq_true_of_le (by rw [ha.1]; exact hle)) ?_
  have hσ : Rels s.w U s.L (iniA args) (ini av) := by
    intro t
    unfold iniA ini
    simp only [List.getD_eq_getElem?_getD]
    rcases Nat.lt_or_ge t args.length with h1 | h1
    · rw [List.getElem?_eq_getElem h1, List.getElem?_eq_getElem (by rw [ha.1]; exact h1)]
      exact ha.2 t _ _ (List.getElem?_eq_getElem h1) (List.getElem?_eq_getElem (by rw [ha.1]; exact h1))
    · rw [List.getElem?_eq_none h1]; exact .any _
  refine ((h s hs).h s.L U (ini av) s.w S hσ).mono ?_
  rintro e τ w' ⟨M', U', σ', O', S', hσ', he, vs, ρ, r, bl, hv, hsb, hl, hnd, hbl, hR⟩
  obtain ⟨ys, hrv, hyl, hyr⟩ := hv.rv S' hσ'
  have S2 := S'.told hs hl hnd hbl
  have hlen : vs.length = fn.results.toList.length := hv.len
  match hvs : vs, hys : ys, hyl with
  | [v], [y], _ =>
    have hr1 : ∃ rv, fn.results = #[rv] := by
      match hq : fn.results.toList, hlen with
      | [rv], _ => exact ⟨rv, by rw [← Array.toArray_toList (xs := fn.results), hq]⟩
    obtain ⟨rv', hrv'⟩ := hr1
    rw [hrv'] at hrv
    refine Fin.rets1 (l := rv') he hrv' (by simpa using hrv) ?_
    exact ⟨y, r, bl, _, _, rfl, hR, hsb.rel S' (hyr 0 _ _ rfl rfl), S2⟩
  | [], [], _ =>
    have h0 : fn.results = #[] := by
      have : fn.results.toList = [] := List.eq_nil_of_length_eq_zero (by simpa using hlen.symm)
      rw [← Array.toArray_toList (xs := fn.results), this]
    refine Fin.ret (v := .tuple #[]) he (fun a ha => ?_) ?_
    · rw [results_eq, h0]; simp
    · exact ⟨_, r, bl, _, _, rfl, hR, hsb.rel S' (.tup [] [] rfl (fun j c y h => by simp at h)), S2⟩
  | v1 :: v2 :: vs', y1 :: y2 :: ys', hyl =>
    refine Fin.rets (l := fn.results.toList) he (by simp) (by rw [← hlen]; rfl) hrv ?_
    exact ⟨_, r, bl, _, _, rfl, hR, hsb.rel S' (.tup _ _ hyl hyr), S2⟩
end
end V
end Go.Proofs.YtkjnnifnmoekjaaDoor
namespace Go.Proofs.YtkjnnifnmoekjaaDoor
namespace V
set_option linter.unusedVariables false
set_option linter.unusedSimpArgs false
open Go.RowKit
mutual
/-- No slice and no pointer that is only read. -/
def AV.flat : AV → Prop
  | .any => True
  | .t (.v _) => True
  | .t _ => False
  | .os _ _ _ => True
  | .op _ _ => True
  | .oi _ _ _ => True
  | .fn _ cs => AV.flatL cs
  | .agg cs => AV.flatL cs
  | .tup cs => AV.flatL cs
def AV.flatL : List AV → Prop
  | [] => True
  | c :: cs => AV.flat c ∧ AV.flatL cs
end
theorem AV.flatL_get : ∀ {cs : List AV} {j : Nat} {c : AV}, AV.flatL cs → cs[j]? = some c → c.flat
  | [], j, c, _, h => by simp at h
  | d :: cs, 0, c, h, h1 => by simp at h1; subst h1; exact h.1
  | d :: cs, j + 1, c, h, h1 => AV.flatL_get h.2 (by simpa using h1)
def Ob.flat (ob : Ob) : Prop := match ob.c with
  | .tr cs => ∀ c, c ∈ cs → ∃ x, c = .v x
  | .mx cs => AV.flatL cs
  | .fm _ => True
theorem Ob.flat_get {ob : Ob} (h : ob.flat) {j : Nat} {c : AV} (hc : ob.cells[j]? = some c) : c.flat := by
  obtain ⟨c0, t, k⟩ := ob
  cases c0 with
  | tr cs =>
    simp only [Ob.cells, Cs.list, List.getElem?_map] at hc
    cases hq : cs[j]? with
    | none => rw [hq] at hc; cases hc
    | some q =>
      rw [hq] at hc; simp at hc; subst hc
      obtain ⟨x, rfl⟩ := h q (get_mem hq)
      trivial
  | mx cs => exact AV.flatL_get h hc
  | fm css => simp [Ob.cells, Cs.list] at hc
theorem Rel.to {w : World} {U U' : Nat → Prop} {M M' : Mp} {θ : Nat → Nat} {z : Bool} (hU : z = false → ∀ B, U B → U' B) (hM : ∀ (i : Nat) x, M[i]? = some x → M'[θ i]? = some x) {c : AV} {y : Value} (h : Rel w U M c y) (hf : z = true → c.flat) : Rel w U' M' (c.ren θ) y := by
  have ht : ∀ (c : Tr) (y : Value), TRel w U c y → (z = true → (AV.t c).flat) → TRel w U' c y := by
    intro c y h hf
    cases z with
    | false => exact h.mono (fun _ _ => rfl) (hU rfl)
    | true =>
      have := hf rfl
      cases c with
      | v x => cases h with | v _ hp => exact .v _ hp
      | _ => exact this.elim
  induction h with
  | any y => exact .any y
  | t c y h => exact .t _ _ (ht c y h hf)
  | os b j n cap L h hc hn hx => exact .os _ _ _ _ L (hM _ _ h) hc hn hx
  | osn b h => exact .osn _ (hM _ _ h)
  | osz b j o L h => exact .osz _ _ _ L (hM _ _ h)
  | osd b j n y h1 h => exact .osd _ _ _ _ h1 (hM _ _ h)
  | opd b j y h1 h => exact .opd _ _ _ h1 (hM _ _ h)
  | op b j L h => exact .op _ _ L (hM _ _ h)
  | oi f j n cap F L h h1 h2 h3 h4 => exact .oi _ _ _ cap F L (hM _ _ h) h1 h2 h3 h4
  | oin f j F h h1 => exact .oin _ _ F (hM _ _ h) h1
  | oiz f j o F L h h1 => exact .oiz _ _ o F L (hM _ _ h) h1
  | oid f j n y h1 h => exact .oid _ _ _ _ h1 (hM _ _ h)
  | fn f cs ys hl _ ih => exact .fn f _ ys (by rw [AV.renL_len]; exact hl) (fun j c y h1 h2 => by
      rw [AV.renL_get] at h1
      cases hq : cs[j]? with
      | none => rw [hq] at h1; cases h1
      | some q => rw [hq] at h1; simp at h1; subst h1; exact ih j q y hq h2 (fun e => AV.flatL_get (hf e) hq))
  | agg cs ys hl h1 _ ih => exact .agg _ ys (by rw [AV.renL_len]; exact hl) h1 (fun j c y h1 h2 => by
      rw [AV.renL_get] at h1
      cases hq : cs[j]? with
      | none => rw [hq] at h1; cases h1
      | some q => rw [hq] at h1; simp at h1; subst h1; exact ih j q y hq h2 (fun e => AV.flatL_get (hf e) hq))
  | tup cs ys hl _ ih => exact .tup _ ys (by rw [AV.renL_len]; exact hl) (fun j c y h1 h2 => by
      rw [AV.renL_get] at h1
      cases hq : cs[j]? with
      | none => rw [hq] at h1; cases h1
      | some q => rw [hq] at h1; simp at h1; subst h1; exact ih j q y hq h2 (fun e => AV.flatL_get (hf e) hq))
def setK (O : Obs) : List Nat → List Ob → Obs
  | b :: κ, o :: bl => setK (O.set b (some o)) κ bl
  | _, _ => O
theorem setK_len : ∀ (κ : List Nat) (bl : List Ob) (O : Obs), (setK O κ bl).length = O.length
  | [], _, _ => by simp [setK]
  | b :: κ, [], O => by simp [setK]
  | b :: κ, o :: bl, O => by rw [setK, setK_len κ bl]; simp
theorem setK_other : ∀ (κ : List Nat) (bl : List Ob) (O : Obs) (b : Nat), b ∉ κ → (setK O κ bl)[b]? = O[b]?
  | [], _, _, _, _ => by simp [setK]
  | c :: κ, [], O, _, _ => by simp [setK]
  | c :: κ, o :: bl, O, b, h => by
    simp only [List.mem_cons, not_or] at h
    rw [setK, setK_other κ bl _ b h.2, List.getElem?_set_ne (Ne.symm h.1)]
theorem setK_at : ∀ (κ : List Nat) (bl : List Ob) (O : Obs) (i b : Nat) (o : Ob), nodupB (κ.map some) = true → κ[i]? = some b → bl[i]? = some o → b < O.length → (setK O κ bl)[b]? = some (some o)
  | [], _, _, i, _, _, _, h, _, _ => by simp at h
  | c :: κ, [], _, i, _, _, _, _, h, _ => by simp at h
  | c :: κ, o :: bl, O, 0, b, o', hn, h1, h2, h3 => by
    simp at h1 h2; subst h1; subst h2
    simp only [List.map_cons, nodupB, Bool.and_eq_true, Bool.not_eq_true', List.contains_eq_mem, decide_eq_false_iff_not] at hn
    rw [setK, setK_other κ bl _ _ (fun h => hn.1 (List.mem_map.2 ⟨_, h, rfl⟩)), List.getElem?_set_self h3]
  | c :: κ, o :: bl, O, i + 1, b, o', hn, h1, h2, h3 => by
    simp only [List.map_cons, nodupB, Bool.and_eq_true] at hn
    rw [setK]
    exact setK_at κ bl _ i b o' hn.2 (by simpa using h1) (by simpa using h2) (by simpa using h3)
/-- The callee's names in the caller's. -/
def thet (κ : List Nat) (m : Nat) : Nat → Nat := fun i => match κ[i]? with | some b => b | none => m + (i - κ.length)
section
variable {P : Program} {n : Nat} {s : Bs} {Q : APost} {σ : Fr} {O : Obs} {ops : Array Oper} {rest : List Oper} {d : Nat} {ty : TypeId} {pos : String} {after : Array Edge}
theorem SbL.rels {z : Bool} {M : Mp} {U : Nat → Prop} {w : World} {ρ : Rho} {args ds : List AV} {av : List Value} (S : Mem s M O U w) (h : SbL z O ρ args ds) (hl : av.length = ds.length) (hr : ∀ (j : Nat) c y, ds[j]? = some c → av[j]? = some y → Rel w U M c y) : ArgsRel w (frU z M ρ U) (mpR M ρ) args av := by
  obtain ⟨h1, h2⟩ := h.spec
  refine ⟨by omega, fun i a y h3 h4 => ?_⟩
  have hi : i < ds.length := by have := (List.getElem?_eq_some_iff.1 h3).1; omega
  exact (h2 i a _ h3 (List.getElem?_eq_getElem hi)).rel S (hr i _ y (List.getElem?_eq_getElem hi) h4)
/-- Memory behind a call. -/
theorem Mem.called {z : Bool} {M : Mp} {U : Nat → Prop} {w w' : World} {κ : List Nat} (S : Mem s M O U w) (hnd : nodupB (κ.map some) = true) (hκ : ∀ (i b : Nat), κ[i]? = some b → b < O.length) {M' : Mp} {U' : Nat → Prop} {bl : List Ob}
    (S' : Mem ⟨w, mpR M (κ.map some), frU z M (κ.map some) U⟩ M' (bl.map some) U' w') (hfl : z = true → ∀ ob, ob ∈ bl → ob.flat) :
    ∃ M2 U2, Mem s M2 (setK (O ++ (bl.drop κ.length).map (fun o => some (o.ren (thet κ O.length)))) κ (bl.map (·.ren (thet κ O.length)))) U2 w' ∧
      (∀ c y, Rel w U M c y → Rel w' U2 M2 c y) ∧ (∀ c y, Rel w' U' M' c y → (z = true → c.flat) → Rel w' U2 M2 (c.ren (thet κ O.length)) y) ∧ (∀ (b : Nat) x, M[b]? = some x → M2[b]? = some x) ∧
      (∀ B, B ∈ (Bs.mk w (mpR M (κ.map some)) (frU z M (κ.map some) U)).X → ∃ (i b : Nat) (L : Pl), κ[i]? = some b ∧ M[b]? = some L ∧ L.has B) ∧ ∀ (b : Nat) (p : Pl) (B : Nat), M.length ≤ b → M2[b]? = some p → p.has B → w.heap.size ≤ B := by
  let M2 : Mp := M ++ M'.drop κ.length
  let U2 : Nat → Prop := fun B => U B ∨ (U' B ∧ w.heap.size ≤ B)
  have hκM : ∀ (i b : Nat), κ[i]? = some b → ∃ x, M[b]? = some x ∧ M'[i]? = some x := by
    intro i b h
    have hb : b < M.length := by rw [S.len]; exact hκ i b h
    have hx : M[b]? = some M[b] := List.getElem?_eq_getElem hb
    exact ⟨_, hx, S'.lent i _ (mpR_some (by simp [h]) hx)⟩
  have hlen : κ.length ≤ M'.length := by
    rcases Nat.lt_or_ge M'.length κ.length with h | h
    · obtain ⟨x, _, hx⟩ := hκM M'.length _ (List.getElem?_eq_getElem h)
      rw [List.getElem?_eq_none (Nat.le_refl _)] at hx; cases hx
    · exact h
  have hbl : bl.length = M'.length := by have := S'.len; simp at this; omega
  have hX : ∀ B, B ∈ (Bs.mk w (mpR M (κ.map some)) (frU z M (κ.map some) U)).X → ∃ (i b : Nat) (L : Pl), κ[i]? = some b ∧ M[b]? = some L ∧ M'[i]? = some L ∧ L.has B := by
    intro B hB
    obtain ⟨i, L, h1, h2⟩ := Bs.exX hB
    obtain ⟨b, h3, h4⟩ := mpR_pl h1 h2
    have h3' : κ[i]? = some b := by
      rw [List.getElem?_map] at h3
      cases hq : κ[i]? with
      | none => rw [hq] at h3; cases h3
      | some q => rw [hq] at h3; simp at h3; rw [h3]
    exact ⟨i, b, L, h3', h4, S'.lent i _ h1, h2⟩
  have hnew : ∀ (i : Nat) (L : Pl) (B : Nat), κ.length ≤ i → M'[i]? = some L → L.has B → w.heap.size ≤ B := by
    intro i L B hi hM hB
    rcases S'.fresh _ ⟨i, L, hM, hB⟩ with h | h
    · exact h
    · obtain ⟨j, b, L', h1, _, h3, h4⟩ := hX _ h
      have := S'.sep j i L' L B h3 hM h4 hB
      have := (List.getElem?_eq_some_iff.1 h1).1
      omega
  have hM2 : ∀ (b : Nat) x, M[b]? = some x → M2[b]? = some x := fun b x h => by
    show (M ++ M'.drop κ.length)[b]? = some x
    rw [List.getElem?_append_left (List.getElem?_eq_some_iff.1 h).1]; exact h
  have hM2' : ∀ (i : Nat) x, κ.length ≤ i → M'[i]? = some x → M2[M.length + (i - κ.length)]? = some x := fun i x hi h => by
    show (M ++ M'.drop κ.length)[M.length + (i - κ.length)]? = some x
    rw [List.getElem?_append_right (by omega), show M.length + (i - κ.length) - M.length = i - κ.length by omega, List.getElem?_drop, show κ.length + (i - κ.length) = i by omega]; exact h
  have hθ : ∀ (i : Nat) x, M'[i]? = some x → M2[thet κ O.length i]? = some x := by
    intro i x h
    unfold thet
    cases hq : κ[i]? with
    | some b =>
      obtain ⟨x', h1, h2⟩ := hκM i b hq
      rw [h] at h2; cases h2
      exact hM2 b _ h1
    | none =>
      have hi : κ.length ≤ i := by
        rcases Nat.lt_or_ge i κ.length with h1 | h1
        · rw [List.getElem?_eq_getElem h1] at hq; cases hq
        · exact h1
      rw [← S.len]; exact hM2' i x hi h
  have hback : ∀ (b : Nat) x, M2[b]? = some x → (b < M.length ∧ M[b]? = some x) ∨ (M.length ≤ b ∧ M'[κ.length + (b - M.length)]? = some x) := by
    intro b x h
    rcases Nat.lt_or_ge b M.length with h1 | h1
    · left; refine ⟨h1, ?_⟩
      have : (M ++ M'.drop κ.length)[b]? = some x := h
      rwa [List.getElem?_append_left h1] at this
    · right; refine ⟨h1, ?_⟩
      have : (M ++ M'.drop κ.length)[b]? = some x := h
      rwa [List.getElem?_append_right h1, List.getElem?_drop] at this
  have hsame : ∀ B, U B → w'.heap[B]? = w.heap[B]? := fun B hB => S'.base.block B (S.u B hB).1.1 (fun h => by
    obtain ⟨i, b, L, _, h2, _, h4⟩ := hX B h
    exact (S.u B hB).1.2 ⟨b, L, h2, h4⟩)
  have hrel : ∀ c y, Rel w U M c y → Rel w' U2 M2 c y := fun c y h => h.mono hsame (fun B hB => .inl hB) hM2
  have hrel' : ∀ c y, Rel w' U' M' c y → (z = true → c.flat) → Rel w' U2 M2 (c.ren (thet κ O.length)) y := by
    intro c y h hf
    refine h.to (U' := U2) (z := z) (fun hz B hB => ?_) hθ hf
    subst hz
    rcases (S'.u B hB).2 with h1 | h1
    · rcases h1 with h1 | ⟨h1, _⟩
      · exact .inl h1
      · cases h1
    · exact .inr ⟨hB, h1⟩
  have hsz := S'.base.size
  refine ⟨M2, U2, ⟨?_, fun b x h => hM2 b x (S.lent b x h), ?_, ?_, ?_, ?_, ?_, ?_, ?_, S.tab.mono hsame (fun B hB => .inl hB)⟩, hrel, hrel', hM2, fun B hB => (by obtain ⟨i, b, L, h1, h2, _, h4⟩ := hX B hB; exact ⟨i, b, L, h1, h2, h4⟩), fun b p B hb h1 h2 => by
    rcases hback b _ h1 with ⟨g1, _⟩ | ⟨_, g2⟩
    · omega
    · exact hnew _ p B (by omega) g2 h2⟩
  · refine ⟨S'.base.os.trans S.base.os, S'.base.tape.trans S.base.tape, S'.base.output.trans S.base.output, Nat.le_trans S.base.size hsz, fun k hk hx => ?_⟩
    rw [S'.base.block k (Nat.lt_of_lt_of_le hk S.base.size) (fun h => by
      obtain ⟨i, b, L, _, h2, _, h3⟩ := hX k h
      rcases S.fresh _ ⟨b, L, h2, h3⟩ with h1 | h1
      · omega
      · exact hx h1)]
    exact S.base.block k hk hx
  · rw [setK_len]
    simp only [M2, List.length_append, List.length_drop, List.length_map, hbl, S.len]
  · rintro B ⟨b, L, h1, h3⟩
    rcases hback b _ h1 with ⟨_, h2⟩ | ⟨_, h2⟩
    · exact Nat.lt_of_lt_of_le (S.lt _ ⟨b, L, h2, h3⟩) hsz
    · exact S'.lt _ ⟨_, L, h2, h3⟩
  · rintro B ⟨b, L, h1, h3⟩
    rcases hback b _ h1 with ⟨_, h2⟩ | ⟨_, h2⟩
    · exact S.fresh _ ⟨b, L, h2, h3⟩
    · exact .inl (Nat.le_trans S.base.size (hnew _ L B (by omega) h2 h3))
  · intro b b' L L' B h1 h2 e1 e2
    rcases hback b _ h1 with ⟨g1, h3⟩ | ⟨g1, h3⟩ <;> rcases hback b' _ h2 with ⟨g2, h4⟩ | ⟨g2, h4⟩
    · exact S.sep b b' L L' B h3 h4 e1 e2
    · have := S.lt _ ⟨b, L, h3, e1⟩; have := hnew _ L' B (by omega) h4 e2; omega
    · have := S.lt _ ⟨b', L', h4, e2⟩; have := hnew _ L B (by omega) h3 e1; omega
    · have := S'.sep _ _ L L' B h3 h4 e1 e2; omega
  · intro f F h1
    rcases hback f _ h1 with ⟨_, h2⟩ | ⟨_, h2⟩
    · exact S.fok f F h2
    · exact S'.fok _ F h2
  · intro b ob x hO hM
    have hblk : ∀ (i : Nat) (o : Ob) (x : Pl), bl[i]? = some o → M'[i]? = some x → Blk w' U2 M2 (o.ren (thet κ O.length)) x := by
      intro i o x h1 h2
      have := S'.own i o x (by simp [h1]) h2
      cases x with
      | dead => exact this
      | nl =>
        show (o.ren _).cells = []
        exact List.eq_nil_of_length_eq_zero (by rw [Ob.ren_len, show o.cells = [] from this]; rfl)
      | ad L =>
        obtain ⟨h3, h4, cur, h5, h6, h7⟩ := this
        refine ⟨h3, by rw [Ob.ren_len]; exact h4, cur, h5, h6, fun j c hc => ?_⟩
        rw [Ob.ren_get] at hc
        cases hq : o.cells[j]? with
        | none => rw [hq] at hc; cases hc
        | some q =>
          rw [hq] at hc; simp at hc; subst hc
          obtain ⟨y, g1, g2, g3⟩ := h7 j q hq
          exact ⟨y, g1, g2, hrel' _ _ g3 (fun e => Ob.flat_get (hfl e o (get_mem h1)) hq)⟩
      | fm F =>
        obtain ⟨css, h3, h4, h5⟩ := this
        exact ⟨css, by simp [Ob.ren, h3, Cs.ren], h4, h5⟩
    rcases hback b _ hM with ⟨g1, h3⟩ | ⟨g1, h3⟩
    · by_cases hm : b ∈ κ
      · obtain ⟨i, hi⟩ := mem_get hm
        have hib : i < bl.length := by have := (List.getElem?_eq_some_iff.1 hi).1; omega
        have hat := setK_at κ (bl.map (·.ren (thet κ O.length))) (O ++ (bl.drop κ.length).map (fun o => some (o.ren (thet κ O.length)))) i b (bl[i].ren (thet κ O.length)) hnd hi (by simp [hib]) (by have := hκ i b hi; simp; omega)
        rw [hat] at hO; cases hO
        obtain ⟨x', e1, e2⟩ := hκM i b hi
        rw [h3] at e1; cases e1
        exact hblk i _ _ (List.getElem?_eq_getElem hib) e2
      · rw [setK_other _ _ _ _ hm, List.getElem?_append_left (by rw [← S.len]; exact g1)] at hO
        refine (S.own b ob x hO h3).mono (fun B hB => S'.base.block _ (S.lt _ ⟨b, x, h3, hB⟩) (fun h => ?_)) hrel
        obtain ⟨i, b', L', g2, g3, _, g4⟩ := hX _ h
        have := S.sep b' b L' x B g3 h3 g4 hB
        subst this; exact hm (get_mem g2)
    · have hi : κ.length + (b - M.length) < bl.length := by rw [hbl]; exact (List.getElem?_eq_some_iff.1 h3).1
      have hnk : b ∉ κ := fun h => by
        obtain ⟨i, hi'⟩ := mem_get h
        have := hκ i b hi'; rw [← S.len] at this; omega
      rw [setK_other _ _ _ _ hnk, List.getElem?_append_right (by rw [← S.len]; exact g1), List.getElem?_map, List.getElem?_drop, ← S.len, List.getElem?_eq_getElem hi] at hO
      simp only [Option.map_some, Option.some.injEq] at hO
      subst hO
      have hq := hblk _ _ _ (List.getElem?_eq_getElem hi) h3
      rw [← S.len] at hq
      exact hq
  · intro B hB
    rcases hB with hB | ⟨hB, hge⟩
    · refine ⟨⟨Nat.lt_of_lt_of_le (S.u B hB).1.1 hsz, ?_⟩, (S.u B hB).2⟩
      rintro ⟨b, L, h1, h2⟩
      rcases hback b _ h1 with ⟨_, h3⟩ | ⟨_, h3⟩
      · exact (S.u B hB).1.2 ⟨b, L, h3, h2⟩
      · have := hnew _ L B (by omega) h3 h2; have := (S.u B hB).1.1; omega
    · refine ⟨⟨(S'.u B hB).1.1, ?_⟩, .inr (Nat.le_trans S.base.size hge)⟩
      rintro ⟨b, L, h1, h2⟩
      rcases hback b _ h1 with ⟨_, h3⟩ | ⟨_, h3⟩
      · have := S.lt _ ⟨b, L, h3, h2⟩; omega
      · exact (S'.u B hB).1.2 ⟨_, L, h3, h2⟩
/-- A call by its contract. z: own blocks are handed over to be read, and what comes back is flat. -/
theorem call_core (z : Bool) (κ : List Nat) {f : FuncId} {O0 : List Ob} {args ds : List AV} {R : AV → List Ob → Prop} {xs : List Operand} (hc : FnX P f O0 args R)
    (ha : xs.map (evA σ) = ds) (hs : SbL z O (κ.map some) args ds) (hnd : nodupB (κ.map some) = true) (hb : BlkL z O (κ.map some) (κ.map some) O0)
    (hfl : z = true → ∀ r bl, R r bl → r.flat ∧ ∀ ob, ob ∈ bl → ob.flat) {M : Mp} {U : Nat → Prop} {σc : Nat → Value} {w : World} (S : Mem s M O U w) (hσ : Rels w U M σ σc) :
    Calls P f (xs.map (ev σc)).toArray w fun e w' => ∃ v r bl M2 U2 X, e = .returned v ∧ R r bl ∧ Mem s M2 (setK (O ++ (bl.drop κ.length).map (fun o => some (o.ren (thet κ O.length)))) κ (bl.map (·.ren (thet κ O.length)))) U2 w' ∧ (∀ c y, Rel w U M c y → Rel w' U2 M2 c y) ∧ Rel w' U2 M2 (r.ren (thet κ O.length)) v ∧
      (∀ (b : Nat) x, M[b]? = some x → M2[b]? = some x) ∧ BelowX X w w' ∧ (∀ B, B ∈ X → ∃ (i b : Nat) (L : Pl), κ[i]? = some b ∧ M[b]? = some L ∧ L.has B) ∧ ∀ (b : Nat) (p : Pl) (B : Nat), M.length ≤ b → M2[b]? = some p → p.has B → w.heap.size ≤ B := by
  have hsp := hb.spec
  have hκ : ∀ (i b : Nat), κ[i]? = some b → b < O.length := by
    intro i b h
    have hi : i < O0.length := by rw [hsp.1]; simp; exact (List.getElem?_eq_some_iff.1 h).1
    obtain ⟨ob0, h1, _⟩ := (hsp.2 i _ (some b) (List.getElem?_eq_getElem hi) (by simp [h])).2 b rfl
    exact (List.getElem?_eq_some_iff.1 h1).1
  have harg : ArgsRel w (frU z M (κ.map some) U) (mpR M (κ.map some)) args (xs.map (ev σc)) := by
    refine hs.rels S (by rw [← ha]; simp) fun j c y h1 h2 => ?_
    rw [← ha] at h1
    simp only [List.getElem?_map] at h1 h2
    cases hq : xs[j]? with
    | none => rw [hq] at h1; cases h1
    | some q => rw [hq] at h1 h2; simp at h1 h2; subst h1; subst h2; exact evA_rel hσ q
  have S0 : Mem ⟨w, mpR M (κ.map some), frU z M (κ.map some) U⟩ (mpR M (κ.map some)) (O0.map some) (frU z M (κ.map some) U) w :=
    ⟨BelowX.refl _ _, fun b x h => h, by simp [mpR, hsp.1], fun B hB => S.lt B (inM_R hB), fun B hB => .inr (by
      obtain ⟨b, L, h1, h2⟩ := hB; exact Bs.inX (s := ⟨w, mpR M (κ.map some), frU z M (κ.map some) U⟩) h1 h2), mpR_sep S hnd, mpR_fok S, hb.own S, fun B hB => ⟨frU_fz S hB, .inl hB⟩, S.tab.mono (fun _ _ => rfl) (fun B hB => .inl hB)⟩
  refine (hc ⟨w, mpR M (κ.map some), frU z M (κ.map some) U⟩ _ _ S0 (fun B hB => hB) harg).mono ?_
  rintro e w' ⟨v, r, bl, M', U', rfl, hR, hrel, S'⟩
  obtain ⟨M2, U2, S2, h1, h2, h3, h4⟩ := S.called hnd hκ S' (fun e => (hfl e r bl hR).2)
  exact ⟨v, r, bl, M2, U2, _, rfl, hR, S2, h1, h2 _ _ hrel (fun e => (hfl e r bl hR).1), h3, S'.base, h4⟩
theorem PL.call (z : Bool) (κ : List Nat) {f : FuncId} {O0 : List Ob} {args ds : List AV} {R : AV → List Ob → Prop} {xs : List Operand} {ats : Array TypeId} (hc : FnX P f O0 args R) (hd : Nat.blt d n = true)
    (hr : ∀ args w, (callFunc f args).run P w = .ok (.enter f args) w) (ha : xs.map (evA σ) = ds) (hs : SbL z O (κ.map some) args ds) (hnd : nodupB (κ.map some) = true) (hb : BlkL z O (κ.map some) (κ.map some) O0)
    (hfl : z = true → ∀ r bl, R r bl → r.flat ∧ ∀ ob, ob ∈ bl → ob.flat)
    (k : ∀ r bl, R r bl → PL P n s ops rest Q (updA σ d (r.ren (thet κ O.length))) (setK (O ++ (bl.drop κ.length).map (fun o => some (o.ren (thet κ O.length)))) κ (bl.map (·.ren (thet κ O.length))))) :
    PL P n s ops (⟨some d, .call { callee := .value (.func f), args := xs.toArray, argTypes := ats }, ty, pos, after, none⟩ :: rest) Q σ O := by
  refine ⟨fun M U σc w S hσ => LW.call hd (f := f) (run_fcall hr rfl) (call_core z κ hc ha hs hnd hb hfl S hσ) ?_⟩
  rintro e w' ⟨v, r, bl, M2, U2, X, rfl, hR, S2, h1, h2, _⟩
  exact ⟨v, rfl, (k r bl hR).h M2 U2 _ w' S2 (Rels.upd (fun t => h1 _ _ (hσ t)) d h2)⟩
end
end V
end Go.Proofs.YtkjnnifnmoekjaaDoor
namespace Go.Proofs.YtkjnnifnmoekjaaDoor
namespace V
set_option linter.unusedVariables false
set_option linter.unusedSimpArgs false
open Go.RowKit
section
variable {P : Program} {n : Nat} {s : Bs} {Q : APost} {σ : Fr} {O : Obs} {ops : Array Oper} {rest : List Oper} {d : Nat} {ty : TypeId} {pos : String} {after : Array Edge}
/-- A name dies. -/
theorem Mem.kill {M : Mp} {U : Nat → Prop} {w : World} {b : Nat} (S : Mem s M O U w) (hb : s.L.length ≤ b) : Mem s (M.set b .dead) (O.set b none) U w ∧ (∀ c z, Rel w U M c z → Rel w U (M.set b .dead) c z) := by
  have hget : ∀ (b' : Nat) x, (M.set b .dead)[b']? = some x → (b' = b ∧ x = .dead) ∨ (b' ≠ b ∧ M[b']? = some x) := by
    intro b' x h
    by_cases e : b' = b
    · subst e
      have hlt : b' < M.length := by have := (List.getElem?_eq_some_iff.1 h).1; simpa using this
      rw [List.getElem?_set_self hlt] at h; cases h; exact .inl ⟨rfl, rfl⟩
    · rw [List.getElem?_set_ne (Ne.symm e)] at h; exact .inr ⟨e, h⟩
  have hput : ∀ (b' : Nat) x, M[b']? = some x → (b' = b ∧ (M.set b .dead)[b']? = some .dead) ∨ (b' ≠ b ∧ (M.set b .dead)[b']? = some x) := by
    intro b' x h
    by_cases e : b' = b
    · subst e; exact .inl ⟨rfl, List.getElem?_set_self (List.getElem?_eq_some_iff.1 h).1⟩
    · exact .inr ⟨e, by rw [List.getElem?_set_ne (Ne.symm e)]; exact h⟩
  have hin : ∀ B, InM (M.set b .dead) B → InM M B := by
    rintro B ⟨b', L, h1, h2⟩
    rcases hget b' _ h1 with ⟨_, h3⟩ | ⟨_, h3⟩
    · subst h3; exact h2.elim
    · exact ⟨b', L, h3, h2⟩
  have hrel : ∀ c z, Rel w U M c z → Rel w U (M.set b .dead) c z := by
    intro c z h
    induction h with
    | any y => exact .any y
    | t c y h => exact .t c y h
    | os b' j n cap L h hc hn hx => rcases hput b' _ h with ⟨_, h1⟩ | ⟨_, h1⟩; exact .osd _ _ _ _ rfl h1; exact .os _ _ _ _ L h1 hc hn hx
    | osn b' h => rcases hput b' _ h with ⟨_, h1⟩ | ⟨_, h1⟩; exact .osd _ _ _ _ rfl h1; exact .osn _ h1
    | osd b' j n y h1' h => rcases hput b' _ h with ⟨_, h1⟩ | ⟨_, h1⟩ <;> exact .osd _ _ _ _ h1' h1
    | opd b' j y h1' h => rcases hput b' _ h with ⟨_, h1⟩ | ⟨_, h1⟩ <;> exact .opd _ _ _ h1' h1
    | osz b' j o L h => rcases hput b' _ h with ⟨_, h1⟩ | ⟨_, h1⟩; exact .osd _ _ _ _ rfl h1; exact .osz _ _ _ L h1
    | op b' j L h => rcases hput b' _ h with ⟨_, h1⟩ | ⟨_, h1⟩; exact .opd _ _ _ rfl h1; exact .op _ _ L h1
    | oi f j n cap F L h g1 g2 g3 g4 => rcases hput f _ h with ⟨_, h1⟩ | ⟨_, h1⟩; exact .oid _ _ _ _ rfl h1; exact .oi _ _ _ cap F L h1 g1 g2 g3 g4
    | oin f j F h g1 => rcases hput f _ h with ⟨_, h1⟩ | ⟨_, h1⟩; exact .oid _ _ _ _ rfl h1; exact .oin _ _ F h1 g1
    | oiz f j o F L h g1 => rcases hput f _ h with ⟨_, h1⟩ | ⟨_, h1⟩; exact .oid _ _ _ _ rfl h1; exact .oiz _ _ o F L h1 g1
    | oid f j n y h1' h => rcases hput f _ h with ⟨_, h1⟩ | ⟨_, h1⟩ <;> exact .oid _ _ _ _ h1' h1
    | fn f cs ys hl _ ih => exact .fn f cs ys hl ih
    | agg cs ys hl h1 _ ih => exact .agg cs ys hl h1 ih
    | tup cs ys hl _ ih => exact .tup cs ys hl ih
  refine ⟨⟨S.base, fun b' x h => ?_, by simp [S.len], fun B hB => S.lt B (hin B hB), fun B hB => S.fresh B (hin B hB), ?_, ?_, ?_, fun B hB => ⟨⟨(S.u B hB).1.1, fun h => (S.u B hB).1.2 (hin B h)⟩, (S.u B hB).2⟩, S.tab⟩, hrel⟩
  · have hlt := (List.getElem?_eq_some_iff.1 h).1
    rw [List.getElem?_set_ne (by omega)]; exact S.lent b' x h
  · intro b1 b2 L1 L2 B h1 h2 e1 e2
    rcases hget b1 _ h1 with ⟨_, h3⟩ | ⟨_, h3⟩
    · subst h3; exact e1.elim
    · rcases hget b2 _ h2 with ⟨_, h4⟩ | ⟨_, h4⟩
      · subst h4; exact e2.elim
      · exact S.sep b1 b2 L1 L2 B h3 h4 e1 e2
  · intro f F h1
    rcases hget f _ h1 with ⟨_, h3⟩ | ⟨_, h3⟩
    · cases h3
    · exact S.fok f F h3
  · intro b1 ob x hO hM
    rcases hget b1 _ hM with ⟨e, h3⟩ | ⟨e, h3⟩
    · subst e
      have hlt : b1 < O.length := by have := (List.getElem?_eq_some_iff.1 hO).1; simpa using this
      rw [List.getElem?_set_self hlt] at hO; cases hO
    · rw [List.getElem?_set_ne (Ne.symm e)] at hO
      exact (S.own b1 ob x hO h3).mono (fun _ _ => rfl) hrel
/-- What an append finds: nil, or a block that nothing else knows. -/
def Grw (s : Bs) (M : Mp) (U : Nat → Prop) (w : World) (e : TypeId) (k : Nat) (v : Value) (n : Nat) (olds : List Value) : Prop :=
  olds.length = n * k ∧ ((v = .slice none 0 0 ∧ n = 0) ∨ ∃ B o cap cur, v = .slice (some ⟨B, o, none⟩) n cap ∧ n ≤ cap ∧ cap ≤ maxLen ∧ w.heap[B]? = some (.cells cur e (0, 0)) ∧ ¬ InM M B ∧ ¬ U B ∧ s.w.heap.size ≤ B ∧
    ((n = 0 ∧ cap = 0) ∨ (o = 0 ∧ cur.size = cap * k ∧ cur.toList.take (n * k) = olds)))
/-- The block that an append may write. -/
def vBlk : Value → List Nat
  | .slice (some a) _ _ => [a.block]
  | _ => []
theorem append_core {M : Mp} {U : Nat → Prop} {w : World} (S : Mem s M O U w) {t ty e : TypeId} {k bytes : Nat} [T : CSl P t e] [Z : CE P e k bytes] {v : Value} {m0 : Nat} {olds : List Value} (hv : Grw s M U w e k v m0 olds)
    {ad : Option Addr} {m c : Nat} {news : List Value} (hl : news.length = m * k) (hnews : m = 0 ∨ ∃ a, ad = some a ∧ ∀ j u, news[j]? = some u → w.cell? (a.add j) = some u) (h1 : ∀ u ∈ news, u.oneCell' = true) (h1o : ∀ u ∈ olds, u.oneCell' = true)
    {cs ds : List Tr} (hcs : cs.length = olds.length) (hds : ds.length = news.length) (hco : ∀ (j : Nat) c y, cs[j]? = some c → olds[j]? = some y → TRel w U c y) (hcn : ∀ (j : Nat) c y, ds[j]? = some c → news[j]? = some y → TRel w U c y)
    (hbytes : (m0 + m) * bytes ≤ 140737488355328) (h63 : m0 + m ≤ 4611686018427387904) :
    ∃ v' w' x, (Builtin.append_ #[t, t] ty #[v, .slice ad m c]).run P w = .ok v' w' ∧ Mem s (M ++ [x]) (O ++ [some ⟨.tr (cs ++ ds), e, k⟩]) U w' ∧ (∀ c z, Rel w U M c z → Rel w' U (M ++ [x]) c z) ∧ Rel w' U (M ++ [x]) (.os O.length 0 (m0 + m)) v' ∧ BelowX (vBlk v) w w' ∧ ∀ B, x.has B → B ∈ vBlk v ∨ w.heap.size ≤ B := by
  obtain ⟨i, z, hi, hz, hk, hby, hzk⟩ := Z.ex
  subst hk; subst hby
  have hml : maxLen = 9223372036854775807 := rfl
  have hcells : ∀ (cur : Array Value) (o : Nat), o = 0 → (∀ j, j < (cs ++ ds).length → cur[j]? = (olds ++ news)[j]?) → ∀ (j : Nat) c, (Ob.cells ⟨.tr (cs ++ ds), e, i.size⟩)[j]? = some c → ∃ y, cur[o + j]? = some y ∧ y.oneCell' = true ∧ Rel w U M c y := by
    intro cur o ho hcur j c hc
    subst ho
    simp only [Ob.cells, Cs.list, List.getElem?_map] at hc
    cases hq : (cs ++ ds)[j]? with
    | none => rw [hq] at hc; cases hc
    | some q =>
      rw [hq] at hc; simp at hc; subst hc
      have hj := (List.getElem?_eq_some_iff.1 hq).1
      have hlen : (olds ++ news).length = (cs ++ ds).length := by simp [hcs, hds]
      have hy : (olds ++ news)[j]? = some ((olds ++ news)[j]'(by omega)) := List.getElem?_eq_getElem _
      refine ⟨_, by rw [Nat.zero_add, hcur j hj]; exact hy, ?_, .t _ _ ?_⟩
      · rcases List.mem_append.1 (get_mem hy) with h | h
        · exact h1o _ h
        · exact h1 _ h
      · rcases Nat.lt_or_ge j cs.length with h | h
        · rw [List.getElem?_append_left h] at hq
          rw [List.getElem?_append_left (by omega)] at hy
          exact hco j _ _ hq hy
        · rw [List.getElem?_append_right h] at hq
          rw [List.getElem?_append_right (by omega), ← hcs] at hy
          exact hcn _ _ _ hq hy
  have hob : (Ob.cells ⟨.tr (cs ++ ds), e, i.size⟩).length = (m0 + m) * i.size := by simp [Ob.cells, Cs.list, hcs, hds, hv.1, hl, Nat.add_mul]
  have hcslen : (cs ++ ds).length = (m0 + m) * i.size := by simp [hcs, hds, hv.1, hl, Nat.add_mul]
  have hsz0 : ∀ B, B < w.heap.size → B ≠ w.heap.size := fun B h e => by omega
  have hnoU : ¬ U w.heap.size := fun h => by have := (S.u _ h).1.1; omega
  have hnoM : ¬ InM M w.heap.size := fun h => by have := S.lt _ h; omega
  by_cases hm : m = 0
  · subst hm
    have hn : news = [] := List.eq_nil_of_length_eq_zero (by simpa using hl)
    subst hn
    have hd0 : ds = [] := List.eq_nil_of_length_eq_zero (by simpa using hds)
    subst hd0
    have hsrc : Src P i.size t (.slice ad 0 c) 0 [] w := by
      cases ad with
      | none => exact Src.ofNil w T.u c
      | some a => exact Src.ofSlice w T.u a 0 c [] (by simp) (by simp) (by simp)
    rcases hv.2 with ⟨rfl, rfl⟩ | ⟨B, o, cap, cur, rfl, hnc, hcm, hcur, h2, h3, h4, h5⟩
    · have hc0 : cs = [] := List.eq_nil_of_length_eq_zero (by rw [hcs, hv.1]; simp)
      subst hc0
      obtain ⟨S', hr⟩ := S.insN e i.size (Below.refl _ w)
      exact ⟨_, w, .nl, run_append_nothing w t t ty e i T.u hi none 0 0 (Nat.le_refl _) _ hsrc, S', hr, .osn _ (snoc_new S.len.symm), BelowX.refl _ _, fun B h => h.elim⟩
    · have hr0 := run_append_nothing w t t ty e i T.u hi (some ⟨B, o, none⟩) m0 cap hnc _ hsrc
      rcases h5 with ⟨h6, h7⟩ | ⟨h6, h7, h8⟩
      · have hc0 : cs = [] := List.eq_nil_of_length_eq_zero (by rw [hcs, hv.1, h6]; simp)
        subst hc0
        obtain ⟨S', hr⟩ := S.insX (L := ⟨B, cur.size, i.size⟩) (ob := ⟨.tr ([] ++ []), e, i.size⟩) (X := []) (BelowX.refl _ w) (fun B h => by simp at h) ⟨h2, h3, h4, (Array.getElem?_eq_some_iff.1 hcur).1⟩ ⟨cur, rfl, by simp [Ob.cells, Cs.list, Loc.off], hcur, rfl, fun j c h => by simp [Ob.cells, Cs.list] at h⟩
        subst h6; subst h7
        exact ⟨_, w, _, hr0, S', hr, by have := Rel.osz (w := w) (U := U) (M := M ++ [Pl.ad ⟨B, cur.size, i.size⟩]) O.length 0 o ⟨B, cur.size, i.size⟩ (snoc_new S.len.symm); simpa using this, BelowX.refl _ _, fun B' h => .inl (List.mem_singleton.2 h.symm)⟩
      · subst h6
        have hle : m0 * i.size ≤ cap * i.size := Nat.mul_le_mul_right _ hnc
        obtain ⟨S', hr⟩ := S.insX (L := ⟨B, cur.size, i.size⟩) (ob := ⟨.tr (cs ++ []), e, i.size⟩) (X := []) (BelowX.refl _ w) (fun B h => by simp at h) ⟨h2, h3, h4, (Array.getElem?_eq_some_iff.1 hcur).1⟩
          ⟨cur, rfl, by rw [hob, h7]; simpa [Loc.off] using hle, hcur, rfl, hcells cur 0 rfl (fun j hj => by
            rw [hcslen] at hj
            rw [List.append_nil, ← h8, List.getElem?_take, if_pos (by simpa using hj)]; simp)⟩
        exact ⟨_, w, _, hr0, S', hr, by have := Rel.os (w := w) (U := U) (M := M ++ [Pl.ad ⟨B, cur.size, i.size⟩]) O.length 0 m0 cap ⟨B, cur.size, i.size⟩ (snoc_new S.len.symm) (by simp [h7, Loc.off]) hnc hcm; exact this, BelowX.refl _ _, fun B' h => .inl (List.mem_singleton.2 h.symm)⟩
  · obtain ⟨a, rfl, hcell⟩ := hnews.resolve_left hm
    have fresh : ∀ (old : Nat), old < m0 + m →
        ∃ w' x, w' = w.drew.alloc (.cells (olds.toArray ++ news.toArray ++ Builtin.zeroCells z.cells (grownCap w (m0 + m) old e - (m0 + m))) e) ∧ Mem s (M ++ [x]) (O ++ [some ⟨.tr (cs ++ ds), e, i.size⟩]) U w' ∧ (∀ c z, Rel w U M c z → Rel w' U (M ++ [x]) c z) ∧ Rel w' U (M ++ [x]) (.os O.length 0 (m0 + m)) (.slice (some ⟨w.heap.size, 0, none⟩) (m0 + m) (grownCap w (m0 + m) old e)) ∧ (∀ X, BelowX X w w') ∧ ∀ B, x.has B → w.heap.size ≤ B := by
      intro old ho
      have hge := grownCap_ge w (m0 + m) old e
      have hcm : grownCap w (m0 + m) old e ≤ maxLen := grownCap_le_maxLen w (m0 + m) old e (by omega)
      have hsize : (olds.toArray ++ news.toArray ++ Builtin.zeroCells z.cells (grownCap w (m0 + m) old e - (m0 + m))).size = grownCap w (m0 + m) old e * i.size := by
        simp only [Array.size_append, List.size_toArray, size_zeroCells, hzk, hv.1, hl, ← Nat.add_mul]
        congr 1; omega
      obtain ⟨S', hr⟩ := S.insX (w' := w.drew.alloc (.cells (olds.toArray ++ news.toArray ++ Builtin.zeroCells z.cells (grownCap w (m0 + m) old e - (m0 + m))) e)) (L := ⟨w.heap.size, grownCap w (m0 + m) old e * i.size, i.size⟩) (ob := ⟨.tr (cs ++ ds), e, i.size⟩) (X := [])
        (BelowX.of _ (((Below.refl _ _).drew).alloc (Nat.le_refl _) _)) (fun B h => by simp at h) ⟨hnoM, hnoU, S.base.size, by simp⟩
        ⟨_, rfl, by rw [hob]; simpa [Loc.off] using Nat.mul_le_mul_right i.size hge, heap_alloc_new w.drew _, hsize, hcells _ 0 rfl (fun j hj => by
          have hj' : j < (olds ++ news).length := by simp [← hcs, ← hds]; simpa using hj
          rw [← Array.getElem?_toList]
          simp only [Array.toList_append]
          rw [List.getElem?_append_left (by simpa using hj')])⟩
      exact ⟨_, _, rfl, S', hr, .os _ _ _ _ ⟨w.heap.size, grownCap w (m0 + m) old e * i.size, i.size⟩ (snoc_new S.len.symm) (by simp [Loc.off]) hge hcm, fun X => BelowX.of _ (((Below.refl _ _).drew).alloc (Nat.le_refl _) _), fun B h => Nat.le_of_eq h⟩
    rcases hv.2 with ⟨rfl, rfl⟩ | ⟨B, o, cap, cur, rfl, hnc, hcm, hcur, h2, h3, h4, h5⟩
    · have hx : olds = [] := List.eq_nil_of_length_eq_zero (by simpa using hv.1)
      subst hx
      have hr := run_append_nil (P := P) w t ty e i z T.u hi hz a m c news hl hcell (by omega) (by omega) (by simp only [Nat.zero_add] at hbytes; omega)
      obtain ⟨w', x, rfl, S', hr', hR, hBX, hN⟩ := fresh 0 (by omega)
      simp only [Nat.zero_add, Array.empty_append] at S' hr' hR hBX hN ⊢
      exact ⟨_, _, _, hr, S', hr', hR, hBX _, fun B h => .inr (hN B h)⟩
    · rcases h5 with ⟨h6, h7⟩ | ⟨h6, h7, h8⟩
      · subst h6; subst h7
        have hx : olds = [] := List.eq_nil_of_length_eq_zero (by simpa using hv.1)
        subst hx
        have hr := run_append_grow (P := P) w t ty e i z T.u hi hz ⟨B, o, none⟩ 0 0 [] (by simp) (fun j v h => by simp at h) a m c news hl hcell (by omega) (by omega) (growslice_fits (by omega) hbytes)
        obtain ⟨w', x, rfl, S', hr', hR, hBX, hN⟩ := fresh 0 (by omega)
        exact ⟨_, _, _, hr, S', hr', hR, hBX _, fun B h => .inr (hN B h)⟩
      · subst h6
        by_cases hroom : m0 + m ≤ cap
        · have hfit : m0 * i.size + news.length ≤ cur.size := by rw [hl, h7, ← Nat.add_mul]; exact Nat.mul_le_mul_right _ hroom
          have hr := run_append_room (P := P) w t ty e i T.u hi B m0 cap cur hcur a m c news hl hcell h1 hroom hfit
          let new := (cur.toList.take (m0 * i.size) ++ news ++ cur.toList.drop (m0 * i.size + news.length)).toArray
          have hnsz : new.size = cap * i.size := by
            simp only [new, List.size_toArray, List.length_append, List.length_take, List.length_drop, Array.length_toList]
            omega
          obtain ⟨S', hr'⟩ := S.insX (w' := w.setRow B new) (L := ⟨B, cap * i.size, i.size⟩) (ob := ⟨.tr (cs ++ ds), e, i.size⟩) (X := [B]) ⟨rfl, rfl, rfl, by simp, fun k hk hx => setRow_other _ _ _ _ (by simpa using hx)⟩ (fun B' h => by simp at h; subst h; exact ⟨h2, h3, h4⟩) ⟨h2, h3, h4, by simpa using (Array.getElem?_eq_some_iff.1 hcur).1⟩
            ⟨new, rfl, by rw [hob]; simpa [Loc.off] using Nat.mul_le_mul_right i.size hroom, setRow_heap _ _ _ _ _ _ hcur, hnsz, hcells _ 0 rfl (fun j hj => by
              have hj' : j < (olds ++ news).length := by simp [← hcs, ← hds]; simpa using hj
              simp only [new, List.getElem?_toArray]
              rw [h8, List.getElem?_append_left hj'])⟩
          exact ⟨_, _, _, hr, S', hr', .os _ _ _ _ ⟨B, cap * i.size, i.size⟩ (snoc_new S.len.symm) (by simp [Loc.off]) hroom hcm, ⟨rfl, rfl, rfl, by simp, fun k hk hx => setRow_other _ _ _ _ (by simpa [vBlk] using hx)⟩, fun B' h => .inl (List.mem_singleton.2 h.symm)⟩
        · have holds : ∀ j u, olds[j]? = some u → w.cell? ((⟨B, 0, none⟩ : Addr).add j) = some u := by
            intro j u hu
            rw [Rd.addr_add, Nat.zero_add, cell_of_row w _ _ cur _ _ hcur, ← Array.getElem?_toList, ← hu, ← h8, List.getElem?_take, if_pos]
            have := (List.getElem?_eq_some_iff.1 hu).1; rw [hv.1] at this; exact this
          have hr := run_append_grow (P := P) w t ty e i z T.u hi hz ⟨B, 0, none⟩ m0 cap olds hv.1 holds a m c news hl hcell (by omega) (by omega) (growslice_fits (by omega) hbytes)
          obtain ⟨w', x, rfl, S', hr', hR, hBX, hN⟩ := fresh cap (by omega)
          exact ⟨_, _, _, hr, S', hr', hR, hBX _, fun B h => .inr (hN B h)⟩
def trsL : List AV → Option (List Tr)
  | [] => some []
  | .t c :: cs => (trsL cs).map (c :: ·)
  | _ :: _ => none
def Cs.trs : Cs → Option (List Tr)
  | .tr cs => some cs
  | .mx cs => trsL cs
  | .fm _ => none
theorem trsL_spec : ∀ {cs : List AV} {ds : List Tr}, trsL cs = some ds → cs = ds.map .t
  | [], ds, h => by simp [trsL] at h; subst h; rfl
  | .t c :: cs, ds, h => by
    simp only [trsL, Option.map_eq_some_iff] at h
    obtain ⟨es, h1, rfl⟩ := h
    rw [trsL_spec h1]; rfl
  | .any :: cs, ds, h => by simp [trsL] at h
  | .os _ _ _ :: cs, ds, h => by simp [trsL] at h
  | .op _ _ :: cs, ds, h => by simp [trsL] at h
  | .fn _ _ :: cs, ds, h => by simp [trsL] at h
  | .agg _ :: cs, ds, h => by simp [trsL] at h
  | .tup _ :: cs, ds, h => by simp [trsL] at h
  | .oi _ _ _ :: cs, ds, h => by simp [trsL] at h
theorem Cs.trs_spec {c : Cs} {ds : List Tr} (h : c.trs = some ds) : c.list = ds.map .t := by
  cases c with
  | tr cs => simp [Cs.trs] at h; subst h; rfl
  | mx cs => exact trsL_spec h
  | fm css => cases h
/-- A slice whose elements are appended. -/
def SrcA (s : Bs) (O : Obs) (a : AV) (k m : Nat) (ds : List Tr) : Prop :=
  ds.length = m * k ∧ ∀ M U w yv, Mem s M O U w → Rel w U M a yv → ∃ (ad : Option Addr) (c : Nat) (news : List Value), yv = .slice ad m c ∧ news.length = m * k ∧ (m = 0 ∨ ∃ a', ad = some a' ∧ ∀ (j : Nat) u, news[j]? = some u → w.cell? (a'.add j) = some u) ∧ (∀ u ∈ news, u.oneCell' = true) ∧ ∀ (j : Nat) c y, ds[j]? = some c → news[j]? = some y → TRel w U c y
theorem SrcA.t {k m : Nat} {ds : List Tr} (hl : ds.length = m * k) : SrcA s O (.t (.sl m ds)) k m ds := by
  refine ⟨hl, fun M U w yv S hr => ?_⟩
  cases hr with | t _ _ h =>
    cases h with
    | nil => exact ⟨none, 0, [], rfl, by simp, .inl rfl, fun u h => by simp at h, fun j c y h => by simp at h⟩
    | sl0 a cap => exact ⟨some a, cap, [], rfl, by simp, .inl rfl, fun u h => by simp at h, fun j c y h => by simp at h⟩
    | sl B off _ cap _ ys hU hl' h1 hc hr hn => exact ⟨_, cap, ys, rfl, by omega, .inr ⟨_, rfl, fun j u hu => by rw [Rd.addr_add]; exact hc j u hu⟩, h1, hr⟩
theorem SrcA.own {b j k m : Nat} {ob : Ob} {es ds : List Tr} (hO : O[b]? = some (some ob)) (hcs : ob.c.trs = some es) (hd : (es.drop j).take (m * k) = ds) (hl : ds.length = m * k) : SrcA s O (.os b j m) k m ds := by
  refine ⟨hl, fun M U w yv S hr => ?_⟩
  have hcl : ob.cells = es.map .t := Cs.trs_spec hcs
  cases hr with
  | osd _ _ _ _ _ hM => exact (S.own _ _ _ hO hM).elim
  | osn _ hM => exact ⟨none, 0, [], rfl, by simp, .inl rfl, fun u h => by simp at h, fun j c y h h' => by simp at h'⟩
  | osz _ _ o L hM => exact ⟨_, 0, [], rfl, by simp, .inl rfl, fun u h => by simp at h, fun j c y h h' => by simp at h'⟩
  | os _ _ _ cap L hM hcap hn hx =>
    obtain ⟨hk, hle, cur, hcur, hsz, hrr⟩ := S.own b ob _ hO hM
    have hel : es.length = ob.cells.length := by rw [hcl]; simp
    have hml : j + m * k ≤ es.length ∨ m * k = 0 := by
      have : ds.length ≤ es.length - j := by rw [← hd]; simp; omega
      omega
    have hle2 : L.off + j + m * k ≤ cur.size ∨ m * k = 0 := by omega
    have hyl : ((cur.toList.drop (L.off + j)).take (m * k)).length = m * k := by simp; omega
    have hget : ∀ i y, ((cur.toList.drop (L.off + j)).take (m * k))[i]? = some y → i < m * k ∧ cur[L.off + (j + i)]? = some y := by
      intro i y h
      rw [List.getElem?_take] at h
      split at h
      · rename_i hi; rw [List.getElem?_drop] at h; exact ⟨hi, by rw [← Nat.add_assoc]; simpa using h⟩
      · cases h
    refine ⟨_, cap, _, rfl, hyl, .inr ⟨_, rfl, fun i u hu => ?_⟩, fun u hu => ?_, fun i c y hc hy => ?_⟩
    · obtain ⟨h3, h4⟩ := hget i u hu
      rw [Rd.addr_add, cell_of_row w _ _ cur _ _ hcur, Nat.add_assoc]; exact h4
    · obtain ⟨i, hi⟩ := mem_get hu
      obtain ⟨h3, h4⟩ := hget i u hi
      obtain ⟨y', h5, h6, _⟩ := hrr (j + i) _ (List.getElem?_eq_getElem (by omega))
      rw [h4] at h5; cases h5; exact h6
    · obtain ⟨h3, h4⟩ := hget i y hy
      rw [← hd, List.getElem?_take, if_pos h3, List.getElem?_drop] at hc
      obtain ⟨y', h5, _, h6⟩ := hrr (j + i) (.t c) (by rw [hcl]; simp [hc])
      rw [h4] at h5; cases h5
      cases h6 with | t _ _ h => exact h
theorem Mem.grw {M : Mp} {U : Nat → Prop} {w : World} {b k n0 : Nat} {e : TypeId} {cs cs0 : List Tr} {v : Value} (S : Mem s M O U w) (hb : s.L.length ≤ b) (hO : O[b]? = some (some ⟨.tr cs, e, k⟩)) (hcs : cs.take (n0 * k) = cs0) (hl : cs0.length = n0 * k) (hr : Rel w U M (.os b 0 n0) v) :
    ∃ olds, Grw s (M.set b .dead) U w e k v n0 olds ∧ olds.length = cs0.length ∧ (∀ u ∈ olds, u.oneCell' = true) ∧ ∀ (j : Nat) c y, cs0[j]? = some c → olds[j]? = some y → TRel w U c y := by
  have hlive : ∀ (L : Loc), M[b]? = some (.ad L) → ¬ InM (M.set b .dead) L.blk ∧ ¬ U L.blk ∧ s.w.heap.size ≤ L.blk := by
    intro L hM
    refine ⟨?_, fun h => (S.u _ h).1.2 (.ad hM), ?_⟩
    · rintro ⟨b', L', h1, h2⟩
      by_cases e : b' = b
      · subst e
        have hlt : b' < M.length := (List.getElem?_eq_some_iff.1 hM).1
        rw [List.getElem?_set_self hlt] at h1; cases h1; exact h2.elim
      · rw [List.getElem?_set_ne (Ne.symm e)] at h1
        exact e (S.sep b' b L' _ _ h1 hM h2 rfl)
    · rcases S.fresh _ (.ad hM) with h | h
      · exact h
      · obtain ⟨b', L', h1, h2⟩ := Bs.exX h
        have := S.sep b' b L' _ _ (S.lent _ _ h1) hM h2 rfl
        have := (List.getElem?_eq_some_iff.1 h1).1
        omega
  cases hr with
  | osd _ _ _ _ _ hM => exact (S.own _ _ _ hO hM).elim
  | osn _ hM => exact ⟨[], ⟨by simp, .inl ⟨rfl, rfl⟩⟩, by rw [hl]; simp, fun u h => by simp at h, fun j c y _ h => by simp at h⟩
  | osz _ _ o L hM =>
    obtain ⟨hk, hle, cur, hcur, hsz, hrr⟩ := S.own b _ _ hO hM
    obtain ⟨h1, h2, h3⟩ := hlive L hM
    exact ⟨[], ⟨by simp, .inr ⟨_, o, 0, cur, rfl, Nat.le_refl _, Nat.zero_le _, hcur, h1, h2, h3, .inl ⟨rfl, rfl⟩⟩⟩, by rw [hl]; simp, fun u h => by simp at h, fun j c y _ h => by simp at h⟩
  | os _ _ _ cap L hM hcap hn hx =>
    obtain ⟨hk, hle, cur, hcur, hsz, hrr⟩ := S.own b _ _ hO hM
    obtain ⟨h1, h2, h3⟩ := hlive L hM
    simp only at hk hcur
    have hcslen : n0 * k ≤ cs.length := by
      have : cs0.length ≤ cs.length := by rw [← hcs]; simp; omega
      omega
    have hle' : L.off + cs.length ≤ L.size := by simpa [Ob.cells, Cs.list] using hle
    have hnc : n0 * k ≤ cap * k := Nat.mul_le_mul_right _ hn
    have hget : ∀ i y, ((cur.toList.drop L.off).take (n0 * k))[i]? = some y → i < n0 * k ∧ cur[L.off + i]? = some y := by
      intro i y h
      rw [List.getElem?_take] at h
      split at h
      · rename_i hi; rw [List.getElem?_drop] at h; exact ⟨hi, by simpa using h⟩
      · cases h
    have hyl : ((cur.toList.drop L.off).take (n0 * k)).length = n0 * k := by simp; omega
    have hpr : (∀ u ∈ (cur.toList.drop L.off).take (n0 * k), u.oneCell' = true) ∧ ∀ (j : Nat) c y, cs0[j]? = some c → ((cur.toList.drop L.off).take (n0 * k))[j]? = some y → TRel w U c y := by
      refine ⟨fun u hu => ?_, fun j c y hc hy => ?_⟩
      · obtain ⟨i, hi⟩ := mem_get hu
        obtain ⟨h4, h5⟩ := hget i u hi
        obtain ⟨y', h6, h7, _⟩ := hrr i (.t (cs[i]'(by omega))) (Rd.tr_get (List.getElem?_eq_getElem _))
        rw [h5] at h6; cases h6; exact h7
      · obtain ⟨h4, h5⟩ := hget j y hy
        rw [← hcs, List.getElem?_take, if_pos h4] at hc
        obtain ⟨y', h6, _, h7⟩ := hrr j (.t c) (Rd.tr_get hc)
        rw [h5] at h6; cases h6
        cases h7 with | t _ _ h => exact h
    refine ⟨(cur.toList.drop L.off).take (n0 * k), ⟨hyl, .inr ⟨L.blk, L.off + 0, cap, cur, rfl, hn, hx, hcur, h1, h2, h3, .inr ⟨rfl, by rw [hk] at hcap; simp only [Loc.off] at hcap; omega, rfl⟩⟩⟩, by rw [hyl, hl], hpr.1, hpr.2⟩
end
end V
end Go.Proofs.YtkjnnifnmoekjaaDoor
namespace Go.Proofs.YtkjnnifnmoekjaaDoor
namespace V
set_option linter.unusedVariables false
set_option linter.unusedSimpArgs false
open Go.RowKit
section
variable {P : Program} {n : Nat} {s : Bs} {Q : APost} {σ : Fr} {O : Obs} {ops : Array Oper} {rest : List Oper} {d : Nat} {ty : TypeId} {pos : String} {after : Array Edge}
/-- append to a slice of the call's own; its old name dies. -/
theorem PL.app {m0 : Nat} (hm : s.L.length = m0) {t e : TypeId} {x y : Operand} {b n0 m k bytes : Nat} {ya : AV} {cs cs0 ds cs' : List Tr} [T : CSl P t e] [Z : CE P e k bytes] (hd : Nat.blt d n = true) (hx : evA σ x = .os b 0 n0) (hO : O[b]? = some (some ⟨.tr cs, e, k⟩)) (hy : evA σ y = ya)
    (hsrc : SrcA s (O.set b none) ya k m ds) (hb : Nat.ble m0 b = true) (hcs : cs.take (n0 * k) = cs0) (hl : cs0.length = n0 * k) (hbytes : (n0 + m) * bytes ≤ 140737488355328) (h63 : n0 + m ≤ 4611686018427387904) (hr : cs0 ++ ds = cs')
    (kk : PL P n s ops rest Q (updA σ d (.os O.length 0 (n0 + m))) (O.set b none ++ [some ⟨.tr cs', e, k⟩])) :
    PL P n s ops (⟨some d, .call { callee := .builtin .append, args := #[x, y], argTypes := #[t, t] }, ty, pos, after, none⟩ :: rest) Q σ O := by
  subst hr
  refine PL.eff hd (fun M U w σc S hσ => ?_) kk
  have hb' : s.L.length ≤ b := by rw [hm]; exact Nat.le_of_ble_eq_true hb
  have ex := evA_rel hσ x; rw [hx] at ex
  have ey := evA_rel hσ y; rw [hy] at ey
  obtain ⟨S1, hk⟩ := S.kill hb'
  obtain ⟨olds, hg, ho1, ho2, ho3⟩ := S.grw hb' hO hcs hl ex
  obtain ⟨ad, c, news, hyv, hnl, hnc, hn1, hn2⟩ := hsrc.2 _ _ _ _ S1 (hk _ _ ey)
  obtain ⟨v', w', p, hrun, S', hrel, hres, _⟩ := append_core (P := P) (t := t) (ty := ty) S1 hg hnl hnc hn1 ho2 ho1.symm (by rw [hsrc.1, hnl]) ho3 hn2 hbytes h63 (c := c)
  refine ⟨v', w', _, Yl.mk fun d pos after g => ?_, S', by simpa using hres, fun c z h => hrel _ _ (hk _ _ h)⟩
  simp [execOp, resolve, invoke, builtin, hyv, hrun]
/-- The literal of a slice. -/
theorem cells_flat {w : World} {U : Nat → Prop} {M : Mp} : ∀ {avs : List AV} {vs : List Value}, vs.length = avs.length → (∀ (j : Nat) c y, avs[j]? = some c → vs[j]? = some y → Rel w U M c y) → (∀ c, c ∈ avs → wholeA c = true) →
    (vs.flatMap fun v => v.cells.toList).length = (avs.flatMap cellsA).length ∧ ∀ (j : Nat) d, (avs.flatMap cellsA)[j]? = some d → ∃ z, (vs.flatMap fun v => v.cells.toList)[j]? = some z ∧ z.oneCell' = true ∧ Rel w U M d z
  | [], [], _, _, _ => ⟨rfl, fun j d h => by simp at h⟩
  | [], v :: vs, h, _, _ => by cases h
  | a :: avs, [], h, _, _ => by cases h
  | a :: avs, v :: vs, h, hr, hw => by
    obtain ⟨h1, h2⟩ := cells_flat (avs := avs) (vs := vs) (by simpa using h) (fun j c y h3 h4 => hr (j + 1) c y (by simpa using h3) (by simpa using h4)) (fun c hc => hw c (.tail _ hc))
    obtain ⟨h3, h4⟩ := (hr 0 a v rfl rfl).cells (hw a (.head _))
    simp only [List.flatMap_cons, List.length_append, Array.length_toList]
    refine ⟨by omega, fun j d hd => ?_⟩
    rcases Nat.lt_or_ge j (cellsA a).length with hj | hj
    · rw [List.getElem?_append_left hj] at hd
      rw [List.getElem?_append_left (by simpa [h3] using hj)]
      simpa using h4 j d hd
    · rw [List.getElem?_append_right hj] at hd
      rw [List.getElem?_append_right (by simpa [h3] using hj)]
      simp only [Array.length_toList, h3]
      exact h2 _ d hd
theorem zip_swap {α : Type} : ∀ (vs : List α) (k : Nat), ((vs.zipIdx k).map fun x => (x.2, x.1)).map (·.2) = vs
  | [], _ => rfl
  | v :: vs, k => by
    simp only [List.zipIdx_cons, List.map_cons]
    rw [zip_swap vs (k + 1)]
theorem zip_idx {α : Type} : ∀ (vs : List α) (k : Nat), List.zip ((vs.zipIdx k).map (·.2)) vs = (vs.zipIdx k).map fun x => (x.2, x.1)
  | [], _ => rfl
  | v :: vs, k => by
    simp only [List.zipIdx_cons, List.map_cons, List.zip_cons_cons]
    rw [zip_idx vs (k + 1)]
theorem Ef.lit (avs : List AV) {t e : TypeId} {q len : Nat} {parts : Array (Nat × Operand)} {z : Value} {cs : List AV} [T : CSl P t e] [Z : CS P e q] [Y : CZ P e z] (hz : z.cells.size = q) (hlen : avs.length = len) (hle : 0 < len * q ∧ len * q ≤ 16777216)
    (hw : avs.all wholeA = true) (hq : avs.all (fun c => Nat.beq (cellsA c).length q) = true) (hp : parts.toList.map (fun x => (x.1, evA σ x.2)) = (avs.zipIdx 0).map fun x => (x.2, x.1)) (hcs : avs.flatMap cellsA = cs) : Ef P s O σ (.buildSlice t len parts) ty (.os O.length 0 len) (O ++ [some ⟨.mx cs, e, q⟩]) := by
  subst hcs
  intro M U w σc S hσ
  have hav : parts.toList.map (fun x => evA σ x.2) = avs := by
    have := congrArg (List.map Prod.snd) hp
    rw [List.map_map, zip_swap] at this
    exact this
  have hidx : parts.toList.map (·.1) = (avs.zipIdx 0).map (·.2) := by
    have := congrArg (List.map Prod.fst) hp
    simp only [List.map_map] at this
    exact this
  let vs : List Value := parts.toList.map fun x => ev σc x.2
  have hvl : vs.length = avs.length := by rw [← hav]; simp [vs]
  have hvr : ∀ (j : Nat) c y, avs[j]? = some c → vs[j]? = some y → Rel w U M c y := by
    intro j c y h1 h2
    rw [← hav] at h1
    simp only [vs, List.getElem?_map] at h1 h2
    cases hq : parts.toList[j]? with
    | none => rw [hq] at h1; cases h1
    | some p => rw [hq] at h1 h2; simp at h1 h2; subst h1; subst h2; exact evA_rel hσ p.2
  have hall : ∀ c, c ∈ avs → wholeA c = true := fun c hc => List.all_eq_true.1 hw c hc
  have hvsz : ∀ v ∈ vs, v.cells.size = q := by
    intro v hv
    obtain ⟨j, hj⟩ := mem_get hv
    have hj' : j < avs.length := by rw [← hvl]; exact (List.getElem?_eq_some_iff.1 hj).1
    have hc : avs[j]? = some avs[j] := List.getElem?_eq_getElem hj'
    have h1 := ((hvr j _ _ hc hj).cells (hall _ (get_mem hc))).1
    have h2 := List.all_eq_true.1 hq _ (get_mem hc)
    rw [h1]; exact Nat.eq_of_beq_eq_true h2
  have hparts : parts.toList.map (fun x => (x.fst, ev σc x.snd)) = (vs.zipIdx 0).map fun x => (x.2, x.1) := by
    have h1 : (parts.toList.map (fun x => (x.fst, ev σc x.snd))) = List.zip (parts.toList.map (·.1)) vs := by
      simp only [vs]
      rw [List.zip_map']
    have h2 : ((vs.zipIdx 0).map fun x => (x.2, x.1)) = List.zip ((avs.zipIdx 0).map (·.2)) vs := by
      have h3 : (avs.zipIdx 0).map (·.2) = (vs.zipIdx 0).map (·.2) := by
        rw [List.zipIdx_map_snd, List.zipIdx_map_snd, hvl]
      rw [h3, zip_idx]
    rw [h1, h2, hidx]
  obtain ⟨hc1, hc2⟩ := cells_flat hvl hvr hall
  have hqp : 0 < q := Nat.pos_of_ne_zero fun h => by rw [h] at hle; simp at hle
  have hvlen : vs.length = len := by rw [hvl, hlen]
  have hfl : (vs.flatMap fun v => v.cells.toList).length = len * q := by
    rw [← hvlen]
    clear hc2 hc1 hparts hvr hvl hvlen
    generalize vs = vs at hvsz
    induction vs with
    | nil => simp
    | cons v vs ih =>
      have := hvsz v (.head _)
      rw [List.flatMap_cons, List.length_append, ih (fun u hu => hvsz u (.tail _ hu))]
      simp [this, Nat.add_mul]; omega
  let cells := (vs.flatMap fun v => v.cells.toList).toArray
  obtain ⟨S', hall2⟩ := S.ins (w' := w.alloc (.cells cells e)) (L := ⟨w.heap.size, len * q, q⟩) (ob := ⟨.mx (avs.flatMap cellsA), e, q⟩) ((Below.refl _ _).alloc (Nat.le_refl _) _) (Nat.le_refl _) (by simp)
    ⟨cells, rfl, by simp [Ob.cells, Cs.list, Loc.off, ← hc1, hfl], heap_alloc_new _ _, by simp [cells, hfl], fun j c hj => by simpa [Loc.off, cells] using hc2 j c hj⟩
  refine ⟨.slice (some ⟨w.heap.size, 0, none⟩) len len, _, _, Yl.mk fun d pos after g => ?_, S', ?_, hall2, BelowX.of _ ((Below.refl _ _).alloc (Nat.le_refl _) _), fun B h => Nat.le_of_eq h⟩
  · have h0 : ¬ len * q = 0 := by omega
    have h1 : ¬ (2 ^ 24 < len * q) := by omega
    simp only [execOp, Instr.buildSlice, Sem.run_bind, T.run, Z.run, Result.andThen_ok]
    simp [h0, h1, Y.run, newRow]
    have hf := Great.fill_whole hqp vs ((Array.range (len * q)).map (z.cells[· % z.cells.size]!)) hvsz (by simp [hvlen])
    rw [hparts, hf]
    simp [cells]
  · have hml : maxLen = 9223372036854775807 := rfl
    have hq1 : len * 1 ≤ len * q := Nat.mul_le_mul_left _ hqp
    exact .os (w := w.alloc (.cells cells e)) (U := U) (M := M ++ [.ad ⟨w.heap.size, len * q, q⟩]) O.length 0 len len ⟨w.heap.size, len * q, q⟩ (snoc_new S.len.symm) (by simp [Loc.off]) (Nat.le_refl _) (by omega)
theorem Ef.lit0 {t e : TypeId} {q : Nat} [T : CSl P t e] [Z : CS P e q] : Ef P s O σ (.buildSlice t 0 #[]) ty (.os O.length 0 0) (O ++ [some ⟨.tr [], e, q⟩]) := by
  intro M U w σc S hσ
  obtain ⟨S', hall2⟩ := S.ins (w' := w.alloc (.cells #[] e)) (L := ⟨w.heap.size, 0, q⟩) (ob := ⟨.tr [], e, q⟩) ((Below.refl _ _).alloc (Nat.le_refl _) _) (Nat.le_refl _) (by simp)
    ⟨#[], rfl, by simp [Ob.cells, Cs.list, Loc.off], heap_alloc_new _ _, rfl, fun j c hj => by simp [Ob.cells, Cs.list] at hj⟩
  refine ⟨.slice (some ⟨w.heap.size, 0, none⟩) 0 0, _, _, Yl.mk fun d pos after g => ?_, S', ?_, hall2, BelowX.of _ ((Below.refl _ _).alloc (Nat.le_refl _) _), fun B h => Nat.le_of_eq h⟩
  · have hz : (Array.map (fun _ : Nat => (default : Value)) (Array.range 0)) = #[] := by simp
    simp [execOp, Instr.buildSlice, T.run, Z.run, Instr.fill, newRow, hz]
  · exact .os (w := w.alloc (.cells #[] e)) (U := U) (M := M ++ [.ad ⟨w.heap.size, 0, q⟩]) O.length 0 0 0 ⟨w.heap.size, 0, q⟩ (snoc_new S.len.symm) (by simp [Loc.off]) (Nat.le_refl _) (Nat.zero_le _)
end
end V
end Go.Proofs.YtkjnnifnmoekjaaDoor
namespace Go.Proofs.YtkjnnifnmoekjaaDoor
namespace V
set_option linter.unusedVariables false
set_option linter.unusedSimpArgs false
open Go.RowKit
/-- A struct's cells, its parts filled in. -/
def blA (pl : List (Nat × Nat)) : List AV → List (Nat × AV) → List AV
  | zs, [] => zs
  | zs, (i, v) :: r => blA pl (zs.take (pl.getD i (0, 0)).1 ++ cellsA v ++ zs.drop ((pl.getD i (0, 0)).1 + (pl.getD i (0, 0)).2)) r
def blokA (pl : List (Nat × Nat)) (n : Nat) : List (Nat × AV) → Bool
  | [] => true
  | (i, v) :: r => Nat.blt i pl.length && Nat.beq (cellsA v).length (pl.getD i (0, 0)).2 && Nat.ble ((pl.getD i (0, 0)).1 + (pl.getD i (0, 0)).2) n && wholeA v && blokA pl n r
def CellsRel (w : World) (U : Nat → Prop) (M : Mp) (cs : List AV) (ys : List Value) : Prop := ys.length = cs.length ∧ ∀ (j : Nat) d, cs[j]? = some d → ∃ z, ys[j]? = some z ∧ z.oneCell' = true ∧ Rel w U M d z
theorem CellsRel.app {w : World} {U : Nat → Prop} {M : Mp} {cs ds : List AV} {ys zs : List Value} (h : CellsRel w U M cs ys) (h' : CellsRel w U M ds zs) : CellsRel w U M (cs ++ ds) (ys ++ zs) := by
  refine ⟨by simp [h.1, h'.1], fun j d hd => ?_⟩
  rcases Nat.lt_or_ge j cs.length with hj | hj
  · rw [List.getElem?_append_left hj] at hd
    rw [List.getElem?_append_left (by rw [h.1]; exact hj)]; exact h.2 j d hd
  · rw [List.getElem?_append_right hj] at hd
    rw [List.getElem?_append_right (by rw [h.1]; exact hj), h.1]; exact h'.2 _ d hd
theorem CellsRel.take {w : World} {U : Nat → Prop} {M : Mp} {cs : List AV} {ys : List Value} (h : CellsRel w U M cs ys) (k : Nat) : CellsRel w U M (cs.take k) (ys.take k) := by
  refine ⟨by simp [h.1], fun j d hd => ?_⟩
  rw [List.getElem?_take] at hd ⊢
  split at hd
  · rename_i hj; rw [if_pos hj]; exact h.2 j d hd
  · cases hd
theorem CellsRel.drop {w : World} {U : Nat → Prop} {M : Mp} {cs : List AV} {ys : List Value} (h : CellsRel w U M cs ys) (k : Nat) : CellsRel w U M (cs.drop k) (ys.drop k) := by
  refine ⟨by simp [h.1], fun j d hd => ?_⟩
  rw [List.getElem?_drop] at hd ⊢
  exact h.2 _ d hd
theorem blA_rel {w : World} {U : Nat → Prop} {M : Mp} (pl : List (Nat × Nat)) : ∀ (parts : List (Nat × AV)) (vs : List (Nat × Value)) (zs : List AV) (ys : List Value), blokA pl zs.length parts = true → parts.map (·.1) = vs.map (·.1) → (∀ (j : Nat) a b, parts[j]? = some a → vs[j]? = some b → Rel w U M a.2 b.2) → CellsRel w U M zs ys →
    R.blok pl ys.length vs = true ∧ CellsRel w U M (blA pl zs parts) (R.bl pl ys vs)
  | [], [], zs, ys, _, _, _, h => ⟨rfl, h⟩
  | [], b :: vs, _, _, _, h, _, _ => by simp at h
  | a :: parts, [], _, _, _, h, _, _ => by simp at h
  | (i, a) :: parts, (i', b) :: vs, zs, ys, hok, hi, hr, h => by
    simp only [List.map_cons, List.cons.injEq] at hi
    obtain ⟨rfl, hi⟩ := hi
    simp only [blokA, Bool.and_eq_true] at hok
    obtain ⟨⟨⟨⟨h1, h2⟩, h3⟩, h4⟩, h5⟩ := hok
    obtain ⟨c1, c2⟩ := (hr 0 _ _ rfl rfl).cells h4
    have hc : CellsRel w U M (cellsA a) b.cells.toList := ⟨by simpa using c1, fun j d hd => by simpa using c2 j d hd⟩
    have hz := ((h.take (pl.getD i (0, 0)).1).app hc).app (h.drop ((pl.getD i (0, 0)).1 + (pl.getD i (0, 0)).2))
    have e2 := Nat.eq_of_beq_eq_true h2
    have e3 := Nat.le_of_ble_eq_true h3
    have hlen : (zs.take (pl.getD i (0, 0)).1 ++ cellsA a ++ zs.drop ((pl.getD i (0, 0)).1 + (pl.getD i (0, 0)).2)).length = zs.length := by
      simp only [List.length_append, List.length_take, List.length_drop, e2]; omega
    obtain ⟨g1, g2⟩ := blA_rel pl parts vs _ _ (by rw [hlen]; exact h5) hi (fun j a b ha hb => hr (j + 1) a b (by simpa using ha) (by simpa using hb)) hz
    refine ⟨?_, g2⟩
    simp only [R.blok, Bool.and_eq_true]
    rw [hz.1, hlen] at g1
    rw [h.1]
    exact ⟨⟨⟨h1, by rw [hc.1]; exact h2⟩, h3⟩, g1⟩
section
variable {P : Program} {n : Nat} {s : Bs} {Q : APost} {σ : Fr} {O : Obs} {ops : Array Oper} {rest : List Oper} {d : Nat} {ty : TypeId} {pos : String} {after : Array Edge}
/-- The literal of a struct. -/
theorem Rd.build {t : TypeId} {parts : Array (Nat × Operand)} {z : Value} {pl : List (Nat × Nat)} {cs : List AV} {ps : List (Nat × AV)} [Y : CZ P t z] [B : CB P t pl] (hz : z.cells.toList.all plain = true) (hp : parts.toList.map (fun x => (x.1, evA σ x.2)) = ps)
    (hok : blokA pl (z.cells.toList.map fun x => AV.t (.v x)).length ps = true) (hc : blA pl (z.cells.toList.map fun x => AV.t (.v x)) ps = cs) : Rd P s O σ (.build t parts) ty (.agg cs) := by
  intro M U w σc S hσ
  have hzr : CellsRel w U M (z.cells.toList.map fun x => AV.t (.v x)) z.cells.toList := by
    refine ⟨by simp, fun j d hd => ?_⟩
    rw [List.getElem?_map] at hd
    cases hq : z.cells.toList[j]? with
    | none => rw [hq] at hd; cases hd
    | some q =>
      rw [hq] at hd; simp at hd; subst hd
      have hpl := List.all_eq_true.1 hz q (get_mem hq)
      exact ⟨q, rfl, plain_cell hpl, .t _ _ (.v _ hpl)⟩
  obtain ⟨g1, g2⟩ := blA_rel (w := w) (U := U) (M := M) pl ps (parts.toList.map fun x => (x.1, ev σc x.2)) _ _ hok (by rw [← hp]; simp) (fun j a b ha hb => by
    rw [← hp] at ha
    simp only [List.getElem?_map] at ha hb
    cases hq : parts.toList[j]? with
    | none => rw [hq] at ha; cases ha
    | some q => rw [hq] at ha hb; simp at ha hb; subst ha; subst hb; exact evA_rel hσ q.2) hzr
  rw [hc] at g2
  refine ⟨.agg (R.bl pl z.cells.toList (parts.toList.map fun x => (x.1, ev σc x.2))).toArray, .agg cs _ g2.1 (fun y hy => ?_) (fun j c y h1 h2 => ?_), fun w' _ => R.buildL rfl rfl g1 rfl⟩
  · obtain ⟨j, hj⟩ := mem_get hy
    have hj' : j < cs.length := by rw [← g2.1]; exact (List.getElem?_eq_some_iff.1 hj).1
    obtain ⟨z, h1, h2, _⟩ := g2.2 j _ (List.getElem?_eq_getElem hj')
    rw [hj] at h1; cases h1; exact h2
  · obtain ⟨z, h3, _, h4⟩ := g2.2 j c h1
    rw [h2] at h3; cases h3; exact h4
def hiC (σc : Nat → Value) (hi : Option Operand) (len h cap : Nat) : Prop := match hi with | none => h = len | some y => ev σc y = .int .i64 (h : Int) ∧ h ≤ cap
def loC (σc : Nat → Value) (lo : Option Operand) (l : Nat) : Prop := match lo with | none => l = 0 | some y => ev σc y = .int .i64 (l : Int)
theorem run_slice {w : World} {σc : Nat → Value} {t e : TypeId} {k : Nat} {x : Operand} {lo hi : Option Operand} {a : Option Addr} {len cap l h : Nat} [T : CSl P t e] [Z : CS P e k] (hx : ev σc x = .slice a len cap)
    (hh : hiC σc hi len h cap) (hl : loC σc lo l) (hlh : l ≤ h) :
    Yl P σc (.slice t x lo hi none) ty w (.slice (if cap = l then a else a.map (·.add (l * k))) (h - l) (cap - l)) w := Yl.mk fun d pos after g => by
  cases lo <;> cases hi <;> simp only [hiC, loC] at hh hl
  · subst hl; subst hh
    simp [execOp, hx, Instr.sliceAt, T.run, Z.run, Instr.slice, Instr.sliceBounds, Instr.sliceBound, asIntOf]
  · subst hl
    obtain ⟨h1, h2⟩ := hh
    simp [execOp, hx, h1, Instr.sliceAt, T.run, Z.run, Instr.slice, Instr.sliceBounds, Instr.sliceBound, asIntOf, h2]
  · subst hh
    simp [execOp, hx, hl, Instr.sliceAt, T.run, Z.run, Instr.slice, Instr.sliceBounds, Instr.sliceBound, asIntOf, hlh]
  · obtain ⟨h1, h2⟩ := hh
    simp [execOp, hx, h1, hl, Instr.sliceAt, T.run, Z.run, Instr.slice, Instr.sliceBounds, Instr.sliceBound, asIntOf, h2, hlh]
def bnd (σ : Fr) (o : Option Operand) (dflt v : Nat) : Prop := match o with | none => v = dflt | some y => evA σ y = iA (v : Int)
theorem Rd.sliceT {t e : TypeId} {k n0 l h : Nat} {x : Operand} {lo hi : Option Operand} {cs ds : List Tr} [T : CSl P t e] [Z : CS P e k] (hx : evA σ x = .t (.sl n0 cs)) (hh : bnd σ hi n0 h) (hl : bnd σ lo 0 l) (hb : l ≤ h ∧ h ≤ n0) (hds : (cs.drop (l * k)).take ((h - l) * k) = ds) :
    Rd P s O σ (.slice t x lo hi none) ty (.t (.sl (h - l) ds)) := by
  intro M U w σc S hσ
  have e := evA_rel hσ x; rw [hx] at e
  generalize hy : ev σc x = u at e
  have hh' : ∀ cap, n0 ≤ cap → hiC σc hi n0 h cap := by
    intro cap hc
    cases hi with
    | none => exact hh
    | some y => have e := evA_rel hσ y; rw [show evA σ y = iA h from hh] at e; exact ⟨e.int, by omega⟩
  have hl' : loC σc lo l := by
    cases lo with
    | none => exact hl
    | some y => have e := evA_rel hσ y; rw [show evA σ y = iA l from hl] at e; exact e.int
  subst hds
  cases e with | t _ _ ht =>
    cases ht with
    | nil =>
      have h0 : h = 0 := by omega
      have l0 : l = 0 := by omega
      subst h0; subst l0
      refine ⟨.slice none 0 0, ?_, fun w' _ => by have := run_slice (P := P) (ty := ty) (w := w') (t := t) hy (hh' 0 (Nat.le_refl _)) hl' hb.1; simpa using this⟩
      simp only [Nat.sub_self, Nat.zero_mul, List.take_zero]
      exact .t _ _ .nil
    | sl0 a cap =>
      have h0 : h = 0 := by omega
      have l0 : l = 0 := by omega
      subst h0; subst l0
      refine ⟨_, ?_, fun w' _ => run_slice (P := P) (ty := ty) (w := w') (t := t) hy (hh' cap (Nat.zero_le _)) hl' hb.1⟩
      simp only [Nat.sub_self, Nat.zero_mul, List.take_zero]
      split
      · exact .t _ _ (.sl0 _ _)
      · exact .t _ _ (.sl0 _ _)
    | sl B off _ cap _ ys hU hyl h1 hc hr hn =>
      refine ⟨_, ?_, fun w' _ => run_slice (P := P) (ty := ty) (w := w') (t := t) hy (hh' cap hn) hl' hb.1⟩
      by_cases hcl : cap = l
      · have : h - l = 0 := by omega
        rw [if_pos hcl, this]
        simp only [Nat.zero_mul, List.take_zero]
        exact .t _ _ (.sl B off 0 _ [] [] hU rfl (fun y hy => by simp at hy) (fun j y hy => by simp at hy) (fun j c y hy => by simp at hy) (Nat.zero_le _))
      · rw [if_neg hcl]
        simp only [Option.map_some, Rd.addr_add]
        have hg : ∀ {α : Type} (zs : List α) (j : Nat) (y : α), ((zs.drop (l * k)).take ((h - l) * k))[j]? = some y → j < (h - l) * k ∧ zs[l * k + j]? = some y := by
          intro α zs j y hj
          rw [List.getElem?_take] at hj
          split at hj
          · rw [List.getElem?_drop] at hj; exact ⟨‹_›, hj⟩
          · cases hj
        refine .t _ _ (.sl B (off + l * k) (h - l) (cap - l) _ ((ys.drop (l * k)).take ((h - l) * k)) hU (by simp [hyl]) (fun y hy => h1 y (List.mem_of_mem_drop (List.mem_of_mem_take hy))) (fun j y hj => ?_) (fun j c y hj hj' => ?_) (by omega))
        · rw [Nat.add_assoc]; exact hc _ _ (hg ys j y hj).2
        · exact hr _ _ _ (hg cs j c hj).2 (hg ys j y hj').2
end
end V
end Go.Proofs.YtkjnnifnmoekjaaDoor
