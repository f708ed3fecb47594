/- The calculus of the walks: a frame as a function from slots to values; rules for code, regions, loops and calls. No condition. -/
import Derived.Test.YtaiifcnjmbpbjaaRows
import Derived.WalkKit
import Derived.ProofKit
import Derived.Deep.Quiet
namespace Go.Proofs.Ytaiifcnjmbpbjaa
namespace V
set_option linter.unusedVariables false
set_option linter.unusedSimpArgs false
open Go.RowKit

theorem nbeq {a b : Nat} (h : a ≠ b) : Nat.beq a b = false := by
  cases e : Nat.beq a b with
  | false => rfl
  | true => exact absurd (Nat.eq_of_beq_eq_true e) h

/-- A slot is written. -/
def upd (σ : Nat → Value) (d : Nat) (v : Value) : Nat → Value := fun t => bif Nat.beq t d then v else σ t
def put (σ : Nat → Value) (d : Option Nat) (v : Value) : Nat → Value := match d with | some d => upd σ d v | none => σ
def ini (args : List Value) : Nat → Value := fun t => args.getD t undef
def ev (σ : Nat → Value) : Operand → Value
  | .tmp t => σ t
  | .const v => v
  | .global g => .pointer (some ⟨g, 0, none⟩)
  | .func f => .func (.func f) #[] #[]
structure Rp (n : Nat) (a : Act) (σ : Nat → Value) : Prop where
  size : a.tmps.size = n
  defers : a.defers = []
  get : ∀ t, a.tmps.getD t undef = σ t

theorem Rp.eval {n : Nat} {a : Act} {σ : Nat → Value} (h : Rp n a σ) : a.eval = ev σ := by
  funext x; cases x with
  | tmp t => exact h.get t
  | _ => rfl

theorem Rp.put {n : Nat} {a : Act} {σ : Nat → Value} (h : Rp n a σ) (d : Nat) (v : Value) (hd : Nat.blt d n = true) : Rp n (a.put (some d) v) (upd σ d v) := by
  have hd' : d < n := Nat.le_of_ble_eq_true hd
  refine ⟨by simp [Act.put, h.size], h.defers, fun t => ?_⟩
  have := h.get t
  simp only [Act.put, upd]
  by_cases e : t = d
  · subst e
    simp [h.size, hd']
  · have e' : Nat.beq t d = false := nbeq e
    rw [e', cond_false, ← this]
    simp [Array.getElem?_setIfInBounds_ne (Ne.symm e)]

abbrev Post := Exit → (Nat → Value) → World → Prop
def lift (n : Nat) (Q : Post) : Exit → Act → World → Prop := fun e a w => ∃ σ, Rp n a σ ∧ Q e σ w
structure CW (P : Program) (n : Nat) (c : Code) (Q : Post) (σ : Nat → Value) (w : World) : Prop where h : ∀ a, Rp n a σ → c.wp P (lift n Q) a w
structure LW (P : Program) (n : Nat) (ops : Array Oper) (l : List Oper) (Q : Post) (σ : Nat → Value) (w : World) : Prop where h : ∀ a, Rp n a σ → wpList P ops (lift n Q) l a w

def thn (K : (Nat → Value) → World → Prop) (Q : Post) : Post
  | .normal, σ, w => K σ w
  | e, σ, w => Q e σ w
def inB (id : Nat) (Q : Post) : Post
  | .exit id', σ, w => bif Nat.beq id' id then Q .normal σ w else Q (.exit id') σ w
  | e, σ, w => Q e σ w

section
variable {P : Program} {n : Nat} {Q : Post} {σ : Nat → Value} {w : World}

theorem CW.mono {c : Code} {Q' : Post} (h : CW P n c Q σ w) (hq : ∀ e σ w, Q e σ w → Q' e σ w) : CW P n c Q' σ w :=
  ⟨fun a ha => Code.wp_mono (fun _ _ _ ⟨s, hs, q⟩ => ⟨s, hs, hq _ _ _ q⟩) (h.h a ha)⟩
theorem CW.skip (h : Q .normal σ w) : CW P n .skip Q σ w := ⟨fun _ ha => wp_skip ⟨σ, ha, h⟩⟩
theorem CW.ret (h : Q .ret σ w) : CW P n .ret Q σ w := ⟨fun _ ha => wp_ret ⟨σ, ha, h⟩⟩
theorem CW.exit {id : Nat} (h : Q (.exit id) σ w) : CW P n (.exit id) Q σ w := ⟨fun _ ha => wp_exit ⟨σ, ha, h⟩⟩
theorem CW.seq {x y : Code} (h : CW P n x (thn (CW P n y Q) Q) σ w) : CW P n (.seq x y) Q σ w := by
  constructor
  intro a ha
  refine wp_seq (Code.wp_mono ?_ (h.h a ha))
  intro e a w ⟨s, hs, q⟩
  cases e <;> first | exact CW.h q a hs | exact ⟨s, hs, q⟩
theorem CW.block {id : Nat} {c : Code} (h : CW P n c (inB id Q) σ w) : CW P n (.block id c) Q σ w := by
  constructor
  intro a ha
  refine wp_block (Code.wp_mono ?_ (h.h a ha))
  intro e a w ⟨s, hs, q⟩
  cases e with
  | exit id' =>
    simp only [inB] at q
    by_cases e : id' = id
    · subst e; simp at q; simp only [Exit.inBlock, if_true]; exact ⟨s, hs, q⟩
    · have e' : Nat.beq id' id = false := nbeq e
      rw [e', cond_false] at q
      simp only [Exit.inBlock, e, if_false]; exact ⟨s, hs, q⟩
  | _ => exact ⟨s, hs, q⟩
theorem CW.cond {c : Operand} {x y : Code} {t : Bool} (hc : ev σ c = .bool t) (ht : t = true → CW P n x Q σ w) (hf : t = false → CW P n y Q σ w) : CW P n (.cond c x y) Q σ w :=
  ⟨fun a ha => wp_cond_split (by rw [ha.eval]; exact hc) (fun h => (ht h).h a ha) (fun h => (hf h).h a ha)⟩
theorem CW.cond_true {c : Operand} {x y : Code} {t : Bool} (hc : ev σ c = .bool t) (h : t = true) (ht : CW P n x Q σ w) : CW P n (.cond c x y) Q σ w :=
  CW.cond hc (fun _ => ht) (fun h' => by rw [h] at h'; cases h')
theorem CW.cond_false {c : Operand} {x y : Code} {t : Bool} (hc : ev σ c = .bool t) (h : t = false) (ht : CW P n y Q σ w) : CW P n (.cond c x y) Q σ w :=
  CW.cond hc (fun h' => by rw [h] at h'; cases h') (fun _ => ht)

theorem least {p : Nat → Prop} (h : ∃ m, p m) : ∃ m, p m ∧ ∀ k, p k → m ≤ k := by
  obtain ⟨m, hm⟩ := h
  induction m using Nat.strongRecOn with
  | _ m ih =>
    by_cases hx : ∃ k, k < m ∧ p k
    · obtain ⟨k, hk, hp⟩ := hx; exact ih k hk hp
    · exact ⟨m, hm, fun k hk => by
        rcases Nat.lt_or_ge k m with h | h
        · exact absurd ⟨k, h, hk⟩ hx
        · exact h⟩

open Classical in
/-- A loop: what holds at every round's head is told of a ghost 'x'; the measure is the ghost's. -/
theorem CW.loop {α : Type} {c : Code} (I : α → (Nat → Value) → World → Prop) (μ : α → Nat) (x0 : α) (h0 : I x0 σ w)
    (round : ∀ x σ w, I x σ w → CW P n c (thn (fun σ' w' => ∃ x', μ x' < μ x ∧ I x' σ' w') Q) σ w) : CW P n (.loop c) Q σ w := by
  constructor
  intro a ha
  let J : α → Act → World → Prop := fun x a w => ∃ σ, Rp n a σ ∧ I x σ w
  let p : Act → World → Nat → Prop := fun a w m => ∃ x, J x a w ∧ μ x = m
  let ν : Act → World → Nat := fun a w => if h : ∃ m, p a w m then Classical.choose (least h) else 0
  have hν : ∀ a w, (∃ m, p a w m) → p a w (ν a w) ∧ ∀ k, p a w k → ν a w ≤ k := by
    intro a w h
    have : ν a w = Classical.choose (least h) := by simp only [ν]; rw [dif_pos h]
    rw [this]; exact Classical.choose_spec (least h)
  refine wp_loop (fun a w => ∃ x, J x a w) ν ⟨x0, σ, ha, h0⟩ ?_
  intro a w ⟨x, hx⟩
  obtain ⟨⟨y, ⟨s, hs, hy⟩, hm⟩, _⟩ := hν a w ⟨_, x, hx, rfl⟩
  refine Code.wp_mono ?_ ((round y s w hy).h a hs)
  intro e a' w' ⟨s', hs', q⟩
  cases e with
  | normal =>
    obtain ⟨x', hlt, hI⟩ := q
    refine ⟨⟨x', s', hs', hI⟩, ?_⟩
    have := (hν a' w' ⟨_, x', ⟨s', hs', hI⟩, rfl⟩).2 (μ x') ⟨x', ⟨s', hs', hI⟩, rfl⟩
    omega
  | _ => exact ⟨s', hs', q⟩

/-- Slots whose values are known. -/
def Pin : List (Nat × Value) → (Nat → Value) → Prop
  | [], _ => True
  | (d, v) :: l, σ => σ d = v ∧ Pin l σ
def ov (σ : Nat → Value) : List (Nat × Value) → (Nat → Value)
  | [] => σ
  | (d, v) :: l => upd (ov σ l) d v
theorem Pin.eq : ∀ {l : List (Nat × Value)} {σ : Nat → Value}, Pin l σ → ov σ l = σ
  | [], _, _ => rfl
  | (d, v) :: l, σ, ⟨h1, h2⟩ => by
    show upd (ov σ l) d v = σ
    rw [Pin.eq h2]
    funext t
    unfold upd
    by_cases e : t = d
    · subst e; rw [← h1]; simp
    · rw [nbeq e]; rfl
/-- A loop, its slots' values pinned at each round's head. -/
theorem CW.loopP {α : Type} {c : Code} (L : α → List (Nat × Value)) (J : α → World → Prop) (μ : α → Nat) (x0 : α) (h0 : Pin (L x0) σ) (j0 : J x0 w)
    (round : ∀ x τ w, J x w → CW P n c (thn (fun σ' w' => ∃ x', μ x' < μ x ∧ Pin (L x') σ' ∧ J x' w') Q) (ov τ (L x)) w) : CW P n (.loop c) Q σ w := by
  refine CW.loop (fun x σ w => Pin (L x) σ ∧ J x w) μ x0 ⟨h0, j0⟩ ?_
  intro x σ w ⟨hp, hj⟩
  have := round x σ w hj
  rw [hp.eq] at this
  exact this
/-- What follows goes on from pinned slots alone. -/
theorem CW.pin {c : Code} (L : List (Nat × Value)) (h0 : Pin L σ) (h : ∀ τ, CW P n c Q (ov τ L) w) : CW P n c Q σ w := by
  have := h σ
  rwa [h0.eq] at this
theorem CW.region {id : Nat} {l : List Oper} (h : LW P n l.toArray l Q σ w) : CW P n (.region id l.toArray false) Q σ w :=
  ⟨fun a ha => wp_region_lit (h.h a ha)⟩

theorem LW.nil {ops : Array Oper} (h : Q .normal σ w) : LW P n ops [] Q σ w := ⟨fun _ ha => wpList_nil ⟨σ, ha, h⟩⟩

/-- What an operation yields. -/
structure Yl (P : Program) (σ : Nat → Value) (o : Op) (ty : TypeId) (w : World) (v : Value) (w' : World) : Prop where
  run : ∀ d pos after g, (execOp (ev σ) ⟨d, o, ty, pos, after, g⟩).run P w = .ok (.value v) w'

/-- An operation that hands back a value. -/
theorem LW.op {ops : Array Oper} {rest : List Oper} {d : Nat} {op : Op} {ty : TypeId} {pos : String} {after : Array Edge} {v : Value} {w' : World} (hd : Nat.blt d n = true)
    (hr : Yl P σ op ty w v w') (k : LW P n ops rest Q (upd σ d v) w') :
    LW P n ops (⟨some d, op, ty, pos, after, none⟩ :: rest) Q σ w := by
  constructor
  intro a ha
  refine wpList_plain rfl fun K hK => ?_
  unfold Oper.wp
  rw [ha.eval, hr.run]
  exact hK _ _ (k.h _ (ha.put d v hd))
/-- One that hands back nothing. -/
theorem LW.op0 {ops : Array Oper} {rest : List Oper} {op : Op} {ty : TypeId} {pos : String} {after : Array Edge} {w' : World}
    (hr : (execOp (ev σ) ⟨none, op, ty, pos, after, none⟩).run P w = .ok .skip w') (k : LW P n ops rest Q σ w') :
    LW P n ops (⟨none, op, ty, pos, after, none⟩ :: rest) Q σ w := by
  constructor
  intro a ha
  refine wpList_plain rfl fun K hK => ?_
  unfold Oper.wp
  rw [ha.eval, hr]
  exact hK _ _ (k.h _ ha)
theorem LW.call {ops : Array Oper} {rest : List Oper} {d : Nat} {op : Op} {ty : TypeId} {pos : String} {after : Array Edge} {f : FuncId} {args : Array Value} {R : Ending → World → Prop} (hd : Nat.blt d n = true)
    (hr : (execOp (ev σ) ⟨some d, op, ty, pos, after, none⟩).run P w = .ok (.enter f args) w) (hc : Calls P f args w R)
    (k : ∀ e w', R e w' → ∃ v, e = .returned v ∧ LW P n ops rest Q (upd σ d v) w') :
    LW P n ops (⟨some d, op, ty, pos, after, none⟩ :: rest) Q σ w := by
  constructor
  intro a ha
  refine wpList_plain rfl fun K hK => ?_
  unfold Oper.wp
  rw [ha.eval, hr]
  refine hc.mono fun e w' hR => ?_
  obtain ⟨v, rfl, hk⟩ := k e w' hR
  exact hK _ _ (hk.h _ (ha.put d v hd))

/-- What a guard reads. -/
def gd (ops : Array Oper) (σ : Nat → Value) (j : Nat) : Option Value := ((ops[j]?).bind (·.dst)).map σ
theorem gd_yield {ops : Array Oper} {a : Act} (ha : Rp n a σ) {j : Nat} {b : Bool} (h : gd ops σ j = some (.bool b)) : yielded ops a.tmps j = some b := by
  unfold gd at h
  unfold yielded
  cases hx : (ops[j]?).bind (·.dst) with
  | none => rw [hx] at h; simp at h
  | some d =>
    rw [hx] at h
    simp only [Option.map_some, Option.some.injEq] at h
    have h1 := ha.get d
    rw [h] at h1
    simp only [Option.bind_some]
    cases hy : a.tmps[d]? with
    | none => simp [hy, undef] at h1
    | some v => simp [hy] at h1; simp [h1]

theorem LW.guard {ops : Array Oper} {rest : List Oper} {d : Option Nat} {op : Op} {ty : TypeId} {pos : String} {after : Array Edge} {j : Nat} {want b : Bool}
    (hg : gd ops σ j = some (.bool b)) (hd : (match d with | some d => Nat.blt d n | none => true) = true)
    (h1 : b = want → LW P n ops (⟨d, op, ty, pos, after, none⟩ :: rest) Q σ w)
    (h2 : b = (!want) → LW P n ops rest Q (V.put σ d undef) w) :
    LW P n ops (⟨d, op, ty, pos, after, some (j, want)⟩ :: rest) Q σ w := by
  constructor
  intro a ha
  have hy := gd_yield ha hg
  have hw : Region.wanted ⟨d, op, ty, pos, after, some (j, want)⟩ (yielded ops a.tmps) = (b == want) := by
    simp [Region.wanted, hy]
  unfold wpList
  rw [hw]
  by_cases e : b = want
  · have := (h1 e).h a ha
    unfold wpList at this
    simp only [Region.wanted, if_true] at this
    rw [if_pos (by simp [e])]
    exact this
  · have e2 : b = !want := by cases b <;> cases want <;> simp_all
    rw [if_neg (by simp [e])]
    cases d with
    | none => exact (h2 e2).h a ha
    | some d => exact (h2 e2).h _ (ha.put d undef hd)
theorem LW.guard_on {ops : Array Oper} {rest : List Oper} {d : Option Nat} {op : Op} {ty : TypeId} {pos : String} {after : Array Edge} {j : Nat} {want b : Bool}
    (hg : gd ops σ j = some (.bool b)) (hb : b = want)
    (h1 : LW P n ops (⟨d, op, ty, pos, after, none⟩ :: rest) Q σ w) :
    LW P n ops (⟨d, op, ty, pos, after, some (j, want)⟩ :: rest) Q σ w := by
  constructor
  intro a ha
  have hy := gd_yield ha hg
  have hw : Region.wanted ⟨d, op, ty, pos, after, some (j, want)⟩ (yielded ops a.tmps) = (b == want) := by
    simp [Region.wanted, hy]
  unfold wpList
  rw [hw]
  have := h1.h a ha
  unfold wpList at this
  simp only [Region.wanted, if_true] at this
  rw [if_pos (by simp [hb])]
  exact this
theorem LW.guard_off {ops : Array Oper} {rest : List Oper} {d : Option Nat} {op : Op} {ty : TypeId} {pos : String} {after : Array Edge} {j : Nat} {want b : Bool}
    (hg : gd ops σ j = some (.bool b)) (hd : (match d with | some d => Nat.blt d n | none => true) = true) (hb : b = !want)
    (h2 : LW P n ops rest Q (V.put σ d undef) w) :
    LW P n ops (⟨d, op, ty, pos, after, some (j, want)⟩ :: rest) Q σ w :=
  LW.guard hg hd (fun e => by rw [e] at hb; cases want <;> simp at hb) (fun _ => h2)

theorem thn_n {K : (Nat → Value) → World → Prop} (h : K σ w) : thn K Q .normal σ w := h
theorem thn_r {K : (Nat → Value) → World → Prop} (h : Q .ret σ w) : thn K Q .ret σ w := h
theorem thn_e {K : (Nat → Value) → World → Prop} {i : Nat} (h : Q (.exit i) σ w) : thn K Q (.exit i) σ w := h
theorem inB_n {id : Nat} (h : Q .normal σ w) : inB id Q .normal σ w := h
theorem inB_r {id : Nat} (h : Q .ret σ w) : inB id Q .ret σ w := h
theorem inB_eq {id i : Nat} (hi : Nat.beq i id = true) (h : Q .normal σ w) : inB id Q (.exit i) σ w := by show bif Nat.beq i id then _ else _; rw [hi]; exact h
theorem inB_ne {id i : Nat} (hi : Nat.beq i id = false) (h : Q (.exit i) σ w) : inB id Q (.exit i) σ w := by show bif Nat.beq i id then _ else _; rw [hi]; exact h

/-! The function's end. -/
def Fin (P : Program) (fn : Func) (R : Ending → World → Prop) : Post := fun e σ w => ∀ a, Rp fn.ntmps a σ → bodyPost P fn R e a w

theorem Rp_ini (args : Array Value) (n : Nat) (h : args.size ≤ n) : Rp n { tmps := args ++ Array.replicate (n - args.size) undef, defers := [] } (ini args.toList) := by
  refine ⟨by simp; omega, rfl, fun t => ?_⟩
  simp only [ini, Array.getD_eq_getD_getElem?, List.getD_eq_getElem?_getD, Array.getElem?_append, Array.getElem?_toList]
  split
  · rfl
  · rename_i hx
    rw [Array.getElem?_replicate, Array.getElem?_eq_none (by omega)]
    split <;> rfl

theorem calls {f : FuncId} {fn : Func} {c : Code} {args : List Value} {R : Ending → World → Prop}
    (hf : P.funcs[f]? = some fn) (hb : fn.body = some c) (hn : Nat.ble args.length fn.ntmps = true)
    (h : CW P fn.ntmps c (Fin P fn R) (ini args) w) : Calls P f args.toArray w R := by
  refine calls_of_wp hf hb ?_
  have hn' : args.length ≤ fn.ntmps := by simpa [Nat.ble] using hn
  have := h.h _ (by simpa using Rp_ini args.toArray fn.ntmps (by simpa using hn'))
  exact Code.wp_mono (fun e a w ⟨s, hs, q⟩ => q a hs) this

theorem Fin.ret {fn : Func} {R : Ending → World → Prop} {e : Exit} {v : Value} (he : e = .ret ∨ e = .normal)
    (hr : ∀ a, Rp fn.ntmps a σ → (results fn a.tmps).run P w = .ok v w) (hR : R (.returned v) w) : Fin P fn R e σ w := by
  intro a ha
  rcases he with rfl | rfl <;> exact ⟨ha.defers, v, hr a ha, hR⟩
theorem Fin.ret1 {fn : Func} {R : Ending → World → Prop} {e : Exit} {t : Nat} (h : fn.results = #[.tmp t]) (he : e = .ret ∨ e = .normal)
    (hR : R (.returned (σ t)) w) : Fin P fn R e σ w :=
  Fin.ret he (fun a ha => by rw [results_tmp h, ha.get]) hR
theorem Fin.ret2 {fn : Func} {R : Ending → World → Prop} {e : Exit} {t u : Nat} (h : fn.results = #[.tmp t, .tmp u]) (he : e = .ret ∨ e = .normal)
    (hR : R (.returned (.tuple #[σ t, σ u])) w) : Fin P fn R e σ w :=
  Fin.ret he (fun a ha => by rw [results_tmp2 h, ha.get, ha.get]) hR
/-- The result variables' values. -/
inductive RV (P : Program) (σ : Nat → Value) (w : World) : List ResultVar → List Value → Prop
  | nil : RV P σ w [] []
  | tmp {t : Nat} {r : List ResultVar} {vs : List Value} (h : RV P σ w r vs) : RV P σ w (.tmp t :: r) (σ t :: vs)
  | cell {t : Nat} {T : TypeId} {a : Addr} {v : Value} {r : List ResultVar} {vs : List Value} (ht : σ t = .pointer (some a)) (hv : (loadVar T a).run P w = .ok v w) (h : RV P σ w r vs) : RV P σ w (.cell t T :: r) (v :: vs)

def rv (tmps : Array Value) : ResultVar → Sem Value
  | ResultVar.tmp t => pure (tmps.getD t undef)
  | ResultVar.cell b t => do loadVar t (← asAddr (tmps.getD b undef))
theorem results_eq (fn : Func) (tmps : Array Value) : results fn tmps = (do let vs ← fn.results.mapM (rv tmps); pure (if h : vs.size = 1 then vs[0] else .tuple vs)) := by
  have : rv tmps = (fun x => match x with | ResultVar.tmp t => (pure (tmps.getD t undef) : Sem Value) | ResultVar.cell b t => (asAddr (tmps.getD b undef)) >>= fun a => loadVar t a) := by
    funext x; cases x <;> rfl
  rw [this]; rfl
theorem RV.run {a : Act} (ha : Rp n a σ) {r : List ResultVar} {vs : List Value} (h : RV P σ w r vs) : (r.mapM (rv a.tmps)).run P w = .ok vs w := by
  induction h with
  | nil => simp
  | @tmp t r vs h ih =>
    simp only [List.mapM_cons, Sem.run_bind, rv, Sem.run_pure, Result.andThen_ok, ih, ha.get]
  | @cell t T b v r vs ht hv h ih =>
    simp only [List.mapM_cons, Sem.run_bind, rv, ha.get, ht, asAddr, Sem.run_pure, Result.andThen_ok, hv, ih]
theorem Fin.rets {fn : Func} {R : Ending → World → Prop} {e : Exit} {l : List ResultVar} {vs : List Value} (he : e = .ret ∨ e = .normal) (h : fn.results = l.toArray) (hl : Nat.ble 2 l.length = true)
    (hv : RV P σ w l vs) (hR : R (.returned (.tuple vs.toArray)) w) : Fin P fn R e σ w := by
  refine Fin.ret he (fun a ha => ?_) hR
  have h1 := RV.run ha hv
  have hlen : vs.length = l.length := by
    clear h1 hl h hR
    induction hv with
    | nil => rfl
    | tmp _ ih => simp [ih]
    | cell _ _ _ ih => simp [ih]
  have hl' : 2 ≤ l.length := by simpa [Nat.ble] using hl
  rw [results_eq, h, List.mapM_toArray, Sem.run_bind, Sem.run_map, h1]
  simp only [Result.andThen_ok]
  rw [dif_neg (by simp; omega)]
  rfl
theorem Fin.rets1 {fn : Func} {R : Ending → World → Prop} {e : Exit} {l : ResultVar} {v : Value} (he : e = .ret ∨ e = .normal) (h : fn.results = #[l]) 
    (hv : RV P σ w [l] [v]) (hR : R (.returned v) w) : Fin P fn R e σ w := by
  refine Fin.ret he (fun a ha => ?_) hR
  have h1 := RV.run ha hv
  rw [results_eq, h, show (#[l] : Array ResultVar) = [l].toArray from rfl, List.mapM_toArray, Sem.run_bind, Sem.run_map, h1]
  simp only [Result.andThen_ok]
  rfl
end
attribute [irreducible] thn inB Fin
end V
end Go.Proofs.Ytaiifcnjmbpbjaa
