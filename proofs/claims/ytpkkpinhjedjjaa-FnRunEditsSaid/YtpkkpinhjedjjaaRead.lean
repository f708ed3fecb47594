/- Contracts of the reader, out of which arguments are drawn. No condition but those on its state. -/
import Derived.Test.YtpkkpinhjedjjaaLibF
import Derived.Test.YtpkkpinhjedjjaaBase
namespace Go.Proofs.Ytpkkpinhjedjjaa
namespace V
open Flat (enc)
set_option linter.unusedVariables false
set_option maxHeartbeats 1000000
set_option linter.unusedSimpArgs false
open Go.RowKit

/-- The reader's block. -/
def rdo (T : TypeId) (ad : Option Addr) (len cap : Nat) (p : Int) : Obj := .cells #[.slice ad len cap, .int .i64 p] T (0, 0)
theorem SlF.upto {α : Type} [F : Flat α] {w0 : Base} {w ws : World} {Sn : List Snap} {O : List (Nat × Obj)} {lo hi rb : Nat} {a : Option Addr} {xs : List α} (S : Now w0 Sn O w) (hm : Snap.mk lo hi ws ∈ Sn) (hs : SlF lo hi ws a xs) (hle : hi ≤ rb) : SlF 0 rb w a xs :=
  SlG.mono (SlG.frame hs (S.snap _ hm).2) (Nat.zero_le _) hle

/-- How a call ends that draws out of the reader: at most c numbers more are used up. -/
def Dr (rb : Nat) (T : TypeId) (ad : Option Addr) (n cap : Nat) (p c : Int) (w : World) (RES : Value → World → Prop) : Ending → World → Prop := fun e w' =>
  ∃ v o', e = .returned v ∧ (RES v w' ∧ ∃ p', o' = rdo T ad n cap p' ∧ p ≤ p' ∧ p' ≤ p + c) ∧ w'.heap[rb]? = some o' ∧ BelowX [rb] w w'
theorem LW.callD {P : Program} {n : Nat} {Q : Post} {σ : Nat → Value} {w : World} {w0 : Base} {Sn : List Snap} {O : List (Nat × Obj)} {ops : Array Oper} {rest : List Oper} {d : Nat} {ty : TypeId} {ps : String} {after : Array Edge}
    (S : Now w0 Sn O w) (i : Nat) {f : FuncId} {xs : List Operand} {ats : Array TypeId} {args : List Value} {RES : Value → World → Prop} {rb m cap : Nat} {T : TypeId} {ad : Option Addr} {p c : Int} (hd : Nat.blt d n = true)
    (hr : ∀ args w, (callFunc f args).run P w = .ok (.enter f args) w) (ha : xs.map (ev σ) = args) (hO : O[i]? = some (rb, rdo T ad m cap p))
    (hc : Calls P f args.toArray w (Dr rb T ad m cap p c w RES))
    (k : ∀ v w' p', RES v w' → p ≤ p' → p' ≤ p + c → Bd w0 w.heap.size Sn (O.set i (rb, rdo T ad m cap p')) → Now w0 (⟨w.heap.size, w'.heap.size, w'⟩ :: Sn) (O.set i (rb, rdo T ad m cap p')) w' → LW P n ops rest Q (upd σ d v) w') :
    LW P n ops (⟨some d, .call { callee := .value (.func f), args := xs.toArray, argTypes := ats }, ty, ps, after, none⟩ :: rest) Q σ w := by
  refine LW.callX S i hd hr ha hO (R := fun v o' w' => RES v w' ∧ ∃ p', o' = rdo T ad m cap p' ∧ p ≤ p' ∧ p' ≤ p + c) hc ?_
  rintro v o' w' ⟨hR, p', rfl, h1, h2⟩ hB S'
  exact k v w' p' hR h1 h2 hB S'
theorem Dr.mk {P : Program} {σ : Nat → Value} {w wi : World} {Sn : List Snap} {O : List (Nat × Obj)} {fn : Func} {e : Exit} {t : Nat} {RES : Value → World → Prop} {rb m cap : Nat} {T : TypeId} {ad : Option Addr} {p c p' : Int} (h : fn.results = #[.tmp t]) (he : e = .ret ∨ e = .normal) (S : Now ⟨wi, [rb]⟩ Sn O w) (i : Nat) (hO : O[i]? = some (rb, rdo T ad m cap p')) (hR : RES (σ t) w) (h1 : p ≤ p') (h2 : p' ≤ p + c) :
    Fin P fn (Dr rb T ad m cap p c wi RES) e σ w :=
  Fin.ret1 h he ⟨_, _, rfl, ⟨hR, p', rfl, h1, h2⟩, S.own i _ hO, S.base⟩
theorem Dr.mks {P : Program} {σ : Nat → Value} {w wi : World} {Sn : List Snap} {O : List (Nat × Obj)} {fn : Func} {e : Exit} {l : List ResultVar} {vs : List Value} {RES : Value → World → Prop} {rb m cap : Nat} {T : TypeId} {ad : Option Addr} {p c p' : Int} (h : fn.results = l.toArray) (hl : Nat.ble 2 l.length = true) (hv : RV P σ w l vs) (he : e = .ret ∨ e = .normal) (S : Now ⟨wi, [rb]⟩ Sn O w) (i : Nat) (hO : O[i]? = some (rb, rdo T ad m cap p')) (hR : RES (.tuple vs.toArray) w) (h1 : p ≤ p') (h2 : p' ≤ p + c) :
    Fin P fn (Dr rb T ad m cap p c wi RES) e σ w :=
  Fin.rets he h hl hv ⟨_, _, rfl, ⟨hR, p', rfl, h1, h2⟩, S.own i _ hO, S.base⟩
theorem Dr.mk1 {P : Program} {σ : Nat → Value} {w wi : World} {Sn : List Snap} {O : List (Nat × Obj)} {fn : Func} {e : Exit} {l : ResultVar} {v : Value} {RES : Value → World → Prop} {rb m cap : Nat} {T : TypeId} {ad : Option Addr} {p c p' : Int} (h : fn.results = #[l]) (hv : RV P σ w [l] [v]) (he : e = .ret ∨ e = .normal) (S : Now ⟨wi, [rb]⟩ Sn O w) (i : Nat) (hO : O[i]? = some (rb, rdo T ad m cap p')) (hR : RES v w) (h1 : p ≤ p') (h2 : p' ≤ p + c) :
    Fin P fn (Dr rb T ad m cap p c wi RES) e σ w :=
  Fin.rets1 he h hv ⟨_, _, rfl, ⟨hR, p', rfl, h1, h2⟩, S.own i _ hO, S.base⟩
/-- The worlds in a region that draws its order and draws numbers out of the reader. -/
def CD (w0 : Base) (Sn : List Snap) (O : List (Nat × Obj)) (i rb : Nat) (T : TypeId) (ad : Option Addr) (m cap : Nat) (p c : Int) : Nat → World → Prop := fun j w =>
  ∃ p', p ≤ p' ∧ p' ≤ p + c * j ∧ Now w0 Sn (O.set i (rb, rdo T ad m cap p')) w
section
variable {P : Program} {n N : Nat} {Q : Post} {σ : Nat → Value} {w : World} {w0 : Base} {Sn : List Snap} {O : List (Nat × Obj)} {ops : Array Oper} {rest : List Oper} {d : Nat} {ty : TypeId} {ps : String} {after : Array Edge} {K : (Nat → Value) → Prop} {Φ : Nat → Array Value → Value → Prop} {i j rb m cap : Nat} {T : TypeId} {ad : Option Addr} {p c : Int}
theorem CD.mono (hc : 0 ≤ c) : ∀ j w, CD w0 Sn O i rb T ad m cap p c j w → CD w0 Sn O i rb T ad m cap p c (j + 1) w := by
  rintro j w ⟨p', h1, h2, S⟩
  refine ⟨p', h1, ?_, S⟩
  have : c * ((j + 1 : Nat) : Int) = c * j + c := by rw [Int.natCast_add, Int.mul_add]; simp
  omega
theorem CD.start (S : Now w0 Sn O w) (hO : O[i]? = some (rb, rdo T ad m cap p)) : CD w0 Sn O i rb T ad m cap p c 0 { w with drawn := w.drawn + 1 } := by
  refine ⟨p, Int.le_refl _, by simp, ?_⟩
  have : O.set i (rb, rdo T ad m cap p) = O := by
    have hlt := (List.getElem?_eq_some_iff.1 hO)
    obtain ⟨h, e⟩ := hlt
    rw [← e]; exact List.set_getElem_self h
  rw [this]; exact S.draw
theorem NW.callD {f : FuncId} {xs : List Operand} {ats : Array TypeId} {args : List Value} {RES : Value → World → Prop} (hd : Nat.blt d n = true)
    (hr : ∀ args w, (callFunc f args).run P w = .ok (.enter f args) w) (ha : xs.map (ev σ) = args) (hO : i < O.length)
    (hc : ∀ q w p', q < N → p ≤ p' → p' ≤ p + c * q → Now w0 Sn (O.set i (rb, rdo T ad m cap p')) w → Calls P f args.toArray w (Dr rb T ad m cap p' c w RES))
    (hΦ : ∀ v w, RES v w → Φ j args.toArray v)
    (k : ∀ v, Φ j args.toArray v → NW P n ops (CD w0 Sn O i rb T ad m cap p c) N Φ (j + 1) rest K (upd σ d v)) :
    NW P n ops (CD w0 Sn O i rb T ad m cap p c) N Φ j (⟨some d, .call { callee := .value (.func f), args := xs.toArray, argTypes := ats }, ty, ps, after, none⟩ :: rest) K σ := by
  refine NW.call hd hr ha ?_ k
  rintro q w hq ⟨p', h1, h2, S⟩
  refine (hc q w p' hq h1 h2 S).mono ?_
  rintro e w' ⟨v, o', he, ⟨hR, p'', rfl, h3, h4⟩, ho, hb⟩
  refine ⟨v, he, hΦ v w' hR, p'', by omega, ?_, ?_⟩
  · have : c * ((q + 1 : Nat) : Int) = c * q + c := by rw [Int.natCast_add, Int.mul_add]; simp
    omega
  · have := S.turn (i := i) (List.getElem?_set_self hO) hb ho
    rwa [List.set_set] at this
/-- A region that draws its order and draws numbers; at its end an operation that may turn memory. -/
theorem CW.ndD {id : Nat} {l : List Oper} (S : Now w0 Sn O w) (i : Nat) (Φ : Nat → Array Value → Value → Prop) (c : Int) (hc : 0 ≤ c) (hO : O[i]? = some (rb, rdo T ad m cap p)) (q : Nat) (hm : P.follows .mixedOrders = true) (hB : Region.lexTailB .any l.toArray q = true)
    (h : NW P n l.toArray (CD w0 Sn O i rb T ad m cap p c) q Φ 0 (l.take q) (fun σ' => ∀ w' p', p ≤ p' → p' ≤ p + c * q → Now w0 Sn (O.set i (rb, rdo T ad m cap p')) w' → LW P n l.toArray (l.drop q) Q σ' w') σ) : CW P n (.region id l.toArray true) Q σ w :=
  CW.nd (CD w0 Sn O i rb T ad m cap p c) Φ q hm hB (CD.mono hc) (CD.start S hO) (NW.mono (fun σ' h w' ⟨p', h1, h2, S⟩ => h w' p' h1 h2 S) h)
theorem CW.ndDAll {id : Nat} {l : List Oper} (S : Now w0 Sn O w) (i : Nat) (Φ : Nat → Array Value → Value → Prop) (c : Int) (hc : 0 ≤ c) (hO : O[i]? = some (rb, rdo T ad m cap p)) (hm : P.follows .mixedOrders = true) (hB : (Region.noSelect l.toArray && Region.lexHead .any l.toArray 0 l.length 0 (Array.replicate l.toArray.size false)) = true)
    (h : NW P n l.toArray (CD w0 Sn O i rb T ad m cap p c) l.length Φ 0 l (fun σ' => ∀ w' p', p ≤ p' → p' ≤ p + c * l.length → Now w0 Sn (O.set i (rb, rdo T ad m cap p')) w' → Q .normal σ' w') σ) : CW P n (.region id l.toArray true) Q σ w :=
  CW.ndAll (CD w0 Sn O i rb T ad m cap p c) Φ hm hB (CD.mono hc) (CD.start S hO) (NW.mono (fun σ' h w' ⟨p', h1, h2, S⟩ => h w' p' h1 h2 S) h)
end
/-- A slice that lies apart from the reader. -/
def SlX {α : Type} [F : Flat α] (rb : Nat) (w : World) (a : Option Addr) (xs : List α) : Prop := SlF 0 rb w a xs ∨ SlF (rb + 1) w.heap.size w a xs
theorem SlX.own {α : Type} [F : Flat α] {w0 : Base} {w : World} {Sn : List Snap} {O : List (Nat × Obj)} {i j b rb : Nat} {cs : Array Value} {t : TypeId} {fr : Nat × Nat} {o : Obj} {xs : List α} (S : Now w0 Sn O w) (hi : O[i]? = some (b, .cells cs t fr)) (hj : O[j]? = some (rb, o)) (hij : i ≠ j) (hc : cs.toList = fl xs) : SlX rb w (some ⟨b, 0, none⟩) xs := by
  have hne : b ≠ rb := fun e => hij (S.one i j _ _ hi hj (by simpa using e))
  have ht : cs.toList.take (xs.length * F.k) = fl xs := by rw [hc, ← fl_length, List.take_length]
  rcases Nat.lt_or_ge b rb with h | h
  · exact .inl (slF_block (S.own i _ hi) ht (Nat.zero_le _) h)
  · exact .inr (slF_block (S.own i _ hi) ht (by omega) (S.lt hi))
theorem SlX.snap {α : Type} [F : Flat α] {w0 : Base} {w ws : World} {Sn : List Snap} {O : List (Nat × Obj)} {j rb lo hi : Nat} {o : Obj} {a : Option Addr} {xs : List α} (S : Now w0 Sn O w) (hm : Snap.mk lo hi ws ∈ Sn) (hs : SlF lo hi ws a xs) (hj : O[j]? = some (rb, o)) : SlX rb w a xs := by
  rcases S.apart _ (get_mem hj) _ hm with h | h
  · exact .inr (SlG.mono (SlG.frame hs (S.snap _ hm).2) h (S.snap _ hm).1)
  · exact .inl (SlG.mono (SlG.frame hs (S.snap _ hm).2) (Nat.zero_le _) h)

attribute [local irreducible] GrF Gr SlF SlG OwF fl
theorem newReader_any (a : Option Addr) (cap : Nat) (l : List UInt8) (w : World) (hs : SlF 0 w.heap.size w a l) (hc : l.length ≤ cap) :
    Calls Try.prog 19 #[.slice a l.length cap] w fun e w' => ∃ v, e = .returned v ∧ (∃ rb T l', v = .pointer (some ⟨rb, 0, none⟩) ∧ w.heap.size ≤ rb ∧ w'.heap[rb]? = some (rdo T a (l' : List UInt8).length cap 0) ∧ l'.length ≤ 2000 ∧ SlF 0 w.heap.size w' a l') ∧ Below w.heap.size w w' := by
  have S := Now.init w
  refine calls Try.func19 rfl rfl ?_
  have hfin : ∀ (S' : World), True := fun _ => trivial
  by_cases h0 : l.length ≤ 2000
  · repeat' (first
    | (refine LW.kOp ?_; (first | (refine LW.kGu ?_; (first | refine LW.guard_on rfl rfl ?_ | refine LW.guard_off rfl rfl rfl ?_ | refine LW.guard_on rfl (by assumption) ?_ | refine LW.guard_off rfl rfl (by assumption) ?_ | (refine LW.guard rfl rfl ?_ ?_ <;> (intro h; have h1 := h; (try simp only [decide_eq_true_eq, decide_eq_false_iff_not, Bool.not_eq_true', Bool.not_eq_false', Bool.and_eq_true, Bool.or_eq_true, Bool.and_eq_false_iff, Bool.or_eq_false_iff, Bool.not_true, Bool.not_false, Int.not_lt, Int.not_le, Bool.not_eq_eq_eq_not, reduceCtorEq] at h1); (try (exfalso; omega)))))) | (refine LW.op rfl (R.build (cs := #[.slice a l.length cap, .int .i64 0]) (by kernel_rfl)) ?_) | (refine LW.kBin ?_; (first | refine LW.op rfl (R.gtr rfl rfl) ?_)) | (refine LW.kCal ?_; (first | fail)) | (refine LW.kBui ?_; (first | refine LW.op rfl (R.lenSl rfl) ?_ | refine LW.op rfl (R.lenSt rfl) ?_)) | (refine LW.kLoad ?_; (first | fail)) | (refine LW.kStore ?_; (first | fail)) | (refine LW.kIx ?_; (first | fail)) | refine LW.op rfl (R.moveI rfl) ?_ | refine LW.op rfl (R.moveS rfl) ?_ | refine LW.op rfl (R.moveP rfl) ?_ | refine LW.op rfl (R.moveB rfl) ?_ | refine LW.op rfl (R.moveT rfl) ?_ | refine LW.op rfl (R.moveA rfl) ?_ | refine LW.op rfl (R.moveU rfl) ?_ | refine LW.op rfl (R.assignI rfl) ?_ | refine LW.op rfl (R.assignS rfl) ?_ | refine LW.op rfl (R.assignP rfl) ?_ | refine LW.op rfl (R.assignB rfl) ?_ | refine LW.op rfl (R.assignT rfl) ?_ | refine LW.op rfl (R.assignA rfl) ?_ | refine LW.op rfl (R.assignU rfl) ?_ | refine LW.op rfl (R.move) ?_ | refine LW.op rfl (R.assign) ?_ | refine LW.op rfl (R.buildL rfl rfl rfl rfl) ?_ | (refine LW.boxAgg S rfl rfl ?_; intro b u S) | (refine LW.box S rfl rfl rfl ?_; intro b u S)))
    | refine CW.seq ?_
    | refine CW.block ?_
    | refine CW.region ?_
    | refine CW.skip ?_
    | refine CW.exit ?_
    | refine CW.ret ?_
    | refine LW.nil ?_
    | refine thn_n ?_
    | refine thn_r ?_
    | refine thn_e ?_
    | refine inB_n ?_
    | refine inB_r ?_
    | refine inB_eq rfl ?_
    | refine inB_ne rfl ?_
    | refine CW.cond_true rfl rfl ?_
    | refine CW.cond_false rfl rfl ?_
    | refine CW.cond_true rfl (by assumption) ?_
    | refine CW.cond_false rfl (by assumption) ?_
    | (refine CW.cond rfl ?_ ?_ <;> (intro h; have h1 := h; (try simp only [decide_eq_true_eq, decide_eq_false_iff_not, Bool.not_eq_true', Bool.not_eq_false', Bool.and_eq_true, Bool.or_eq_true, Bool.and_eq_false_iff, Bool.or_eq_false_iff, Bool.not_true, Bool.not_false, Int.not_lt, Int.not_le, Bool.not_eq_eq_eq_not, reduceCtorEq] at h1); (try (exfalso; omega)))))
    all_goals (refine Fin.ret1 rfl (.inl rfl) ⟨_, rfl, ⟨_, _, l, rfl, (S.fresh _ (.head _)).resolve_right (by simp), S.own 0 _ rfl, h0, SlF.frame hs (S.snap _ (.head _)).2⟩, S.base.below⟩)
  · have hl2 : (l.take 2000).length = 2000 := by simp; omega
    repeat' (first
    | (refine LW.kOp ?_; (first | (refine LW.kGu ?_; (first | refine LW.guard_on rfl rfl ?_ | refine LW.guard_off rfl rfl rfl ?_ | refine LW.guard_on rfl (by assumption) ?_ | refine LW.guard_off rfl rfl (by assumption) ?_ | (refine LW.guard rfl rfl ?_ ?_ <;> (intro h; have h1 := h; (try simp only [decide_eq_true_eq, decide_eq_false_iff_not, Bool.not_eq_true', Bool.not_eq_false', Bool.and_eq_true, Bool.or_eq_true, Bool.and_eq_false_iff, Bool.or_eq_false_iff, Bool.not_true, Bool.not_false, Int.not_lt, Int.not_le, Bool.not_eq_eq_eq_not, reduceCtorEq] at h1); (try (exfalso; omega)))))) | (refine LW.op rfl (R.sliceHi rfl rfl (by omega)) ?_) | (refine LW.op rfl (R.build (cs := #[.slice a 2000 cap, .int .i64 0]) (by kernel_rfl)) ?_) | (refine LW.kBin ?_; (first | refine LW.op rfl (R.gtr rfl rfl) ?_)) | (refine LW.kCal ?_; (first | fail)) | (refine LW.kBui ?_; (first | refine LW.op rfl (R.lenSl rfl) ?_ | refine LW.op rfl (R.lenSt rfl) ?_)) | (refine LW.kLoad ?_; (first | fail)) | (refine LW.kStore ?_; (first | fail)) | (refine LW.kIx ?_; (first | fail)) | refine LW.op rfl (R.moveI rfl) ?_ | refine LW.op rfl (R.moveS rfl) ?_ | refine LW.op rfl (R.moveP rfl) ?_ | refine LW.op rfl (R.moveB rfl) ?_ | refine LW.op rfl (R.moveT rfl) ?_ | refine LW.op rfl (R.moveA rfl) ?_ | refine LW.op rfl (R.moveU rfl) ?_ | refine LW.op rfl (R.assignI rfl) ?_ | refine LW.op rfl (R.assignS rfl) ?_ | refine LW.op rfl (R.assignP rfl) ?_ | refine LW.op rfl (R.assignB rfl) ?_ | refine LW.op rfl (R.assignT rfl) ?_ | refine LW.op rfl (R.assignA rfl) ?_ | refine LW.op rfl (R.assignU rfl) ?_ | refine LW.op rfl (R.move) ?_ | refine LW.op rfl (R.assign) ?_ | refine LW.op rfl (R.buildL rfl rfl rfl rfl) ?_ | (refine LW.boxAgg S rfl rfl ?_; intro b u S) | (refine LW.box S rfl rfl rfl ?_; intro b u S)))
    | refine CW.seq ?_
    | refine CW.block ?_
    | refine CW.region ?_
    | refine CW.skip ?_
    | refine CW.exit ?_
    | refine CW.ret ?_
    | refine LW.nil ?_
    | refine thn_n ?_
    | refine thn_r ?_
    | refine thn_e ?_
    | refine inB_n ?_
    | refine inB_r ?_
    | refine inB_eq rfl ?_
    | refine inB_ne rfl ?_
    | refine CW.cond_true rfl rfl ?_
    | refine CW.cond_false rfl rfl ?_
    | refine CW.cond_true rfl (by assumption) ?_
    | refine CW.cond_false rfl (by assumption) ?_
    | (refine CW.cond rfl ?_ ?_ <;> (intro h; have h1 := h; (try simp only [decide_eq_true_eq, decide_eq_false_iff_not, Bool.not_eq_true', Bool.not_eq_false', Bool.and_eq_true, Bool.or_eq_true, Bool.and_eq_false_iff, Bool.or_eq_false_iff, Bool.not_true, Bool.not_false, Int.not_lt, Int.not_le, Bool.not_eq_eq_eq_not, reduceCtorEq] at h1); (try (exfalso; omega)))))
    all_goals (refine Fin.ret1 rfl (.inl rfl) ⟨_, rfl, ⟨_, _, l.take 2000, rfl, (S.fresh _ (.head _)).resolve_right (by simp), by rw [hl2]; exact S.own 0 _ rfl, by omega, SlF.frame (SlF.take hs 2000) (S.snap _ (.head _)).2⟩, S.base.below⟩)
theorem pick_any {T : TypeId} {ad : Option Addr} {l : List UInt8} {cap rb : Nat} {p : Int} (w : World) (n : Int) (hr : w.heap[rb]? = some (rdo T ad l.length cap p)) (hs : SlF 0 rb w ad l) (hl : l.length ≤ 2000) (h0 : 0 ≤ p) (hp : p + 1 ≤ 1000000000) (hn : -9223372036854775808 ≤ n ∧ n ≤ 9223372036854775807) :
    Calls Try.prog 31 #[.pointer (some ⟨rb, 0, none⟩), .int .i64 n] w (Dr rb T ad l.length cap p 1 w fun v w' => ∃ x : Int, v = .int .i64 x ∧ 0 ≤ x ∧ (x = 0 ∨ x < n)) := by
  have S := Now.init1 w hr
  unfold rdo at S
  refine calls Try.func31 rfl rfl ?_
  have fin : ∀ (Sn : List Snap) (σ : Nat → Value) (w' : World) (x : Int), Now ⟨w, [rb]⟩ Sn [(rb, rdo T ad l.length cap (p + 1))] w' → σ 4 = .int .i64 x → 0 ≤ x → (x = 0 ∨ x < n) →
      Fin Try.prog Try.f31 (Dr rb T ad l.length cap p 1 w fun v w' => ∃ x : Int, v = .int .i64 x ∧ 0 ≤ x ∧ (x = 0 ∨ x < n)) .ret σ w' := by
    intro Sn σ w' x S hx h1 h2
    exact Dr.mk rfl (.inl rfl) S 0 rfl ⟨x, hx, h1, h2⟩ (by omega) (by omega)
  repeat' (first
    | (refine LW.kOp ?_; (first | (refine LW.kGu ?_; (first | refine LW.guard_on rfl rfl ?_ | refine LW.guard_off rfl rfl rfl ?_ | refine LW.guard_on rfl (by assumption) ?_ | refine LW.guard_off rfl rfl (by assumption) ?_ | (refine LW.guard rfl rfl ?_ ?_ <;> (intro h; have h1 := h; (try simp only [decide_eq_true_eq, decide_eq_false_iff_not, Bool.not_eq_true', Bool.not_eq_false', Bool.and_eq_true, Bool.or_eq_true, Bool.and_eq_false_iff, Bool.or_eq_false_iff, Bool.not_true, Bool.not_false, Int.not_lt, Int.not_le, Bool.not_eq_eq_eq_not, reduceCtorEq] at h1); (try (exfalso; omega)))))) | (refine LW.u8 rfl rfl ?_; intro m hm hm') | (refine LW.xor rfl rfl rfl (by omega) (by omega) ?_; intro m hm hm') | (refine LW.remV rfl rfl rfl (by omega) ?_; intro r hr0 hr1 hr2) | (refine LW.kBin ?_; (first | refine LW.op rfl (R.lss rfl rfl) ?_ | refine LW.op rfl (R.eql rfl rfl) ?_ | refine LW.op rfl (R.eqlS rfl rfl) ?_ | refine LW.op rfl (R.lssS rfl rfl) ?_ | refine LW.op rfl (R.eqlNil rfl rfl) ?_ | refine LW.op rfl (R.add rfl rfl (by omega)) ?_ | refine LW.op rfl (R.sub rfl rfl (by omega)) ?_ | refine LW.op rfl (R.mul rfl rfl (by omega)) ?_ | refine LW.op rfl (R.quo rfl rfl (by omega)) ?_ | refine LW.op rfl (R.rem rfl rfl (by omega)) ?_)) | (refine LW.kCal ?_; (first | fail)) | (refine LW.kBui ?_; (first | refine LW.op rfl (R.lenSl rfl) ?_ | refine LW.op rfl (R.lenSt rfl) ?_)) | (refine LW.kLoad ?_; (first | refine LW.op rfl (R.loadOwn S 0 rfl rfl rfl) ?_ | refine LW.op rfl (R.loadOwn S 1 rfl rfl rfl) ?_ | refine LW.op rfl (R.loadOwn S 2 rfl rfl rfl) ?_ | refine LW.op rfl (R.loadOwn S 3 rfl rfl rfl) ?_ | refine LW.op rfl (R.loadOwn S 4 rfl rfl rfl) ?_ | refine LW.op rfl (R.loadOwn S 5 rfl rfl rfl) ?_ | refine LW.op rfl (R.loadRow S 0 rfl rfl rfl) ?_ | refine LW.op rfl (R.loadRow S 1 rfl rfl rfl) ?_ | refine LW.op rfl (R.loadRow S 2 rfl rfl rfl) ?_ | refine LW.op rfl (R.loadRow S 3 rfl rfl rfl) ?_ | refine LW.op rfl (R.loadRow S 4 rfl rfl rfl) ?_ | refine LW.op rfl (R.loadRow S 5 rfl rfl rfl) ?_ | refine LW.op rfl (R.loadEl1 S rfl (by assumption) (by repeat (first | exact .head _ | refine .tail _ ?_)) rfl (by omega) rfl) ?_ | refine LW.op rfl (R.loadEl S rfl (by assumption) (by repeat (first | exact .head _ | refine .tail _ ?_)) rfl (by omega) rfl) ?_ | refine LW.op rfl (R.loadFld S rfl (by assumption) (by repeat (first | exact .head _ | refine .tail _ ?_)) rfl (by omega) rfl) ?_)) | (refine LW.kStore ?_; (first | (refine LW.store1I S 0 rfl rfl rfl (by first | decide | (simp; done) | (simp; omega)) ?_; intro u S) | (refine LW.store1B S 0 rfl rfl rfl (by first | decide | (simp; done) | (simp; omega)) ?_; intro u S) | (refine LW.store1T S 0 rfl rfl rfl (by first | decide | (simp; done) | (simp; omega)) ?_; intro u S) | (refine LW.store1S S 0 rfl rfl rfl (by first | decide | (simp; done) | (simp; omega)) ?_; intro u S) | (refine LW.store1I S 1 rfl rfl rfl (by first | decide | (simp; done) | (simp; omega)) ?_; intro u S) | (refine LW.store1B S 1 rfl rfl rfl (by first | decide | (simp; done) | (simp; omega)) ?_; intro u S) | (refine LW.store1T S 1 rfl rfl rfl (by first | decide | (simp; done) | (simp; omega)) ?_; intro u S) | (refine LW.store1S S 1 rfl rfl rfl (by first | decide | (simp; done) | (simp; omega)) ?_; intro u S) | (refine LW.store1I S 2 rfl rfl rfl (by first | decide | (simp; done) | (simp; omega)) ?_; intro u S) | (refine LW.store1B S 2 rfl rfl rfl (by first | decide | (simp; done) | (simp; omega)) ?_; intro u S) | (refine LW.store1T S 2 rfl rfl rfl (by first | decide | (simp; done) | (simp; omega)) ?_; intro u S) | (refine LW.store1S S 2 rfl rfl rfl (by first | decide | (simp; done) | (simp; omega)) ?_; intro u S) | (refine LW.store1I S 3 rfl rfl rfl (by first | decide | (simp; done) | (simp; omega)) ?_; intro u S) | (refine LW.store1B S 3 rfl rfl rfl (by first | decide | (simp; done) | (simp; omega)) ?_; intro u S) | (refine LW.store1T S 3 rfl rfl rfl (by first | decide | (simp; done) | (simp; omega)) ?_; intro u S) | (refine LW.store1S S 3 rfl rfl rfl (by first | decide | (simp; done) | (simp; omega)) ?_; intro u S) | (refine LW.store1I S 4 rfl rfl rfl (by first | decide | (simp; done) | (simp; omega)) ?_; intro u S) | (refine LW.store1B S 4 rfl rfl rfl (by first | decide | (simp; done) | (simp; omega)) ?_; intro u S) | (refine LW.store1T S 4 rfl rfl rfl (by first | decide | (simp; done) | (simp; omega)) ?_; intro u S) | (refine LW.store1S S 4 rfl rfl rfl (by first | decide | (simp; done) | (simp; omega)) ?_; intro u S) | (refine LW.store1I S 5 rfl rfl rfl (by first | decide | (simp; done) | (simp; omega)) ?_; intro u S) | (refine LW.store1B S 5 rfl rfl rfl (by first | decide | (simp; done) | (simp; omega)) ?_; intro u S) | (refine LW.store1T S 5 rfl rfl rfl (by first | decide | (simp; done) | (simp; omega)) ?_; intro u S) | (refine LW.store1S S 5 rfl rfl rfl (by first | decide | (simp; done) | (simp; omega)) ?_; intro u S) | (refine LW.storeRowL S 0 rfl rfl rfl rfl rfl rfl ?_; intro u S) | (refine LW.storeRowL S 1 rfl rfl rfl rfl rfl rfl ?_; intro u S) | (refine LW.storeRowL S 2 rfl rfl rfl rfl rfl rfl ?_; intro u S) | (refine LW.storeRowL S 3 rfl rfl rfl rfl rfl rfl ?_; intro u S) | (refine LW.storeRowL S 4 rfl rfl rfl rfl rfl rfl ?_; intro u S) | (refine LW.storeRowL S 5 rfl rfl rfl rfl rfl rfl ?_; intro u S))) | (refine LW.kIx ?_; (first | refine LW.op rfl (R.ixEaN rfl rfl (by assumption) (by omega)) ?_ | refine LW.op rfl (R.ixEa rfl rfl (by assumption) (by omega)) ?_ | refine LW.op rfl (R.ixOwn rfl rfl (by omega)) ?_ | refine LW.op rfl (R.ixArr rfl rfl (by omega)) ?_)) | refine LW.op rfl (R.moveI rfl) ?_ | refine LW.op rfl (R.moveS rfl) ?_ | refine LW.op rfl (R.moveP rfl) ?_ | refine LW.op rfl (R.moveB rfl) ?_ | refine LW.op rfl (R.moveT rfl) ?_ | refine LW.op rfl (R.moveA rfl) ?_ | refine LW.op rfl (R.moveU rfl) ?_ | refine LW.op rfl (R.assignI rfl) ?_ | refine LW.op rfl (R.assignS rfl) ?_ | refine LW.op rfl (R.assignP rfl) ?_ | refine LW.op rfl (R.assignB rfl) ?_ | refine LW.op rfl (R.assignT rfl) ?_ | refine LW.op rfl (R.assignA rfl) ?_ | refine LW.op rfl (R.assignU rfl) ?_ | refine LW.op rfl (R.move) ?_ | refine LW.op rfl (R.assign) ?_ | refine LW.op rfl (R.pick_t rfl rfl) ?_ | refine LW.op rfl (R.pick_f rfl rfl) ?_ | refine LW.op rfl (R.pick_t rfl (by assumption)) ?_ | refine LW.op rfl (R.pick_f rfl (by assumption)) ?_ | refine LW.op rfl (R.nilCheck rfl) ?_ | refine LW.op rfl (R.fieldEa rfl) ?_ | refine LW.op rfl (R.fieldOwn rfl) ?_ | refine LW.op rfl (R.ixStr rfl rfl (by omega)) ?_))
    | refine CW.seq ?_
    | refine CW.block ?_
    | refine CW.region ?_
    | refine CW.skip ?_
    | refine CW.exit ?_
    | refine CW.ret ?_
    | refine LW.nil ?_
    | refine thn_n ?_
    | refine thn_r ?_
    | refine thn_e ?_
    | refine inB_n ?_
    | refine inB_r ?_
    | refine inB_eq rfl ?_
    | refine inB_ne rfl ?_
    | refine CW.cond_true rfl rfl ?_
    | refine CW.cond_false rfl rfl ?_
    | refine CW.cond_true rfl (by assumption) ?_
    | refine CW.cond_false rfl (by assumption) ?_
    | (refine CW.cond rfl ?_ ?_ <;> (intro h; have h1 := h; (try simp only [decide_eq_true_eq, decide_eq_false_iff_not, Bool.not_eq_true', Bool.not_eq_false', Bool.and_eq_true, Bool.or_eq_true, Bool.and_eq_false_iff, Bool.or_eq_false_iff, Bool.not_true, Bool.not_false, Int.not_lt, Int.not_le, Bool.not_eq_eq_eq_not, reduceCtorEq] at h1); (try (exfalso; omega))))
    | (refine CW.quiet S rfl rfl (by kernel_rfl) ?_)
    | (refine CW.tail S rfl rfl (by kernel_rfl) ?_; intro u S)
    | (refine TW.kOp ?_; (first | refine TW.op rfl (R.lss rfl rfl) ?_ | refine TW.op rfl (R.eql rfl rfl) ?_ | refine TW.op rfl (R.eqlS rfl rfl) ?_ | refine TW.op rfl (R.lssS rfl rfl) ?_ | refine TW.op rfl (R.eqlNil rfl rfl) ?_ | refine TW.op rfl (R.add rfl rfl (by omega)) ?_ | refine TW.op rfl (R.sub rfl rfl (by omega)) ?_ | refine TW.op rfl (R.mul rfl rfl (by omega)) ?_ | refine TW.op rfl (R.quo rfl rfl (by omega)) ?_ | refine TW.op rfl (R.rem rfl rfl (by omega)) ?_ | refine TW.op rfl (R.lenSl rfl) ?_ | refine TW.op rfl (R.lenSt rfl) ?_ | refine TW.op rfl (R.moveI rfl) ?_ | refine TW.op rfl (R.moveS rfl) ?_ | refine TW.op rfl (R.moveP rfl) ?_ | refine TW.op rfl (R.moveB rfl) ?_ | refine TW.op rfl (R.moveT rfl) ?_ | refine TW.op rfl (R.moveA rfl) ?_ | refine TW.op rfl (R.moveU rfl) ?_ | refine TW.op rfl (R.assignI rfl) ?_ | refine TW.op rfl (R.assignS rfl) ?_ | refine TW.op rfl (R.assignP rfl) ?_ | refine TW.op rfl (R.assignB rfl) ?_ | refine TW.op rfl (R.assignT rfl) ?_ | refine TW.op rfl (R.assignA rfl) ?_ | refine TW.op rfl (R.assignU rfl) ?_ | refine TW.op rfl (R.move) ?_ | refine TW.op rfl (R.assign) ?_ | refine TW.op rfl (R.pick_t rfl rfl) ?_ | refine TW.op rfl (R.pick_f rfl rfl) ?_ | refine TW.op rfl (R.pick_t rfl (by assumption)) ?_ | refine TW.op rfl (R.pick_f rfl (by assumption)) ?_ | refine TW.op rfl (R.nilCheck rfl) ?_ | refine TW.op rfl (R.fieldEa rfl) ?_ | refine TW.op rfl (R.fieldOwn rfl) ?_ | refine TW.op rfl (R.ixStr rfl rfl (by omega)) ?_ | refine TW.op rfl (R.ixEaN rfl rfl (by assumption) (by omega)) ?_ | refine TW.op rfl (R.ixEa rfl rfl (by assumption) (by omega)) ?_ | refine TW.op rfl (R.ixOwn rfl rfl (by omega)) ?_ | refine TW.op rfl (R.ixArr rfl rfl (by omega)) ?_ | refine TW.op rfl (R.loadOwn S 0 rfl rfl rfl) ?_ | refine TW.op rfl (R.loadOwn S 1 rfl rfl rfl) ?_ | refine TW.op rfl (R.loadOwn S 2 rfl rfl rfl) ?_ | refine TW.op rfl (R.loadOwn S 3 rfl rfl rfl) ?_ | refine TW.op rfl (R.loadOwn S 4 rfl rfl rfl) ?_ | refine TW.op rfl (R.loadOwn S 5 rfl rfl rfl) ?_ | refine TW.op rfl (R.loadRow S 0 rfl rfl rfl) ?_ | refine TW.op rfl (R.loadRow S 1 rfl rfl rfl) ?_ | refine TW.op rfl (R.loadRow S 2 rfl rfl rfl) ?_ | refine TW.op rfl (R.loadRow S 3 rfl rfl rfl) ?_ | refine TW.op rfl (R.loadRow S 4 rfl rfl rfl) ?_ | refine TW.op rfl (R.loadRow S 5 rfl rfl rfl) ?_ | refine TW.op rfl (R.loadEl1 S rfl (by assumption) (by repeat (first | exact .head _ | refine .tail _ ?_)) rfl (by omega) rfl) ?_ | refine TW.op rfl (R.loadEl S rfl (by assumption) (by repeat (first | exact .head _ | refine .tail _ ?_)) rfl (by omega) rfl) ?_ | refine TW.op rfl (R.loadFld S rfl (by assumption) (by repeat (first | exact .head _ | refine .tail _ ?_)) rfl (by omega) rfl) ?_))
    | refine TW.nil ?_
    | (refine QW.kOp ?_; (first | refine QW.guard_on rfl rfl rfl ?_ | refine QW.guard_off rfl rfl rfl ?_ | refine QW.guard_on rfl rfl (by assumption) ?_ | refine QW.guard_off rfl rfl (by assumption) ?_ | (refine QW.guard rfl rfl ?_ ?_ <;> (intro h; have h1 := h; (try simp only [decide_eq_true_eq, decide_eq_false_iff_not, Bool.not_eq_true', Bool.not_eq_false', Bool.and_eq_true, Bool.or_eq_true, Bool.and_eq_false_iff, Bool.or_eq_false_iff, Bool.not_true, Bool.not_false, Int.not_lt, Int.not_le, Bool.not_eq_eq_eq_not, reduceCtorEq] at h1); (try (exfalso; omega)))) | (refine QW.u8 rfl rfl ?_; intro m hm hm') | (refine QW.remV rfl rfl rfl (by omega) ?_; intro r hr0 hr1 hr2) | (refine QW.quoV rfl rfl rfl (by omega) ?_; intro r hr0 hr1 hr2) | refine QW.op rfl (fun _ S => R.lss rfl rfl) ?_ | refine QW.op rfl (fun _ S => R.eql rfl rfl) ?_ | refine QW.op rfl (fun _ S => R.eqlS rfl rfl) ?_ | refine QW.op rfl (fun _ S => R.lssS rfl rfl) ?_ | refine QW.op rfl (fun _ S => R.eqlNil rfl rfl) ?_ | refine QW.op rfl (fun _ S => R.add rfl rfl (by omega)) ?_ | refine QW.op rfl (fun _ S => R.sub rfl rfl (by omega)) ?_ | refine QW.op rfl (fun _ S => R.mul rfl rfl (by omega)) ?_ | refine QW.op rfl (fun _ S => R.quo rfl rfl (by omega)) ?_ | refine QW.op rfl (fun _ S => R.rem rfl rfl (by omega)) ?_ | refine QW.op rfl (fun _ S => R.lenSl rfl) ?_ | refine QW.op rfl (fun _ S => R.lenSt rfl) ?_ | refine QW.op rfl (fun _ S => R.moveI rfl) ?_ | refine QW.op rfl (fun _ S => R.moveS rfl) ?_ | refine QW.op rfl (fun _ S => R.moveP rfl) ?_ | refine QW.op rfl (fun _ S => R.moveB rfl) ?_ | refine QW.op rfl (fun _ S => R.moveT rfl) ?_ | refine QW.op rfl (fun _ S => R.moveA rfl) ?_ | refine QW.op rfl (fun _ S => R.moveU rfl) ?_ | refine QW.op rfl (fun _ S => R.assignI rfl) ?_ | refine QW.op rfl (fun _ S => R.assignS rfl) ?_ | refine QW.op rfl (fun _ S => R.assignP rfl) ?_ | refine QW.op rfl (fun _ S => R.assignB rfl) ?_ | refine QW.op rfl (fun _ S => R.assignT rfl) ?_ | refine QW.op rfl (fun _ S => R.assignA rfl) ?_ | refine QW.op rfl (fun _ S => R.assignU rfl) ?_ | refine QW.op rfl (fun _ S => R.move) ?_ | refine QW.op rfl (fun _ S => R.assign) ?_ | refine QW.op rfl (fun _ S => R.pick_t rfl rfl) ?_ | refine QW.op rfl (fun _ S => R.pick_f rfl rfl) ?_ | refine QW.op rfl (fun _ S => R.pick_t rfl (by assumption)) ?_ | refine QW.op rfl (fun _ S => R.pick_f rfl (by assumption)) ?_ | refine QW.op rfl (fun _ S => R.nilCheck rfl) ?_ | refine QW.op rfl (fun _ S => R.fieldEa rfl) ?_ | refine QW.op rfl (fun _ S => R.fieldOwn rfl) ?_ | refine QW.op rfl (fun _ S => R.ixStr rfl rfl (by omega)) ?_ | refine QW.op rfl (fun _ S => R.ixEaN rfl rfl (by assumption) (by omega)) ?_ | refine QW.op rfl (fun _ S => R.ixEa rfl rfl (by assumption) (by omega)) ?_ | refine QW.op rfl (fun _ S => R.ixOwn rfl rfl (by omega)) ?_ | refine QW.op rfl (fun _ S => R.ixArr rfl rfl (by omega)) ?_ | refine QW.op rfl (fun _ S => R.loadOwn S 0 rfl rfl rfl) ?_ | refine QW.op rfl (fun _ S => R.loadOwn S 1 rfl rfl rfl) ?_ | refine QW.op rfl (fun _ S => R.loadOwn S 2 rfl rfl rfl) ?_ | refine QW.op rfl (fun _ S => R.loadOwn S 3 rfl rfl rfl) ?_ | refine QW.op rfl (fun _ S => R.loadOwn S 4 rfl rfl rfl) ?_ | refine QW.op rfl (fun _ S => R.loadOwn S 5 rfl rfl rfl) ?_ | refine QW.op rfl (fun _ S => R.loadRow S 0 rfl rfl rfl) ?_ | refine QW.op rfl (fun _ S => R.loadRow S 1 rfl rfl rfl) ?_ | refine QW.op rfl (fun _ S => R.loadRow S 2 rfl rfl rfl) ?_ | refine QW.op rfl (fun _ S => R.loadRow S 3 rfl rfl rfl) ?_ | refine QW.op rfl (fun _ S => R.loadRow S 4 rfl rfl rfl) ?_ | refine QW.op rfl (fun _ S => R.loadRow S 5 rfl rfl rfl) ?_ | refine QW.op rfl (fun _ S => R.loadEl1 S rfl (by assumption) (by repeat (first | exact .head _ | refine .tail _ ?_)) rfl (by omega) rfl) ?_ | refine QW.op rfl (fun _ S => R.loadEl S rfl (by assumption) (by repeat (first | exact .head _ | refine .tail _ ?_)) rfl (by omega) rfl) ?_ | refine QW.op rfl (fun _ S => R.loadFld S rfl (by assumption) (by repeat (first | exact .head _ | refine .tail _ ?_)) rfl (by omega) rfl) ?_))
    | (refine QW.nil ?_; intro u S))
  all_goals (refine fin _ _ _ _ S rfl (by omega) (by omega))
theorem one_any {T : TypeId} {ad : Option Addr} {l : List UInt8} {cap rb : Nat} {p : Int} (w : World) (a : Option Addr) (c2 : Nat) (xs : List Int) (hr : w.heap[rb]? = some (rdo T ad l.length cap p)) (hs : SlF 0 rb w ad l) (hl : l.length ≤ 2000) (h0 : 0 ≤ p) (hp : p + 1 ≤ 1000000000) (hx : SlX rb w a xs) (hn : 0 < xs.length) (hn2 : xs.length ≤ 1000000) :
    Calls Try.prog 28 #[.pointer (some ⟨rb, 0, none⟩), .slice a xs.length c2] w (Dr rb T ad l.length cap p 1 w fun v w' => ∃ x : Int, v = .int .i64 x ∧ x ∈ xs) := by
  have S := Now.init1 w hr
  refine calls Try.func28 rfl rfl ?_
  rcases hx with hx | hx
  all_goals
    repeat' (first
    | (refine LW.kOp ?_; (first | (refine LW.kGu ?_; (first | refine LW.guard_on rfl rfl ?_ | refine LW.guard_off rfl rfl rfl ?_ | refine LW.guard_on rfl (by assumption) ?_ | refine LW.guard_off rfl rfl (by assumption) ?_ | (refine LW.guard rfl rfl ?_ ?_ <;> (intro h; have h1 := h; (try simp only [decide_eq_true_eq, decide_eq_false_iff_not, Bool.not_eq_true', Bool.not_eq_false', Bool.and_eq_true, Bool.or_eq_true, Bool.and_eq_false_iff, Bool.or_eq_false_iff, Bool.not_true, Bool.not_false, Int.not_lt, Int.not_le, Bool.not_eq_eq_eq_not, reduceCtorEq] at h1); (try (exfalso; omega)))))) | (refine LW.kBin ?_; (first | fail)) | (refine LW.kCal ?_; (first | (refine LW.callD S 0 rfl Try.call31 rfl rfl (pick_any _ _ (S.own 0 _ rfl) (SlF.upto S (by repeat (first | exact .head _ | refine .tail _ ?_)) hs (by omega)) hl (by omega) (by omega) (by omega)) ?_; intro v u p hR hp1 hp2 hB S))) | (refine LW.kBui ?_; (first | refine LW.op rfl (R.lenSl rfl) ?_ | refine LW.op rfl (R.lenSt rfl) ?_)) | (refine LW.kLoad ?_; (first | refine LW.op rfl (R.loadOwn S 0 rfl rfl rfl) ?_ | refine LW.op rfl (R.loadOwn S 1 rfl rfl rfl) ?_ | refine LW.op rfl (R.loadOwn S 2 rfl rfl rfl) ?_ | refine LW.op rfl (R.loadOwn S 3 rfl rfl rfl) ?_ | refine LW.op rfl (R.loadOwn S 4 rfl rfl rfl) ?_ | refine LW.op rfl (R.loadOwn S 5 rfl rfl rfl) ?_ | refine LW.op rfl (R.loadRow S 0 rfl rfl rfl) ?_ | refine LW.op rfl (R.loadRow S 1 rfl rfl rfl) ?_ | refine LW.op rfl (R.loadRow S 2 rfl rfl rfl) ?_ | refine LW.op rfl (R.loadRow S 3 rfl rfl rfl) ?_ | refine LW.op rfl (R.loadRow S 4 rfl rfl rfl) ?_ | refine LW.op rfl (R.loadRow S 5 rfl rfl rfl) ?_ | refine LW.op rfl (R.loadEl1 S rfl (by assumption) (by repeat (first | exact .head _ | refine .tail _ ?_)) rfl (by omega) rfl) ?_ | refine LW.op rfl (R.loadEl S rfl (by assumption) (by repeat (first | exact .head _ | refine .tail _ ?_)) rfl (by omega) rfl) ?_ | refine LW.op rfl (R.loadFld S rfl (by assumption) (by repeat (first | exact .head _ | refine .tail _ ?_)) rfl (by omega) rfl) ?_)) | (refine LW.kStore ?_; (first | fail)) | (refine LW.kIx ?_; (first | refine LW.op rfl (R.ixEaN rfl rfl (by assumption) (by omega)) ?_ | refine LW.op rfl (R.ixEa rfl rfl (by assumption) (by omega)) ?_ | refine LW.op rfl (R.ixOwn rfl rfl (by omega)) ?_ | refine LW.op rfl (R.ixArr rfl rfl (by omega)) ?_)) | refine LW.op rfl (R.moveI rfl) ?_ | refine LW.op rfl (R.moveS rfl) ?_ | refine LW.op rfl (R.moveP rfl) ?_ | refine LW.op rfl (R.moveB rfl) ?_ | refine LW.op rfl (R.moveT rfl) ?_ | refine LW.op rfl (R.moveA rfl) ?_ | refine LW.op rfl (R.moveU rfl) ?_ | refine LW.op rfl (R.assignI rfl) ?_ | refine LW.op rfl (R.assignS rfl) ?_ | refine LW.op rfl (R.assignP rfl) ?_ | refine LW.op rfl (R.assignB rfl) ?_ | refine LW.op rfl (R.assignT rfl) ?_ | refine LW.op rfl (R.assignA rfl) ?_ | refine LW.op rfl (R.assignU rfl) ?_ | refine LW.op rfl (R.move) ?_ | refine LW.op rfl (R.assign) ?_ | refine LW.op rfl (R.ixStr rfl rfl (by omega)) ?_))
    | refine CW.seq ?_
    | refine CW.block ?_
    | refine CW.region ?_
    | refine CW.skip ?_
    | refine CW.exit ?_
    | refine CW.ret ?_
    | refine LW.nil ?_
    | refine thn_n ?_
    | refine thn_r ?_
    | refine thn_e ?_
    | refine inB_n ?_
    | refine inB_r ?_
    | refine inB_eq rfl ?_
    | refine inB_ne rfl ?_
    | refine CW.cond_true rfl rfl ?_
    | refine CW.cond_false rfl rfl ?_
    | refine CW.cond_true rfl (by assumption) ?_
    | refine CW.cond_false rfl (by assumption) ?_
    | (refine CW.cond rfl ?_ ?_ <;> (intro h; have h1 := h; (try simp only [decide_eq_true_eq, decide_eq_false_iff_not, Bool.not_eq_true', Bool.not_eq_false', Bool.and_eq_true, Bool.or_eq_true, Bool.and_eq_false_iff, Bool.or_eq_false_iff, Bool.not_true, Bool.not_false, Int.not_lt, Int.not_le, Bool.not_eq_eq_eq_not, reduceCtorEq] at h1); (try (exfalso; omega)))))
    all_goals (obtain ⟨x, rfl, h1, h2⟩ := hR)
    all_goals repeat' (first
    | (refine LW.kOp ?_; (first | (refine LW.kGu ?_; (first | refine LW.guard_on rfl rfl ?_ | refine LW.guard_off rfl rfl rfl ?_ | refine LW.guard_on rfl (by assumption) ?_ | refine LW.guard_off rfl rfl (by assumption) ?_ | (refine LW.guard rfl rfl ?_ ?_ <;> (intro h; have h1 := h; (try simp only [decide_eq_true_eq, decide_eq_false_iff_not, Bool.not_eq_true', Bool.not_eq_false', Bool.and_eq_true, Bool.or_eq_true, Bool.and_eq_false_iff, Bool.or_eq_false_iff, Bool.not_true, Bool.not_false, Int.not_lt, Int.not_le, Bool.not_eq_eq_eq_not, reduceCtorEq] at h1); (try (exfalso; omega)))))) | (refine LW.kBin ?_; (first | fail)) | (refine LW.kCal ?_; (first | fail)) | (refine LW.kBui ?_; (first | refine LW.op rfl (R.lenSl rfl) ?_ | refine LW.op rfl (R.lenSt rfl) ?_)) | (refine LW.kLoad ?_; (first | refine LW.op rfl (R.loadOwn S 0 rfl rfl rfl) ?_ | refine LW.op rfl (R.loadOwn S 1 rfl rfl rfl) ?_ | refine LW.op rfl (R.loadOwn S 2 rfl rfl rfl) ?_ | refine LW.op rfl (R.loadOwn S 3 rfl rfl rfl) ?_ | refine LW.op rfl (R.loadOwn S 4 rfl rfl rfl) ?_ | refine LW.op rfl (R.loadOwn S 5 rfl rfl rfl) ?_ | refine LW.op rfl (R.loadRow S 0 rfl rfl rfl) ?_ | refine LW.op rfl (R.loadRow S 1 rfl rfl rfl) ?_ | refine LW.op rfl (R.loadRow S 2 rfl rfl rfl) ?_ | refine LW.op rfl (R.loadRow S 3 rfl rfl rfl) ?_ | refine LW.op rfl (R.loadRow S 4 rfl rfl rfl) ?_ | refine LW.op rfl (R.loadRow S 5 rfl rfl rfl) ?_ | refine LW.op rfl (R.loadEl1 S rfl (by assumption) (by repeat (first | exact .head _ | refine .tail _ ?_)) rfl (by omega) rfl) ?_ | refine LW.op rfl (R.loadEl S rfl (by assumption) (by repeat (first | exact .head _ | refine .tail _ ?_)) rfl (by omega) rfl) ?_ | refine LW.op rfl (R.loadFld S rfl (by assumption) (by repeat (first | exact .head _ | refine .tail _ ?_)) rfl (by omega) rfl) ?_)) | (refine LW.kStore ?_; (first | fail)) | (refine LW.kIx ?_; (first | refine LW.op rfl (R.ixEaN rfl rfl (by assumption) (by omega)) ?_ | refine LW.op rfl (R.ixEa rfl rfl (by assumption) (by omega)) ?_ | refine LW.op rfl (R.ixOwn rfl rfl (by omega)) ?_ | refine LW.op rfl (R.ixArr rfl rfl (by omega)) ?_)) | refine LW.op rfl (R.moveI rfl) ?_ | refine LW.op rfl (R.moveS rfl) ?_ | refine LW.op rfl (R.moveP rfl) ?_ | refine LW.op rfl (R.moveB rfl) ?_ | refine LW.op rfl (R.moveT rfl) ?_ | refine LW.op rfl (R.moveA rfl) ?_ | refine LW.op rfl (R.moveU rfl) ?_ | refine LW.op rfl (R.assignI rfl) ?_ | refine LW.op rfl (R.assignS rfl) ?_ | refine LW.op rfl (R.assignP rfl) ?_ | refine LW.op rfl (R.assignB rfl) ?_ | refine LW.op rfl (R.assignT rfl) ?_ | refine LW.op rfl (R.assignA rfl) ?_ | refine LW.op rfl (R.assignU rfl) ?_ | refine LW.op rfl (R.move) ?_ | refine LW.op rfl (R.assign) ?_ | refine LW.op rfl (R.ixStr rfl rfl (by omega)) ?_))
    | refine CW.seq ?_
    | refine CW.block ?_
    | refine CW.region ?_
    | refine CW.skip ?_
    | refine CW.exit ?_
    | refine CW.ret ?_
    | refine LW.nil ?_
    | refine thn_n ?_
    | refine thn_r ?_
    | refine thn_e ?_
    | refine inB_n ?_
    | refine inB_r ?_
    | refine inB_eq rfl ?_
    | refine inB_ne rfl ?_
    | refine CW.cond_true rfl rfl ?_
    | refine CW.cond_false rfl rfl ?_
    | refine CW.cond_true rfl (by assumption) ?_
    | refine CW.cond_false rfl (by assumption) ?_
    | (refine CW.cond rfl ?_ ?_ <;> (intro h; have h1 := h; (try simp only [decide_eq_true_eq, decide_eq_false_iff_not, Bool.not_eq_true', Bool.not_eq_false', Bool.and_eq_true, Bool.or_eq_true, Bool.and_eq_false_iff, Bool.or_eq_false_iff, Bool.not_true, Bool.not_false, Int.not_lt, Int.not_le, Bool.not_eq_eq_eq_not, reduceCtorEq] at h1); (try (exfalso; omega)))))
    all_goals (refine Dr.mk rfl (.inl rfl) S 0 rfl ⟨_, rfl, List.getElem_mem _⟩ (by omega) (by omega))
end V
end Go.Proofs.Ytpkkpinhjedjjaa
