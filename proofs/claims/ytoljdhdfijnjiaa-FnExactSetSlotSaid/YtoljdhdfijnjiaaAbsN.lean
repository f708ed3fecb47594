/- Function values: how they are made and called. No condition. -/
import Derived.Test.YtoljdhdfijnjiaaAbsM
namespace Go.Proofs.Ytoljdhdfijnjiaa
namespace V
set_option linter.unusedVariables false
set_option linter.unusedSimpArgs false
open Go.RowKit

section
variable {P : Program} {n : Nat} {s : Bs} {Q : APost} {σ : Fr} {O : Obs} {ops : Array Oper} {rest : List Oper} {d : Nat} {ty : TypeId} {pos : String} {after : Array Edge} {xs : List Nat} {K : Fr → Obs → List Nat → Prop}
theorem Rd.makeFunc {g : Go.Fn} {c : Array Operand} {cs : List AV} (hc : c.toList.map (evA σ) = cs) : Rd P s O σ (.makeFunc g #[] c) ty (.fn g cs) := by
  intro M U w σc S hσ
  subst hc
  refine ⟨.func g #[] (c.toList.map (ev σc)).toArray, .fn g _ _ (by simp) (fun j a y h1 h2 => ?_), fun w' _ => R.makeFunc (by apply Array.ext'; simp)⟩
  simp only [List.getElem?_map] at h1 h2
  cases hq : c.toList[j]? with
  | none => rw [hq] at h1; cases h1
  | some q => rw [hq] at h1 h2; simp at h1 h2; subst h1; subst h2; exact evA_rel hσ q
/-- A call by a contract, of values as they are. -/
theorem call_coreV (z : Bool) (κ : List Nat) {f : FuncId} {O0 : List Ob} {args ds : List AV} {R : AV → List Ob → Prop} {av : List Value} (hc : FnX P f O0 args R)
    (hs : SbL z O (κ.map some) args ds) (hnd : nodupB (κ.map some) = true) (hb : BlkL z O (κ.map some) (κ.map some) O0)
    (hfl : z = true → ∀ r bl, R r bl → r.flat ∧ ∀ ob, ob ∈ bl → ob.flat) {M : Mp} {U : Nat → Prop} {w : World} (S : Mem s M O U w) (hl : av.length = ds.length) (hav : ∀ (j : Nat) c y, ds[j]? = some c → av[j]? = some y → Rel w U M c y) :
    Calls P f av.toArray w fun e w' => ∃ v r bl M2 U2 X, e = .returned v ∧ R r bl ∧ Mem s M2 (setK (O ++ (bl.drop κ.length).map (fun o => some (o.ren (thet κ O.length)))) κ (bl.map (·.ren (thet κ O.length)))) U2 w' ∧ (∀ c y, Rel w U M c y → Rel w' U2 M2 c y) ∧ Rel w' U2 M2 (r.ren (thet κ O.length)) v ∧
      (∀ (b : Nat) x, M[b]? = some x → M2[b]? = some x) ∧ BelowX X w w' ∧ ∀ B, B ∈ X → ∃ (i b : Nat) (L : Loc), κ[i]? = some b ∧ M[b]? = some (.ad L) ∧ L.blk = B := by
  have hsp := hb.spec
  have hκ : ∀ (i b : Nat), κ[i]? = some b → b < O.length := by
    intro i b h
    have hi : i < O0.length := by rw [hsp.1]; simp; exact (List.getElem?_eq_some_iff.1 h).1
    obtain ⟨ob0, h1, _⟩ := (hsp.2 i _ (some b) (List.getElem?_eq_getElem hi) (by simp [h])).2 b rfl
    exact (List.getElem?_eq_some_iff.1 h1).1
  have harg : ArgsRel w (frU z M (κ.map some) U) (mpR M (κ.map some)) args av := hs.rels S hl hav
  have S0 : Mem ⟨w, mpR M (κ.map some), frU z M (κ.map some) U⟩ (mpR M (κ.map some)) (O0.map some) (frU z M (κ.map some) U) w :=
    ⟨BelowX.refl _ _, fun b x h => h, by simp [mpR, hsp.1], fun B hB => S.lt B (inM_R hB), fun B hB => .inr (by
      obtain ⟨b, L, h1, rfl⟩ := hB; exact Bs.inX (s := ⟨w, mpR M (κ.map some), frU z M (κ.map some) U⟩) h1), mpR_one S hnd, hb.own S, fun B hB => ⟨frU_fz S hB, .inl hB⟩⟩
  refine (hc ⟨w, mpR M (κ.map some), frU z M (κ.map some) U⟩ _ _ S0 (fun B hB => hB) harg).mono ?_
  rintro e w' ⟨v, r, bl, M', U', rfl, hR, hrel, S'⟩
  obtain ⟨M2, U2, S2, h1, h2, h3, h4⟩ := S.called hnd hκ S' (fun e => (hfl e r bl hR).2)
  exact ⟨v, r, bl, M2, U2, _, rfl, hR, S2, h1, h2 _ _ hrel (fun e => (hfl e r bl hR).1), h3, S'.base, h4⟩
theorem run_vcall {σc : Nat → Value} {w : World} {g : FuncId} {x : Operand} {ys : List Value} {as' : List Operand} {ats : Array TypeId} {dd : Option Nat} {gu : Option (Nat × Bool)} (hr : ∀ args w, (callFunc g args).run P w = .ok (.enter g args) w) (hx : ev σc x = .func (.func g) #[] ys.toArray) :
    (execOp (ev σc) ⟨dd, .call { callee := .value x, args := as'.toArray, argTypes := ats }, ty, pos, after, gu⟩).run P w = .ok (.enter g (as'.map (ev σc) ++ ys).toArray) w := by
  have := hr (as'.map (ev σc) ++ ys).toArray w
  simp only [execOp, resolve, hx, Deferred.ofValue, Sem.run_bind, Sem.run_pure, Result.andThen_ok, invoke] at this ⊢
  simpa using this
/-- A function value's call; its result is a plain value. -/
theorem PL.callF {g : FuncId} {x : Operand} {cs : List Tr} {args ds : List AV} {v : Value} {as' : List Operand} {ats : Array TypeId} (hx : evA σ x = .t (.fn (.func g) cs)) (hc : Fn P g args (RT (.t (.v v)))) (hd : Nat.blt d n = true)
    (hr : ∀ args w, (callFunc g args).run P w = .ok (.enter g args) w) (ha : as'.map (evA σ) ++ cs.map .t = ds) (hs : SbL true O [] args ds)
    (k : PL P n s ops rest Q (updA σ d (.t (.v v))) O) :
    PL P n s ops (⟨some d, .call { callee := .value x, args := as'.toArray, argTypes := ats }, ty, pos, after, none⟩ :: rest) Q σ O := by
  refine ⟨fun M U σc w S hσ => ?_⟩
  have e := evA_rel hσ x; rw [hx] at e
  generalize hy : ev σc x = u at e
  cases e with | t _ _ h => cases h with | fn _ _ ys hl hr' =>
    subst ha
    have hav : ∀ (j : Nat) c y, (as'.map (evA σ) ++ cs.map AV.t)[j]? = some c → (as'.map (ev σc) ++ ys)[j]? = some y → Rel w U M c y := by
      intro j c y h1 h2
      rcases Nat.lt_or_ge j as'.length with hj | hj
      · rw [List.getElem?_append_left (by simpa using hj), List.getElem?_map] at h1 h2
        cases hq : as'[j]? with
        | none => rw [hq] at h1; cases h1
        | some q => rw [hq] at h1 h2; simp at h1 h2; subst h1; subst h2; exact evA_rel hσ q
      · rw [List.getElem?_append_right (by simpa using hj)] at h1 h2
        simp only [List.length_map, List.getElem?_map] at h1 h2
        cases hq : cs[j - as'.length]? with
        | none => rw [hq] at h1; cases h1
        | some q => rw [hq] at h1; simp at h1; subst h1; exact .t _ _ (hr' _ _ _ hq h2)
    refine LW.call hd (f := g) (run_vcall hr hy) (call_coreV true [] hc hs rfl trivial (fun _ r bl h => by obtain ⟨rfl, rfl⟩ := h; exact ⟨trivial, fun ob h => by simp at h⟩) S (by simp [hl]) hav) ?_
    rintro e w' ⟨v', r, bl, M2, U2, X, rfl, ⟨rfl, rfl⟩, S2, h1, h2, _⟩
    simp only [setK, List.map_nil, List.drop_nil, List.append_nil] at S2
    exact ⟨v', rfl, k.h M2 U2 _ w' S2 (Rels.upd (fun t => h1 _ _ (hσ t)) d (by simpa [AV.ren] using h2))⟩
theorem PL.remV {t t' : TypeId} {x y : Operand} {a b : Int} (hd : Nat.blt d n = true) (hx : evA σ x = iA a) (hy : evA σ y = iA b) (hb : 0 ≤ a ∧ 1 ≤ b) (k : ∀ r : Int, r = a % b → 0 ≤ r → r < b → PL P n s ops rest Q (updA σ d (iA r)) O) : PL P n s ops (⟨some d, .binOp .rem t x y t', ty, pos, after, none⟩ :: rest) Q σ O :=
  PL.op hd (Rd.rem hx hy hb) (k _ rfl (Int.emod_nonneg _ (by omega)) (Int.emod_lt_of_pos _ (by omega)))
theorem PL.quoV {t t' : TypeId} {x y : Operand} {a b : Int} (hd : Nat.blt d n = true) (hx : evA σ x = iA a) (hy : evA σ y = iA b) (hb : 0 ≤ a ∧ a ≤ 9223372036854775807 ∧ 1 ≤ b) (k : ∀ r : Int, r = a / b → 0 ≤ r → r ≤ a → PL P n s ops rest Q (updA σ d (iA r)) O) : PL P n s ops (⟨some d, .binOp .quo t x y t', ty, pos, after, none⟩ :: rest) Q σ O :=
  PL.op hd (Rd.quo hx hy hb) (k _ rfl (Int.ediv_nonneg hb.1 (by omega)) (Int.ediv_le_self _ hb.1))
theorem PL.u8V {t t' : TypeId} {x : Operand} {u : UInt8} [T : CIn P t'] [T' : CU8 P t] (hd : Nat.blt d n = true) (hx : evA σ x = .t (.v (.int .u8 u.toNat))) (k : ∀ m : Nat, m = u.toNat → m < 256 → PL P n s ops rest Q (updA σ d (iA (m : Int))) O) : PL P n s ops (⟨some d, .convert t t' x, ty, pos, after, none⟩ :: rest) Q σ O :=
  PL.op hd (Rd.u8 hx) (k _ rfl u.toNat_lt)
theorem PL.xorV {t t' : TypeId} {x y : Operand} {a b : Int} (hd : Nat.blt d n = true) (hx : evA σ x = iA a) (hy : evA σ y = iA b) (ha : 0 ≤ a ∧ a ≤ 9223372036854775807) (hb : 0 ≤ b ∧ b ≤ 9223372036854775807) (k : ∀ r : Int, 0 ≤ r → r ≤ 9223372036854775807 → PL P n s ops rest Q (updA σ d (iA r)) O) : PL P n s ops (⟨some d, .binOp .xor t x y t', ty, pos, after, none⟩ :: rest) Q σ O := by
  obtain ⟨m, rfl⟩ := Int.eq_ofNat_of_zero_le ha.1
  obtain ⟨q, rfl⟩ := Int.eq_ofNat_of_zero_le hb.1
  have := R.xor_lt (m := m) (n := q) (by omega) (by omega)
  exact PL.op hd (Rd.xor hx hy (by omega) (by omega)) (k _ (by omega) (by omega))
theorem PR.remV {t t' : TypeId} {x y : Operand} {a b : Int} (hd : Nat.blt d n = true) (hx : evA σ x = iA a) (hy : evA σ y = iA b) (hb : 0 ≤ a ∧ 1 ≤ b) (k : ∀ r : Int, r = a % b → 0 ≤ r → r < b → PR P n s ops xs rest K (updA σ d (iA r)) O) : PR P n s ops xs (⟨some d, .binOp .rem t x y t', ty, pos, after, none⟩ :: rest) K σ O :=
  PR.op hd (Rd.rem hx hy hb) (k _ rfl (Int.emod_nonneg _ (by omega)) (Int.emod_lt_of_pos _ (by omega)))
theorem PR.quoV {t t' : TypeId} {x y : Operand} {a b : Int} (hd : Nat.blt d n = true) (hx : evA σ x = iA a) (hy : evA σ y = iA b) (hb : 0 ≤ a ∧ a ≤ 9223372036854775807 ∧ 1 ≤ b) (k : ∀ r : Int, r = a / b → 0 ≤ r → r ≤ a → PR P n s ops xs rest K (updA σ d (iA r)) O) : PR P n s ops xs (⟨some d, .binOp .quo t x y t', ty, pos, after, none⟩ :: rest) K σ O :=
  PR.op hd (Rd.quo hx hy hb) (k _ rfl (Int.ediv_nonneg hb.1 (by omega)) (Int.ediv_le_self _ hb.1))
theorem PR.u8V {t t' : TypeId} {x : Operand} {u : UInt8} [T : CIn P t'] [T' : CU8 P t] (hd : Nat.blt d n = true) (hx : evA σ x = .t (.v (.int .u8 u.toNat))) (k : ∀ m : Nat, m = u.toNat → m < 256 → PR P n s ops xs rest K (updA σ d (iA (m : Int))) O) : PR P n s ops xs (⟨some d, .convert t t' x, ty, pos, after, none⟩ :: rest) K σ O :=
  PR.op hd (Rd.u8 hx) (k _ rfl u.toNat_lt)
theorem PR.xorV {t t' : TypeId} {x y : Operand} {a b : Int} (hd : Nat.blt d n = true) (hx : evA σ x = iA a) (hy : evA σ y = iA b) (ha : 0 ≤ a ∧ a ≤ 9223372036854775807) (hb : 0 ≤ b ∧ b ≤ 9223372036854775807) (k : ∀ r : Int, 0 ≤ r → r ≤ 9223372036854775807 → PR P n s ops xs rest K (updA σ d (iA r)) O) : PR P n s ops xs (⟨some d, .binOp .xor t x y t', ty, pos, after, none⟩ :: rest) K σ O := by
  obtain ⟨m, rfl⟩ := Int.eq_ofNat_of_zero_le ha.1
  obtain ⟨q, rfl⟩ := Int.eq_ofNat_of_zero_le hb.1
  have := R.xor_lt (m := m) (n := q) (by omega) (by omega)
  exact PR.op hd (Rd.xor hx hy (by omega) (by omega)) (k _ (by omega) (by omega))
theorem SbL.self {z : Bool} {O : Obs} {ρ : Rho} : ∀ (cs : List Tr), SbL z O ρ (cs.map .t) (cs.map .t)
  | [] => trivial
  | c :: cs => ⟨.t c, SbL.self cs⟩
/-! calls, the contract told last -/
theorem PL.callB (z : Bool) (κ : List Nat) {f : FuncId} {O0 : List Ob} {args ds : List AV} {R : AV → List Ob → Prop} {as' : List Operand} {ats : Array TypeId} (hd : Nat.blt d n = true)
    (hr : ∀ args w, (callFunc f args).run P w = .ok (.enter f args) w) (ha : as'.map (evA σ) = ds) (hs : SbL z O (κ.map some) args ds) (hnd : nodupB (κ.map some) = true) (hb : BlkL z O (κ.map some) (κ.map some) O0) (hc : FnX P f O0 args R)
    (hfl : z = true → ∀ r bl, R r bl → r.flat ∧ ∀ ob, ob ∈ bl → ob.flat)
    (k : ∀ r bl, R r bl → PL P n s ops rest Q (updA σ d (r.ren (thet κ O.length))) (setK (O ++ (bl.drop κ.length).map (fun o => some (o.ren (thet κ O.length)))) κ (bl.map (·.ren (thet κ O.length))))) :
    PL P n s ops (⟨some d, .call { callee := .value (.func f), args := as'.toArray, argTypes := ats }, ty, pos, after, none⟩ :: rest) Q σ O := PL.call z κ hc hd hr ha hs hnd hb hfl k
theorem PL.callW {f : FuncId} {args ds : List AV} {v : Value} {as' : List Operand} {ats : Array TypeId} (hd : Nat.blt d n = true)
    (hr : ∀ args w, (callFunc f args).run P w = .ok (.enter f args) w) (ha : as'.map (evA σ) = ds) (hs : SbL true O [] args ds) (hc : Fn P f args (RT (.t (.v v))))
    (k : PL P n s ops rest Q (updA σ d (.t (.v v))) O) : PL P n s ops (⟨some d, .call { callee := .value (.func f), args := as'.toArray, argTypes := ats }, ty, pos, after, none⟩ :: rest) Q σ O := PL.callV hc hd hr ha hs k
theorem PR.callB (z : Bool) (κ : List Nat) {f : FuncId} {O0 : List Ob} {args ds : List AV} {R : AV → List Ob → Prop} {as' : List Operand} {ats : Array TypeId} (hd : Nat.blt d n = true)
    (hr : ∀ args w, (callFunc f args).run P w = .ok (.enter f args) w) (ha : as'.map (evA σ) = ds) (hs : SbL z O (κ.map some) args ds) (hnd : nodupB (κ.map some) = true) (hb : BlkL z O (κ.map some) (κ.map some) O0) (hc : FnX P f O0 args R)
    (hfl : z = true → ∀ r bl, R r bl → r.flat ∧ ∀ ob, ob ∈ bl → ob.flat) (hκ : κ.all (fun b => xs.contains b) = true)
    (k : ∀ r bl, R r bl → PR P n s ops xs rest K (updA σ d (r.ren (thet κ O.length))) (setK (O ++ (bl.drop κ.length).map (fun o => some (o.ren (thet κ O.length)))) κ (bl.map (·.ren (thet κ O.length))))) :
    PR P n s ops xs (⟨some d, .call { callee := .value (.func f), args := as'.toArray, argTypes := ats }, ty, pos, after, none⟩ :: rest) K σ O := PR.call z κ hc hd hr ha hs hnd hb hfl hκ k
theorem PR.callW {f : FuncId} {args ds : List AV} {v : Value} {as' : List Operand} {ats : Array TypeId} (hd : Nat.blt d n = true)
    (hr : ∀ args w, (callFunc f args).run P w = .ok (.enter f args) w) (ha : as'.map (evA σ) = ds) (hs : SbL true O [] args ds) (hc : Fn P f args (RT (.t (.v v))))
    (k : PR P n s ops xs rest K (updA σ d (.t (.v v))) O) : PR P n s ops xs (⟨some d, .call { callee := .value (.func f), args := as'.toArray, argTypes := ats }, ty, pos, after, none⟩ :: rest) K σ O := PR.callV hc hd hr ha hs k
end
/-- The first place where a test holds. -/
def fIdx {α : Type} (p : α → Bool) (xs : List α) : Int := if xs.findIdx p < xs.length then xs.findIdx p else -1
end V
end Go.Proofs.Ytoljdhdfijnjiaa
