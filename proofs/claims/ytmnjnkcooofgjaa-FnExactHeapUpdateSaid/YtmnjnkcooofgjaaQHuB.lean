/- What the rows need, part 2. No condition. -/
import Derived.Test.YtmnjnkcooofgjaaRows
import Derived.ProofKit
import Derived.Deep.Slices
import Derived.Laws.StructEq
import Derived.ChangeKeysEq
import Derived.Laws.BytesArg
import Derived.Deep.AppendSrc
import Derived.Test.YtmnjnkcooofgjaaQHuA
namespace Go.Proofs.Ytmnjnkcooofgjaa
namespace V
set_option linter.unusedVariables false
set_option linter.unusedSimpArgs false
open Go.RowKit
def hide : List Nat → Obs → Obs
  | [], O => O
  | b :: xs, O => (hide xs O).set b none
theorem hide_len : ∀ (xs : List Nat) (O : Obs), (hide xs O).length = O.length
  | [], _ => rfl
  | b :: xs, O => by simp [hide, hide_len xs O]
theorem hide_get : ∀ {xs : List Nat} {O : Obs} {b : Nat} {ob : Ob}, (hide xs O)[b]? = some (some ob) → b ∉ xs ∧ O[b]? = some (some ob)
  | [], _, _, _, h => ⟨by simp, h⟩
  | c :: xs, O, b, ob, h => by
    by_cases e : b = c
    · subst e
      have hlt : b < (hide xs O).length := by have := (List.getElem?_eq_some_iff.1 h).1; simpa [hide] using this
      simp only [hide] at h
      rw [List.getElem?_set_self hlt] at h; cases h
    · simp only [hide] at h
      rw [List.getElem?_set_ne (Ne.symm e)] at h
      obtain ⟨h1, h2⟩ := hide_get h
      exact ⟨by simp [e, h1], h2⟩
def XOK (xs : List Nat) (M : Mp) (X : List Nat) : Prop := (∀ b, b ∈ xs → b < M.length) ∧ (∀ B, B ∈ X → ∃ (b : Nat) (p : Pl), b ∈ xs ∧ M[b]? = some p ∧ p.has B) ∧ ∀ (b : Nat) (p : Pl) (B : Nat), b ∈ xs → M[b]? = some p → p.has B → B ∈ X
def xOf (xs : List Nat) (M : Mp) : List Nat := xs.flatMap fun b => match (M[b]? : Option Pl) with | some p => p.all | none => []
theorem xOf_ok (xs : List Nat) (M : Mp) (h : ∀ b, b ∈ xs → b < M.length) : XOK xs M (xOf xs M) := by
  refine ⟨h, fun B hB => ?_, fun b p B hb hM hB => List.mem_flatMap.2 ⟨b, hb, by rw [hM]; exact Pl.mem_all.2 hB⟩⟩
  obtain ⟨b, hb, h⟩ := List.mem_flatMap.1 hB
  cases hm : M[b]? with
  | none => rw [hm] at h; cases h
  | some x => rw [hm] at h; exact ⟨b, x, hb, hm, Pl.mem_all.1 h⟩
/-- Where the heads end. -/
def PQ (n : Nat) (s : Bs) (K : Fr → Obs → List Nat → Prop) : List Nat → Act → World → Prop := fun X a w => ∃ M U σ O σc xs, Mem s M O U w ∧ Rels w U M σ σc ∧ Rp n a σc ∧ XOK xs M X ∧ K σ O xs
structure PR (P : Program) (n : Nat) (s : Bs) (ops : Array Oper) (xs : List Nat) (l : List Oper) (K : Fr → Obs → List Nat → Prop) (σ : Fr) (O : Obs) : Prop where
  h : ∀ M U σc w X, Mem s M O U w → Rels w U M σ σc → XOK xs M X → ∀ a, Rp n a σc → gList P ops (PQ n s K) l X a w
/-- The same for a tree of orders. -/
structure PT (P : Program) (n : Nat) (s : Bs) (l : List Oper) (xs : List Nat) (t : Ot) (K : Fr → Obs → List Nat → Prop) (σ : Fr) (O : Obs) : Prop where
  h : ∀ M U σc w X, Mem s M O U w → Rels w U M σ σc → XOK xs M X → ∀ a, Rp n a σc → gT P l (PQ n s K) t X a w
section
variable {P : Program} {n : Nat} {s : Bs} {Q : APost} {σ : Fr} {O : Obs} {ops : Array Oper} {rest : List Oper} {d : Nat} {ty : TypeId} {pos : String} {after : Array Edge} {xs : List Nat} {K : Fr → Obs → List Nat → Prop}
theorem gList_mono {Q Q' : List Nat → Act → World → Prop} (h : ∀ X a w, Q X a w → Q' X a w) : ∀ (l : List Oper) (X : List Nat) (a : Act) (w : World), gList P ops Q l X a w → gList P ops Q' l X a w
  | [], _, _, _, hq => h _ _ _ hq
  | o :: r, X, a, w, hq => by
    rcases hq with ⟨v, h1, h2⟩ | ⟨h1, h2⟩
    · exact .inl ⟨v, h1, gList_mono h r _ _ _ h2⟩
    · exact .inr ⟨h1, h2.same rfl rfl (fun v w' X' _ _ hk => gList_mono h r _ _ _ hk)⟩
theorem gT_mono {l : List Oper} {Q Q' : List Nat → Act → World → Prop} (h : ∀ X a w, Q X a w → Q' X a w) : ∀ (t : Ot) (X : List Nat) (a : Act) (w : World), gT P l Q t X a w → gT P l Q' t X a w
  | .done, _, _, _, hq => h _ _ _ hq
  | .seg ord t, X, a, w, hq => gList_mono (fun X a w => gT_mono h t X a w) _ _ _ _ hq
  | .fork s t, X, a, w, hq => ⟨gT_mono h s _ _ _ hq.1, gT_mono h t _ _ _ hq.2⟩
theorem Mem.drawn {M : Mp} {U : Nat → Prop} {w : World} (S : Mem s M O U w) : Mem s M O U { w with drawn := w.drawn + 1 } := S.below ⟨rfl, rfl, rfl, Nat.le_refl _, fun _ _ => rfl⟩
theorem Rels.drawn {M : Mp} {U : Nat → Prop} {w : World} {σc : Nat → Value} (S : Mem s M O U w) (h : Rels w U M σ σc) : Rels { w with drawn := w.drawn + 1 } U M σ σc := fun t => (h t).keepB (w' := { w with drawn := w.drawn + 1 }) S ⟨rfl, rfl, rfl, Nat.le_refl _, fun _ _ => rfl⟩
/-- A region that draws: its first q operations in the orders told, the rest behind. -/
theorem PC.any (q : Nat) (t : Ot) (xs : List Nat) {id : Nat} {l : List Oper} (hm : P.follows .mixedOrders = true) (hB : anyB l.toArray q t = true) (hx : xs.all (fun b => Nat.blt b O.length) = true)
    (h : PT P n s l xs t (fun σ' O' _ => PL P n s l.toArray (l.drop q) Q σ' O') σ O) : PC P n s (.region id l.toArray true) Q σ O := by
  refine ⟨fun M U σc w S hσ => ⟨fun a ha => region_ord (X := xOf xs M) q t hm hB ?_⟩⟩
  refine gT_mono (fun X a w h => ?_) _ _ _ _ (h.h M U σc _ _ S.drawn (hσ.drawn S) (xOf_ok xs M (fun b hb => by rw [S.len]; exact Nat.le_of_ble_eq_true (List.all_eq_true.1 hx b hb))) a ha)
  obtain ⟨M', U', σ', O', σc', _, S', hσ', ha', _, hk⟩ := h
  exact (hk.h M' U' σc' w S' hσ').h a ha'
theorem PT.done {l : List Oper} (h : K σ O xs) : PT P n s l xs .done K σ O := ⟨fun M U σc w X S hσ hX a ha => ⟨M, U, σ, O, σc, xs, S, hσ, ha, hX, h⟩⟩
theorem PT.seg {l : List Oper} {ord : List Nat} {t : Ot} (h : PR P n s l.toArray xs (sel l ord) (fun σ' O' xs' => PT P n s l xs' t K σ' O') σ O) : PT P n s l xs (.seg ord t) K σ O :=
  ⟨fun M U σc w X S hσ hX a ha => gList_mono (fun X a w ⟨M, U, σ, O, σc, xs, S, hσ, ha, hX, hk⟩ => hk.h M U σc w X S hσ hX a ha) _ _ _ _ (h.h M U σc w X S hσ hX a ha)⟩
theorem PT.fork {l : List Oper} {a b : Ot} (h1 : PT P n s l xs a K σ O) (h2 : PT P n s l xs b K σ O) : PT P n s l xs (.fork a b) K σ O :=
  ⟨fun M U σc w X S hσ hX A ha => ⟨h1.h M U σc w X S hσ hX A ha, h2.h M U σc w X S hσ hX A ha⟩⟩
theorem PR.nil (h : K σ O xs) : PR P n s ops xs [] K σ O := ⟨fun M U σc w X S hσ hX a ha => ⟨M, U, σ, O, σc, xs, S, hσ, ha, hX, h⟩⟩
theorem Mem.hide {M : Mp} {U : Nat → Prop} {w : World} (S : Mem s M O U w) : Mem s M (V.hide xs O) U w :=
  ⟨S.base, S.lent, by rw [S.len, hide_len], S.lt, S.fresh, S.sep, S.fok, fun b ob x h1 h2 => S.own b ob x (hide_get h1).2 h2, S.u, S.tab⟩
theorem agr_of {M : Mp} {w w' : World} {X : List Nat} (hX : XOK xs M X) (hb : BelowX X w w') : Agr' M (V.hide xs O) w w' := by
  refine ⟨hb.size, fun B hB h => hb.block B hB fun hx => ?_⟩
  obtain ⟨b, L, h1, h2, h3⟩ := hX.2.1 B hx
  obtain ⟨ob, ho⟩ := h b L h2 h3
  exact (hide_get ho).1 h1
theorem PR.op {op : Op} {x : AV} (hd : Nat.blt d n = true) (hr : Rd P s (V.hide xs O) σ op ty x) (k : PR P n s ops xs rest K (updA σ d x) O) : PR P n s ops xs (⟨some d, op, ty, pos, after, none⟩ :: rest) K σ O := by
  refine ⟨fun M U σc w X S hσ hX a ha => ?_⟩
  obtain ⟨y, hy, hrun⟩ := hr M U w σc S.hide hσ
  refine .inl ⟨y, .inl ⟨rfl, fun w' hw => ?_⟩, k.h M U _ w X S (hσ.upd d hy) hX _ (ha.put d y hd)⟩
  rw [ha.eval, (hrun w' (agr_of hX hw)).run]
  exact ⟨rfl, rfl⟩
theorem PR.ef {op : Op} {x : AV} {O' : Obs} (hd : Nat.blt d n = true) (he : isEff ⟨some d, op, ty, pos, after, none⟩ = true) (h : Ef P s O σ op ty x O') (k : PR P n s ops xs rest K (updA σ d x) O') : PR P n s ops xs (⟨some d, op, ty, pos, after, none⟩ :: rest) K σ O := by
  refine ⟨fun M U σc w X S hσ hX a ha => ?_⟩
  obtain ⟨y, w', p, hrun, S', hx, hall, hb, _⟩ := h M U w σc S hσ
  refine .inr ⟨he, rfl, .inr ⟨y, w', X, .inl (by rw [ha.eval]; exact hrun.run _ _ _ _), ⟨hb.os, hb.tape, hb.output, hb.size, fun k hk _ => hb.block k hk (by simp)⟩, XX.refl, ?_⟩⟩
  refine k.h (M ++ [p]) U _ w' X S' (Rels.upd (fun t => hall _ _ (hσ t)) d hx) ?_ _ (ha.put d y hd)
  refine ⟨fun b hb => by have := hX.1 b hb; simp; omega, fun B hB => ?_, fun b L B hb' hM hB => ?_⟩
  · obtain ⟨b, L, h1, h2, h3⟩ := hX.2.1 B hB
    exact ⟨b, L, h1, snoc_old h2, h3⟩
  · rcases snoc_get hM with h3 | ⟨h3, h4⟩
    · exact hX.2.2 b L B hb' h3 hB
    · have := hX.1 b hb'; omega
/-- What is made here may be written here: nothing that comes behind reads it out of its turn. -/
theorem PR.efX {op : Op} {x : AV} {O' : Obs} (hd : Nat.blt d n = true) (he : isEff ⟨some d, op, ty, pos, after, none⟩ = true) (h : Ef P s O σ op ty x O') (k : PR P n s ops (O.length :: xs) rest K (updA σ d x) O') : PR P n s ops xs (⟨some d, op, ty, pos, after, none⟩ :: rest) K σ O := by
  refine ⟨fun M U σc w X S hσ hX a ha => ?_⟩
  obtain ⟨y, w', p, hrun, S', hx, hall, hb, hnew⟩ := h M U w σc S hσ
  let X' := X ++ p.all
  have hmem : ∀ B, B ∈ X' ↔ B ∈ X ∨ p.has B := by
    intro B
    simp only [X', List.mem_append, Pl.mem_all]
  refine .inr ⟨he, rfl, .inr ⟨y, w', X', .inl (by rw [ha.eval]; exact hrun.run _ _ _ _), ⟨hb.os, hb.tape, hb.output, hb.size, fun k hk _ => hb.block k hk (by simp)⟩, fun B hB => ?_, ?_⟩⟩
  · rcases (hmem B).1 hB with h | h1
    · exact .inl h
    · exact .inr (hnew B h1)
  refine k.h (M ++ [p]) U _ w' X' S' (Rels.upd (fun t => hall _ _ (hσ t)) d hx) ?_ _ (ha.put d y hd)
  have hl : M.length = O.length := S.len
  refine ⟨fun b hb => ?_, fun B hB => ?_, fun b L B hb' hM hB => ?_⟩
  · rcases List.mem_cons.1 hb with rfl | hb
    · simp [hl]
    · have := hX.1 b hb; simp; omega
  · rcases (hmem B).1 hB with h | h1
    · obtain ⟨b, L, h1, h2, h3⟩ := hX.2.1 B h
      exact ⟨b, L, .tail _ h1, snoc_old h2, h3⟩
    · exact ⟨O.length, p, .head _, by rw [← hl]; simp, h1⟩
  · refine (hmem _).2 ?_
    rcases snoc_get hM with h3 | ⟨h3, h4⟩
    · rcases List.mem_cons.1 hb' with rfl | hb'
      · have := (List.getElem?_eq_some_iff.1 h3).1; omega
      · exact .inl (hX.2.2 b L B hb' h3 hB)
    · exact .inr (by rw [← h4]; exact hB)
/-- A store into a block that was made or lent here. -/
theorem PR.storeG {t : TypeId} {x y : Operand} {b j m : Nat} {ob ob' : Ob} {v : AV} {cs : List AV} [Z : CS P t m] (hx : evA σ x = .op b j) (hy : evA σ y = v) (hw : wholeA v = true) (hc : cellsA v = cs) (hm : cs.length = m) (hO : O[b]? = some (some ob)) (hj : j + m ≤ ob.cells.length)
    (hc' : ob'.cells = ob.cells.take j ++ cs ++ ob.cells.drop (j + m)) (ht' : ob'.ty = ob.ty) (hk' : ob'.k = ob.k) (hxs : xs.contains b = true)
    (k : PR P n s ops xs rest K σ (O.set b (some ob'))) : PR P n s ops xs (⟨none, .store t x y, ty, pos, after, none⟩ :: rest) K σ O := by
  refine ⟨fun M U σc w X S hσ hX a ha => ?_⟩
  obtain ⟨w', L, hrun, S', hall, hM, hb⟩ := store_core (P := P) (t := t) (ty := ty) (pos := pos) (after := after) hx hy hw hc hm hO hj hc' ht' hk' S hσ
  have hL : L.blk ∈ X := hX.2.2 b _ _ (by simpa using hxs) hM rfl
  refine .inr ⟨rfl, rfl, .inr ⟨undef, w', X, .inr ⟨by rw [ha.eval]; exact hrun, rfl⟩, ⟨hb.os, hb.tape, hb.output, hb.size, fun k hk hx => hb.block k hk (fun h => hx (by simp at h; rw [h]; exact hL))⟩, XX.refl, ?_⟩⟩
  exact k.h M U σc w' X S' (fun t => hall _ _ (hσ t)) hX a ha
theorem PR.store {t : TypeId} {x y : Operand} {b j m k0 : Nat} {T' : TypeId} {v : AV} {cs ds : List AV} [Z : CS P t m] (hx : evA σ x = .op b j) (hy : evA σ y = v) (hw : wholeA v = true) (hc : cellsA v = cs) (hm : cs.length = m) (hO : O[b]? = some (some ⟨.mx ds, T', k0⟩)) (hj : Nat.ble (j + m) ds.length = true) (hxs : xs.contains b = true)
    (k : PR P n s ops xs rest K σ (O.set b (some ⟨.mx (ds.take j ++ cs ++ ds.drop (j + m)), T', k0⟩))) : PR P n s ops xs (⟨none, .store t x y, ty, pos, after, none⟩ :: rest) K σ O :=
  PR.storeG hx hy hw hc hm hO (Nat.le_of_ble_eq_true hj) (ob' := ⟨.mx (ds.take j ++ cs ++ ds.drop (j + m)), T', k0⟩) rfl rfl rfl hxs k
theorem PR.call (z : Bool) (κ : List Nat) {f : FuncId} {O0 : List Ob} {args ds : List AV} {R : AV → List Ob → Prop} {as' : List Operand} {ats : Array TypeId} (hc : FnX P f O0 args R) (hd : Nat.blt d n = true)
    (hr : ∀ args w, (callFunc f args).run P w = .ok (.enter f args) w) (ha : as'.map (evA σ) = ds) (hs : SbL z O (κ.map some) args ds) (hnd : nodupB (κ.map some) = true) (hb : BlkL z O (κ.map some) (κ.map some) O0)
    (hfl : z = true → ∀ r bl, R r bl → r.flat ∧ ∀ ob, ob ∈ bl → ob.flat) (hκ : κ.all (fun b => xs.contains b) = true)
    (k : ∀ r bl, R r bl → PR P n s ops xs rest K (updA σ d (r.ren (thet κ O.length))) (setK (O ++ (bl.drop κ.length).map (fun o => some (o.ren (thet κ O.length)))) κ (bl.map (·.ren (thet κ O.length))))) :
    PR P n s ops xs (⟨some d, .call { callee := .value (.func f), args := as'.toArray, argTypes := ats }, ty, pos, after, none⟩ :: rest) K σ O := by
  refine ⟨fun M U σc w X S hσ hX a ha' => .inr ⟨rfl, rfl, .inl ⟨f, (as'.map (ev σc)).toArray, by rw [ha'.eval]; exact run_fcall hr rfl, (call_core z κ hc ha hs hnd hb hfl S hσ).mono ?_⟩⟩⟩
  rintro e w' ⟨v, r, bl, M2, U2, X', rfl, hR, S2, h1, h2, h3, h4, h5, _⟩
  have hsub : ∀ B, B ∈ X' → B ∈ X := by
    intro B hB
    obtain ⟨i, b, L, g1, g2, g3⟩ := h5 B hB
    have := List.all_eq_true.1 hκ b (get_mem g1)
    exact hX.2.2 b L B (by simpa using this) g2 g3
  refine ⟨v, X, rfl, ⟨h4.os, h4.tape, h4.output, h4.size, fun k hk hx => h4.block k hk (fun h => hx (hsub _ h))⟩, XX.refl, (k r bl hR).h M2 U2 _ w' X S2 (Rels.upd (fun t => h1 _ _ (hσ t)) d h2) ?_ _ (ha'.put d v hd)⟩
  refine ⟨fun b hb => ?_, fun B hB => ?_, fun b L B hb' hM hB => ?_⟩
  · have hlt := hX.1 b hb
    exact (List.getElem?_eq_some_iff.1 (h3 b _ (List.getElem?_eq_getElem hlt))).1
  · obtain ⟨b, L, g1, g2, g3⟩ := hX.2.1 B hB
    exact ⟨b, L, g1, h3 b _ g2, g3⟩
  · have hlt := hX.1 b hb'
    have e1 := h3 b _ (List.getElem?_eq_getElem hlt)
    rw [hM] at e1
    exact hX.2.2 b L B hb' (by rw [List.getElem?_eq_getElem hlt, ← e1]) hB
end
end V
end Go.Proofs.Ytmnjnkcooofgjaa
namespace Go.Proofs.Ytmnjnkcooofgjaa
namespace V
set_option linter.unusedVariables false
set_option linter.unusedSimpArgs false
open Go.RowKit
class Enc (α : Type) where
  enc : α → List Tr
  k : Nat
  len : ∀ x, (enc x).length = k
open Enc (enc)
class EncF (α : Type) [Enc α] : Prop where
  flat : ∀ (x : α) c, c ∈ enc x → ∃ v, c = .v v
instance : Enc Int := ⟨fun n => [.v (.int .i64 n)], 1, fun _ => rfl⟩
instance : Enc Bool := ⟨fun n => [.v (.bool n)], 1, fun _ => rfl⟩
instance : Enc UInt8 := ⟨fun n => [.v (.int .u8 n.toNat)], 1, fun _ => rfl⟩
instance : Enc ByteArray := ⟨fun n => [.v (.string n)], 1, fun _ => rfl⟩
def eL {α : Type} [Enc α] (xs : List α) : List Tr := xs.flatMap enc
instance {α : Type} [Enc α] : Enc (List α) := ⟨fun xs => [.sl xs.length (eL xs)], 1, fun _ => rfl⟩
abbrev sL {α : Type} [Enc α] (xs : List α) : AV := .t (.sl xs.length (eL xs))
section
variable {α : Type} [F : Enc α] {xs ys : List α}
theorem eL_len (xs : List α) : (eL xs).length = xs.length * F.k := by
  induction xs with
  | nil => simp [eL]
  | cons x xs ih => simp only [eL, List.flatMap_cons, List.length_append, List.length_cons] at ih ⊢; rw [ih, F.len, Nat.add_mul]; omega
theorem eL_app (xs ys : List α) : eL (xs ++ ys) = eL xs ++ eL ys := by simp [eL]
theorem eL_one (x : α) : eL [x] = enc x := by simp [eL]
theorem eL_snoc (xs : List α) (x : α) : eL xs ++ enc x = eL (xs ++ [x]) := by rw [eL_app, eL_one]
theorem eL_cons (x : α) (xs : List α) : eL (x :: xs) = enc x ++ eL xs := rfl
theorem eL_get : ∀ {xs : List α} {i f : Nat} (hi : i < xs.length), f < F.k → (eL xs)[i * F.k + f]? = (enc (xs[i]'hi))[f]?
  | x :: xs, 0, f, hi, hf => by
    rw [eL_cons, Nat.zero_mul, Nat.zero_add, List.getElem?_append_left (by rw [F.len]; exact hf)]; rfl
  | x :: xs, i + 1, f, hi, hf => by
    rw [eL_cons, List.getElem?_append_right (by rw [F.len, Nat.add_mul]; omega), F.len, show (i + 1) * F.k + f - F.k = i * F.k + f by rw [Nat.add_mul]; omega]
    exact eL_get (xs := xs) (by simpa using hi) hf
theorem eL_drop (xs : List α) (i : Nat) : (eL xs).drop (i * F.k) = eL (xs.drop i) := by
  induction i generalizing xs with
  | zero => simp
  | succ i ih =>
    cases xs with
    | nil => simp [eL]
    | cons x xs =>
      rw [eL_cons, List.drop_append, F.len, show (i + 1) * F.k - F.k = i * F.k by rw [Nat.add_mul]; omega, List.drop_of_length_le (by rw [F.len, Nat.add_mul]; omega), ih]
      simp
theorem eL_take (xs : List α) (i : Nat) : (eL xs).take (i * F.k) = eL (xs.take i) := by
  induction i generalizing xs with
  | zero => simp [eL]
  | succ i ih =>
    cases xs with
    | nil => simp [eL]
    | cons x xs =>
      rw [eL_cons, List.take_append, F.len, show (i + 1) * F.k - F.k = i * F.k by rw [Nat.add_mul]; omega, List.take_of_length_le (by rw [F.len, Nat.add_mul]; omega), ih]
      simp [eL]
theorem eL_all (xs : List α) : (eL xs).take (xs.length * F.k) = eL xs := List.take_of_length_le (by rw [eL_len]; exact Nat.le_refl _)
theorem eL_setR (x' : α) (i : Nat) (hi : i < xs.length) : (eL xs).take (i * F.k) ++ enc x' ++ (eL xs).drop (i * F.k + F.k) = eL (xs.set i x') := by
  rw [eL_take, show i * F.k + F.k = (i + 1) * F.k by rw [Nat.add_mul]; omega, eL_drop, eL_snoc, ← eL_app, List.set_eq_take_append_cons_drop, if_pos hi]
  simp
theorem eL_setF {u : Tr} {f : Nat} (hf : f < F.k) (x' : α) (i : Nat) (hi : i < xs.length) (hx : enc x' = (enc (xs[i]'hi)).set f u) : (eL xs).take (i * F.k + f) ++ [u] ++ (eL xs).drop (i * F.k + f + 1) = eL (xs.set i x') := by
  rw [← eL_setR x' i hi]
  have hl : i * F.k + F.k ≤ (eL xs).length := by
    rw [eL_len]; have : (i + 1) * F.k ≤ xs.length * F.k := Nat.mul_le_mul_right _ hi
    rw [Nat.add_mul] at this; omega
  apply List.ext_getElem?
  intro j
  simp only [List.getElem?_append, List.getElem?_take, List.getElem?_drop, List.length_append, List.length_take, List.length_cons, List.length_nil]
  have h1 : min (i * F.k + f) (eL xs).length = i * F.k + f := by omega
  have h2 : min (i * F.k) (eL xs).length = i * F.k := by omega
  have h3 : (enc x').length = F.k := F.len _
  rw [h1, h2, h3]
  by_cases c1 : j < i * F.k
  · rw [if_pos (by omega), if_pos (by omega), if_pos (by omega), if_pos (by omega), if_pos (by omega), if_pos c1]
  · by_cases c2 : j < i * F.k + F.k
    · have hg := eL_get (xs := xs) (i := i) (f := j - i * F.k) hi (by omega)
      rw [show i * F.k + (j - i * F.k) = j by omega] at hg
      by_cases c3 : j = i * F.k + f
      · subst c3
        rw [if_pos (by omega), if_neg (by omega), if_pos (by omega), if_neg (by omega), hx]
        rw [show i * F.k + f - (i * F.k + f) = 0 by omega, show i * F.k + f - i * F.k = f by omega, List.getElem?_set_self (by rw [F.len]; exact hf)]
        rfl
      · rw [if_pos (c := j < i * F.k + F.k) (by omega), if_neg (c := j < i * F.k) (by omega), hx, List.getElem?_set_ne (by omega), ← hg]
        by_cases c4 : j < i * F.k + f
        · rw [if_pos (by omega), if_pos c4, if_pos c4]
        · rw [if_neg (by omega)]; congr 1; omega
    · rw [if_neg (by omega), if_neg (by omega)]
      congr 1; omega
end
section
variable {α : Type} [F : Enc α] {P : Program} {n : Nat} {s : Bs} {Q : APost} {σ : Fr} {O : Obs} {ops : Array Oper} {rest : List Oper} {d : Nat} {ty : TypeId} {pos : String} {after : Array Edge} {xs : List α}
theorem Rd.loadBox {t : TypeId} {x : Operand} {b m k0 : Nat} {cs : List AV} {T' : TypeId} [T : CA P t true] [Z : CS P t m] (hx : evA σ x = .op b 0) (hO : O[b]? = some (some ⟨.mx cs, T', k0⟩)) (hm : cs.length = m) : Rd P s O σ (.load t x) ty (.agg cs) :=
  Rd.loadOR hx hO hm (fun i hi => by simp [Ob.cells, Cs.list])
theorem Rd.loadSub {t : TypeId} {x : Operand} {b j m k0 : Nat} {cs ds : List AV} {T' : TypeId} [T : CA P t true] [Z : CS P t m] (hx : evA σ x = .op b j) (hO : O[b]? = some (some ⟨.mx cs, T', k0⟩)) (hd : (cs.drop j).take m = ds) (hm : ds.length = m) : Rd P s O σ (.load t x) ty (.agg ds) :=
  Rd.loadOR hx hO hm (fun i hi => by rw [← hd, List.getElem?_take, if_pos hi, List.getElem?_drop]; rfl)
theorem Rd.elR {t : TypeId} {x : Operand} {i m : Nat} [T : CA P t true] [Z : CS P t m] (hx : evA σ x = .t (.pt (eL xs) (i * m))) (hk : F.k = m) (hi : i < xs.length) : Rd P s O σ (.load t x) ty (.agg ((enc (xs[i]'hi)).map .t)) :=
  Rd.loadTR hx (by rw [F.len, hk]) fun f hf => by rw [← hk, eL_get hi (by rw [hk]; exact hf)]
theorem Rd.elF {t : TypeId} {x : Operand} {i m f : Nat} {c : Tr} [T : CA P t false] (hx : evA σ x = .t (.pt (eL xs) (i * m + f))) (hk : F.k = m) (hi : i < xs.length) (hc : (enc (xs[i]'hi))[f]? = some c) : Rd P s O σ (.load t x) ty (.t c) :=
  Rd.loadT hx (by rw [← hk, eL_get hi (by rw [← F.len (xs[i]'hi)]; exact (List.getElem?_eq_some_iff.1 hc).1)]; exact hc)
theorem Rd.ownF {t e : TypeId} {x : Operand} {b i m f k0 : Nat} {c : Tr} [T : CA P t false] (hx : evA σ x = .op b (0 + i * m + f)) (hO : O[b]? = some (some ⟨.tr (eL xs), e, k0⟩)) (hk : F.k = m) (hi : i < xs.length) (hc : (enc (xs[i]'hi))[f]? = some c) : Rd P s O σ (.load t x) ty (.t c) :=
  Rd.loadOT (by rw [hx, Nat.zero_add]) hO (by rw [← hk, eL_get hi (by rw [← F.len (xs[i]'hi)]; exact (List.getElem?_eq_some_iff.1 hc).1)]; exact hc)
/-- A store of a whole element. -/
theorem PL.stR {t e : TypeId} {x y : Operand} {b i k0 m : Nat} {v : AV} (x' : α) [Z : CS P t m] (hx : evA σ x = .op b (0 + i * m)) (hy : evA σ y = v) (hw : wholeA v = true) (hO : O[b]? = some (some ⟨.tr (eL xs), e, k0⟩)) (hk : F.k = m) (hi : i < xs.length) (hc : cellsA v = (enc x').map .t)
    (k : PL P n s ops rest Q σ (O.set b (some ⟨.tr (eL (xs.set i x')), e, k0⟩))) : PL P n s ops (⟨none, .store t x y, ty, pos, after, none⟩ :: rest) Q σ O := by
  refine PL.storeT (cs := enc x') (by rw [hx, Nat.zero_add]) hy hw hc (by rw [F.len, hk]) hO ?_ ?_
  · rw [eL_len, hk]; have : (i + 1) * m ≤ xs.length * m := Nat.mul_le_mul_right _ hi
    rw [Nat.add_mul] at this; omega
  · rw [← hk, eL_setR x' i hi]; exact k
theorem PL.stF {t e : TypeId} {x y : Operand} {b i k0 m f : Nat} {c : Tr} (x' : α) [Z : CS P t 1] (hx : evA σ x = .op b (0 + i * m + f)) (hy : evA σ y = .t c) (hO : O[b]? = some (some ⟨.tr (eL xs), e, k0⟩)) (hk : F.k = m) (hi : i < xs.length) (hf : f < m) (hc : enc x' = (enc (xs[i]'hi)).set f c)
    (k : PL P n s ops rest Q σ (O.set b (some ⟨.tr (eL (xs.set i x')), e, k0⟩))) : PL P n s ops (⟨none, .store t x y, ty, pos, after, none⟩ :: rest) Q σ O := by
  refine PL.storeT (m := 1) (cs := [c]) (by rw [hx, Nat.zero_add]) hy rfl rfl rfl hO ?_ ?_
  · rw [eL_len, hk]; have : (i + 1) * m ≤ xs.length * m := Nat.mul_le_mul_right _ hi
    rw [Nat.add_mul] at this; omega
  · rw [← hk, eL_setF (by rw [hk]; exact hf) x' i hi hc]; exact k
theorem Sb.own {O : Obs} {ρ : Rho} {b n0 k0 : Nat} {e : TypeId} (hO : O[b]? = some (some ⟨.tr (eL xs), e, k0⟩)) (hb : some b ∉ ρ) (hn : n0 = xs.length) (hk : F.k = k0) : Sb true O ρ (sL xs) (.os b 0 n0) := by
  subst hn; subst hk
  exact .fz rfl hO hb rfl (by rw [List.drop_zero]; exact eL_all xs) (by rw [eL_len]; simp)
theorem SrcA.eL {ys : List α} {k0 : Nat} (hk : F.k = k0) : SrcA s O (sL ys) k0 ys.length (V.eL ys) := SrcA.t (by rw [eL_len, hk])
theorem SrcA.ownE {O : Obs} {ys : List α} {b k0 m : Nat} {e : TypeId} (hO : O[b]? = some (some ⟨.tr (V.eL ys), e, k0⟩)) (hm : m = ys.length) (hk : F.k = k0) : SrcA s O (.os b 0 m) k0 m (V.eL ys) := by
  subst hm; subst hk
  exact SrcA.own hO rfl (by rw [List.drop_zero]; exact eL_all ys) (eL_len ys)
/-- append(xs, ys...) to a slice of the call's own. -/
theorem PL.appE {m0 : Nat} (hm : s.L.length = m0) {t e : TypeId} {x y : Operand} {b n0 m bytes k0 : Nat} {ya : AV} (ys zs : List α) [T : CSl P t e] [Z : CE P e k0 bytes] (hd : Nat.blt d n = true) (hx : evA σ x = .os b 0 n0) (hO : O[b]? = some (some ⟨.tr (eL xs), e, k0⟩)) (hy : evA σ y = ya)
    (hsrc : SrcA s (O.set b none) ya k0 m (eL ys)) (hb : Nat.ble m0 b = true) (hk : F.k = k0) (hn : n0 = xs.length) (hyl : m = ys.length) (hz : zs = xs ++ ys) (hbytes : (xs.length + ys.length) * bytes ≤ 140737488355328) (h63 : xs.length + ys.length ≤ 4611686018427387904)
    (kk : PL P n s ops rest Q (updA σ d (.os O.length 0 zs.length)) (O.set b none ++ [some ⟨.tr (eL zs), e, k0⟩])) :
    PL P n s ops (⟨some d, .call { callee := .builtin .append, args := #[x, y], argTypes := #[t, t] }, ty, pos, after, none⟩ :: rest) Q σ O := by
  subst hn; subst hyl; subst hz; subst hk
  refine PL.app hm hd hx hO hy hsrc hb (eL_all xs) (eL_len xs) hbytes h63 (eL_app xs ys).symm ?_
  rw [← List.length_append]; exact kk
end
abbrev RT (c : AV) : AV → List Ob → Prop := fun r bl => r = c ∧ bl = []
/-- An owned slice. -/
abbrev ow {α : Type} [Enc α] (e : TypeId) (xs : List α) : Ob := ⟨.tr (eL xs), e, Enc.k α⟩
section
variable {P : Program} {n : Nat} {s : Bs} {Q : APost} {σ : Fr} {O : Obs} {ops : Array Oper} {rest : List Oper} {d : Nat} {ty : TypeId} {pos : String} {after : Array Edge} {xs : List Nat} {K : Fr → Obs → List Nat → Prop}
end
end V
end Go.Proofs.Ytmnjnkcooofgjaa
namespace Go.Proofs.Ytmnjnkcooofgjaa
namespace V
set_option linter.unusedVariables false
set_option linter.unusedSimpArgs false
open Go.RowKit
section
variable {P : Program} {n : Nat} {s : Bs} {Q : APost} {σ : Fr} {O : Obs}
end
section
variable {P : Program} {n : Nat} {s : Bs} {Q : APost} {σ : Fr} {O : Obs} {ops : Array Oper} {rest : List Oper} {d : Nat} {ty : TypeId} {pos : String} {after : Array Edge}
/-- x == nil, of a slice that is read: true only if it has no elements. -/
theorem PL.eqNil {t t' e : TypeId} {x y : Operand} {n0 : Nat} {cs : List Tr} [T : CSl P t e] (hd : Nat.blt d n = true) (hx : evA σ x = .t (.sl n0 cs)) (hy : evA σ y = .t (.v (.slice none 0 0)))
    (k : ∀ b : Bool, (b = true → n0 = 0) → PL P n s ops rest Q (updA σ d (bA b)) O) : PL P n s ops (⟨some d, .binOp .eql t x y t', ty, pos, after, none⟩ :: rest) Q σ O := by
  refine ⟨fun M U σc w S hσ => ?_⟩
  have ex := evA_rel hσ x; rw [hx] at ex
  have ey := (by have := evA_rel hσ y; rw [hy] at this; exact this.int)
  generalize hx' : ev σc x = u at ex
  cases ex with | t _ _ h =>
    cases h with
    | nil => exact LW.op hd (R.eqlNil hx' ey) ((k true (fun _ => rfl)).h M U _ w S (hσ.upd d (.t _ _ (.v _ rfl))))
    | sl0 => exact LW.op hd (R.eqlNil hx' ey) ((k false (fun h => by cases h)).h M U _ w S (hσ.upd d (.t _ _ (.v _ rfl))))
    | sl B off _ cap _ ys hU hl h1 hc hr hn => exact LW.op hd (R.eqlNil hx' ey) ((k false (fun h => by cases h)).h M U _ w S (hσ.upd d (.t _ _ (.v _ rfl))))
end
theorem Sb.osE {z : Bool} {O : Obs} {ρ : Rho} {b b' j n n' : Nat} (hρ : ρ[b]? = some (some b')) (h : n = n') : Sb z O ρ (.os b j n) (.os b' j n') := by subst h; exact .os hρ
theorem flat_ow {α : Type} [Enc α] [E : EncF α] {e : TypeId} {xs : List α} : (ow e xs).flat := by
  intro c hc
  simp only [eL, List.mem_flatMap] at hc
  obtain ⟨x, _, h⟩ := hc
  exact E.flat x c h
theorem ow_nil {α : Type} [Enc α] (e : TypeId) : (ow e ([] : List α)).c.list = [] := rfl
end V
end Go.Proofs.Ytmnjnkcooofgjaa
namespace Go.Proofs.Ytmnjnkcooofgjaa
namespace V
set_option linter.unusedVariables false
set_option linter.unusedSimpArgs false
open Go.RowKit
section
variable {P : Program} {n : Nat} {s : Bs} {Q : APost} {σ : Fr} {O : Obs} {ops : Array Oper} {rest : List Oper} {d : Nat} {ty : TypeId} {pos : String} {after : Array Edge} {xs : List Nat} {K : Fr → Obs → List Nat → Prop}
end
end V
end Go.Proofs.Ytmnjnkcooofgjaa
namespace Go.Proofs.Ytmnjnkcooofgjaa
namespace V
set_option linter.unusedVariables false
set_option linter.unusedSimpArgs false
open Go.RowKit
section
variable {P : Program} {n : Nat} {s : Bs} {Q : APost} {σ : Fr} {O : Obs} {ops : Array Oper} {rest : List Oper} {d : Nat} {ty : TypeId} {pos : String} {after : Array Edge} {xs : List Nat} {K : Fr → Obs → List Nat → Prop}
/-- A call by a contract, of values as they are. -/
theorem call_coreV (z : Bool) (κ : List Nat) {f : FuncId} {O0 : List Ob} {args ds : List AV} {R : AV → List Ob → Prop} {av : List Value} (hc : FnX P f O0 args R)
    (hs : SbL z O (κ.map some) args ds) (hnd : nodupB (κ.map some) = true) (hb : BlkL z O (κ.map some) (κ.map some) O0)
    (hfl : z = true → ∀ r bl, R r bl → r.flat ∧ ∀ ob, ob ∈ bl → ob.flat) {M : Mp} {U : Nat → Prop} {w : World} (S : Mem s M O U w) (hl : av.length = ds.length) (hav : ∀ (j : Nat) c y, ds[j]? = some c → av[j]? = some y → Rel w U M c y) :
    Calls P f av.toArray w fun e w' => ∃ v r bl M2 U2 X, e = .returned v ∧ R r bl ∧ Mem s M2 (setK (O ++ (bl.drop κ.length).map (fun o => some (o.ren (thet κ O.length)))) κ (bl.map (·.ren (thet κ O.length)))) U2 w' ∧ (∀ c y, Rel w U M c y → Rel w' U2 M2 c y) ∧ Rel w' U2 M2 (r.ren (thet κ O.length)) v ∧
      (∀ (b : Nat) x, M[b]? = some x → M2[b]? = some x) ∧ BelowX X w w' ∧ ∀ B, B ∈ X → ∃ (i b : Nat) (L : Pl), κ[i]? = some b ∧ M[b]? = some L ∧ L.has B := by
  have hsp := hb.spec
  have hκ : ∀ (i b : Nat), κ[i]? = some b → b < O.length := by
    intro i b h
    have hi : i < O0.length := by rw [hsp.1]; simp; exact (List.getElem?_eq_some_iff.1 h).1
    obtain ⟨ob0, h1, _⟩ := (hsp.2 i _ (some b) (List.getElem?_eq_getElem hi) (by simp [h])).2 b rfl
    exact (List.getElem?_eq_some_iff.1 h1).1
  have harg : ArgsRel w (frU z M (κ.map some) U) (mpR M (κ.map some)) args av := hs.rels S hl hav
  have S0 : Mem ⟨w, mpR M (κ.map some), frU z M (κ.map some) U⟩ (mpR M (κ.map some)) (O0.map some) (frU z M (κ.map some) U) w :=
    ⟨BelowX.refl _ _, fun b x h => h, by simp [mpR, hsp.1], fun B hB => S.lt B (inM_R hB), fun B hB => .inr (by
      obtain ⟨b, L, h1, h2⟩ := hB; exact Bs.inX (s := ⟨w, mpR M (κ.map some), frU z M (κ.map some) U⟩) h1 h2), mpR_sep S hnd, mpR_fok S, hb.own S, fun B hB => ⟨frU_fz S hB, .inl hB⟩, S.tab.mono (fun _ _ => rfl) (fun B hB => .inl hB)⟩
  refine (hc ⟨w, mpR M (κ.map some), frU z M (κ.map some) U⟩ _ _ S0 (fun B hB => hB) harg).mono ?_
  rintro e w' ⟨v, r, bl, M', U', rfl, hR, hrel, S'⟩
  obtain ⟨M2, U2, S2, h1, h2, h3, h4, _⟩ := S.called hnd hκ S' (fun e => (hfl e r bl hR).2)
  exact ⟨v, r, bl, M2, U2, _, rfl, hR, S2, h1, h2 _ _ hrel (fun e => (hfl e r bl hR).1), h3, S'.base, h4⟩
theorem run_vcall {σc : Nat → Value} {w : World} {g : FuncId} {x : Operand} {ys : List Value} {as' : List Operand} {ats : Array TypeId} {dd : Option Nat} {gu : Option (Nat × Bool)} (hr : ∀ args w, (callFunc g args).run P w = .ok (.enter g args) w) (hx : ev σc x = .func (.func g) #[] ys.toArray) :
    (execOp (ev σc) ⟨dd, .call { callee := .value x, args := as'.toArray, argTypes := ats }, ty, pos, after, gu⟩).run P w = .ok (.enter g (as'.map (ev σc) ++ ys).toArray) w := by
  have := hr (as'.map (ev σc) ++ ys).toArray w
  simp only [execOp, resolve, hx, Deferred.ofValue, Sem.run_bind, Sem.run_pure, Result.andThen_ok, invoke] at this ⊢
  simpa using this
/-- A function value's call; its result is a plain value. -/
theorem PL.callF {g : FuncId} {x : Operand} {cs : List Tr} {args ds : List AV} {v : Value} {as' : List Operand} {ats : Array TypeId} (hx : evA σ x = .t (.fn (.func g) cs)) (hc : Fn P g args (RT (.t (.v v)))) (hd : Nat.blt d n = true)
    (hr : ∀ args w, (callFunc g args).run P w = .ok (.enter g args) w) (ha : as'.map (evA σ) ++ cs.map .t = ds) (hs : SbL true O [] args ds)
    (k : PL P n s ops rest Q (updA σ d (.t (.v v))) O) :
    PL P n s ops (⟨some d, .call { callee := .value x, args := as'.toArray, argTypes := ats }, ty, pos, after, none⟩ :: rest) Q σ O := by
  refine ⟨fun M U σc w S hσ => ?_⟩
  have e := evA_rel hσ x; rw [hx] at e
  generalize hy : ev σc x = u at e
  cases e with | t _ _ h => cases h with | fn _ _ ys hl hr' =>
    subst ha
    have hav : ∀ (j : Nat) c y, (as'.map (evA σ) ++ cs.map AV.t)[j]? = some c → (as'.map (ev σc) ++ ys)[j]? = some y → Rel w U M c y := by
      intro j c y h1 h2
      rcases Nat.lt_or_ge j as'.length with hj | hj
      · rw [List.getElem?_append_left (by simpa using hj), List.getElem?_map] at h1 h2
        cases hq : as'[j]? with
        | none => rw [hq] at h1; cases h1
        | some q => rw [hq] at h1 h2; simp at h1 h2; subst h1; subst h2; exact evA_rel hσ q
      · rw [List.getElem?_append_right (by simpa using hj)] at h1 h2
        simp only [List.length_map, List.getElem?_map] at h1 h2
        cases hq : cs[j - as'.length]? with
        | none => rw [hq] at h1; cases h1
        | some q => rw [hq] at h1; simp at h1; subst h1; exact .t _ _ (hr' _ _ _ hq h2)
    refine LW.call hd (f := g) (run_vcall hr hy) (call_coreV true [] hc hs rfl trivial (fun _ r bl h => by obtain ⟨rfl, rfl⟩ := h; exact ⟨trivial, fun ob h => by simp at h⟩) S (by simp [hl]) hav) ?_
    rintro e w' ⟨v', r, bl, M2, U2, X, rfl, ⟨rfl, rfl⟩, S2, h1, h2, _⟩
    simp only [setK, List.map_nil, List.drop_nil, List.append_nil] at S2
    exact ⟨v', rfl, k.h M2 U2 _ w' S2 (Rels.upd (fun t => h1 _ _ (hσ t)) d (by simpa [AV.ren] using h2))⟩
theorem SbL.self {z : Bool} {O : Obs} {ρ : Rho} : ∀ (cs : List Tr), SbL z O ρ (cs.map .t) (cs.map .t)
  | [] => trivial
  | c :: cs => ⟨.t c, SbL.self cs⟩
end
end V
end Go.Proofs.Ytmnjnkcooofgjaa
namespace Go.Proofs.Ytmnjnkcooofgjaa
namespace V
open Enc (enc)
set_option linter.unusedVariables false
set_option linter.unusedSimpArgs false
open Go.RowKit
def ixI {α : Type} (xs : List α) (i : Int) : Option α := if 0 ≤ i then xs[i.toNat]? else none
def chk (e : Int) : Option Int := if -9223372036854775808 ≤ e ∧ e ≤ 9223372036854775807 then some e else none
def quoM (a b : Int) : Option Int := if 0 ≤ a ∧ a ≤ 9223372036854775807 ∧ 1 ≤ b then some (a / b) else none
def remM (a b : Int) : Option Int := if 0 ≤ a ∧ 1 ≤ b then some (a % b) else none
def appM {α : Type} (w : Nat) (xs ys : List α) : Option (List α) := if (xs.length + ys.length) * w ≤ 140737488355328 ∧ xs.length + ys.length ≤ 4611686018427387904 then some (xs ++ ys) else none
def addS (a b : ByteArray) : Option ByteArray := if a.size + b.size ≤ 9223372036854775807 then some (a ++ b) else none
def subM {α : Type} (xs : List α) (l h : Int) : Option (List α) := if 0 ≤ l ∧ l ≤ h ∧ h ≤ (xs.length : Int) then some ((xs.drop l.toNat).take (h.toNat - l.toNat)) else none
def loopM {σ β : Type} (body : σ → Option (σ ⊕ β)) : Nat → σ → Option β
  | 0, _ => none
  | n + 1, s => match body s with
    | none => none
    | some (.inl s') => loopM body n s'
    | some (.inr b) => some b
section
variable {α β : Type}
theorem cond_some {c : Bool} {a b : Option α} {r : α} (h : cond c a b = some r) : (c = true ∧ a = some r) ∨ (c = false ∧ b = some r) := by
  cases c
  · exact .inr ⟨rfl, h⟩
  · exact .inl ⟨rfl, h⟩
theorem bind_some {o : Option α} {f : α → Option β} {r : β} (h : o.bind f = some r) : ∃ x, o = some x ∧ f x = some r := Option.bind_eq_some_iff.1 h
theorem some_in {a b : α} (h : some a = some b) : a = b := Option.some.inj h
theorem loopM_some {σ : Type} {body : σ → Option (σ ⊕ β)} {n : Nat} {s : σ} {b : β} (h : loopM body n s = some b) : ∃ m y, n = m + 1 ∧ body s = some y ∧ (match y with | .inl s' => loopM body m s' = some b | .inr b' => b' = b) := by
  cases n with
  | zero => cases h
  | succ m =>
    unfold loopM at h
    cases hb : body s with
    | none => rw [hb] at h; cases h
    | some y =>
      rw [hb] at h
      refine ⟨m, y, rfl, rfl, ?_⟩
      cases y with
      | inl s' => exact h
      | inr b' => exact Option.some.inj h
theorem ixI_spec {xs : List α} {i : Int} {x : α} (h : ixI xs i = some x) : 0 ≤ i ∧ ∃ h : i.toNat < xs.length, xs[i.toNat] = x := by
  unfold ixI at h
  split at h
  · obtain ⟨h1, h2⟩ := List.getElem?_eq_some_iff.1 h
    exact ⟨by assumption, h1, h2⟩
  · cases h
theorem ixI_lt {xs : List α} {i : Int} {x : α} (h : ixI xs i = some x) : 0 ≤ i ∧ i < (xs.length : Int) := by
  obtain ⟨h1, h2, _⟩ := ixI_spec h; omega
theorem ixI_set {xs : List α} {i : Int} {x y : α} (h : ixI xs i = some x) : ixI (xs.set i.toNat y) i = some y := by
  obtain ⟨h1, h2, _⟩ := ixI_spec h
  unfold ixI; rw [if_pos h1, List.getElem?_set_self h2]
theorem not_t {b : Bool} (h : b = true) : (!b) = false := by rw [h]; rfl
theorem not_f {b : Bool} (h : b = false) : (!b) = true := by rw [h]; rfl
end
section
variable {P : Program} {n : Nat} {s : Bs} {Q : APost} {σ : Fr} {O : Obs} {ops : Array Oper} {rest : List Oper} {d : Nat} {ty t t' : TypeId} {pos : String} {after : Array Edge} {x y : Operand} {a b v : Int}
theorem chk_spec (h : chk a = some v) : a = v ∧ -9223372036854775808 ≤ a ∧ a ≤ 9223372036854775807 := by
  unfold chk at h; split at h
  · rename_i hb; exact ⟨Option.some.inj h, hb⟩
  · cases h
theorem Rd.addM (hx : evA σ x = iA a) (hy : evA σ y = iA b) (h : chk (a + b) = some v) : Rd P s O σ (.binOp .add t x y t') ty (iA v) := by
  obtain ⟨rfl, hb⟩ := chk_spec h; exact Rd.add hx hy hb
theorem Rd.subM (hx : evA σ x = iA a) (hy : evA σ y = iA b) (h : chk (a - b) = some v) : Rd P s O σ (.binOp .sub t x y t') ty (iA v) := by
  obtain ⟨rfl, hb⟩ := chk_spec h; exact Rd.sub hx hy hb
theorem Rd.mulM (hx : evA σ x = iA a) (hy : evA σ y = iA b) (h : chk (a * b) = some v) : Rd P s O σ (.binOp .mul t x y t') ty (iA v) := by
  obtain ⟨rfl, hb⟩ := chk_spec h; exact Rd.mul hx hy hb
theorem Rd.quoM (hx : evA σ x = iA a) (hy : evA σ y = iA b) (h : quoM a b = some v) : Rd P s O σ (.binOp .quo t x y t') ty (iA v) := by
  unfold V.quoM at h; split at h
  · cases h; exact Rd.quo hx hy (by assumption)
  · cases h
theorem Rd.remM (hx : evA σ x = iA a) (hy : evA σ y = iA b) (h : remM a b = some v) : Rd P s O σ (.binOp .rem t x y t') ty (iA v) := by
  unfold V.remM at h; split at h
  · cases h; exact Rd.rem hx hy (by assumption)
  · cases h
theorem Rd.addSM {u u' c : ByteArray} (hx : evA σ x = sA u) (hy : evA σ y = sA u') (h : V.addS u u' = some c) : Rd P s O σ (.binOp .add t x y t') ty (sA c) := by
  unfold V.addS at h; split at h
  · cases h; exact Rd.addS hx hy (by assumption)
  · cases h
end
section
variable {α : Type} [F : Enc α] {P : Program} {n : Nat} {s : Bs} {Q : APost} {σ : Fr} {O : Obs} {ops : Array Oper} {rest : List Oper} {d : Nat} {ty : TypeId} {pos : String} {after : Array Edge} {xs : List α} {e : α} {i : Int}
theorem Rd.ixM {t e' : TypeId} {k : Nat} {x y : Operand} [T : CSl P t e'] [Z : CS P e' k] (hx : evA σ x = sL xs) (hy : evA σ y = iA i) (h : ixI xs i = some e) : Rd P s O σ (.indexAddr t x y) ty (.t (.pt (eL xs) (i.toNat * k))) := Rd.ixT hx hy (ixI_lt h)
theorem Rd.elMF {t : TypeId} {x : Operand} {m f : Nat} {c : Tr} [T : CA P t false] (hx : evA σ x = .t (.pt (eL xs) (i.toNat * m + f))) (h : ixI xs i = some e) (hk : F.k = m) (hc : (enc e)[f]? = some c) : Rd P s O σ (.load t x) ty (.t c) := by
  obtain ⟨_, h2, rfl⟩ := ixI_spec h; exact Rd.elF hx hk h2 hc
theorem Rd.elMR {t : TypeId} {x : Operand} {m : Nat} {ds : List AV} [T : CA P t true] [Z : CS P t m] (hx : evA σ x = .t (.pt (eL xs) (i.toNat * m))) (h : ixI xs i = some e) (hk : F.k = m) (hd : (enc e).map .t = ds) : Rd P s O σ (.load t x) ty (.agg ds) := by
  obtain ⟨_, h2, rfl⟩ := ixI_spec h; rw [← hd]; exact Rd.elR hx hk h2
theorem Rd.ixOM {t e' : TypeId} {k b n0 : Nat} {x y : Operand} {ob : Ob} [T : CSl P t e'] [Z : CS P e' k] (hx : evA σ x = .os b 0 n0) (hO : O[b]? = some (some ob)) (hy : evA σ y = iA i) (h : 0 ≤ i ∧ i < (n0 : Int)) : Rd P s O σ (.indexAddr t x y) ty (.op b (0 + i.toNat * k)) := Rd.ixO hx hO hy h
theorem Rd.owMF {t e' : TypeId} {x : Operand} {b m f k0 : Nat} {c : Tr} [T : CA P t false] (hx : evA σ x = .op b (0 + i.toNat * m + f)) (hO : O[b]? = some (some ⟨.tr (eL xs), e', k0⟩)) (h : ixI xs i = some e) (hk : F.k = m) (hc : (enc e)[f]? = some c) : Rd P s O σ (.load t x) ty (.t c) := by
  obtain ⟨_, h2, rfl⟩ := ixI_spec h; exact Rd.ownF hx hO hk h2 hc
theorem PL.stRM {t e' : TypeId} {x y : Operand} {b k0 m : Nat} {v : AV} (x' : α) [Z : CS P t m] (hx : evA σ x = .op b (0 + i.toNat * m)) (hy : evA σ y = v) (hw : wholeA v = true) (hO : O[b]? = some (some ⟨.tr (eL xs), e', k0⟩)) (hk : F.k = m) (h : ixI xs i = some e) (hc : cellsA v = (enc x').map .t)
    (k : PL P n s ops rest Q σ (O.set b (some ⟨.tr (eL (xs.set i.toNat x')), e', k0⟩))) : PL P n s ops (⟨none, .store t x y, ty, pos, after, none⟩ :: rest) Q σ O := by
  obtain ⟨_, h2, rfl⟩ := ixI_spec h; exact PL.stR x' hx hy hw hO hk h2 hc k
theorem PL.stFM {t e' : TypeId} {x y : Operand} {b k0 m f : Nat} {c : Tr} (x' : α) [Z : CS P t 1] (hx : evA σ x = .op b (0 + i.toNat * m + f)) (hy : evA σ y = .t c) (hO : O[b]? = some (some ⟨.tr (eL xs), e', k0⟩)) (hk : F.k = m) (h : ixI xs i = some e) (hf : Nat.blt f m = true) (hc : enc x' = (enc e).set f c)
    (k : PL P n s ops rest Q σ (O.set b (some ⟨.tr (eL (xs.set i.toNat x')), e', k0⟩))) : PL P n s ops (⟨none, .store t x y, ty, pos, after, none⟩ :: rest) Q σ O := by
  obtain ⟨_, h2, rfl⟩ := ixI_spec h; exact PL.stF x' hx hy hO hk h2 (by simpa using hf) hc k
theorem Ef.lit0M (α : Type) [F : Enc α] {t e' : TypeId} {q : Nat} [T : CSl P t e'] [Z : CS P e' q] : Ef P s O σ (.buildSlice t 0 #[]) ty (.os O.length 0 0) (O ++ [some ⟨.tr (eL ([] : List α)), e', q⟩]) := Ef.lit0
/-- A nil slice among trees. -/
def nz : AV → AV
  | .t (.v (.slice none 0 0)) => .t (.sl 0 [])
  | x => x
theorem nz_rel {w : World} {U : Nat → Prop} {M : Mp} {c : AV} {y : Value} (h : Rel w U M c y) : Rel w U M (nz c) y := by
  unfold nz
  split
  · cases h with | t _ _ h => cases h; exact .t _ _ .nil
  · exact h
theorem Ef.convN {op : Op} {v : AV} {c c' : Cs} {e' : TypeId} {k : Nat} (h : c.list.map nz = c'.list) (H : Ef P s O σ op ty v (O ++ [some ⟨c, e', k⟩])) (hf : c.noFm = true := by rfl) : Ef P s O σ op ty v (O ++ [some ⟨c', e', k⟩]) := by
  intro M U w σc S hσ
  obtain ⟨y, w', p, h1, S', h3⟩ := H M U w σc S hσ
  refine ⟨y, w', p, h1, ⟨S'.base, S'.lent, by simpa using S'.len, S'.lt, S'.fresh, S'.sep, S'.fok, fun b ob x hO hM => ?_, S'.u, S'.tab⟩, h3⟩
  rcases snoc_get hO with h4 | ⟨h4, h5⟩
  · refine S'.own b ob x ?_ hM
    have := (List.getElem?_eq_some_iff.1 h4).1
    rw [List.getElem?_append_left this]; exact h4
  · cases h5
    have hb := S'.own b ⟨c, e', k⟩ x (by subst h4; simp) hM
    have hl : c'.list.length = c.list.length := by rw [← h]; simp
    cases x with
    | nl =>
      show c'.list = []
      have : c.list = [] := hb
      rw [this] at hl; exact List.eq_nil_of_length_eq_zero hl
    | dead => exact hb
    | fm F => obtain ⟨css, e, _⟩ := hb; simp only at e; rw [e] at hf; cases hf
    | ad L =>
      obtain ⟨g1, g2, cur, g3, g4, g5⟩ := hb
      refine ⟨g1, by show L.off + c'.list.length ≤ L.size; rw [hl]; exact g2, cur, g3, g4, fun j d hd => ?_⟩
      simp only [Ob.cells] at hd
      rw [← h, List.getElem?_map] at hd
      cases hq : c.list[j]? with
      | none => rw [hq] at hd; cases hd
      | some q =>
        rw [hq] at hd; simp at hd; subst hd
        obtain ⟨y, e1, e2, e3⟩ := g5 j q hq
        exact ⟨y, e1, e2, nz_rel e3⟩
theorem Ef.litM (ys : List α) (avs : List AV) {t e' : TypeId} {q len : Nat} {parts : Array (Nat × Operand)} {z : Value} [T : CSl P t e'] [Z : CS P e' q] [Y : CZ P e' z] (hz : z.cells.size = q) (hlen : avs.length = len) (hle : 0 < len * q ∧ len * q ≤ 16777216)
    (hw : avs.all wholeA = true) (hq : avs.all (fun c => Nat.beq (cellsA c).length q) = true) (hp : parts.toList.map (fun x => (x.1, evA σ x.2)) = (avs.zipIdx 0).map fun x => (x.2, x.1)) (hcs : (avs.flatMap cellsA).map nz = (ys.flatMap enc).map .t) : Ef P s O σ (.buildSlice t len parts) ty (.os O.length 0 len) (O ++ [some ⟨.tr (eL ys), e', q⟩]) :=
  Ef.convN (c := .mx (avs.flatMap cellsA)) hcs (Ef.lit avs hz hlen hle hw hq hp rfl)
theorem appM_spec {α : Type} {w : Nat} {xs ys zs : List α} (h : appM w xs ys = some zs) : zs = xs ++ ys ∧ (xs.length + ys.length) * w ≤ 140737488355328 ∧ xs.length + ys.length ≤ 4611686018427387904 := by
  unfold appM at h; split at h
  · rename_i hb; exact ⟨(Option.some.inj h).symm, hb⟩
  · cases h
/-- append to a slice of the call's own. -/
theorem PL.apM {m0 : Nat} (hm : s.L.length = m0) {t e' : TypeId} {x y : Operand} {b n0 m bytes k0 : Nat} {ya : AV} {ys zs : List α} [T : CSl P t e'] [Z : CE P e' k0 bytes] (hd : Nat.blt d n = true) (hx : evA σ x = .os b 0 n0) (hO : O[b]? = some (some ⟨.tr (eL xs), e', k0⟩)) (hy : evA σ y = ya)
    (hsrc : SrcA s (O.set b none) ya k0 m (eL ys)) (hb : Nat.ble m0 b = true) (hk : F.k = k0) (hn : n0 = xs.length) (hyl : m = ys.length) (h : appM bytes xs ys = some zs)
    (kk : PL P n s ops rest Q (updA σ d (.os O.length 0 zs.length)) (O.set b none ++ [some ⟨.tr (eL zs), e', k0⟩])) :
    PL P n s ops (⟨some d, .call { callee := .builtin .append, args := #[x, y], argTypes := #[t, t] }, ty, pos, after, none⟩ :: rest) Q σ O := by
  obtain ⟨h1, h2, h3⟩ := appM_spec h
  exact PL.appE hm ys zs hd hx hO hy hsrc hb hk hn hyl h1 h2 h3 kk
theorem flat_nil : ∀ ob, ob ∈ ([] : List Ob) → ob.flat := fun _ h => by cases h
theorem flat_cons {a : Ob} {l : List Ob} (h : a.flat) (t : ∀ ob, ob ∈ l → ob.flat) : ∀ ob, ob ∈ a :: l → ob.flat := fun ob hm => by
  rcases List.mem_cons.1 hm with rfl | hm
  · exact h
  · exact t ob hm
theorem Sb.nilE {z : Bool} {O : Obs} {ρ : Rho} : Sb z O ρ (sL ([] : List α)) (.t (.v (.slice none 0 0))) := .nil
end
/-- The result as a value, and the blocks that come with it. -/
abbrev RE (rv : AV) (rb : List Ob) : AV → List Ob → Prop := fun v bl => v = rv ∧ bl = rb
section
variable {P : Program} {n : Nat} {s : Bs} {Q : APost} {σ : Fr} {O : Obs} {ops : Array Oper} {rest : List Oper} {d : Nat} {ty : TypeId} {pos : String} {after : Array Edge} {xs : List Nat} {K : Fr → Obs → List Nat → Prop}
theorem PL.callM (z : Bool) (κ : List Nat) {f : FuncId} {O0 : List Ob} {args ds : List AV} {rv : AV} {rb : List Ob} {as' : List Operand} {ats : Array TypeId} (hc : FnX P f O0 args (RE rv rb)) (hd : Nat.blt d n = true)
    (hr : ∀ args w, (callFunc f args).run P w = .ok (.enter f args) w) (ha : as'.map (evA σ) = ds) (hs : SbL z O (κ.map some) args ds) (hnd : nodupB (κ.map some) = true) (hb : BlkL z O (κ.map some) (κ.map some) O0)
    (hfl : z = true → rv.flat ∧ ∀ ob, ob ∈ rb → ob.flat)
    (k : PL P n s ops rest Q (updA σ d (rv.ren (thet κ O.length))) (setK (O ++ (rb.drop κ.length).map (fun o => some (o.ren (thet κ O.length)))) κ (rb.map (·.ren (thet κ O.length))))) :
    PL P n s ops (⟨some d, .call { callee := .value (.func f), args := as'.toArray, argTypes := ats }, ty, pos, after, none⟩ :: rest) Q σ O :=
  PL.call z κ hc hd hr ha hs hnd hb (fun hz r bl h => by obtain ⟨rfl, rfl⟩ := h; exact hfl hz) (fun r bl h => by obtain ⟨rfl, rfl⟩ := h; exact k)
theorem PR.callM (z : Bool) (κ : List Nat) {f : FuncId} {O0 : List Ob} {args ds : List AV} {rv : AV} {rb : List Ob} {as' : List Operand} {ats : Array TypeId} (hc : FnX P f O0 args (RE rv rb)) (hd : Nat.blt d n = true)
    (hr : ∀ args w, (callFunc f args).run P w = .ok (.enter f args) w) (ha : as'.map (evA σ) = ds) (hs : SbL z O (κ.map some) args ds) (hnd : nodupB (κ.map some) = true) (hb : BlkL z O (κ.map some) (κ.map some) O0)
    (hfl : z = true → rv.flat ∧ ∀ ob, ob ∈ rb → ob.flat) (hκ : κ.all (fun b => xs.contains b) = true)
    (k : PR P n s ops xs rest K (updA σ d (rv.ren (thet κ O.length))) (setK (O ++ (rb.drop κ.length).map (fun o => some (o.ren (thet κ O.length)))) κ (rb.map (·.ren (thet κ O.length))))) :
    PR P n s ops xs (⟨some d, .call { callee := .value (.func f), args := as'.toArray, argTypes := ats }, ty, pos, after, none⟩ :: rest) K σ O :=
  PR.call z κ hc hd hr ha hs hnd hb (fun hz r bl h => by obtain ⟨rfl, rfl⟩ := h; exact hfl hz) hκ (fun r bl h => by obtain ⟨rfl, rfl⟩ := h; exact k)
/-- A function value's call, one argument. -/
theorem PL.callF1M {g : FuncId} {x a : Operand} {cs : List Tr} {A : AV} {v : Value} {ats : Array TypeId} (hc : Fn P g (A :: cs.map .t) (RE (.t (.v v)) [])) (hx : evA σ x = .t (.fn (.func g) cs)) (ha : evA σ a = A) (hd : Nat.blt d n = true)
    (hr : ∀ args w, (callFunc g args).run P w = .ok (.enter g args) w) (hA : Sb true O [] A A)
    (k : PL P n s ops rest Q (updA σ d (.t (.v v))) O) :
    PL P n s ops (⟨some d, .call { callee := .value x, args := #[a], argTypes := ats }, ty, pos, after, none⟩ :: rest) Q σ O :=
  PL.callF (as' := [a]) (ds := A :: cs.map .t) hx hc hd hr (by simp [ha]) ⟨hA, SbL.self cs⟩ k
end
section
variable {P : Program} {n : Nat} {s : Bs} {Q : APost} {σ : Fr} {O : Obs} {ops : Array Oper} {rest : List Oper} {d : Nat} {xs : List Nat} {K : Fr → Obs → List Nat → Prop} {v0 : AV}
theorem PL.nm (v : AV) (O' : Obs) (hv : v0 = v) (hO : O = O') (k : PL P n s ops rest Q (updA σ d v) O') : PL P n s ops rest Q (updA σ d v0) O := by subst hv; subst hO; exact k
theorem PL.nO (O' : Obs) (hO : O = O') (k : PL P n s ops rest Q σ O') : PL P n s ops rest Q σ O := by subst hO; exact k
theorem PR.nm (v : AV) (O' : Obs) (hv : v0 = v) (hO : O = O') (k : PR P n s ops xs rest K (updA σ d v) O') : PR P n s ops xs rest K (updA σ d v0) O := by subst hv; subst hO; exact k
theorem PR.nO (O' : Obs) (hO : O = O') (k : PR P n s ops xs rest K σ O') : PR P n s ops xs rest K σ O := by subst hO; exact k
end
section
variable {P : Program} {s : Bs} {σ : Fr} {O : Obs} {ty t t' : TypeId} {x y lo hi : Operand} {a b m n : Int}
theorem subM_spec {α : Type} {xs zs : List α} (h : subM xs a b = some zs) : ∃ l r : Nat, a = l ∧ b = r ∧ l ≤ r ∧ r ≤ xs.length ∧ zs = (xs.drop l).take (r - l) := by
  unfold subM at h; split at h
  · rename_i hb; exact ⟨a.toNat, b.toNat, by omega, by omega, by omega, by omega, (Option.some.inj h).symm⟩
  · cases h
section
variable {α : Type} [F : Enc α] {xs zs : List α} {e : TypeId} {k : Nat}
end
section
variable {u z : ByteArray}
end
end
/-- Zero values as trees. -/
def ZL : List Tr → List Value → Prop
  | [], [] => True
  | c :: cs, v :: vs => ((c = .v v ∧ plain v = true) ∨ (c = .sl 0 [] ∧ v = .slice none 0 0)) ∧ ZL cs vs
  | _, _ => False
theorem ZL.spec {w : World} {U : Nat → Prop} {M : Mp} : ∀ {cs : List Tr} {vs : List Value}, ZL cs vs → vs.length = cs.length ∧ ∀ (j : Nat) c, cs[j]? = some c → ∃ y, vs[j]? = some y ∧ y.oneCell' = true ∧ Rel w U M (.t c) y
  | [], [], _ => ⟨rfl, fun j c h => by simp at h⟩
  | [], v :: vs, h => by cases h
  | c :: cs, [], h => by cases h
  | c :: cs, v :: vs, ⟨h1, h2⟩ => by
    obtain ⟨h3, h4⟩ := ZL.spec (w := w) (U := U) (M := M) h2
    refine ⟨by simp [h3], fun j d hd => ?_⟩
    cases j with
    | zero =>
      simp at hd; subst hd
      rcases h1 with ⟨rfl, hp⟩ | ⟨rfl, rfl⟩
      · exact ⟨v, rfl, plain_cell hp, .t _ _ (.v _ hp)⟩
      · exact ⟨_, rfl, rfl, .t _ _ .nil⟩
    | succ j => simpa using h4 j d (by simpa using hd)
theorem ZL.app : ∀ {cs ds : List Tr} {vs ws : List Value}, ZL cs vs → ZL ds ws → ZL (cs ++ ds) (vs ++ ws)
  | [], _, [], _, _, h => h
  | [], _, v :: vs, _, h, _ => by cases h
  | c :: cs, _, [], _, h, _ => by cases h
  | c :: cs, _, v :: vs, _, ⟨h1, h2⟩, h => ⟨h1, ZL.app h2 h⟩
def mkM {α : Type} (w : Nat) (z : α) (n : Int) : Option (List α) := if 0 ≤ n ∧ (w : Int) * n ≤ 281474976710656 ∧ n ≤ 4611686018427387904 then some (List.replicate n.toNat z) else none
theorem run_make {P : Program} {w : World} {σc : Nat → Value} {ty t e : TypeId} {q bytes : Nat} {z : Value} {x y : Operand} {m : Nat} [T : CSl P t e] [Z : CS P e q] [Y : CZ P e z] [B : CY P e bytes] (hx : ev σc x = .int .i64 (m : Int)) (hy : ev σc y = .int .i64 (m : Int))
    (hb : bytes * m ≤ 281474976710656) (hm : m ≤ 4611686018427387904) (hz : z.cells.size = q) (hq : 0 < q) :
    Yl P σc (.makeSlice t x y) ty w (.slice (some ⟨w.heap.size, 0, none⟩) m m) (w.alloc (.cells ((List.range m).flatMap fun _ => z.cells.toList).toArray e)) := by
  have hw := R.wrap_in (n := (m : Int)) (by omega)
  obtain ⟨i, hi, hby⟩ := B.run w
  have hcell : (if m * q = 0 then (#[] : Array Value) else z.cells).size = q ∨ m = 0 := by
    by_cases h : m = 0
    · exact .inr h
    · left; rw [if_neg (Nat.mul_ne_zero h (by omega))]; exact hz
  have hcs : (Array.range (m * q)).map (fun i => (if m * q = 0 then (#[] : Array Value) else z.cells)[i % (if m * q = 0 then (#[] : Array Value) else z.cells).size]!) = ((List.range m).flatMap fun _ => z.cells.toList).toArray := by
    rcases hcell with h | h
    · by_cases h0 : m * q = 0
      · have : m = 0 := by rcases Nat.mul_eq_zero.1 h0 with h1 | h1 <;> omega
        subst this; simp
      · rw [if_neg h0, hz]
        apply Array.ext'
        simp only [Array.toList_map, Array.toList_range]
        clear hx hy hb hm hw h h0
        induction m with
        | zero => simp
        | succ m ih =>
          rw [Nat.add_mul, Nat.one_mul, List.range_add, List.map_append, ih, List.range_succ, List.flatMap_append]
          congr 1
          simp only [List.map_map, List.flatMap_cons, List.flatMap_nil, List.append_nil]
          apply List.ext_getElem
          · simp [hz]
          · intro i h1 h2
            simp at h1 h2
            have : (m * q + i) % q = i := by rw [Nat.mul_comm, Nat.mul_add_mod]; exact Nat.mod_eq_of_lt (by omega)
            simp [this, h2]
    · subst h; simp
  refine Yl.mk fun d pos after g => ?_
  have h1 : ¬ ((281474976710656 : Int) < (bytes : Int) * (m : Int)) := by
    have : ((bytes * m : Nat) : Int) = (bytes : Int) * (m : Int) := by simp
    omega
  have h2 : ¬ ((m : Int) < 0) := by omega
  have hmq : (m : Int).toNat = m := by simp
  by_cases h0 : m * q = 0
  · simp only [h0, if_true] at hcs
    simp [execOp, hx, hy, Instr.makeSlice, T.run, asInt, asIntOf, hi, hby, hw, h1, h2, Z.run, h0, newRow] at hcs ⊢
    rw [hcs]
  · simp only [h0, if_false] at hcs
    simp [execOp, hx, hy, Instr.makeSlice, T.run, asInt, asIntOf, hi, hby, hw, h1, h2, Z.run, Y.run, h0, newRow] at hcs ⊢
    rw [hcs]
theorem ZL.rep {α : Type} [F : Enc α] {z0 : α} {vs : List Value} (h : ZL (enc z0) vs) : ∀ m, ZL (eL (List.replicate m z0)) ((List.range m).flatMap fun _ => vs)
  | 0 => trivial
  | m + 1 => by
    rw [List.replicate_succ', eL_app, eL_one, List.range_succ, List.flatMap_append]
    exact (ZL.rep h m).app (by simpa using h)
theorem Ef.makeM {α : Type} [F : Enc α] (z0 : α) {P : Program} {s : Bs} {σ : Fr} {O : Obs} {ty t e : TypeId} {q bytes : Nat} {z : Value} {x y : Operand} {n : Int} {zs : List α} [T : CSl P t e] [Z : CS P e q] [Y : CZ P e z] [B : CY P e bytes] (hx : evA σ x = iA n) (hy : evA σ y = iA n)
    (h : mkM bytes z0 n = some zs) (hk : F.k = q) (hz : z.cells.size = q) (hq : Nat.blt 0 q = true) (hzl : ZL (enc z0) z.cells.toList) : Ef P s O σ (.makeSlice t x y) ty (.os O.length 0 zs.length) (O ++ [some ⟨.tr (eL zs), e, q⟩]) := by
  unfold mkM at h
  split at h
  · rename_i hb
    cases h
    obtain ⟨m, rfl⟩ := Int.eq_ofNat_of_zero_le hb.1
    have hq' : 0 < q := by simpa using hq
    have hbm : bytes * m ≤ 281474976710656 := by
      have : ((bytes * m : Nat) : Int) = (bytes : Int) * (m : Int) := by simp
      omega
    have hm : m ≤ 4611686018427387904 := by omega
    intro M U w σc S hσ
    have ex := evA_rel hσ x; rw [hx] at ex
    have ey := evA_rel hσ y; rw [hy] at ey
    simp only [Int.toNat_natCast, List.length_replicate]
    have hlen : ((List.range m).flatMap fun _ => z.cells.toList).length = m * q := by
      rw [(ZL.spec (w := w) (U := U) (M := M) (hzl.rep m)).1, eL_len, hk, List.length_replicate]
    obtain ⟨S', hall2⟩ := S.ins (w' := w.alloc (.cells ((List.range m).flatMap fun _ => z.cells.toList).toArray e)) (L := ⟨w.heap.size, m * q, q⟩) (ob := ⟨.tr (eL (List.replicate m z0)), e, q⟩) ((Below.refl _ _).alloc (Nat.le_refl _) _) (Nat.le_refl _) (by simp)
      ⟨_, rfl, by simp [Ob.cells, Cs.list, Loc.off, eL_len, hk], heap_alloc_new _ _, by simpa using hlen, fun j c hj => by
        simp only [Ob.cells, Cs.list, List.getElem?_map] at hj
        cases hq : (eL (List.replicate m z0))[j]? with
        | none => rw [hq] at hj; cases hj
        | some q =>
          rw [hq] at hj; simp at hj; subst hj
          obtain ⟨y, h1, h2, h3⟩ := (ZL.spec (w := w) (U := U) (M := M) (hzl.rep m)).2 j q hq
          exact ⟨y, by simpa [Loc.off] using h1, h2, h3⟩⟩
    refine ⟨_, _, _, run_make ex.int ey.int hbm hm hz hq', S', ?_, hall2, BelowX.of _ ((Below.refl _ _).alloc (Nat.le_refl _) _), fun B h => Nat.le_of_eq h⟩
    have hml : maxLen = 9223372036854775807 := rfl
    exact .os (U := U) (M := M ++ [.ad ⟨w.heap.size, m * q, q⟩]) O.length 0 m m ⟨w.heap.size, m * q, q⟩ (snoc_new S.len.symm) (by simp [Loc.off]) (Nat.le_refl _) (by omega)
  · cases h
section
variable {P : Program} {n : Nat} {s : Bs} {Q Q' : APost} {σ : Fr} {O : Obs}
theorem PC.monoQ {c : Code} (h : PC P n s c Q σ O) (hq : ∀ e σ O, Q e σ O → Q' e σ O) : PC P n s c Q' σ O := by
  refine ⟨fun M U σc w S hσ => (h.h M U σc w S hσ).mono ?_⟩
  rintro e τ w' ⟨M', U', σ', O', S', hσ', h1⟩
  exact ⟨M', U', σ', O', S', hσ', hq _ _ _ h1⟩
/-- The first part ends in a state that is told; the second part goes on from it. -/
theorem PC.cut {m : Nat} (hm : s.L.length = m) {α : Type} {x y : Code} (L : α → List (Nat × AV)) (B : α → List Ob) (J : α → Prop)
    (h1 : PC P n s x (thA (fun σ' O' => ∃ a, J a ∧ ∃ ρ, Rs m σ' O' ρ (L a) (B a)) Q) σ O) (h2 : ∀ a, J a → PC P n s y Q (ovA (L a)) ((B a).map some)) : PC P n s (.seq x y) Q σ O := by
  refine PC.seq (h1.monoQ fun e σ' O' hq => ?_)
  cases e with
  | normal =>
    obtain ⟨a, hj, ρ, hR⟩ := hq
    exact PC.told hm (L a) (B a) ρ hR (h2 a hj)
  | _ => exact hq
/-- The same, with nothing behind it in its sequence. -/
theorem PC.cutE {m : Nat} (hm : s.L.length = m) {α : Type} {x : Code} (L : α → List (Nat × AV)) (B : α → List Ob) (J : α → Prop)
    (h1 : PC P n s x (thA (fun σ' O' => ∃ a, J a ∧ ∃ ρ, Rs m σ' O' ρ (L a) (B a)) Q) σ O) (h2 : ∀ a, J a → Q .normal (ovA (L a)) ((B a).map some)) : PC P n s x Q σ O := by
  refine ⟨fun M U σc w S hσ => (h1.h M U σc w S hσ).mono ?_⟩
  rintro e τ w' ⟨M', U', σ', O', S', hσ', hq⟩
  cases e with
  | normal =>
    obtain ⟨a, hj, ρ, hR⟩ := hq
    exact ⟨_, _, _, _, S'.told hm hR.lent hR.nodup hR.blk, hR.pins.rels S' hσ', h2 a hj⟩
  | _ => exact ⟨M', U', σ', O', S', hσ', hq⟩
end
end V
end Go.Proofs.Ytmnjnkcooofgjaa
namespace Go.Proofs.Ytmnjnkcooofgjaa
namespace V
open Enc (enc)
set_option linter.unusedVariables false
set_option linter.unusedSimpArgs false
open Go.RowKit Go.ChangeShapes Go.WideShapes Go.ChangeAt
/-- Cells that stand for trees. -/
def TL (w : World) (U : Nat → Prop) (cs : List Tr) (ys : List Value) : Prop :=
  ys.length = cs.length ∧ (∀ y, y ∈ ys → y.oneCell' = true) ∧ ∀ (j : Nat) c y, cs[j]? = some c → ys[j]? = some y → TRel w U c y
theorem TL.nil {w : World} {U : Nat → Prop} : TL w U [] [] := ⟨rfl, fun y h => (List.not_mem_nil h).elim, fun j c y h => by simp at h⟩
theorem TL.app {w : World} {U : Nat → Prop} {cs ds : List Tr} {ys zs : List Value} (h1 : TL w U cs ys) (h2 : TL w U ds zs) : TL w U (cs ++ ds) (ys ++ zs) := by
  refine ⟨by simp [h1.1, h2.1], fun y h => (List.mem_append.1 h).elim (h1.2.1 y) (h2.2.1 y), fun j c y hc hy => ?_⟩
  rcases Nat.lt_or_ge j cs.length with hj | hj
  · rw [List.getElem?_append_left hj] at hc
    rw [List.getElem?_append_left (by rw [h1.1]; exact hj)] at hy
    exact h1.2.2 j c y hc hy
  · rw [List.getElem?_append_right hj] at hc
    rw [List.getElem?_append_right (by rw [h1.1]; exact hj), h1.1] at hy
    exact h2.2.2 _ c y hc hy
theorem TL.one {w : World} {U : Nat → Prop} {c : Tr} {y : Value} (h1 : y.oneCell' = true) (h : TRel w U c y) : TL w U [c] [y] := by
  refine ⟨rfl, fun z hz => by simp at hz; subst hz; exact h1, fun j d z hc hz => ?_⟩
  cases j with
  | zero => simp at hc hz; subst hc hz; exact h
  | succ j => simp at hc
/-- Plain data as Go can hold it. -/
class Szd (α : Type) where szd : α → Prop
open Szd (szd)
instance : Szd Int := ⟨fun n => -9223372036854775808 ≤ n ∧ n ≤ 9223372036854775807⟩
instance : Szd Bool := ⟨fun _ => True⟩
instance : Szd UInt8 := ⟨fun _ => True⟩
instance : Szd ByteArray := ⟨fun s => s.size ≤ 9223372036854775807⟩
instance {α : Type} [Szd α] : Szd (List α) := ⟨fun xs => xs.length ≤ 9223372036854775807 ∧ ∀ x ∈ xs, szd x⟩
/-- What the rows read at a type is some plain value. -/
class Opn (P : Program) (α : Type) [Enc α] [Szd α] (t : TypeId) : Prop where
  opn : ∀ {H : Type} {en : TypeId × Value → H} {W : World} {fuel : Nat} {cs : List Value} {x : DataW H × List MemPlace}, DataW.trod en P W 0 (fun _ => true) true fuel t cs = some x → ∃ a : α, TL W (· < W.heap.size) (enc a) cs ∧ szd a
section
variable {P : Program} {t : TypeId}
theorem Opn.int (ht : P.underlying t = some (.int .i64)) : Opn P Int t := ⟨fun h => by
  obtain ⟨n, rfl, rfl, hw⟩ := DataW.trod_int ht h
  exact ⟨n, TL.one rfl (.v _ rfl), by simpa [Lit.wf, IntKind.min, IntKind.max, IntKind.signed, IntKind.bits, szd] using hw⟩⟩
theorem Opn.bool (ht : P.underlying t = some .bool) : Opn P Bool t := ⟨fun h => by
  obtain ⟨n, rfl, rfl⟩ := DataW.trod_bool ht h
  exact ⟨n, TL.one rfl (.v _ rfl), trivial⟩⟩
theorem Opn.str (ht : P.underlying t = some .string) : Opn P ByteArray t := ⟨fun h => by
  obtain ⟨n, rfl, rfl, hw⟩ := DataW.trod_string ht h
  exact ⟨n, TL.one rfl (.v _ rfl), hw⟩⟩
theorem spot_none {w : World} {a : Addr} {v : Value} (h : w.cell? a = some v) : a.spot = none := by
  unfold World.cell? at h
  split at h
  · split at h
    · cases h
    · simpa using ‹¬ a.spot.isSome = true›
  · cases h
theorem cell_lt {w : World} {a : Addr} {v : Value} (h : w.cell? a = some v) : a.block < w.heap.size := by
  unfold World.cell? at h
  split at h
  · rename_i hq
    exact (Array.getElem?_eq_some_iff.1 hq).1
  · cases h
theorem addr_add' {B o j : Nat} : Addr.add ⟨B, o, none⟩ j = ⟨B, o + j, none⟩ := by unfold Addr.add; split <;> simp_all
theorem addr_add2 (a : Addr) (i j : Nat) : (a.add i).add j = a.add (i + j) := by unfold Addr.add; by_cases hi : i = 0 <;> by_cases hj : j = 0 <;> simp [hi, hj, Nat.add_assoc]
theorem Opn.sl {α : Type} [F : Enc α] [Szd α] {e : TypeId} (ht : P.underlying t = some (.slice e)) (hc : P.cellsOf e = F.k) (hpos : 0 < F.k) [E : Opn P α e] : Opn P (List α) t := ⟨fun {H en W fuel cs x} h => by
  rcases Go.Deep.open_slice ht h with ⟨rfl, rfl⟩ | ⟨a, len, cap, m, n, D, Pl, rfl, _, hl, hm, hmm, rfl, hel⟩
  · exact ⟨[], TL.one rfl .nil, by simp, fun x hx => by cases hx⟩
  · simp only [if_pos] at hmm
    have hm' : cap ≤ 9223372036854775807 := hm
    -- the elements, one by one
    have key : ∀ k, k ≤ len → ∃ (xs : List α) (ys : List Value), xs.length = k ∧ TL W (· < W.heap.size) (eL xs) ys ∧ (∀ x ∈ xs, szd x) ∧ ∀ (j : Nat) y, ys[j]? = some y → W.cell? (a.add j) = some y := by
      intro k
      induction k with
      | zero => intro _; exact ⟨[], [], rfl, TL.nil, fun x hx => (List.not_mem_nil hx).elim, fun j y hy => (by simp at hy)⟩
      | succ k ih =>
        intro hk
        obtain ⟨xs, ys, h1, h2, h3, h4⟩ := ih (by omega)
        obtain ⟨cs', h5, h6⟩ := hel k (by omega)
        obtain ⟨x, h7, h8⟩ := E.opn h6
        obtain ⟨_, hcl, hcg⟩ := World.cells?_some h5
        have hyl : ys.length = k * F.k := by rw [h2.1, eL_len, h1]
        refine ⟨xs ++ [x], ys ++ cs', by simp [h1], ?_, fun y hy => ?_, fun j y hy => ?_⟩
        · rw [eL_app, eL_one]; exact h2.app h7
        · rcases List.mem_append.1 hy with hy | hy
          · exact h3 y hy
          · simp at hy; subst hy; exact h8
        · rcases Nat.lt_or_ge j ys.length with hj | hj
          · rw [List.getElem?_append_left hj] at hy; exact h4 j y hy
          · rw [List.getElem?_append_right hj] at hy
            have hjl := (List.getElem?_eq_some_iff.1 hy).1
            have := hcg (j - ys.length) (by omega)
            rw [hy, hyl] at this
            rw [addr_add2, hc] at this
            rw [← this]
            congr 2; omega
    obtain ⟨xs, ys, h1, h2, h3, h4⟩ := key len (Nat.le_refl _)
    subst h1
    refine ⟨xs, ?_, by show xs.length ≤ 9223372036854775807; omega, h3⟩
    by_cases h0 : xs.length = 0
    · obtain rfl := List.eq_nil_of_length_eq_zero h0
      exact TL.one rfl (.sl0 _ _)
    · have hne : 0 < ys.length := by rw [h2.1, eL_len]; exact Nat.mul_pos (by omega) hpos
      have c0 := h4 0 _ (List.getElem?_eq_getElem hne)
      have hsp : a.spot = none := spot_none (by simpa [Addr.add] using c0)
      have hb := cell_lt c0
      obtain ⟨B, o, s⟩ := a
      simp only at hsp; subst hsp
      rw [addr_add'] at hb
      exact TL.one rfl (.sl B o xs.length cap (eL xs) ys hb h2.1 h2.2.1 (fun j y hy => by have := h4 j y hy; rwa [addr_add'] at this) h2.2.2 hl)⟩
/-- The fields of a struct, one after the other. -/
theorem opn_fields {H : Type} {en : TypeId × Value → H} {W : World} {fs : Array Field} {fuel : Nat} {cs : List Value} {x : DataW H × List MemPlace} (ht : P.underlying t = some (.struct fs)) (h : DataW.trod en P W 0 (fun _ => true) true fuel t cs = some x) :
    cs.length = P.cellsOf t ∧ ∀ (i : Nat) (f : Field), fs[i]? = some f → ∃ n y, DataW.trod en P W 0 (fun _ => true) true n f.type ((cs.drop f.offset).take (P.cellsOf f.type)) = some y := by
  obtain ⟨xs, n, rfl, rfl, h1, h2, h3⟩ := DataW.trod_struct ht h
  refine ⟨h1, fun i f hf => ?_⟩
  have := h3 i f hf
  obtain ⟨hi, _⟩ := Array.getElem?_eq_some_iff.1 hf
  exact ⟨n, xs[i], by rw [this, List.getElem?_eq_getElem (by omega)]⟩
/-- An argument of a law. -/
theorem Opn.arg {α : Type} [F : Enc α] [Szd α] {H : Type} {en : TypeId × Value → H} {W : World} {v : Value} {d : DataW H} {ps : List MemPlace} (E : Opn P α t) (hk : ∀ a : α, (enc a).length = 1) (hv : v.cells = #[v]) (h : DataW.Trod en P W 0 (fun _ => true) true t v d ps) :
    ∃ a : α, (∀ M, ∀ c, (enc a)[0]? = some c → Rel W (· < W.heap.size) M (.t c) v) ∧ szd a := by
  obtain ⟨fuel, hf⟩ := h
  rw [hv] at hf
  obtain ⟨a, h1, h2⟩ := E.opn hf
  exact ⟨a, fun M c hc => .t _ _ (h1.2.2 0 c v hc rfl), h2⟩
theorem Opn.argS {α : Type} [F : Enc α] [Szd α] {H : Type} {en : TypeId × Value → H} {W : World} {cs : Array Value} {d : DataW H} {ps : List MemPlace} (E : Opn P α t) (h : DataW.Trod en P W 0 (fun _ => true) true t (.agg cs) d ps) :
    ∃ a : α, (∀ M, Rel W (· < W.heap.size) M (.agg ((enc a).map .t)) (.agg cs)) ∧ szd a := by
  obtain ⟨fuel, hf⟩ := h
  obtain ⟨a, h1, h2⟩ := E.opn hf
  refine ⟨a, fun M => ?_, h2⟩
  have h1' : TL W (· < W.heap.size) (enc a) cs.toList := h1
  have : Rel W (· < W.heap.size) M (.agg ((enc a).map .t)) (.agg cs.toList.toArray) := .agg _ _ (by simp [h1'.1]) h1'.2.1 fun j c y hc hy => by
    rw [List.getElem?_map] at hc
    obtain ⟨c', hc', rfl⟩ := Option.map_eq_some_iff.1 hc
    exact .t _ _ (h1'.2.2 j c' y hc' hy)
  simpa using this
theorem TL.step {W : World} {U : Nat → Prop} {c d : List Tr} {cs : List Value} {i j m : Nat} (h : TL W U c ((cs.drop i).take m)) (hr : TL W U d (cs.drop j)) (hj : j = i + m) : TL W U (c ++ d) (cs.drop i) := by
  have := h.app hr
  rw [hj, ← List.drop_drop, List.take_append_drop] at this
  exact this
theorem TL.fin {W : World} {U : Nat → Prop} {cs : List Value} {k : Nat} (h : cs.length = k) : TL W U [] (cs.drop k) := by
  rw [List.drop_of_length_le (by omega)]; exact TL.nil
theorem args3 {w : World} {U : Nat → Prop} {M : Mp} {a b d : AV} {y z u : Value} (h : Rel w U M a y) (h' : Rel w U M b z) (h2 : Rel w U M d u) : ArgsRel w U M [a, b, d] [y, z, u] :=
  ⟨rfl, fun i c z hc hz => by
    match i with
    | 0 => cases hc; cases hz; exact h
    | 1 => cases hc; cases hz; exact h'
    | 2 => cases hc; cases hz; exact h2
    | i + 3 => simp at hc⟩
theorem own : ownKnob Try.prog.godebug = none := by kernel_rfl
theorem laidOut : laidOutB Try.prog = true := by kernel_rfl
/-- What the call of a law comes to, from the start of a run. -/
theorem law_run {f : FuncId} {args : List AV} {av : List Value} {W : World} (ht : TabOk W (· < W.heap.size)) (hc : FnX P f [] args (RE (bA true) [])) (ha : ArgsRel W (· < W.heap.size) [] args av) : Calls P f av.toArray W fun e W' => e = .returned (.bool true) ∧ Below W.heap.size W W' := by
  have := hc ⟨W, [], (· < W.heap.size)⟩ (· < W.heap.size) av ?_ (fun B h => h) ha
  · refine this.mono ?_
    rintro e w' ⟨v, r, bl, M', U', rfl, ⟨rfl, rfl⟩, h3, h4⟩
    cases h3 with | t _ _ h =>
    cases h
    refine ⟨rfl, ?_⟩
    exact h4.base.below
  · have hno : ∀ B, ¬ InM [] B := fun B ⟨b, p, h, _⟩ => by simp at h
    exact ⟨BelowX.refl _ _, fun b x h => by simp at h, rfl, fun B h => (hno B h).elim, fun B h => (hno B h).elim, fun b b' p p' B h => by simp at h, fun f F h => by simp at h, fun b ob x h => by simp at h, fun B h => ⟨⟨h, hno B⟩, .inl h⟩, ht⟩
end
end V
end Go.Proofs.Ytmnjnkcooofgjaa
namespace Go.Proofs.Ytmnjnkcooofgjaa
namespace V
open Enc (enc)
set_option linter.unusedVariables false
set_option linter.unusedSimpArgs false
open Go.RowKit
theorem text_inj {x y : ByteArray} (h : x.toList = y.toList) : x = y := by
  rw [ByteArray.toList_eq, ByteArray.toList_eq] at h
  exact ByteArray.ext (Array.ext' h)
theorem textEq (x y : ByteArray) : (x.toList == y.toList) = decide (x = y) := by
  by_cases h : x = y
  · subst h; simp
  · have : x.toList ≠ y.toList := fun e => h (text_inj e)
    simp [h, this]
variable {P : Program} {w : World}
/-- Codes tell values apart. -/
class EncI (α : Type) [Enc α] : Prop where inj : ∀ a b : α, enc a = enc b → a = b
section
variable {s : Bs} {O : Obs} {σ : Fr} {ty t t' : TypeId} {x y : Operand} {α : Type} [Enc α] [F : EncF α] [I : EncI α] [DecidableEq α] {a b : α} {ks : List Nat}
end
end V
end Go.Proofs.Ytmnjnkcooofgjaa
namespace Go.Proofs.Ytmnjnkcooofgjaa
namespace V
open Enc (enc)
set_option linter.unusedVariables false
set_option linter.unusedSimpArgs false
open Go.RowKit
def i2b (n : Int) : UInt8 := UInt8.ofNat (n % 256).toNat
def b2s (xs : List UInt8) : ByteArray := ⟨xs.toArray⟩
theorem i2b_toNat (n : Int) : ((i2b n).toNat : Int) = n % 256 := by
  unfold i2b
  have h1 : 0 ≤ n % 256 := Int.emod_nonneg _ (by decide)
  have h2 : n % 256 < 256 := Int.emod_lt_of_pos _ (by decide)
  rw [UInt8.toNat_ofNat']
  have h3 : (n % 256).toNat % 2 ^ 8 = (n % 256).toNat := Nat.mod_eq_of_lt (by omega)
  rw [h3]; omega
theorem wrap_u8 (n : Int) : IntKind.u8.wrap n = ((i2b n).toNat : Int) := by
  rw [i2b_toNat]; rfl
theorem eL_u8map : ∀ us : List UInt8, eL us = us.map fun u => Tr.v (.int .u8 u.toNat)
  | [] => rfl
  | u :: us => by rw [eL_cons, eL_u8map us]; rfl
theorem eL_u8 {us : List UInt8} {j : Nat} {v : UInt8} (h : us[j]? = some v) : (eL us)[j]? = some (.v (.int .u8 v.toNat)) := by
  rw [eL_u8map, List.getElem?_map, h]; rfl
section
variable {α : Type} [F : Enc α] {P : Program} {n : Nat} {s : Bs} {Q : APost} {σ : Fr} {O : Obs} {ops : Array Oper} {rest : List Oper} {d : Nat} {ty t t' : TypeId} {pos : String} {after : Array Edge} {x y hi : Operand} {xs zs : List α} {h : Int}
theorem Rd.toU8 {m : Int} [T : CIn P t] [T' : CU8 P t'] (hx : evA σ x = iA m) : Rd P s O σ (.convert t t' x) ty (.t (.v (.int .u8 (i2b m).toNat))) :=
  Rd.of1 hx rfl fun _ _ h1 => Yl.mk fun d pos after g => by simp [execOp, h1, convert, T.run, T'.run, Conv.intToInt, wrap_u8]
theorem run_b2s {w : World} {σc : Nat → Value} {e : TypeId} [T : CSl P t e] [T8 : CU8 P e] [TS : CSt P t'] {B o cap : Nat} {us : List UInt8} (hx : ev σc x = .slice (some ⟨B, o, none⟩) us.length cap)
    (hc : ∀ (j : Nat) u, us[j]? = some u → w.cell? ⟨B, o + j, none⟩ = some (.int .u8 u.toNat)) : Yl P σc (.convert t t' x) ty w (.string (b2s us)) w := Yl.mk fun d pos after g => by
  have hl : (loadCells ⟨B, o, none⟩ us.length).run P w = .ok ((us.map fun u => (u.toNat : Int)).map (Value.int .u8)).toArray w := by
    have := run_loadCells_list (P := P) w ⟨B, o, none⟩ ((us.map fun u => (u.toNat : Int)).map (Value.int .u8)) (fun j v hj => by
      rw [Rd.addr_add]
      simp only [List.getElem?_map] at hj
      cases hq : us[j]? with
      | none => rw [hq] at hj; cases hj
      | some u => rw [hq] at hj; simp at hj; subst hj; exact hc j u hq)
    simpa using this
  have hs := run_bytesToString (P := P) w ⟨B, o, none⟩ us.length cap (us.map fun u => (u.toNat : Int)) hl
  have he : (us.map fun u => (u.toNat : Int)).foldl (fun r n => r.push (UInt8.ofNat n.toNat)) ByteArray.empty = b2s us := by
    have hid : ((fun n : Int => UInt8.ofNat n.toNat) ∘ fun u : UInt8 => (u.toNat : Int)) = id := funext fun u => by simp
    rw [foldl_push_bytes]
    unfold b2s ByteArray.empty ByteArray.emptyWithCapacity
    congr 1
    apply Array.ext'
    simp only [List.map_map, hid, List.map_id, Array.toList_append]
    rfl
  rw [he] at hs
  simp [execOp, hx, convert, T.run, T8.run, TS.run, hs]
theorem run_b2s_nil {w : World} {σc : Nat → Value} {e : TypeId} [T : CSl P t e] [T8 : CU8 P e] [TS : CSt P t'] {l cap : Nat} (hx : ev σc x = .slice none l cap) : Yl P σc (.convert t t' x) ty w (.string (b2s [])) w := Yl.mk fun d pos after g => by
  have : b2s [] = ByteArray.empty := rfl
  simp [execOp, hx, convert, T.run, T8.run, TS.run, Conv.bytesToString, this]
theorem run_b2s_0 {w : World} {σc : Nat → Value} {e : TypeId} [T : CSl P t e] [T8 : CU8 P e] [TS : CSt P t'] {a : Addr} {cap : Nat} (hx : ev σc x = .slice (some a) 0 cap) : Yl P σc (.convert t t' x) ty w (.string (b2s [])) w := Yl.mk fun d pos after g => by
  have hl : (loadCells a 0).run P w = .ok (([] : List Int).map (Value.int .u8)).toArray w := by
    have := run_loadCells_list (P := P) w a [] (fun j v hj => by simp at hj)
    simpa using this
  have hs := run_bytesToString (P := P) w a 0 cap [] hl
  have : b2s [] = ByteArray.empty := rfl
  simp [execOp, hx, convert, T.run, T8.run, TS.run, hs, this]
/-- The text of bytes that are the call's own. -/
theorem Rd.b2sO {us : List UInt8} {e e' : TypeId} {b n0 k0 : Nat} [T : CSl P t e] [T8 : CU8 P e] [TS : CSt P t'] (hx : evA σ x = .os b 0 n0) (hO : O[b]? = some (some ⟨.tr (eL us), e', k0⟩)) (hn : n0 = us.length) : Rd P s O σ (.convert t t' x) ty (sA (b2s us)) := by
  intro M U w σc S hσ
  have e := evA_rel hσ x; rw [hx] at e
  generalize hu : ev σc x = u at e
  refine ⟨.string (b2s us), .t _ _ (.v _ rfl), fun w' A => ?_⟩
  cases e with
  | osn => have : us = [] := List.eq_nil_of_length_eq_zero hn.symm; subst this; exact run_b2s_nil hu
  | osd _ _ _ _ _ hM => exact (S.own _ _ _ hO hM).elim
  | osz => have : us = [] := List.eq_nil_of_length_eq_zero hn.symm; subst this; exact run_b2s_0 hu
  | os _ _ _ cap L hM hcap hle hx1 =>
    subst hn
    obtain ⟨h1, h2, cur, h3, h4, h5⟩ := S.own _ _ _ hO hM
    refine run_b2s (o := L.off + 0) hu fun j v hj => ?_
    have hj' := (List.getElem?_eq_some_iff.1 hj).1
    have hE := eL_u8 hj
    obtain ⟨y, g1, g2, g3⟩ := h5 j (.t (.v (.int .u8 v.toNat))) (by simp [Ob.cells, Cs.list, hE])
    have hw : w'.heap[L.blk]? = some (.cells cur e' (0, 0)) := by rw [A.own S hM hO]; exact h3
    rw [cell_of_row w' _ _ cur _ _ hw, show L.off + 0 + j = L.off + j by omega, g1]
    cases g3 with | t _ _ h => cases h; rfl
/-- An own slice cut short: what lies behind is forgotten. -/
theorem PL.cutM {e : TypeId} {b n0 k k0 : Nat} [T : CSl P t e] [Z : CS P e k] (hd : Nat.blt d n = true) (hx : evA σ x = .os b 0 n0) (hO : O[b]? = some (some ⟨.tr (eL xs), e, k0⟩)) (hn : n0 = xs.length) (hh : evA σ hi = iA h) (hz : V.subM xs 0 h = some zs)
    (kk : PL P n s ops rest Q (updA σ d (.os b 0 zs.length)) (O.set b (some ⟨.tr (eL zs), e, k0⟩))) : PL P n s ops (⟨some d, .slice t x none (some hi) none, ty, pos, after, none⟩ :: rest) Q σ O := by
  obtain ⟨l, r, h1, rfl, h3, h4, rfl⟩ := subM_spec hz
  obtain rfl : l = 0 := by omega
  simp only [List.drop_zero, Nat.sub_zero] at kk ⊢
  have hlen : (xs.take r).length = r := by simp; omega
  rw [hlen] at kk
  have hb : b < O.length := (List.getElem?_eq_some_iff.1 hO).1
  refine PL.eff hd (fun M U w σc S hσ => ?_) kk
  have e1 := evA_rel hσ x; rw [hx] at e1
  have e2 := evA_rel hσ hi; rw [hh] at e2
  have hi' := e2.int
  generalize hu : ev σc x = u at e1
  have hS : Mem s M (O.set b (some ⟨.tr (eL (xs.take r)), e, k0⟩)) U w := by
    refine ⟨S.base, S.lent, by simp [S.len], S.lt, S.fresh, S.sep, S.fok, fun b1 ob x1 hO1 hM1 => ?_, S.u, S.tab⟩
    by_cases hbb : b1 = b
    · subst hbb
      rw [List.getElem?_set_self hb] at hO1; cases hO1
      have hown := S.own _ _ _ hO hM1
      cases x1 with
      | dead => exact hown
      | nl =>
        show (eL (xs.take r)).map AV.t = []
        have : (eL xs).map AV.t = [] := hown
        have : eL xs = [] := by simpa using this
        rw [← eL_take, this]; simp
      | fm F => obtain ⟨css, e, _⟩ := hown; cases e
      | ad L =>
        obtain ⟨g1, g2, cur, g3, g4, g5⟩ := hown
        refine ⟨g1, ?_, cur, g3, g4, fun j c hc => g5 j c ?_⟩
        · simp only [Ob.cells, Cs.list, List.length_map] at g2 ⊢
          rw [← eL_take, List.length_take]; omega
        · simp only [Ob.cells, Cs.list, List.getElem?_map] at hc ⊢
          rw [← eL_take, List.getElem?_take] at hc
          split at hc
          · exact hc
          · cases hc
    · rw [List.getElem?_set_ne (Ne.symm hbb)] at hO1
      exact S.own b1 ob x1 hO1 hM1
  cases e1 with
  | osd _ _ _ _ _ hM => exact (S.own _ _ _ hO hM).elim
  | osn _ hM =>
    have hr : r = 0 := by omega
    subst hr
    refine ⟨.slice none 0 0, w, M, ?_, hS, .osn _ hM, fun c z h => h⟩
    have := run_slice (P := P) (ty := ty) (w := w) (t := t) (lo := none) (hi := some hi) (l := 0) (h := 0) hu ⟨hi', Nat.le_refl _⟩ rfl (Nat.le_refl _)
    simpa using this
  | osz _ _ o L hM =>
    have hr : r = 0 := by omega
    subst hr
    refine ⟨.slice (some ⟨L.blk, o, none⟩) 0 0, w, M, ?_, hS, .osz _ _ o L hM, fun c z h => h⟩
    have := run_slice (P := P) (ty := ty) (w := w) (t := t) (lo := none) (hi := some hi) (l := 0) (h := 0) hu ⟨hi', Nat.le_refl _⟩ rfl (Nat.le_refl _)
    simpa using this
  | os _ _ _ cap L hM hcap hle hx1 =>
    refine ⟨.slice (some ⟨L.blk, L.off + 0, none⟩) r cap, w, M, ?_, hS, .os _ _ _ cap L hM hcap (by omega) hx1, fun c z h => h⟩
    have := run_slice (P := P) (ty := ty) (w := w) (t := t) (lo := none) (hi := some hi) (l := 0) (h := r) hu ⟨hi', by omega⟩ rfl (Nat.zero_le _)
    simpa [Rd.addr_add] using this
end
def frzR (b m : Nat) : Rho := (List.range m).map fun i => some (bif Nat.beq i b then m else i)
theorem frzR_get {b m i : Nat} (h : i < m) : (frzR b m)[i]? = some (some (bif Nat.beq i b then m else i)) := by simp [frzR, h]
section
variable {P : Program} {n : Nat} {s : Bs} {Q : APost} {σ : Fr} {O : Obs} {ops : Array Oper} {rest : List Oper} {M : Mp} {U : Nat → Prop} {w : World} {xs : List Nat} {K : Fr → Obs → List Nat → Prop}
theorem frzR_mp (h : M.length = O.length) (b : Nat) : mpR M (frzR b O.length) = M.set b .dead := by
  apply List.ext_getElem?
  intro i
  by_cases hi : i < O.length
  · have e : mpR M (frzR b O.length) = (frzR b O.length).map fun r => match r with | none => .nl | some b => (M[b]?).getD .dead := rfl
    rw [e, List.getElem?_map, frzR_get hi]
    by_cases hb : i = b
    · subst hb
      rw [List.getElem?_set_self (by omega)]
      simp [Nat.beq_refl, h]
    · have : Nat.beq i b = false := by cases hq : Nat.beq i b; rfl; exact absurd (Nat.eq_of_beq_eq_true hq) hb
      rw [List.getElem?_set_ne (Ne.symm hb)]
      simp only [this, cond_false, Option.map_some]
      rw [List.getElem?_eq_getElem (by omega)]; rfl
  · rw [List.getElem?_eq_none (by simp [mpR, frzR]; omega), List.getElem?_eq_none (by simp; omega)]
/-- The blocks as they stand behind it. -/
def FzL (O : Obs) (ρ : Rho) (b : Nat) : Nat → Obs → Obs → Prop
  | _, [], [] => True
  | i, none :: O', _ :: O0 => FzL O ρ b (i + 1) O' O0
  | i, some ob :: O', x :: O0 => (Nat.beq i b = false ∧ (x = some ob ∨ ∃ ob0, x = some ob0 ∧ ob0.ty = ob.ty ∧ ob0.k = ob.k ∧ SbC true O ρ ob.c ob0.c)) ∧ FzL O ρ b (i + 1) O' O0
  | _, _, _ => False
theorem FzL.spec {ρ : Rho} {b : Nat} : ∀ {i : Nat} {O' O0 : Obs}, FzL O ρ b i O' O0 → O'.length = O0.length ∧ ∀ (j : Nat) ob, O'[j]? = some (some ob) → i + j ≠ b ∧ (O0[j]? = some (some ob) ∨ ∃ ob0, O0[j]? = some (some ob0) ∧ ob0.ty = ob.ty ∧ ob0.k = ob.k ∧ SbC true O ρ ob.c ob0.c)
  | _, [], [], _ => ⟨rfl, fun j ob h => by simp at h⟩
  | _, [], _ :: _, h => by cases h
  | i, none :: O', [], h => by cases h
  | i, some ob :: O', [], h => by cases h
  | i, none :: O', x :: O0, h => by
    obtain ⟨h1, h2⟩ := FzL.spec (i := i + 1) (O' := O') (O0 := O0) h
    refine ⟨by simp [h1], fun j ob hj => ?_⟩
    cases j with
    | zero => simp at hj
    | succ j =>
      obtain ⟨g1, g2⟩ := h2 j ob (by simpa using hj)
      exact ⟨by omega, by simpa using g2⟩
  | i, some ob0 :: O', x :: O0, h => by
    obtain ⟨h0, h⟩ := h
    obtain ⟨h1, h2⟩ := FzL.spec (i := i + 1) (O' := O') (O0 := O0) h
    refine ⟨by simp [h1], fun j ob hj => ?_⟩
    cases j with
    | zero =>
      simp at hj; subst hj
      refine ⟨fun e => ?_, ?_⟩
      · have : Nat.beq i b = true := by rw [show i = b by omega]; exact Nat.beq_refl b
        rw [this] at h0; cases h0.1
      · rcases h0.2 with h | ⟨o, h⟩
        · exact .inl (by simp [h])
        · exact .inr ⟨o, by simp [h.1], h.2⟩
    | succ j =>
      obtain ⟨g1, g2⟩ := h2 j ob (by simpa using hj)
      exact ⟨by omega, by simpa using g2⟩
theorem frz_core {b m : Nat} {O' : Obs} (S : Mem s M O U w) (hb : s.L.length ≤ b) (hm : O.length = m) (hO : FzL O (frzR b m) b 0 O' O) : Mem s (M.set b .dead) O' (frU true M (frzR b m) U) w ∧ (∀ c z, Rel w U M c z → Rel w (frU true M (frzR b m) U) (M.set b .dead) c z) ∧
    ∀ v v' z, Sb true O (frzR b m) v' v → Rel w U M v z → Rel w (frU true M (frzR b m) U) (M.set b .dead) v' z := by
  subst hm
  have hmp := frzR_mp S.len b
  obtain ⟨S1, h1⟩ := S.kill hb
  obtain ⟨hlen, hsp⟩ := hO.spec
  have up : ∀ c z, Rel w U (M.set b .dead) c z → Rel w (frU true M (frzR b O.length) U) (M.set b .dead) c z := fun c z h => h.mono (fun _ _ => rfl) (fun B hB => .inl hB) (fun _ _ e => e)
  have rt : ∀ v v' z, Sb true O (frzR b O.length) v' v → Rel w U M v z → Rel w (frU true M (frzR b O.length) U) (M.set b .dead) v' z := fun v v' z h hr => by
    have := h.rel S hr
    rw [hmp] at this; exact this
  refine ⟨⟨S1.base, S1.lent, by rw [hlen]; simpa using S.len, S1.lt, S1.fresh, S1.sep, S1.fok, fun b1 ob x hO hM => ?_, fun B hB => ⟨?_, ?_⟩, S1.tab.mono (fun _ _ => rfl) (fun B hB => .inl hB)⟩, fun c z h => up _ _ (h1 c z h), rt⟩
  · obtain ⟨hne, h⟩ := hsp b1 ob hO
    have hne : b ≠ b1 := by omega
    rw [List.getElem?_set_ne hne] at hM
    rcases h with h | ⟨ob0, h, ht, hk, hc⟩
    · exact (S.own b1 ob x h hM).mono (fun _ _ => rfl) (fun c z g => up _ _ (h1 _ _ g))
    · have := S.own b1 ob0 x h hM
      obtain ⟨q1, q2⟩ := hc.spec
      have q1 : ob.cells.length = ob0.cells.length := q1
      cases x with
      | nl =>
        show ob.cells = []
        have : ob0.cells = [] := this
        rw [this] at q1; exact List.eq_nil_of_length_eq_zero q1
      | dead => exact this
      | ad L =>
        obtain ⟨g1, g2, cur, g3, g4, g5⟩ := this
        refine ⟨by rw [g1, hk], by rw [q1]; exact g2, cur, by rw [← ht]; exact g3, g4, fun j c hc => ?_⟩
        have hj : j < ob0.cells.length := by rw [← q1]; exact (List.getElem?_eq_some_iff.1 hc).1
        obtain ⟨y, e1, e2, e3⟩ := g5 j _ (List.getElem?_eq_getElem hj)
        exact ⟨y, e1, e2, rt _ _ _ (q2 j c _ hc (List.getElem?_eq_getElem hj)) e3⟩
      | fm F =>
        obtain ⟨css, g1, g2, g3⟩ := this
        exact ⟨css, hc.fam g1, g2, by rw [← ht, ← hk]; exact g3⟩
  · rw [← hmp]; exact frU_fz S hB
  · rcases hB with hB | ⟨_, h2, h3⟩
    · exact (S.u B hB).2
    · rcases S.fresh B h2 with h4 | h4
      · exact .inr h4
      · obtain ⟨b', L, h5, h6⟩ := Bs.exX h4
        have hb' : b' < s.L.length := (List.getElem?_eq_some_iff.1 h5).1
        refine absurd ⟨b', L, ?_, h6⟩ h3
        rw [hmp, List.getElem?_set_ne (by omega)]
        exact S.lent b' _ h5
def updL (σ : Fr) : List (Nat × AV) → Fr
  | [] => σ
  | (d, v) :: l => updA (updL σ l) d v
theorem Rels.frz {σc : Nat → Value} {U' : Nat → Prop} {M' : Mp} {O : Obs} {ρ : Rho} (hσ : Rels w U M σ σc) (h1 : ∀ c z, Rel w U M c z → Rel w U' M' c z) (h2 : ∀ v v' z, Sb true O ρ v' v → Rel w U M v z → Rel w U' M' v' z) : ∀ {vs : List (Nat × AV)}, PinA O ρ σ vs → Rels w U' M' (updL σ vs) σc
  | [], _ => fun t => h1 _ _ (hσ t)
  | (d, v) :: l, ⟨hv, hl⟩ => by
    intro t
    show Rel _ _ _ (bif Nat.beq t d then v else updL σ l t) (σc t)
    cases hb : Nat.beq t d with
    | true =>
      have := Nat.eq_of_beq_eq_true hb
      subst this
      exact h2 _ _ _ hv (hσ t)
    | false => exact Rels.frz hσ h1 h2 hl t
/-- Own block b is written no more. -/
theorem PL.frz {m0 : Nat} (hm : s.L.length = m0) (b m : Nat) (vs : List (Nat × AV)) (O' : Obs) (hl : O.length = m) (hb : Nat.ble m0 b = true) (hv : PinA O (frzR b m) σ vs) (hO : FzL O (frzR b m) b 0 O' O) (k : PL P n s ops rest Q (updL σ vs) O') : PL P n s ops rest Q σ O := by
  refine ⟨fun M U σc w S hσ => ?_⟩
  obtain ⟨S', h1, h2⟩ := frz_core S (b := b) (by rw [hm]; exact Nat.le_of_ble_eq_true hb) hl hO
  exact k.h _ _ σc w S' (hσ.frz h1 h2 hv)
end
section
variable {α : Type} [F : Enc α] {P : Program} {n : Nat} {s : Bs} {Q : APost} {σ : Fr} {O : Obs} {ops : Array Oper} {rest : List Oper} {d : Nat} {ty t e e' : TypeId} {pos : String} {after : Array Edge} {x y : Operand} {xs zs : List α} {a : α} {i : Int} {b k k0 m q : Nat}
end
section
variable {P : Program} {n : Nat} {s : Bs} {σ : Fr} {O : Obs} {ops : Array Oper} {rest : List Oper} {d : Nat} {ty : TypeId} {pos : String} {after : Array Edge} {xs : List Nat} {K : Fr → Obs → List Nat → Prop}
end
end V
end Go.Proofs.Ytmnjnkcooofgjaa
namespace Go.Proofs.Ytmnjnkcooofgjaa
namespace V
section
variable {P : Program} {s : Bs} {O : Obs} {σ : Fr} {ty : TypeId}
end
section
variable {P : Program} {s : Bs} {O : Obs} {σ : Fr} {ty t t' : TypeId} {x y : Operand} {a b : ByteArray}
end
section
open Enc (enc)
variable {α : Type} [F : Enc α] {P : Program} {n : Nat} {s : Bs} {Q : APost} {σ : Fr} {O : Obs} {ops : Array Oper} {rest : List Oper} {ty : TypeId} {pos : String} {after : Array Edge} {xs : List α} {e : α} {i : Int}
end
end V
end Go.Proofs.Ytmnjnkcooofgjaa
namespace Go.Proofs.Ytmnjnkcooofgjaa
namespace V
set_option linter.unusedVariables false
set_option linter.unusedSimpArgs false
open Go.RowKit
section
variable {P : Program} {n : Nat} {s : Bs} {Q : APost} {σ : Fr} {O : Obs} {ops : Array Oper} {rest : List Oper} {d : Nat} {ty : TypeId} {pos : String} {after : Array Edge}
end
end V
end Go.Proofs.Ytmnjnkcooofgjaa
namespace Go.Proofs.Ytmnjnkcooofgjaa
namespace V
open Enc (enc)
set_option linter.unusedVariables false
set_option linter.unusedSimpArgs false
open Go.RowKit
/-- Data with one slice of its own: the cells ahead of it, the slice, the cells behind it. -/
class EncD (α : Type) (β : outParam Type) [A : Enc α] [B : Enc β] where
  pre : α → List Tr
  row : α → List β
  post : α → List Tr
  np : Nat
  npre : ∀ a, (pre a).length = np
  enc_eq : ∀ a, enc a = pre a ++ Tr.sl (row a).length (eL (row a)) :: post a
section
variable {α β : Type} [A : Enc α] [B : Enc β] [D : EncD α β]
/-- An element: member i of family f is its slice. -/
def dX (f i : Nat) (a : α) : List AV := (D.pre a).map .t ++ .oi f i (D.row a).length :: (D.post a).map .t
/-- Elements from number i on. -/
def dL (f : Nat) : Nat → List α → List AV
  | _, [] => []
  | i, a :: es => dX f i a ++ dL f (i + 1) es
/-- The family. -/
def fam (es : List α) : List (List Tr) := es.map fun a => eL (D.row a)
theorem dX_len (f i : Nat) (a : α) : (dX f i a).length = A.k := by
  have h := A.len a
  rw [D.enc_eq] at h
  simp only [List.length_append, List.length_cons] at h
  unfold dX
  simp only [List.length_append, List.length_map, List.length_cons]
  exact h
theorem dL_len (f : Nat) : ∀ (i : Nat) (es : List α), (dL f i es).length = es.length * A.k
  | _, [] => by simp [dL]
  | i, a :: es => by
    show (dX f i a ++ dL f (i + 1) es).length = _
    rw [List.length_append, dX_len, dL_len f (i + 1) es, List.length_cons, Nat.succ_mul, Nat.add_comm]
theorem dL_app (f : Nat) : ∀ (i : Nat) (es bs : List α), dL f i (es ++ bs) = dL f i es ++ dL f (i + es.length) bs
  | _, [], bs => by simp [dL]
  | i, a :: es, bs => by
    show dX f i a ++ dL f (i + 1) (es ++ bs) = (dX f i a ++ dL f (i + 1) es) ++ _
    rw [dL_app f (i + 1) es bs, List.append_assoc, List.length_cons, show i + (es.length + 1) = i + 1 + es.length by omega]
theorem dL_one (f i : Nat) (a : α) : dL f i [a] = dX f i a := by simp [dL]
theorem dL_cut (f : Nat) {es : List α} {i : Nat} (h : i < es.length) : dL f 0 es = dL f 0 (es.take i) ++ dX f i es[i] ++ dL f (i + 1) (es.drop (i + 1)) := by
  have e : es = es.take i ++ ([es[i]] ++ es.drop (i + 1)) := by rw [List.singleton_append, ← List.drop_eq_getElem_cons h, List.take_append_drop]
  conv => lhs; rw [e]
  rw [dL_app, dL_app, dL_one, List.append_assoc]
  have hl : (es.take i).length = i := by rw [List.length_take]; omega
  rw [hl, Nat.zero_add]; rfl
theorem dL_at (f : Nat) {es : List α} {i m : Nat} (hk : A.k = m) (h : i < es.length) : ((dL f 0 es).drop (i * m)).take m = dX f i es[i] := by
  subst hk
  have hl : (dL f 0 (es.take i)).length = i * A.k := by rw [dL_len, List.length_take, Nat.min_eq_left (by omega)]
  rw [dL_cut f h, List.append_assoc, List.drop_append_of_le_length (by omega), List.drop_eq_nil_of_le (by omega), List.nil_append, List.take_append_of_le_length (by rw [dX_len]; exact Nat.le_refl _), List.take_of_length_le (by rw [dX_len]; exact Nat.le_refl _)]
theorem dX_ren (θ : Nat → Nat) (f i : Nat) (a : α) : AV.renL θ (dX f i a) = dX (θ f) i a := by
  apply List.ext_getElem?
  intro j
  rw [AV.renL_get]
  unfold dX
  rcases Nat.lt_trichotomy j (D.pre a).length with h | h | h
  · rw [List.getElem?_append_left (by simpa using h), List.getElem?_append_left (by simpa using h), List.getElem?_map]
    cases (D.pre a)[j]? <;> rfl
  · subst h
    rw [List.getElem?_append_right (by simp), List.getElem?_append_right (by simp)]
    simp [AV.ren]
  · rw [List.getElem?_append_right (by simp; omega), List.getElem?_append_right (by simp; omega), List.length_map]
    obtain ⟨q, hq⟩ : ∃ q, j - (D.pre a).length = q + 1 := ⟨j - (D.pre a).length - 1, by omega⟩
    rw [hq, List.getElem?_cons_succ, List.getElem?_cons_succ, List.getElem?_map]
    cases (D.post a)[q]? <;> rfl
theorem renL_app (θ : Nat → Nat) : ∀ xs ys : List AV, AV.renL θ (xs ++ ys) = AV.renL θ xs ++ AV.renL θ ys
  | [], ys => rfl
  | x :: xs, ys => by
    show AV.ren θ x :: AV.renL θ (xs ++ ys) = _
    rw [renL_app θ xs ys]; rfl
theorem dL_ren (θ : Nat → Nat) (f : Nat) : ∀ (i : Nat) (es : List α), AV.renL θ (dL f i es) = dL (θ f) i es
  | _, [] => rfl
  | i, a :: es => by
    show AV.renL θ (dX f i a ++ dL f (i + 1) es) = dX (θ f) i a ++ _
    rw [renL_app, dX_ren, dL_ren θ f (i + 1) es]
theorem fam_len (es : List α) : (fam es).length = es.length := by unfold fam; rw [List.length_map]
theorem fam_get {es : List α} {i : Nat} (h : i < es.length) : (fam es)[i]? = some (eL (D.row es[i])) := by unfold fam; rw [List.getElem?_map, List.getElem?_eq_getElem h]; rfl
theorem fam_set (es : List α) (i : Nat) (x : α) : fam (es.set i x) = (fam es).set i (eL (D.row x)) := by unfold fam; rw [List.map_set]
theorem fam_app (es bs : List α) : fam (es ++ bs) = fam es ++ fam bs := by unfold fam; rw [List.map_append]
/-- All members made frozen: the elements as trees. -/
theorem unX {O : Obs} {ρ : Rho} {f i k : Nat} {ty : TypeId} {css : List (List Tr)} {a : α} (hO : O[f]? = some (some ⟨.fm css, ty, k⟩)) (hf : some f ∉ ρ) (hi : css[i]? = some (eL (D.row a))) (hk : B.k = k) : UnL O ρ (dX f i a) (enc a) := by
  refine ⟨by rw [dX_len, A.len], fun j x c h1 h2 => ?_⟩
  rw [D.enc_eq] at h2
  unfold dX at h1
  rcases Nat.lt_trichotomy j (D.pre a).length with h | h | h
  · rw [List.getElem?_append_left (by simpa using h), List.getElem?_map] at h1
    rw [List.getElem?_append_left h] at h2
    rw [h2] at h1; cases h1; exact .inl rfl
  · subst h
    rw [List.getElem?_append_right (by simp)] at h1
    rw [List.getElem?_append_right (Nat.le_refl _)] at h2
    simp at h1 h2
    subst h1; subst h2
    exact .inr ⟨f, i, _, _, css, ty, k, rfl, hf, hO, hi, by rw [eL_len, hk], rfl⟩
  · rw [List.getElem?_append_right (by simp; omega), List.length_map] at h1
    rw [List.getElem?_append_right (by omega)] at h2
    obtain ⟨q, hq⟩ : ∃ q, j - (D.pre a).length = q + 1 := ⟨j - (D.pre a).length - 1, by omega⟩
    rw [hq, List.getElem?_cons_succ] at h1 h2
    rw [List.getElem?_map, h2] at h1
    cases h1; exact .inl rfl
theorem UnL.app {O : Obs} {ρ : Rho} {a b : List AV} {c d : List Tr} (h1 : UnL O ρ a c) (h2 : UnL O ρ b d) : UnL O ρ (a ++ b) (c ++ d) := by
  refine ⟨by rw [List.length_append, List.length_append, h1.1, h2.1], fun j x y g1 g2 => ?_⟩
  rcases Nat.lt_or_ge j a.length with h | h
  · rw [List.getElem?_append_left h] at g1
    rw [List.getElem?_append_left (by rw [← h1.1]; exact h)] at g2
    exact h1.2 j x y g1 g2
  · rw [List.getElem?_append_right h] at g1
    rw [List.getElem?_append_right (by rw [← h1.1]; exact h), ← h1.1] at g2
    exact h2.2 _ x y g1 g2
theorem unL {O : Obs} {ρ : Rho} {f k : Nat} {ty : TypeId} {css : List (List Tr)} (hO : O[f]? = some (some ⟨.fm css, ty, k⟩)) (hf : some f ∉ ρ) (hk : B.k = k) : ∀ (i : Nat) (es : List α), (∀ j (h : j < es.length), css[i + j]? = some (eL (D.row es[j]))) → UnL O ρ (dL f i es) (eL es)
  | i, [], _ => ⟨rfl, fun j x c h => by simp [dL] at h⟩
  | i, a :: es, h => by
    have h0 := h 0 (by simp)
    refine UnL.app (unX hO hf (by simpa using h0) hk) (unL hO hf hk (i + 1) es fun j hj => ?_)
    have := h (j + 1) (by simpa using hj)
    rw [show i + (j + 1) = i + 1 + j by omega] at this
    simpa using this
/-- A slice whose elements own a slice each is read as a tree. -/
theorem Sb.fzD {O : Obs} {ρ : Rho} {b f n k0 k : Nat} {ty e : TypeId} {es : List α} (hb : O[b]? = some (some ⟨.mx (dL f 0 es), e, k0⟩)) (hf : O[f]? = some (some ⟨.fm (fam es), ty, k⟩)) (hbn : some b ∉ ρ) (hfn : some f ∉ ρ) (hn : n = es.length) (hk0 : A.k = k0) (hk : B.k = k) : Sb true O ρ (sL es) (.os b 0 n) := by
  subst hn
  refine Sb.fzd rfl hb hbn (unL hf hfn hk 0 es fun j hj => ?_) (by rw [eL_len, ← hk0])
  rw [Nat.zero_add]; exact fam_get hj
end
end V
end Go.Proofs.Ytmnjnkcooofgjaa
namespace Go.Proofs.Ytmnjnkcooofgjaa
namespace V
open Enc (enc)
set_option linter.unusedVariables false
set_option linter.unusedSimpArgs false
open Go.RowKit
/-- Cell by cell. -/
def T2 (R : AV → AV → Prop) (xs ys : List AV) : Prop := xs.length = ys.length ∧ ∀ (q : Nat) c c0, xs[q]? = some c → ys[q]? = some c0 → R c c0
theorem T2.nil {R : AV → AV → Prop} : T2 R [] [] := ⟨rfl, fun q c c0 h => by simp at h⟩
theorem T2.app {R : AV → AV → Prop} {a b c d : List AV} (h1 : T2 R a c) (h2 : T2 R b d) : T2 R (a ++ b) (c ++ d) := by
  refine ⟨by rw [List.length_append, List.length_append, h1.1, h2.1], fun j x y g1 g2 => ?_⟩
  rcases Nat.lt_or_ge j a.length with h | h
  · rw [List.getElem?_append_left h] at g1
    rw [List.getElem?_append_left (by rw [← h1.1]; exact h)] at g2
    exact h1.2 j x y g1 g2
  · rw [List.getElem?_append_right h] at g1
    rw [List.getElem?_append_right (by rw [← h1.1]; exact h), ← h1.1] at g2
    exact h2.2 _ x y g1 g2
theorem T2.one {R : AV → AV → Prop} {c c0 : AV} (h : R c c0) : T2 R [c] [c0] := ⟨rfl, fun q x y h1 h2 => by
  cases q with
  | zero => simp at h1 h2; subst h1; subst h2; exact h
  | succ q => simp at h1⟩
theorem T2.ts {R : AV → AV → Prop} (hR : ∀ c : Tr, R (.t c) (.t c)) (cs : List Tr) : T2 R (cs.map .t) (cs.map .t) := ⟨rfl, fun q x y h1 h2 => by
  rw [h1] at h2; cases h2
  rw [List.getElem?_map] at h1
  cases hq : cs[q]? with
  | none => rw [hq] at h1; cases h1
  | some c => rw [hq] at h1; cases h1; exact hR c⟩
section
variable {α β : Type} [A : Enc α] [B : Enc β] [D : EncD α β]
theorem T2.dX {R : AV → AV → Prop} (hR : ∀ c : Tr, R (.t c) (.t c)) {f m j : Nat} {a : α} (h : R (.oi m j (D.row a).length) (.oi f j (D.row a).length)) : T2 R (dX m j a) (dX f j a) := by
  unfold V.dX
  have := T2.app (T2.ts hR (D.pre a)) (T2.app (T2.one h) (T2.ts hR (D.post a)))
  simpa using this
theorem T2.dL {R : AV → AV → Prop} (hR : ∀ c : Tr, R (.t c) (.t c)) {f m : Nat} : ∀ (i : Nat) (es : List α), (∀ j (h : j < es.length), R (.oi m (i + j) (D.row es[j]).length) (.oi f (i + j) (D.row es[j]).length)) → T2 R (dL m i es) (dL f i es)
  | i, [], _ => T2.nil
  | i, a :: es, h => by
    have h0 := h 0 (Nat.zero_lt_succ _)
    rw [Nat.add_zero] at h0
    refine T2.app (T2.dX hR h0) (T2.dL hR (i + 1) es fun j hj => ?_)
    have := h (j + 1) (Nat.succ_lt_succ hj)
    rw [show i + (j + 1) = i + 1 + j by omega] at this
    exact this
/-- The cells with a new element whose slice is block b'. -/
def hole (f b' : Nat) (es : List α) (i : Nat) (x : α) : List AV := dL f 0 (es.take i) ++ (((D.pre x).map .t ++ .os b' 0 (D.row x).length :: (D.post x).map .t) ++ dL f (i + 1) (es.drop (i + 1)))
theorem set_cut (f : Nat) {es : List α} {i : Nat} (h : i < es.length) (x : α) : dL f 0 (es.set i x) = dL f 0 (es.take i) ++ (dX f i x ++ dL f (i + 1) (es.drop (i + 1))) := by
  have h' : i < (es.set i x).length := by rw [List.length_set]; exact h
  rw [dL_cut f h', List.append_assoc]
  have e1 : (es.set i x).take i = es.take i := by
    apply List.ext_getElem
    · simp
    · intro k h1 h2
      simp only [List.getElem_take]
      rw [List.getElem_set_ne (by simp at h1; omega)]
  have e2 : (es.set i x).drop (i + 1) = es.drop (i + 1) := by rw [List.drop_set_of_lt (by omega)]
  have e3 : (es.set i x)[i] = x := List.getElem_set_self h'
  rw [e1, e2, e3]
theorem T2.hole {R : AV → AV → Prop} (hR : ∀ c : Tr, R (.t c) (.t c)) {f b' m i : Nat} {es : List α} {x : α} (hi : i < es.length) (h1 : ∀ j (h : j < es.length), j ≠ i → R (.oi m j (D.row es[j]).length) (.oi f j (D.row es[j]).length)) (h2 : R (.oi m i (D.row x).length) (.os b' 0 (D.row x).length)) : T2 R (V.dL m 0 (es.set i x)) (hole f b' es i x) := by
  rw [set_cut m hi]
  unfold V.hole
  refine T2.app (T2.dL hR 0 _ fun j hj => ?_) (T2.app ?_ (T2.dL hR (i + 1) _ fun j hj => ?_))
  · rw [List.length_take] at hj
    simp only [List.getElem_take, Nat.zero_add]
    exact h1 j (by omega) (by omega)
  · unfold V.dX
    have := T2.app (T2.ts hR (D.pre x)) (T2.app (T2.one h2) (T2.ts hR (D.post x)))
    simpa using this
  · rw [List.length_drop] at hj
    simp only [List.getElem_drop]
    exact h1 (i + 1 + j) (by omega) (by omega)
theorem hole_oi {f b' i j : Nat} {es : List α} {x : α} (hi : i < es.length) (hj : j < es.length) (hne : j ≠ i) : ∃ q : Nat, (hole f b' es i x)[q]? = some (.oi f j (D.row es[j]).length) := by
  have key : ∀ (st : Nat) (l : List α) (k : Nat) (hk : k < l.length), (AV.oi f (st + k) (D.row l[k]).length) ∈ dL f st l := by
    intro st l
    induction l generalizing st with
    | nil => intro k hk; exact absurd hk (Nat.not_lt_zero _)
    | cons a l ih =>
      intro k hk
      refine List.mem_append.2 ?_
      cases k with
      | zero => exact .inl (by unfold dX; simp)
      | succ k =>
        have := ih (st + 1) k (by simpa using hk)
        rw [show st + 1 + k = st + (k + 1) by omega] at this
        exact .inr (by simpa using this)
  have hm : (AV.oi f j (D.row es[j]).length) ∈ hole f b' es i x := by
    unfold hole
    rcases Nat.lt_or_ge j i with h | h
    · have := key 0 (es.take i) j (by rw [List.length_take]; omega)
      rw [Nat.zero_add] at this
      simp only [List.getElem_take] at this
      exact List.mem_append.2 (.inl this)
    · have := key (i + 1) (es.drop (i + 1)) (j - (i + 1)) (by rw [List.length_drop]; omega)
      simp only [List.getElem_drop, show i + 1 + (j - (i + 1)) = j by omega] at this
      exact List.mem_append.2 (.inr (List.mem_append.2 (.inr this)))
  obtain ⟨q, hq⟩ := mem_get hm
  exact ⟨q, hq⟩
theorem hole_os {f b' i : Nat} {es : List α} {x : α} : ∃ q : Nat, (hole f b' es i x)[q]? = some (.os b' 0 (D.row x).length) := by
  have hm : (AV.os b' 0 (D.row x).length) ∈ hole f b' es i x := by unfold hole; simp
  obtain ⟨q, hq⟩ := mem_get hm
  exact ⟨q, hq⟩
end
/-- The family as it stands. -/
def famAt (M : Mp) (f n : Nat) : List (Option Loc) := match M[f]? with | some (.fm F) => F | _ => List.replicate n none
/-- Where a slice of one's own lies. -/
def locAt (M : Mp) (b : Nat) : Option Loc := match M[b]? with | some (.ad L) => some L | _ => none
section
variable {α β : Type} [A : Enc α] [B : Enc β] [BF : EncF β] [D : EncD α β] {s : Bs} {M : Mp} {O : List (Option Ob)} {U : Nat → Prop} {w : World}
/-- The slice of block b' joins family f, as member i; the family is known by a new name. -/
theorem adopt_core (S : Mem s M O U w) {f b b' i k0 ik : Nat} {e ity : TypeId} {es : List α} {x : α} (hf : s.L.length ≤ f) (hb' : s.L.length ≤ b') (hbf : b ≠ f) (hbb : b ≠ b') (hfb : f ≠ b') (hi : i < es.length)
    (hOf : O[f]? = some (some ⟨.fm (fam es), ity, ik⟩)) (hOb' : O[b']? = some (some ⟨.tr (eL (D.row x)), ity, ik⟩)) (hOb : O[b]? = some (some ⟨.mx (hole f b' es i x), e, k0⟩)) (hik : B.k = ik) :
    ∃ M', Mem s M' ((((O.set f none).set b' none).set b (some ⟨.mx (dL O.length 0 (es.set i x)), e, k0⟩)) ++ [some ⟨.fm (fam (es.set i x)), ity, ik⟩]) U w ∧ ∀ c z, Rel w U M c z → Rel w U M' c z := by
  have hlen := S.len
  have hfl : f < O.length := (List.getElem?_eq_some_iff.1 hOf).1
  have hbl : b < O.length := (List.getElem?_eq_some_iff.1 hOb).1
  have hbl' : b' < O.length := (List.getElem?_eq_some_iff.1 hOb').1
  -- the outer block
  obtain ⟨q0, hq0⟩ := hole_os (f := f) (b' := b') (i := i) (es := es) (x := x)
  have hMb : M[b]? = some M[b] := List.getElem?_eq_getElem (by omega)
  have hown := S.own b _ _ hOb hMb
  obtain ⟨L, hL⟩ : ∃ L, M[b] = .ad L := by
    generalize M[b] = p at hown
    cases p with
    | nl => have h : hole f b' es i x = [] := hown; rw [h] at hq0; simp at hq0
    | dead => exact hown.elim
    | fm F => obtain ⟨css, h, _⟩ := hown; cases h
    | ad L => exact ⟨L, rfl⟩
  rw [hL] at hMb hown
  obtain ⟨g1, g2, cur, g3, g4, g5⟩ := hown
  -- the family
  have hMf : M[f]? = some M[f] := List.getElem?_eq_getElem (by omega)
  have hownf := S.own f _ _ hOf hMf
  have hfam : (∃ F, M[f]? = some (.fm F) ∧ famAt M f es.length = F ∧ F.length = es.length ∧ ∀ (j : Nat) cs l, (fam es)[j]? = some cs → F[j]? = some l → Mbr w ity ik cs l) ∨ ((∀ F, M[f]? ≠ some (.fm F)) ∧ M[f]? ≠ some .dead ∧ famAt M f es.length = List.replicate es.length none) := by
    generalize hp : M[f] = p at hMf hownf
    cases p with
    | fm F =>
      obtain ⟨css, h1, h2, h3⟩ := hownf
      cases h1
      refine .inl ⟨F, hMf, by unfold famAt; rw [hMf], by rw [← h2, fam_len], h3⟩
    | dead => exact hownf.elim
    | nl =>
      refine .inr ⟨fun F h => ?_, fun h => ?_, by unfold famAt; rw [hMf]⟩
      · rw [hMf] at h; cases h
      · rw [hMf] at h; cases h
    | ad L =>
      refine .inr ⟨fun F h => ?_, fun h => ?_, by unfold famAt; rw [hMf]⟩
      · rw [hMf] at h; cases h
      · rw [hMf] at h; cases h
  have hF0 : (famAt M f es.length).length = es.length := by
    rcases hfam with ⟨F, _, h, h2, _⟩ | ⟨_, _, h⟩
    · rw [h, h2]
    · rw [h, List.length_replicate]
  -- others are there only where the family is
  have hoth : ∀ j (h : j < es.length), j ≠ i → ∃ F, M[f]? = some (.fm F) ∧ famAt M f es.length = F := by
    intro j hj hne
    rcases hfam with ⟨F, h1, h2, _⟩ | ⟨h1, h2, _⟩
    · exact ⟨F, h1, h2⟩
    · obtain ⟨q, hq⟩ := hole_oi (f := f) (b' := b') (x := x) hi hj hne
      obtain ⟨y, _, _, hr⟩ := g5 q _ hq
      generalize (D.row es[j]).length = nn at hr
      cases hr with
      | oi _ _ _ _ F L hM => exact (h1 F hM).elim
      | oin _ _ F hM => exact (h1 F hM).elim
      | oiz _ _ _ F _ hM => exact (h1 F hM).elim
      | oid _ _ _ _ _ hM => exact (h2 hM).elim
  have hMb' : M[b']? = some M[b'] := List.getElem?_eq_getElem (by omega)
  have hownb := S.own b' _ _ hOb' hMb'
  have hmbr : Mbr w ity ik (eL (D.row x)) (locAt M b') := by
    generalize hp : M[b'] = p at hMb' hownb
    cases p with
    | dead => exact hownb.elim
    | fm F => obtain ⟨css, h, _⟩ := hownb; cases h
    | nl =>
      have h : (eL (D.row x)).map AV.t = [] := hownb
      unfold locAt; rw [hMb']
      exact List.map_eq_nil_iff.1 h
    | ad L' =>
      unfold locAt; rw [hMb']
      obtain ⟨k1, k2, cur', k3, k4, k5⟩ := hownb
      have hc : ((⟨.tr (eL (D.row x)), ity, ik⟩ : Ob).cells) = (eL (D.row x)).map .t := rfl
      rw [hc] at k2 k5
      refine ⟨k1, by simpa using k2, cur', k3, k4, fun j c hjc => ?_⟩
      obtain ⟨y, e1, e2, e3⟩ := k5 j (.t c) (by rw [List.getElem?_map, hjc]; rfl)
      obtain ⟨xx, hxx, hcx⟩ := List.mem_flatMap.1 (show c ∈ (D.row x).flatMap enc from get_mem hjc)
      obtain ⟨v, rfl⟩ := BF.flat xx c hcx
      cases e3 with | t _ _ h =>
      cases h with | v _ hp => exact ⟨_, rfl, hp, e1⟩
  -- the names that are used up
  obtain ⟨S1, r1⟩ := S.kill hf
  obtain ⟨S2, r2⟩ := S1.kill hb'
  have r12 : ∀ c z, Rel w U M c z → Rel w U ((M.set f .dead).set b' .dead) c z := fun c z h => r2 _ _ (r1 _ _ h)
  have hget2 : ∀ (q : Nat) p, ((M.set f .dead).set b' .dead)[q]? = some p → p = .dead ∨ (q ≠ f ∧ q ≠ b' ∧ M[q]? = some p) := by
    intro q p h
    by_cases h1 : q = b'
    · subst h1; rw [List.getElem?_set_self (by simp; omega)] at h; cases h; exact .inl rfl
    · rw [List.getElem?_set_ne (Ne.symm h1)] at h
      by_cases h2 : q = f
      · subst h2; rw [List.getElem?_set_self (by omega)] at h; cases h; exact .inl rfl
      · rw [List.getElem?_set_ne (Ne.symm h2)] at h; exact .inr ⟨h2, h1, h⟩
  -- the new family's blocks
  have hnew : ∀ B, (∃ q, s.L.length ≤ q ∧ (q = f ∨ q = b') ∧ ∃ p, M[q]? = some p ∧ p.has B) → ¬ InM ((M.set f .dead).set b' .dead) B ∧ ¬ U B ∧ s.w.heap.size ≤ B ∧ B < w.heap.size := by
    rintro B ⟨q, hq, hqq, p, hp, hB⟩
    refine ⟨?_, fun hU => (S.u B hU).1.2 ⟨q, p, hp, hB⟩, ?_, S.lt B ⟨q, p, hp, hB⟩⟩
    · rintro ⟨q', p', h1, h2⟩
      rcases hget2 q' p' h1 with rfl | ⟨n1, n2, h3⟩
      · exact h2
      · have := S.sep q q' p p' B hp h3 hB h2
        subst this
        rcases hqq with rfl | rfl
        · exact n1 rfl
        · exact n2 rfl
    · rcases S.fresh B ⟨q, p, hp, hB⟩ with h | h
      · exact h
      · obtain ⟨q', p', h1, h2⟩ := Bs.exX h
        have hl' : q' < s.L.length := (List.getElem?_eq_some_iff.1 h1).1
        have := S.sep q q' p p' B hp (S.lent q' p' h1) hB h2
        omega
  have hin : ∀ (j : Nat) (L0 : Loc), (famAt M f es.length)[j]? = some (some L0) → ∃ F, M[f]? = some (.fm F) ∧ F[j]? = some (some L0) := by
    intro j L0 h
    rcases hfam with ⟨F, h1, h2, _⟩ | ⟨_, _, h1⟩
    · exact ⟨F, h1, h2 ▸ h⟩
    · rw [h1] at h
      obtain ⟨_, h⟩ := List.getElem?_eq_some_iff.1 h
      simp at h
  have hloc : ∀ L0, locAt M b' = some L0 → M[b']? = some (.ad L0) := by
    intro L0 h
    unfold locAt at h
    split at h
    · cases h; assumption
    · cases h
  have hFm : ∀ (j : Nat) L0, ((famAt M f es.length).set i (locAt M b'))[j]? = some (some L0) → (j = i ∧ M[b']? = some (.ad L0)) ∨ (j ≠ i ∧ ∃ F, M[f]? = some (.fm F) ∧ F[j]? = some (some L0)) := by
    intro j L0 h
    by_cases hj : j = i
    · subst hj
      rw [List.getElem?_set_self (by omega)] at h
      exact .inl ⟨rfl, hloc L0 (by simpa using h)⟩
    · rw [List.getElem?_set_ne (Ne.symm hj)] at h
      exact .inr ⟨hj, hin j L0 h⟩
  have hok : FOk ((famAt M f es.length).set i (locAt M b')) := by
    intro j1 j2 L1 L2 h1 h2 hbk
    rcases hFm j1 L1 h1 with ⟨e1, m1⟩ | ⟨n1, F1, m1, q1⟩
    · rcases hFm j2 L2 h2 with ⟨e2, m2⟩ | ⟨n2, F2, m2, q2⟩
      · omega
      · exact (hfb (S.sep f b' _ _ L1.blk m2 m1 ⟨L2, get_mem q2, hbk.symm⟩ rfl)).elim
    · rcases hFm j2 L2 h2 with ⟨e2, m2⟩ | ⟨n2, F2, m2, q2⟩
      · exact (hfb (S.sep f b' _ _ L1.blk m1 m2 ⟨L1, get_mem q1, rfl⟩ hbk.symm)).elim
      · rw [m1] at m2; cases m2
        exact S.fok f F1 m1 j1 j2 L1 L2 q1 q2 hbk
  have hBk : Blk w U (((M.set f .dead).set b' .dead) ++ [.fm ((famAt M f es.length).set i (locAt M b'))]) ⟨.fm (fam (es.set i x)), ity, ik⟩ (.fm ((famAt M f es.length).set i (locAt M b'))) := by
    refine ⟨_, rfl, by rw [fam_len, List.length_set, List.length_set, hF0], fun j cs l h1 h2 => ?_⟩
    show Mbr w ity ik cs l
    rw [fam_set] at h1
    by_cases hj : j = i
    · subst hj
      rw [List.getElem?_set_self (by rw [fam_len]; exact hi)] at h1
      rw [List.getElem?_set_self (by omega)] at h2
      cases h1; cases h2; exact hmbr
    · rw [List.getElem?_set_ne (Ne.symm hj)] at h1 h2
      have hjl : j < es.length := by have := (List.getElem?_eq_some_iff.1 h1).1; rw [fam_len] at this; exact this
      obtain ⟨F, m1, m2⟩ := hoth j hjl hj
      rcases hfam with ⟨F', h3, h4, h5, h6⟩ | ⟨h3, _⟩
      · rw [h4] at h2
        exact h6 j cs l h1 h2
      · exact (h3 F m1).elim
  obtain ⟨S3, r3⟩ := S2.insY (X := []) (p := .fm ((famAt M f es.length).set i (locAt M b'))) (BelowX.refl _ _) (fun B h => by simp at h) (fun B hB => by
    obtain ⟨L0, h1, h2⟩ := hB
    obtain ⟨j, hj⟩ := mem_get h1
    rcases hFm j L0 hj with ⟨_, m1⟩ | ⟨_, F, m1, q1⟩
    · exact hnew B ⟨b', hb', .inr rfl, _, m1, h2⟩
    · exact hnew B ⟨f, hf, .inl rfl, _, m1, ⟨L0, get_mem q1, h2⟩⟩) (fun F h => by cases h; exact hok) hBk
  have r123 : ∀ c z, Rel w U M c z → Rel w U (((M.set f .dead).set b' .dead) ++ [.fm ((famAt M f es.length).set i (locAt M b'))]) c z := fun c z h => r3 _ _ (r12 _ _ h)
  have hm : (((M.set f .dead).set b' .dead) ++ [.fm ((famAt M f es.length).set i (locAt M b'))])[O.length]? = some (Pl.fm ((famAt M f es.length).set i (locAt M b'))) := snoc_new (by simp [hlen])
  have hMb3 : (((M.set f .dead).set b' .dead) ++ [.fm ((famAt M f es.length).set i (locAt M b'))])[b]? = some (.ad L) := snoc_old (by rw [List.getElem?_set_ne (Ne.symm hbb), List.getElem?_set_ne (Ne.symm hbf)]; exact hMb)
  have htell : T2 (fun c c0 => ∀ y, Rel w U M c0 y → Rel w U (((M.set f .dead).set b' .dead) ++ [.fm ((famAt M f es.length).set i (locAt M b'))]) c y) (V.dL O.length 0 (es.set i x)) (hole f b' es i x) := by
    refine T2.hole (fun c y h => r123 _ _ h) hi (fun j hj hne y h => ?_) (fun y h => ?_)
    · obtain ⟨F, m1, m2⟩ := hoth j hj hne
      have hFj : ((famAt M f es.length).set i (locAt M b'))[j]? = F[j]? := by rw [List.getElem?_set_ne (Ne.symm hne), m2]
      generalize (D.row es[j]).length = nn at h ⊢
      cases h with
      | oi _ _ _ cap F' L' hM hjj hcap hn hx => rw [m1] at hM; cases hM; exact .oi _ _ _ cap _ L' hm (by rw [hFj]; exact hjj) hcap hn hx
      | oin _ _ F' hM hjj => rw [m1] at hM; cases hM; exact .oin _ _ _ hm (by rw [hFj]; exact hjj)
      | oiz _ _ _ F' L' hM hjj => rw [m1] at hM; cases hM; exact .oiz _ _ _ _ L' hm (by rw [hFj]; exact hjj)
      | oid _ _ _ _ _ hM => rw [m1] at hM; cases hM
    · have hFi : ((famAt M f es.length).set i (locAt M b'))[i]? = some (locAt M b') := List.getElem?_set_self (by omega)
      generalize (D.row x).length = nn at h ⊢
      cases h with
      | os _ _ _ cap L' hM hcap hn hx =>
        have e : locAt M b' = some L' := by unfold locAt; rw [hM]
        exact .oi _ _ _ cap _ L' hm (by rw [hFi, e]) (by simpa using hcap) hn hx
      | osn _ hM =>
        have e : locAt M b' = none := by unfold locAt; rw [hM]
        exact .oin _ _ _ hm (by rw [hFi, e])
      | osz _ _ _ L' hM =>
        have e : locAt M b' = some L' := by unfold locAt; rw [hM]
        exact .oiz _ _ _ _ L' hm (by rw [hFi, e])
      | osd _ _ _ _ _ hM => rw [hMb'] at hM; rw [Option.some.inj hM] at hownb; exact hownb.elim
  obtain ⟨S4, r4⟩ := S3.turnB (b := b) (p := .ad L) (ob' := ⟨.mx (V.dL O.length 0 (es.set i x)), e, k0⟩) hMb3 (BelowX.refl _ _) (by simp; omega) (by
    have hl1 : (V.dL O.length 0 (es.set i x)).length = (hole f b' es i x).length := htell.1
    refine ⟨g1, ?_, cur, g3, g4, fun q c hc => ?_⟩
    · have : ((⟨.mx (V.dL O.length 0 (es.set i x)), e, k0⟩ : Ob).cells).length = (hole f b' es i x).length := hl1
      rw [this]; exact g2
    · have hq : q < (hole f b' es i x).length := by rw [← hl1]; exact (List.getElem?_eq_some_iff.1 hc).1
      obtain ⟨y, e1, e2, e3⟩ := g5 q _ (List.getElem?_eq_getElem hq)
      exact ⟨y, e1, e2, htell.2 q c _ hc (List.getElem?_eq_getElem hq) y e3⟩)
  refine ⟨_, ?_, fun c z h => r4 _ _ (r123 _ _ h)⟩
  have eO : ∀ (l : List (Option Ob)) (o1 o2 : Option Ob), b < l.length → (l ++ [o1]).set b o2 = l.set b o2 ++ [o1] := fun l o1 o2 h => by rw [List.set_append_left _ _ h]
  rw [← eO _ _ _ (by simp; omega)]
  exact S4
end
end V
end Go.Proofs.Ytmnjnkcooofgjaa
namespace Go.Proofs.Ytmnjnkcooofgjaa
namespace V
open Enc (enc)
set_option linter.unusedVariables false
set_option linter.unusedSimpArgs false
open Go.RowKit
section
variable {α β : Type} [A : Enc α] [B : Enc β] [D : EncD α β] {P : Program} {n : Nat} {s : Bs} {Q : APost} {σ : Fr} {O : Obs} {ops : Array Oper} {rest : List Oper} {d : Nat} {ty : TypeId} {pos : String} {after : Array Edge} {es : List α}
theorem hole_eq (f b' : Nat) {i m : Nat} (hk : A.k = m) (h : i < es.length) (x : α) : (dL f 0 es).take (i * m) ++ ((D.pre x).map .t ++ .os b' 0 (D.row x).length :: (D.post x).map .t) ++ (dL f 0 es).drop (i * m + m) = hole f b' es i x := by
  subst hk
  have hl : (dL f 0 (es.take i)).length = i * A.k := by rw [dL_len, List.length_take, Nat.min_eq_left (by omega)]
  have c := dL_cut f h
  have t1 : (dL f 0 es).take (i * A.k) = dL f 0 (es.take i) := by
    rw [c, List.append_assoc, List.take_append_of_le_length (by omega), List.take_of_length_le (by omega)]
  have t2 : (dL f 0 es).drop (i * A.k + A.k) = dL f (i + 1) (es.drop (i + 1)) := by
    rw [c, List.drop_append_of_le_length (by rw [List.length_append, dX_len]; omega), List.drop_eq_nil_of_le (by rw [List.length_append, dX_len]; omega), List.nil_append]
  rw [t1, t2, List.append_assoc]; rfl
/-- An element is read. -/
theorem Rd.dpR {t e : TypeId} {x : Operand} {b f i k0 m : Nat} {ds : List AV} [T : CA P t true] [Z : CS P t m] (hx : evA σ x = .op b (0 + i * m)) (hO : O[b]? = some (some ⟨.mx (dL f 0 es), e, k0⟩)) (hk : A.k = m) (hi : i < es.length) (hd : dX f i es[i] = ds) : Rd P s O σ (.load t x) ty (.agg ds) :=
  Rd.loadSub (by rw [hx, Nat.zero_add]) hO (by rw [dL_at f hk hi, hd]) (by rw [← hd, dX_len, hk])
/-- A cell of an element is read. -/
theorem Rd.dpF {t e : TypeId} {x : Operand} {b f i k0 m q : Nat} {c : AV} [T : CA P t false] (hx : evA σ x = .op b (0 + i * m + q)) (hO : O[b]? = some (some ⟨.mx (dL f 0 es), e, k0⟩)) (hk : A.k = m) (hi : i < es.length) (hq : q < m) (hc : (dX f i es[i])[q]? = some c) : Rd P s O σ (.load t x) ty c :=
  Rd.loadO (by rw [hx, Nat.zero_add]) hO (by
    show (dL f 0 es)[i * m + q]? = some c
    have h := dL_at f hk hi
    rw [← hc, ← h, List.getElem?_take, if_pos hq, List.getElem?_drop])
end
section
variable {α β : Type} [A : Enc α] [B : Enc β] [BF : EncF β] [D : EncD α β] {P : Program} {n : Nat} {s : Bs} {Q : APost} {σ : Fr} {O : Obs} {ops : Array Oper} {rest : List Oper} {d : Nat} {ty : TypeId} {pos : String} {after : Array Edge} {es : List α}
/-- An element with a slice of its own is written; the slice joins the family. -/
theorem PL.adS {m0 : Nat} (hl : s.L.length = m0) {t e ity : TypeId} {x y : Operand} {b f b' i k0 m ik n0 : Nat} {v : AV} (x' : α) [Z : CS P t m] (hx : evA σ x = .op b (0 + i * m)) (hy : evA σ y = v) (hw : wholeA v = true) (hO : O[b]? = some (some ⟨.mx (dL f 0 es), e, k0⟩)) (hf : O[f]? = some (some ⟨.fm (fam es), ity, ik⟩))
    (hb' : O[b']? = some (some ⟨.tr (eL (D.row x')), ity, ik⟩)) (hk : A.k = m) (hik : B.k = ik) (hi : i < es.length) (hn : n0 = (D.row x').length) (hc : cellsA v = (D.pre x').map .t ++ .os b' 0 n0 :: (D.post x').map .t)
    (h1 : Nat.ble m0 f = true) (h2 : Nat.ble m0 b' = true) (h3 : Nat.beq b f = false) (h4 : Nat.beq b b' = false) (h5 : Nat.beq f b' = false)
    (k : PL P n s ops rest Q σ (((((O.set b none).set f none).set b' none).set b (some ⟨.mx (dL O.length 0 (es.set i x')), e, k0⟩)) ++ [some ⟨.fm (fam (es.set i x')), ity, ik⟩])) : PL P n s ops (⟨none, .store t x y, ty, pos, after, none⟩ :: rest) Q σ O := by
  subst hn
  have ne : ∀ {a c : Nat}, Nat.beq a c = false → a ≠ c := fun h e => by rw [e, Nat.beq_refl] at h; cases h
  have hbl : b < O.length := (List.getElem?_eq_some_iff.1 hO).1
  have hdl : (dL f 0 es).length = es.length * m := by rw [dL_len, hk]
  have him : i * m + m ≤ es.length * m := by
    have : (i + 1) * m ≤ es.length * m := Nat.mul_le_mul_right _ hi
    rw [Nat.add_mul] at this; omega
  have hcl : (cellsA v).length = m := by
    have := dX_len (D := D) 0 0 x'
    unfold dX at this
    rw [hc, ← hk, ← this]; simp
  refine PL.storeG (by rw [hx, Nat.zero_add]) hy hw rfl hcl hO (by show i * m + m ≤ (dL f 0 es).length; omega) (ob' := ⟨.mx (hole f b' es i x'), e, k0⟩) (by
    show hole f b' es i x' = (dL f 0 es).take (i * m) ++ cellsA v ++ (dL f 0 es).drop (i * m + m)
    rw [hc, hole_eq f b' hk hi x']) rfl rfl ?_
  refine ⟨fun M U σc w S hσ => ?_⟩
  obtain ⟨M', S', hr⟩ := adopt_core S (f := f) (b := b) (b' := b') (i := i) (es := es) (x := x') (e := e) (ity := ity) (k0 := k0) (ik := ik) (by rw [hl]; exact Nat.le_of_ble_eq_true h1) (by rw [hl]; exact Nat.le_of_ble_eq_true h2) (ne h3) (ne h4) (ne h5) hi
    (by rw [List.getElem?_set_ne (ne h3)]; exact hf) (by rw [List.getElem?_set_ne (ne h4)]; exact hb') (List.getElem?_set_self hbl) hik
  refine k.h M' U σc w ?_ fun t => hr _ _ (hσ t)
  rw [List.length_set] at S'
  have e1 : ∀ (X Y Z : Option Ob), (((O.set b X).set f none).set b' none).set b Z = (((O.set b Y).set f none).set b' none).set b Z := by
    intro X Y Z
    apply List.ext_getElem?
    intro q
    by_cases q1 : q = b
    · subst q1; rw [List.getElem?_set_self (by simp; exact hbl), List.getElem?_set_self (by simp; exact hbl)]
    · simp only [List.getElem?_set, List.length_set, Ne.symm q1, if_false]
  rw [e1 _ none] at S'
  exact S'
end
end V
end Go.Proofs.Ytmnjnkcooofgjaa
namespace Go.Proofs.Ytmnjnkcooofgjaa
namespace V
open Enc (enc)
set_option linter.unusedVariables false
set_option linter.unusedSimpArgs false
open Go.RowKit
section
variable {α β : Type} [A : Enc α] [B : Enc β] [D : EncD α β]
/-- An element whose slice is nil. -/
def zX (a : α) : List AV := (D.pre a).map .t ++ .t (.v (.slice none 0 0)) :: (D.post a).map .t
def zL : List α → List AV
  | [] => []
  | a :: es => zX a ++ zL es
theorem T2.zL {R : AV → AV → Prop} (hR : ∀ c : Tr, R (.t c) (.t c)) {m : Nat} : ∀ (i : Nat) (es : List α), (∀ a ∈ es, D.row a = []) → (∀ j, j < es.length → R (.oi m (i + j) 0) (.t (.v (.slice none 0 0)))) → T2 R (V.dL m i es) (zL es)
  | i, [], _, _ => T2.nil
  | i, a :: es, he, h => by
    have h0 := h 0 (Nat.zero_lt_succ _)
    rw [Nat.add_zero] at h0
    refine T2.app ?_ (T2.zL hR (i + 1) es (fun x hx => he x (List.mem_cons_of_mem _ hx)) fun j hj => ?_)
    · unfold V.dX zX
      have e0 : (D.row a).length = 0 := by rw [he a List.mem_cons_self]; rfl
      rw [e0]
      have := T2.app (T2.ts hR (D.pre a)) (T2.app (T2.one h0) (T2.ts hR (D.post a)))
      simpa using this
    · have := h (j + 1) (Nat.succ_lt_succ hj)
      rw [show i + (j + 1) = i + 1 + j by omega] at this
      exact this
variable {P : Program} {n : Nat} {s : Bs} {Q : APost} {σ : Fr} {O : Obs} {ops : Array Oper} {rest : List Oper} {M : Mp} {U : Nat → Prop} {w : World} {es : List α}
theorem fam0_core (S : Mem s M O U w) {b k0 ik : Nat} {e ity : TypeId} (hOb : O[b]? = some (some ⟨.mx (zL es), e, k0⟩)) (he : ∀ a ∈ es, D.row a = []) :
    ∃ M', Mem s M' ((O.set b (some ⟨.mx (dL O.length 0 es), e, k0⟩)) ++ [some ⟨.fm (fam es), ity, ik⟩]) U w ∧ ∀ c z, Rel w U M c z → Rel w U M' c z := by
  have hlen := S.len
  have hbl : b < O.length := (List.getElem?_eq_some_iff.1 hOb).1
  have hMb : M[b]? = some M[b] := List.getElem?_eq_getElem (by omega)
  have hown := S.own b _ _ hOb hMb
  have hnone : ∀ (j : Nat) (L : Loc), (List.replicate es.length (none : Option Loc))[j]? ≠ some (some L) := by
    intro j L h
    obtain ⟨_, h⟩ := List.getElem?_eq_some_iff.1 h
    simp at h
  obtain ⟨S1, r1⟩ := S.insY (X := []) (p := .fm (List.replicate es.length none)) (ob := ⟨.fm (fam es), ity, ik⟩) (BelowX.refl _ _) (fun B h => by simp at h) (fun B hB => by
    obtain ⟨L0, h1, _⟩ := hB
    obtain ⟨j, hj⟩ := mem_get h1
    exact (hnone j L0 hj).elim) (fun F h => by
      cases h
      intro i j L L' h1 _ _
      exact (hnone i L h1).elim) (by
      refine ⟨_, rfl, by rw [fam_len, List.length_replicate], fun j cs l h1 h2 => ?_⟩
      obtain ⟨_, h2⟩ := List.getElem?_eq_some_iff.1 h2
      simp only [List.getElem_replicate] at h2
      subst h2
      have hj : j < es.length := by have := (List.getElem?_eq_some_iff.1 h1).1; rw [fam_len] at this; exact this
      rw [fam_get hj, he _ (List.getElem_mem hj)] at h1
      cases h1; rfl)
  have hm : (M ++ [Pl.fm (List.replicate es.length none)])[O.length]? = some (Pl.fm (List.replicate es.length none)) := snoc_new hlen.symm
  have htell : T2 (fun c c0 => ∀ y, Rel w U M c0 y → Rel w U (M ++ [Pl.fm (List.replicate es.length none)]) c y) (V.dL O.length 0 es) (zL es) := by
    refine T2.zL (fun c y h => r1 _ _ h) 0 es he fun j hj y h => ?_
    rw [Rel.int h, Nat.zero_add]
    exact .oin _ _ _ hm (by rw [List.getElem?_replicate, if_pos hj])
  have hMb1 : (M ++ [Pl.fm (List.replicate es.length none)])[b]? = some M[b] := snoc_old hMb
  obtain ⟨S2, r2⟩ := S1.turnB (b := b) (ob' := ⟨.mx (V.dL O.length 0 es), e, k0⟩) hMb1 (BelowX.refl _ _) (by simp; omega) (by
    have hl1 : (V.dL O.length 0 es).length = (zL es).length := htell.1
    generalize M[b] = p at hown
    cases p with
    | nl =>
      have h : zL es = [] := hown
      rw [h] at hl1
      exact List.eq_nil_of_length_eq_zero hl1
    | dead => exact hown.elim
    | fm F => obtain ⟨css, h, _⟩ := hown; cases h
    | ad L =>
      obtain ⟨g1, g2, cur, g3, g4, g5⟩ := hown
      refine ⟨g1, ?_, cur, g3, g4, fun q c hc => ?_⟩
      · have : ((⟨.mx (V.dL O.length 0 es), e, k0⟩ : Ob).cells).length = (zL es).length := hl1
        rw [this]; exact g2
      · have hq : q < (zL es).length := by rw [← hl1]; exact (List.getElem?_eq_some_iff.1 hc).1
        obtain ⟨y, e1, e2, e3⟩ := g5 q _ (List.getElem?_eq_getElem hq)
        exact ⟨y, e1, e2, htell.2 q c _ hc (List.getElem?_eq_getElem hq) y e3⟩)
  refine ⟨_, ?_, fun c z h => r2 _ _ (r1 _ _ h)⟩
  have eO : ∀ (l : List (Option Ob)) (o1 o2 : Option Ob), b < l.length → (l ++ [o1]).set b o2 = l.set b o2 ++ [o1] := fun l o1 o2 h => by rw [List.set_append_left _ _ h]
  rw [← eO _ _ _ hbl]
  exact S2
/-- A slice of elements whose slices are nil: they own them from now on. -/
theorem PL.fam0 {b k0 ik : Nat} {e ity : TypeId} {rest : List Oper} (hOb : O[b]? = some (some ⟨.mx (zL es), e, k0⟩)) (he : ∀ a ∈ es, D.row a = [])
    (k : PL P n s ops rest Q σ ((O.set b (some ⟨.mx (dL O.length 0 es), e, k0⟩)) ++ [some ⟨.fm (fam es), ity, ik⟩])) : PL P n s ops rest Q σ O := by
  refine ⟨fun M U σc w S hσ => ?_⟩
  obtain ⟨M', S', hr⟩ := fam0_core S (ity := ity) (ik := ik) hOb he
  exact k.h M' U σc w S' fun t => hr _ _ (hσ t)
theorem zL_rep {z0 : α} {vs : List Value} (h : zX z0 = vs.map fun v => AV.t (.v v)) : ∀ m : Nat, zL (List.replicate m z0) = ((List.range m).flatMap fun _ => vs).map fun v => AV.t (.v v)
  | 0 => rfl
  | m + 1 => by
    have e : ∀ (xs ys : List α), zL (xs ++ ys) = zL xs ++ zL ys := by
      intro xs ys
      induction xs with
      | nil => rfl
      | cons a xs ih => show zX a ++ zL (xs ++ ys) = (zX a ++ zL xs) ++ zL ys; rw [ih, List.append_assoc]
    rw [List.replicate_succ', e, zL_rep h m, List.range_succ, List.flatMap_append, List.map_append]
    congr 1
    show zX z0 ++ [] = _
    rw [List.append_nil, h]; simp
theorem dL_len0 (i : Nat) (es : List α) : (zL es).length = es.length * A.k := by
  induction es with
  | nil => simp [zL]
  | cons a es ih =>
    show (zX a ++ zL es).length = _
    have : (zX a).length = A.k := by
      have := dX_len (D := D) 0 0 a
      unfold dX at this
      unfold zX
      rw [← this]; simp
    rw [List.length_append, ih, this, List.length_cons, Nat.succ_mul, Nat.add_comm]
/-- make of elements whose slices are nil. -/
theorem Ef.makeD (z0 : α) {P : Program} {s : Bs} {σ : Fr} {O : Obs} {ty t e : TypeId} {q bytes : Nat} {z : Value} {x y : Operand} {n : Int} {zs : List α} [T : CSl P t e] [Z : CS P e q] [Y : CZ P e z] [B' : CY P e bytes] (hx : evA σ x = iA n) (hy : evA σ y = iA n)
    (h : mkM bytes z0 n = some zs) (hk : A.k = q) (hz : z.cells.size = q) (hq : Nat.blt 0 q = true) (hzl : zX z0 = z.cells.toList.map fun v => AV.t (.v v)) (hp : z.cells.toList.all plain = true) : Ef P s O σ (.makeSlice t x y) ty (.os O.length 0 zs.length) (O ++ [some ⟨.mx (zL zs), e, q⟩]) := by
  unfold mkM at h
  split at h
  · rename_i hb
    cases h
    obtain ⟨m, rfl⟩ := Int.eq_ofNat_of_zero_le hb.1
    have hq' : 0 < q := by simpa using hq
    have hbm : bytes * m ≤ 281474976710656 := by
      have : ((bytes * m : Nat) : Int) = (bytes : Int) * (m : Int) := by simp
      omega
    have hm : m ≤ 4611686018427387904 := by omega
    intro M U w σc S hσ
    have ex := evA_rel hσ x; rw [hx] at ex
    have ey := evA_rel hσ y; rw [hy] at ey
    simp only [Int.toNat_natCast, List.length_replicate]
    have hrep := zL_rep hzl m
    have hlen : ((List.range m).flatMap fun _ => z.cells.toList).length = m * q := by
      have := congrArg List.length hrep
      rw [List.length_map, dL_len0 0, List.length_replicate, hk] at this
      exact this.symm
    obtain ⟨S', hall2⟩ := S.ins (w' := w.alloc (.cells ((List.range m).flatMap fun _ => z.cells.toList).toArray e)) (L := ⟨w.heap.size, m * q, q⟩) (ob := ⟨.mx (zL (List.replicate m z0)), e, q⟩) ((Below.refl _ _).alloc (Nat.le_refl _) _) (Nat.le_refl _) (by simp)
      ⟨_, rfl, by simp [Ob.cells, Cs.list, Loc.off, dL_len0 0, hk], heap_alloc_new _ _, by simpa using hlen, fun j c hj => by
        have hj' : (zL (List.replicate m z0))[j]? = some c := hj
        rw [hrep, List.getElem?_map] at hj'
        cases hv : ((List.range m).flatMap fun _ => z.cells.toList)[j]? with
        | none => rw [hv] at hj'; cases hj'
        | some v =>
          rw [hv] at hj'; simp at hj'; subst hj'
          have hpv : plain v = true := by
            obtain ⟨r, _, h2⟩ := List.mem_flatMap.1 (get_mem hv)
            exact List.all_eq_true.1 hp v h2
          exact ⟨v, by simpa [Loc.off] using hv, plain_cell hpv, .t _ _ (.v _ hpv)⟩⟩
    refine ⟨_, _, _, run_make ex.int ey.int hbm hm hz hq', S', ?_, hall2, BelowX.of _ ((Below.refl _ _).alloc (Nat.le_refl _) _), fun B h => Nat.le_of_eq h⟩
    have hml : maxLen = 9223372036854775807 := rfl
    exact .os (U := U) (M := M ++ [.ad ⟨w.heap.size, m * q, q⟩]) O.length 0 m m ⟨w.heap.size, m * q, q⟩ (snoc_new S.len.symm) (by simp [Loc.off]) (Nat.le_refl _) (by omega)
  · cases h
end
end V
end Go.Proofs.Ytmnjnkcooofgjaa
namespace Go.Proofs.Ytmnjnkcooofgjaa
namespace V
open Enc (enc)
set_option linter.unusedVariables false
set_option linter.unusedSimpArgs false
open Go.RowKit
/-- Where a slice lies, as a place. -/
def plOf : Option Loc → Pl
  | none => .nl
  | some L => .ad L
section
variable {α β : Type} [A : Enc α] [B : Enc β] [D : EncD α β] {s : Bs} {M : Mp} {O : List (Option Ob)} {U : Nat → Prop} {w : World}
theorem mbr_blk {ty : TypeId} {k : Nat} {cs : List Tr} {l : Option Loc} {M' : Mp} (h : Mbr w ty k cs l) : Blk w U M' ⟨.tr cs, ty, k⟩ (plOf l) := by
  cases l with
  | none =>
    have h : cs = [] := h
    subst h; rfl
  | some L =>
    obtain ⟨h1, h2, cur, h3, h4, h5⟩ := h
    refine ⟨h1, by simpa [Ob.cells, Cs.list] using h2, cur, h3, h4, fun j c hc => ?_⟩
    have hc' : (cs.map AV.t)[j]? = some c := hc
    rw [List.getElem?_map] at hc'
    cases hq : cs[j]? with
    | none => rw [hq] at hc'; cases hc'
    | some q =>
      rw [hq] at hc'; cases hc'
      obtain ⟨v, rfl, hp, hv⟩ := h5 j q hq
      exact ⟨v, hv, plain_cell hp, .t _ _ (.v _ hp)⟩
end
end V
end Go.Proofs.Ytmnjnkcooofgjaa
namespace Go.Proofs.Ytmnjnkcooofgjaa
namespace V
open Enc (enc)
set_option linter.unusedVariables false
set_option linter.unusedSimpArgs false
set_option maxHeartbeats 1000000
open Go.RowKit
section
variable {P : Program} {n : Nat} {s : Bs} {Q : APost} {σ : Fr} {O : Obs} {ops : Array Oper} {rest : List Oper} {d : Nat} {ty : TypeId} {pos : String} {after : Array Edge}
theorem append_coreM {M : Mp} {U : Nat → Prop} {w : World} (S : Mem s M O U w) {t ty e : TypeId} {k bytes : Nat} [T : CSl P t e] [Z : CE P e k bytes] {v : Value} {m0 : Nat} {olds : List Value} (hv : Grw s M U w e k v m0 olds)
    {ad : Option Addr} {m c : Nat} {news : List Value} (hl : news.length = m * k) (hnews : m = 0 ∨ ∃ a, ad = some a ∧ ∀ j u, news[j]? = some u → w.cell? (a.add j) = some u) (h1 : ∀ u ∈ news, u.oneCell' = true) (h1o : ∀ u ∈ olds, u.oneCell' = true)
    {cs ds : List AV} (hcs : cs.length = olds.length) (hds : ds.length = news.length) (hco : ∀ (j : Nat) c y, cs[j]? = some c → olds[j]? = some y → Rel w U M c y) (hcn : ∀ (j : Nat) c y, ds[j]? = some c → news[j]? = some y → Rel w U M c y)
    (hbytes : (m0 + m) * bytes ≤ 140737488355328) (h63 : m0 + m ≤ 4611686018427387904) :
    ∃ v' w' x, (Builtin.append_ #[t, t] ty #[v, .slice ad m c]).run P w = .ok v' w' ∧ Mem s (M ++ [x]) (O ++ [some ⟨.mx (cs ++ ds), e, k⟩]) U w' ∧ (∀ c z, Rel w U M c z → Rel w' U (M ++ [x]) c z) ∧ Rel w' U (M ++ [x]) (.os O.length 0 (m0 + m)) v' ∧ BelowX (vBlk v) w w' ∧ ∀ B, x.has B → B ∈ vBlk v ∨ w.heap.size ≤ B := by
  obtain ⟨i, z, hi, hz, hk, hby, hzk⟩ := Z.ex
  subst hk; subst hby
  have hml : maxLen = 9223372036854775807 := rfl
  have hcells : ∀ (cur : Array Value) (o : Nat), o = 0 → (∀ j, j < (cs ++ ds).length → cur[j]? = (olds ++ news)[j]?) → ∀ (j : Nat) c, (Ob.cells ⟨.mx (cs ++ ds), e, i.size⟩)[j]? = some c → ∃ y, cur[o + j]? = some y ∧ y.oneCell' = true ∧ Rel w U M c y := by
    intro cur o ho hcur j c hc
    subst ho
    have hq : (cs ++ ds)[j]? = some c := hc
    have hj := (List.getElem?_eq_some_iff.1 hq).1
    have hlen : (olds ++ news).length = (cs ++ ds).length := by simp [hcs, hds]
    have hy : (olds ++ news)[j]? = some ((olds ++ news)[j]'(by omega)) := List.getElem?_eq_getElem _
    refine ⟨_, by rw [Nat.zero_add, hcur j hj]; exact hy, ?_, ?_⟩
    · rcases List.mem_append.1 (get_mem hy) with h | h
      · exact h1o _ h
      · exact h1 _ h
    · rcases Nat.lt_or_ge j cs.length with h | h
      · rw [List.getElem?_append_left h] at hq
        rw [List.getElem?_append_left (by omega)] at hy
        exact hco j _ _ hq hy
      · rw [List.getElem?_append_right h] at hq
        rw [List.getElem?_append_right (by omega), ← hcs] at hy
        exact hcn _ _ _ hq hy
  have hob : (Ob.cells ⟨.mx (cs ++ ds), e, i.size⟩).length = (m0 + m) * i.size := by simp [Ob.cells, Cs.list, hcs, hds, hv.1, hl, Nat.add_mul]
  have hcslen : (cs ++ ds).length = (m0 + m) * i.size := by simp [hcs, hds, hv.1, hl, Nat.add_mul]
  have hsz0 : ∀ B, B < w.heap.size → B ≠ w.heap.size := fun B h e => by omega
  have hnoU : ¬ U w.heap.size := fun h => by have := (S.u _ h).1.1; omega
  have hnoM : ¬ InM M w.heap.size := fun h => by have := S.lt _ h; omega
  by_cases hm : m = 0
  · subst hm
    have hn : news = [] := List.eq_nil_of_length_eq_zero (by simpa using hl)
    subst hn
    have hd0 : ds = [] := List.eq_nil_of_length_eq_zero (by simpa using hds)
    subst hd0
    have hsrc : Src P i.size t (.slice ad 0 c) 0 [] w := by
      cases ad with
      | none => exact Src.ofNil w T.u c
      | some a => exact Src.ofSlice w T.u a 0 c [] (by simp) (by simp) (by simp)
    rcases hv.2 with ⟨rfl, rfl⟩ | ⟨B, o, cap, cur, rfl, hnc, hcm, hcur, h2, h3, h4, h5⟩
    · have hc0 : cs = [] := List.eq_nil_of_length_eq_zero (by rw [hcs, hv.1]; simp)
      subst hc0
      obtain ⟨S', hr⟩ := S.insY (X := []) (p := .nl) (ob := ⟨.mx ([] ++ []), e, i.size⟩) (BelowX.refl _ w) (fun B h => by simp at h) (fun B h => h.elim) (fun F e => by cases e) (show Ob.cells ⟨.mx ([] ++ []), e, i.size⟩ = [] from rfl)
      exact ⟨_, w, .nl, run_append_nothing w t t ty e i T.u hi none 0 0 (Nat.le_refl _) _ hsrc, S', hr, .osn _ (snoc_new S.len.symm), BelowX.refl _ _, fun B h => h.elim⟩
    · have hr0 := run_append_nothing w t t ty e i T.u hi (some ⟨B, o, none⟩) m0 cap hnc _ hsrc
      rcases h5 with ⟨h6, h7⟩ | ⟨h6, h7, h8⟩
      · have hc0 : cs = [] := List.eq_nil_of_length_eq_zero (by rw [hcs, hv.1, h6]; simp)
        subst hc0
        obtain ⟨S', hr⟩ := S.insX (L := ⟨B, cur.size, i.size⟩) (ob := ⟨.mx ([] ++ []), e, i.size⟩) (X := []) (BelowX.refl _ w) (fun B h => by simp at h) ⟨h2, h3, h4, (Array.getElem?_eq_some_iff.1 hcur).1⟩ ⟨cur, rfl, by simp [Ob.cells, Cs.list, Loc.off], hcur, rfl, fun j c h => by simp [Ob.cells, Cs.list] at h⟩
        subst h6; subst h7
        exact ⟨_, w, _, hr0, S', hr, by have := Rel.osz (w := w) (U := U) (M := M ++ [Pl.ad ⟨B, cur.size, i.size⟩]) O.length 0 o ⟨B, cur.size, i.size⟩ (snoc_new S.len.symm); simpa using this, BelowX.refl _ _, fun B' h => .inl (List.mem_singleton.2 h.symm)⟩
      · subst h6
        have hle : m0 * i.size ≤ cap * i.size := Nat.mul_le_mul_right _ hnc
        obtain ⟨S', hr⟩ := S.insX (L := ⟨B, cur.size, i.size⟩) (ob := ⟨.mx (cs ++ []), e, i.size⟩) (X := []) (BelowX.refl _ w) (fun B h => by simp at h) ⟨h2, h3, h4, (Array.getElem?_eq_some_iff.1 hcur).1⟩
          ⟨cur, rfl, by rw [hob, h7]; simpa [Loc.off] using hle, hcur, rfl, hcells cur 0 rfl (fun j hj => by
            rw [hcslen] at hj
            rw [List.append_nil, ← h8, List.getElem?_take, if_pos (by simpa using hj)]; simp)⟩
        exact ⟨_, w, _, hr0, S', hr, by have := Rel.os (w := w) (U := U) (M := M ++ [Pl.ad ⟨B, cur.size, i.size⟩]) O.length 0 m0 cap ⟨B, cur.size, i.size⟩ (snoc_new S.len.symm) (by simp [h7, Loc.off]) hnc hcm; exact this, BelowX.refl _ _, fun B' h => .inl (List.mem_singleton.2 h.symm)⟩
  · obtain ⟨a, rfl, hcell⟩ := hnews.resolve_left hm
    have fresh : ∀ (old : Nat), old < m0 + m →
        ∃ w' x, w' = w.drew.alloc (.cells (olds.toArray ++ news.toArray ++ Builtin.zeroCells z.cells (grownCap w (m0 + m) old e - (m0 + m))) e) ∧ Mem s (M ++ [x]) (O ++ [some ⟨.mx (cs ++ ds), e, i.size⟩]) U w' ∧ (∀ c z, Rel w U M c z → Rel w' U (M ++ [x]) c z) ∧ Rel w' U (M ++ [x]) (.os O.length 0 (m0 + m)) (.slice (some ⟨w.heap.size, 0, none⟩) (m0 + m) (grownCap w (m0 + m) old e)) ∧ (∀ X, BelowX X w w') ∧ ∀ B, x.has B → w.heap.size ≤ B := by
      intro old ho
      have hge := grownCap_ge w (m0 + m) old e
      have hcm : grownCap w (m0 + m) old e ≤ maxLen := grownCap_le_maxLen w (m0 + m) old e (by omega)
      have hsize : (olds.toArray ++ news.toArray ++ Builtin.zeroCells z.cells (grownCap w (m0 + m) old e - (m0 + m))).size = grownCap w (m0 + m) old e * i.size := by
        simp only [Array.size_append, List.size_toArray, size_zeroCells, hzk, hv.1, hl, ← Nat.add_mul]
        congr 1; omega
      obtain ⟨S', hr⟩ := S.insX (w' := w.drew.alloc (.cells (olds.toArray ++ news.toArray ++ Builtin.zeroCells z.cells (grownCap w (m0 + m) old e - (m0 + m))) e)) (L := ⟨w.heap.size, grownCap w (m0 + m) old e * i.size, i.size⟩) (ob := ⟨.mx (cs ++ ds), e, i.size⟩) (X := [])
        (BelowX.of _ (((Below.refl _ _).drew).alloc (Nat.le_refl _) _)) (fun B h => by simp at h) ⟨hnoM, hnoU, S.base.size, by simp⟩
        ⟨_, rfl, by rw [hob]; simpa [Loc.off] using Nat.mul_le_mul_right i.size hge, heap_alloc_new w.drew _, hsize, hcells _ 0 rfl (fun j hj => by
          have hj' : j < (olds ++ news).length := by simp [← hcs, ← hds]; simpa using hj
          rw [← Array.getElem?_toList]
          simp only [Array.toList_append]
          rw [List.getElem?_append_left (by simpa using hj')])⟩
      exact ⟨_, _, rfl, S', hr, .os _ _ _ _ ⟨w.heap.size, grownCap w (m0 + m) old e * i.size, i.size⟩ (snoc_new S.len.symm) (by simp [Loc.off]) hge hcm, fun X => BelowX.of _ (((Below.refl _ _).drew).alloc (Nat.le_refl _) _), fun B h => Nat.le_of_eq h⟩
    rcases hv.2 with ⟨rfl, rfl⟩ | ⟨B, o, cap, cur, rfl, hnc, hcm, hcur, h2, h3, h4, h5⟩
    · have hx : olds = [] := List.eq_nil_of_length_eq_zero (by simpa using hv.1)
      subst hx
      have hr := run_append_nil (P := P) w t ty e i z T.u hi hz a m c news hl hcell (by omega) (by omega) (by simp only [Nat.zero_add] at hbytes; omega)
      obtain ⟨w', x, rfl, S', hr', hR, hBX, hN⟩ := fresh 0 (by omega)
      simp only [Nat.zero_add, Array.empty_append] at S' hr' hR hBX hN ⊢
      exact ⟨_, _, _, hr, S', hr', hR, hBX _, fun B h => .inr (hN B h)⟩
    · rcases h5 with ⟨h6, h7⟩ | ⟨h6, h7, h8⟩
      · subst h6; subst h7
        have hx : olds = [] := List.eq_nil_of_length_eq_zero (by simpa using hv.1)
        subst hx
        have hr := run_append_grow (P := P) w t ty e i z T.u hi hz ⟨B, o, none⟩ 0 0 [] (by simp) (fun j v h => by simp at h) a m c news hl hcell (by omega) (by omega) (growslice_fits (by omega) hbytes)
        obtain ⟨w', x, rfl, S', hr', hR, hBX, hN⟩ := fresh 0 (by omega)
        exact ⟨_, _, _, hr, S', hr', hR, hBX _, fun B h => .inr (hN B h)⟩
      · subst h6
        by_cases hroom : m0 + m ≤ cap
        · have hfit : m0 * i.size + news.length ≤ cur.size := by rw [hl, h7, ← Nat.add_mul]; exact Nat.mul_le_mul_right _ hroom
          have hr := run_append_room (P := P) w t ty e i T.u hi B m0 cap cur hcur a m c news hl hcell h1 hroom hfit
          let new := (cur.toList.take (m0 * i.size) ++ news ++ cur.toList.drop (m0 * i.size + news.length)).toArray
          have hnsz : new.size = cap * i.size := by
            simp only [new, List.size_toArray, List.length_append, List.length_take, List.length_drop, Array.length_toList]
            omega
          obtain ⟨S', hr'⟩ := S.insX (w' := w.setRow B new) (L := ⟨B, cap * i.size, i.size⟩) (ob := ⟨.mx (cs ++ ds), e, i.size⟩) (X := [B]) ⟨rfl, rfl, rfl, by simp, fun k hk hx => setRow_other _ _ _ _ (by simpa using hx)⟩ (fun B' h => by simp at h; subst h; exact ⟨h2, h3, h4⟩) ⟨h2, h3, h4, by simpa using (Array.getElem?_eq_some_iff.1 hcur).1⟩
            ⟨new, rfl, by rw [hob]; simpa [Loc.off] using Nat.mul_le_mul_right i.size hroom, setRow_heap _ _ _ _ _ _ hcur, hnsz, hcells _ 0 rfl (fun j hj => by
              have hj' : j < (olds ++ news).length := by simp [← hcs, ← hds]; simpa using hj
              simp only [new, List.getElem?_toArray]
              rw [h8, List.getElem?_append_left hj'])⟩
          exact ⟨_, _, _, hr, S', hr', .os _ _ _ _ ⟨B, cap * i.size, i.size⟩ (snoc_new S.len.symm) (by simp [Loc.off]) hroom hcm, ⟨rfl, rfl, rfl, by simp, fun k hk hx => setRow_other _ _ _ _ (by simpa [vBlk] using hx)⟩, fun B' h => .inl (List.mem_singleton.2 h.symm)⟩
        · have holds : ∀ j u, olds[j]? = some u → w.cell? ((⟨B, 0, none⟩ : Addr).add j) = some u := by
            intro j u hu
            rw [Rd.addr_add, Nat.zero_add, cell_of_row w _ _ cur _ _ hcur, ← Array.getElem?_toList, ← hu, ← h8, List.getElem?_take, if_pos]
            have := (List.getElem?_eq_some_iff.1 hu).1; rw [hv.1] at this; exact this
          have hr := run_append_grow (P := P) w t ty e i z T.u hi hz ⟨B, 0, none⟩ m0 cap olds hv.1 holds a m c news hl hcell (by omega) (by omega) (growslice_fits (by omega) hbytes)
          obtain ⟨w', x, rfl, S', hr', hR, hBX, hN⟩ := fresh cap (by omega)
          exact ⟨_, _, _, hr, S', hr', hR, hBX _, fun B h => .inr (hN B h)⟩
end
end V
end Go.Proofs.Ytmnjnkcooofgjaa
namespace Go.Proofs.Ytmnjnkcooofgjaa
namespace V
open Enc (enc)
set_option linter.unusedVariables false
set_option linter.unusedSimpArgs false
open Go.RowKit
section
variable {α β : Type} [A : Enc α] [B : Enc β] [D : EncD α β]
/-- The cells with one more element, whose slice is block b'. -/
def tailH (f b' : Nat) (es : List α) (x : α) : List AV := dL f 0 es ++ ((D.pre x).map .t ++ .os b' 0 (D.row x).length :: (D.post x).map .t)
theorem T2.tail {R : AV → AV → Prop} (hR : ∀ c : Tr, R (.t c) (.t c)) {f b' m : Nat} {es : List α} {x : α} (h1 : ∀ j (h : j < es.length), R (.oi m j (D.row es[j]).length) (.oi f j (D.row es[j]).length)) (h2 : R (.oi m es.length (D.row x).length) (.os b' 0 (D.row x).length)) : T2 R (V.dL m 0 (es ++ [x])) (tailH f b' es x) := by
  rw [dL_app, dL_one, Nat.zero_add]
  unfold tailH
  refine T2.app (T2.dL hR 0 _ fun j hj => ?_) ?_
  · rw [Nat.zero_add]; exact h1 j hj
  · unfold V.dX
    have := T2.app (T2.ts hR (D.pre x)) (T2.app (T2.one h2) (T2.ts hR (D.post x)))
    simpa using this
theorem tail_oi {f b' j : Nat} {es : List α} {x : α} (hj : j < es.length) : ∃ q : Nat, (tailH f b' es x)[q]? = some (.oi f j (D.row es[j]).length) := by
  have hm : (AV.oi f j (D.row es[j]).length) ∈ tailH f b' es x := by
    refine List.mem_append.2 (.inl ?_)
    rw [dL_cut f hj]; unfold dX; simp
  obtain ⟨q, hq⟩ := mem_get hm
  exact ⟨q, hq⟩
theorem tail_os {f b' : Nat} {es : List α} {x : α} : ∃ q : Nat, (tailH f b' es x)[q]? = some (.os b' 0 (D.row x).length) := by
  have hm : (AV.os b' 0 (D.row x).length) ∈ tailH f b' es x := by unfold tailH; simp
  obtain ⟨q, hq⟩ := mem_get hm
  exact ⟨q, hq⟩
end
section
variable {α β : Type} [A : Enc α] [B : Enc β] [BF : EncF β] [D : EncD α β] {s : Bs} {M : Mp} {O : List (Option Ob)} {U : Nat → Prop} {w : World}
/-- The slice of block b' joins family f at its end; the family is known by a new name. -/
theorem join_coreX (S : Mem s M O U w) {f b b' k0 ik : Nat} {e ity : TypeId} {es : List α} {x : α} (hf : s.L.length ≤ f) (hb' : s.L.length ≤ b') (hbf : b ≠ f) (hbb : b ≠ b') (hfb : f ≠ b')
    (hOf : O[f]? = some (some ⟨.fm (fam es), ity, ik⟩)) (hOb' : O[b']? = some (some ⟨.tr (eL (D.row x)), ity, ik⟩)) (hOb : O[b]? = some (some ⟨.mx (tailH f b' es x), e, k0⟩)) (hik : B.k = ik) :
    ∃ M', Mem s M' ((((O.set f none).set b' none).set b (some ⟨.mx (dL O.length 0 (es ++ [x])), e, k0⟩)) ++ [some ⟨.fm (fam (es ++ [x])), ity, ik⟩]) U w ∧ (∀ c z, Rel w U M c z → Rel w U M' c z) ∧ (∀ q, q < M.length → q ≠ f → q ≠ b' → M'[q]? = M[q]?) ∧ M'.length = M.length + 1 := by
  have hlen := S.len
  have hfl : f < O.length := (List.getElem?_eq_some_iff.1 hOf).1
  have hbl : b < O.length := (List.getElem?_eq_some_iff.1 hOb).1
  have hbl' : b' < O.length := (List.getElem?_eq_some_iff.1 hOb').1
  -- the outer block
  obtain ⟨q0, hq0⟩ := tail_os (f := f) (b' := b') (es := es) (x := x)
  have hMb : M[b]? = some M[b] := List.getElem?_eq_getElem (by omega)
  have hown := S.own b _ _ hOb hMb
  obtain ⟨L, hL⟩ : ∃ L, M[b] = .ad L := by
    generalize M[b] = p at hown
    cases p with
    | nl => have h : tailH f b' es x = [] := hown; rw [h] at hq0; simp at hq0
    | dead => exact hown.elim
    | fm F => obtain ⟨css, h, _⟩ := hown; cases h
    | ad L => exact ⟨L, rfl⟩
  rw [hL] at hMb hown
  obtain ⟨g1, g2, cur, g3, g4, g5⟩ := hown
  -- the family
  have hMf : M[f]? = some M[f] := List.getElem?_eq_getElem (by omega)
  have hownf := S.own f _ _ hOf hMf
  have hfam : (∃ F, M[f]? = some (.fm F) ∧ famAt M f es.length = F ∧ F.length = es.length ∧ ∀ (j : Nat) cs l, (fam es)[j]? = some cs → F[j]? = some l → Mbr w ity ik cs l) ∨ ((∀ F, M[f]? ≠ some (.fm F)) ∧ M[f]? ≠ some .dead ∧ famAt M f es.length = List.replicate es.length none) := by
    generalize hp : M[f] = p at hMf hownf
    cases p with
    | fm F =>
      obtain ⟨css, h1, h2, h3⟩ := hownf
      cases h1
      refine .inl ⟨F, hMf, by unfold famAt; rw [hMf], by rw [← h2, fam_len], h3⟩
    | dead => exact hownf.elim
    | nl =>
      refine .inr ⟨fun F h => ?_, fun h => ?_, by unfold famAt; rw [hMf]⟩
      · rw [hMf] at h; cases h
      · rw [hMf] at h; cases h
    | ad L =>
      refine .inr ⟨fun F h => ?_, fun h => ?_, by unfold famAt; rw [hMf]⟩
      · rw [hMf] at h; cases h
      · rw [hMf] at h; cases h
  have hF0 : (famAt M f es.length).length = es.length := by
    rcases hfam with ⟨F, _, h, h2, _⟩ | ⟨_, _, h⟩
    · rw [h, h2]
    · rw [h, List.length_replicate]
  -- others are there only where the family is
  have hoth : ∀ j (h : j < es.length), ∃ F, M[f]? = some (.fm F) ∧ famAt M f es.length = F := by
    intro j hj
    rcases hfam with ⟨F, h1, h2, _⟩ | ⟨h1, h2, _⟩
    · exact ⟨F, h1, h2⟩
    · obtain ⟨q, hq⟩ := tail_oi (f := f) (b' := b') (x := x) hj
      obtain ⟨y, _, _, hr⟩ := g5 q _ hq
      generalize (D.row es[j]).length = nn at hr
      cases hr with
      | oi _ _ _ _ F L hM => exact (h1 F hM).elim
      | oin _ _ F hM => exact (h1 F hM).elim
      | oiz _ _ _ F _ hM => exact (h1 F hM).elim
      | oid _ _ _ _ _ hM => exact (h2 hM).elim
  have hMb' : M[b']? = some M[b'] := List.getElem?_eq_getElem (by omega)
  have hownb := S.own b' _ _ hOb' hMb'
  have hmbr : Mbr w ity ik (eL (D.row x)) (locAt M b') := by
    generalize hp : M[b'] = p at hMb' hownb
    cases p with
    | dead => exact hownb.elim
    | fm F => obtain ⟨css, h, _⟩ := hownb; cases h
    | nl =>
      have h : (eL (D.row x)).map AV.t = [] := hownb
      unfold locAt; rw [hMb']
      exact List.map_eq_nil_iff.1 h
    | ad L' =>
      unfold locAt; rw [hMb']
      obtain ⟨k1, k2, cur', k3, k4, k5⟩ := hownb
      have hc : ((⟨.tr (eL (D.row x)), ity, ik⟩ : Ob).cells) = (eL (D.row x)).map .t := rfl
      rw [hc] at k2 k5
      refine ⟨k1, by simpa using k2, cur', k3, k4, fun j c hjc => ?_⟩
      obtain ⟨y, e1, e2, e3⟩ := k5 j (.t c) (by rw [List.getElem?_map, hjc]; rfl)
      obtain ⟨xx, hxx, hcx⟩ := List.mem_flatMap.1 (show c ∈ (D.row x).flatMap enc from get_mem hjc)
      obtain ⟨v, rfl⟩ := BF.flat xx c hcx
      cases e3 with | t _ _ h =>
      cases h with | v _ hp => exact ⟨_, rfl, hp, e1⟩
  -- the names that are used up
  obtain ⟨S1, r1⟩ := S.kill hf
  obtain ⟨S2, r2⟩ := S1.kill hb'
  have r12 : ∀ c z, Rel w U M c z → Rel w U ((M.set f .dead).set b' .dead) c z := fun c z h => r2 _ _ (r1 _ _ h)
  have hget2 : ∀ (q : Nat) p, ((M.set f .dead).set b' .dead)[q]? = some p → p = .dead ∨ (q ≠ f ∧ q ≠ b' ∧ M[q]? = some p) := by
    intro q p h
    by_cases h1 : q = b'
    · subst h1; rw [List.getElem?_set_self (by simp; omega)] at h; cases h; exact .inl rfl
    · rw [List.getElem?_set_ne (Ne.symm h1)] at h
      by_cases h2 : q = f
      · subst h2; rw [List.getElem?_set_self (by omega)] at h; cases h; exact .inl rfl
      · rw [List.getElem?_set_ne (Ne.symm h2)] at h; exact .inr ⟨h2, h1, h⟩
  -- the new family's blocks
  have hnew : ∀ B, (∃ q, s.L.length ≤ q ∧ (q = f ∨ q = b') ∧ ∃ p, M[q]? = some p ∧ p.has B) → ¬ InM ((M.set f .dead).set b' .dead) B ∧ ¬ U B ∧ s.w.heap.size ≤ B ∧ B < w.heap.size := by
    rintro B ⟨q, hq, hqq, p, hp, hB⟩
    refine ⟨?_, fun hU => (S.u B hU).1.2 ⟨q, p, hp, hB⟩, ?_, S.lt B ⟨q, p, hp, hB⟩⟩
    · rintro ⟨q', p', h1, h2⟩
      rcases hget2 q' p' h1 with rfl | ⟨n1, n2, h3⟩
      · exact h2
      · have := S.sep q q' p p' B hp h3 hB h2
        subst this
        rcases hqq with rfl | rfl
        · exact n1 rfl
        · exact n2 rfl
    · rcases S.fresh B ⟨q, p, hp, hB⟩ with h | h
      · exact h
      · obtain ⟨q', p', h1, h2⟩ := Bs.exX h
        have hl' : q' < s.L.length := (List.getElem?_eq_some_iff.1 h1).1
        have := S.sep q q' p p' B hp (S.lent q' p' h1) hB h2
        omega
  have hin : ∀ (j : Nat) (L0 : Loc), (famAt M f es.length)[j]? = some (some L0) → ∃ F, M[f]? = some (.fm F) ∧ F[j]? = some (some L0) := by
    intro j L0 h
    rcases hfam with ⟨F, h1, h2, _⟩ | ⟨_, _, h1⟩
    · exact ⟨F, h1, h2 ▸ h⟩
    · rw [h1] at h
      obtain ⟨_, h⟩ := List.getElem?_eq_some_iff.1 h
      simp at h
  have hloc : ∀ L0, locAt M b' = some L0 → M[b']? = some (.ad L0) := by
    intro L0 h
    unfold locAt at h
    split at h
    · cases h; assumption
    · cases h
  have hFm : ∀ (j : Nat) L0, (famAt M f es.length ++ [locAt M b'])[j]? = some (some L0) → (j = es.length ∧ M[b']? = some (.ad L0)) ∨ (j ≠ es.length ∧ ∃ F, M[f]? = some (.fm F) ∧ F[j]? = some (some L0)) := by
    intro j L0 h
    rcases Nat.lt_or_ge j es.length with hj | hj
    · rw [List.getElem?_append_left (by omega)] at h
      exact .inr ⟨by omega, hin j L0 h⟩
    · have hj : j = es.length := by
        have := (List.getElem?_eq_some_iff.1 h).1
        rw [List.length_append, hF0, List.length_singleton] at this; omega
      rw [hj, List.getElem?_append_right (by omega), hF0, Nat.sub_self] at h
      exact .inl ⟨hj, hloc L0 (by simpa using h)⟩
  have hok : FOk (famAt M f es.length ++ [locAt M b']) := by
    intro j1 j2 L1 L2 h1 h2 hbk
    rcases hFm j1 L1 h1 with ⟨e1, m1⟩ | ⟨n1, F1, m1, q1⟩
    · rcases hFm j2 L2 h2 with ⟨e2, m2⟩ | ⟨n2, F2, m2, q2⟩
      · omega
      · exact (hfb (S.sep f b' _ _ L1.blk m2 m1 ⟨L2, get_mem q2, hbk.symm⟩ rfl)).elim
    · rcases hFm j2 L2 h2 with ⟨e2, m2⟩ | ⟨n2, F2, m2, q2⟩
      · exact (hfb (S.sep f b' _ _ L1.blk m1 m2 ⟨L1, get_mem q1, rfl⟩ hbk.symm)).elim
      · rw [m1] at m2; cases m2
        exact S.fok f F1 m1 j1 j2 L1 L2 q1 q2 hbk
  have hBk : Blk w U (((M.set f .dead).set b' .dead) ++ [.fm (famAt M f es.length ++ [locAt M b'])]) ⟨.fm (fam (es ++ [x])), ity, ik⟩ (.fm (famAt M f es.length ++ [locAt M b'])) := by
    refine ⟨_, rfl, by rw [fam_len, List.length_append, List.length_append, hF0]; rfl, fun j cs l h1 h2 => ?_⟩
    show Mbr w ity ik cs l
    rw [fam_app] at h1
    rcases Nat.lt_or_ge j es.length with hj | hj
    · rw [List.getElem?_append_left (by rw [fam_len]; exact hj)] at h1
      rw [List.getElem?_append_left (by omega)] at h2
      obtain ⟨F, m1, m2⟩ := hoth j hj
      rcases hfam with ⟨F', h3, h4, h5, h6⟩ | ⟨h3, _⟩
      · rw [h4] at h2
        exact h6 j cs l h1 h2
      · exact (h3 F m1).elim
    · have hj : j = es.length := by
        have := (List.getElem?_eq_some_iff.1 h2).1
        rw [List.length_append, hF0, List.length_singleton] at this; omega
      subst hj
      rw [List.getElem?_append_right (by rw [fam_len]; exact Nat.le_refl _), fam_len, Nat.sub_self] at h1
      rw [List.getElem?_append_right (by omega), hF0, Nat.sub_self] at h2
      have h1 : some (eL (D.row x)) = some cs := h1
      have h2 : some (locAt M b') = some l := h2
      cases h1; cases h2; exact hmbr
  obtain ⟨S3, r3⟩ := S2.insY (X := []) (p := .fm (famAt M f es.length ++ [locAt M b'])) (BelowX.refl _ _) (fun B h => by simp at h) (fun B hB => by
    obtain ⟨L0, h1, h2⟩ := hB
    obtain ⟨j, hj⟩ := mem_get h1
    rcases hFm j L0 hj with ⟨_, m1⟩ | ⟨_, F, m1, q1⟩
    · exact hnew B ⟨b', hb', .inr rfl, _, m1, h2⟩
    · exact hnew B ⟨f, hf, .inl rfl, _, m1, ⟨L0, get_mem q1, h2⟩⟩) (fun F h => by cases h; exact hok) hBk
  have r123 : ∀ c z, Rel w U M c z → Rel w U (((M.set f .dead).set b' .dead) ++ [.fm (famAt M f es.length ++ [locAt M b'])]) c z := fun c z h => r3 _ _ (r12 _ _ h)
  have hm : (((M.set f .dead).set b' .dead) ++ [.fm (famAt M f es.length ++ [locAt M b'])])[O.length]? = some (Pl.fm (famAt M f es.length ++ [locAt M b'])) := snoc_new (by simp [hlen])
  have hMb3 : (((M.set f .dead).set b' .dead) ++ [.fm (famAt M f es.length ++ [locAt M b'])])[b]? = some (.ad L) := snoc_old (by rw [List.getElem?_set_ne (Ne.symm hbb), List.getElem?_set_ne (Ne.symm hbf)]; exact hMb)
  have htell : T2 (fun c c0 => ∀ y, Rel w U M c0 y → Rel w U (((M.set f .dead).set b' .dead) ++ [.fm (famAt M f es.length ++ [locAt M b'])]) c y) (V.dL O.length 0 (es ++ [x])) (tailH f b' es x) := by
    refine T2.tail (fun c y h => r123 _ _ h) (fun j hj y h => ?_) (fun y h => ?_)
    · obtain ⟨F, m1, m2⟩ := hoth j hj
      have hFj : (famAt M f es.length ++ [locAt M b'])[j]? = F[j]? := by rw [List.getElem?_append_left (by omega), m2]
      generalize (D.row es[j]).length = nn at h ⊢
      cases h with
      | oi _ _ _ cap F' L' hM hjj hcap hn hx => rw [m1] at hM; cases hM; exact .oi _ _ _ cap _ L' hm (by rw [hFj]; exact hjj) hcap hn hx
      | oin _ _ F' hM hjj => rw [m1] at hM; cases hM; exact .oin _ _ _ hm (by rw [hFj]; exact hjj)
      | oiz _ _ _ F' L' hM hjj => rw [m1] at hM; cases hM; exact .oiz _ _ _ _ L' hm (by rw [hFj]; exact hjj)
      | oid _ _ _ _ _ hM => rw [m1] at hM; cases hM
    · have hFi : (famAt M f es.length ++ [locAt M b'])[es.length]? = some (locAt M b') := by rw [List.getElem?_append_right (by omega), hF0, Nat.sub_self]; rfl
      generalize (D.row x).length = nn at h ⊢
      cases h with
      | os _ _ _ cap L' hM hcap hn hx =>
        have e : locAt M b' = some L' := by unfold locAt; rw [hM]
        exact .oi _ _ _ cap _ L' hm (by rw [hFi, e]) (by simpa using hcap) hn hx
      | osn _ hM =>
        have e : locAt M b' = none := by unfold locAt; rw [hM]
        exact .oin _ _ _ hm (by rw [hFi, e])
      | osz _ _ _ L' hM =>
        have e : locAt M b' = some L' := by unfold locAt; rw [hM]
        exact .oiz _ _ _ _ L' hm (by rw [hFi, e])
      | osd _ _ _ _ _ hM => rw [hMb'] at hM; rw [Option.some.inj hM] at hownb; exact hownb.elim
  obtain ⟨S4, r4⟩ := S3.turnB (b := b) (p := .ad L) (ob' := ⟨.mx (V.dL O.length 0 (es ++ [x])), e, k0⟩) hMb3 (BelowX.refl _ _) (by simp; omega) (by
    have hl1 : (V.dL O.length 0 (es ++ [x])).length = (tailH f b' es x).length := htell.1
    refine ⟨g1, ?_, cur, g3, g4, fun q c hc => ?_⟩
    · have : ((⟨.mx (V.dL O.length 0 (es ++ [x])), e, k0⟩ : Ob).cells).length = (tailH f b' es x).length := hl1
      rw [this]; exact g2
    · have hq : q < (tailH f b' es x).length := by rw [← hl1]; exact (List.getElem?_eq_some_iff.1 hc).1
      obtain ⟨y, e1, e2, e3⟩ := g5 q _ (List.getElem?_eq_getElem hq)
      exact ⟨y, e1, e2, htell.2 q c _ hc (List.getElem?_eq_getElem hq) y e3⟩)
  refine ⟨_, ?_, fun c z h => r4 _ _ (r123 _ _ h), fun q h1 h2 h3 => by rw [List.getElem?_append_left (by simpa using h1), List.getElem?_set_ne (Ne.symm h3), List.getElem?_set_ne (Ne.symm h2)], by simp⟩
  have eO : ∀ (l : List (Option Ob)) (o1 o2 : Option Ob), b < l.length → (l ++ [o1]).set b o2 = l.set b o2 ++ [o1] := fun l o1 o2 h => by rw [List.set_append_left _ _ h]
  rw [← eO _ _ _ (by simp; omega)]
  exact S4
theorem join_core (S : Mem s M O U w) {f b b' k0 ik : Nat} {e ity : TypeId} {es : List α} {x : α} (hf : s.L.length ≤ f) (hb' : s.L.length ≤ b') (hbf : b ≠ f) (hbb : b ≠ b') (hfb : f ≠ b')
    (hOf : O[f]? = some (some ⟨.fm (fam es), ity, ik⟩)) (hOb' : O[b']? = some (some ⟨.tr (eL (D.row x)), ity, ik⟩)) (hOb : O[b]? = some (some ⟨.mx (tailH f b' es x), e, k0⟩)) (hik : B.k = ik) :
    ∃ M', Mem s M' ((((O.set f none).set b' none).set b (some ⟨.mx (dL O.length 0 (es ++ [x])), e, k0⟩)) ++ [some ⟨.fm (fam (es ++ [x])), ity, ik⟩]) U w ∧ ∀ c z, Rel w U M c z → Rel w U M' c z := by
  obtain ⟨M', h1, h2, _⟩ := join_coreX S hf hb' hbf hbb hfb hOf hOb' hOb hik
  exact ⟨M', h1, h2⟩
end
end V
end Go.Proofs.Ytmnjnkcooofgjaa
namespace Go.Proofs.Ytmnjnkcooofgjaa
namespace V
open Enc (enc)
set_option linter.unusedVariables false
set_option linter.unusedSimpArgs false
set_option maxHeartbeats 1000000
open Go.RowKit
section
variable {s : Bs} {M : Mp} {O : List (Option Ob)} {U : Nat → Prop} {w : World}
theorem Mem.grwM {b k n0 : Nat} {e : TypeId} {cs : List AV} {v : Value} (S : Mem s M O U w) (hb : s.L.length ≤ b) (hO : O[b]? = some (some ⟨.mx cs, e, k⟩)) (hl : cs.length = n0 * k) (hr : Rel w U M (.os b 0 n0) v) :
    ∃ olds, Grw s (M.set b .dead) U w e k v n0 olds ∧ olds.length = cs.length ∧ (∀ u ∈ olds, u.oneCell' = true) ∧ ∀ (j : Nat) c y, cs[j]? = some c → olds[j]? = some y → Rel w U M c y := by
  have hlive : ∀ (L : Loc), M[b]? = some (.ad L) → ¬ InM (M.set b .dead) L.blk ∧ ¬ U L.blk ∧ s.w.heap.size ≤ L.blk := by
    intro L hM
    refine ⟨?_, fun h => (S.u _ h).1.2 (.ad hM), ?_⟩
    · rintro ⟨b', L', h1, h2⟩
      by_cases e : b' = b
      · subst e
        have hlt : b' < M.length := (List.getElem?_eq_some_iff.1 hM).1
        rw [List.getElem?_set_self hlt] at h1; cases h1; exact h2.elim
      · rw [List.getElem?_set_ne (Ne.symm e)] at h1
        exact e (S.sep b' b L' _ _ h1 hM h2 rfl)
    · rcases S.fresh _ (.ad hM) with h | h
      · exact h
      · obtain ⟨b', L', h1, h2⟩ := Bs.exX h
        have := S.sep b' b L' _ _ (S.lent _ _ h1) hM h2 rfl
        have := (List.getElem?_eq_some_iff.1 h1).1
        omega
  cases hr with
  | osd _ _ _ _ _ hM => exact (S.own _ _ _ hO hM).elim
  | osn _ hM => exact ⟨[], ⟨by simp, .inl ⟨rfl, rfl⟩⟩, by rw [hl]; simp, fun u h => by simp at h, fun j c y _ h => by simp at h⟩
  | osz _ _ o L hM =>
    obtain ⟨hk, hle, cur, hcur, hsz, hrr⟩ := S.own b _ _ hO hM
    obtain ⟨h1, h2, h3⟩ := hlive L hM
    exact ⟨[], ⟨by simp, .inr ⟨_, o, 0, cur, rfl, Nat.le_refl _, Nat.zero_le _, hcur, h1, h2, h3, .inl ⟨rfl, rfl⟩⟩⟩, by rw [hl]; simp, fun u h => by simp at h, fun j c y _ h => by simp at h⟩
  | os _ _ _ cap L hM hcap hn hx =>
    obtain ⟨hk, hle, cur, hcur, hsz, hrr⟩ := S.own b _ _ hO hM
    obtain ⟨h1, h2, h3⟩ := hlive L hM
    simp only at hk hcur
    have hle' : L.off + cs.length ≤ L.size := hle
    have hnc : n0 * k ≤ cap * k := Nat.mul_le_mul_right _ hn
    have hget : ∀ i y, ((cur.toList.drop L.off).take (n0 * k))[i]? = some y → i < n0 * k ∧ cur[L.off + i]? = some y := by
      intro i y h
      rw [List.getElem?_take] at h
      split at h
      · rename_i hi; rw [List.getElem?_drop] at h; exact ⟨hi, by simpa using h⟩
      · cases h
    have hyl : ((cur.toList.drop L.off).take (n0 * k)).length = n0 * k := by simp; omega
    have hpr : (∀ u ∈ (cur.toList.drop L.off).take (n0 * k), u.oneCell' = true) ∧ ∀ (j : Nat) c y, cs[j]? = some c → ((cur.toList.drop L.off).take (n0 * k))[j]? = some y → Rel w U M c y := by
      refine ⟨fun u hu => ?_, fun j c y hc hy => ?_⟩
      · obtain ⟨i, hi⟩ := mem_get hu
        obtain ⟨h4, h5⟩ := hget i u hi
        obtain ⟨y', h6, h7, _⟩ := hrr i (cs[i]'(by omega)) (show cs[i]? = _ from List.getElem?_eq_getElem _)
        rw [h5] at h6; cases h6; exact h7
      · obtain ⟨h4, h5⟩ := hget j y hy
        obtain ⟨y', h6, _, h7⟩ := hrr j c hc
        rw [h5] at h6; cases h6
        exact h7
    refine ⟨(cur.toList.drop L.off).take (n0 * k), ⟨hyl, .inr ⟨L.blk, L.off + 0, cap, cur, rfl, hn, hx, hcur, h1, h2, h3, .inr ⟨rfl, by rw [hk] at hcap; simp only [Loc.off] at hcap; omega, rfl⟩⟩⟩, by rw [hyl, hl], hpr.1, hpr.2⟩
theorem srcM {b k m : Nat} {e : TypeId} {ds : List AV} {yv : Value} (S : Mem s M O U w) (hO : O[b]? = some (some ⟨.mx ds, e, k⟩)) (hl : ds.length = m * k) (hr : Rel w U M (.os b 0 m) yv) :
    ∃ (ad : Option Addr) (c : Nat) (news : List Value), yv = .slice ad m c ∧ news.length = m * k ∧ (m = 0 ∨ ∃ a', ad = some a' ∧ ∀ (j : Nat) u, news[j]? = some u → w.cell? (a'.add j) = some u) ∧ (∀ u ∈ news, u.oneCell' = true) ∧ ∀ (j : Nat) c y, ds[j]? = some c → news[j]? = some y → Rel w U M c y := by
  cases hr with
  | osd _ _ _ _ _ hM => exact (S.own _ _ _ hO hM).elim
  | osn _ hM => exact ⟨none, 0, [], rfl, by simp, .inl rfl, fun u h => by simp at h, fun j c y h h' => by simp at h'⟩
  | osz _ _ o L hM => exact ⟨_, 0, [], rfl, by simp, .inl rfl, fun u h => by simp at h, fun j c y h h' => by simp at h'⟩
  | os _ _ _ cap L hM hcap hn hx =>
    obtain ⟨hk, hle, cur, hcur, hsz, hrr⟩ := S.own b _ _ hO hM
    have hle' : L.off + ds.length ≤ L.size := hle
    have hyl : ((cur.toList.drop (L.off + 0)).take (m * k)).length = m * k := by simp; omega
    have hget : ∀ i y, ((cur.toList.drop (L.off + 0)).take (m * k))[i]? = some y → i < m * k ∧ cur[L.off + i]? = some y := by
      intro i y h
      rw [List.getElem?_take] at h
      split at h
      · rename_i hi; rw [List.getElem?_drop] at h; exact ⟨hi, by simpa using h⟩
      · cases h
    refine ⟨_, cap, _, rfl, hyl, .inr ⟨_, rfl, fun i u hu => ?_⟩, fun u hu => ?_, fun i c y hc hy => ?_⟩
    · obtain ⟨h3, h4⟩ := hget i u hu
      rw [Rd.addr_add, cell_of_row w _ _ cur _ _ hcur, Nat.add_zero]; exact h4
    · obtain ⟨i, hi⟩ := mem_get hu
      obtain ⟨h3, h4⟩ := hget i u hi
      obtain ⟨y', h5, h6, _⟩ := hrr i (ds[i]'(by omega)) (show ds[i]? = _ from List.getElem?_eq_getElem _)
      rw [h4] at h5; cases h5; exact h6
    · obtain ⟨h3, h4⟩ := hget i y hy
      obtain ⟨y', h5, _, h6⟩ := hrr i c hc
      rw [h4] at h5; cases h5
      exact h6
end
section
variable {α β : Type} [A : Enc α] [B : Enc β] [BF : EncF β] [D : EncD α β] {P : Program} {n : Nat} {s : Bs} {Q : APost} {σ : Fr} {O : Obs} {ops : Array Oper} {rest : List Oper} {d : Nat} {ty : TypeId} {pos : String} {after : Array Edge} {es : List α}
/-- append of one element that owns a slice. -/
theorem PL.apD {m0 : Nat} (hm : s.L.length = m0) {t e ity : TypeId} {x y : Operand} {b bl b' f n0 k bytes ik nr : Nat} (x' : α) {zs : List α} [T : CSl P t e] [Z : CE P e k bytes] (hd : Nat.blt d n = true) (hx : evA σ x = .os b 0 n0) (hO : O[b]? = some (some ⟨.mx (dL f 0 es), e, k⟩)) (hn0 : n0 = es.length) (hy : evA σ y = .os bl 0 1)
    (hl : O[bl]? = some (some ⟨.mx ((D.pre x').map .t ++ .os b' 0 nr :: (D.post x').map .t), e, k⟩)) (hf : O[f]? = some (some ⟨.fm (fam es), ity, ik⟩)) (hb' : O[b']? = some (some ⟨.tr (eL (D.row x')), ity, ik⟩)) (hnr : nr = (D.row x').length) (hk : A.k = k) (hik : B.k = ik)
    (h0 : Nat.ble m0 b = true) (h1 : Nat.ble m0 f = true) (h2 : Nat.ble m0 b' = true) (h3 : Nat.beq b f = false) (h4 : Nat.beq b b' = false) (h5 : Nat.beq f b' = false) (h6 : Nat.beq b bl = false)
    (hh : appM bytes es [x'] = some zs)
    (kk : PL P n s ops rest Q (updA σ d (.os O.length 0 zs.length)) ((((((O.set b none) ++ [none]).set f none).set b' none).set O.length (some ⟨.mx (dL (O.length + 1) 0 zs), e, k⟩)) ++ [some ⟨.fm (fam zs), ity, ik⟩])) :
    PL P n s ops (⟨some d, .call { callee := .builtin .append, args := #[x, y], argTypes := #[t, t] }, ty, pos, after, none⟩ :: rest) Q σ O := by
  unfold appM at hh
  split at hh
  case isFalse => cases hh
  rename_i hbig
  cases hh
  subst hnr; subst hn0
  have ne : ∀ {a c : Nat}, Nat.beq a c = false → a ≠ c := fun h e => by rw [e, Nat.beq_refl] at h; cases h
  have hbl : b < O.length := (List.getElem?_eq_some_iff.1 hO).1
  have hfl : f < O.length := (List.getElem?_eq_some_iff.1 hf).1
  have hbl' : b' < O.length := (List.getElem?_eq_some_iff.1 hb').1
  refine PL.eff hd (fun M U w σc S hσ => ?_) kk
  have hbL : s.L.length ≤ b := by rw [hm]; exact Nat.le_of_ble_eq_true h0
  have ex := evA_rel hσ x; rw [hx] at ex
  have ey := evA_rel hσ y; rw [hy] at ey
  have hlitl : ((D.pre x').map AV.t ++ AV.os b' 0 (D.row x').length :: (D.post x').map AV.t).length = 1 * k := by
    have := dX_len (D := D) 0 0 x'
    unfold dX at this
    rw [Nat.one_mul, ← hk, ← this]; simp
  obtain ⟨S1, hk1⟩ := S.kill hbL
  obtain ⟨olds, hg, ho1, ho2, ho3⟩ := S.grwM hbL hO (by rw [dL_len, hk]) ex
  obtain ⟨ad, c, news, hyv, hnl, hnc, hn1, hn2⟩ := srcM S hl hlitl ey
  obtain ⟨v', w', p, hrun, S', hrel, hres, hbx, _⟩ := append_coreM (P := P) (t := t) (ty := ty) S1 hg hnl hnc hn1 ho2 ho1.symm (by rw [hlitl, hnl]) (fun j c y h1 h2 => hk1 _ _ (ho3 j c y h1 h2)) (fun j c y h1 h2 => hk1 _ _ (hn2 j c y h1 h2)) (by simpa using hbig.1) (by simpa using hbig.2) (c := c)
  obtain ⟨M2, S2, r2⟩ := join_core S' (f := f) (b := O.length) (b' := b') (es := es) (x := x') (e := e) (ity := ity) (k0 := k) (ik := ik) (by rw [hm]; exact Nat.le_of_ble_eq_true h1) (by rw [hm]; exact Nat.le_of_ble_eq_true h2) (by omega) (by omega) (ne h5)
    (snoc_old (by rw [List.getElem?_set_ne (ne h3)]; exact hf)) (snoc_old (by rw [List.getElem?_set_ne (ne h4)]; exact hb')) (snoc_new (by simp)) hik
  refine ⟨v', w', M2, Yl.mk fun d pos after g => ?_, ?_, ?_, fun c z h => r2 _ _ (hrel _ _ (hk1 _ _ h))⟩
  · simp [execOp, resolve, invoke, builtin, hyv, hrun]
  · have e1 : ∀ X : Option Ob, ((O.set b none) ++ [X]).length = O.length + 1 := fun X => by simp
    rw [e1] at S2
    have e2 : ∀ (X Y Z : Option Ob), ((((O.set b none) ++ [X]).set f none).set b' none).set O.length Z = ((((O.set b none) ++ [Y]).set f none).set b' none).set O.length Z := by
      intro X Y Z
      apply List.ext_getElem?
      intro q
      by_cases q1 : q = O.length
      · subst q1; rw [List.getElem?_set_self (by simp), List.getElem?_set_self (by simp)]
      · simp only [List.getElem?_set, List.length_set, List.length_append, List.length_singleton, Ne.symm q1, if_false]
        rcases Nat.lt_or_ge q O.length with h | h
        · rw [List.getElem?_append_left (by simpa using h), List.getElem?_append_left (by simpa using h)]
        · rw [List.getElem?_eq_none (by simp; omega), List.getElem?_eq_none (by simp; omega)]
    rw [e2 _ none] at S2
    exact S2
  · have := r2 _ _ hres
    rw [List.length_set] at this
    simpa using this
end
end V
end Go.Proofs.Ytmnjnkcooofgjaa
namespace Go.Proofs.Ytmnjnkcooofgjaa
namespace V
open Enc (enc)
set_option linter.unusedVariables false
set_option linter.unusedSimpArgs false
set_option maxHeartbeats 1000000
open Go.RowKit
section
variable {α β : Type} [A : Enc α] [B : Enc β] [D : EncD α β] {P : Program} {n : Nat} {s : Bs} {Q : APost} {σ : Fr} {O : Obs} {ops : Array Oper} {rest : List Oper} {d : Nat} {ty : TypeId} {pos : String} {after : Array Edge} {es : List α}
theorem mkM_rows {w : Nat} {z0 : α} {n : Int} {zs : List α} (h : mkM w z0 n = some zs) (hz : D.row z0 = []) : ∀ a ∈ zs, D.row a = [] := by
  unfold mkM at h
  split at h
  · cases h
    intro a ha
    rw [List.eq_of_mem_replicate ha]; exact hz
  · cases h
/-- Told anew: the family has another name. -/
theorem sb_dX {z : Bool} {O : Obs} {ρ : Rho} {f f' i : Nat} (h : ρ[f]? = some (some f')) (a : α) : SbL z O ρ (dX f i a) (dX f' i a) := by
  have key : ∀ (cs : List Tr) (u v : List AV), SbL z O ρ u v → SbL z O ρ (cs.map .t ++ u) (cs.map .t ++ v) := by
    intro cs u v hu
    induction cs with
    | nil => exact hu
    | cons c cs ih => exact ⟨.t c, ih⟩
  have kt : ∀ cs : List Tr, SbL z O ρ (cs.map .t) (cs.map .t) := by
    intro cs
    have := key cs [] [] trivial
    simpa using this
  unfold dX
  exact key _ _ _ ⟨.oi h, kt _⟩
theorem sbL_app {z : Bool} {O : Obs} {ρ : Rho} : ∀ {a b c d : List AV}, SbL z O ρ a b → SbL z O ρ c d → SbL z O ρ (a ++ c) (b ++ d)
  | [], [], c, d, _, h => h
  | x :: a, y :: b, c, d, h1, h2 => ⟨h1.1, sbL_app h1.2 h2⟩
  | [], _ :: _, _, _, h, _ => h.elim
  | _ :: _, [], _, _, h, _ => h.elim
theorem sb_dL {z : Bool} {O : Obs} {ρ : Rho} {f f' : Nat} (h : ρ[f]? = some (some f')) : ∀ (i : Nat) (es : List α), SbL z O ρ (dL f i es) (dL f' i es)
  | _, [] => trivial
  | i, a :: es => sbL_app (sb_dX h a) (sb_dL h (i + 1) es)
end
section
variable {α β : Type} [A : Enc α] [B : Enc β] [BF : EncF β] [D : EncD α β] {P : Program} {n : Nat} {s : Bs} {Q : APost} {σ : Fr} {O : Obs} {ops : Array Oper} {rest : List Oper} {es : List α}
end
end V
end Go.Proofs.Ytmnjnkcooofgjaa
namespace Go.Proofs.Ytmnjnkcooofgjaa
namespace V
open Enc (enc)
set_option linter.unusedVariables false
set_option linter.unusedSimpArgs false
set_option maxHeartbeats 1000000
open Go.RowKit
section
variable {P : Program} {s : Bs} {M : Mp} {O : List (Option Ob)} {U : Nat → Prop} {w : World}
theorem blk_mbr {w' : World} {U' : Nat → Prop} {M' : Mp} {ty : TypeId} {k : Nat} {cs : List Tr} {l : Option Loc} (hp : ∀ c ∈ cs, ∃ v, c = .v v) (h : Blk w' U' M' ⟨.tr cs, ty, k⟩ (plOf l)) : Mbr w' ty k cs l := by
  cases l with
  | none =>
    have h : cs.map AV.t = [] := h
    exact List.map_eq_nil_iff.1 h
  | some L =>
    obtain ⟨h1, h2, cur, h3, h4, h5⟩ := h
    have hc : ((⟨.tr cs, ty, k⟩ : Ob).cells) = cs.map .t := rfl
    rw [hc] at h2 h5
    refine ⟨h1, by simpa using h2, cur, h3, h4, fun j c hj => ?_⟩
    obtain ⟨y, e1, e2, e3⟩ := h5 j (.t c) (by rw [List.getElem?_map, hj]; rfl)
    obtain ⟨v, rfl⟩ := hp c (get_mem hj)
    cases e3 with | t _ _ h =>
    cases h with | v _ hpl => exact ⟨_, rfl, hpl, e1⟩
theorem member_call (S : Mem s M O U w) {g : FuncId} {f i nr ik : Nat} {ity : TypeId} {css : List (List Tr)} {cs cs' : List Tr} {c1 : Tr} {cv y1 y2 : Value} (hOf : O[f]? = some (some ⟨.fm css, ity, ik⟩)) (hcs : css[i]? = some cs)
    (hc : FnX P g [⟨.tr cs, ity, ik⟩] [.os 0 0 nr, .t c1] (RE (.t (.v cv)) [⟨.tr cs', ity, ik⟩])) (hx : Rel w U M (.oi f i nr) y1) (hy : Rel w U M (.t c1) y2) (hpl : ∀ c ∈ cs', ∃ v, c = .v v) :
    Calls P g [y1, y2].toArray w fun e w' => e = .returned cv ∧ plain cv = true ∧ Mem s M (O.set f (some ⟨.fm (css.set i cs'), ity, ik⟩)) U w' ∧ ∀ c z, Rel w U M c z → Rel w' U M c z := by
  have hfl : f < O.length := (List.getElem?_eq_some_iff.1 hOf).1
  obtain ⟨F, l, hF, hl, hx'⟩ : ∃ F l, M[f]? = some (.fm F) ∧ F[i]? = some l ∧ Rel w U [plOf l] (.os 0 0 nr) y1 := by
    cases hx with
    | oi _ _ _ cap F L hM hj hcap hn hx => exact ⟨F, _, hM, hj, .os 0 0 _ cap L rfl (by simpa using hcap) hn hx⟩
    | oin _ _ F hM hj => exact ⟨F, _, hM, hj, .osn 0 rfl⟩
    | oiz _ _ o F L hM hj => exact ⟨F, _, hM, hj, .osz 0 0 o L rfl⟩
    | oid _ _ _ _ _ hM => exact (S.own _ _ _ hOf hM).elim
  obtain ⟨css', e0, hcl, hmb⟩ := S.own _ _ _ hOf hF
  cases e0
  have hmbr := hmb i cs l hcs hl
  have hin : ∀ B, (plOf l).has B → (Pl.fm F).has B := by
    intro B h
    cases l with
    | none => exact h.elim
    | some L => exact ⟨L, get_mem hl, h⟩
  have hone : ∀ (q : Nat) p, [plOf l][q]? = some p → q = 0 ∧ p = plOf l := by
    intro q p h
    cases q with
    | zero => simp at h; exact ⟨rfl, h.symm⟩
    | succ q => simp at h
  have hno : ∀ B, U B → ¬ InM [plOf l] B := by
    rintro B hB ⟨q, p, h1, h2⟩
    obtain ⟨_, rfl⟩ := hone q p h1
    exact (S.u B hB).1.2 ⟨f, _, hF, hin B h2⟩
  have := hc ⟨w, [plOf l], U⟩ U [y1, y2] ?_ (fun B h => h) ⟨rfl, fun q a y h1 h2 => ?_⟩
  · refine this.mono ?_
    rintro e w' ⟨v, r, bl, M', U', rfl, ⟨rfl, rfl⟩, h3, S'⟩
    have hM0 : M'[0]? = some (plOf l) := S'.lent 0 _ rfl
    have hv : v = cv ∧ plain cv = true := by
      cases h3 with | t _ _ h =>
      cases h with | v _ hp => exact ⟨rfl, hp⟩
    obtain ⟨rfl, hpc⟩ := hv
    have hX : ∀ B, B ∈ (Bs.mk w [plOf l] U).X → (Pl.fm F).has B := by
      intro B hB
      obtain ⟨q, p, h1, h2⟩ := Bs.exX hB
      obtain ⟨_, rfl⟩ := hone q p h1
      exact hin B h2
    have hb : BelowX (Pl.all (.fm F)) w w' := by
      have := S'.base
      exact ⟨this.os, this.tape, this.output, this.size, fun k hk hx => this.block k hk fun h => hx (Pl.mem_all.2 (hX k h))⟩
    obtain ⟨S2, r2⟩ := S.turnB (b := f) (p := .fm F) (ob' := ⟨.fm (css.set i cs'), ity, ik⟩) hF hb hfl (by
      refine ⟨_, rfl, by rw [List.length_set]; exact hcl, fun j cs0 l0 g1 g2 => ?_⟩
      show Mbr w' ity ik cs0 l0
      by_cases hj : j = i
      · subst hj
        rw [List.getElem?_set_self (List.getElem?_eq_some_iff.1 hcs).1] at g1
        rw [hl] at g2
        cases g1; cases g2
        exact blk_mbr hpl (S'.own 0 _ _ rfl hM0)
      · rw [List.getElem?_set_ne (Ne.symm hj)] at g1
        refine (hmb j cs0 l0 g1 g2).mono fun L0 e => ?_
        subst e
        refine S'.base.block _ (S.lt _ ⟨f, _, hF, L0, get_mem g2, rfl⟩) fun h => ?_
        obtain ⟨q, p, h1, h2⟩ := Bs.exX h
        obtain ⟨_, rfl⟩ := hone q p h1
        cases l with
        | none => exact h2.elim
        | some L1 => exact hj (S.fok f F hF j i L0 L1 g2 hl h2.symm))
    exact ⟨rfl, hpc, S2, r2⟩
  · refine ⟨BelowX.refl _ _, fun b x h => h, rfl, ?_, ?_, ?_, ?_, ?_, fun B h => ⟨⟨(S.u B h).1.1, hno B h⟩, .inl h⟩, S.tab⟩
    · rintro B ⟨q, p, h1, h2⟩
      obtain ⟨_, rfl⟩ := hone q p h1
      exact S.lt B ⟨f, _, hF, hin B h2⟩
    · rintro B ⟨q, p, h1, h2⟩
      exact .inr (Bs.inX (s := ⟨w, [plOf l], U⟩) h1 h2)
    · intro q q' p p' B h1 h2 _ _
      rw [(hone q p h1).1, (hone q' p' h2).1]
    · intro q F0 h
      obtain ⟨_, h⟩ := hone q _ h
      cases l <;> cases h
    · intro q ob x h1 h2
      obtain ⟨rfl, rfl⟩ := hone q x h2
      simp at h1; subst h1
      exact mbr_blk hmbr
  · match q with
    | 0 => cases h1; cases h2; exact hx'
    | 1 =>
      cases h1; cases h2
      cases hy with | t _ _ h => exact .t _ _ h
    | q + 2 => simp at h1
end
section
variable {α β : Type} [A : Enc α] [B : Enc β] [BF : EncF β] [D : EncD α β] {P : Program} {n : Nat} {s : Bs} {Q : APost} {σ : Fr} {O : Obs} {ops : Array Oper} {rest : List Oper} {d : Nat} {ty : TypeId} {pos : String} {after : Array Edge} {es : List α}
/-- A call that writes the slice of one element. -/
theorem PL.callOI {g : FuncId} {x y : Operand} {b f i nr ik k0 : Nat} {e ity : TypeId} {c1 : Tr} {cv : Value} {row' : List β} {ats : Array TypeId} (x' : α) (hi : i < es.length) (hc : FnX P g [⟨.tr (eL (D.row es[i])), ity, ik⟩] [.os 0 0 nr, .t c1] (RE (.t (.v cv)) [⟨.tr (eL row'), ity, ik⟩])) (hd : Nat.blt d n = true)
    (hr : ∀ args w, (callFunc g args).run P w = .ok (.enter g args) w) (hx : evA σ x = .oi f i nr) (hy : evA σ y = .t c1) (hbf : Nat.beq b f = false) (hOb : O[b]? = some (some ⟨.mx (dL f 0 es), e, k0⟩)) (hOf : O[f]? = some (some ⟨.fm (fam es), ity, ik⟩)) (h1 : D.row x' = row') (h2 : D.pre x' = D.pre es[i]) (h3 : D.post x' = D.post es[i]) (h4 : row'.length = (D.row es[i]).length)
    (k : PL P n s ops rest Q (updA σ d (.t (.v cv))) ((O.set b (some ⟨.mx (dL f 0 (es.set i x')), e, k0⟩)).set f (some ⟨.fm (fam (es.set i x')), ity, ik⟩))) :
    PL P n s ops (⟨some d, .call { callee := .value (.func g), args := [x, y].toArray, argTypes := ats }, ty, pos, after, none⟩ :: rest) Q σ O := by
  have hne : b ≠ f := fun e => by rw [e, Nat.beq_refl] at hbf; cases hbf
  have e0 : dL f 0 (es.set i x') = dL f 0 es := by
    rw [set_cut f hi, dL_cut f hi, List.append_assoc]
    have : dX f i x' = dX f i es[i] := by unfold dX; rw [h2, h3, h1, h4]
    rw [this]
  have e1 : O.set b (some ⟨.mx (dL f 0 (es.set i x')), e, k0⟩) = O := by
    rw [e0]
    apply List.ext_getElem?
    intro q
    by_cases hq : q = b
    · subst hq; rw [List.getElem?_set_self (List.getElem?_eq_some_iff.1 hOb).1, hOb]
    · rw [List.getElem?_set_ne (Ne.symm hq)]
  rw [e1, fam_set, h1] at k
  refine ⟨fun M U σc w S hσ => LW.call hd (f := g) (run_fcall hr rfl) (member_call S hOf (fam_get hi) hc (y1 := ev σc x) (y2 := ev σc y) (by have := evA_rel hσ x; rwa [hx] at this) (by have := evA_rel hσ y; rwa [hy] at this) (fun c h => ?_)) ?_⟩
  · obtain ⟨xx, _, hcx⟩ := List.mem_flatMap.1 (show c ∈ row'.flatMap enc from h)
    exact BF.flat xx c hcx
  · rintro e w' ⟨rfl, hpc, S2, r2⟩
    exact ⟨_, rfl, k.h M U _ w' S2 (Rels.upd (fun t => r2 _ _ (hσ t)) d (.t _ _ (.v _ hpc)))⟩
end
end V
end Go.Proofs.Ytmnjnkcooofgjaa
namespace Go.Proofs.Ytmnjnkcooofgjaa
namespace V
open Enc (enc)
set_option linter.unusedVariables false
set_option linter.unusedSimpArgs false
open Go.RowKit
section
variable {α β : Type} [A : Enc α] [B : Enc β] [D : EncD α β] {P : Program} {n : Nat} {s : Bs} {Q : APost} {σ : Fr} {O : Obs} {ops : Array Oper} {rest : List Oper} {d : Nat} {ty : TypeId} {pos : String} {after : Array Edge} {es : List α} {i : Int} {x0 : α}
theorem Rd.dpRM {t e : TypeId} {x : Operand} {b f k0 m : Nat} {ds : List AV} [T : CA P t true] [Z : CS P t m] (hx : evA σ x = .op b (0 + i.toNat * m)) (hO : O[b]? = some (some ⟨.mx (dL f 0 es), e, k0⟩)) (hk : A.k = m) (hi : ixI es i = some x0) (hd : dX f i.toNat x0 = ds) : Rd P s O σ (.load t x) ty (.agg ds)  := by
  obtain ⟨_, h2, rfl⟩ := ixI_spec hi; exact Rd.dpR hx hO hk h2 hd
theorem Rd.dpFM {t e : TypeId} {x : Operand} {b f k0 m q : Nat} {c : AV} [T : CA P t false] (hx : evA σ x = .op b (0 + i.toNat * m + q)) (hO : O[b]? = some (some ⟨.mx (dL f 0 es), e, k0⟩)) (hk : A.k = m) (hi : ixI es i = some x0) (hq : Nat.blt q m = true) (hc : (dX f i.toNat x0)[q]? = some c) : Rd P s O σ (.load t x) ty c  := by
  obtain ⟨_, h2, rfl⟩ := ixI_spec hi; exact Rd.dpF hx hO hk h2 (by simpa using hq) hc
end
section
variable {α β : Type} [A : Enc α] [B : Enc β] [BF : EncF β] [D : EncD α β] {P : Program} {n : Nat} {s : Bs} {Q : APost} {σ : Fr} {O : Obs} {ops : Array Oper} {rest : List Oper} {d : Nat} {ty : TypeId} {pos : String} {after : Array Edge} {es : List α} {i : Int} {x0 : α}
theorem PL.adSM {m0 : Nat} (hl : s.L.length = m0) {t e ity : TypeId} {x y : Operand} {b f b' k0 m ik n0 : Nat} {v : AV} (x' : α) [Z : CS P t m] (hx : evA σ x = .op b (0 + i.toNat * m)) (hy : evA σ y = v) (hw : wholeA v = true) (hO : O[b]? = some (some ⟨.mx (dL f 0 es), e, k0⟩)) (hf : O[f]? = some (some ⟨.fm (fam es), ity, ik⟩))
    (hb' : O[b']? = some (some ⟨.tr (eL (D.row x')), ity, ik⟩)) (hk : A.k = m) (hik : B.k = ik) (hi : ixI es i = some x0) (hn : n0 = (D.row x').length) (hc : cellsA v = (D.pre x').map .t ++ .os b' 0 n0 :: (D.post x').map .t)
    (h1 : Nat.ble m0 f = true) (h2' : Nat.ble m0 b' = true) (h3 : Nat.beq b f = false) (h4 : Nat.beq b b' = false) (h5 : Nat.beq f b' = false)
    (k : PL P n s ops rest Q σ (((((O.set b none).set f none).set b' none).set b (some ⟨.mx (dL O.length 0 (es.set i.toNat x')), e, k0⟩)) ++ [some ⟨.fm (fam (es.set i.toNat x')), ity, ik⟩])) : PL P n s ops (⟨none, .store t x y, ty, pos, after, none⟩ :: rest) Q σ O  := by
  obtain ⟨_, h2, rfl⟩ := ixI_spec hi; exact PL.adS hl x' hx hy hw hO hf hb' hk hik h2 hn hc h1 h2' h3 h4 h5 k
end
end V
end Go.Proofs.Ytmnjnkcooofgjaa
namespace Go.Proofs.Ytmnjnkcooofgjaa
namespace V
open Enc (enc)
set_option linter.unusedVariables false
set_option linter.unusedSimpArgs false
set_option maxHeartbeats 1000000
open Go.RowKit
section
variable {α β : Type} [A : Enc α] [B : Enc β] [BF : EncF β] [D : EncD α β] {P : Program} {n : Nat} {s : Bs} {Q : APost} {σ : Fr} {O : Obs} {ops : Array Oper} {rest : List Oper} {d : Nat} {ty : TypeId} {pos : String} {after : Array Edge} {es : List α}
end
end V
end Go.Proofs.Ytmnjnkcooofgjaa
namespace Go.Proofs.Ytmnjnkcooofgjaa
namespace V
open Enc (enc)
set_option linter.unusedVariables false
set_option linter.unusedSimpArgs false
set_option maxHeartbeats 1000000
open Go.RowKit
section
variable {P : Program} {s : Bs} {O : Obs} {σ : Fr} {ty : TypeId}
end
/-- Elements with a slice of their own and plain cells beside it. -/
class EncDF (α : Type) {β : outParam Type} [A : Enc α] [B : Enc β] [D : EncD α β] : Prop where
  pre : ∀ (x : α) c, c ∈ D.pre x → ∃ v, c = .v v
  post : ∀ (x : α) c, c ∈ D.post x → ∃ v, c = .v v
theorem flatL_app : ∀ {a b : List AV}, AV.flatL a → AV.flatL b → AV.flatL (a ++ b)
  | [], b, _, h => h
  | c :: a, b, h, h' => ⟨h.1, flatL_app h.2 h'⟩
theorem flatL_ts : ∀ {cs : List Tr}, (∀ c, c ∈ cs → ∃ v, c = .v v) → AV.flatL (cs.map .t)
  | [], _ => trivial
  | c :: cs, h => by
    obtain ⟨v, rfl⟩ := h c (.head _)
    exact ⟨trivial, flatL_ts fun d hd => h d (.tail _ hd)⟩
section
variable {α β : Type} [A : Enc α] [B : Enc β] [D : EncD α β] [E : EncDF α]
theorem flat_dL (f : Nat) : ∀ (i : Nat) (es : List α), AV.flatL (dL f i es)
  | i, [] => trivial
  | i, a :: es => flatL_app (flatL_app (flatL_ts (E.pre a)) ⟨trivial, flatL_ts (E.post a)⟩) (flat_dL f (i + 1) es)
theorem flat_dp {f k : Nat} {e : TypeId} {es : List α} : (⟨.mx (dL f 0 es), e, k⟩ : Ob).flat := flat_dL f 0 es
end
theorem flat_fm {k : Nat} {e : TypeId} {css : List (List Tr)} : (⟨.fm css, e, k⟩ : Ob).flat := trivial
section
variable {α β : Type} [A : Enc α] [B : Enc β] [D : EncD α β] {O : Obs} {ρ : Rho} {f n k : Nat} {ty : TypeId} {es : List α} {i : Int} {x0 : α}
/-- A member handed over to be read. -/
theorem Sb.fziM (hO : O[f]? = some (some ⟨.fm (fam es), ty, k⟩)) (hb : some f ∉ ρ) (hi : ixI es i = some x0) (hn : n = (D.row x0).length) (hk : B.k = k) : Sb true O ρ (sL (D.row x0)) (.oi f i.toNat n) := by
  subst hn
  obtain ⟨_, h2, rfl⟩ := ixI_spec hi
  exact .fzi rfl hO hb (fam_get h2) (by rw [eL_len, hk])
end
section
variable {α β : Type} [A : Enc α] [B : Enc β] [BF : EncF β] [D : EncD α β] {P : Program} {n : Nat} {s : Bs} {Q : APost} {σ : Fr} {O : Obs} {ops : Array Oper} {rest : List Oper} {d : Nat} {ty : TypeId} {pos : String} {after : Array Edge} {es : List α} {i : Int} {x0 : α}
/-- A call that writes the slice of one element, at an index of the program. -/
theorem PL.callOIM {g : FuncId} {x y : Operand} {b f nr ik k0 : Nat} {e ity : TypeId} {c1 : Tr} {cv : Value} {row' : List β} {ats : Array TypeId} (x' : α) (hi : ixI es i = some x0) (hc : FnX P g [⟨.tr (eL (D.row x0)), ity, ik⟩] [.os 0 0 nr, .t c1] (RE (.t (.v cv)) [⟨.tr (eL row'), ity, ik⟩])) (hd : Nat.blt d n = true)
    (hr : ∀ args w, (callFunc g args).run P w = .ok (.enter g args) w) (hx : evA σ x = .oi f i.toNat nr) (hy : evA σ y = .t c1) (hbf : Nat.beq b f = false) (hOb : O[b]? = some (some ⟨.mx (dL f 0 es), e, k0⟩)) (hOf : O[f]? = some (some ⟨.fm (fam es), ity, ik⟩)) (h1 : D.row x' = row') (h2 : D.pre x' = D.pre x0) (h3 : D.post x' = D.post x0) (h4 : row'.length = (D.row x0).length)
    (k : PL P n s ops rest Q (updA σ d (.t (.v cv))) ((O.set b (some ⟨.mx (dL f 0 (es.set i.toNat x')), e, k0⟩)).set f (some ⟨.fm (fam (es.set i.toNat x')), ity, ik⟩))) :
    PL P n s ops (⟨some d, .call { callee := .value (.func g), args := [x, y].toArray, argTypes := ats }, ty, pos, after, none⟩ :: rest) Q σ O := by
  obtain ⟨_, hlt, rfl⟩ := ixI_spec hi
  exact PL.callOI x' hlt hc hd hr hx hy hbf hOb hOf h1 h2 h3 h4 k
end
end V
end Go.Proofs.Ytmnjnkcooofgjaa
namespace Go.Proofs.Ytmnjnkcooofgjaa
namespace V
open Enc (enc)
set_option linter.unusedVariables false
set_option linter.unusedSimpArgs false
open Go.RowKit
def frzD (b f m : Nat) : Rho := (List.range m).map fun i => some (bif Nat.beq i b || Nat.beq i f then m else i)
theorem frzD_get {b f m i : Nat} (h : i < m) : (frzD b f m)[i]? = some (some (bif Nat.beq i b || Nat.beq i f then m else i)) := by simp [frzD, h]
section
variable {P : Program} {n : Nat} {s : Bs} {Q : APost} {σ : Fr} {O : Obs} {ops : Array Oper} {rest : List Oper} {M : Mp} {U : Nat → Prop} {w : World} {xs : List Nat} {K : Fr → Obs → List Nat → Prop}
theorem frzD_mp (h : M.length = O.length) (b f : Nat) : mpR M (frzD b f O.length) = (M.set b .dead).set f .dead := by
  apply List.ext_getElem?
  intro i
  by_cases hi : i < O.length
  · have e : mpR M (frzD b f O.length) = (frzD b f O.length).map fun r => match r with | none => .nl | some b => (M[b]?).getD .dead := rfl
    rw [e, List.getElem?_map, frzD_get hi]
    have ne : ∀ {c : Nat}, i ≠ c → Nat.beq i c = false := fun {c} h => by cases hq : Nat.beq i c; rfl; exact absurd (Nat.eq_of_beq_eq_true hq) h
    by_cases hf : i = f
    · subst hf
      rw [List.getElem?_set_self (by simp; omega)]
      simp [Nat.beq_refl, h]
    · rw [List.getElem?_set_ne (Ne.symm hf)]
      by_cases hb : i = b
      · subst hb
        rw [List.getElem?_set_self (by omega)]
        simp [Nat.beq_refl, h]
      · rw [List.getElem?_set_ne (Ne.symm hb)]
        simp only [ne hb, ne hf, Bool.or_false, cond_false, Option.map_some]
        rw [List.getElem?_eq_getElem (by omega)]; rfl
  · rw [List.getElem?_eq_none (by simp [mpR, frzD]; omega), List.getElem?_eq_none (by simp; omega)]
theorem frzD_core {b f m : Nat} {O' : Obs} (S : Mem s M O U w) (hb : s.L.length ≤ b) (hf : s.L.length ≤ f) (hm : O.length = m) (hO : FzL O (frzD b f m) b 0 O' O) (hOf : O'[f]? = some none) : Mem s ((M.set b .dead).set f .dead) O' (frU true M (frzD b f m) U) w ∧ (∀ c z, Rel w U M c z → Rel w (frU true M (frzD b f m) U) ((M.set b .dead).set f .dead) c z) ∧
    ∀ v v' z, Sb true O (frzD b f m) v' v → Rel w U M v z → Rel w (frU true M (frzD b f m) U) ((M.set b .dead).set f .dead) v' z := by
  subst hm
  have hmp := frzD_mp S.len b f
  obtain ⟨S0, h0⟩ := S.kill hb
  obtain ⟨S1, h1'⟩ := S0.kill hf
  have h1 : ∀ c z, Rel w U M c z → Rel w U ((M.set b .dead).set f .dead) c z := fun c z h => h1' c z (h0 c z h)
  obtain ⟨hlen, hsp⟩ := hO.spec
  have up : ∀ c z, Rel w U ((M.set b .dead).set f .dead) c z → Rel w (frU true M (frzD b f O.length) U) ((M.set b .dead).set f .dead) c z := fun c z h => h.mono (fun _ _ => rfl) (fun B hB => .inl hB) (fun _ _ e => e)
  have rt : ∀ v v' z, Sb true O (frzD b f O.length) v' v → Rel w U M v z → Rel w (frU true M (frzD b f O.length) U) ((M.set b .dead).set f .dead) v' z := fun v v' z h hr => by
    have := h.rel S hr
    rw [hmp] at this; exact this
  refine ⟨⟨S1.base, S1.lent, by rw [hlen]; simpa using S.len, S1.lt, S1.fresh, S1.sep, S1.fok, fun b1 ob x hO hM => ?_, fun B hB => ⟨?_, ?_⟩, S1.tab.mono (fun _ _ => rfl) (fun B hB => .inl hB)⟩, fun c z h => up _ _ (h1 c z h), rt⟩
  · obtain ⟨hne, h⟩ := hsp b1 ob hO
    have hne : b ≠ b1 := by omega
    have hnf : f ≠ b1 := fun e => by subst e; rw [hOf] at hO; cases hO
    rw [List.getElem?_set_ne hnf, List.getElem?_set_ne hne] at hM
    rcases h with h | ⟨ob0, h, ht, hk, hc⟩
    · exact (S.own b1 ob x h hM).mono (fun _ _ => rfl) (fun c z g => up _ _ (h1 _ _ g))
    · have := S.own b1 ob0 x h hM
      obtain ⟨q1, q2⟩ := hc.spec
      have q1 : ob.cells.length = ob0.cells.length := q1
      cases x with
      | nl =>
        show ob.cells = []
        have : ob0.cells = [] := this
        rw [this] at q1; exact List.eq_nil_of_length_eq_zero q1
      | dead => exact this
      | ad L =>
        obtain ⟨g1, g2, cur, g3, g4, g5⟩ := this
        refine ⟨by rw [g1, hk], by rw [q1]; exact g2, cur, by rw [← ht]; exact g3, g4, fun j c hc => ?_⟩
        have hj : j < ob0.cells.length := by rw [← q1]; exact (List.getElem?_eq_some_iff.1 hc).1
        obtain ⟨y, e1, e2, e3⟩ := g5 j _ (List.getElem?_eq_getElem hj)
        exact ⟨y, e1, e2, rt _ _ _ (q2 j c _ hc (List.getElem?_eq_getElem hj)) e3⟩
      | fm F =>
        obtain ⟨css, g1, g2, g3⟩ := this
        exact ⟨css, hc.fam g1, g2, by rw [← ht, ← hk]; exact g3⟩
  · rw [← hmp]; exact frU_fz S hB
  · rcases hB with hB | ⟨_, h2, h3⟩
    · exact (S.u B hB).2
    · rcases S.fresh B h2 with h4 | h4
      · exact .inr h4
      · obtain ⟨b', L, h5, h6⟩ := Bs.exX h4
        have hb' : b' < s.L.length := (List.getElem?_eq_some_iff.1 h5).1
        refine absurd ⟨b', L, ?_, h6⟩ h3
        rw [hmp, List.getElem?_set_ne (by omega), List.getElem?_set_ne (by omega)]
        exact S.lent b' _ h5
theorem PR.frzD {m0 : Nat} (hm : s.L.length = m0) (b f m : Nat) (vs : List (Nat × AV)) (O' : Obs) (hl : O.length = m) (hb : Nat.ble m0 b = true) (hf : Nat.ble m0 f = true) (hxs : xs.contains b = false) (hxf : xs.contains f = false) (hv : PinA O (frzD b f m) σ vs) (hO : FzL O (V.frzD b f m) b 0 O' O) (hOf : O'[f]? = some none) (k : PR P n s ops xs rest K (updL σ vs) O') : PR P n s ops xs rest K σ O := by
  refine ⟨fun M U σc w X S hσ hX a ha => ?_⟩
  obtain ⟨S', h1, h2⟩ := frzD_core S (b := b) (by rw [hm]; exact Nat.le_of_ble_eq_true hb) (by rw [hm]; exact Nat.le_of_ble_eq_true hf) hl hO hOf
  have hxs' : b ∉ xs := fun h => by simp at hxs; exact hxs h
  have hxf' : f ∉ xs := fun h => by simp at hxf; exact hxf h
  refine k.h _ _ σc w X S' (hσ.frz h1 h2 hv) ⟨fun c hc => by simpa using hX.1 c hc, fun B hB => ?_, fun c L B hc hM hB => ?_⟩ a ha
  · obtain ⟨c, L, g1, g2, g3⟩ := hX.2.1 B hB
    have hne : b ≠ c := fun e => hxs' (by rw [e]; exact g1)
    have hnf : f ≠ c := fun e => hxf' (by rw [e]; exact g1)
    exact ⟨c, L, g1, by rw [List.getElem?_set_ne hnf, List.getElem?_set_ne hne]; exact g2, g3⟩
  · have hne : b ≠ c := fun e => hxs' (by rw [e]; exact hc)
    have hnf : f ≠ c := fun e => hxf' (by rw [e]; exact hc)
    rw [List.getElem?_set_ne hnf, List.getElem?_set_ne hne] at hM
    exact hX.2.2 c L B hc hM hB
end
end V
end Go.Proofs.Ytmnjnkcooofgjaa
