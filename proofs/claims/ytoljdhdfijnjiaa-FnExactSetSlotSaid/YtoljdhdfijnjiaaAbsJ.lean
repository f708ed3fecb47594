/- Walks of regions that draw their order, over abstract values. No condition. -/
import Derived.Test.YtoljdhdfijnjiaaAbsI
namespace Go.Proofs.Ytoljdhdfijnjiaa
namespace V
set_option linter.unusedVariables false
set_option linter.unusedSimpArgs false
open Go.RowKit

def hide : List Nat → Obs → Obs
  | [], O => O
  | b :: xs, O => (hide xs O).set b none
theorem hide_len : ∀ (xs : List Nat) (O : Obs), (hide xs O).length = O.length
  | [], _ => rfl
  | b :: xs, O => by simp [hide, hide_len xs O]
theorem hide_get : ∀ {xs : List Nat} {O : Obs} {b : Nat} {ob : Ob}, (hide xs O)[b]? = some (some ob) → b ∉ xs ∧ O[b]? = some (some ob)
  | [], _, _, _, h => ⟨by simp, h⟩
  | c :: xs, O, b, ob, h => by
    by_cases e : b = c
    · subst e
      have hlt : b < (hide xs O).length := by have := (List.getElem?_eq_some_iff.1 h).1; simpa [hide] using this
      simp only [hide] at h
      rw [List.getElem?_set_self hlt] at h; cases h
    · simp only [hide] at h
      rw [List.getElem?_set_ne (Ne.symm e)] at h
      obtain ⟨h1, h2⟩ := hide_get h
      exact ⟨by simp [e, h1], h2⟩
def XOK (xs : List Nat) (M : Mp) (X : List Nat) : Prop := (∀ b, b ∈ xs → b < M.length) ∧ (∀ B, B ∈ X → ∃ (b : Nat) (L : Loc), b ∈ xs ∧ M[b]? = some (.ad L) ∧ L.blk = B) ∧ ∀ (b : Nat) (L : Loc), b ∈ xs → M[b]? = some (.ad L) → L.blk ∈ X
def xOf (xs : List Nat) (M : Mp) : List Nat := xs.filterMap fun b => match (M[b]? : Option Pl) with | some (.ad L) => some L.blk | _ => none
theorem xOf_ok (xs : List Nat) (M : Mp) (h : ∀ b, b ∈ xs → b < M.length) : XOK xs M (xOf xs M) := by
  refine ⟨h, fun B hB => ?_, fun b L hb hM => List.mem_filterMap.2 ⟨b, hb, by rw [hM]⟩⟩
  obtain ⟨b, hb, h⟩ := List.mem_filterMap.1 hB
  cases hm : M[b]? with
  | none => rw [hm] at h; cases h
  | some x =>
    rw [hm] at h
    cases x with
    | ad L => simp at h; exact ⟨b, L, hb, hm, h⟩
    | nl => cases h
    | dead => cases h
/-- Where the heads end. -/
def PQ (n : Nat) (s : Bs) (K : Fr → Obs → List Nat → Prop) : List Nat → Act → World → Prop := fun X a w => ∃ M U σ O σc xs, Mem s M O U w ∧ Rels w U M σ σc ∧ Rp n a σc ∧ XOK xs M X ∧ K σ O xs
structure PR (P : Program) (n : Nat) (s : Bs) (ops : Array Oper) (xs : List Nat) (l : List Oper) (K : Fr → Obs → List Nat → Prop) (σ : Fr) (O : Obs) : Prop where
  h : ∀ M U σc w X, Mem s M O U w → Rels w U M σ σc → XOK xs M X → ∀ a, Rp n a σc → gList P ops (PQ n s K) l X a w
/-- The same for a tree of orders. -/
structure PT (P : Program) (n : Nat) (s : Bs) (l : List Oper) (xs : List Nat) (t : Ot) (K : Fr → Obs → List Nat → Prop) (σ : Fr) (O : Obs) : Prop where
  h : ∀ M U σc w X, Mem s M O U w → Rels w U M σ σc → XOK xs M X → ∀ a, Rp n a σc → gT P l (PQ n s K) t X a w
section
variable {P : Program} {n : Nat} {s : Bs} {Q : APost} {σ : Fr} {O : Obs} {ops : Array Oper} {rest : List Oper} {d : Nat} {ty : TypeId} {pos : String} {after : Array Edge} {xs : List Nat} {K : Fr → Obs → List Nat → Prop}
theorem gList_mono {Q Q' : List Nat → Act → World → Prop} (h : ∀ X a w, Q X a w → Q' X a w) : ∀ (l : List Oper) (X : List Nat) (a : Act) (w : World), gList P ops Q l X a w → gList P ops Q' l X a w
  | [], _, _, _, hq => h _ _ _ hq
  | o :: r, X, a, w, hq => by
    rcases hq with ⟨v, h1, h2⟩ | ⟨h1, h2⟩
    · exact .inl ⟨v, h1, gList_mono h r _ _ _ h2⟩
    · exact .inr ⟨h1, h2.same rfl rfl (fun v w' X' _ _ hk => gList_mono h r _ _ _ hk)⟩
theorem gT_mono {l : List Oper} {Q Q' : List Nat → Act → World → Prop} (h : ∀ X a w, Q X a w → Q' X a w) : ∀ (t : Ot) (X : List Nat) (a : Act) (w : World), gT P l Q t X a w → gT P l Q' t X a w
  | .done, _, _, _, hq => h _ _ _ hq
  | .seg ord t, X, a, w, hq => gList_mono (fun X a w => gT_mono h t X a w) _ _ _ _ hq
  | .fork s t, X, a, w, hq => ⟨gT_mono h s _ _ _ hq.1, gT_mono h t _ _ _ hq.2⟩
theorem Mem.drawn {M : Mp} {U : Nat → Prop} {w : World} (S : Mem s M O U w) : Mem s M O U { w with drawn := w.drawn + 1 } := S.below ⟨rfl, rfl, rfl, Nat.le_refl _, fun _ _ => rfl⟩
theorem Rels.drawn {M : Mp} {U : Nat → Prop} {w : World} {σc : Nat → Value} (S : Mem s M O U w) (h : Rels w U M σ σc) : Rels { w with drawn := w.drawn + 1 } U M σ σc := fun t => (h t).keepB (w' := { w with drawn := w.drawn + 1 }) S ⟨rfl, rfl, rfl, Nat.le_refl _, fun _ _ => rfl⟩
/-- A region that draws: its first q operations in the orders told, the rest behind. -/
theorem PC.any (q : Nat) (t : Ot) (xs : List Nat) {id : Nat} {l : List Oper} (hm : P.follows .mixedOrders = true) (hB : anyB l.toArray q t = true) (hx : xs.all (fun b => Nat.blt b O.length) = true)
    (h : PT P n s l xs t (fun σ' O' _ => PL P n s l.toArray (l.drop q) Q σ' O') σ O) : PC P n s (.region id l.toArray true) Q σ O := by
  refine ⟨fun M U σc w S hσ => ⟨fun a ha => region_ord (X := xOf xs M) q t hm hB ?_⟩⟩
  refine gT_mono (fun X a w h => ?_) _ _ _ _ (h.h M U σc _ _ S.drawn (hσ.drawn S) (xOf_ok xs M (fun b hb => by rw [S.len]; exact Nat.le_of_ble_eq_true (List.all_eq_true.1 hx b hb))) a ha)
  obtain ⟨M', U', σ', O', σc', _, S', hσ', ha', _, hk⟩ := h
  exact (hk.h M' U' σc' w S' hσ').h a ha'
theorem PT.done {l : List Oper} (h : K σ O xs) : PT P n s l xs .done K σ O := ⟨fun M U σc w X S hσ hX a ha => ⟨M, U, σ, O, σc, xs, S, hσ, ha, hX, h⟩⟩
theorem PT.seg {l : List Oper} {ord : List Nat} {t : Ot} (h : PR P n s l.toArray xs (sel l ord) (fun σ' O' xs' => PT P n s l xs' t K σ' O') σ O) : PT P n s l xs (.seg ord t) K σ O :=
  ⟨fun M U σc w X S hσ hX a ha => gList_mono (fun X a w ⟨M, U, σ, O, σc, xs, S, hσ, ha, hX, hk⟩ => hk.h M U σc w X S hσ hX a ha) _ _ _ _ (h.h M U σc w X S hσ hX a ha)⟩
theorem PT.fork {l : List Oper} {a b : Ot} (h1 : PT P n s l xs a K σ O) (h2 : PT P n s l xs b K σ O) : PT P n s l xs (.fork a b) K σ O :=
  ⟨fun M U σc w X S hσ hX A ha => ⟨h1.h M U σc w X S hσ hX A ha, h2.h M U σc w X S hσ hX A ha⟩⟩
theorem PR.nil (h : K σ O xs) : PR P n s ops xs [] K σ O := ⟨fun M U σc w X S hσ hX a ha => ⟨M, U, σ, O, σc, xs, S, hσ, ha, hX, h⟩⟩
theorem Mem.hide {M : Mp} {U : Nat → Prop} {w : World} (S : Mem s M O U w) : Mem s M (V.hide xs O) U w :=
  ⟨S.base, S.lent, by rw [S.len, hide_len], S.lt, S.fresh, S.one, fun b ob x h1 h2 => S.own b ob x (hide_get h1).2 h2, S.u⟩
theorem agr_of {M : Mp} {w w' : World} {X : List Nat} (hX : XOK xs M X) (hb : BelowX X w w') : Agr' M (V.hide xs O) w w' := by
  refine ⟨hb.size, fun B hB h => hb.block B hB fun hx => ?_⟩
  obtain ⟨b, L, h1, h2, h3⟩ := hX.2.1 B hx
  obtain ⟨ob, ho⟩ := h b L h2 h3
  exact (hide_get ho).1 h1
theorem PR.op {op : Op} {x : AV} (hd : Nat.blt d n = true) (hr : Rd P s (V.hide xs O) σ op ty x) (k : PR P n s ops xs rest K (updA σ d x) O) : PR P n s ops xs (⟨some d, op, ty, pos, after, none⟩ :: rest) K σ O := by
  refine ⟨fun M U σc w X S hσ hX a ha => ?_⟩
  obtain ⟨y, hy, hrun⟩ := hr M U w σc S.hide hσ
  refine .inl ⟨y, .inl ⟨rfl, fun w' hw => ?_⟩, k.h M U _ w X S (hσ.upd d hy) hX _ (ha.put d y hd)⟩
  rw [ha.eval, (hrun w' (agr_of hX hw)).run]
  exact ⟨rfl, rfl⟩
theorem PR.ef {op : Op} {x : AV} {O' : Obs} (hd : Nat.blt d n = true) (he : isEff ⟨some d, op, ty, pos, after, none⟩ = true) (h : Ef P s O σ op ty x O') (k : PR P n s ops xs rest K (updA σ d x) O') : PR P n s ops xs (⟨some d, op, ty, pos, after, none⟩ :: rest) K σ O := by
  refine ⟨fun M U σc w X S hσ hX a ha => ?_⟩
  obtain ⟨y, w', p, hrun, S', hx, hall, hb, _⟩ := h M U w σc S hσ
  refine .inr ⟨he, rfl, .inr ⟨y, w', X, .inl (by rw [ha.eval]; exact hrun.run _ _ _ _), ⟨hb.os, hb.tape, hb.output, hb.size, fun k hk _ => hb.block k hk (by simp)⟩, XX.refl, ?_⟩⟩
  refine k.h (M ++ [p]) U _ w' X S' (Rels.upd (fun t => hall _ _ (hσ t)) d hx) ?_ _ (ha.put d y hd)
  refine ⟨fun b hb => by have := hX.1 b hb; simp; omega, fun B hB => ?_, fun b L hb' hM => ?_⟩
  · obtain ⟨b, L, h1, h2, h3⟩ := hX.2.1 B hB
    exact ⟨b, L, h1, snoc_old h2, h3⟩
  · rcases snoc_get hM with h3 | ⟨h3, h4⟩
    · exact hX.2.2 b L hb' h3
    · have := hX.1 b hb'; omega
/-- What is made here may be written here: nothing that comes behind reads it out of its turn. -/
theorem PR.efX {op : Op} {x : AV} {O' : Obs} (hd : Nat.blt d n = true) (he : isEff ⟨some d, op, ty, pos, after, none⟩ = true) (h : Ef P s O σ op ty x O') (k : PR P n s ops (O.length :: xs) rest K (updA σ d x) O') : PR P n s ops xs (⟨some d, op, ty, pos, after, none⟩ :: rest) K σ O := by
  refine ⟨fun M U σc w X S hσ hX a ha => ?_⟩
  obtain ⟨y, w', p, hrun, S', hx, hall, hb, hnew⟩ := h M U w σc S hσ
  let X' := X ++ (match p with | .ad L => [L.blk] | _ => [])
  have hmem : ∀ B, B ∈ X' ↔ B ∈ X ∨ ∃ L, p = .ad L ∧ L.blk = B := by
    intro B
    cases p with
    | ad L => simp [X', eq_comm]
    | nl => simp [X']
    | dead => simp [X']
  refine .inr ⟨he, rfl, .inr ⟨y, w', X', .inl (by rw [ha.eval]; exact hrun.run _ _ _ _), ⟨hb.os, hb.tape, hb.output, hb.size, fun k hk _ => hb.block k hk (by simp)⟩, fun B hB => ?_, ?_⟩⟩
  · rcases (hmem B).1 hB with h | ⟨L, h1, rfl⟩
    · exact .inl h
    · exact .inr (hnew L h1)
  refine k.h (M ++ [p]) U _ w' X' S' (Rels.upd (fun t => hall _ _ (hσ t)) d hx) ?_ _ (ha.put d y hd)
  have hl : M.length = O.length := S.len
  refine ⟨fun b hb => ?_, fun B hB => ?_, fun b L hb' hM => ?_⟩
  · rcases List.mem_cons.1 hb with rfl | hb
    · simp [hl]
    · have := hX.1 b hb; simp; omega
  · rcases (hmem B).1 hB with h | ⟨L, h1, rfl⟩
    · obtain ⟨b, L, h1, h2, h3⟩ := hX.2.1 B h
      exact ⟨b, L, .tail _ h1, snoc_old h2, h3⟩
    · exact ⟨O.length, L, .head _, by rw [← hl, h1]; simp, rfl⟩
  · refine (hmem _).2 ?_
    rcases snoc_get hM with h3 | ⟨h3, h4⟩
    · rcases List.mem_cons.1 hb' with rfl | hb'
      · have := (List.getElem?_eq_some_iff.1 h3).1; omega
      · exact .inl (hX.2.2 b L hb' h3)
    · exact .inr ⟨L, h4.symm, rfl⟩
/-- append to a slice that was made here. -/
theorem PR.app {m0 : Nat} (hm : s.L.length = m0) {t e : TypeId} {x y : Operand} {b n0 m k bytes : Nat} {ya : AV} {cs cs0 ds cs' : List Tr} [T : CSl P t e] [Z : CE P e k bytes] (hd : Nat.blt d n = true) (hx : evA σ x = .os b 0 n0) (hO : O[b]? = some (some ⟨.tr cs, e, k⟩)) (hy : evA σ y = ya)
    (hsrc : SrcA s (O.set b none) ya k m ds) (hb : Nat.ble m0 b = true) (hxs : xs.contains b = true) (hcs : cs.take (n0 * k) = cs0) (hl : cs0.length = n0 * k) (hbytes : (n0 + m) * bytes ≤ 140737488355328) (h63 : n0 + m ≤ 4611686018427387904) (hr : cs0 ++ ds = cs')
    (kk : PR P n s ops xs rest K (updA σ d (.os O.length 0 (n0 + m))) (O.set b none ++ [some ⟨.tr cs', e, k⟩])) :
    PR P n s ops xs (⟨some d, .call { callee := .builtin .append, args := #[x, y], argTypes := #[t, t] }, ty, pos, after, none⟩ :: rest) K σ O := by
  subst hr
  refine ⟨fun M U σc w X S hσ hX a ha => ?_⟩
  have hb' : s.L.length ≤ b := by rw [hm]; exact Nat.le_of_ble_eq_true hb
  have hxs' : b ∈ xs := by simpa using hxs
  have ex := evA_rel hσ x; rw [hx] at ex
  have ey := evA_rel hσ y; rw [hy] at ey
  obtain ⟨S1, hk⟩ := S.kill hb'
  obtain ⟨olds, hg, ho1, ho2, ho3⟩ := S.grw hb' hO hcs hl ex
  obtain ⟨ad, c, news, hyv, hnl, hnc, hn1, hn2⟩ := hsrc.2 _ _ _ _ S1 (hk _ _ ey)
  obtain ⟨v', w', p, hrun, S', hrel, hres, hbx⟩ := append_core (P := P) (t := t) (ty := ty) S1 hg hnl hnc hn1 ho2 ho1.symm (by rw [hsrc.1, hnl]) ho3 hn2 hbytes h63 (c := c)
  have hblk : ∀ B, B ∈ vBlk (ev σc x) → ∃ L, M[b]? = some (.ad L) ∧ L.blk = B := by
    intro B hB
    generalize ev σc x = v at ex hB
    cases ex with
    | os _ _ _ _ L hM => exact ⟨L, hM, by simpa [vBlk, eq_comm] using hB⟩
    | osn _ _ => simp [vBlk] at hB
    | osz _ _ _ L hM => exact ⟨L, hM, by simpa [vBlk, eq_comm] using hB⟩
    | osd _ _ _ _ _ hM => exact (S.own _ _ _ hO hM).elim
  have hbl : b < M.length := hX.1 b hxs'
  have hX2 : ∀ B, B ∈ (X.filter fun B => match (M[b]? : Option Pl) with | some (.ad L) => L.blk != B | _ => true) ↔ B ∈ X ∧ ∀ L : Loc, M[b]? = some (.ad L) → L.blk ≠ B := by
    intro B
    rw [List.mem_filter]
    refine and_congr_right fun _ => ?_
    cases hq : M[b]? with
    | none => simp
    | some p => cases p <;> simp
  refine .inr ⟨rfl, rfl, .inr ⟨v', w', _, .inl ?_, ⟨hbx.os, hbx.tape, hbx.output, hbx.size, fun k hk hx => hbx.block k hk fun hB => ?_⟩, fun B hB => .inl ((hX2 B).1 hB).1, kk.h _ U _ w' _ S' (Rels.upd (fun t => hrel _ _ (hk _ _ (hσ t))) d (by simpa using hres)) ⟨fun c hc => ?_, fun B hB => ?_, fun c L hc hM => ?_⟩ _ (ha.put d v' hd)⟩⟩
  · rw [ha.eval]
    simp [execOp, resolve, invoke, builtin, hyv, hrun]
  · obtain ⟨L, h1, h2⟩ := hblk _ hB
    exact hx (h2 ▸ hX.2.2 b L hxs' h1)
  · have := hX.1 c hc; simp; omega
  · obtain ⟨h1, h2⟩ := (hX2 B).1 hB
    obtain ⟨c, L, g1, g2, g3⟩ := hX.2.1 B h1
    have hne : b ≠ c := fun e => by subst e; exact h2 L g2 g3
    exact ⟨c, L, g1, snoc_old (by rw [List.getElem?_set_ne hne]; exact g2), g3⟩
  · have hcl := hX.1 c hc
    have hne : b ≠ c := fun e => by
      subst e
      rw [List.getElem?_append_left (by simpa using hcl), List.getElem?_set_self hbl] at hM; cases hM
    rw [List.getElem?_append_left (by simpa using hcl), List.getElem?_set_ne hne] at hM
    exact (hX2 _).2 ⟨hX.2.2 c L hc hM, fun L' h' e => hne (S.one b c L' L h' hM e)⟩
/-- A store into a block that was made or lent here. -/
theorem PR.storeG {t : TypeId} {x y : Operand} {b j m : Nat} {ob ob' : Ob} {v : AV} {cs : List AV} [Z : CS P t m] (hx : evA σ x = .op b j) (hy : evA σ y = v) (hw : wholeA v = true) (hc : cellsA v = cs) (hm : cs.length = m) (hO : O[b]? = some (some ob)) (hj : j + m ≤ ob.cells.length)
    (hc' : ob'.cells = ob.cells.take j ++ cs ++ ob.cells.drop (j + m)) (ht' : ob'.ty = ob.ty) (hk' : ob'.k = ob.k) (hxs : xs.contains b = true)
    (k : PR P n s ops xs rest K σ (O.set b (some ob'))) : PR P n s ops xs (⟨none, .store t x y, ty, pos, after, none⟩ :: rest) K σ O := by
  refine ⟨fun M U σc w X S hσ hX a ha => ?_⟩
  obtain ⟨w', L, hrun, S', hall, hM, hb⟩ := store_core (P := P) (t := t) (ty := ty) (pos := pos) (after := after) hx hy hw hc hm hO hj hc' ht' hk' S hσ
  have hL : L.blk ∈ X := hX.2.2 b L (by simpa using hxs) hM
  refine .inr ⟨rfl, rfl, .inr ⟨undef, w', X, .inr ⟨by rw [ha.eval]; exact hrun, rfl⟩, ⟨hb.os, hb.tape, hb.output, hb.size, fun k hk hx => hb.block k hk (fun h => hx (by simp at h; rw [h]; exact hL))⟩, XX.refl, ?_⟩⟩
  exact k.h M U σc w' X S' (fun t => hall _ _ (hσ t)) hX a ha
theorem PR.store {t : TypeId} {x y : Operand} {b j m k0 : Nat} {T' : TypeId} {v : AV} {cs ds : List AV} [Z : CS P t m] (hx : evA σ x = .op b j) (hy : evA σ y = v) (hw : wholeA v = true) (hc : cellsA v = cs) (hm : cs.length = m) (hO : O[b]? = some (some ⟨.mx ds, T', k0⟩)) (hj : Nat.ble (j + m) ds.length = true) (hxs : xs.contains b = true)
    (k : PR P n s ops xs rest K σ (O.set b (some ⟨.mx (ds.take j ++ cs ++ ds.drop (j + m)), T', k0⟩))) : PR P n s ops xs (⟨none, .store t x y, ty, pos, after, none⟩ :: rest) K σ O :=
  PR.storeG hx hy hw hc hm hO (Nat.le_of_ble_eq_true hj) (ob' := ⟨.mx (ds.take j ++ cs ++ ds.drop (j + m)), T', k0⟩) rfl rfl rfl hxs k
theorem PR.call (z : Bool) (κ : List Nat) {f : FuncId} {O0 : List Ob} {args ds : List AV} {R : AV → List Ob → Prop} {as' : List Operand} {ats : Array TypeId} (hc : FnX P f O0 args R) (hd : Nat.blt d n = true)
    (hr : ∀ args w, (callFunc f args).run P w = .ok (.enter f args) w) (ha : as'.map (evA σ) = ds) (hs : SbL z O (κ.map some) args ds) (hnd : nodupB (κ.map some) = true) (hb : BlkL z O (κ.map some) (κ.map some) O0)
    (hfl : z = true → ∀ r bl, R r bl → r.flat ∧ ∀ ob, ob ∈ bl → ob.flat) (hκ : κ.all (fun b => xs.contains b) = true)
    (k : ∀ r bl, R r bl → PR P n s ops xs rest K (updA σ d (r.ren (thet κ O.length))) (setK (O ++ (bl.drop κ.length).map (fun o => some (o.ren (thet κ O.length)))) κ (bl.map (·.ren (thet κ O.length))))) :
    PR P n s ops xs (⟨some d, .call { callee := .value (.func f), args := as'.toArray, argTypes := ats }, ty, pos, after, none⟩ :: rest) K σ O := by
  refine ⟨fun M U σc w X S hσ hX a ha' => .inr ⟨rfl, rfl, .inl ⟨f, (as'.map (ev σc)).toArray, by rw [ha'.eval]; exact run_fcall hr rfl, (call_core z κ hc ha hs hnd hb hfl S hσ).mono ?_⟩⟩⟩
  rintro e w' ⟨v, r, bl, M2, U2, X', rfl, hR, S2, h1, h2, h3, h4, h5⟩
  have hsub : ∀ B, B ∈ X' → B ∈ X := by
    intro B hB
    obtain ⟨i, b, L, g1, g2, g3⟩ := h5 B hB
    have := List.all_eq_true.1 hκ b (get_mem g1)
    rw [← g3]; exact hX.2.2 b L (by simpa using this) g2
  refine ⟨v, X, rfl, ⟨h4.os, h4.tape, h4.output, h4.size, fun k hk hx => h4.block k hk (fun h => hx (hsub _ h))⟩, XX.refl, (k r bl hR).h M2 U2 _ w' X S2 (Rels.upd (fun t => h1 _ _ (hσ t)) d h2) ?_ _ (ha'.put d v hd)⟩
  refine ⟨fun b hb => ?_, fun B hB => ?_, fun b L hb' hM => ?_⟩
  · have hlt := hX.1 b hb
    exact (List.getElem?_eq_some_iff.1 (h3 b _ (List.getElem?_eq_getElem hlt))).1
  · obtain ⟨b, L, g1, g2, g3⟩ := hX.2.1 B hB
    exact ⟨b, L, g1, h3 b _ g2, g3⟩
  · have hlt := hX.1 b hb'
    have e1 := h3 b _ (List.getElem?_eq_getElem hlt)
    rw [hM] at e1
    exact hX.2.2 b L hb' (by rw [List.getElem?_eq_getElem hlt, ← e1])
theorem PR.guard {d : Option Nat} {op : Op} {j : Nat} {want b : Bool} (hg : gdA ops σ j = some (bA b)) (hd : (match d with | some d => Nat.blt d n | none => true) = true)
    (h1 : b = want → PR P n s ops xs (⟨d, op, ty, pos, after, none⟩ :: rest) K σ O) (h2 : b = (!want) → PR P n s ops xs rest K (putA σ d (.tup [])) O) : PR P n s ops xs (⟨d, op, ty, pos, after, some (j, want)⟩ :: rest) K σ O := by
  refine ⟨fun M U σc w X S hσ hX a ha => ?_⟩
  have hy := gd_yield ha (gdA_gd hσ hg)
  have hw : Region.wanted ⟨d, op, ty, pos, after, some (j, want)⟩ (yielded ops a.tmps) = (b == want) := by
    simp [Region.wanted, hy]
  by_cases e : b = want
  · rcases (h1 e).h M U σc w X S hσ hX a ha with ⟨v, hs, hk⟩ | ⟨he, ht⟩
    · refine .inl ⟨v, ?_, hk⟩
      rcases hs with ⟨_, h3⟩ | ⟨h3, _⟩
      · exact .inl ⟨by rw [hw]; simp [e], h3⟩
      · simp [Region.wanted] at h3
    · exact .inr ⟨he, by rw [hw]; simp [e], ht.2⟩
  · have e2 : b = !want := by cases b <;> cases want <;> simp_all
    refine .inl ⟨undef, .inr ⟨by rw [hw]; simp [e], rfl⟩, ?_⟩
    cases d with
    | none => exact (h2 e2).h M U σc w X S hσ hX a ha
    | some d => exact (h2 e2).h M U _ w X S (hσ.upd d (.tup [] [] rfl (fun j c y h => by simp at h))) hX _ (ha.put d undef hd)
theorem PR.guard_un {d : Option Nat} {op : Op} {j : Nat} {want : Bool} (hg : gdA ops σ j = some (.tup [])) (hd : (match d with | some d => Nat.blt d n | none => true) = true)
    (h2 : PR P n s ops xs rest K (putA σ d (.tup [])) O) : PR P n s ops xs (⟨d, op, ty, pos, after, some (j, want)⟩ :: rest) K σ O := by
  refine ⟨fun M U σc w X S hσ hX a ha => ?_⟩
  have hy := gd_none ha (gdA_un hσ hg)
  have hw : Region.wanted ⟨d, op, ty, pos, after, some (j, want)⟩ (yielded ops a.tmps) = false := by
    simp [Region.wanted, hy]
  refine .inl ⟨undef, .inr ⟨hw, rfl⟩, ?_⟩
  cases d with
  | none => exact h2.h M U σc w X S hσ hX a ha
  | some d => exact h2.h M U _ w X S (hσ.upd d (.tup [] [] rfl (fun j c y h => by simp at h))) hX _ (ha.put d undef hd)
theorem PR.guard_on {d : Option Nat} {op : Op} {j : Nat} {want b : Bool} (hg : gdA ops σ j = some (bA b)) (hd : (match d with | some d => Nat.blt d n | none => true) = true) (hb : b = want)
    (h1 : PR P n s ops xs (⟨d, op, ty, pos, after, none⟩ :: rest) K σ O) : PR P n s ops xs (⟨d, op, ty, pos, after, some (j, want)⟩ :: rest) K σ O :=
  PR.guard hg hd (fun _ => h1) (fun e => by rw [e] at hb; cases want <;> simp at hb)
theorem PR.guard_off {d : Option Nat} {op : Op} {j : Nat} {want b : Bool} (hg : gdA ops σ j = some (bA b)) (hd : (match d with | some d => Nat.blt d n | none => true) = true) (hb : b = !want)
    (h2 : PR P n s ops xs rest K (putA σ d (.tup [])) O) : PR P n s ops xs (⟨d, op, ty, pos, after, some (j, want)⟩ :: rest) K σ O :=
  PR.guard hg hd (fun e => by rw [e] at hb; cases want <;> simp at hb) (fun _ => h2)
end
end V
end Go.Proofs.Ytoljdhdfijnjiaa
