/- Drawn heaps; what inserting, deleting and updating records do. No condition. -/
import Derived.Test.YtoljdhdfijnjiaaPlHp
import Derived.Test.YtoljdhdfijnjiaaPlPgF
import Derived.Test.YtoljdhdfijnjiaaHpEa
namespace Go.Proofs.Ytoljdhdfijnjiaa
namespace V
set_option linter.unusedVariables false
set_option linter.unusedSimpArgs false
set_option maxHeartbeats 1000000
theorem vH.hb {h : I_Heap} (hv : vH h) : HB h.pages := ⟨by have := hv.1; omega, fun p hp => (hv.2 p hp).sm.pb (by omega)⟩
/-- Few small pages. -/
structure HS (l : List I_Page) : Prop where
  len : l.length ≤ 10
  pg : ∀ p ∈ l, Sm 20 p.slots
theorem HS.hb {l : List I_Page} (h : HS l) : HB l := ⟨by have := h.len; omega, fun p hp => (h.pg p hp).pb (by omega)⟩
theorem Sm.up {n m : Nat} {l : List I_Slot} (h : Sm n l) (hm : n ≤ m) : Sm m l := ⟨by have := h.len; omega, h.dat⟩
/-! counting and finding records -/
def cntS (l : List I_Slot) : Nat := l.countP (fun s => s.live)
def cntH : List I_Page → Nat
  | [] => 0
  | p :: l => cntS p.slots + cntH l
theorem scanS_len (i : Int) : ∀ (l : List I_Slot) (j : Nat), (scanS i l j).length = cntS l
  | [], _ => rfl
  | s :: l, j => by
    rw [scanS_cons, List.length_append, scanS_len i l (j + 1)]
    unfold cntS
    rw [List.countP_cons]
    cases s.live <;> simp <;> omega
theorem scanL_len : ∀ (l : List I_Page) (i : Nat), (scanL l i).length = cntH l
  | [], _ => rfl
  | p :: l, i => by
    show (scanS (i : Nat) p.slots 0 ++ scanL l (i + 1)).length = _
    rw [List.length_append, scanS_len, scanL_len l (i + 1)]; rfl
theorem cntH_set : ∀ {l : List I_Page} {k : Nat} {p : I_Page} (x : I_Page), l[k]? = some p → cntH (l.set k x) + cntS p.slots = cntH l + cntS x.slots
  | [], _, _, _, h => by simp at h
  | q :: l, 0, p, x, h => by simp at h; subst h; simp [cntH]; omega
  | q :: l, k + 1, p, x, h => by
    have := cntH_set (l := l) (k := k) (p := p) x (by simpa using h)
    simp [cntH]; omega
theorem cntH_app : ∀ (l : List I_Page) (p : I_Page), cntH (l ++ [p]) = cntH l + cntS p.slots
  | [], p => by simp [cntH]
  | q :: l, p => by simp [cntH, cntH_app l p]; omega
theorem cntS_app (a b : List I_Slot) : cntS (a ++ b) = cntS a + cntS b := by simp [cntS]
theorem cntS_set {l : List I_Slot} {k : Nat} {s : I_Slot} (h : l[k]? = some s) (x : I_Slot) : cntS (l.set k x) + (if s.live then 1 else 0) = cntS l + (if x.live then 1 else 0) := by
  induction l generalizing k with
  | nil => simp at h
  | cons q l ih =>
    cases k with
    | zero =>
      simp at h; subst h
      simp only [List.set_cons_zero, cntS, List.countP_cons]; omega
    | succ k =>
      have := ih (k := k) (by simpa using h)
      simp only [List.set_cons_succ, cntS, List.countP_cons] at this ⊢; omega
theorem trimN_dead {l : List I_Slot} : ∀ {n j : Nat} {s : I_Slot}, trimN l n ≤ j → j < n → l[j]? = some s → s.live = false
  | 0, j, s, _, h, _ => by omega
  | n + 1, j, s, h1, h2, h3 => by
    by_cases hn : n < l.length
    · rw [trimN_succ l hn] at h1
      split at h1
      · omega
      · rename_i hc
        by_cases hj : j = n
        · subst hj
          rw [List.getElem?_eq_getElem hn] at h3; cases h3
          cases hq : l[j].live with
          | false => rfl
          | true => exact (hc hq).elim
        · exact trimN_dead h1 (by omega) h3
    · have := (List.getElem?_eq_some_iff.1 h3).1
      have e : trimN l (n + 1) = trimN l n := by simp [trimN, List.getElem?_eq_none (show l.length ≤ n by omega)]
      rw [e] at h1
      exact trimN_dead h1 (by omega) h3
theorem getO_dead {s : I_Slot} (h : s.live = false) : getO (some s) = (ByteArray.empty, false) := by simp [getO, h]
theorem getO_trim (l : List I_Slot) (j : Nat) : getO (trimP l)[j]? = getO l[j]? := by
  unfold trimP
  rw [List.getElem?_take]
  split
  · rfl
  · rename_i h
    cases hs : l[j]? with
    | none => rfl
    | some s =>
      rw [getO_dead (trimN_dead (n := l.length) (by omega) (List.getElem?_eq_some_iff.1 hs).1 hs)]; rfl
theorem cntS_trim (l : List I_Slot) : cntS (trimP l) = cntS l := by
  have h : cntS l = cntS (l.take (trimN l l.length)) + cntS (l.drop (trimN l l.length)) := by rw [← cntS_app, List.take_append_drop]
  have h0 : cntS (l.drop (trimN l l.length)) = 0 := by
    unfold cntS
    rw [List.countP_eq_zero]
    intro s hs
    obtain ⟨j, hj, rfl⟩ := List.getElem_of_mem hs
    rw [List.getElem_drop]
    have hlt : trimN l l.length + j < l.length := by simp at hj; omega
    rw [trimN_dead (n := l.length) (Nat.le_add_right _ _) hlt (List.getElem?_eq_getElem hlt)]
    simp
  unfold trimP; omega
theorem mem_scanS {i : Int} {r : I_Rid} : ∀ {l : List I_Slot} {j : Nat}, r ∈ scanS i l j ↔ ∃ b s, l[b]? = some s ∧ s.live = true ∧ r = ⟨i, ((j + b : Nat) : Int)⟩
  | [], j => by simp [scanS]
  | q :: l, j => by
    rw [scanS_cons, List.mem_append, mem_scanS (l := l) (j := j + 1)]
    constructor
    · rintro (h | ⟨b, s, h1, h2, rfl⟩)
      · split at h
        · simp at h; subst h; exact ⟨0, q, rfl, ‹_›, by simp⟩
        · cases h
      · exact ⟨b + 1, s, by simpa using h1, h2, by rw [show j + (b + 1) = j + 1 + b by omega]⟩
    · rintro ⟨b, s, h1, h2, rfl⟩
      cases b with
      | zero => simp at h1; subst h1; left; rw [if_pos h2]; simp
      | succ b => right; exact ⟨b, s, by simpa using h1, h2, by rw [show j + 1 + b = j + (b + 1) by omega]⟩
theorem mem_scanL {r : I_Rid} : ∀ {l : List I_Page} {i : Nat}, r ∈ scanL l i ↔ ∃ a b p s, l[a]? = some p ∧ p.slots[b]? = some s ∧ s.live = true ∧ r = ⟨((i + a : Nat) : Int), ((b : Nat) : Int)⟩
  | [], i => by simp [scanL]
  | q :: l, i => by
    show r ∈ scanS (i : Nat) q.slots 0 ++ scanL l (i + 1) ↔ _
    rw [List.mem_append, mem_scanS, mem_scanL (l := l) (i := i + 1)]
    constructor
    · rintro (⟨b, s, h1, h2, rfl⟩ | ⟨a, b, p, s, h1, h2, h3, rfl⟩)
      · exact ⟨0, b, q, s, rfl, h1, h2, by simp⟩
      · exact ⟨a + 1, b, p, s, by simpa using h1, h2, h3, by rw [show i + (a + 1) = i + 1 + a by omega]⟩
    · rintro ⟨a, b, p, s, h1, h2, h3, rfl⟩
      cases a with
      | zero => simp at h1; subst h1; left; exact ⟨b, s, h2, h3, by simp⟩
      | succ a => right; exact ⟨a, b, p, s, by simpa using h1, h2, h3, by rw [show i + 1 + a = i + (a + 1) by omega]⟩
theorem mem_scan {h : I_Heap} {r : I_Rid} : r ∈ scanL h.pages 0 ↔ ∃ a b p s, h.pages[a]? = some p ∧ p.slots[b]? = some s ∧ s.live = true ∧ r = ⟨((a : Nat) : Int), ((b : Nat) : Int)⟩ := by
  rw [mem_scanL]; simp only [Nat.zero_add]
theorem hGet_nat {h : I_Heap} (hv : vH h) (a b : Nat) : hGet h ⟨(a : Int), (b : Int)⟩ = getO ((h.pages[a]?).bind fun p => p.slots[b]?) := by
  unfold hGet
  rw [if_pos ⟨hv, by dsimp only; omega⟩]
  simp only [Int.toNat_natCast]
  cases hp : h.pages[a]? with
  | none => rfl
  | some p => exact getP_nat (hv.2 p (List.mem_of_getElem? hp)) b
theorem withS_get {l : List I_Slot} {f : Nat} {s : I_Slot} (hf : f ≤ l.length) (b : Nat) : (withS l f s)[b]? = if b = f then some s else l[b]? := by
  split
  · rename_i e; subst e; exact withS_self hf
  · rename_i hne
    unfold withS; split
    · rw [List.getElem?_set_ne (Ne.symm hne)]
    · have : f = l.length := by omega
      subst this
      rcases Nat.lt_trichotomy b l.length with h | h | h
      · rw [List.getElem?_append_left h]
      · exact (hne h).elim
      · rw [List.getElem?_eq_none (by simp; omega), List.getElem?_eq_none (by omega)]
theorem put_true {p : I_Page} {d : ByteArray} (h : (putP p d).2.2 = true) : vP p ∧ vP ⟨withS p.slots (freeAt p.slots) ⟨true, d⟩⟩ ∧ putP p d = (⟨withS p.slots (freeAt p.slots) ⟨true, d⟩⟩, (freeAt p.slots : Int), true) := by
  rcases put_cases p d with h1 | h1
  · rw [h1] at h; cases h
  · exact h1
theorem cnt_put {p : I_Page} (s : I_Slot) (hs : s.live = true) : cntS (withS p.slots (freeAt p.slots) s) = cntS p.slots + 1 := by
  unfold withS; split
  · rename_i h
    have := cntS_set (List.getElem?_eq_getElem h) s
    rw [freeAt_free h, hs] at this
    simpa using this
  · rw [cntS_app]; simp [cntS, hs]
/-- What inserting does. -/
theorem ins_true {l : List I_Page} {d : ByteArray} (h : (insP l d).2.2 = true) : ∃ k p, k ≤ l.length ∧ p = (l[k]?).getD ⟨[]⟩ ∧ vP p ∧ vP ⟨withS p.slots (freeAt p.slots) ⟨true, d⟩⟩ ∧ (insP l d).2.1 = ⟨(k : Int), (freeAt p.slots : Int)⟩ ∧
    (∀ a, (insP l d).1.pages[a]? = if a = k then some ⟨withS p.slots (freeAt p.slots) ⟨true, d⟩⟩ else l[a]?) ∧ (insP l d).1.pages.length = max l.length (k + 1) ∧ (∀ a q, a < k → l[a]? = some q → (putP q d).2.2 = false) ∧ cntH (insP l d).1.pages = cntH l + 1 ∧ (k = l.length → l.length ≠ 6) := by
  unfold insP at h ⊢
  generalize hk : l.findIdx (fun p => (putP p d).2.2) = k at h ⊢
  have hkl : k ≤ l.length := by rw [← hk]; exact List.findIdx_le_length
  have hlt : ∀ a q, a < k → l[a]? = some q → (putP q d).2.2 = false := fun a q h1 h2 => by
    obtain ⟨hi, rfl⟩ := List.getElem?_eq_some_iff.1 h2
    have := List.not_of_lt_findIdx (p := fun p => (putP p d).2.2) (xs := l) (i := a) (by rw [hk]; exact h1)
    simpa using this
  cases hp : l[k]? with
  | some p =>
    rw [hp] at h
    obtain ⟨hi, hpe⟩ := List.getElem?_eq_some_iff.1 hp
    have hat : (putP p d).2.2 = true := by
      subst hk; subst hpe; exact List.findIdx_getElem (w := hi)
    obtain ⟨h1, h2, h3⟩ := put_true hat
    refine ⟨k, p, hkl, by simp [hp], h1, h2, ?_, fun a => ?_, ?_, hlt, ?_, fun e => by omega⟩
    · dsimp only; rw [h3]
    · dsimp only
      rw [h3]
      split
      · rename_i e; subst e; rw [List.getElem?_set_self hi]
      · rename_i e; rw [List.getElem?_set_ne (Ne.symm e)]
    · dsimp only; simp; omega
    · dsimp only
      rw [h3]
      have := cntH_set (⟨withS p.slots (freeAt p.slots) ⟨true, d⟩⟩ : I_Page) hp
      have h4 := cnt_put (p := p) ⟨true, d⟩ rfl
      dsimp only at this ⊢
      omega
  | none =>
    have hke : k = l.length := by have := List.getElem?_eq_none_iff.1 hp; omega
    rw [hp] at h
    dsimp only at h ⊢
    split at h
    case isFalse => cases h
    rename_i hc
    rw [if_pos hc]
    obtain ⟨h1, h2, h3⟩ := put_true hc.1
    refine ⟨k, ⟨[]⟩, hkl, by simp [hp], h1, h2, ?_, fun a => ?_, ?_, hlt, ?_, fun _ => hc.2⟩
    · dsimp only; rw [h3, hke]
    · dsimp only
      rw [h3]
      split
      · rename_i e; subst e; rw [hke]; simp
      · rename_i e
        rcases Nat.lt_trichotomy a l.length with h | h | h
        · rw [List.getElem?_append_left h]
        · omega
        · rw [List.getElem?_eq_none (by simp; omega), List.getElem?_eq_none (by omega)]
    · dsimp only; simp; omega
    · dsimp only
      rw [h3, cntH_app]
      have h4 := cnt_put (p := ⟨[]⟩) ⟨true, d⟩ rfl
      dsimp only at h4 ⊢
      have h5 : cntS ([] : List I_Slot) = 0 := rfl
      omega
theorem ins_ok {h : I_Heap} (hv : vH h) {d : ByteArray} (ht : (insP h.pages d).2.2 = true) : vH (insP h.pages d).1 ∧ (∀ r ∈ scanL h.pages 0, hGet (insP h.pages d).1 r = hGet h r ∧ r ≠ (insP h.pages d).2.1) ∧
    hGet (insP h.pages d).1 (insP h.pages d).2.1 = (d, true) ∧ cntH (insP h.pages d).1.pages = cntH h.pages + 1 := by
  obtain ⟨k, p, hkl, hp, h1, h2, h3, h4, h5, _, h6, h7⟩ := ins_true ht
  generalize insP h.pages d = g at *
  have hfa := freeAt_le p.slots
  have hvg : vH g.1 := by
    refine ⟨by have := hv.1; omega, fun q hq => ?_⟩
    obtain ⟨a, ha⟩ := List.mem_iff_getElem?.1 hq
    rw [h4] at ha
    split at ha
    · cases ha; exact h2
    · exact hv.2 q (List.mem_of_getElem? ha)
  refine ⟨hvg, fun r hr => ?_, ?_, h6⟩
  · obtain ⟨a, b, q, s, g1, g2, g3, rfl⟩ := mem_scan.1 hr
    rw [hGet_nat hv, hGet_nat hvg, h4]
    have hne : ¬ (a = k ∧ b = freeAt p.slots) := by
      rintro ⟨rfl, rfl⟩
      rw [g1] at hp; simp at hp; subst hp
      obtain ⟨hb, rfl⟩ := List.getElem?_eq_some_iff.1 g2
      rw [freeAt_free hb] at g3; cases g3
    refine ⟨?_, fun e => ?_⟩
    · split
      · rename_i e; subst e
        rw [g1] at hp; simp at hp; subst hp
        rw [g1]
        simp only [Option.bind_some]
        rw [withS_get hfa, if_neg (fun e => hne ⟨rfl, e⟩)]
      · rfl
    · rw [h3] at e
      simp only [I_Rid.mk.injEq, Int.natCast_inj] at e
      exact hne e
  · rw [h3, hGet_nat hvg, h4, if_pos rfl]
    simp only [Option.bind_some]
    rw [withS_self hfa]; rfl
/-- What deleting does. -/
theorem del_ok {h : I_Heap} {r : I_Rid} (ht : (hDel h r).2 = true) : vH h ∧ vH (hDel h r).1 ∧ (∀ x ∈ scanL h.pages 0, x ≠ r → hGet (hDel h r).1 x = hGet h x ∧ x ∈ scanL (hDel h r).1.pages 0) ∧ hGet (hDel h r).1 r = (ByteArray.empty, false) ∧
    cntH (hDel h r).1.pages + 1 = cntH h.pages ∧ (hDel h r).1.pages.length = h.pages.length := by
  unfold hDel at ht ⊢
  by_cases hc : vH h ∧ 0 ≤ r.page
  case neg => rw [if_neg hc] at ht; cases ht
  rw [if_pos hc] at ht ⊢
  obtain ⟨hv, h0⟩ := hc
  cases hp : h.pages[r.page.toNat]? with
  | none => rw [hp] at ht; cases ht
  | some p =>
    rw [hp] at ht
    dsimp only at ht ⊢
    by_cases h1 : (clearP p r.slot).2 = true
    case neg => rw [if_neg h1] at ht; cases ht
    rw [if_pos h1]
    have hk := clear_vP h1
    have hv' := vH_set hv (i := r.page.toNat) (vP_clearP h1)
    have hce : clearP p r.slot = (⟨trimP (p.slots.set r.slot.toNat noSlot)⟩, true) := by unfold clearP; rw [if_pos hk]
    obtain ⟨hi, hpe⟩ := List.getElem?_eq_some_iff.1 hp
    obtain ⟨hvp, hs0, s, hs, hsl⟩ := hk
    obtain ⟨hb, _⟩ := List.getElem?_eq_some_iff.1 hs
    obtain ⟨pg, sl⟩ := r
    dsimp only at *
    obtain ⟨a, rfl⟩ := Int.eq_ofNat_of_zero_le h0
    obtain ⟨b, rfl⟩ := Int.eq_ofNat_of_zero_le hs0
    simp only [Int.toNat_natCast] at *
    have hi : a < h.pages.length := (List.getElem?_eq_some_iff.1 hp).1
    have hb : b < p.slots.length := (List.getElem?_eq_some_iff.1 hs).1
    rw [hce] at hv' ⊢
    dsimp only at hv' ⊢
    refine ⟨hv, hv', fun x hx hne => ?_, ?_, ?_, by simp⟩
    · obtain ⟨a', b', q, s', g1, g2, g3, rfl⟩ := mem_scan.1 hx
      have hne' : ¬ (a' = a ∧ b' = b) := by rintro ⟨rfl, rfl⟩; exact hne rfl
      rw [hGet_nat hv, hGet_nat hv']
      by_cases e : a' = a
      · subst e
        rw [hp] at g1; cases g1
        have hbb : b ≠ b' := fun e => hne' ⟨rfl, e.symm⟩
        rw [List.getElem?_set_self hi, hp]
        simp only [Option.bind_some]
        rw [getO_trim, List.getElem?_set_ne hbb]
        refine ⟨rfl, mem_scan.2 ?_⟩
        have hlive : getO (trimP (p.slots.set b noSlot))[b']? = (s'.data, true) := by
          rw [getO_trim, List.getElem?_set_ne hbb, g2]; simp [getO, g3]
        cases hq : (trimP (p.slots.set b noSlot))[b']? with
        | none => rw [hq] at hlive; simp [getO] at hlive
        | some z =>
          rw [hq] at hlive
          have hz : z.live = true := by
            cases hz : z.live with
            | true => rfl
            | false => rw [getO_dead hz] at hlive; simp at hlive
          exact ⟨a', b', ⟨trimP (p.slots.set b noSlot)⟩, z, by dsimp only; rw [List.getElem?_set_self hi], hq, hz, rfl⟩
      · rw [List.getElem?_set_ne (Ne.symm e)]
        refine ⟨rfl, mem_scan.2 ⟨a', b', q, s', by dsimp only; rw [List.getElem?_set_ne (Ne.symm e)]; exact g1, g2, g3, rfl⟩⟩
    · rw [hGet_nat hv', List.getElem?_set_self hi]
      simp only [Option.bind_some]
      rw [getO_trim, List.getElem?_set_self hb]; rfl
    · have e1 := cntH_set (⟨trimP (p.slots.set b noSlot)⟩ : I_Page) hp
      have e2 := cntS_trim (p.slots.set b noSlot)
      have e3 := cntS_set hs noSlot
      rw [hsl] at e3
      simp only [if_true, Bool.false_eq_true, if_false] at e3
      dsimp only at e1
      omega
/-- What updating does. -/
theorem upd_ok {h : I_Heap} {r : I_Rid} {d : ByteArray} (ht : (hUpd h r d).2.2 = true) : vH h ∧ vH (hUpd h r d).1 ∧ (∀ x ∈ scanL h.pages 0, x ≠ r → hGet (hUpd h r d).1 x = hGet h x) ∧ hGet (hUpd h r d).1 (hUpd h r d).2.1 = (d, true) ∧
    cntH (hUpd h r d).1.pages = cntH h.pages := by
  have hD := del_ok (h := h) (r := r)
  unfold hDel at hD
  unfold hUpd at ht ⊢
  by_cases hc : vH h ∧ 0 ≤ r.page
  case neg => rw [if_neg hc] at ht; cases ht
  rw [if_pos hc] at ht hD ⊢
  obtain ⟨hv, h0⟩ := hc
  cases hp : h.pages[r.page.toNat]? with
  | none => rw [hp] at ht; cases ht
  | some p =>
    rw [hp] at ht hD
    dsimp only at ht hD ⊢
    by_cases h1 : (setP p r.slot d).2 = true
    · rw [if_pos h1]
      obtain ⟨hvq, hk⟩ := vP_set h1
      have hv' := vH_set hv (i := r.page.toNat) hvq
      have hse : setP p r.slot d = (⟨p.slots.set r.slot.toNat ⟨true, d⟩⟩, true) := by
        rcases set_cases p r.slot d with h2 | h2
        · rw [h2] at h1; cases h1
        · exact h2.2.2
      obtain ⟨hi, hpe⟩ := List.getElem?_eq_some_iff.1 hp
      obtain ⟨hvp, hs0, s, hs, hsl⟩ := hk
      obtain ⟨hb, _⟩ := List.getElem?_eq_some_iff.1 hs
      clear hD
      obtain ⟨pg, sl⟩ := r
      dsimp only at *
      obtain ⟨a, rfl⟩ := Int.eq_ofNat_of_zero_le h0
      obtain ⟨b, rfl⟩ := Int.eq_ofNat_of_zero_le hs0
      simp only [Int.toNat_natCast] at *
      have hi : a < h.pages.length := (List.getElem?_eq_some_iff.1 hp).1
      have hb : b < p.slots.length := (List.getElem?_eq_some_iff.1 hs).1
      rw [hse] at hv' ⊢
      dsimp only at hv' ⊢
      refine ⟨hv, hv', fun x hx hne => ?_, ?_, ?_⟩
      · obtain ⟨a', b', q, s', g1, g2, g3, rfl⟩ := mem_scan.1 hx
        have hne' : ¬ (a' = a ∧ b' = b) := by rintro ⟨rfl, rfl⟩; exact hne rfl
        rw [hGet_nat hv, hGet_nat hv']
        by_cases e : a' = a
        · subst e
          rw [hp] at g1; cases g1
          have hbb : b ≠ b' := fun e => hne' ⟨rfl, e.symm⟩
          rw [List.getElem?_set_self hi, hp]
          simp only [Option.bind_some]
          rw [List.getElem?_set_ne hbb]
        · rw [List.getElem?_set_ne (Ne.symm e)]
      · rw [hGet_nat hv', List.getElem?_set_self hi]
        simp only [Option.bind_some]
        rw [List.getElem?_set_self hb]; rfl
      · have e1 := cntH_set (⟨p.slots.set b ⟨true, d⟩⟩ : I_Page) hp
        have e3 := cntS_set hs ⟨true, d⟩
        rw [hsl] at e3
        dsimp only at e1 e3
        simp only [if_true] at e3
        omega
    · rw [if_neg h1] at ht ⊢
      by_cases h2 : (clearP p r.slot).2 = true
      case neg => rw [if_neg h2] at ht; cases ht
      rw [if_pos h2] at ht hD ⊢
      obtain ⟨_, g1, g2, g3, g4, g5⟩ := hD rfl
      dsimp only at g1 g2 g3 g4 g5
      obtain ⟨k1, k2, k3, k4⟩ := ins_ok g1 ht
      dsimp only at k1 k2 k3 k4
      refine ⟨hv, k1, fun x hx hne => ?_, k3, by omega⟩
      obtain ⟨e1, e2⟩ := g2 x hx hne
      rw [(k2 x e2).1, e1]
section
variable {N : Nat} (hN : 100000000 ≤ N)
include hN
theorem scanS_ok {h : I_Heap} (hb : HB h.pages) : ok (m_S_HeapScan N h) fun l => l.length ≤ 48 := by
  unfold m_S_HeapScan
  have hl := hb.len
  refine ok.eq (vHS hN hb) ?_
  refine ok.ite (fun hv => ?_) fun hv => ok.some (by simp)
  have hv6 := hv.1
  refine ok.call (ok.each h.pages.length (fun i s => s.1 = (i : Int) ∧ s.2.length ≤ 8 * i) (fun b => b.length ≤ 48) ?_ ?_ N 0 _ (Nat.zero_le _) ⟨rfl, by simp⟩ (by omega)) ?_
  · rintro i ⟨j, v⟩ hi ⟨rfl, hg1⟩
    dsimp only at hg1 ⊢
    have h8 := (hv.2 _ (List.getElem_mem hi)).1
    unfold m_S_HeapScan_b2
    refine ok.ift (by omega) ?_
    refine ok.call (ok.each h.pages[i].slots.length (fun k s => s.1 = (k : Int) ∧ s.2.length ≤ 8 * i + k) (fun b => b.length ≤ 8 * i + 8) ?_ ?_ N 0 _ (Nat.zero_le _) ⟨rfl, by dsimp only; omega⟩ (by omega)) ?_
    · rintro k ⟨j, w⟩ hk ⟨rfl, hw1⟩
      dsimp only at hw1 ⊢
      unfold m_S_HeapScan_b3
      refine ok.eq (ixI_nat hi) ?_
      repeat' (first | (with_reducible refine ok.some ?_) | ((with_reducible refine ok.eq (ixI_nat hk) ?_)) | ((with_reducible refine ok.eq (ixI_nat hi) ?_)) | ((with_reducible refine ok.app ⟨by simp; omega, by simp; omega⟩ ?_)) | (with_reducible refine ok.ite (fun hc => ?_) (fun hc => ?_)) | (with_reducible refine ok.cond (fun hc => ?_) (fun hc => ?_)) | (with_reducible refine ok.chk (by omega) ?_) | (with_reducible refine ok.bs ?_) | (with_reducible refine ok.remM (by omega) (fun _ hq => ?_)) | (with_reducible refine ok.quoM (by omega) (fun _ hq => ?_)) | (with_reducible refine ok.ix (by omega) (by omega) (fun q hq he => ?_)))
      · exact ⟨by simp, by simp; omega⟩
      · exact ⟨by simp, by dsimp only; omega⟩
      · omega
    · rintro ⟨j, w⟩ ⟨rfl, hw1⟩
      dsimp only at hw1 ⊢
      unfold m_S_HeapScan_b3
      refine ok.eq (ixI_nat hi) ?_
      repeat' (first | (with_reducible refine ok.some ?_) | (with_reducible refine ok.iff (by omega) ?_) | (with_reducible refine ok.ite (fun hc => ?_) (fun hc => ?_)) | (with_reducible refine ok.cond (fun hc => ?_) (fun hc => ?_)) | (with_reducible refine ok.chk (by omega) ?_) | (with_reducible refine ok.bs ?_) | (with_reducible refine ok.remM (by omega) (fun _ hq => ?_)) | (with_reducible refine ok.quoM (by omega) (fun _ hq => ?_)) | (with_reducible refine ok.ix (by omega) (by omega) (fun q hq he => ?_)))
      show _ ≤ _
      omega
    · intro e he
      unfold m_S_HeapScan_k3
      repeat' (first | (with_reducible refine ok.some ?_) | (with_reducible refine ok.ite (fun hc => ?_) (fun hc => ?_)) | (with_reducible refine ok.cond (fun hc => ?_) (fun hc => ?_)) | (with_reducible refine ok.chk (by omega) ?_) | (with_reducible refine ok.bs ?_) | (with_reducible refine ok.remM (by omega) (fun _ hq => ?_)) | (with_reducible refine ok.quoM (by omega) (fun _ hq => ?_)) | (with_reducible refine ok.ix (by omega) (by omega) (fun q hq he => ?_)))
      exact ⟨by simp, by dsimp only; omega⟩
  · rintro ⟨j, v⟩ ⟨rfl, hg1⟩
    dsimp only at hg1 ⊢
    unfold m_S_HeapScan_b2
    repeat' (first | (with_reducible refine ok.some ?_) | (with_reducible refine ok.iff (by omega) ?_) | (with_reducible refine ok.ite (fun hc => ?_) (fun hc => ?_)) | (with_reducible refine ok.cond (fun hc => ?_) (fun hc => ?_)) | (with_reducible refine ok.chk (by omega) ?_) | (with_reducible refine ok.bs ?_) | (with_reducible refine ok.remM (by omega) (fun _ hq => ?_)) | (with_reducible refine ok.quoM (by omega) (fun _ hq => ?_)) | (with_reducible refine ok.ix (by omega) (by omega) (fun q hq he => ?_)))
    show _ ≤ _
    omega
  · intro e he
    exact ok.some he
theorem anyHeap_ok {r : S_reader} (h : r.b.length ≤ 2000) (h0 : 0 ≤ r.p ∧ r.p ≤ 10000) : ok (m_S_anyHeap N r) fun x => HS x.1.pages ∧ x.2.b = r.b ∧ 0 ≤ x.2.p ∧ x.2.p ≤ r.p + 1000 := by
  unfold m_S_anyHeap
  refine ok.call (one_ok N (by omega) (by omega) (by decide) (by decide)) ?_
  rintro ⟨n0, r1⟩ ⟨hr1, hn0⟩
  dsimp only at hr1 hn0 ⊢; subst hr1
  have hn : 0 ≤ n0 ∧ n0 ≤ 6 := by simp at hn0; omega
  refine ok.call (ok.loop (fun s => 0 ≤ s.1 ∧ s.1 ≤ 6 ∧ s.2.1 = r.b ∧ 0 ≤ s.2.2.1 ∧ s.2.2.1 ≤ r.p + 1 + (6 - s.1) * 20 ∧ (s.2.2.2.length : Int) ≤ 6 - s.1 ∧ ∀ p ∈ s.2.2.2, Sm 20 p.slots) (fun s => s.1.toNat) (fun e => e.1 = r.b ∧ 0 ≤ e.2.1 ∧ e.2.1 ≤ r.p + 121 ∧ e.2.2.length ≤ 6 ∧ ∀ p ∈ e.2.2, Sm 20 p.slots) ?_ N _ ?_ ?_) ?_
  · rintro ⟨n, rb, p, sl⟩ ⟨h1, h2, h3, h4, h5, h6, h7⟩
    dsimp only at h1 h2 h3 h4 h5 h6 h7 ⊢
    subst h3
    unfold m_S_anyHeap_b1
    repeat' (first | (with_reducible refine ok.some ?_) | ((with_reducible refine ok.call (randomPage_ok hN (by (try dsimp only); omega) (by (try dsimp only); omega)) ?_; rintro ⟨v, ⟨rb', p'⟩⟩ ⟨hv, h11, h12, h13⟩; (try dsimp only at hv h11 h12 h13); subst h11; (try dsimp only))) | ((with_reducible refine ok.app ⟨by simp; omega, by simp; omega⟩ ?_)) | (with_reducible refine ok.ite (fun hc => ?_) (fun hc => ?_)) | (with_reducible refine ok.cond (fun hc => ?_) (fun hc => ?_)) | (with_reducible refine ok.chk (by omega) ?_) | (with_reducible refine ok.bs ?_) | (with_reducible refine ok.remM (by omega) (fun _ hq => ?_)) | (with_reducible refine ok.quoM (by omega) (fun _ hq => ?_)) | (with_reducible refine ok.ix (by omega) (by omega) (fun q hq he => ?_)))
    · refine ⟨⟨by dsimp only; omega, by dsimp only; omega, rfl, by dsimp only; omega, by dsimp only; omega, by simp; omega, fun q hq => ?_⟩, by dsimp only; omega⟩
      rcases List.mem_append.1 hq with h | h
      · exact h7 q h
      · simp at h; subst h; exact hv.up (by omega)
    · exact ⟨rfl, h4, by dsimp only; omega, by dsimp only; omega, h7⟩
  · dsimp only; refine ⟨?_, ?_, rfl, ?_, ?_, ?_, fun p hp => by cases hp⟩ <;> first | omega | (simp; omega)
  · dsimp only; omega
  rintro ⟨rb, p, sl⟩ ⟨h1, h2, h3, h4, h5⟩
  dsimp only at h1 h2 h3 h4 h5 ⊢
  subst h1
  unfold m_S_anyHeap_k1
  refine ok.call (pick_ok N (by (try dsimp only); omega) (by (try dsimp only); omega) (by omega)) ?_
  rintro ⟨n1, rd⟩ ⟨hrd, hv1, hv2⟩
  dsimp only at hrd hv1 hv2 ⊢; subst hrd
  refine ok.ite (fun _ => ?_) fun _ => ok.ite (fun _ => ?_) fun _ => ?_
  · refine ok.call (anyPage_ok hN (by (try dsimp only); omega) (by (try dsimp only); omega)) ?_
    rintro ⟨v, ⟨rb', p'⟩⟩ ⟨hv, h11, h12, h13⟩
    dsimp only at hv h11 h12 h13 ⊢
    refine ok.app ⟨by simp; omega, by simp; omega⟩ (ok.some ⟨⟨by simp; omega, fun q hq => ?_⟩, h11, h12, by dsimp only; omega⟩)
    rcases List.mem_append.1 hq with h | h
    · exact h5 q h
    · simp at h; subst h; exact hv
  · refine ok.call (ok.loop (fun s => s.length ≤ 7 ∧ ∀ p ∈ s, Sm 20 p.slots) (fun s => 7 - s.length) (fun e => HS e) ?_ N _ ⟨by omega, h5⟩ (by omega)) ?_
    · rintro s ⟨h6, h7⟩
      unfold m_S_anyHeap_b2
      refine ok.ite (fun hc => ?_) fun _ => ok.some ⟨by omega, h7⟩
      refine ok.app ⟨by simp; omega, by simp; omega⟩ (ok.some ⟨⟨by simp; omega, fun q hq => ?_⟩, by simp; omega⟩)
      rcases List.mem_append.1 hq with h | h
      · exact h7 q h
      · simp at h; subst h; exact .nil
    · intro e he
      exact ok.some ⟨he, rfl, by dsimp only; omega, by dsimp only; omega⟩
  · exact ok.some ⟨⟨by dsimp only; omega, h5⟩, rfl, by dsimp only; omega, by dsimp only; omega⟩
theorem someRid_ok {r : S_reader} {h : I_Heap} (hb : HB h.pages) (h1 : r.b.length ≤ 2000) (h0 : 0 ≤ r.p ∧ r.p ≤ 100000) : ok (m_S_someRid N r h) fun x => x.2.b = r.b ∧ 0 ≤ x.2.p ∧ x.2.p ≤ r.p + 10 := by
  unfold m_S_someRid
  refine ok.call (scanS_ok hN hb) fun l hl => ?_
  refine ok.ite (fun hc => ?_) fun hc => ?_
  · refine ok.call (pick_ok N (by omega) (by omega) (by omega)) ?_
    rintro ⟨n1, rd⟩ ⟨hrd, hv1, hv2⟩
    dsimp only at hrd hv1 hv2 ⊢; subst hrd
    refine ok.ite (fun _ => ?_) fun _ => ?_
    · refine ok.call (pick_ok N (by (try dsimp only); omega) (by (try dsimp only); omega) (by omega)) ?_
      rintro ⟨n1, rd⟩ ⟨hrd, hv1, hv2⟩
      dsimp only at hrd hv1 hv2 ⊢; subst hrd
      refine ok.ix (by omega) (by omega) fun q hq he => ok.some ⟨rfl, by dsimp only; omega, by dsimp only; omega⟩
    · refine ok.call (one_ok N (by (try dsimp only); omega) (by (try dsimp only); omega) (by decide) (by decide)) ?_
      rintro ⟨n1, rd⟩ ⟨hrd, _⟩
      dsimp only at hrd ⊢; subst hrd
      refine ok.call (someSlot_ok N (by (try dsimp only); omega) (by (try dsimp only); omega)) ?_
      rintro ⟨n1, rd⟩ ⟨_, _, hrd⟩
      dsimp only at hrd ⊢; subst hrd
      exact ok.some ⟨rfl, by dsimp only; omega, by dsimp only; omega⟩
  · refine ok.call (one_ok N (by omega) (by omega) (by decide) (by decide)) ?_
    rintro ⟨n1, rd⟩ ⟨hrd, _⟩
    dsimp only at hrd ⊢; subst hrd
    refine ok.call (someSlot_ok N (by (try dsimp only); omega) (by (try dsimp only); omega)) ?_
    rintro ⟨n1, rd⟩ ⟨_, _, hrd⟩
    dsimp only at hrd ⊢; subst hrd
    exact ok.some ⟨rfl, by dsimp only; omega, by dsimp only; omega⟩
theorem drawHeapInsert_ok (l : List UInt8) : ok (m_S_DrawHeapInsert N l) fun x => HS x.1.pages ∧ x.2.size ≤ 64 := by
  unfold m_S_DrawHeapInsert
  refine ok.call (newReader_ok N l) fun r hr => ?_
  refine ok.call (anyHeap_ok hN hr.1 (by omega)) ?_
  rintro ⟨b, rd⟩ ⟨hb, h1, h2, h3⟩
  dsimp only at hb h1 h2 h3 ⊢
  refine ok.call (someData_ok N (by rw [h1]; exact hr.1) (by omega)) ?_
  rintro ⟨v, rd'⟩ ⟨hv, _⟩
  exact ok.some ⟨hb, hv⟩
theorem drawHeapDelete_ok (l : List UInt8) : ok (m_S_DrawHeapDelete N l) fun x => HS x.1.pages := by
  unfold m_S_DrawHeapDelete m_S_DrawHeapGet
  refine ok.call (P := fun x : I_Heap × I_Rid => HS x.1.pages) ?_ fun x hx => ok.some hx
  refine ok.call (newReader_ok N l) fun r hr => ?_
  refine ok.call (anyHeap_ok hN hr.1 (by omega)) ?_
  rintro ⟨b, rd⟩ ⟨hb, h1, h2, h3⟩
  dsimp only at hb h1 h2 h3 ⊢
  refine ok.call (someRid_ok hN hb.hb (by rw [h1]; exact hr.1) (by omega)) fun x _ => ok.some hb
theorem drawHeapUpdate_ok (l : List UInt8) : ok (m_S_DrawHeapUpdate N l) fun x => HS x.1.pages ∧ x.2.2.size ≤ 64 := by
  unfold m_S_DrawHeapUpdate
  refine ok.call (newReader_ok N l) fun r hr => ?_
  refine ok.call (anyHeap_ok hN hr.1 (by omega)) ?_
  rintro ⟨b, rd⟩ ⟨hb, h1, h2, h3⟩
  dsimp only at hb h1 h2 h3 ⊢
  refine ok.call (someRid_ok hN hb.hb (by rw [h1]; exact hr.1) (by omega)) ?_
  rintro ⟨x, rd'⟩ ⟨h4, h5, h6⟩
  dsimp only at h4 h5 h6 ⊢
  refine ok.call (someData_ok N (by rw [h4, h1]; exact hr.1) (by omega)) ?_
  rintro ⟨v, rd''⟩ ⟨hv, _⟩
  exact ok.some ⟨hb, hv⟩
theorem equalHeap_eq {a b : I_Heap} (ha : HB a.pages) : m_L_equalHeap N a b = some (decide (a = b)) := by
  unfold m_L_equalHeap m_L_equalPages
  have hl := ha.len
  by_cases hlen : a.pages.length = b.pages.length
  case neg =>
    have : a ≠ b := fun e => hlen (by rw [e])
    rw [decide_eq_false (by omega), cond_false]; simp [this]
  rw [decide_eq_true (by omega), cond_true]
  have key := eqlist_ok (N := N) (a := a.pages) (b := b.pages) (body := fun s => m_L_equalPages_b1 N a.pages b.pages s) (k := m_L_equalPages_k1 N) (by omega) hlen ?_ ?_ rfl
  · refine (congrArg (fun o : Option Bool => o.bind fun r1 => some r1) key).trans ?_
    cases a; cases b; simp
  · intro i h1 h2
    show m_L_equalPages_b1 N a.pages b.pages (i : Int) = _
    unfold m_L_equalPages_b1
    have hp := (ha.pg _ (List.getElem_mem h1)).len
    rw [decide_eq_true (show (i : Int) < (a.pages.length : Int) by omega), cond_true, ixI_nat h1, ixI_nat h2]
    simp only [Option.bind_some]
    rw [equalSlots_eq hN hp]
    simp only [Option.bind_some]
    split
    · rename_i e; rw [e, decide_eq_true rfl, cond_true, chk_eq (by omega)]; rfl
    · rename_i e
      have : a.pages[i].slots ≠ b.pages[i].slots := fun h => e (by cases ha : a.pages[i]; cases hb : b.pages[i]; rw [ha, hb] at h; dsimp only at h; rw [h])
      rw [decide_eq_false this]; rfl
  · show m_L_equalPages_b1 N a.pages b.pages _ = _
    unfold m_L_equalPages_b1
    rw [decide_eq_false (by omega)]; rfl
end
end V
end Go.Proofs.Ytoljdhdfijnjiaa
