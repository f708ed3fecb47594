/- What the rows need, part 7. No condition. -/
import Derived.Test.YtmnjnkcooofgjaaQHuF
namespace Go.Proofs.Ytmnjnkcooofgjaa
namespace V
set_option linter.unusedVariables false
set_option linter.unusedSimpArgs false
set_option maxRecDepth 100000
/-- A heap that the marks can run through. -/
structure HS (g : I_Heap) : Prop where
  len : g.pages.length ≤ 5000000
  pg : ∀ p ∈ g.pages, p.slots.length ≤ 5000000
  sum : cL cPg g.pages ≤ 9000000
theorem cL_le {α : Type} {c : α → Nat} {m : Nat} : ∀ {l : List α}, (∀ x ∈ l, c x ≤ m) → cL c l ≤ m * l.length
  | [], _ => Nat.zero_le _
  | x :: l, h => by
    have h1 := h x (.head _)
    have h2 := cL_le (l := l) fun y hy => h y (.tail _ hy)
    simp only [cL, List.length_cons, Nat.mul_add]
    omega
theorem HS.nil : HS ⟨[]⟩ := ⟨by simp, fun p h => by (cases h), by simp [cL]⟩
theorem HS.vP {l : List I_Page} (h1 : l.length ≤ 7) (h2 : ∀ p ∈ l, vP p) : HS ⟨l⟩ := by
  refine ⟨by show l.length ≤ _; omega, fun p hp => by have := (h2 p hp).1; omega, ?_⟩
  have : cL cPg l ≤ 16 * l.length := cL_le fun p hp => by have := (h2 p hp).1; unfold cPg; omega
  show cL cPg l ≤ _
  omega
theorem set_all {α : Type} {P : α → Prop} {l : List α} {i : Nat} {x : α} (h : ∀ y ∈ l, P y) (hx : P x) : ∀ y ∈ l.set i x, P y := fun y hy => by
  rcases List.mem_or_eq_of_mem_set hy with h1 | h1
  · exact h y h1
  · subst h1; exact hx
theorem vP_put {p : I_Page} {d : ByteArray} (h : (putP p d).2.2 = true) : vP (putP p d).1 := by
  unfold putP at h ⊢
  split at h
  · rename_i h1
    rw [if_pos h1]
    split at h
    · rename_i h2; rw [if_pos h2]; exact h2
    · cases h
  · cases h
theorem hDel_hs (h : I_Heap) (r : I_Rid) : HS (hDel h r).1 := by
  unfold hDel
  split
  · rename_i h1
    split
    · split
      · rename_i h3
        exact HS.vP (by have := h1.1.1; simp; omega) (set_all h1.1.2 (vP_clearP h3))
      · exact HS.nil
    · exact HS.nil
  · exact HS.nil
theorem insP_hs {l : List I_Page} (h1 : l.length ≤ 6) (h2 : ∀ p ∈ l, vP p) (d : ByteArray) : HS (insP l d).1 := by
  unfold insP
  split
  · rename_i p hp
    obtain ⟨hlt, rfl⟩ := List.getElem?_eq_some_iff.1 hp
    exact HS.vP (by simp; omega) (set_all h2 (vP_put (List.findIdx_getElem (w := hlt))))
  · split
    · rename_i h3
      refine HS.vP (by simp; omega) fun p hp => ?_
      rcases List.mem_append.1 hp with h | h
      · exact h2 p h
      · rw [List.mem_singleton.1 h]; exact vP_put h3.1
    · exact HS.nil
theorem hIns_hs (h : I_Heap) (d : ByteArray) : HS (hIns h d).1 := by
  unfold hIns
  split
  · rename_i h1; exact insP_hs h1.1 h1.2 d
  · exact HS.nil
theorem hUpd_hs (h : I_Heap) (r : I_Rid) (d : ByteArray) : HS (hUpd h r d).1 := by
  unfold hUpd
  split
  · rename_i h1
    split
    · split
      · rename_i h3
        exact HS.vP (by have := h1.1.1; simp; omega) (set_all h1.1.2 (vP_set h3).1)
      · split
        · rename_i h3
          exact insP_hs (by simpa using h1.1.1) (set_all h1.1.2 (vP_clearP h3)) d
        · exact HS.nil
    · exact HS.nil
  · exact HS.nil
/-- What the argument's size gives. -/
theorem toHp_hs {a : L_Heap} (h : a.pages.length ≤ 1048576 ∧ cL (fun p : L_Page => p.slots.length) a.pages ≤ 1048576 ∧ ∀ p ∈ a.pages, p.slots.length ≤ 1048576 ∧ ∀ s ∈ p.slots, s.data.size ≤ 1048576) : HS ⟨a.pages.map toPg⟩ ∧ HB (a.pages.map toPg) := by
  obtain ⟨h1, h2, h3⟩ := h
  have hc : ∀ l : List L_Page, cL cPg (l.map toPg) = 2 * cL (fun p : L_Page => p.slots.length) l := by
    intro l
    induction l with
    | nil => rfl
    | cons x l ih => simp only [List.map_cons, cL, ih, cPg, toPg, List.length_map]; omega
  refine ⟨⟨by simp; omega, fun p hp => ?_, ?_⟩, ⟨by simp; omega, fun p hp => ?_⟩⟩
  · obtain ⟨x, hx, rfl⟩ := List.mem_map.1 hp
    have := (h3 x hx).1
    simp [toPg]; omega
  · show cL cPg (a.pages.map toPg) ≤ _
    rw [hc]; omega
  · obtain ⟨x, hx, rfl⟩ := List.mem_map.1 hp
    have h4 := h3 x hx
    refine ⟨by simp [toPg]; omega, fun s hs => ?_⟩
    obtain ⟨y, hy, rfl⟩ := List.mem_map.1 hs
    have := h4.2 y hy
    show y.data.size ≤ _
    omega
def toRid (a : L_Rid) : I_Rid := ⟨a.page, a.slot⟩
section
variable {N : Nat} (hN : 100000000 ≤ N)
include hN
theorem exactHeapInsert (a : L_Heap) (sa : Szd.szd a) (d : ByteArray) (sd : Szd.szd d) : m_L_FnExactHeapInsert N a d = some true := by
  refine ok.val ?_
  unfold m_L_FnExactHeapInsert
  refine ok.ite (fun _ => ok.some rfl) fun hd => ?_
  refine ok.call (szHeap_ok hN sa.1 (fun p hp => ⟨(sa.2 p hp).1, fun s hs => ((sa.2 p hp).2 s hs).2⟩)) fun r hr => ?_
  refine ok.ite (fun _ => ok.some rfl) fun hc => ?_
  have hr := hr.resolve_left hc
  obtain ⟨hx, hb⟩ := toHp_hs hr
  have hg := hIns_hs ⟨a.pages.map toPg⟩ d
  have hd' : d.size ≤ 1000000000 := by omega
  have e1 := toHeap_eq hN (a := a) (by omega) (fun p hp => by have := (hr.2.2 p hp).1; omega)
  have e2 := eqRid_self (N := N)
  have e3 := eqHeap_self hN hx.len hx.pg
  have e4 := eqHeap_self hN hg.len hg.pg
  have e5 := markHeap_eq hN hx.len hx.sum
  have e6 := markHeap_eq hN hg.len hg.sum
  have e7 := heldHeap_eq hN hg.len hg.sum
  have e8 := hInsS hN (h := ⟨a.pages.map toPg⟩) hb hd'
  have e9 := insI hN (h := ⟨a.pages.map toPg⟩) hb hd'
  repeat' (first | (with_reducible refine ok.some ?_) | (with_reducible refine ok.eq e1 ?_) | (with_reducible refine ok.eq (e2 _) ?_) | (with_reducible refine ok.eq e8 ?_) | (with_reducible refine ok.eq e9 ?_) | (with_reducible refine ok.eq e4 ?_) | (with_reducible refine ok.eq e3 ?_) | (with_reducible refine ok.bt (beq_self_eq_true _) ?_) | (with_reducible refine ok.bt rfl ?_) | (with_reducible refine ok.eq e5 ?_) | (with_reducible refine ok.eq e6 ?_) | (with_reducible refine ok.eq e7 ?_) | (with_reducible refine ok.iff (by omega) ?_) | (with_reducible refine ok.ift rfl ?_) | (with_reducible refine ok.ite (fun hc => ?_) (fun hc => ?_)) | (with_reducible refine ok.cond (fun hc => ?_) (fun hc => ?_)) | (with_reducible refine ok.chk (by omega) ?_) | (with_reducible refine ok.bs ?_) | (with_reducible refine ok.remM (by omega) (fun _ hq => ?_)) | (with_reducible refine ok.quoM (by omega) (fun _ hq => ?_)) | (with_reducible refine ok.ix (by omega) (by omega) (fun q hq he => ?_)))
  all_goals rfl
theorem exactHeapUpdate (a : L_Heap) (sa : Szd.szd a) (k : L_Rid) (sk : Szd.szd k) (d : ByteArray) (sd : Szd.szd d) : m_L_FnExactHeapUpdate N a k d = some true := by
  refine ok.val ?_
  unfold m_L_FnExactHeapUpdate
  refine ok.ite (fun _ => ok.some rfl) fun hd => ?_
  refine ok.call (szHeap_ok hN sa.1 (fun p hp => ⟨(sa.2 p hp).1, fun s hs => ((sa.2 p hp).2 s hs).2⟩)) fun r hr => ?_
  refine ok.ite (fun _ => ok.some rfl) fun hc => ?_
  have hr := hr.resolve_left hc
  obtain ⟨hx, hb⟩ := toHp_hs hr
  have hg := hUpd_hs ⟨a.pages.map toPg⟩ (toRid k) d
  have hd' : d.size ≤ 1000000000 := by omega
  have e1 := toHeap_eq hN (a := a) (by omega) (fun p hp => by have := (hr.2.2 p hp).1; omega)
  have e2 := eqRid_self (N := N)
  have e0 : m_L_toRid N k = some (toRid k) := rfl
  have e3 := eqHeap_self hN hx.len hx.pg
  have e4 := eqHeap_self hN hg.len hg.pg
  have e5 := markHeap_eq hN hx.len hx.sum
  have e6 := markHeap_eq hN hg.len hg.sum
  have e7 := heldHeap_eq hN hg.len hg.sum
  have e8 := updS hN (h := ⟨a.pages.map toPg⟩) (r := toRid k) hb hd'
  have e9 := updI hN (h := ⟨a.pages.map toPg⟩) (r := toRid k) hb hd'
  repeat' (first | (with_reducible refine ok.some ?_) | (with_reducible refine ok.eq e1 ?_) | (with_reducible refine ok.eq e0 ?_) | (with_reducible refine ok.eq (e2 _) ?_) | (with_reducible refine ok.eq e8 ?_) | (with_reducible refine ok.eq e9 ?_) | (with_reducible refine ok.eq e4 ?_) | (with_reducible refine ok.eq e3 ?_) | (with_reducible refine ok.bt (beq_self_eq_true _) ?_) | (with_reducible refine ok.bt rfl ?_) | (with_reducible refine ok.eq e5 ?_) | (with_reducible refine ok.eq e6 ?_) | (with_reducible refine ok.eq e7 ?_) | (with_reducible refine ok.iff (by omega) ?_) | (with_reducible refine ok.ift rfl ?_) | (with_reducible refine ok.ite (fun hc => ?_) (fun hc => ?_)) | (with_reducible refine ok.cond (fun hc => ?_) (fun hc => ?_)) | (with_reducible refine ok.chk (by omega) ?_) | (with_reducible refine ok.bs ?_) | (with_reducible refine ok.remM (by omega) (fun _ hq => ?_)) | (with_reducible refine ok.quoM (by omega) (fun _ hq => ?_)) | (with_reducible refine ok.ix (by omega) (by omega) (fun q hq he => ?_)))
  all_goals rfl
end
end V
end Go.Proofs.Ytmnjnkcooofgjaa
