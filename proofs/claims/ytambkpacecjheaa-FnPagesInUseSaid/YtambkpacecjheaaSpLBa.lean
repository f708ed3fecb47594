/- Space: a law's function. No condition. -/
import Derived.Test.YtambkpacecjheaaSpEa
namespace Go.Proofs.Ytambkpacecjheaa
namespace V
open Enc (enc)
set_option linter.unusedVariables false
set_option linter.unusedSimpArgs false
set_option maxHeartbeats 4000000
set_option maxRecDepth 100000
open Go.RowKit
attribute [local irreducible] thA inA FinA eL

def m_L_FnPagesInUse_k1 (N : Nat) : Option (Bool) :=
  some true
def m_L_FnPagesInUse_b1 (N : Nat) (r2 : (I_Space)) (r4 : ((List Int))) (x14 : Int) : Option (Int ⊕ (Unit ⊕ Bool)) :=
  cond (decide (x14 ≤ r2.pages))
    ((m_I_HoldPage N r2 x14 (9999 : Int)).bind fun r29 =>
    (m_L_isIn N r4 x14).bind fun r31 =>
    cond (r29.2 == r31)
      ((chk (x14 + (1 : Int))).bind fun n34 =>
      some (.inl n34))
      (some (.inr (.inr false))))
    (some (.inr (.inl ())))
def m_L_FnPagesInUse (N : Nat) (p_code : (List UInt8)) : Option (Bool) :=
  cond (decide ((1048576 : Int) < (p_code.length : Int)))
    (some true)
    ((m_S_DrawPagesInUse N p_code).bind fun r2 =>
    (m_I_PagesInUse N r2).bind fun r4 =>
    (m_S_PagesInUse N r2).bind fun r6 =>
    (m_L_equalInts N r4 r6).bind fun r8 =>
    cond r8
      ((m_I_ValidSpace N r2).bind fun r11 =>
      cond r11
        ((loopM (β := Unit ⊕ Bool) (fun s : Int => m_L_FnPagesInUse_b1 N r2 r4 s) N (-1 : Int)).bind fun o => match o with
        | .inl e =>
          m_L_FnPagesInUse_k1 N 
        | .inr v =>
          some v)
        ((m_S_PagesInUse N r2).bind fun r36 =>
        (m_L_equalInts N r4 r36).bind fun r38 =>
        some r38))
      ((m_S_PagesInUse N r2).bind fun r40 =>
      (m_L_equalInts N r4 r40).bind fun r42 =>
      some r42))
theorem w_L_FnPagesInUse (N : Nat) (p_code : (List UInt8)) (r : Bool) (hh0 : m_L_FnPagesInUse N p_code = some r) : FnX Try.prog 7 [] [sL p_code] (RE (bA r) []) := by
  unfold m_L_FnPagesInUse at hh0
  refine FnX.mk Try.func7 rfl rfl ?_
  intro s hs
  refine PC.seq ?_
  refine PC.region ?_
  refine PL.op rfl (Rd.asnT rfl) ?_
  refine PL.nil ?_
  refine thA_n ?_
  refine PC.seq ?_
  refine PC.seq ?_
  refine PC.region ?_
  refine PL.op rfl (Rd.moveT rfl) ?_
  refine PL.op rfl (Rd.lenT rfl) ?_
  refine PL.op rfl (Rd.gtr rfl rfl) ?_
  refine PL.nil ?_
  refine thA_n ?_
  rcases cond_some hh0 with ⟨h_1, hh0⟩ | ⟨h_1, hh0⟩
  · refine PC.cond_true rfl h_1 ?_
    refine PC.seq ?_
    refine PC.region ?_
    refine PL.op rfl (Rd.asnT rfl) ?_
    refine PL.nil ?_
    refine thA_n ?_
    refine PC.ret ?_
    refine thA_r ?_
    obtain rfl := some_in hh0
    exact FinA.mk (r := bA true) (bl := []) [] (.inl rfl) rfl (rl := [.tmp 2]) (.tmp .nil) rfl rfl rfl (.t _) trivial ⟨rfl, rfl⟩
  refine PC.cond_false rfl h_1 ?_
  refine PC.skip ?_
  refine thA_n ?_
  refine PC.seq ?_
  obtain ⟨r2, h_3, hh0⟩ := bind_some hh0
  refine PC.region ?_
  refine PL.op rfl (Rd.moveT rfl) ?_
  refine PL.callM false [] (w_S_DrawPagesInUse N p_code r2 h_3) rfl Try.call30 rfl ⟨.t _, trivial⟩ rfl trivial (fun h => by cases h) ?_
  refine PL.nm (.agg [iA r2.pages, sL r2.free, .os 0 0 r2.held.length]) [some ⟨.tr (eL r2.held), 42, 2⟩] rfl rfl ?_
  refine PL.ef rfl (Ef.alloc rfl rfl) ?_
  refine PL.nm (.op 1 0) [some ⟨.tr (eL r2.held), 42, 2⟩, some ⟨.mx [iA (0 : Int), .t (.v (.slice none 0 0)), .t (.v (.slice none 0 0))], 30, 0⟩] rfl rfl ?_
  refine PL.store rfl rfl rfl rfl rfl rfl rfl ?_
  refine PL.nO [some ⟨.tr (eL r2.held), 42, 2⟩, some ⟨.mx [iA r2.pages, sL r2.free, .os 0 0 r2.held.length], 30, 0⟩] rfl ?_
  refine PL.nil ?_
  refine thA_n ?_
  refine PC.seq ?_
  obtain ⟨r4, h_5, hh0⟩ := bind_some hh0
  refine PC.region ?_
  refine PL.op rfl (Rd.loadBox rfl rfl rfl) ?_
  refine PL.callM true [] (w_I_PagesInUse N r2 r4 h_5) rfl Try.call20 rfl ⟨.aggL ⟨.t _, .t _, .own rfl (by first | decide | exact List.not_mem_nil) rfl rfl, trivial⟩, trivial⟩ rfl trivial (fun _ => ⟨trivial, (flat_cons flat_ow flat_nil)⟩) ?_
  refine PL.nm (.os 2 0 r4.length) [some ⟨.tr (eL r2.held), 42, 2⟩, some ⟨.mx [iA r2.pages, sL r2.free, .os 0 0 r2.held.length], 30, 0⟩, some ⟨.tr (eL r4), 3, 1⟩] rfl rfl ?_
  refine PL.op rfl (Rd.asnO rfl) ?_
  refine PL.nil ?_
  refine thA_n ?_
  refine PC.seq ?_
  refine PC.seq ?_
  obtain ⟨r6, h_7, hh0⟩ := bind_some hh0
  obtain ⟨r8, h_9, hh0⟩ := bind_some hh0
  rcases cond_some hh0 with ⟨h_10, hh0⟩ | ⟨h_10, hh0⟩
  rotate_left
  · refine PC.region ?_
    refine PL.op rfl (Rd.moveO rfl) ?_
    refine PL.op rfl (Rd.loadBox rfl rfl rfl) ?_
    refine PL.callM true [] (w_S_PagesInUse N r2 r6 h_7) rfl Try.call19 rfl ⟨.aggL ⟨.t _, .t _, .own rfl (by first | decide | exact List.not_mem_nil) rfl rfl, trivial⟩, trivial⟩ rfl trivial (fun _ => ⟨trivial, (flat_cons flat_ow flat_nil)⟩) ?_
    refine PL.nm (.os 3 0 r6.length) [some ⟨.tr (eL r2.held), 42, 2⟩, some ⟨.mx [iA r2.pages, sL r2.free, .os 0 0 r2.held.length], 30, 0⟩, some ⟨.tr (eL r4), 3, 1⟩, some ⟨.tr (eL r6), 3, 1⟩] rfl rfl ?_
    refine PL.callM true [] (w_L_equalInts N r4 r6 r8 h_9) rfl Try.call31 rfl ⟨.own rfl (by first | decide | exact List.not_mem_nil) rfl rfl, .own rfl (by first | decide | exact List.not_mem_nil) rfl rfl, trivial⟩ rfl trivial (fun _ => ⟨trivial, flat_nil⟩) ?_
    refine PL.op rfl (Rd.unnot rfl) ?_
    refine PL.op rfl (Rd.moveT rfl) ?_
    refine PL.guard_off rfl rfl (not_f h_10) ?_
    refine PL.guard_off rfl rfl (not_f h_10) ?_
    refine PL.guard_off rfl rfl (not_f h_10) ?_
    refine PL.op rfl (Rd.pick_t rfl (not_f h_10)) ?_
    refine PL.nil ?_
    refine thA_n ?_
    refine PC.cond_true rfl rfl ?_
    refine PC.seq ?_
    obtain ⟨r40, h_41, hh0⟩ := bind_some hh0
    obtain ⟨r42, h_43, hh0⟩ := bind_some hh0
    refine PC.region ?_
    refine PL.op rfl (Rd.moveO rfl) ?_
    refine PL.op rfl (Rd.loadBox rfl rfl rfl) ?_
    refine PL.callM true [] (w_S_PagesInUse N r2 r40 h_41) rfl Try.call19 rfl ⟨.aggL ⟨.t _, .t _, .own rfl (by first | decide | exact List.not_mem_nil) rfl rfl, trivial⟩, trivial⟩ rfl trivial (fun _ => ⟨trivial, (flat_cons flat_ow flat_nil)⟩) ?_
    refine PL.nm (.os 4 0 r40.length) [some ⟨.tr (eL r2.held), 42, 2⟩, some ⟨.mx [iA r2.pages, sL r2.free, .os 0 0 r2.held.length], 30, 0⟩, some ⟨.tr (eL r4), 3, 1⟩, some ⟨.tr (eL r6), 3, 1⟩, some ⟨.tr (eL r40), 3, 1⟩] rfl rfl ?_
    refine PL.callM true [] (w_L_equalInts N r4 r40 r42 h_43) rfl Try.call31 rfl ⟨.own rfl (by first | decide | exact List.not_mem_nil) rfl rfl, .own rfl (by first | decide | exact List.not_mem_nil) rfl rfl, trivial⟩ rfl trivial (fun _ => ⟨trivial, flat_nil⟩) ?_
    refine PL.op rfl (Rd.asnT rfl) ?_
    refine PL.nil ?_
    refine thA_n ?_
    refine PC.ret ?_
    refine thA_r ?_
    obtain rfl := some_in hh0
    exact FinA.mk (r := bA r42) (bl := []) [] (.inl rfl) rfl (rl := [.tmp 2]) (.tmp .nil) rfl rfl rfl (.t _) trivial ⟨rfl, rfl⟩
  obtain ⟨r11, h_12, hh0⟩ := bind_some hh0
  refine PC.region ?_
  refine PL.op rfl (Rd.moveO rfl) ?_
  refine PL.op rfl (Rd.loadBox rfl rfl rfl) ?_
  refine PL.callM true [] (w_S_PagesInUse N r2 r6 h_7) rfl Try.call19 rfl ⟨.aggL ⟨.t _, .t _, .own rfl (by first | decide | exact List.not_mem_nil) rfl rfl, trivial⟩, trivial⟩ rfl trivial (fun _ => ⟨trivial, (flat_cons flat_ow flat_nil)⟩) ?_
  refine PL.nm (.os 3 0 r6.length) [some ⟨.tr (eL r2.held), 42, 2⟩, some ⟨.mx [iA r2.pages, sL r2.free, .os 0 0 r2.held.length], 30, 0⟩, some ⟨.tr (eL r4), 3, 1⟩, some ⟨.tr (eL r6), 3, 1⟩] rfl rfl ?_
  refine PL.callM true [] (w_L_equalInts N r4 r6 r8 h_9) rfl Try.call31 rfl ⟨.own rfl (by first | decide | exact List.not_mem_nil) rfl rfl, .own rfl (by first | decide | exact List.not_mem_nil) rfl rfl, trivial⟩ rfl trivial (fun _ => ⟨trivial, flat_nil⟩) ?_
  refine PL.op rfl (Rd.unnot rfl) ?_
  refine PL.op rfl (Rd.moveT rfl) ?_
  refine PL.guard_on rfl (not_t h_10) ?_
  refine PL.op rfl (Rd.loadBox rfl rfl rfl) ?_
  refine PL.guard_on rfl (not_t h_10) ?_
  refine PL.callM true [] (w_I_ValidSpace N r2 r11 h_12) rfl Try.call17 rfl ⟨.aggL ⟨.t _, .t _, .own rfl (by first | decide | exact List.not_mem_nil) rfl rfl, trivial⟩, trivial⟩ rfl trivial (fun _ => ⟨trivial, flat_nil⟩) ?_
  refine PL.guard_on rfl (not_t h_10) ?_
  refine PL.op rfl (Rd.unnot rfl) ?_
  refine PL.op rfl (Rd.pick_f rfl (not_t h_10)) ?_
  refine PL.nil ?_
  refine thA_n ?_
  rcases cond_some hh0 with ⟨h_13, hh0⟩ | ⟨h_13, hh0⟩
  rotate_left
  · refine PC.cond_true rfl (not_f h_13) ?_
    refine PC.seq ?_
    obtain ⟨r36, h_37, hh0⟩ := bind_some hh0
    obtain ⟨r38, h_39, hh0⟩ := bind_some hh0
    refine PC.region ?_
    refine PL.op rfl (Rd.moveO rfl) ?_
    refine PL.op rfl (Rd.loadBox rfl rfl rfl) ?_
    refine PL.callM true [] (w_S_PagesInUse N r2 r36 h_37) rfl Try.call19 rfl ⟨.aggL ⟨.t _, .t _, .own rfl (by first | decide | exact List.not_mem_nil) rfl rfl, trivial⟩, trivial⟩ rfl trivial (fun _ => ⟨trivial, (flat_cons flat_ow flat_nil)⟩) ?_
    refine PL.nm (.os 4 0 r36.length) [some ⟨.tr (eL r2.held), 42, 2⟩, some ⟨.mx [iA r2.pages, sL r2.free, .os 0 0 r2.held.length], 30, 0⟩, some ⟨.tr (eL r4), 3, 1⟩, some ⟨.tr (eL r6), 3, 1⟩, some ⟨.tr (eL r36), 3, 1⟩] rfl rfl ?_
    refine PL.callM true [] (w_L_equalInts N r4 r36 r38 h_39) rfl Try.call31 rfl ⟨.own rfl (by first | decide | exact List.not_mem_nil) rfl rfl, .own rfl (by first | decide | exact List.not_mem_nil) rfl rfl, trivial⟩ rfl trivial (fun _ => ⟨trivial, flat_nil⟩) ?_
    refine PL.op rfl (Rd.asnT rfl) ?_
    refine PL.nil ?_
    refine thA_n ?_
    refine PC.ret ?_
    refine thA_r ?_
    obtain rfl := some_in hh0
    exact FinA.mk (r := bA r38) (bl := []) [] (.inl rfl) rfl (rl := [.tmp 2]) (.tmp .nil) rfl rfl rfl (.t _) trivial ⟨rfl, rfl⟩
  refine PC.cond_false rfl (not_t h_13) ?_
  refine PC.skip ?_
  refine thA_n ?_
  refine PC.seq ?_
  refine PC.seq ?_
  refine PC.region ?_
  refine PL.op rfl (Rd.asnT rfl) ?_
  refine PL.nil ?_
  refine thA_n ?_
  obtain ⟨o23, h_24, hh0⟩ := bind_some hh0
  refine PC.cutE hs (fun x : Unit => []) (fun x => []) (fun x => m_L_FnPagesInUse_k1 N  = some r) ?_ ?_
  · refine PC.block ?_
    refine PC.loop hs (fun x : Nat × (Int) => [(3, .op 0 0), (4, .os 2 0 r4.length), (5, iA x.2)]) (fun x => [⟨.mx [iA r2.pages, sL r2.free, .os 1 0 r2.held.length], 30, 0⟩, ⟨.tr (eL r2.held), 42, 2⟩, ⟨.tr (eL r4), 3, 1⟩]) (fun x => loopM (β := Unit ⊕ Bool) (fun s : Int => m_L_FnPagesInUse_b1 N r2 r4 s) x.1 x.2 = some o23) (fun x => x.1) (N, (-1 : Int)) [some 1, some 0, some 2] ⟨rfl, rfl, ⟨⟨_, rfl, rfl, rfl, .mx ⟨.t _, .t _, .os rfl, trivial⟩⟩, ⟨_, rfl, rfl, rfl, .tr _⟩, ⟨_, rfl, rfl, rfl, .tr _⟩, trivial⟩, ⟨.op rfl, .os rfl, .t _, trivial⟩⟩ h_24 ?_
    rintro ⟨f25_, x14⟩ h_27
    obtain ⟨f25, y26, rfl, hh1, kk1⟩ := loopM_some h_27
    replace hh1 : m_L_FnPagesInUse_b1 N r2 r4 x14 = some y26 := hh1
    unfold m_L_FnPagesInUse_b1 at hh1
    refine PC.seq ?_
    refine PC.seq ?_
    refine PC.region ?_
    refine PL.op rfl (Rd.moveT rfl) ?_
    refine PL.op rfl (Rd.fieldO rfl rfl) ?_
    refine PL.op rfl (Rd.loadO rfl rfl rfl) ?_
    refine PL.op rfl (Rd.leq rfl rfl) ?_
    refine PL.nil ?_
    refine thA_n ?_
    rcases cond_some hh1 with ⟨h_28, hh1⟩ | ⟨h_28, hh1⟩
    rotate_left
    · refine PC.cond_false rfl h_28 ?_
      refine PC.exit ?_
      refine thA_e ?_
      refine thA_e ?_
      refine inA_eq rfl ?_
      refine thA_n ?_
      obtain rfl := some_in hh1
      obtain rfl : (.inl () : Unit ⊕ Bool) = o23 := kk1
      exact ⟨(), hh0, [], ⟨rfl, rfl, trivial, trivial⟩⟩
    refine PC.cond_true rfl h_28 ?_
    refine PC.skip ?_
    refine thA_n ?_
    refine PC.seq ?_
    refine PC.block ?_
    refine PC.seq ?_
    obtain ⟨r29, h_30, hh1⟩ := bind_some hh1
    refine PC.region ?_
    refine PL.op rfl (Rd.loadBox rfl rfl rfl) ?_
    refine PL.op rfl (Rd.moveT rfl) ?_
    refine PL.callM true [] (w_I_HoldPage N r2 x14 (9999 : Int) r29 h_30) rfl Try.call28 rfl ⟨.aggL ⟨.t _, .t _, .own rfl (by first | decide | exact List.not_mem_nil) rfl rfl, trivial⟩, .t _, .t _, trivial⟩ rfl trivial (fun _ => ⟨⟨⟨trivial, trivial, trivial, trivial⟩, trivial, trivial⟩, (flat_cons flat_ow (flat_cons flat_ow flat_nil))⟩) ?_
    refine PL.nm (.tup [.agg [iA r29.1.pages, .os 3 0 r29.1.free.length, .os 4 0 r29.1.held.length], bA r29.2]) [some ⟨.mx [iA r2.pages, sL r2.free, .os 1 0 r2.held.length], 30, 0⟩, some ⟨.tr (eL r2.held), 42, 2⟩, some ⟨.tr (eL r4), 3, 1⟩, some ⟨.tr (eL r29.1.free), 3, 1⟩, some ⟨.tr (eL r29.1.held), 42, 2⟩] rfl rfl ?_
    refine PL.op rfl (Rd.moveU rfl) ?_
    refine PL.op rfl (Rd.extract rfl rfl) ?_
    refine PL.op rfl (Rd.extract rfl rfl) ?_
    refine PL.ef rfl (Ef.alloc rfl rfl) ?_
    refine PL.nm (.op 5 0) [some ⟨.mx [iA r2.pages, sL r2.free, .os 1 0 r2.held.length], 30, 0⟩, some ⟨.tr (eL r2.held), 42, 2⟩, some ⟨.tr (eL r4), 3, 1⟩, some ⟨.tr (eL r29.1.free), 3, 1⟩, some ⟨.tr (eL r29.1.held), 42, 2⟩, some ⟨.mx [iA (0 : Int), .t (.v (.slice none 0 0)), .t (.v (.slice none 0 0))], 30, 0⟩] rfl rfl ?_
    refine PL.store rfl rfl rfl rfl rfl rfl rfl ?_
    refine PL.nO [some ⟨.mx [iA r2.pages, sL r2.free, .os 1 0 r2.held.length], 30, 0⟩, some ⟨.tr (eL r2.held), 42, 2⟩, some ⟨.tr (eL r4), 3, 1⟩, some ⟨.tr (eL r29.1.free), 3, 1⟩, some ⟨.tr (eL r29.1.held), 42, 2⟩, some ⟨.mx [iA r29.1.pages, .os 3 0 r29.1.free.length, .os 4 0 r29.1.held.length], 30, 0⟩] rfl ?_
    refine PL.op rfl (Rd.asnT rfl) ?_
    refine PL.nil ?_
    refine thA_n ?_
    refine PC.seq ?_
    obtain ⟨r31, h_32, hh1⟩ := bind_some hh1
    refine PC.region ?_
    refine PL.op rfl (Rd.moveT rfl) ?_
    refine PL.op rfl (Rd.moveO rfl) ?_
    refine PL.op rfl (Rd.moveT rfl) ?_
    refine PL.callM true [] (w_L_isIn N r4 x14 r31 h_32) rfl Try.call26 rfl ⟨.own rfl (by first | decide | exact List.not_mem_nil) rfl rfl, .t _, trivial⟩ rfl trivial (fun _ => ⟨trivial, flat_nil⟩) ?_
    refine PL.op rfl (Rd.neqB rfl rfl) ?_
    refine PL.nil ?_
    refine thA_n ?_
    rcases cond_some hh1 with ⟨h_33, hh1⟩ | ⟨h_33, hh1⟩
    rotate_left
    · refine PC.cond_true rfl (not_f h_33) ?_
      refine PC.seq ?_
      refine PC.region ?_
      refine PL.op rfl (Rd.asnT rfl) ?_
      refine PL.nil ?_
      refine thA_n ?_
      refine PC.ret ?_
      refine inA_r ?_
      refine thA_r ?_
      refine thA_r ?_
      refine inA_r ?_
      refine thA_r ?_
      obtain rfl := some_in hh1
      obtain rfl : (.inr false : Unit ⊕ Bool) = o23 := kk1
      refine thA_r ?_
      obtain rfl := some_in hh0
      exact FinA.mk (r := bA false) (bl := []) [] (.inl rfl) rfl (rl := [.tmp 2]) (.tmp .nil) rfl rfl rfl (.t _) trivial ⟨rfl, rfl⟩
    refine PC.cond_false rfl (not_t h_33) ?_
    refine PC.skip ?_
    refine inA_n ?_
    refine thA_n ?_
    obtain ⟨n34, h_35, hh1⟩ := bind_some hh1
    refine PC.region ?_
    refine PL.op rfl (Rd.moveT rfl) ?_
    refine PL.op rfl (Rd.addM rfl rfl h_35) ?_
    refine PL.op rfl (Rd.asnT rfl) ?_
    refine PL.nil ?_
    obtain rfl := some_in hh1
    refine thA_n ?_
    exact ⟨(f25, n34), Nat.lt_succ_self _, kk1, [some 0, some 1, some 2], ⟨rfl, rfl, ⟨⟨_, rfl, rfl, rfl, .mx ⟨.t _, .t _, .os rfl, trivial⟩⟩, ⟨_, rfl, rfl, rfl, .tr _⟩, ⟨_, rfl, rfl, rfl, .tr _⟩, trivial⟩, ⟨.op rfl, .os rfl, .t _, trivial⟩⟩⟩
  clear hh0
  rintro ⟨⟩ hh0
  replace hh0 : m_L_FnPagesInUse_k1 N  = some r := hh0
  unfold m_L_FnPagesInUse_k1 at hh0
  refine thA_n ?_
  refine PC.seq ?_
  refine PC.region ?_
  refine PL.op rfl (Rd.asnT rfl) ?_
  refine PL.nil ?_
  refine thA_n ?_
  refine PC.ret ?_
  obtain rfl := some_in hh0
  exact FinA.mk (r := bA true) (bl := []) [] (.inl rfl) rfl (rl := [.tmp 2]) (.tmp .nil) rfl rfl rfl (.t _) trivial ⟨rfl, rfl⟩

end V
end Go.Proofs.Ytambkpacecjheaa
