/- Space: what is released. No condition. -/
import Derived.Test.YtambkpacecjheaaSpEa
import Derived.Test.YtambkpacecjheaaSrt
namespace Go.Proofs.Ytambkpacecjheaa
namespace V
open Enc (enc)
set_option linter.unusedVariables false
set_option linter.unusedSimpArgs false
set_option maxHeartbeats 4000000
set_option maxRecDepth 100000
open Go.RowKit
attribute [local irreducible] thA inA FinA eL

def m_I_ReleasePages_k1 (N : Nat) (p_s : I_Space) (v21 : (List Int)) (v22 : (List I_Hold)) : Option (I_Space) :=
  (m_slices_Sort_int N v21).bind fun xs28 =>
  some (I_Space.mk p_s.pages xs28 v22)
def m_I_ReleasePages_b1 (N : Nat) (p_s : I_Space) (p_oldest : Int) (i6 : Int) (v7 : (List Int)) (v8 : (List I_Hold)) : Option ((Int × (List Int) × (List I_Hold)) ⊕ ((List Int) × (List I_Hold))) :=
  cond (decide (i6 < (p_s.held.length : Int)))
    ((ixI p_s.held i6).bind fun x31 =>
    cond (decide (x31.since < p_oldest))
      ((appM 8 v7 [x31.page]).bind fun xs34 =>
      (chk (i6 + (1 : Int))).bind fun n36 =>
      some (.inl (n36, xs34, v8)))
      ((appM 16 v8 [x31]).bind fun xs38 =>
      (chk (i6 + (1 : Int))).bind fun n40 =>
      some (.inl (n40, v7, xs38))))
    (some (.inr (v7, v8)))
def m_I_ReleasePages (N : Nat) (p_s : I_Space) (p_oldest : Int) : Option (I_Space) :=
  (m_I_ValidSpace N p_s).bind fun r1 =>
  cond r1
    ((m_slices_Clone_int N p_s.free).bind fun r4 =>
    (loopM (β := (List Int) × (List I_Hold)) (fun s : Int × (List Int) × (List I_Hold) => m_I_ReleasePages_b1 N p_s p_oldest s.1 s.2.1 s.2.2) N ((0 : Int), r4, ([] : List I_Hold))).bind fun e =>
    m_I_ReleasePages_k1 N p_s e.1 e.2)
    (some (I_Space.mk (0 : Int) ([] : List Int) ([] : List I_Hold)))
theorem w_I_ReleasePages (N : Nat) (p_s : I_Space) (p_oldest : Int) (r : I_Space) (hh0 : m_I_ReleasePages N p_s p_oldest = some r) : FnX Try.prog 38 [] [.agg [iA p_s.pages, sL p_s.free, sL p_s.held], iA p_oldest] (RE (.agg [iA r.pages, .os 0 0 r.free.length, .os 1 0 r.held.length]) [⟨.tr (eL r.free), 3, 1⟩, ⟨.tr (eL r.held), 42, 2⟩]) := by
  unfold m_I_ReleasePages at hh0
  refine FnX.mk Try.func38 rfl rfl ?_
  intro s hs
  refine PC.seq ?_
  refine PC.region ?_
  refine PL.ef rfl (Ef.box rfl rfl rfl) ?_
  refine PL.nm (.op 0 0) [some ⟨.mx [iA p_s.pages, sL p_s.free, sL p_s.held], 30, 0⟩] rfl rfl ?_
  refine PL.ef rfl (Ef.alloc rfl rfl) ?_
  refine PL.nm (.op 1 0) [some ⟨.mx [iA p_s.pages, sL p_s.free, sL p_s.held], 30, 0⟩, some ⟨.mx [iA (0 : Int), .t (.v (.slice none 0 0)), .t (.v (.slice none 0 0))], 30, 0⟩] rfl rfl ?_
  refine PL.nil ?_
  refine thA_n ?_
  refine PC.seq ?_
  refine PC.seq ?_
  obtain ⟨r1, h_2, hh0⟩ := bind_some hh0
  refine PC.region ?_
  refine PL.op rfl (Rd.loadBox rfl rfl rfl) ?_
  refine PL.callM false [] (w_I_ValidSpace N p_s r1 h_2) rfl Try.call17 rfl ⟨.aggL ⟨.t _, .t _, .t _, trivial⟩, trivial⟩ rfl trivial (fun h => by cases h) ?_
  refine PL.op rfl (Rd.unnot rfl) ?_
  refine PL.nil ?_
  refine thA_n ?_
  rcases cond_some hh0 with ⟨h_3, hh0⟩ | ⟨h_3, hh0⟩
  rotate_left
  · refine PC.cond_true rfl (not_f h_3) ?_
    refine PC.seq ?_
    refine PC.region ?_
    refine PL.op rfl (Rd.build rfl rfl rfl rfl) ?_
    refine PL.store rfl rfl rfl rfl rfl rfl rfl ?_
    refine PL.nil ?_
    refine thA_n ?_
    refine PC.ret ?_
    refine thA_r ?_
    obtain rfl := some_in hh0
    exact FinA.mk (r := .agg [iA (0 : Int), .os 0 0 0, .os 1 0 0]) (bl := [⟨.tr (eL ([] : List Int)), 3, 1⟩, ⟨.tr (eL ([] : List I_Hold)), 42, 2⟩]) [none, none] (.inl rfl) rfl (rl := [.cell 4 30]) (.cellN rfl rfl rfl rfl .nil) rfl rfl rfl (.aggL ⟨.t _, .osn rfl, .osn rfl, trivial⟩) ⟨ow_nil _, ow_nil _, trivial⟩ ⟨rfl, rfl⟩
  refine PC.cond_false rfl (not_t h_3) ?_
  refine PC.skip ?_
  refine thA_n ?_
  obtain ⟨r4, h_5, hh0⟩ := bind_some hh0
  refine PC.cut hs (fun _ : Unit => [(1, iA p_oldest), (2, .op 0 0), (4, .op 1 0), (5, .op 2 0)]) (fun _ => [⟨.mx [iA p_s.pages, sL p_s.free, sL p_s.held], 30, 0⟩, ⟨.mx [iA (0 : Int), .t (.v (.slice none 0 0)), .t (.v (.slice none 0 0))], 30, 0⟩, ⟨.mx [iA p_s.pages, .os 3 0 r4.length, .t (.v (.slice none 0 0))], 30, 0⟩, ⟨.tr (eL r4), 3, 1⟩]) (fun _ => True) ?_ ?_
  · refine PC.any (id := 3) 7 (.seg [0, 1, 2, 3] (.fork (.seg [4, 5, 6] .done) (.seg [6, 4, 5] .done))) [] rfl (by kernel_rfl) rfl ?_
    refine PT.seg ?_
    refine PR.op rfl (Rd.fieldO rfl rfl) ?_
    refine PR.op rfl (Rd.loadO rfl rfl rfl) ?_
    refine PR.op rfl (Rd.fieldO rfl rfl) ?_
    refine PR.op rfl (Rd.loadO rfl rfl rfl) ?_
    refine PR.nil ?_
    refine PT.fork ?_ ?_
    · refine PT.seg ?_
      refine PR.callM false [] (w_slices_Clone_int N p_s.free r4 h_5) rfl Try.call58 rfl ⟨.t _, trivial⟩ rfl trivial (fun h => by cases h) rfl ?_
      refine PR.nm (.os 2 0 r4.length) [some ⟨.mx [iA p_s.pages, sL p_s.free, sL p_s.held], 30, 0⟩, some ⟨.mx [iA (0 : Int), .t (.v (.slice none 0 0)), .t (.v (.slice none 0 0))], 30, 0⟩, some ⟨.tr (eL r4), 3, 1⟩] rfl rfl ?_
      refine PR.op rfl (Rd.build rfl rfl rfl rfl) ?_
      refine PR.efX rfl rfl (Ef.alloc rfl rfl) ?_
      refine PR.nm (.op 3 0) [some ⟨.mx [iA p_s.pages, sL p_s.free, sL p_s.held], 30, 0⟩, some ⟨.mx [iA (0 : Int), .t (.v (.slice none 0 0)), .t (.v (.slice none 0 0))], 30, 0⟩, some ⟨.tr (eL r4), 3, 1⟩, some ⟨.mx [iA (0 : Int), .t (.v (.slice none 0 0)), .t (.v (.slice none 0 0))], 30, 0⟩] rfl rfl ?_
      refine PR.nil ?_
      refine PT.done ?_
      refine PL.store rfl rfl rfl rfl rfl rfl rfl ?_
      refine PL.nO [some ⟨.mx [iA p_s.pages, sL p_s.free, sL p_s.held], 30, 0⟩, some ⟨.mx [iA (0 : Int), .t (.v (.slice none 0 0)), .t (.v (.slice none 0 0))], 30, 0⟩, some ⟨.tr (eL r4), 3, 1⟩, some ⟨.mx [iA p_s.pages, .os 2 0 r4.length, .t (.v (.slice none 0 0))], 30, 0⟩] rfl ?_
      refine PL.nil ?_
      refine thA_n ?_
      exact ⟨(), trivial, [some 0, some 1, some 3, some 2], ⟨rfl, rfl, ⟨⟨_, rfl, rfl, rfl, .mx ⟨.t _, .t _, .t _, trivial⟩⟩, ⟨_, rfl, rfl, rfl, .mx ⟨.t _, .t _, .t _, trivial⟩⟩, ⟨_, rfl, rfl, rfl, .mx ⟨.t _, .os rfl, .t _, trivial⟩⟩, ⟨_, rfl, rfl, rfl, .tr _⟩, trivial⟩, ⟨.t _, .op rfl, .op rfl, .op rfl, trivial⟩⟩⟩
    refine PT.seg ?_
    refine PR.efX rfl rfl (Ef.alloc rfl rfl) ?_
    refine PR.nm (.op 2 0) [some ⟨.mx [iA p_s.pages, sL p_s.free, sL p_s.held], 30, 0⟩, some ⟨.mx [iA (0 : Int), .t (.v (.slice none 0 0)), .t (.v (.slice none 0 0))], 30, 0⟩, some ⟨.mx [iA (0 : Int), .t (.v (.slice none 0 0)), .t (.v (.slice none 0 0))], 30, 0⟩] rfl rfl ?_
    refine PR.callM false [] (w_slices_Clone_int N p_s.free r4 h_5) rfl Try.call58 rfl ⟨.t _, trivial⟩ rfl trivial (fun h => by cases h) rfl ?_
    refine PR.nm (.os 3 0 r4.length) [some ⟨.mx [iA p_s.pages, sL p_s.free, sL p_s.held], 30, 0⟩, some ⟨.mx [iA (0 : Int), .t (.v (.slice none 0 0)), .t (.v (.slice none 0 0))], 30, 0⟩, some ⟨.mx [iA (0 : Int), .t (.v (.slice none 0 0)), .t (.v (.slice none 0 0))], 30, 0⟩, some ⟨.tr (eL r4), 3, 1⟩] rfl rfl ?_
    refine PR.op rfl (Rd.build rfl rfl rfl rfl) ?_
    refine PR.nil ?_
    refine PT.done ?_
    refine PL.store rfl rfl rfl rfl rfl rfl rfl ?_
    refine PL.nO [some ⟨.mx [iA p_s.pages, sL p_s.free, sL p_s.held], 30, 0⟩, some ⟨.mx [iA (0 : Int), .t (.v (.slice none 0 0)), .t (.v (.slice none 0 0))], 30, 0⟩, some ⟨.mx [iA p_s.pages, .os 3 0 r4.length, .t (.v (.slice none 0 0))], 30, 0⟩, some ⟨.tr (eL r4), 3, 1⟩] rfl ?_
    refine PL.nil ?_
    refine thA_n ?_
    exact ⟨(), trivial, [some 0, some 1, some 2, some 3], ⟨rfl, rfl, ⟨⟨_, rfl, rfl, rfl, .mx ⟨.t _, .t _, .t _, trivial⟩⟩, ⟨_, rfl, rfl, rfl, .mx ⟨.t _, .t _, .t _, trivial⟩⟩, ⟨_, rfl, rfl, rfl, .mx ⟨.t _, .os rfl, .t _, trivial⟩⟩, ⟨_, rfl, rfl, rfl, .tr _⟩, trivial⟩, ⟨.t _, .op rfl, .op rfl, .op rfl, trivial⟩⟩⟩
  rintro ⟨⟩ -
  refine PC.seq ?_
  refine PC.seq ?_
  refine PC.region ?_
  refine PL.op rfl (Rd.fieldO rfl rfl) ?_
  refine PL.op rfl (Rd.loadO rfl rfl rfl) ?_
  refine PL.op rfl (Rd.lenT rfl) ?_
  refine PL.op rfl (Rd.moveT rfl) ?_
  refine PL.nil ?_
  refine thA_n ?_
  obtain ⟨o23, h_24, hh0⟩ := bind_some hh0
  refine PC.cutE hs (fun x : (List Int) × (List I_Hold) => [(4, .op 0 0), (5, .op 1 0)]) (fun x => [⟨.mx [iA (0 : Int), .t (.v (.slice none 0 0)), .t (.v (.slice none 0 0))], 30, 0⟩, ⟨.mx [iA p_s.pages, .os 2 0 x.1.length, .os 3 0 x.2.length], 30, 0⟩, ⟨.tr (eL x.1), 3, 1⟩, ⟨.tr (eL x.2), 42, 2⟩]) (fun x => m_I_ReleasePages_k1 N p_s x.1 x.2 = some r) ?_ ?_
  · refine PC.block ?_
    refine PC.loop hs (fun x : Nat × (Int × (List Int) × (List I_Hold)) => [(1, iA p_oldest), (4, .op 0 0), (5, .op 1 0), (19, sL p_s.held), (20, iA (p_s.held.length : Int)), (21, iA x.2.1)]) (fun x => [⟨.mx [iA (0 : Int), .t (.v (.slice none 0 0)), .t (.v (.slice none 0 0))], 30, 0⟩, ⟨.mx [iA p_s.pages, .os 2 0 x.2.2.1.length, .os 3 0 x.2.2.2.length], 30, 0⟩, ⟨.tr (eL x.2.2.1), 3, 1⟩, ⟨.tr (eL x.2.2.2), 42, 2⟩]) (fun x => loopM (β := (List Int) × (List I_Hold)) (fun s : Int × (List Int) × (List I_Hold) => m_I_ReleasePages_b1 N p_s p_oldest s.1 s.2.1 s.2.2) x.1 x.2 = some o23) (fun x => x.1) (N, ((0 : Int), r4, ([] : List I_Hold))) [some 1, some 2, some 3, none] ⟨rfl, rfl, ⟨⟨_, rfl, rfl, rfl, .mx ⟨.t _, .t _, .t _, trivial⟩⟩, ⟨_, rfl, rfl, rfl, .mx ⟨.t _, .os rfl, .osn rfl, trivial⟩⟩, ⟨_, rfl, rfl, rfl, .tr _⟩, ow_nil _, trivial⟩, ⟨.t _, .op rfl, .op rfl, .t _, .t _, .t _, trivial⟩⟩ h_24 ?_
    rintro ⟨f25_, i6, v7, v8⟩ h_27
    obtain ⟨f25, y26, rfl, hh1, kk1⟩ := loopM_some h_27
    replace hh1 : m_I_ReleasePages_b1 N p_s p_oldest i6 v7 v8 = some y26 := hh1
    unfold m_I_ReleasePages_b1 at hh1
    refine PC.seq ?_
    refine PC.region ?_
    refine PL.op rfl (Rd.lss rfl rfl) ?_
    refine PL.nil ?_
    refine thA_n ?_
    refine PC.seq ?_
    rcases cond_some hh1 with ⟨h_30, hh1⟩ | ⟨h_30, hh1⟩
    rotate_left
    · refine PC.cond_false rfl h_30 ?_
      refine PC.exit ?_
      refine thA_e ?_
      refine thA_e ?_
      refine inA_eq rfl ?_
      refine thA_n ?_
      obtain rfl := some_in hh1
      obtain rfl : ((v7, v8) : (List Int) × (List I_Hold)) = o23 := kk1
      exact ⟨(v7, v8), hh0, [some 0, some 1, some 2, some 3], ⟨rfl, rfl, ⟨⟨_, rfl, rfl, rfl, .mx ⟨.t _, .t _, .t _, trivial⟩⟩, ⟨_, rfl, rfl, rfl, .mx ⟨.t _, .os rfl, .os rfl, trivial⟩⟩, ⟨_, rfl, rfl, rfl, .tr _⟩, ⟨_, rfl, rfl, rfl, .tr _⟩, trivial⟩, ⟨.op rfl, .op rfl, trivial⟩⟩⟩
    refine PC.cond_true rfl h_30 ?_
    refine PC.skip ?_
    refine thA_n ?_
    refine PC.seq ?_
    refine PC.block ?_
    refine PC.seq ?_
    obtain ⟨x31, h_32, hh1⟩ := bind_some hh1
    refine PC.region ?_
    refine PL.op rfl (Rd.ixM rfl rfl h_32) ?_
    refine PL.op rfl (Rd.elMR rfl h_32 rfl rfl) ?_
    refine PL.ef rfl (Ef.alloc rfl rfl) ?_
    refine PL.nm (.op 4 0) [some ⟨.mx [iA (0 : Int), .t (.v (.slice none 0 0)), .t (.v (.slice none 0 0))], 30, 0⟩, some ⟨.mx [iA p_s.pages, .os 2 0 v7.length, .os 3 0 v8.length], 30, 0⟩, some ⟨.tr (eL v7), 3, 1⟩, some ⟨.tr (eL v8), 42, 2⟩, some ⟨.mx [iA (0 : Int), iA (0 : Int)], 42, 0⟩] rfl rfl ?_
    refine PL.store rfl rfl rfl rfl rfl rfl rfl ?_
    refine PL.nO [some ⟨.mx [iA (0 : Int), .t (.v (.slice none 0 0)), .t (.v (.slice none 0 0))], 30, 0⟩, some ⟨.mx [iA p_s.pages, .os 2 0 v7.length, .os 3 0 v8.length], 30, 0⟩, some ⟨.tr (eL v7), 3, 1⟩, some ⟨.tr (eL v8), 42, 2⟩, some ⟨.mx [iA x31.page, iA x31.since], 42, 0⟩] rfl ?_
    refine PL.nil ?_
    refine thA_n ?_
    refine PC.seq ?_
    refine PC.region ?_
    refine PL.op rfl (Rd.fieldO rfl rfl) ?_
    refine PL.op rfl (Rd.loadO rfl rfl rfl) ?_
    refine PL.op rfl (Rd.moveT rfl) ?_
    refine PL.op rfl (Rd.lss rfl rfl) ?_
    refine PL.nil ?_
    refine thA_n ?_
    rcases cond_some hh1 with ⟨h_33, hh1⟩ | ⟨h_33, hh1⟩
    · refine PC.cond_true rfl h_33 ?_
      obtain ⟨xs34, h_35, hh1⟩ := bind_some hh1
      refine PC.region ?_
      refine PL.op rfl (Rd.fieldO rfl rfl) ?_
      refine PL.op rfl (Rd.loadO rfl rfl rfl) ?_
      refine PL.op rfl (Rd.fieldO rfl rfl) ?_
      refine PL.op rfl (Rd.loadO rfl rfl rfl) ?_
      refine PL.ef rfl (Ef.litM (α := Int) [x31.page] [_] rfl rfl (by decide) rfl rfl rfl rfl) ?_
      refine PL.nm (.os 5 0 1) [some ⟨.mx [iA (0 : Int), .t (.v (.slice none 0 0)), .t (.v (.slice none 0 0))], 30, 0⟩, some ⟨.mx [iA p_s.pages, .os 2 0 v7.length, .os 3 0 v8.length], 30, 0⟩, some ⟨.tr (eL v7), 3, 1⟩, some ⟨.tr (eL v8), 42, 2⟩, some ⟨.mx [iA x31.page, iA x31.since], 42, 0⟩, some ⟨.tr (eL [x31.page]), 3, 1⟩] rfl rfl ?_
      refine PL.apM hs rfl rfl rfl rfl (SrcA.ownE rfl rfl rfl) rfl rfl rfl rfl h_35 ?_
      refine PL.nm (.os 6 0 xs34.length) [some ⟨.mx [iA (0 : Int), .t (.v (.slice none 0 0)), .t (.v (.slice none 0 0))], 30, 0⟩, some ⟨.mx [iA p_s.pages, .os 2 0 v7.length, .os 3 0 v8.length], 30, 0⟩, none, some ⟨.tr (eL v8), 42, 2⟩, some ⟨.mx [iA x31.page, iA x31.since], 42, 0⟩, some ⟨.tr (eL [x31.page]), 3, 1⟩, some ⟨.tr (eL xs34), 3, 1⟩] rfl rfl ?_
      refine PL.op rfl (Rd.fieldO rfl rfl) ?_
      refine PL.store rfl rfl rfl rfl rfl rfl rfl ?_
      refine PL.nO [some ⟨.mx [iA (0 : Int), .t (.v (.slice none 0 0)), .t (.v (.slice none 0 0))], 30, 0⟩, some ⟨.mx [iA p_s.pages, .os 6 0 xs34.length, .os 3 0 v8.length], 30, 0⟩, none, some ⟨.tr (eL v8), 42, 2⟩, some ⟨.mx [iA x31.page, iA x31.since], 42, 0⟩, some ⟨.tr (eL [x31.page]), 3, 1⟩, some ⟨.tr (eL xs34), 3, 1⟩] rfl ?_
      refine PL.nil ?_
      refine inA_n ?_
      refine thA_n ?_
      obtain ⟨n36, h_37, hh1⟩ := bind_some hh1
      refine PC.region ?_
      refine PL.op rfl (Rd.addM rfl rfl h_37) ?_
      refine PL.op rfl (Rd.moveT rfl) ?_
      refine PL.nil ?_
      obtain rfl := some_in hh1
      refine thA_n ?_
      exact ⟨(f25, (n36, xs34, v8)), Nat.lt_succ_self _, kk1, [some 0, some 1, some 6, some 3], ⟨rfl, rfl, ⟨⟨_, rfl, rfl, rfl, .mx ⟨.t _, .t _, .t _, trivial⟩⟩, ⟨_, rfl, rfl, rfl, .mx ⟨.t _, .os rfl, .os rfl, trivial⟩⟩, ⟨_, rfl, rfl, rfl, .tr _⟩, ⟨_, rfl, rfl, rfl, .tr _⟩, trivial⟩, ⟨.t _, .op rfl, .op rfl, .t _, .t _, .t _, trivial⟩⟩⟩
    refine PC.cond_false rfl h_33 ?_
    obtain ⟨xs38, h_39, hh1⟩ := bind_some hh1
    refine PC.region ?_
    refine PL.op rfl (Rd.fieldO rfl rfl) ?_
    refine PL.op rfl (Rd.loadO rfl rfl rfl) ?_
    refine PL.op rfl (Rd.loadBox rfl rfl rfl) ?_
    refine PL.ef rfl (Ef.litM (α := I_Hold) [x31] [_] rfl rfl (by decide) rfl rfl rfl rfl) ?_
    refine PL.nm (.os 5 0 1) [some ⟨.mx [iA (0 : Int), .t (.v (.slice none 0 0)), .t (.v (.slice none 0 0))], 30, 0⟩, some ⟨.mx [iA p_s.pages, .os 2 0 v7.length, .os 3 0 v8.length], 30, 0⟩, some ⟨.tr (eL v7), 3, 1⟩, some ⟨.tr (eL v8), 42, 2⟩, some ⟨.mx [iA x31.page, iA x31.since], 42, 0⟩, some ⟨.tr (eL [x31]), 42, 2⟩] rfl rfl ?_
    refine PL.apM hs rfl rfl rfl rfl (SrcA.ownE rfl rfl rfl) rfl rfl rfl rfl h_39 ?_
    refine PL.nm (.os 6 0 xs38.length) [some ⟨.mx [iA (0 : Int), .t (.v (.slice none 0 0)), .t (.v (.slice none 0 0))], 30, 0⟩, some ⟨.mx [iA p_s.pages, .os 2 0 v7.length, .os 3 0 v8.length], 30, 0⟩, some ⟨.tr (eL v7), 3, 1⟩, none, some ⟨.mx [iA x31.page, iA x31.since], 42, 0⟩, some ⟨.tr (eL [x31]), 42, 2⟩, some ⟨.tr (eL xs38), 42, 2⟩] rfl rfl ?_
    refine PL.op rfl (Rd.fieldO rfl rfl) ?_
    refine PL.store rfl rfl rfl rfl rfl rfl rfl ?_
    refine PL.nO [some ⟨.mx [iA (0 : Int), .t (.v (.slice none 0 0)), .t (.v (.slice none 0 0))], 30, 0⟩, some ⟨.mx [iA p_s.pages, .os 2 0 v7.length, .os 6 0 xs38.length], 30, 0⟩, some ⟨.tr (eL v7), 3, 1⟩, none, some ⟨.mx [iA x31.page, iA x31.since], 42, 0⟩, some ⟨.tr (eL [x31]), 42, 2⟩, some ⟨.tr (eL xs38), 42, 2⟩] rfl ?_
    refine PL.nil ?_
    refine inA_n ?_
    refine thA_n ?_
    obtain ⟨n40, h_41, hh1⟩ := bind_some hh1
    refine PC.region ?_
    refine PL.op rfl (Rd.addM rfl rfl h_41) ?_
    refine PL.op rfl (Rd.moveT rfl) ?_
    refine PL.nil ?_
    obtain rfl := some_in hh1
    refine thA_n ?_
    exact ⟨(f25, (n40, v7, xs38)), Nat.lt_succ_self _, kk1, [some 0, some 1, some 2, some 6], ⟨rfl, rfl, ⟨⟨_, rfl, rfl, rfl, .mx ⟨.t _, .t _, .t _, trivial⟩⟩, ⟨_, rfl, rfl, rfl, .mx ⟨.t _, .os rfl, .os rfl, trivial⟩⟩, ⟨_, rfl, rfl, rfl, .tr _⟩, ⟨_, rfl, rfl, rfl, .tr _⟩, trivial⟩, ⟨.t _, .op rfl, .op rfl, .t _, .t _, .t _, trivial⟩⟩⟩
  clear hh0
  rintro ⟨v21, v22⟩ hh0
  replace hh0 : m_I_ReleasePages_k1 N p_s v21 v22 = some r := hh0
  unfold m_I_ReleasePages_k1 at hh0
  refine thA_n ?_
  refine PC.seq ?_
  obtain ⟨xs28, h_29, hh0⟩ := bind_some hh0
  refine PC.region ?_
  refine PL.op rfl (Rd.fieldO rfl rfl) ?_
  refine PL.op rfl (Rd.loadO rfl rfl rfl) ?_
  refine PL.callM false [2] (w_slices_Sort_int N v21 xs28 h_29) rfl Try.call59 rfl ⟨.os rfl, trivial⟩ rfl ⟨⟨_, rfl, rfl, rfl, .tr _⟩, trivial⟩ (fun h => by cases h) ?_
  refine PL.nm (.tup []) [some ⟨.mx [iA (0 : Int), .t (.v (.slice none 0 0)), .t (.v (.slice none 0 0))], 30, 0⟩, some ⟨.mx [iA p_s.pages, .os 2 0 v21.length, .os 3 0 v22.length], 30, 0⟩, some ⟨.tr (eL xs28), 3, 1⟩, some ⟨.tr (eL v22), 42, 2⟩] rfl rfl ?_
  refine PL.nil ?_
  refine thA_n ?_
  refine PC.seq ?_
  refine PC.region ?_
  refine PL.op rfl (Rd.loadBox rfl rfl rfl) ?_
  refine PL.store rfl rfl rfl rfl rfl rfl rfl ?_
  refine PL.nO [some ⟨.mx [iA p_s.pages, .os 2 0 v21.length, .os 3 0 v22.length], 30, 0⟩, some ⟨.mx [iA p_s.pages, .os 2 0 v21.length, .os 3 0 v22.length], 30, 0⟩, some ⟨.tr (eL xs28), 3, 1⟩, some ⟨.tr (eL v22), 42, 2⟩] rfl ?_
  refine PL.nil ?_
  refine thA_n ?_
  refine PC.ret ?_
  obtain rfl := some_in hh0
  exact FinA.mk (r := .agg [iA p_s.pages, .os 0 0 xs28.length, .os 1 0 v22.length]) (bl := [⟨.tr (eL xs28), 3, 1⟩, ⟨.tr (eL v22), 42, 2⟩]) [some 2, some 3] (.inl rfl) rfl (rl := [.cell 4 30]) (.cellN rfl rfl rfl rfl .nil) rfl rfl rfl (.aggL ⟨.t _, .osE rfl (by simp only [List.length_set, len_slices_Sort_int N _ _ h_29]), .os rfl, trivial⟩) ⟨⟨_, rfl, rfl, rfl, .tr _⟩, ⟨_, rfl, rfl, rfl, .tr _⟩, trivial⟩ ⟨rfl, rfl⟩

end V
end Go.Proofs.Ytambkpacecjheaa
