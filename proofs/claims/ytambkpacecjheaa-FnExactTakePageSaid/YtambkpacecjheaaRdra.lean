/- The reader of drawn numbers. No condition. -/
import Derived.Test.YtambkpacecjheaaFnEq
import Derived.Test.YtambkpacecjheaaGenB
namespace Go.Proofs.Ytambkpacecjheaa
namespace V
open Enc (enc)
set_option linter.unusedVariables false
set_option linter.unusedSimpArgs false
set_option maxHeartbeats 4000000
set_option maxRecDepth 100000
open Go.RowKit
attribute [local irreducible] thA inA FinA eL

structure S_reader where
  b : List UInt8
  p : Int
deriving DecidableEq
instance : Enc S_reader := ⟨fun x => [.sl x.b.length (eL x.b), .v (.int .i64 x.p)], 2, fun _ => rfl⟩
def m_S_newReader (N : Nat) (p_code : (List UInt8)) : Option (S_reader) :=
  cond (decide ((2000 : Int) < (p_code.length : Int)))
    ((V.subM p_code (0 : Int) (2000 : Int)).bind fun xs2 =>
    some (S_reader.mk xs2 (0 : Int)))
    (some (S_reader.mk p_code (0 : Int)))
theorem w_S_newReader (N : Nat) (p_code : (List UInt8)) (r : S_reader) (hh0 : m_S_newReader N p_code = some r) : FnX Try.prog 51 [] [sL p_code] (RE (.op 0 0) [⟨.mx [sL r.b, iA r.p], 79, 0⟩]) := by
  unfold m_S_newReader at hh0
  refine FnX.mk Try.func51 rfl rfl ?_
  intro s hs
  refine PC.seq ?_
  refine PC.region ?_
  refine PL.op rfl (Rd.asnT rfl) ?_
  refine PL.nil ?_
  refine thA_n ?_
  refine PC.seq ?_
  refine PC.seq ?_
  refine PC.region ?_
  refine PL.op rfl (Rd.moveT rfl) ?_
  refine PL.op rfl (Rd.lenT rfl) ?_
  refine PL.op rfl (Rd.gtr rfl rfl) ?_
  refine PL.nil ?_
  refine thA_n ?_
  rcases cond_some hh0 with ⟨h_1, hh0⟩ | ⟨h_1, hh0⟩
  rotate_left
  · refine PC.cond_false rfl h_1 ?_
    refine PC.skip ?_
    refine thA_n ?_
    refine PC.seq ?_
    refine PC.region ?_
    refine PL.op rfl (Rd.moveT rfl) ?_
    refine PL.op rfl (Rd.build rfl rfl rfl rfl) ?_
    refine PL.ef rfl (Ef.box rfl rfl rfl) ?_
    refine PL.nm (.op 0 0) [some ⟨.mx [sL p_code, iA (0 : Int)], 79, 0⟩] rfl rfl ?_
    refine PL.op rfl (Rd.asnP rfl) ?_
    refine PL.nil ?_
    refine thA_n ?_
    refine PC.ret ?_
    obtain rfl := some_in hh0
    exact FinA.mk (r := .op 0 0) (bl := [⟨.mx [sL p_code, iA (0 : Int)], 79, 0⟩]) [some 0] (.inl rfl) rfl (rl := [.tmp 2]) (.tmp .nil) rfl rfl rfl (.op rfl) ⟨⟨_, rfl, rfl, rfl, .mx ⟨.t _, .t _, trivial⟩⟩, trivial⟩ ⟨rfl, rfl⟩
  refine PC.cond_true rfl h_1 ?_
  obtain ⟨xs2, h_3, hh0⟩ := bind_some hh0
  refine PC.region ?_
  refine PL.op rfl (Rd.moveT rfl) ?_
  refine PL.op rfl (Rd.subTMH rfl rfl h_3) ?_
  refine PL.op rfl (Rd.asnT rfl) ?_
  refine PL.nil ?_
  refine thA_n ?_
  refine PC.seq ?_
  refine PC.region ?_
  refine PL.op rfl (Rd.moveT rfl) ?_
  refine PL.op rfl (Rd.build rfl rfl rfl rfl) ?_
  refine PL.ef rfl (Ef.box rfl rfl rfl) ?_
  refine PL.nm (.op 0 0) [some ⟨.mx [sL xs2, iA (0 : Int)], 79, 0⟩] rfl rfl ?_
  refine PL.op rfl (Rd.asnP rfl) ?_
  refine PL.nil ?_
  refine thA_n ?_
  refine PC.ret ?_
  obtain rfl := some_in hh0
  exact FinA.mk (r := .op 0 0) (bl := [⟨.mx [sL xs2, iA (0 : Int)], 79, 0⟩]) [some 0] (.inl rfl) rfl (rl := [.tmp 2]) (.tmp .nil) rfl rfl rfl (.op rfl) ⟨⟨_, rfl, rfl, rfl, .mx ⟨.t _, .t _, trivial⟩⟩, trivial⟩ ⟨rfl, rfl⟩

def m_S_reader_pick (N : Nat) (p_r : S_reader) (p_n : Int) : Option (Int × S_reader) :=
  (chk (p_r.p + (1 : Int))).bind fun n1 =>
  cond (decide (p_n < (1 : Int)))
    (some ((0 : Int), (S_reader.mk p_r.b n1)))
    (cond (decide ((p_r.b.length : Int) = (0 : Int)))
      (some ((0 : Int), (S_reader.mk p_r.b n1)))
      ((chk (n1 - (1 : Int))).bind fun n5 =>
      cond (decide (n5 < (p_r.b.length : Int)))
        ((ixI p_r.b n5).bind fun x8 =>
        (remM (x8.toNat : Int) p_n).bind fun n10 =>
        some (n10, (S_reader.mk p_r.b n1)))
        ((remM n5 (p_r.b.length : Int)).bind fun n12 =>
        (ixI p_r.b n12).bind fun x14 =>
        (chk ((x14.toNat : Int) * (131 : Int))).bind fun n16 =>
        (chk (n5 * (7 : Int))).bind fun n18 =>
        (chk (n18 + (3 : Int))).bind fun n20 =>
        (remM n20 (p_r.b.length : Int)).bind fun n22 =>
        (ixI p_r.b n22).bind fun x24 =>
        (chk ((x24.toNat : Int) * (1117 : Int))).bind fun n26 =>
        (chk (n16 + n26)).bind fun n28 =>
        (chk (n5 * (29 : Int))).bind fun n30 =>
        (chk (n28 + n30)).bind fun n32 =>
        (quoM n5 (p_r.b.length : Int)).bind fun n34 =>
        (chk (n34 * (53 : Int))).bind fun n36 =>
        (chk (n32 + n36)).bind fun n38 =>
        (quoM n38 (64 : Int)).bind fun n40 =>
        (xorM n38 n40).bind fun n42 =>
        (remM n42 p_n).bind fun n44 =>
        some (n44, (S_reader.mk p_r.b n1)))))
theorem w_S_reader_pick (N : Nat) (p_r : S_reader) (p_n : Int) (r : Int × S_reader) (hh0 : m_S_reader_pick N p_r p_n = some r) : FnX Try.prog 65 [⟨.mx [sL p_r.b, iA p_r.p], 79, 0⟩] [.op 0 0, iA p_n] (RE (iA r.1) [⟨.mx [sL r.2.b, iA r.2.p], 79, 0⟩]) := by
  unfold m_S_reader_pick at hh0
  refine FnX.mk Try.func65 rfl rfl ?_
  intro s hs
  refine PC.seq ?_
  refine PC.region ?_
  refine PL.op rfl (Rd.asnT rfl) ?_
  refine PL.nil ?_
  refine thA_n ?_
  refine PC.seq ?_
  obtain ⟨n1, h_2, hh0⟩ := bind_some hh0
  refine PC.region ?_
  refine PL.op rfl (Rd.moveP rfl) ?_
  refine PL.op rfl (Rd.moveP rfl) ?_
  refine PL.op rfl (Rd.nilCheckO rfl rfl) ?_
  refine PL.op rfl (Rd.fieldO rfl rfl) ?_
  refine PL.op rfl (Rd.loadO rfl rfl rfl) ?_
  refine PL.op rfl (Rd.addM rfl rfl h_2) ?_
  refine PL.op rfl (Rd.nilCheckO rfl rfl) ?_
  refine PL.op rfl (Rd.fieldO rfl rfl) ?_
  refine PL.store rfl rfl rfl rfl rfl rfl rfl ?_
  refine PL.nO [some ⟨.mx [sL p_r.b, iA n1], 79, 0⟩] rfl ?_
  refine PL.nil ?_
  refine thA_n ?_
  refine PC.seq ?_
  refine PC.seq ?_
  rcases cond_some hh0 with ⟨h_3, hh0⟩ | ⟨h_3, hh0⟩
  · refine PC.region ?_
    refine PL.op rfl (Rd.moveT rfl) ?_
    refine PL.op rfl (Rd.lss rfl rfl) ?_
    refine PL.op rfl (Rd.moveT rfl) ?_
    refine PL.guard_off rfl rfl h_3 ?_
    refine PL.guard_off rfl rfl h_3 ?_
    refine PL.guard_off rfl rfl h_3 ?_
    refine PL.guard_off rfl rfl h_3 ?_
    refine PL.guard_off rfl rfl h_3 ?_
    refine PL.guard_off rfl rfl h_3 ?_
    refine PL.op rfl (Rd.pick_t rfl h_3) ?_
    refine PL.nil ?_
    refine thA_n ?_
    refine PC.cond_true rfl rfl ?_
    refine PC.seq ?_
    refine PC.region ?_
    refine PL.op rfl (Rd.asnT rfl) ?_
    refine PL.nil ?_
    refine thA_n ?_
    refine PC.ret ?_
    refine thA_r ?_
    obtain rfl := some_in hh0
    exact FinA.mk (r := iA (((0 : Int), (S_reader.mk p_r.b n1)).1)) (bl := [⟨.mx [sL (((0 : Int), (S_reader.mk p_r.b n1)).2.b), iA (((0 : Int), (S_reader.mk p_r.b n1)).2.p)], 79, 0⟩]) [some 0] (.inl rfl) rfl (rl := [.tmp 4]) (.tmp .nil) rfl rfl rfl (.t _) ⟨⟨_, rfl, rfl, rfl, .mx ⟨.t _, .t _, trivial⟩⟩, trivial⟩ ⟨rfl, rfl⟩
  refine PC.region ?_
  refine PL.op rfl (Rd.moveT rfl) ?_
  refine PL.op rfl (Rd.lss rfl rfl) ?_
  refine PL.op rfl (Rd.moveT rfl) ?_
  refine PL.guard_on rfl h_3 ?_
  refine PL.op rfl (Rd.moveP rfl) ?_
  refine PL.guard_on rfl h_3 ?_
  refine PL.op rfl (Rd.nilCheckO rfl rfl) ?_
  refine PL.guard_on rfl h_3 ?_
  refine PL.op rfl (Rd.fieldO rfl rfl) ?_
  refine PL.guard_on rfl h_3 ?_
  refine PL.op rfl (Rd.loadO rfl rfl rfl) ?_
  refine PL.guard_on rfl h_3 ?_
  refine PL.op rfl (Rd.lenT rfl) ?_
  refine PL.guard_on rfl h_3 ?_
  refine PL.op rfl (Rd.eql rfl rfl) ?_
  refine PL.op rfl (Rd.pick_f rfl h_3) ?_
  refine PL.nil ?_
  refine thA_n ?_
  rcases cond_some hh0 with ⟨h_4, hh0⟩ | ⟨h_4, hh0⟩
  · refine PC.cond_true rfl h_4 ?_
    refine PC.seq ?_
    refine PC.region ?_
    refine PL.op rfl (Rd.asnT rfl) ?_
    refine PL.nil ?_
    refine thA_n ?_
    refine PC.ret ?_
    refine thA_r ?_
    obtain rfl := some_in hh0
    exact FinA.mk (r := iA (((0 : Int), (S_reader.mk p_r.b n1)).1)) (bl := [⟨.mx [sL (((0 : Int), (S_reader.mk p_r.b n1)).2.b), iA (((0 : Int), (S_reader.mk p_r.b n1)).2.p)], 79, 0⟩]) [some 0] (.inl rfl) rfl (rl := [.tmp 4]) (.tmp .nil) rfl rfl rfl (.t _) ⟨⟨_, rfl, rfl, rfl, .mx ⟨.t _, .t _, trivial⟩⟩, trivial⟩ ⟨rfl, rfl⟩
  refine PC.cond_false rfl h_4 ?_
  refine PC.skip ?_
  refine thA_n ?_
  refine PC.seq ?_
  obtain ⟨n5, h_6, hh0⟩ := bind_some hh0
  refine PC.region ?_
  refine PL.op rfl (Rd.moveP rfl) ?_
  refine PL.op rfl (Rd.nilCheckO rfl rfl) ?_
  refine PL.op rfl (Rd.fieldO rfl rfl) ?_
  refine PL.op rfl (Rd.loadO rfl rfl rfl) ?_
  refine PL.op rfl (Rd.subM rfl rfl h_6) ?_
  refine PL.op rfl (Rd.asnT rfl) ?_
  refine PL.nil ?_
  refine thA_n ?_
  refine PC.seq ?_
  refine PC.seq ?_
  refine PC.region ?_
  refine PL.op rfl (Rd.moveT rfl) ?_
  refine PL.op rfl (Rd.moveP rfl) ?_
  refine PL.op rfl (Rd.nilCheckO rfl rfl) ?_
  refine PL.op rfl (Rd.fieldO rfl rfl) ?_
  refine PL.op rfl (Rd.loadO rfl rfl rfl) ?_
  refine PL.op rfl (Rd.lenT rfl) ?_
  refine PL.op rfl (Rd.lss rfl rfl) ?_
  refine PL.nil ?_
  refine thA_n ?_
  rcases cond_some hh0 with ⟨h_7, hh0⟩ | ⟨h_7, hh0⟩
  · refine PC.cond_true rfl h_7 ?_
    refine PC.seq ?_
    obtain ⟨x8, h_9, hh0⟩ := bind_some hh0
    obtain ⟨n10, h_11, hh0⟩ := bind_some hh0
    refine PC.region ?_
    refine PL.op rfl (Rd.moveP rfl) ?_
    refine PL.op rfl (Rd.nilCheckO rfl rfl) ?_
    refine PL.op rfl (Rd.fieldO rfl rfl) ?_
    refine PL.op rfl (Rd.loadO rfl rfl rfl) ?_
    refine PL.op rfl (Rd.moveT rfl) ?_
    refine PL.op rfl (Rd.ixM rfl rfl h_9) ?_
    refine PL.op rfl (Rd.elM1 rfl h_9 rfl rfl) ?_
    refine PL.op rfl (Rd.u8 rfl) ?_
    refine PL.op rfl (Rd.moveT rfl) ?_
    refine PL.op rfl (Rd.remM rfl rfl h_11) ?_
    refine PL.op rfl (Rd.asnT rfl) ?_
    refine PL.nil ?_
    refine thA_n ?_
    refine PC.ret ?_
    refine thA_r ?_
    obtain rfl := some_in hh0
    exact FinA.mk (r := iA ((n10, (S_reader.mk p_r.b n1)).1)) (bl := [⟨.mx [sL ((n10, (S_reader.mk p_r.b n1)).2.b), iA ((n10, (S_reader.mk p_r.b n1)).2.p)], 79, 0⟩]) [some 0] (.inl rfl) rfl (rl := [.tmp 4]) (.tmp .nil) rfl rfl rfl (.t _) ⟨⟨_, rfl, rfl, rfl, .mx ⟨.t _, .t _, trivial⟩⟩, trivial⟩ ⟨rfl, rfl⟩
  refine PC.cond_false rfl h_7 ?_
  refine PC.skip ?_
  refine thA_n ?_
  refine PC.seq ?_
  obtain ⟨n12, h_13, hh0⟩ := bind_some hh0
  obtain ⟨x14, h_15, hh0⟩ := bind_some hh0
  obtain ⟨n16, h_17, hh0⟩ := bind_some hh0
  obtain ⟨n18, h_19, hh0⟩ := bind_some hh0
  obtain ⟨n20, h_21, hh0⟩ := bind_some hh0
  obtain ⟨n22, h_23, hh0⟩ := bind_some hh0
  obtain ⟨x24, h_25, hh0⟩ := bind_some hh0
  obtain ⟨n26, h_27, hh0⟩ := bind_some hh0
  obtain ⟨n28, h_29, hh0⟩ := bind_some hh0
  obtain ⟨n30, h_31, hh0⟩ := bind_some hh0
  obtain ⟨n32, h_33, hh0⟩ := bind_some hh0
  obtain ⟨n34, h_35, hh0⟩ := bind_some hh0
  obtain ⟨n36, h_37, hh0⟩ := bind_some hh0
  obtain ⟨n38, h_39, hh0⟩ := bind_some hh0
  refine PC.any (id := 7) 46 (.seg [0, 1, 2, 3, 4, 5, 6, 7, 8, 9, 10, 11, 12, 13, 14, 15, 16, 17, 18, 19, 20, 21, 22, 23, 24, 25, 26, 27, 28, 29, 30, 31, 32, 33, 34, 35, 36, 37, 38, 39, 40, 41, 42, 43, 44, 45] .done) [] rfl (by kernel_rfl) rfl ?_
  refine PT.seg ?_
  refine PR.op rfl (Rd.moveP rfl) ?_
  refine PR.op rfl (Rd.nilCheckO rfl rfl) ?_
  refine PR.op rfl (Rd.fieldO rfl rfl) ?_
  refine PR.op rfl (Rd.loadO rfl rfl rfl) ?_
  refine PR.op rfl (Rd.moveT rfl) ?_
  refine PR.op rfl (Rd.moveP rfl) ?_
  refine PR.op rfl (Rd.nilCheckO rfl rfl) ?_
  refine PR.op rfl (Rd.fieldO rfl rfl) ?_
  refine PR.op rfl (Rd.loadO rfl rfl rfl) ?_
  refine PR.op rfl (Rd.lenT rfl) ?_
  refine PR.op rfl (Rd.remM rfl rfl h_13) ?_
  refine PR.op rfl (Rd.ixM rfl rfl h_15) ?_
  refine PR.op rfl (Rd.elM1 rfl h_15 rfl rfl) ?_
  refine PR.op rfl (Rd.u8 rfl) ?_
  refine PR.op rfl (Rd.mulM rfl rfl h_17) ?_
  refine PR.op rfl (Rd.moveP rfl) ?_
  refine PR.op rfl (Rd.nilCheckO rfl rfl) ?_
  refine PR.op rfl (Rd.fieldO rfl rfl) ?_
  refine PR.op rfl (Rd.loadO rfl rfl rfl) ?_
  refine PR.op rfl (Rd.moveT rfl) ?_
  refine PR.op rfl (Rd.mulM rfl rfl h_19) ?_
  refine PR.op rfl (Rd.addM rfl rfl h_21) ?_
  refine PR.op rfl (Rd.moveP rfl) ?_
  refine PR.op rfl (Rd.nilCheckO rfl rfl) ?_
  refine PR.op rfl (Rd.fieldO rfl rfl) ?_
  refine PR.op rfl (Rd.loadO rfl rfl rfl) ?_
  refine PR.op rfl (Rd.lenT rfl) ?_
  refine PR.op rfl (Rd.remM rfl rfl h_23) ?_
  refine PR.op rfl (Rd.ixM rfl rfl h_25) ?_
  refine PR.op rfl (Rd.elM1 rfl h_25 rfl rfl) ?_
  refine PR.op rfl (Rd.u8 rfl) ?_
  refine PR.op rfl (Rd.mulM rfl rfl h_27) ?_
  refine PR.op rfl (Rd.addM rfl rfl h_29) ?_
  refine PR.op rfl (Rd.moveT rfl) ?_
  refine PR.op rfl (Rd.mulM rfl rfl h_31) ?_
  refine PR.op rfl (Rd.addM rfl rfl h_33) ?_
  refine PR.op rfl (Rd.moveT rfl) ?_
  refine PR.op rfl (Rd.moveP rfl) ?_
  refine PR.op rfl (Rd.nilCheckO rfl rfl) ?_
  refine PR.op rfl (Rd.fieldO rfl rfl) ?_
  refine PR.op rfl (Rd.loadO rfl rfl rfl) ?_
  refine PR.op rfl (Rd.lenT rfl) ?_
  refine PR.op rfl (Rd.quoM rfl rfl h_35) ?_
  refine PR.op rfl (Rd.mulM rfl rfl h_37) ?_
  refine PR.op rfl (Rd.addM rfl rfl h_39) ?_
  refine PR.op rfl (Rd.asnT rfl) ?_
  refine PR.nil ?_
  refine PT.done ?_
  refine PL.nil ?_
  refine thA_n ?_
  refine PC.seq ?_
  obtain ⟨n40, h_41, hh0⟩ := bind_some hh0
  obtain ⟨n42, h_43, hh0⟩ := bind_some hh0
  refine PC.region ?_
  refine PL.op rfl (Rd.moveT rfl) ?_
  refine PL.op rfl (Rd.moveT rfl) ?_
  refine PL.op rfl (Rd.quoM rfl rfl h_41) ?_
  refine PL.op rfl (Rd.xorM rfl rfl h_43) ?_
  refine PL.op rfl (Rd.asnT rfl) ?_
  refine PL.nil ?_
  refine thA_n ?_
  refine PC.seq ?_
  obtain ⟨n44, h_45, hh0⟩ := bind_some hh0
  refine PC.region ?_
  refine PL.op rfl (Rd.moveT rfl) ?_
  refine PL.op rfl (Rd.moveT rfl) ?_
  refine PL.op rfl (Rd.remM rfl rfl h_45) ?_
  refine PL.op rfl (Rd.asnT rfl) ?_
  refine PL.nil ?_
  refine thA_n ?_
  refine PC.ret ?_
  obtain rfl := some_in hh0
  exact FinA.mk (r := iA ((n44, (S_reader.mk p_r.b n1)).1)) (bl := [⟨.mx [sL ((n44, (S_reader.mk p_r.b n1)).2.b), iA ((n44, (S_reader.mk p_r.b n1)).2.p)], 79, 0⟩]) [some 0] (.inl rfl) rfl (rl := [.tmp 4]) (.tmp .nil) rfl rfl rfl (.t _) ⟨⟨_, rfl, rfl, rfl, .mx ⟨.t _, .t _, trivial⟩⟩, trivial⟩ ⟨rfl, rfl⟩

def m_S_reader_one (N : Nat) (p_r : S_reader) (p_list : (List Int)) : Option (Int × S_reader) :=
  (m_S_reader_pick N p_r (p_list.length : Int)).bind fun r1 =>
  (ixI p_list r1.1).bind fun x3 =>
  some (x3, r1.2)
theorem w_S_reader_one (N : Nat) (p_r : S_reader) (p_list : (List Int)) (r : Int × S_reader) (hh0 : m_S_reader_one N p_r p_list = some r) : FnX Try.prog 57 [⟨.mx [sL p_r.b, iA p_r.p], 79, 0⟩] [.op 0 0, sL p_list] (RE (iA r.1) [⟨.mx [sL r.2.b, iA r.2.p], 79, 0⟩]) := by
  unfold m_S_reader_one at hh0
  refine FnX.mk Try.func57 rfl rfl ?_
  intro s hs
  refine PC.seq ?_
  refine PC.region ?_
  refine PL.op rfl (Rd.asnT rfl) ?_
  refine PL.nil ?_
  refine thA_n ?_
  refine PC.seq ?_
  obtain ⟨r1, h_2, hh0⟩ := bind_some hh0
  obtain ⟨x3, h_4, hh0⟩ := bind_some hh0
  refine PC.region ?_
  refine PL.op rfl (Rd.moveT rfl) ?_
  refine PL.op rfl (Rd.moveP rfl) ?_
  refine PL.op rfl (Rd.moveT rfl) ?_
  refine PL.op rfl (Rd.lenT rfl) ?_
  refine PL.callM false [0] (w_S_reader_pick N p_r (p_list.length : Int) r1 h_2) rfl Try.call65 rfl ⟨.op rfl, .t _, trivial⟩ rfl ⟨⟨_, rfl, rfl, rfl, .mx ⟨.t _, .t _, trivial⟩⟩, trivial⟩ (fun h => by cases h) ?_
  refine PL.nm (iA r1.1) [some ⟨.mx [sL r1.2.b, iA r1.2.p], 79, 0⟩] rfl rfl ?_
  refine PL.op rfl (Rd.ixM rfl rfl h_4) ?_
  refine PL.op rfl (Rd.elM1 rfl h_4 rfl rfl) ?_
  refine PL.op rfl (Rd.asnT rfl) ?_
  refine PL.nil ?_
  refine thA_n ?_
  refine PC.ret ?_
  obtain rfl := some_in hh0
  exact FinA.mk (r := iA ((x3, r1.2).1)) (bl := [⟨.mx [sL ((x3, r1.2).2.b), iA ((x3, r1.2).2.p)], 79, 0⟩]) [some 0] (.inl rfl) rfl (rl := [.tmp 4]) (.tmp .nil) rfl rfl rfl (.t _) ⟨⟨_, rfl, rfl, rfl, .mx ⟨.t _, .t _, trivial⟩⟩, trivial⟩ ⟨rfl, rfl⟩

end V
end Go.Proofs.Ytambkpacecjheaa
