/- The texts that mark. No condition. -/
import Derived.Test.YtlpbgmahegoidaaFnEq
import Derived.Test.YtlpbgmahegoidaaGenC
namespace Go.Proofs.Ytlpbgmahegoidaa
namespace V
open Enc (enc)
set_option linter.unusedVariables false
set_option linter.unusedSimpArgs false
set_option maxHeartbeats 4000000
set_option maxRecDepth 100000
open Go.RowKit
attribute [local irreducible] thA inA FinA eL

def m_L_markText_k1 (N : Nat) (i13 : ByteArray) : Option (ByteArray) :=
  (addS (ByteArray.mk #[109]) i13).bind fun s19 =>
  some s19
def m_L_markText_b1 (N : Nat) (k2 : Int) (i3 : ByteArray) : Option ((Int × ByteArray) ⊕ ByteArray) :=
  cond (decide ((0 : Int) < k2))
    ((remM k2 (10 : Int)).bind fun n22 =>
    (chk ((48 : Int) + n22)).bind fun n24 =>
    (addS (b2s [(i2b n24)]) i3).bind fun s26 =>
    (quoM k2 (10 : Int)).bind fun n28 =>
    some (.inl (n28, s26)))
    (some (.inr i3))
def m_L_markText (N : Nat) (p_k : Int) : Option (ByteArray) :=
  cond (decide (p_k ≤ (0 : Int)))
    (some (ByteArray.mk #[109, 48]))
    ((loopM (β := ByteArray) (fun s : Int × ByteArray => m_L_markText_b1 N s.1 s.2) N (p_k, ByteArray.empty)).bind fun e =>
    m_L_markText_k1 N e)
theorem w_L_markText (N : Nat) (p_k : Int) (r : ByteArray) (hh0 : m_L_markText N p_k = some r) : FnX Try.prog 36 [] [iA p_k] (RE (sA r) []) := by
  unfold m_L_markText at hh0
  refine FnX.mk Try.func36 rfl rfl ?_
  intro s hs
  refine PC.seq ?_
  refine PC.region ?_
  refine PL.op rfl (Rd.asnT rfl) ?_
  refine PL.nil ?_
  refine thA_n ?_
  refine PC.seq ?_
  refine PC.seq ?_
  refine PC.region ?_
  refine PL.op rfl (Rd.moveT rfl) ?_
  refine PL.op rfl (Rd.leq rfl rfl) ?_
  refine PL.nil ?_
  refine thA_n ?_
  rcases cond_some hh0 with ⟨h_1, hh0⟩ | ⟨h_1, hh0⟩
  · refine PC.cond_true rfl h_1 ?_
    refine PC.seq ?_
    refine PC.region ?_
    refine PL.op rfl (Rd.asnT rfl) ?_
    refine PL.nil ?_
    refine thA_n ?_
    refine PC.ret ?_
    refine thA_r ?_
    obtain rfl := some_in hh0
    exact FinA.mk (r := sA (ByteArray.mk #[109, 48])) (bl := []) [] (.inl rfl) rfl (rl := [.tmp 2]) (.tmp .nil) rfl rfl rfl (.t _) trivial ⟨rfl, rfl⟩
  refine PC.cond_false rfl h_1 ?_
  refine PC.skip ?_
  refine thA_n ?_
  refine PC.seq ?_
  refine PC.region ?_
  refine PL.op rfl (Rd.asnT rfl) ?_
  refine PL.nil ?_
  refine thA_n ?_
  obtain ⟨o14, h_15, hh0⟩ := bind_some hh0
  refine PC.cut hs (fun x : ByteArray => [(3, sA x)]) (fun x => []) (fun x => m_L_markText_k1 N x = some r) ?_ ?_
  · refine PC.block ?_
    refine PC.loop hs (fun x : Nat × (Int × ByteArray) => [(0, iA x.2.1), (3, sA x.2.2)]) (fun x => []) (fun x => loopM (β := ByteArray) (fun s : Int × ByteArray => m_L_markText_b1 N s.1 s.2) x.1 x.2 = some o14) (fun x => x.1) (N, (p_k, ByteArray.empty)) [] ⟨rfl, rfl, trivial, ⟨.t _, .t _, trivial⟩⟩ h_15 ?_
    rintro ⟨f16_, k2, i3⟩ h_18
    obtain ⟨f16, y17, rfl, hh1, kk1⟩ := loopM_some h_18
    replace hh1 : m_L_markText_b1 N k2 i3 = some y17 := hh1
    unfold m_L_markText_b1 at hh1
    refine PC.seq ?_
    refine PC.seq ?_
    refine PC.region ?_
    refine PL.op rfl (Rd.moveT rfl) ?_
    refine PL.op rfl (Rd.gtr rfl rfl) ?_
    refine PL.nil ?_
    refine thA_n ?_
    rcases cond_some hh1 with ⟨h_21, hh1⟩ | ⟨h_21, hh1⟩
    rotate_left
    · refine PC.cond_false rfl h_21 ?_
      refine PC.exit ?_
      refine thA_e ?_
      refine thA_e ?_
      refine inA_eq rfl ?_
      refine thA_n ?_
      obtain rfl := some_in hh1
      obtain rfl : (i3 : ByteArray) = o14 := kk1
      exact ⟨i3, hh0, [], ⟨rfl, rfl, trivial, ⟨.t _, trivial⟩⟩⟩
    refine PC.cond_true rfl h_21 ?_
    refine PC.skip ?_
    refine thA_n ?_
    refine PC.block ?_
    refine PC.seq ?_
    obtain ⟨n22, h_23, hh1⟩ := bind_some hh1
    obtain ⟨n24, h_25, hh1⟩ := bind_some hh1
    obtain ⟨s26, h_27, hh1⟩ := bind_some hh1
    refine PC.region ?_
    refine PL.op rfl (Rd.moveT rfl) ?_
    refine PL.op rfl (Rd.remM rfl rfl h_23) ?_
    refine PL.op rfl (Rd.addM rfl rfl h_25) ?_
    refine PL.op rfl (Rd.toU8 rfl) ?_
    refine PL.ef rfl (Ef.litM (α := UInt8) [(i2b n24)] [_] rfl rfl (by decide) rfl rfl rfl rfl) ?_
    refine PL.nm (.os 0 0 1) [some ⟨.tr (eL [(i2b n24)]), 5, 1⟩] rfl rfl ?_
    refine PL.op rfl (Rd.b2sO rfl rfl rfl) ?_
    refine PL.op rfl (Rd.moveT rfl) ?_
    refine PL.op rfl (Rd.addSM rfl rfl h_27) ?_
    refine PL.op rfl (Rd.asnT rfl) ?_
    refine PL.nil ?_
    refine thA_n ?_
    obtain ⟨n28, h_29, hh1⟩ := bind_some hh1
    refine PC.region ?_
    refine PL.op rfl (Rd.moveT rfl) ?_
    refine PL.op rfl (Rd.quoM rfl rfl h_29) ?_
    refine PL.op rfl (Rd.asnT rfl) ?_
    refine PL.nil ?_
    refine inA_n ?_
    obtain rfl := some_in hh1
    refine thA_n ?_
    exact ⟨(f16, (n28, s26)), Nat.lt_succ_self _, kk1, [], ⟨rfl, rfl, trivial, ⟨.t _, .t _, trivial⟩⟩⟩
  clear hh0
  rintro i13 hh0
  replace hh0 : m_L_markText_k1 N i13 = some r := hh0
  unfold m_L_markText_k1 at hh0
  refine PC.seq ?_
  obtain ⟨s19, h_20, hh0⟩ := bind_some hh0
  refine PC.region ?_
  refine PL.op rfl (Rd.moveT rfl) ?_
  refine PL.op rfl (Rd.addSM rfl rfl h_20) ?_
  refine PL.op rfl (Rd.asnT rfl) ?_
  refine PL.nil ?_
  refine thA_n ?_
  refine PC.ret ?_
  obtain rfl := some_in hh0
  exact FinA.mk (r := sA s19) (bl := []) [] (.inl rfl) rfl (rl := [.tmp 2]) (.tmp .nil) rfl rfl rfl (.t _) trivial ⟨rfl, rfl⟩

end V
end Go.Proofs.Ytlpbgmahegoidaa
