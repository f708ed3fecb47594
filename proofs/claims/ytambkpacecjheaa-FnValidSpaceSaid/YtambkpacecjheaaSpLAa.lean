/- Space: a law's function. No condition. -/
import Derived.Test.YtambkpacecjheaaSpEa
namespace Go.Proofs.Ytambkpacecjheaa
namespace V
open Enc (enc)
set_option linter.unusedVariables false
set_option linter.unusedSimpArgs false
set_option maxHeartbeats 4000000
set_option maxRecDepth 100000
open Go.RowKit
attribute [local irreducible] thA inA FinA eL

def m_L_FnValidSpace_k5 (N : Nat) (r2 : (I_Space)) (r10 : ((List Int))) : Option (Bool) :=
  (chk ((r2.free.length : Int) + (r2.held.length : Int))).bind fun n156 =>
  (chk (n156 + (r10.length : Int))).bind fun n158 =>
  some (decide (n158 = r2.pages))
def m_L_FnValidSpace_k6 (N : Nat) (n12 : Int) (i183 : Int) : Option (Int ⊕ (Unit ⊕ Bool)) :=
  cond (decide (i183 = (1 : Int)))
    ((chk (n12 + (1 : Int))).bind fun n190 =>
    some (.inl n190))
    (some (.inr (.inr false)))
def m_L_FnValidSpace_b6 (N : Nat) (r2 : (I_Space)) (n12 : Int) (i171 : Int) (i172 : Int) : Option ((Int × Int) ⊕ Int) :=
  cond (decide (i172 < (r2.held.length : Int)))
    ((ixI r2.held i172).bind fun x193 =>
    cond (decide (x193.page = n12))
      ((chk (i171 + (1 : Int))).bind fun n196 =>
      (chk (i172 + (1 : Int))).bind fun n198 =>
      some (.inl (n196, n198)))
      ((chk (i172 + (1 : Int))).bind fun n200 =>
      some (.inl (i171, n200))))
    (some (.inr i171))
def m_L_FnValidSpace_k7 (N : Nat) (n12 : Int) (i214 : Int) : Option (Int ⊕ (Unit ⊕ Bool)) :=
  cond (decide (i214 = (1 : Int)))
    ((chk (n12 + (1 : Int))).bind fun n221 =>
    some (.inl n221))
    (some (.inr (.inr false)))
def m_L_FnValidSpace_b7 (N : Nat) (r2 : (I_Space)) (n12 : Int) (i202 : Int) (i203 : Int) : Option ((Int × Int) ⊕ Int) :=
  cond (decide (i203 < (r2.held.length : Int)))
    ((ixI r2.held i203).bind fun x224 =>
    cond (decide (x224.page = n12))
      ((chk (i202 + (1 : Int))).bind fun n227 =>
      (chk (i203 + (1 : Int))).bind fun n229 =>
      some (.inl (n227, n229)))
      ((chk (i203 + (1 : Int))).bind fun n231 =>
      some (.inl (i202, n231))))
    (some (.inr i202))
def m_L_FnValidSpace_k8 (N : Nat) (n12 : Int) (i250 : Int) : Option (Int ⊕ (Unit ⊕ Bool)) :=
  cond (decide (i250 = (1 : Int)))
    ((chk (n12 + (1 : Int))).bind fun n257 =>
    some (.inl n257))
    (some (.inr (.inr false)))
def m_L_FnValidSpace_b8 (N : Nat) (r2 : (I_Space)) (n12 : Int) (i238 : Int) (i239 : Int) : Option ((Int × Int) ⊕ Int) :=
  cond (decide (i239 < (r2.held.length : Int)))
    ((ixI r2.held i239).bind fun x260 =>
    cond (decide (x260.page = n12))
      ((chk (i238 + (1 : Int))).bind fun n263 =>
      (chk (i239 + (1 : Int))).bind fun n265 =>
      some (.inl (n263, n265)))
      ((chk (i239 + (1 : Int))).bind fun n267 =>
      some (.inl (i238, n267))))
    (some (.inr i238))
def m_L_FnValidSpace_k9 (N : Nat) (n12 : Int) (i281 : Int) : Option (Int ⊕ (Unit ⊕ Bool)) :=
  cond (decide (i281 = (1 : Int)))
    ((chk (n12 + (1 : Int))).bind fun n288 =>
    some (.inl n288))
    (some (.inr (.inr false)))
def m_L_FnValidSpace_b9 (N : Nat) (r2 : (I_Space)) (n12 : Int) (i269 : Int) (i270 : Int) : Option ((Int × Int) ⊕ Int) :=
  cond (decide (i270 < (r2.held.length : Int)))
    ((ixI r2.held i270).bind fun x291 =>
    cond (decide (x291.page = n12))
      ((chk (i269 + (1 : Int))).bind fun n294 =>
      (chk (i270 + (1 : Int))).bind fun n296 =>
      some (.inl (n294, n296)))
      ((chk (i270 + (1 : Int))).bind fun n298 =>
      some (.inl (i269, n298))))
    (some (.inr i269))
def m_L_FnValidSpace_b5 (N : Nat) (r2 : (I_Space)) (r10 : ((List Int))) (n12 : Int) : Option (Int ⊕ (Unit ⊕ Bool)) :=
  cond (decide (n12 < r2.pages))
    ((m_L_isIn N r2.free n12).bind fun r161 =>
    cond r161
      ((chk ((0 : Int) + (1 : Int))).bind fun n164 =>
      (m_L_isIn N r10 n12).bind fun r166 =>
      cond r166
        ((chk (n164 + (1 : Int))).bind fun n169 =>
        (loopM (β := Int) (fun s : Int × Int => m_L_FnValidSpace_b6 N r2 n12 s.1 s.2) N (n169, (0 : Int))).bind fun e =>
        m_L_FnValidSpace_k6 N n12 e)
        ((loopM (β := Int) (fun s : Int × Int => m_L_FnValidSpace_b7 N r2 n12 s.1 s.2) N (n164, (0 : Int))).bind fun e =>
        m_L_FnValidSpace_k7 N n12 e))
      ((m_L_isIn N r10 n12).bind fun r233 =>
      cond r233
        ((chk ((0 : Int) + (1 : Int))).bind fun n236 =>
        (loopM (β := Int) (fun s : Int × Int => m_L_FnValidSpace_b8 N r2 n12 s.1 s.2) N (n236, (0 : Int))).bind fun e =>
        m_L_FnValidSpace_k8 N n12 e)
        ((loopM (β := Int) (fun s : Int × Int => m_L_FnValidSpace_b9 N r2 n12 s.1 s.2) N ((0 : Int), (0 : Int))).bind fun e =>
        m_L_FnValidSpace_k9 N n12 e)))
    (some (.inr (.inl ())))
def m_L_FnValidSpace (N : Nat) (p_code : (List UInt8)) : Option (Bool) :=
  cond (decide ((1048576 : Int) < (p_code.length : Int)))
    (some true)
    ((m_S_DrawValidSpace N p_code).bind fun r2 =>
    (m_I_ValidSpace N r2).bind fun r4 =>
    (m_S_ValidSpace N r2).bind fun r6 =>
    cond (r4 == r6)
      (cond r4
        ((m_I_PagesInUse N r2).bind fun r10 =>
        (loopM (β := Unit ⊕ Bool) (fun s : Int => m_L_FnValidSpace_b5 N r2 r10 s) N (0 : Int)).bind fun o => match o with
        | .inl e =>
          m_L_FnValidSpace_k5 N r2 r10 
        | .inr v =>
          some v)
        ((m_S_ValidSpace N r2).bind fun r300 =>
        some (r4 == r300)))
      ((m_S_ValidSpace N r2).bind fun r302 =>
      some (r4 == r302)))
theorem w_L_FnValidSpace (N : Nat) (p_code : (List UInt8)) (r : Bool) (hh0 : m_L_FnValidSpace N p_code = some r) : FnX Try.prog 5 [] [sL p_code] (RE (bA r) []) := by
  unfold m_L_FnValidSpace at hh0
  refine FnX.mk Try.func5 rfl rfl ?_
  intro s hs
  refine PC.seq ?_
  refine PC.region ?_
  refine PL.op rfl (Rd.asnT rfl) ?_
  refine PL.nil ?_
  refine thA_n ?_
  refine PC.seq ?_
  refine PC.seq ?_
  refine PC.region ?_
  refine PL.op rfl (Rd.moveT rfl) ?_
  refine PL.op rfl (Rd.lenT rfl) ?_
  refine PL.op rfl (Rd.gtr rfl rfl) ?_
  refine PL.nil ?_
  refine thA_n ?_
  rcases cond_some hh0 with ⟨h_1, hh0⟩ | ⟨h_1, hh0⟩
  · refine PC.cond_true rfl h_1 ?_
    refine PC.seq ?_
    refine PC.region ?_
    refine PL.op rfl (Rd.asnT rfl) ?_
    refine PL.nil ?_
    refine thA_n ?_
    refine PC.ret ?_
    refine thA_r ?_
    obtain rfl := some_in hh0
    exact FinA.mk (r := bA true) (bl := []) [] (.inl rfl) rfl (rl := [.tmp 2]) (.tmp .nil) rfl rfl rfl (.t _) trivial ⟨rfl, rfl⟩
  refine PC.cond_false rfl h_1 ?_
  refine PC.skip ?_
  refine thA_n ?_
  refine PC.seq ?_
  obtain ⟨r2, h_3, hh0⟩ := bind_some hh0
  refine PC.region ?_
  refine PL.op rfl (Rd.moveT rfl) ?_
  refine PL.callM false [] (w_S_DrawValidSpace N p_code r2 h_3) rfl Try.call25 rfl ⟨.t _, trivial⟩ rfl trivial (fun h => by cases h) ?_
  refine PL.nm (.agg [iA r2.pages, sL r2.free, .os 0 0 r2.held.length]) [some ⟨.tr (eL r2.held), 42, 2⟩] rfl rfl ?_
  refine PL.ef rfl (Ef.alloc rfl rfl) ?_
  refine PL.nm (.op 1 0) [some ⟨.tr (eL r2.held), 42, 2⟩, some ⟨.mx [iA (0 : Int), .t (.v (.slice none 0 0)), .t (.v (.slice none 0 0))], 30, 0⟩] rfl rfl ?_
  refine PL.store rfl rfl rfl rfl rfl rfl rfl ?_
  refine PL.nO [some ⟨.tr (eL r2.held), 42, 2⟩, some ⟨.mx [iA r2.pages, sL r2.free, .os 0 0 r2.held.length], 30, 0⟩] rfl ?_
  refine PL.nil ?_
  refine thA_n ?_
  refine PC.seq ?_
  obtain ⟨r4, h_5, hh0⟩ := bind_some hh0
  refine PC.region ?_
  refine PL.op rfl (Rd.loadBox rfl rfl rfl) ?_
  refine PL.callM true [] (w_I_ValidSpace N r2 r4 h_5) rfl Try.call17 rfl ⟨.aggL ⟨.t _, .t _, .own rfl (by first | decide | exact List.not_mem_nil) rfl rfl, trivial⟩, trivial⟩ rfl trivial (fun _ => ⟨trivial, flat_nil⟩) ?_
  refine PL.op rfl (Rd.asnT rfl) ?_
  refine PL.nil ?_
  refine thA_n ?_
  refine PC.seq ?_
  refine PC.seq ?_
  obtain ⟨r6, h_7, hh0⟩ := bind_some hh0
  rcases cond_some hh0 with ⟨h_8, hh0⟩ | ⟨h_8, hh0⟩
  rotate_left
  · refine PC.region ?_
    refine PL.op rfl (Rd.moveT rfl) ?_
    refine PL.op rfl (Rd.loadBox rfl rfl rfl) ?_
    refine PL.callM true [] (w_S_ValidSpace N r2 r6 h_7) rfl Try.call15 rfl ⟨.aggL ⟨.t _, .t _, .own rfl (by first | decide | exact List.not_mem_nil) rfl rfl, trivial⟩, trivial⟩ rfl trivial (fun _ => ⟨trivial, flat_nil⟩) ?_
    refine PL.op rfl (Rd.neqB rfl rfl) ?_
    refine PL.op rfl (Rd.moveT rfl) ?_
    refine PL.guard_off rfl rfl (not_f h_8) ?_
    refine PL.guard_off rfl rfl (not_f h_8) ?_
    refine PL.op rfl (Rd.pick_t rfl (not_f h_8)) ?_
    refine PL.nil ?_
    refine thA_n ?_
    refine PC.cond_true rfl rfl ?_
    refine PC.seq ?_
    obtain ⟨r302, h_303, hh0⟩ := bind_some hh0
    refine PC.region ?_
    refine PL.op rfl (Rd.moveT rfl) ?_
    refine PL.op rfl (Rd.loadBox rfl rfl rfl) ?_
    refine PL.callM true [] (w_S_ValidSpace N r2 r302 h_303) rfl Try.call15 rfl ⟨.aggL ⟨.t _, .t _, .own rfl (by first | decide | exact List.not_mem_nil) rfl rfl, trivial⟩, trivial⟩ rfl trivial (fun _ => ⟨trivial, flat_nil⟩) ?_
    refine PL.op rfl (Rd.eqlB rfl rfl) ?_
    refine PL.op rfl (Rd.asnT rfl) ?_
    refine PL.nil ?_
    refine thA_n ?_
    refine PC.ret ?_
    refine thA_r ?_
    obtain rfl := some_in hh0
    exact FinA.mk (r := bA (r4 == r302)) (bl := []) [] (.inl rfl) rfl (rl := [.tmp 2]) (.tmp .nil) rfl rfl rfl (.t _) trivial ⟨rfl, rfl⟩
  refine PC.region ?_
  refine PL.op rfl (Rd.moveT rfl) ?_
  refine PL.op rfl (Rd.loadBox rfl rfl rfl) ?_
  refine PL.callM true [] (w_S_ValidSpace N r2 r6 h_7) rfl Try.call15 rfl ⟨.aggL ⟨.t _, .t _, .own rfl (by first | decide | exact List.not_mem_nil) rfl rfl, trivial⟩, trivial⟩ rfl trivial (fun _ => ⟨trivial, flat_nil⟩) ?_
  refine PL.op rfl (Rd.neqB rfl rfl) ?_
  refine PL.op rfl (Rd.moveT rfl) ?_
  refine PL.guard_on rfl (not_t h_8) ?_
  refine PL.op rfl (Rd.moveT rfl) ?_
  refine PL.guard_on rfl (not_t h_8) ?_
  refine PL.op rfl (Rd.unnot rfl) ?_
  refine PL.op rfl (Rd.pick_f rfl (not_t h_8)) ?_
  refine PL.nil ?_
  refine thA_n ?_
  rcases cond_some hh0 with ⟨h_9, hh0⟩ | ⟨h_9, hh0⟩
  rotate_left
  · refine PC.cond_true rfl (not_f h_9) ?_
    refine PC.seq ?_
    obtain ⟨r300, h_301, hh0⟩ := bind_some hh0
    refine PC.region ?_
    refine PL.op rfl (Rd.moveT rfl) ?_
    refine PL.op rfl (Rd.loadBox rfl rfl rfl) ?_
    refine PL.callM true [] (w_S_ValidSpace N r2 r300 h_301) rfl Try.call15 rfl ⟨.aggL ⟨.t _, .t _, .own rfl (by first | decide | exact List.not_mem_nil) rfl rfl, trivial⟩, trivial⟩ rfl trivial (fun _ => ⟨trivial, flat_nil⟩) ?_
    refine PL.op rfl (Rd.eqlB rfl rfl) ?_
    refine PL.op rfl (Rd.asnT rfl) ?_
    refine PL.nil ?_
    refine thA_n ?_
    refine PC.ret ?_
    refine thA_r ?_
    obtain rfl := some_in hh0
    exact FinA.mk (r := bA (r4 == r300)) (bl := []) [] (.inl rfl) rfl (rl := [.tmp 2]) (.tmp .nil) rfl rfl rfl (.t _) trivial ⟨rfl, rfl⟩
  refine PC.cond_false rfl (not_t h_9) ?_
  refine PC.skip ?_
  refine thA_n ?_
  refine PC.seq ?_
  obtain ⟨r10, h_11, hh0⟩ := bind_some hh0
  refine PC.region ?_
  refine PL.op rfl (Rd.loadBox rfl rfl rfl) ?_
  refine PL.callM true [] (w_I_PagesInUse N r2 r10 h_11) rfl Try.call20 rfl ⟨.aggL ⟨.t _, .t _, .own rfl (by first | decide | exact List.not_mem_nil) rfl rfl, trivial⟩, trivial⟩ rfl trivial (fun _ => ⟨trivial, (flat_cons flat_ow flat_nil)⟩) ?_
  refine PL.nm (.os 2 0 r10.length) [some ⟨.tr (eL r2.held), 42, 2⟩, some ⟨.mx [iA r2.pages, sL r2.free, .os 0 0 r2.held.length], 30, 0⟩, some ⟨.tr (eL r10), 3, 1⟩] rfl rfl ?_
  refine PL.op rfl (Rd.asnO rfl) ?_
  refine PL.nil ?_
  refine thA_n ?_
  refine PC.seq ?_
  refine PC.seq ?_
  refine PC.region ?_
  refine PL.op rfl (Rd.asnT rfl) ?_
  refine PL.nil ?_
  refine thA_n ?_
  obtain ⟨o151, h_152, hh0⟩ := bind_some hh0
  refine PC.cutE hs (fun x : Unit => [(3, .op 0 0), (5, .os 2 0 r10.length)]) (fun x => [⟨.mx [iA r2.pages, sL r2.free, .os 1 0 r2.held.length], 30, 0⟩, ⟨.tr (eL r2.held), 42, 2⟩, ⟨.tr (eL r10), 3, 1⟩]) (fun x => m_L_FnValidSpace_k5 N r2 r10  = some r) ?_ ?_
  · refine PC.block ?_
    refine PC.loop hs (fun x : Nat × (Int) => [(3, .op 0 0), (5, .os 2 0 r10.length), (6, iA x.2)]) (fun x => [⟨.mx [iA r2.pages, sL r2.free, .os 1 0 r2.held.length], 30, 0⟩, ⟨.tr (eL r2.held), 42, 2⟩, ⟨.tr (eL r10), 3, 1⟩]) (fun x => loopM (β := Unit ⊕ Bool) (fun s : Int => m_L_FnValidSpace_b5 N r2 r10 s) x.1 x.2 = some o151) (fun x => x.1) (N, (0 : Int)) [some 1, some 0, some 2] ⟨rfl, rfl, ⟨⟨_, rfl, rfl, rfl, .mx ⟨.t _, .t _, .os rfl, trivial⟩⟩, ⟨_, rfl, rfl, rfl, .tr _⟩, ⟨_, rfl, rfl, rfl, .tr _⟩, trivial⟩, ⟨.op rfl, .os rfl, .t _, trivial⟩⟩ h_152 ?_
    rintro ⟨f153_, n12⟩ h_155
    obtain ⟨f153, y154, rfl, hh1, kk1⟩ := loopM_some h_155
    replace hh1 : m_L_FnValidSpace_b5 N r2 r10 n12 = some y154 := hh1
    unfold m_L_FnValidSpace_b5 at hh1
    refine PC.seq ?_
    refine PC.seq ?_
    refine PC.region ?_
    refine PL.op rfl (Rd.moveT rfl) ?_
    refine PL.op rfl (Rd.fieldO rfl rfl) ?_
    refine PL.op rfl (Rd.loadO rfl rfl rfl) ?_
    refine PL.op rfl (Rd.lss rfl rfl) ?_
    refine PL.nil ?_
    refine thA_n ?_
    rcases cond_some hh1 with ⟨h_160, hh1⟩ | ⟨h_160, hh1⟩
    rotate_left
    · refine PC.cond_false rfl h_160 ?_
      refine PC.exit ?_
      refine thA_e ?_
      refine thA_e ?_
      refine inA_eq rfl ?_
      refine thA_n ?_
      obtain rfl := some_in hh1
      obtain rfl : (.inl () : Unit ⊕ Bool) = o151 := kk1
      exact ⟨(), hh0, [some 0, some 1, some 2], ⟨rfl, rfl, ⟨⟨_, rfl, rfl, rfl, .mx ⟨.t _, .t _, .os rfl, trivial⟩⟩, ⟨_, rfl, rfl, rfl, .tr _⟩, ⟨_, rfl, rfl, rfl, .tr _⟩, trivial⟩, ⟨.op rfl, .os rfl, trivial⟩⟩⟩
    refine PC.cond_true rfl h_160 ?_
    refine PC.skip ?_
    refine thA_n ?_
    refine PC.seq ?_
    refine PC.block ?_
    refine PC.seq ?_
    refine PC.region ?_
    refine PL.op rfl (Rd.asnT rfl) ?_
    refine PL.nil ?_
    refine thA_n ?_
    refine PC.seq ?_
    refine PC.seq ?_
    obtain ⟨r161, h_162, hh1⟩ := bind_some hh1
    refine PC.region ?_
    refine PL.op rfl (Rd.fieldO rfl rfl) ?_
    refine PL.op rfl (Rd.loadO rfl rfl rfl) ?_
    refine PL.op rfl (Rd.moveT rfl) ?_
    refine PL.callM false [] (w_L_isIn N r2.free n12 r161 h_162) rfl Try.call26 rfl ⟨.t _, .t _, trivial⟩ rfl trivial (fun h => by cases h) ?_
    refine PL.nil ?_
    refine thA_n ?_
    rcases cond_some hh1 with ⟨h_163, hh1⟩ | ⟨h_163, hh1⟩
    rotate_left
    · refine PC.cond_false rfl h_163 ?_
      refine PC.skip ?_
      refine thA_n ?_
      refine PC.seq ?_
      refine PC.seq ?_
      obtain ⟨r233, h_234, hh1⟩ := bind_some hh1
      refine PC.region ?_
      refine PL.op rfl (Rd.moveO rfl) ?_
      refine PL.op rfl (Rd.moveT rfl) ?_
      refine PL.callM true [] (w_L_isIn N r10 n12 r233 h_234) rfl Try.call26 rfl ⟨.own rfl (by first | decide | exact List.not_mem_nil) rfl rfl, .t _, trivial⟩ rfl trivial (fun _ => ⟨trivial, flat_nil⟩) ?_
      refine PL.nil ?_
      refine thA_n ?_
      rcases cond_some hh1 with ⟨h_235, hh1⟩ | ⟨h_235, hh1⟩
      rotate_left
      · refine PC.cond_false rfl h_235 ?_
        refine PC.skip ?_
        refine thA_n ?_
        refine PC.seq ?_
        refine PC.seq ?_
        refine PC.region ?_
        refine PL.op rfl (Rd.asnT rfl) ?_
        refine PL.nil ?_
        refine thA_n ?_
        obtain ⟨o282, h_283, hh1⟩ := bind_some hh1
        refine PC.cutE hs (fun x : Int => [(3, .op 0 0), (5, .os 2 0 r10.length), (6, iA n12), (7, iA x)]) (fun x => [⟨.mx [iA r2.pages, sL r2.free, .os 1 0 r2.held.length], 30, 0⟩, ⟨.tr (eL r2.held), 42, 2⟩, ⟨.tr (eL r10), 3, 1⟩]) (fun x => m_L_FnValidSpace_k9 N n12 x = some y154) ?_ ?_
        · refine PC.block ?_
          refine PC.loop hs (fun x : Nat × (Int × Int) => [(3, .op 0 0), (5, .os 2 0 r10.length), (6, iA n12), (7, iA x.2.1), (8, iA x.2.2)]) (fun x => [⟨.mx [iA r2.pages, sL r2.free, .os 1 0 r2.held.length], 30, 0⟩, ⟨.tr (eL r2.held), 42, 2⟩, ⟨.tr (eL r10), 3, 1⟩]) (fun x => loopM (β := Int) (fun s : Int × Int => m_L_FnValidSpace_b9 N r2 n12 s.1 s.2) x.1 x.2 = some o282) (fun x => x.1) (N, ((0 : Int), (0 : Int))) [some 0, some 1, some 2] ⟨rfl, rfl, ⟨⟨_, rfl, rfl, rfl, .mx ⟨.t _, .t _, .os rfl, trivial⟩⟩, ⟨_, rfl, rfl, rfl, .tr _⟩, ⟨_, rfl, rfl, rfl, .tr _⟩, trivial⟩, ⟨.op rfl, .os rfl, .t _, .t _, .t _, trivial⟩⟩ h_283 ?_
          rintro ⟨f284_, i269, i270⟩ h_286
          obtain ⟨f284, y285, rfl, hh2, kk2⟩ := loopM_some h_286
          replace hh2 : m_L_FnValidSpace_b9 N r2 n12 i269 i270 = some y285 := hh2
          unfold m_L_FnValidSpace_b9 at hh2
          refine PC.seq ?_
          refine PC.seq ?_
          refine PC.region ?_
          refine PL.op rfl (Rd.moveT rfl) ?_
          refine PL.op rfl (Rd.fieldO rfl rfl) ?_
          refine PL.op rfl (Rd.loadO rfl rfl rfl) ?_
          refine PL.op rfl (Rd.lenO rfl rfl) ?_
          refine PL.op rfl (Rd.lss rfl rfl) ?_
          refine PL.nil ?_
          refine thA_n ?_
          rcases cond_some hh2 with ⟨h_290, hh2⟩ | ⟨h_290, hh2⟩
          rotate_left
          · refine PC.cond_false rfl h_290 ?_
            refine PC.exit ?_
            refine thA_e ?_
            refine thA_e ?_
            refine inA_eq rfl ?_
            refine thA_n ?_
            obtain rfl := some_in hh2
            obtain rfl : (i269 : Int) = o282 := kk2
            exact ⟨i269, hh1, [some 0, some 1, some 2], ⟨rfl, rfl, ⟨⟨_, rfl, rfl, rfl, .mx ⟨.t _, .t _, .os rfl, trivial⟩⟩, ⟨_, rfl, rfl, rfl, .tr _⟩, ⟨_, rfl, rfl, rfl, .tr _⟩, trivial⟩, ⟨.op rfl, .os rfl, .t _, .t _, trivial⟩⟩⟩
          refine PC.cond_true rfl h_290 ?_
          refine PC.skip ?_
          refine thA_n ?_
          refine PC.seq ?_
          refine PC.block ?_
          refine PC.seq ?_
          obtain ⟨x291, h_292, hh2⟩ := bind_some hh2
          refine PC.region ?_
          refine PL.op rfl (Rd.fieldO rfl rfl) ?_
          refine PL.op rfl (Rd.loadO rfl rfl rfl) ?_
          refine PL.op rfl (Rd.moveT rfl) ?_
          refine PL.op rfl (Rd.ixOM rfl rfl rfl (ixI_lt h_292)) ?_
          refine PL.op rfl (Rd.fieldO rfl rfl) ?_
          refine PL.op rfl (Rd.owMF (f := 0) rfl rfl h_292 rfl rfl) ?_
          refine PL.op rfl (Rd.moveT rfl) ?_
          refine PL.op rfl (Rd.eql rfl rfl) ?_
          refine PL.nil ?_
          refine thA_n ?_
          rcases cond_some hh2 with ⟨h_293, hh2⟩ | ⟨h_293, hh2⟩
          rotate_left
          · refine PC.cond_false rfl h_293 ?_
            refine PC.skip ?_
            refine inA_n ?_
            refine thA_n ?_
            obtain ⟨n298, h_299, hh2⟩ := bind_some hh2
            refine PC.region ?_
            refine PL.op rfl (Rd.moveT rfl) ?_
            refine PL.op rfl (Rd.addM rfl rfl h_299) ?_
            refine PL.op rfl (Rd.asnT rfl) ?_
            refine PL.nil ?_
            obtain rfl := some_in hh2
            refine thA_n ?_
            exact ⟨(f284, (i269, n298)), Nat.lt_succ_self _, kk2, [some 0, some 1, some 2], ⟨rfl, rfl, ⟨⟨_, rfl, rfl, rfl, .mx ⟨.t _, .t _, .os rfl, trivial⟩⟩, ⟨_, rfl, rfl, rfl, .tr _⟩, ⟨_, rfl, rfl, rfl, .tr _⟩, trivial⟩, ⟨.op rfl, .os rfl, .t _, .t _, .t _, trivial⟩⟩⟩
          refine PC.cond_true rfl h_293 ?_
          obtain ⟨n294, h_295, hh2⟩ := bind_some hh2
          refine PC.region ?_
          refine PL.op rfl (Rd.moveT rfl) ?_
          refine PL.op rfl (Rd.addM rfl rfl h_295) ?_
          refine PL.op rfl (Rd.asnT rfl) ?_
          refine PL.nil ?_
          refine inA_n ?_
          refine thA_n ?_
          obtain ⟨n296, h_297, hh2⟩ := bind_some hh2
          refine PC.region ?_
          refine PL.op rfl (Rd.moveT rfl) ?_
          refine PL.op rfl (Rd.addM rfl rfl h_297) ?_
          refine PL.op rfl (Rd.asnT rfl) ?_
          refine PL.nil ?_
          obtain rfl := some_in hh2
          refine thA_n ?_
          exact ⟨(f284, (n294, n296)), Nat.lt_succ_self _, kk2, [some 0, some 1, some 2], ⟨rfl, rfl, ⟨⟨_, rfl, rfl, rfl, .mx ⟨.t _, .t _, .os rfl, trivial⟩⟩, ⟨_, rfl, rfl, rfl, .tr _⟩, ⟨_, rfl, rfl, rfl, .tr _⟩, trivial⟩, ⟨.op rfl, .os rfl, .t _, .t _, .t _, trivial⟩⟩⟩
        clear hh1
        rintro i281 hh1
        replace hh1 : m_L_FnValidSpace_k9 N n12 i281 = some y154 := hh1
        unfold m_L_FnValidSpace_k9 at hh1
        refine thA_n ?_
        refine PC.seq ?_
        refine PC.region ?_
        refine PL.op rfl (Rd.moveT rfl) ?_
        refine PL.op rfl (Rd.neq rfl rfl) ?_
        refine PL.nil ?_
        refine thA_n ?_
        rcases cond_some hh1 with ⟨h_287, hh1⟩ | ⟨h_287, hh1⟩
        rotate_left
        · refine PC.cond_true rfl (not_f h_287) ?_
          refine PC.seq ?_
          refine PC.region ?_
          refine PL.op rfl (Rd.asnT rfl) ?_
          refine PL.nil ?_
          refine thA_n ?_
          refine PC.ret ?_
          refine inA_r ?_
          refine thA_r ?_
          refine thA_r ?_
          refine inA_r ?_
          refine thA_r ?_
          obtain rfl := some_in hh1
          obtain rfl : (.inr false : Unit ⊕ Bool) = o151 := kk1
          refine thA_r ?_
          obtain rfl := some_in hh0
          exact FinA.mk (r := bA false) (bl := []) [] (.inl rfl) rfl (rl := [.tmp 2]) (.tmp .nil) rfl rfl rfl (.t _) trivial ⟨rfl, rfl⟩
        refine PC.cond_false rfl (not_t h_287) ?_
        refine PC.skip ?_
        refine inA_n ?_
        refine thA_n ?_
        obtain ⟨n288, h_289, hh1⟩ := bind_some hh1
        refine PC.region ?_
        refine PL.op rfl (Rd.moveT rfl) ?_
        refine PL.op rfl (Rd.addM rfl rfl h_289) ?_
        refine PL.op rfl (Rd.asnT rfl) ?_
        refine PL.nil ?_
        obtain rfl := some_in hh1
        refine thA_n ?_
        exact ⟨(f153, n288), Nat.lt_succ_self _, kk1, [some 0, some 1, some 2], ⟨rfl, rfl, ⟨⟨_, rfl, rfl, rfl, .mx ⟨.t _, .t _, .os rfl, trivial⟩⟩, ⟨_, rfl, rfl, rfl, .tr _⟩, ⟨_, rfl, rfl, rfl, .tr _⟩, trivial⟩, ⟨.op rfl, .os rfl, .t _, trivial⟩⟩⟩
      refine PC.cond_true rfl h_235 ?_
      obtain ⟨n236, h_237, hh1⟩ := bind_some hh1
      refine PC.region ?_
      refine PL.op rfl (Rd.moveT rfl) ?_
      refine PL.op rfl (Rd.addM rfl rfl h_237) ?_
      refine PL.op rfl (Rd.asnT rfl) ?_
      refine PL.nil ?_
      refine thA_n ?_
      refine PC.seq ?_
      refine PC.seq ?_
      refine PC.region ?_
      refine PL.op rfl (Rd.asnT rfl) ?_
      refine PL.nil ?_
      refine thA_n ?_
      obtain ⟨o251, h_252, hh1⟩ := bind_some hh1
      refine PC.cutE hs (fun x : Int => [(3, .op 0 0), (5, .os 2 0 r10.length), (6, iA n12), (7, iA x)]) (fun x => [⟨.mx [iA r2.pages, sL r2.free, .os 1 0 r2.held.length], 30, 0⟩, ⟨.tr (eL r2.held), 42, 2⟩, ⟨.tr (eL r10), 3, 1⟩]) (fun x => m_L_FnValidSpace_k8 N n12 x = some y154) ?_ ?_
      · refine PC.block ?_
        refine PC.loop hs (fun x : Nat × (Int × Int) => [(3, .op 0 0), (5, .os 2 0 r10.length), (6, iA n12), (7, iA x.2.1), (8, iA x.2.2)]) (fun x => [⟨.mx [iA r2.pages, sL r2.free, .os 1 0 r2.held.length], 30, 0⟩, ⟨.tr (eL r2.held), 42, 2⟩, ⟨.tr (eL r10), 3, 1⟩]) (fun x => loopM (β := Int) (fun s : Int × Int => m_L_FnValidSpace_b8 N r2 n12 s.1 s.2) x.1 x.2 = some o251) (fun x => x.1) (N, (n236, (0 : Int))) [some 0, some 1, some 2] ⟨rfl, rfl, ⟨⟨_, rfl, rfl, rfl, .mx ⟨.t _, .t _, .os rfl, trivial⟩⟩, ⟨_, rfl, rfl, rfl, .tr _⟩, ⟨_, rfl, rfl, rfl, .tr _⟩, trivial⟩, ⟨.op rfl, .os rfl, .t _, .t _, .t _, trivial⟩⟩ h_252 ?_
        rintro ⟨f253_, i238, i239⟩ h_255
        obtain ⟨f253, y254, rfl, hh2, kk2⟩ := loopM_some h_255
        replace hh2 : m_L_FnValidSpace_b8 N r2 n12 i238 i239 = some y254 := hh2
        unfold m_L_FnValidSpace_b8 at hh2
        refine PC.seq ?_
        refine PC.seq ?_
        refine PC.region ?_
        refine PL.op rfl (Rd.moveT rfl) ?_
        refine PL.op rfl (Rd.fieldO rfl rfl) ?_
        refine PL.op rfl (Rd.loadO rfl rfl rfl) ?_
        refine PL.op rfl (Rd.lenO rfl rfl) ?_
        refine PL.op rfl (Rd.lss rfl rfl) ?_
        refine PL.nil ?_
        refine thA_n ?_
        rcases cond_some hh2 with ⟨h_259, hh2⟩ | ⟨h_259, hh2⟩
        rotate_left
        · refine PC.cond_false rfl h_259 ?_
          refine PC.exit ?_
          refine thA_e ?_
          refine thA_e ?_
          refine inA_eq rfl ?_
          refine thA_n ?_
          obtain rfl := some_in hh2
          obtain rfl : (i238 : Int) = o251 := kk2
          exact ⟨i238, hh1, [some 0, some 1, some 2], ⟨rfl, rfl, ⟨⟨_, rfl, rfl, rfl, .mx ⟨.t _, .t _, .os rfl, trivial⟩⟩, ⟨_, rfl, rfl, rfl, .tr _⟩, ⟨_, rfl, rfl, rfl, .tr _⟩, trivial⟩, ⟨.op rfl, .os rfl, .t _, .t _, trivial⟩⟩⟩
        refine PC.cond_true rfl h_259 ?_
        refine PC.skip ?_
        refine thA_n ?_
        refine PC.seq ?_
        refine PC.block ?_
        refine PC.seq ?_
        obtain ⟨x260, h_261, hh2⟩ := bind_some hh2
        refine PC.region ?_
        refine PL.op rfl (Rd.fieldO rfl rfl) ?_
        refine PL.op rfl (Rd.loadO rfl rfl rfl) ?_
        refine PL.op rfl (Rd.moveT rfl) ?_
        refine PL.op rfl (Rd.ixOM rfl rfl rfl (ixI_lt h_261)) ?_
        refine PL.op rfl (Rd.fieldO rfl rfl) ?_
        refine PL.op rfl (Rd.owMF (f := 0) rfl rfl h_261 rfl rfl) ?_
        refine PL.op rfl (Rd.moveT rfl) ?_
        refine PL.op rfl (Rd.eql rfl rfl) ?_
        refine PL.nil ?_
        refine thA_n ?_
        rcases cond_some hh2 with ⟨h_262, hh2⟩ | ⟨h_262, hh2⟩
        rotate_left
        · refine PC.cond_false rfl h_262 ?_
          refine PC.skip ?_
          refine inA_n ?_
          refine thA_n ?_
          obtain ⟨n267, h_268, hh2⟩ := bind_some hh2
          refine PC.region ?_
          refine PL.op rfl (Rd.moveT rfl) ?_
          refine PL.op rfl (Rd.addM rfl rfl h_268) ?_
          refine PL.op rfl (Rd.asnT rfl) ?_
          refine PL.nil ?_
          obtain rfl := some_in hh2
          refine thA_n ?_
          exact ⟨(f253, (i238, n267)), Nat.lt_succ_self _, kk2, [some 0, some 1, some 2], ⟨rfl, rfl, ⟨⟨_, rfl, rfl, rfl, .mx ⟨.t _, .t _, .os rfl, trivial⟩⟩, ⟨_, rfl, rfl, rfl, .tr _⟩, ⟨_, rfl, rfl, rfl, .tr _⟩, trivial⟩, ⟨.op rfl, .os rfl, .t _, .t _, .t _, trivial⟩⟩⟩
        refine PC.cond_true rfl h_262 ?_
        obtain ⟨n263, h_264, hh2⟩ := bind_some hh2
        refine PC.region ?_
        refine PL.op rfl (Rd.moveT rfl) ?_
        refine PL.op rfl (Rd.addM rfl rfl h_264) ?_
        refine PL.op rfl (Rd.asnT rfl) ?_
        refine PL.nil ?_
        refine inA_n ?_
        refine thA_n ?_
        obtain ⟨n265, h_266, hh2⟩ := bind_some hh2
        refine PC.region ?_
        refine PL.op rfl (Rd.moveT rfl) ?_
        refine PL.op rfl (Rd.addM rfl rfl h_266) ?_
        refine PL.op rfl (Rd.asnT rfl) ?_
        refine PL.nil ?_
        obtain rfl := some_in hh2
        refine thA_n ?_
        exact ⟨(f253, (n263, n265)), Nat.lt_succ_self _, kk2, [some 0, some 1, some 2], ⟨rfl, rfl, ⟨⟨_, rfl, rfl, rfl, .mx ⟨.t _, .t _, .os rfl, trivial⟩⟩, ⟨_, rfl, rfl, rfl, .tr _⟩, ⟨_, rfl, rfl, rfl, .tr _⟩, trivial⟩, ⟨.op rfl, .os rfl, .t _, .t _, .t _, trivial⟩⟩⟩
      clear hh1
      rintro i250 hh1
      replace hh1 : m_L_FnValidSpace_k8 N n12 i250 = some y154 := hh1
      unfold m_L_FnValidSpace_k8 at hh1
      refine thA_n ?_
      refine PC.seq ?_
      refine PC.region ?_
      refine PL.op rfl (Rd.moveT rfl) ?_
      refine PL.op rfl (Rd.neq rfl rfl) ?_
      refine PL.nil ?_
      refine thA_n ?_
      rcases cond_some hh1 with ⟨h_256, hh1⟩ | ⟨h_256, hh1⟩
      rotate_left
      · refine PC.cond_true rfl (not_f h_256) ?_
        refine PC.seq ?_
        refine PC.region ?_
        refine PL.op rfl (Rd.asnT rfl) ?_
        refine PL.nil ?_
        refine thA_n ?_
        refine PC.ret ?_
        refine inA_r ?_
        refine thA_r ?_
        refine thA_r ?_
        refine inA_r ?_
        refine thA_r ?_
        obtain rfl := some_in hh1
        obtain rfl : (.inr false : Unit ⊕ Bool) = o151 := kk1
        refine thA_r ?_
        obtain rfl := some_in hh0
        exact FinA.mk (r := bA false) (bl := []) [] (.inl rfl) rfl (rl := [.tmp 2]) (.tmp .nil) rfl rfl rfl (.t _) trivial ⟨rfl, rfl⟩
      refine PC.cond_false rfl (not_t h_256) ?_
      refine PC.skip ?_
      refine inA_n ?_
      refine thA_n ?_
      obtain ⟨n257, h_258, hh1⟩ := bind_some hh1
      refine PC.region ?_
      refine PL.op rfl (Rd.moveT rfl) ?_
      refine PL.op rfl (Rd.addM rfl rfl h_258) ?_
      refine PL.op rfl (Rd.asnT rfl) ?_
      refine PL.nil ?_
      obtain rfl := some_in hh1
      refine thA_n ?_
      exact ⟨(f153, n257), Nat.lt_succ_self _, kk1, [some 0, some 1, some 2], ⟨rfl, rfl, ⟨⟨_, rfl, rfl, rfl, .mx ⟨.t _, .t _, .os rfl, trivial⟩⟩, ⟨_, rfl, rfl, rfl, .tr _⟩, ⟨_, rfl, rfl, rfl, .tr _⟩, trivial⟩, ⟨.op rfl, .os rfl, .t _, trivial⟩⟩⟩
    refine PC.cond_true rfl h_163 ?_
    obtain ⟨n164, h_165, hh1⟩ := bind_some hh1
    refine PC.region ?_
    refine PL.op rfl (Rd.moveT rfl) ?_
    refine PL.op rfl (Rd.addM rfl rfl h_165) ?_
    refine PL.op rfl (Rd.asnT rfl) ?_
    refine PL.nil ?_
    refine thA_n ?_
    refine PC.seq ?_
    refine PC.seq ?_
    obtain ⟨r166, h_167, hh1⟩ := bind_some hh1
    refine PC.region ?_
    refine PL.op rfl (Rd.moveO rfl) ?_
    refine PL.op rfl (Rd.moveT rfl) ?_
    refine PL.callM true [] (w_L_isIn N r10 n12 r166 h_167) rfl Try.call26 rfl ⟨.own rfl (by first | decide | exact List.not_mem_nil) rfl rfl, .t _, trivial⟩ rfl trivial (fun _ => ⟨trivial, flat_nil⟩) ?_
    refine PL.nil ?_
    refine thA_n ?_
    rcases cond_some hh1 with ⟨h_168, hh1⟩ | ⟨h_168, hh1⟩
    rotate_left
    · refine PC.cond_false rfl h_168 ?_
      refine PC.skip ?_
      refine thA_n ?_
      refine PC.seq ?_
      refine PC.seq ?_
      refine PC.region ?_
      refine PL.op rfl (Rd.asnT rfl) ?_
      refine PL.nil ?_
      refine thA_n ?_
      obtain ⟨o215, h_216, hh1⟩ := bind_some hh1
      refine PC.cutE hs (fun x : Int => [(3, .op 0 0), (5, .os 2 0 r10.length), (6, iA n12), (7, iA x)]) (fun x => [⟨.mx [iA r2.pages, sL r2.free, .os 1 0 r2.held.length], 30, 0⟩, ⟨.tr (eL r2.held), 42, 2⟩, ⟨.tr (eL r10), 3, 1⟩]) (fun x => m_L_FnValidSpace_k7 N n12 x = some y154) ?_ ?_
      · refine PC.block ?_
        refine PC.loop hs (fun x : Nat × (Int × Int) => [(3, .op 0 0), (5, .os 2 0 r10.length), (6, iA n12), (7, iA x.2.1), (8, iA x.2.2)]) (fun x => [⟨.mx [iA r2.pages, sL r2.free, .os 1 0 r2.held.length], 30, 0⟩, ⟨.tr (eL r2.held), 42, 2⟩, ⟨.tr (eL r10), 3, 1⟩]) (fun x => loopM (β := Int) (fun s : Int × Int => m_L_FnValidSpace_b7 N r2 n12 s.1 s.2) x.1 x.2 = some o215) (fun x => x.1) (N, (n164, (0 : Int))) [some 0, some 1, some 2] ⟨rfl, rfl, ⟨⟨_, rfl, rfl, rfl, .mx ⟨.t _, .t _, .os rfl, trivial⟩⟩, ⟨_, rfl, rfl, rfl, .tr _⟩, ⟨_, rfl, rfl, rfl, .tr _⟩, trivial⟩, ⟨.op rfl, .os rfl, .t _, .t _, .t _, trivial⟩⟩ h_216 ?_
        rintro ⟨f217_, i202, i203⟩ h_219
        obtain ⟨f217, y218, rfl, hh2, kk2⟩ := loopM_some h_219
        replace hh2 : m_L_FnValidSpace_b7 N r2 n12 i202 i203 = some y218 := hh2
        unfold m_L_FnValidSpace_b7 at hh2
        refine PC.seq ?_
        refine PC.seq ?_
        refine PC.region ?_
        refine PL.op rfl (Rd.moveT rfl) ?_
        refine PL.op rfl (Rd.fieldO rfl rfl) ?_
        refine PL.op rfl (Rd.loadO rfl rfl rfl) ?_
        refine PL.op rfl (Rd.lenO rfl rfl) ?_
        refine PL.op rfl (Rd.lss rfl rfl) ?_
        refine PL.nil ?_
        refine thA_n ?_
        rcases cond_some hh2 with ⟨h_223, hh2⟩ | ⟨h_223, hh2⟩
        rotate_left
        · refine PC.cond_false rfl h_223 ?_
          refine PC.exit ?_
          refine thA_e ?_
          refine thA_e ?_
          refine inA_eq rfl ?_
          refine thA_n ?_
          obtain rfl := some_in hh2
          obtain rfl : (i202 : Int) = o215 := kk2
          exact ⟨i202, hh1, [some 0, some 1, some 2], ⟨rfl, rfl, ⟨⟨_, rfl, rfl, rfl, .mx ⟨.t _, .t _, .os rfl, trivial⟩⟩, ⟨_, rfl, rfl, rfl, .tr _⟩, ⟨_, rfl, rfl, rfl, .tr _⟩, trivial⟩, ⟨.op rfl, .os rfl, .t _, .t _, trivial⟩⟩⟩
        refine PC.cond_true rfl h_223 ?_
        refine PC.skip ?_
        refine thA_n ?_
        refine PC.seq ?_
        refine PC.block ?_
        refine PC.seq ?_
        obtain ⟨x224, h_225, hh2⟩ := bind_some hh2
        refine PC.region ?_
        refine PL.op rfl (Rd.fieldO rfl rfl) ?_
        refine PL.op rfl (Rd.loadO rfl rfl rfl) ?_
        refine PL.op rfl (Rd.moveT rfl) ?_
        refine PL.op rfl (Rd.ixOM rfl rfl rfl (ixI_lt h_225)) ?_
        refine PL.op rfl (Rd.fieldO rfl rfl) ?_
        refine PL.op rfl (Rd.owMF (f := 0) rfl rfl h_225 rfl rfl) ?_
        refine PL.op rfl (Rd.moveT rfl) ?_
        refine PL.op rfl (Rd.eql rfl rfl) ?_
        refine PL.nil ?_
        refine thA_n ?_
        rcases cond_some hh2 with ⟨h_226, hh2⟩ | ⟨h_226, hh2⟩
        rotate_left
        · refine PC.cond_false rfl h_226 ?_
          refine PC.skip ?_
          refine inA_n ?_
          refine thA_n ?_
          obtain ⟨n231, h_232, hh2⟩ := bind_some hh2
          refine PC.region ?_
          refine PL.op rfl (Rd.moveT rfl) ?_
          refine PL.op rfl (Rd.addM rfl rfl h_232) ?_
          refine PL.op rfl (Rd.asnT rfl) ?_
          refine PL.nil ?_
          obtain rfl := some_in hh2
          refine thA_n ?_
          exact ⟨(f217, (i202, n231)), Nat.lt_succ_self _, kk2, [some 0, some 1, some 2], ⟨rfl, rfl, ⟨⟨_, rfl, rfl, rfl, .mx ⟨.t _, .t _, .os rfl, trivial⟩⟩, ⟨_, rfl, rfl, rfl, .tr _⟩, ⟨_, rfl, rfl, rfl, .tr _⟩, trivial⟩, ⟨.op rfl, .os rfl, .t _, .t _, .t _, trivial⟩⟩⟩
        refine PC.cond_true rfl h_226 ?_
        obtain ⟨n227, h_228, hh2⟩ := bind_some hh2
        refine PC.region ?_
        refine PL.op rfl (Rd.moveT rfl) ?_
        refine PL.op rfl (Rd.addM rfl rfl h_228) ?_
        refine PL.op rfl (Rd.asnT rfl) ?_
        refine PL.nil ?_
        refine inA_n ?_
        refine thA_n ?_
        obtain ⟨n229, h_230, hh2⟩ := bind_some hh2
        refine PC.region ?_
        refine PL.op rfl (Rd.moveT rfl) ?_
        refine PL.op rfl (Rd.addM rfl rfl h_230) ?_
        refine PL.op rfl (Rd.asnT rfl) ?_
        refine PL.nil ?_
        obtain rfl := some_in hh2
        refine thA_n ?_
        exact ⟨(f217, (n227, n229)), Nat.lt_succ_self _, kk2, [some 0, some 1, some 2], ⟨rfl, rfl, ⟨⟨_, rfl, rfl, rfl, .mx ⟨.t _, .t _, .os rfl, trivial⟩⟩, ⟨_, rfl, rfl, rfl, .tr _⟩, ⟨_, rfl, rfl, rfl, .tr _⟩, trivial⟩, ⟨.op rfl, .os rfl, .t _, .t _, .t _, trivial⟩⟩⟩
      clear hh1
      rintro i214 hh1
      replace hh1 : m_L_FnValidSpace_k7 N n12 i214 = some y154 := hh1
      unfold m_L_FnValidSpace_k7 at hh1
      refine thA_n ?_
      refine PC.seq ?_
      refine PC.region ?_
      refine PL.op rfl (Rd.moveT rfl) ?_
      refine PL.op rfl (Rd.neq rfl rfl) ?_
      refine PL.nil ?_
      refine thA_n ?_
      rcases cond_some hh1 with ⟨h_220, hh1⟩ | ⟨h_220, hh1⟩
      rotate_left
      · refine PC.cond_true rfl (not_f h_220) ?_
        refine PC.seq ?_
        refine PC.region ?_
        refine PL.op rfl (Rd.asnT rfl) ?_
        refine PL.nil ?_
        refine thA_n ?_
        refine PC.ret ?_
        refine inA_r ?_
        refine thA_r ?_
        refine thA_r ?_
        refine inA_r ?_
        refine thA_r ?_
        obtain rfl := some_in hh1
        obtain rfl : (.inr false : Unit ⊕ Bool) = o151 := kk1
        refine thA_r ?_
        obtain rfl := some_in hh0
        exact FinA.mk (r := bA false) (bl := []) [] (.inl rfl) rfl (rl := [.tmp 2]) (.tmp .nil) rfl rfl rfl (.t _) trivial ⟨rfl, rfl⟩
      refine PC.cond_false rfl (not_t h_220) ?_
      refine PC.skip ?_
      refine inA_n ?_
      refine thA_n ?_
      obtain ⟨n221, h_222, hh1⟩ := bind_some hh1
      refine PC.region ?_
      refine PL.op rfl (Rd.moveT rfl) ?_
      refine PL.op rfl (Rd.addM rfl rfl h_222) ?_
      refine PL.op rfl (Rd.asnT rfl) ?_
      refine PL.nil ?_
      obtain rfl := some_in hh1
      refine thA_n ?_
      exact ⟨(f153, n221), Nat.lt_succ_self _, kk1, [some 0, some 1, some 2], ⟨rfl, rfl, ⟨⟨_, rfl, rfl, rfl, .mx ⟨.t _, .t _, .os rfl, trivial⟩⟩, ⟨_, rfl, rfl, rfl, .tr _⟩, ⟨_, rfl, rfl, rfl, .tr _⟩, trivial⟩, ⟨.op rfl, .os rfl, .t _, trivial⟩⟩⟩
    refine PC.cond_true rfl h_168 ?_
    obtain ⟨n169, h_170, hh1⟩ := bind_some hh1
    refine PC.region ?_
    refine PL.op rfl (Rd.moveT rfl) ?_
    refine PL.op rfl (Rd.addM rfl rfl h_170) ?_
    refine PL.op rfl (Rd.asnT rfl) ?_
    refine PL.nil ?_
    refine thA_n ?_
    refine PC.seq ?_
    refine PC.seq ?_
    refine PC.region ?_
    refine PL.op rfl (Rd.asnT rfl) ?_
    refine PL.nil ?_
    refine thA_n ?_
    obtain ⟨o184, h_185, hh1⟩ := bind_some hh1
    refine PC.cutE hs (fun x : Int => [(3, .op 0 0), (5, .os 2 0 r10.length), (6, iA n12), (7, iA x)]) (fun x => [⟨.mx [iA r2.pages, sL r2.free, .os 1 0 r2.held.length], 30, 0⟩, ⟨.tr (eL r2.held), 42, 2⟩, ⟨.tr (eL r10), 3, 1⟩]) (fun x => m_L_FnValidSpace_k6 N n12 x = some y154) ?_ ?_
    · refine PC.block ?_
      refine PC.loop hs (fun x : Nat × (Int × Int) => [(3, .op 0 0), (5, .os 2 0 r10.length), (6, iA n12), (7, iA x.2.1), (8, iA x.2.2)]) (fun x => [⟨.mx [iA r2.pages, sL r2.free, .os 1 0 r2.held.length], 30, 0⟩, ⟨.tr (eL r2.held), 42, 2⟩, ⟨.tr (eL r10), 3, 1⟩]) (fun x => loopM (β := Int) (fun s : Int × Int => m_L_FnValidSpace_b6 N r2 n12 s.1 s.2) x.1 x.2 = some o184) (fun x => x.1) (N, (n169, (0 : Int))) [some 0, some 1, some 2] ⟨rfl, rfl, ⟨⟨_, rfl, rfl, rfl, .mx ⟨.t _, .t _, .os rfl, trivial⟩⟩, ⟨_, rfl, rfl, rfl, .tr _⟩, ⟨_, rfl, rfl, rfl, .tr _⟩, trivial⟩, ⟨.op rfl, .os rfl, .t _, .t _, .t _, trivial⟩⟩ h_185 ?_
      rintro ⟨f186_, i171, i172⟩ h_188
      obtain ⟨f186, y187, rfl, hh2, kk2⟩ := loopM_some h_188
      replace hh2 : m_L_FnValidSpace_b6 N r2 n12 i171 i172 = some y187 := hh2
      unfold m_L_FnValidSpace_b6 at hh2
      refine PC.seq ?_
      refine PC.seq ?_
      refine PC.region ?_
      refine PL.op rfl (Rd.moveT rfl) ?_
      refine PL.op rfl (Rd.fieldO rfl rfl) ?_
      refine PL.op rfl (Rd.loadO rfl rfl rfl) ?_
      refine PL.op rfl (Rd.lenO rfl rfl) ?_
      refine PL.op rfl (Rd.lss rfl rfl) ?_
      refine PL.nil ?_
      refine thA_n ?_
      rcases cond_some hh2 with ⟨h_192, hh2⟩ | ⟨h_192, hh2⟩
      rotate_left
      · refine PC.cond_false rfl h_192 ?_
        refine PC.exit ?_
        refine thA_e ?_
        refine thA_e ?_
        refine inA_eq rfl ?_
        refine thA_n ?_
        obtain rfl := some_in hh2
        obtain rfl : (i171 : Int) = o184 := kk2
        exact ⟨i171, hh1, [some 0, some 1, some 2], ⟨rfl, rfl, ⟨⟨_, rfl, rfl, rfl, .mx ⟨.t _, .t _, .os rfl, trivial⟩⟩, ⟨_, rfl, rfl, rfl, .tr _⟩, ⟨_, rfl, rfl, rfl, .tr _⟩, trivial⟩, ⟨.op rfl, .os rfl, .t _, .t _, trivial⟩⟩⟩
      refine PC.cond_true rfl h_192 ?_
      refine PC.skip ?_
      refine thA_n ?_
      refine PC.seq ?_
      refine PC.block ?_
      refine PC.seq ?_
      obtain ⟨x193, h_194, hh2⟩ := bind_some hh2
      refine PC.region ?_
      refine PL.op rfl (Rd.fieldO rfl rfl) ?_
      refine PL.op rfl (Rd.loadO rfl rfl rfl) ?_
      refine PL.op rfl (Rd.moveT rfl) ?_
      refine PL.op rfl (Rd.ixOM rfl rfl rfl (ixI_lt h_194)) ?_
      refine PL.op rfl (Rd.fieldO rfl rfl) ?_
      refine PL.op rfl (Rd.owMF (f := 0) rfl rfl h_194 rfl rfl) ?_
      refine PL.op rfl (Rd.moveT rfl) ?_
      refine PL.op rfl (Rd.eql rfl rfl) ?_
      refine PL.nil ?_
      refine thA_n ?_
      rcases cond_some hh2 with ⟨h_195, hh2⟩ | ⟨h_195, hh2⟩
      rotate_left
      · refine PC.cond_false rfl h_195 ?_
        refine PC.skip ?_
        refine inA_n ?_
        refine thA_n ?_
        obtain ⟨n200, h_201, hh2⟩ := bind_some hh2
        refine PC.region ?_
        refine PL.op rfl (Rd.moveT rfl) ?_
        refine PL.op rfl (Rd.addM rfl rfl h_201) ?_
        refine PL.op rfl (Rd.asnT rfl) ?_
        refine PL.nil ?_
        obtain rfl := some_in hh2
        refine thA_n ?_
        exact ⟨(f186, (i171, n200)), Nat.lt_succ_self _, kk2, [some 0, some 1, some 2], ⟨rfl, rfl, ⟨⟨_, rfl, rfl, rfl, .mx ⟨.t _, .t _, .os rfl, trivial⟩⟩, ⟨_, rfl, rfl, rfl, .tr _⟩, ⟨_, rfl, rfl, rfl, .tr _⟩, trivial⟩, ⟨.op rfl, .os rfl, .t _, .t _, .t _, trivial⟩⟩⟩
      refine PC.cond_true rfl h_195 ?_
      obtain ⟨n196, h_197, hh2⟩ := bind_some hh2
      refine PC.region ?_
      refine PL.op rfl (Rd.moveT rfl) ?_
      refine PL.op rfl (Rd.addM rfl rfl h_197) ?_
      refine PL.op rfl (Rd.asnT rfl) ?_
      refine PL.nil ?_
      refine inA_n ?_
      refine thA_n ?_
      obtain ⟨n198, h_199, hh2⟩ := bind_some hh2
      refine PC.region ?_
      refine PL.op rfl (Rd.moveT rfl) ?_
      refine PL.op rfl (Rd.addM rfl rfl h_199) ?_
      refine PL.op rfl (Rd.asnT rfl) ?_
      refine PL.nil ?_
      obtain rfl := some_in hh2
      refine thA_n ?_
      exact ⟨(f186, (n196, n198)), Nat.lt_succ_self _, kk2, [some 0, some 1, some 2], ⟨rfl, rfl, ⟨⟨_, rfl, rfl, rfl, .mx ⟨.t _, .t _, .os rfl, trivial⟩⟩, ⟨_, rfl, rfl, rfl, .tr _⟩, ⟨_, rfl, rfl, rfl, .tr _⟩, trivial⟩, ⟨.op rfl, .os rfl, .t _, .t _, .t _, trivial⟩⟩⟩
    clear hh1
    rintro i183 hh1
    replace hh1 : m_L_FnValidSpace_k6 N n12 i183 = some y154 := hh1
    unfold m_L_FnValidSpace_k6 at hh1
    refine thA_n ?_
    refine PC.seq ?_
    refine PC.region ?_
    refine PL.op rfl (Rd.moveT rfl) ?_
    refine PL.op rfl (Rd.neq rfl rfl) ?_
    refine PL.nil ?_
    refine thA_n ?_
    rcases cond_some hh1 with ⟨h_189, hh1⟩ | ⟨h_189, hh1⟩
    rotate_left
    · refine PC.cond_true rfl (not_f h_189) ?_
      refine PC.seq ?_
      refine PC.region ?_
      refine PL.op rfl (Rd.asnT rfl) ?_
      refine PL.nil ?_
      refine thA_n ?_
      refine PC.ret ?_
      refine inA_r ?_
      refine thA_r ?_
      refine thA_r ?_
      refine inA_r ?_
      refine thA_r ?_
      obtain rfl := some_in hh1
      obtain rfl : (.inr false : Unit ⊕ Bool) = o151 := kk1
      refine thA_r ?_
      obtain rfl := some_in hh0
      exact FinA.mk (r := bA false) (bl := []) [] (.inl rfl) rfl (rl := [.tmp 2]) (.tmp .nil) rfl rfl rfl (.t _) trivial ⟨rfl, rfl⟩
    refine PC.cond_false rfl (not_t h_189) ?_
    refine PC.skip ?_
    refine inA_n ?_
    refine thA_n ?_
    obtain ⟨n190, h_191, hh1⟩ := bind_some hh1
    refine PC.region ?_
    refine PL.op rfl (Rd.moveT rfl) ?_
    refine PL.op rfl (Rd.addM rfl rfl h_191) ?_
    refine PL.op rfl (Rd.asnT rfl) ?_
    refine PL.nil ?_
    obtain rfl := some_in hh1
    refine thA_n ?_
    exact ⟨(f153, n190), Nat.lt_succ_self _, kk1, [some 0, some 1, some 2], ⟨rfl, rfl, ⟨⟨_, rfl, rfl, rfl, .mx ⟨.t _, .t _, .os rfl, trivial⟩⟩, ⟨_, rfl, rfl, rfl, .tr _⟩, ⟨_, rfl, rfl, rfl, .tr _⟩, trivial⟩, ⟨.op rfl, .os rfl, .t _, trivial⟩⟩⟩
  clear hh0
  rintro ⟨⟩ hh0
  replace hh0 : m_L_FnValidSpace_k5 N r2 r10  = some r := hh0
  unfold m_L_FnValidSpace_k5 at hh0
  refine thA_n ?_
  refine PC.seq ?_
  obtain ⟨n156, h_157, hh0⟩ := bind_some hh0
  obtain ⟨n158, h_159, hh0⟩ := bind_some hh0
  refine PC.region ?_
  refine PL.op rfl (Rd.fieldO rfl rfl) ?_
  refine PL.op rfl (Rd.loadO rfl rfl rfl) ?_
  refine PL.op rfl (Rd.lenT rfl) ?_
  refine PL.op rfl (Rd.fieldO rfl rfl) ?_
  refine PL.op rfl (Rd.loadO rfl rfl rfl) ?_
  refine PL.op rfl (Rd.lenO rfl rfl) ?_
  refine PL.op rfl (Rd.addM rfl rfl h_157) ?_
  refine PL.op rfl (Rd.moveO rfl) ?_
  refine PL.op rfl (Rd.lenO rfl rfl) ?_
  refine PL.op rfl (Rd.addM rfl rfl h_159) ?_
  refine PL.op rfl (Rd.fieldO rfl rfl) ?_
  refine PL.op rfl (Rd.loadO rfl rfl rfl) ?_
  refine PL.op rfl (Rd.eql rfl rfl) ?_
  refine PL.op rfl (Rd.asnT rfl) ?_
  refine PL.nil ?_
  refine thA_n ?_
  refine PC.ret ?_
  obtain rfl := some_in hh0
  exact FinA.mk (r := bA (decide (n158 = r2.pages))) (bl := []) [] (.inl rfl) rfl (rl := [.tmp 2]) (.tmp .nil) rfl rfl rfl (.t _) trivial ⟨rfl, rfl⟩

end V
end Go.Proofs.Ytambkpacecjheaa
