/- Buffers: more of the program's functions. No condition. -/
import Derived.Test.YtifcacahgiihoaaGBuf
namespace Go.Proofs.Ytifcacahgiihoaa
namespace V
open Enc (enc)
set_option linter.unusedVariables false
set_option linter.unusedSimpArgs false
set_option maxHeartbeats 4000000
set_option maxRecDepth 100000
open Go.RowKit
attribute [local irreducible] thA inA FinA eL

def m_slices_Clone_I_Frame (N : Nat) (p_s : List I_Frame) : Option (List I_Frame) := appM 32 ([] : List I_Frame) p_s
theorem w_slices_Clone_I_Frame (N : Nat) (p_s : List I_Frame) (r : List I_Frame) (hh0 : m_slices_Clone_I_Frame N p_s = some r) : FnX Try.prog 47 [] [sL p_s] (RE (.os 0 0 r.length) [⟨.tr (eL r), 59, 4⟩]) := by
  unfold m_slices_Clone_I_Frame at hh0
  have hr := (appM_spec hh0).1
  simp only [List.nil_append] at hr
  refine FnX.mk Try.func47 rfl rfl ?_
  intro s hs
  refine PC.seq ?_
  refine PC.region ?_
  refine PL.op rfl (Rd.asnT rfl) ?_
  refine PL.nil ?_
  refine thA_n ?_
  refine PC.seq ?_
  refine PC.seq ?_
  refine PC.region ?_
  refine PL.op rfl (Rd.moveT rfl) ?_
  refine PL.eqNil rfl rfl rfl ?_
  intro b hb
  refine PL.nil ?_
  refine thA_n ?_
  cases b with
  | true =>
    have h0 : p_s = [] := List.eq_nil_of_length_eq_zero (hb rfl)
    subst h0; subst hr
    refine PC.cond_true rfl rfl ?_
    refine PC.seq ?_
    refine PC.region ?_
    refine PL.op rfl (Rd.asnT rfl) ?_
    refine PL.nil ?_
    refine thA_n ?_
    refine PC.ret ?_
    refine thA_r ?_
    exact FinA.mk (r := .os 0 0 0) (bl := [⟨.tr (eL ([] : List I_Frame)), 59, 4⟩]) [none] (.inl rfl) rfl (rl := [.tmp 2]) (.tmp .nil) rfl rfl rfl (.osn rfl) ⟨ow_nil _, trivial⟩ ⟨rfl, rfl⟩
  | false =>
    clear hr
    refine PC.cond_false rfl rfl ?_
    refine PC.skip ?_
    refine thA_n ?_
    refine PC.seq ?_
    refine PC.region ?_
    refine PL.ef rfl (Ef.lit0M I_Frame) ?_
    refine PL.op rfl (Rd.moveT rfl) ?_
    refine PL.apM hs rfl rfl rfl rfl (SrcA.eL rfl) rfl rfl rfl rfl hh0 ?_
    refine PL.op rfl (Rd.asnO rfl) ?_
    refine PL.nil ?_
    refine thA_n ?_
    refine PC.ret ?_
    exact FinA.mk (r := .os 0 0 r.length) (bl := [⟨.tr (eL r), 59, 4⟩]) [some 1] (.inl rfl) rfl (rl := [.tmp 2]) (.tmp .nil) rfl rfl rfl (.os rfl) ⟨⟨_, rfl, rfl, rfl, .tr _⟩, trivial⟩ ⟨rfl, rfl⟩

def m_I_Buffer_clone (N : Nat) (p_b : I_Buffer) : Option (I_Buffer) :=
  (m_slices_Clone_I_Frame N p_b.frames).bind fun r1 =>
  some (I_Buffer.mk r1 p_b.forced)
theorem w_I_Buffer_clone (N : Nat) (p_b : I_Buffer) (r : I_Buffer) (hh0 : m_I_Buffer_clone N p_b = some r) : FnX Try.prog 33 [] [.agg [sL p_b.frames, iA p_b.forced]] (RE (.agg [.os 0 0 r.frames.length, iA r.forced]) [⟨.tr (eL r.frames), 59, 4⟩]) := by
  unfold m_I_Buffer_clone at hh0
  refine FnX.mk Try.func33 rfl rfl ?_
  intro s hs
  refine PC.seq ?_
  refine PC.region ?_
  refine PL.ef rfl (Ef.box rfl rfl rfl) ?_
  refine PL.nm (.op 0 0) [some ⟨.mx [sL p_b.frames, iA p_b.forced], 28, 0⟩] rfl rfl ?_
  refine PL.ef rfl (Ef.alloc rfl rfl) ?_
  refine PL.nm (.op 1 0) [some ⟨.mx [sL p_b.frames, iA p_b.forced], 28, 0⟩, some ⟨.mx [.t (.v (.slice none 0 0)), iA (0 : Int)], 28, 0⟩] rfl rfl ?_
  refine PL.nil ?_
  refine thA_n ?_
  refine PC.seq ?_
  obtain ⟨r1, h_2, hh0⟩ := bind_some hh0
  refine PC.any (id := 1) 6 (.seg [0, 1, 3, 4, 2, 5] .done) [] rfl (by kernel_rfl) rfl ?_
  refine PT.seg ?_
  refine PR.op rfl (Rd.fieldO rfl rfl) ?_
  refine PR.op rfl (Rd.loadO rfl rfl rfl) ?_
  refine PR.op rfl (Rd.fieldO rfl rfl) ?_
  refine PR.op rfl (Rd.loadO rfl rfl rfl) ?_
  refine PR.callM false [] (w_slices_Clone_I_Frame N p_b.frames r1 h_2) rfl Try.call47 rfl ⟨.t _, trivial⟩ rfl trivial (fun h => by cases h) rfl ?_
  refine PR.nm (.os 2 0 r1.length) [some ⟨.mx [sL p_b.frames, iA p_b.forced], 28, 0⟩, some ⟨.mx [.t (.v (.slice none 0 0)), iA (0 : Int)], 28, 0⟩, some ⟨.tr (eL r1), 59, 4⟩] rfl rfl ?_
  refine PR.op rfl (Rd.build rfl rfl rfl rfl) ?_
  refine PR.nil ?_
  refine PT.done ?_
  refine PL.store rfl rfl rfl rfl rfl rfl rfl ?_
  refine PL.nO [some ⟨.mx [sL p_b.frames, iA p_b.forced], 28, 0⟩, some ⟨.mx [.os 2 0 r1.length, iA p_b.forced], 28, 0⟩, some ⟨.tr (eL r1), 59, 4⟩] rfl ?_
  refine PL.nil ?_
  refine thA_n ?_
  refine PC.ret ?_
  obtain rfl := some_in hh0
  exact FinA.mk (r := .agg [.os 0 0 r1.length, iA p_b.forced]) (bl := [⟨.tr (eL r1), 59, 4⟩]) [some 2] (.inl rfl) rfl (rl := [.cell 2 28]) (.cellN rfl rfl rfl rfl .nil) rfl rfl rfl (.aggL ⟨.os rfl, .t _, trivial⟩) ⟨⟨_, rfl, rfl, rfl, .tr _⟩, trivial⟩ ⟨rfl, rfl⟩

def m_I_ForceLog (N : Nat) (p_b : I_Buffer) (p_lsn : Int) : Option (I_Buffer) :=
  (m_I_ValidBuffer N p_b).bind fun r1 =>
  cond r1
    (cond (decide (p_lsn < (0 : Int)))
      (some (I_Buffer.mk ([] : List I_Frame) (0 : Int)))
      (cond (decide ((9999 : Int) < p_lsn))
        (some (I_Buffer.mk ([] : List I_Frame) (0 : Int)))
        ((m_I_Buffer_clone N p_b).bind fun r6 =>
        some (I_Buffer.mk r6.frames (max r6.forced p_lsn)))))
    (some (I_Buffer.mk ([] : List I_Frame) (0 : Int)))
theorem w_I_ForceLog (N : Nat) (p_b : I_Buffer) (p_lsn : Int) (r : I_Buffer) (hh0 : m_I_ForceLog N p_b p_lsn = some r) : FnX Try.prog 14 [] [.agg [sL p_b.frames, iA p_b.forced], iA p_lsn] (RE (.agg [.os 0 0 r.frames.length, iA r.forced]) [⟨.tr (eL r.frames), 59, 4⟩]) := by
  unfold m_I_ForceLog at hh0
  refine FnX.mk Try.func14 rfl rfl ?_
  intro s hs
  refine PC.seq ?_
  refine PC.region ?_
  refine PL.ef rfl (Ef.box rfl rfl rfl) ?_
  refine PL.nm (.op 0 0) [some ⟨.mx [sL p_b.frames, iA p_b.forced], 28, 0⟩] rfl rfl ?_
  refine PL.ef rfl (Ef.alloc rfl rfl) ?_
  refine PL.nm (.op 1 0) [some ⟨.mx [sL p_b.frames, iA p_b.forced], 28, 0⟩, some ⟨.mx [.t (.v (.slice none 0 0)), iA (0 : Int)], 28, 0⟩] rfl rfl ?_
  refine PL.nil ?_
  refine thA_n ?_
  refine PC.seq ?_
  refine PC.seq ?_
  obtain ⟨r1, h_2, hh0⟩ := bind_some hh0
  rcases cond_some hh0 with ⟨h_3, hh0⟩ | ⟨h_3, hh0⟩
  rotate_left
  · refine PC.region ?_
    refine PL.op rfl (Rd.loadBox rfl rfl rfl) ?_
    refine PL.callM false [] (w_I_ValidBuffer N p_b r1 h_2) rfl Try.call20 rfl ⟨.aggL ⟨.t _, .t _, trivial⟩, trivial⟩ rfl trivial (fun h => by cases h) ?_
    refine PL.op rfl (Rd.unnot rfl) ?_
    refine PL.op rfl (Rd.moveT rfl) ?_
    refine PL.guard_off rfl rfl (not_f h_3) ?_
    refine PL.guard_off rfl rfl (not_f h_3) ?_
    refine PL.op rfl (Rd.pick_t rfl (not_f h_3)) ?_
    refine PL.op rfl (Rd.moveT rfl) ?_
    refine PL.guard_off rfl rfl rfl ?_
    refine PL.guard_off rfl rfl rfl ?_
    refine PL.op rfl (Rd.pick_t rfl rfl) ?_
    refine PL.nil ?_
    refine thA_n ?_
    refine PC.cond_true rfl rfl ?_
    refine PC.seq ?_
    refine PC.region ?_
    refine PL.op rfl (Rd.build rfl rfl rfl rfl) ?_
    refine PL.store rfl rfl rfl rfl rfl rfl rfl ?_
    refine PL.nil ?_
    refine thA_n ?_
    refine PC.ret ?_
    refine thA_r ?_
    obtain rfl := some_in hh0
    exact FinA.mk (r := .agg [.os 0 0 0, iA (0 : Int)]) (bl := [⟨.tr (eL ([] : List I_Frame)), 59, 4⟩]) [none] (.inl rfl) rfl (rl := [.cell 4 28]) (.cellN rfl rfl rfl rfl .nil) rfl rfl rfl (.aggL ⟨.osn rfl, .t _, trivial⟩) ⟨ow_nil _, trivial⟩ ⟨rfl, rfl⟩
  rcases cond_some hh0 with ⟨h_4, hh0⟩ | ⟨h_4, hh0⟩
  · refine PC.region ?_
    refine PL.op rfl (Rd.loadBox rfl rfl rfl) ?_
    refine PL.callM false [] (w_I_ValidBuffer N p_b r1 h_2) rfl Try.call20 rfl ⟨.aggL ⟨.t _, .t _, trivial⟩, trivial⟩ rfl trivial (fun h => by cases h) ?_
    refine PL.op rfl (Rd.unnot rfl) ?_
    refine PL.op rfl (Rd.moveT rfl) ?_
    refine PL.guard_on rfl (not_t h_3) ?_
    refine PL.op rfl (Rd.moveT rfl) ?_
    refine PL.guard_on rfl (not_t h_3) ?_
    refine PL.op rfl (Rd.lss rfl rfl) ?_
    refine PL.op rfl (Rd.pick_f rfl (not_t h_3)) ?_
    refine PL.op rfl (Rd.moveT rfl) ?_
    refine PL.guard_off rfl rfl h_4 ?_
    refine PL.guard_off rfl rfl h_4 ?_
    refine PL.op rfl (Rd.pick_t rfl h_4) ?_
    refine PL.nil ?_
    refine thA_n ?_
    refine PC.cond_true rfl rfl ?_
    refine PC.seq ?_
    refine PC.region ?_
    refine PL.op rfl (Rd.build rfl rfl rfl rfl) ?_
    refine PL.store rfl rfl rfl rfl rfl rfl rfl ?_
    refine PL.nil ?_
    refine thA_n ?_
    refine PC.ret ?_
    refine thA_r ?_
    obtain rfl := some_in hh0
    exact FinA.mk (r := .agg [.os 0 0 0, iA (0 : Int)]) (bl := [⟨.tr (eL ([] : List I_Frame)), 59, 4⟩]) [none] (.inl rfl) rfl (rl := [.cell 4 28]) (.cellN rfl rfl rfl rfl .nil) rfl rfl rfl (.aggL ⟨.osn rfl, .t _, trivial⟩) ⟨ow_nil _, trivial⟩ ⟨rfl, rfl⟩
  refine PC.region ?_
  refine PL.op rfl (Rd.loadBox rfl rfl rfl) ?_
  refine PL.callM false [] (w_I_ValidBuffer N p_b r1 h_2) rfl Try.call20 rfl ⟨.aggL ⟨.t _, .t _, trivial⟩, trivial⟩ rfl trivial (fun h => by cases h) ?_
  refine PL.op rfl (Rd.unnot rfl) ?_
  refine PL.op rfl (Rd.moveT rfl) ?_
  refine PL.guard_on rfl (not_t h_3) ?_
  refine PL.op rfl (Rd.moveT rfl) ?_
  refine PL.guard_on rfl (not_t h_3) ?_
  refine PL.op rfl (Rd.lss rfl rfl) ?_
  refine PL.op rfl (Rd.pick_f rfl (not_t h_3)) ?_
  refine PL.op rfl (Rd.moveT rfl) ?_
  refine PL.guard_on rfl h_4 ?_
  refine PL.op rfl (Rd.moveT rfl) ?_
  refine PL.guard_on rfl h_4 ?_
  refine PL.op rfl (Rd.gtr rfl rfl) ?_
  refine PL.op rfl (Rd.pick_f rfl h_4) ?_
  refine PL.nil ?_
  refine thA_n ?_
  rcases cond_some hh0 with ⟨h_5, hh0⟩ | ⟨h_5, hh0⟩
  · refine PC.cond_true rfl h_5 ?_
    refine PC.seq ?_
    refine PC.region ?_
    refine PL.op rfl (Rd.build rfl rfl rfl rfl) ?_
    refine PL.store rfl rfl rfl rfl rfl rfl rfl ?_
    refine PL.nil ?_
    refine thA_n ?_
    refine PC.ret ?_
    refine thA_r ?_
    obtain rfl := some_in hh0
    exact FinA.mk (r := .agg [.os 0 0 0, iA (0 : Int)]) (bl := [⟨.tr (eL ([] : List I_Frame)), 59, 4⟩]) [none] (.inl rfl) rfl (rl := [.cell 4 28]) (.cellN rfl rfl rfl rfl .nil) rfl rfl rfl (.aggL ⟨.osn rfl, .t _, trivial⟩) ⟨ow_nil _, trivial⟩ ⟨rfl, rfl⟩
  refine PC.cond_false rfl h_5 ?_
  refine PC.skip ?_
  refine thA_n ?_
  refine PC.seq ?_
  obtain ⟨r6, h_7, hh0⟩ := bind_some hh0
  refine PC.region ?_
  refine PL.op rfl (Rd.loadBox rfl rfl rfl) ?_
  refine PL.callM false [] (w_I_Buffer_clone N p_b r6 h_7) rfl Try.call33 rfl ⟨.aggL ⟨.t _, .t _, trivial⟩, trivial⟩ rfl trivial (fun h => by cases h) ?_
  refine PL.nm (.agg [.os 2 0 r6.frames.length, iA r6.forced]) [some ⟨.mx [sL p_b.frames, iA p_b.forced], 28, 0⟩, some ⟨.mx [.t (.v (.slice none 0 0)), iA (0 : Int)], 28, 0⟩, some ⟨.tr (eL r6.frames), 59, 4⟩] rfl rfl ?_
  refine PL.ef rfl (Ef.alloc rfl rfl) ?_
  refine PL.nm (.op 3 0) [some ⟨.mx [sL p_b.frames, iA p_b.forced], 28, 0⟩, some ⟨.mx [.t (.v (.slice none 0 0)), iA (0 : Int)], 28, 0⟩, some ⟨.tr (eL r6.frames), 59, 4⟩, some ⟨.mx [.t (.v (.slice none 0 0)), iA (0 : Int)], 28, 0⟩] rfl rfl ?_
  refine PL.store rfl rfl rfl rfl rfl rfl rfl ?_
  refine PL.nO [some ⟨.mx [sL p_b.frames, iA p_b.forced], 28, 0⟩, some ⟨.mx [.t (.v (.slice none 0 0)), iA (0 : Int)], 28, 0⟩, some ⟨.tr (eL r6.frames), 59, 4⟩, some ⟨.mx [.os 2 0 r6.frames.length, iA r6.forced], 28, 0⟩] rfl ?_
  refine PL.nil ?_
  refine thA_n ?_
  refine PC.seq ?_
  refine PC.region ?_
  refine PL.op rfl (Rd.fieldO rfl rfl) ?_
  refine PL.op rfl (Rd.loadO rfl rfl rfl) ?_
  refine PL.op rfl (Rd.moveT rfl) ?_
  refine PL.op rfl (Rd.max2 rfl rfl) ?_
  refine PL.op rfl (Rd.fieldO rfl rfl) ?_
  refine PL.store rfl rfl rfl rfl rfl rfl rfl ?_
  refine PL.nO [some ⟨.mx [sL p_b.frames, iA p_b.forced], 28, 0⟩, some ⟨.mx [.t (.v (.slice none 0 0)), iA (0 : Int)], 28, 0⟩, some ⟨.tr (eL r6.frames), 59, 4⟩, some ⟨.mx [.os 2 0 r6.frames.length, iA (max r6.forced p_lsn)], 28, 0⟩] rfl ?_
  refine PL.nil ?_
  refine thA_n ?_
  refine PC.seq ?_
  refine PC.region ?_
  refine PL.op rfl (Rd.loadBox rfl rfl rfl) ?_
  refine PL.store rfl rfl rfl rfl rfl rfl rfl ?_
  refine PL.nO [some ⟨.mx [sL p_b.frames, iA p_b.forced], 28, 0⟩, some ⟨.mx [.os 2 0 r6.frames.length, iA (max r6.forced p_lsn)], 28, 0⟩, some ⟨.tr (eL r6.frames), 59, 4⟩, some ⟨.mx [.os 2 0 r6.frames.length, iA (max r6.forced p_lsn)], 28, 0⟩] rfl ?_
  refine PL.nil ?_
  refine thA_n ?_
  refine PC.ret ?_
  obtain rfl := some_in hh0
  exact FinA.mk (r := .agg [.os 0 0 r6.frames.length, iA (max r6.forced p_lsn)]) (bl := [⟨.tr (eL r6.frames), 59, 4⟩]) [some 2] (.inl rfl) rfl (rl := [.cell 4 28]) (.cellN rfl rfl rfl rfl .nil) rfl rfl rfl (.aggL ⟨.os rfl, .t _, trivial⟩) ⟨⟨_, rfl, rfl, rfl, .tr _⟩, trivial⟩ ⟨rfl, rfl⟩

def m_I_WritePage (N : Nat) (p_b : I_Buffer) (p_page : Int) : Option (I_Buffer × Bool) :=
  (m_I_CanWrite N p_b p_page).bind fun r1 =>
  cond r1
    ((m_I_Buffer_clone N p_b).bind fun r4 =>
    (m_I_Buffer_find N r4 p_page).bind fun r6 =>
    (ixI r4.frames r6).bind fun x8 =>
    some ((I_Buffer.mk ((r4.frames.set r6.toNat (I_Frame.mk x8.page false x8.first x8.last)).set r6.toNat (I_Frame.mk x8.page false (0 : Int) x8.last)) r4.forced), true))
    (some ((I_Buffer.mk ([] : List I_Frame) (0 : Int)), false))
theorem w_I_WritePage (N : Nat) (p_b : I_Buffer) (p_page : Int) (r : I_Buffer × Bool) (hh0 : m_I_WritePage N p_b p_page = some r) : FnX Try.prog 26 [] [.agg [sL p_b.frames, iA p_b.forced], iA p_page] (RE (.tup [.agg [.os 0 0 r.1.frames.length, iA r.1.forced], bA r.2]) [⟨.tr (eL r.1.frames), 59, 4⟩]) := by
  unfold m_I_WritePage at hh0
  refine FnX.mk Try.func26 rfl rfl ?_
  intro s hs
  refine PC.seq ?_
  refine PC.region ?_
  refine PL.ef rfl (Ef.box rfl rfl rfl) ?_
  refine PL.nm (.op 0 0) [some ⟨.mx [sL p_b.frames, iA p_b.forced], 28, 0⟩] rfl rfl ?_
  refine PL.ef rfl (Ef.alloc rfl rfl) ?_
  refine PL.nm (.op 1 0) [some ⟨.mx [sL p_b.frames, iA p_b.forced], 28, 0⟩, some ⟨.mx [.t (.v (.slice none 0 0)), iA (0 : Int)], 28, 0⟩] rfl rfl ?_
  refine PL.op rfl (Rd.asnT rfl) ?_
  refine PL.nil ?_
  refine thA_n ?_
  refine PC.seq ?_
  refine PC.seq ?_
  obtain ⟨r1, h_2, hh0⟩ := bind_some hh0
  refine PC.region ?_
  refine PL.op rfl (Rd.loadBox rfl rfl rfl) ?_
  refine PL.op rfl (Rd.moveT rfl) ?_
  refine PL.callM false [] (w_I_CanWrite N p_b p_page r1 h_2) rfl Try.call21 rfl ⟨.aggL ⟨.t _, .t _, trivial⟩, .t _, trivial⟩ rfl trivial (fun h => by cases h) ?_
  refine PL.op rfl (Rd.unnot rfl) ?_
  refine PL.nil ?_
  refine thA_n ?_
  rcases cond_some hh0 with ⟨h_3, hh0⟩ | ⟨h_3, hh0⟩
  rotate_left
  · refine PC.cond_true rfl (not_f h_3) ?_
    refine PC.seq ?_
    refine PC.region ?_
    refine PL.op rfl (Rd.build rfl rfl rfl rfl) ?_
    refine PL.store rfl rfl rfl rfl rfl rfl rfl ?_
    refine PL.op rfl (Rd.asnT rfl) ?_
    refine PL.nil ?_
    refine thA_n ?_
    refine PC.ret ?_
    refine thA_r ?_
    obtain rfl := some_in hh0
    exact FinA.mk (r := .tup [.agg [.os 0 0 ((((I_Buffer.mk ([] : List I_Frame) (0 : Int)), false).1.frames).length), iA (((I_Buffer.mk ([] : List I_Frame) (0 : Int)), false).1.forced)], bA (((I_Buffer.mk ([] : List I_Frame) (0 : Int)), false).2)]) (bl := [⟨.tr (eL (((I_Buffer.mk ([] : List I_Frame) (0 : Int)), false).1.frames)), 59, 4⟩]) [none] (.inl rfl) rfl (rl := [.cell 4 28, .tmp 5]) (.cellN rfl rfl rfl rfl (.tmp .nil)) rfl rfl rfl (.tupL ⟨.aggL ⟨.osn rfl, .t _, trivial⟩, .t _, trivial⟩) ⟨ow_nil _, trivial⟩ ⟨rfl, rfl⟩
  refine PC.cond_false rfl (not_t h_3) ?_
  refine PC.skip ?_
  refine thA_n ?_
  refine PC.seq ?_
  obtain ⟨r4, h_5, hh0⟩ := bind_some hh0
  refine PC.region ?_
  refine PL.op rfl (Rd.loadBox rfl rfl rfl) ?_
  refine PL.callM false [] (w_I_Buffer_clone N p_b r4 h_5) rfl Try.call33 rfl ⟨.aggL ⟨.t _, .t _, trivial⟩, trivial⟩ rfl trivial (fun h => by cases h) ?_
  refine PL.nm (.agg [.os 2 0 r4.frames.length, iA r4.forced]) [some ⟨.mx [sL p_b.frames, iA p_b.forced], 28, 0⟩, some ⟨.mx [.t (.v (.slice none 0 0)), iA (0 : Int)], 28, 0⟩, some ⟨.tr (eL r4.frames), 59, 4⟩] rfl rfl ?_
  refine PL.ef rfl (Ef.alloc rfl rfl) ?_
  refine PL.nm (.op 3 0) [some ⟨.mx [sL p_b.frames, iA p_b.forced], 28, 0⟩, some ⟨.mx [.t (.v (.slice none 0 0)), iA (0 : Int)], 28, 0⟩, some ⟨.tr (eL r4.frames), 59, 4⟩, some ⟨.mx [.t (.v (.slice none 0 0)), iA (0 : Int)], 28, 0⟩] rfl rfl ?_
  refine PL.store rfl rfl rfl rfl rfl rfl rfl ?_
  refine PL.nO [some ⟨.mx [sL p_b.frames, iA p_b.forced], 28, 0⟩, some ⟨.mx [.t (.v (.slice none 0 0)), iA (0 : Int)], 28, 0⟩, some ⟨.tr (eL r4.frames), 59, 4⟩, some ⟨.mx [.os 2 0 r4.frames.length, iA r4.forced], 28, 0⟩] rfl ?_
  refine PL.nil ?_
  refine thA_n ?_
  refine PC.seq ?_
  obtain ⟨r6, h_7, hh0⟩ := bind_some hh0
  obtain ⟨x8, h_9, hh0⟩ := bind_some hh0
  refine PC.any (id := 4) 7 (.seg [0, 1, 2, 3, 4, 5, 6] .done) [] rfl (by kernel_rfl) rfl ?_
  refine PT.seg ?_
  refine PR.op rfl (Rd.fieldO rfl rfl) ?_
  refine PR.op rfl (Rd.loadO rfl rfl rfl) ?_
  refine PR.op rfl (Rd.loadBox rfl rfl rfl) ?_
  refine PR.op rfl (Rd.moveT rfl) ?_
  refine PR.callM true [] (w_I_Buffer_find N r4 p_page r6 h_7) rfl Try.call41 rfl ⟨.aggL ⟨.own rfl (by first | decide | exact List.not_mem_nil) rfl rfl, .t _, trivial⟩, .t _, trivial⟩ rfl trivial (fun _ => ⟨trivial, flat_nil⟩) rfl ?_
  refine PR.op rfl (Rd.ixOM rfl rfl rfl (ixI_lt h_9)) ?_
  refine PR.op rfl (Rd.asnP rfl) ?_
  refine PR.nil ?_
  refine PT.done ?_
  refine PL.nil ?_
  refine thA_n ?_
  refine PC.seq ?_
  refine PC.region ?_
  refine PL.op rfl (Rd.moveP rfl) ?_
  refine PL.op rfl (Rd.nilCheckO rfl rfl) ?_
  refine PL.op rfl (Rd.fieldO rfl rfl) ?_
  refine PL.stFM (f := 1) (I_Frame.mk x8.page false x8.first x8.last) rfl rfl rfl rfl h_9 rfl rfl ?_
  refine PL.nO [some ⟨.mx [sL p_b.frames, iA p_b.forced], 28, 0⟩, some ⟨.mx [.t (.v (.slice none 0 0)), iA (0 : Int)], 28, 0⟩, some ⟨.tr (eL (r4.frames.set r6.toNat (I_Frame.mk x8.page false x8.first x8.last))), 59, 4⟩, some ⟨.mx [.os 2 0 r4.frames.length, iA r4.forced], 28, 0⟩] rfl ?_
  refine PL.nil ?_
  refine thA_n ?_
  refine PC.seq ?_
  refine PC.region ?_
  refine PL.op rfl (Rd.moveP rfl) ?_
  refine PL.op rfl (Rd.nilCheckO rfl rfl) ?_
  refine PL.op rfl (Rd.fieldO rfl rfl) ?_
  refine PL.stFM (f := 2) (I_Frame.mk x8.page false (0 : Int) x8.last) rfl rfl rfl rfl (ixI_set (y := (I_Frame.mk x8.page false x8.first x8.last)) h_9) rfl rfl ?_
  refine PL.nO [some ⟨.mx [sL p_b.frames, iA p_b.forced], 28, 0⟩, some ⟨.mx [.t (.v (.slice none 0 0)), iA (0 : Int)], 28, 0⟩, some ⟨.tr (eL ((r4.frames.set r6.toNat (I_Frame.mk x8.page false x8.first x8.last)).set r6.toNat (I_Frame.mk x8.page false (0 : Int) x8.last))), 59, 4⟩, some ⟨.mx [.os 2 0 r4.frames.length, iA r4.forced], 28, 0⟩] rfl ?_
  refine PL.nil ?_
  refine thA_n ?_
  refine PC.seq ?_
  refine PC.region ?_
  refine PL.op rfl (Rd.loadBox rfl rfl rfl) ?_
  refine PL.store rfl rfl rfl rfl rfl rfl rfl ?_
  refine PL.nO [some ⟨.mx [sL p_b.frames, iA p_b.forced], 28, 0⟩, some ⟨.mx [.os 2 0 r4.frames.length, iA r4.forced], 28, 0⟩, some ⟨.tr (eL ((r4.frames.set r6.toNat (I_Frame.mk x8.page false x8.first x8.last)).set r6.toNat (I_Frame.mk x8.page false (0 : Int) x8.last))), 59, 4⟩, some ⟨.mx [.os 2 0 r4.frames.length, iA r4.forced], 28, 0⟩] rfl ?_
  refine PL.op rfl (Rd.asnT rfl) ?_
  refine PL.nil ?_
  refine thA_n ?_
  refine PC.ret ?_
  obtain rfl := some_in hh0
  exact FinA.mk (r := .tup [.agg [.os 0 0 ((((I_Buffer.mk ((r4.frames.set r6.toNat (I_Frame.mk x8.page false x8.first x8.last)).set r6.toNat (I_Frame.mk x8.page false (0 : Int) x8.last)) r4.forced), true).1.frames).length), iA (((I_Buffer.mk ((r4.frames.set r6.toNat (I_Frame.mk x8.page false x8.first x8.last)).set r6.toNat (I_Frame.mk x8.page false (0 : Int) x8.last)) r4.forced), true).1.forced)], bA (((I_Buffer.mk ((r4.frames.set r6.toNat (I_Frame.mk x8.page false x8.first x8.last)).set r6.toNat (I_Frame.mk x8.page false (0 : Int) x8.last)) r4.forced), true).2)]) (bl := [⟨.tr (eL (((I_Buffer.mk ((r4.frames.set r6.toNat (I_Frame.mk x8.page false x8.first x8.last)).set r6.toNat (I_Frame.mk x8.page false (0 : Int) x8.last)) r4.forced), true).1.frames)), 59, 4⟩]) [some 2] (.inl rfl) rfl (rl := [.cell 4 28, .tmp 5]) (.cellN rfl rfl rfl rfl (.tmp .nil)) rfl rfl rfl (.tupL ⟨.aggL ⟨.osE rfl (by simp only [List.length_set]), .t _, trivial⟩, .t _, trivial⟩) ⟨⟨_, rfl, rfl, rfl, .tr _⟩, trivial⟩ ⟨rfl, rfl⟩

def m_S_newReader (N : Nat) (p_code : (List UInt8)) : Option (S_reader) :=
  cond (decide ((2000 : Int) < (p_code.length : Int)))
    ((V.subM p_code (0 : Int) (2000 : Int)).bind fun xs2 =>
    some (S_reader.mk xs2 (0 : Int)))
    (some (S_reader.mk p_code (0 : Int)))
theorem w_S_newReader (N : Nat) (p_code : (List UInt8)) (r : S_reader) (hh0 : m_S_newReader N p_code = some r) : FnX Try.prog 37 [] [sL p_code] (RE (.op 0 0) [⟨.mx [sL r.b, iA r.p], 68, 0⟩]) := by
  unfold m_S_newReader at hh0
  refine FnX.mk Try.func37 rfl rfl ?_
  intro s hs
  refine PC.seq ?_
  refine PC.region ?_
  refine PL.op rfl (Rd.asnT rfl) ?_
  refine PL.nil ?_
  refine thA_n ?_
  refine PC.seq ?_
  refine PC.seq ?_
  refine PC.region ?_
  refine PL.op rfl (Rd.moveT rfl) ?_
  refine PL.op rfl (Rd.lenT rfl) ?_
  refine PL.op rfl (Rd.gtr rfl rfl) ?_
  refine PL.nil ?_
  refine thA_n ?_
  rcases cond_some hh0 with ⟨h_1, hh0⟩ | ⟨h_1, hh0⟩
  rotate_left
  · refine PC.cond_false rfl h_1 ?_
    refine PC.skip ?_
    refine thA_n ?_
    refine PC.seq ?_
    refine PC.region ?_
    refine PL.op rfl (Rd.moveT rfl) ?_
    refine PL.op rfl (Rd.build rfl rfl rfl rfl) ?_
    refine PL.ef rfl (Ef.box rfl rfl rfl) ?_
    refine PL.nm (.op 0 0) [some ⟨.mx [sL p_code, iA (0 : Int)], 68, 0⟩] rfl rfl ?_
    refine PL.op rfl (Rd.asnP rfl) ?_
    refine PL.nil ?_
    refine thA_n ?_
    refine PC.ret ?_
    obtain rfl := some_in hh0
    exact FinA.mk (r := .op 0 0) (bl := [⟨.mx [sL p_code, iA (0 : Int)], 68, 0⟩]) [some 0] (.inl rfl) rfl (rl := [.tmp 2]) (.tmp .nil) rfl rfl rfl (.op rfl) ⟨⟨_, rfl, rfl, rfl, .mx ⟨.t _, .t _, trivial⟩⟩, trivial⟩ ⟨rfl, rfl⟩
  refine PC.cond_true rfl h_1 ?_
  obtain ⟨xs2, h_3, hh0⟩ := bind_some hh0
  refine PC.region ?_
  refine PL.op rfl (Rd.moveT rfl) ?_
  refine PL.op rfl (Rd.subTMH rfl rfl h_3) ?_
  refine PL.op rfl (Rd.asnT rfl) ?_
  refine PL.nil ?_
  refine thA_n ?_
  refine PC.seq ?_
  refine PC.region ?_
  refine PL.op rfl (Rd.moveT rfl) ?_
  refine PL.op rfl (Rd.build rfl rfl rfl rfl) ?_
  refine PL.ef rfl (Ef.box rfl rfl rfl) ?_
  refine PL.nm (.op 0 0) [some ⟨.mx [sL xs2, iA (0 : Int)], 68, 0⟩] rfl rfl ?_
  refine PL.op rfl (Rd.asnP rfl) ?_
  refine PL.nil ?_
  refine thA_n ?_
  refine PC.ret ?_
  obtain rfl := some_in hh0
  exact FinA.mk (r := .op 0 0) (bl := [⟨.mx [sL xs2, iA (0 : Int)], 68, 0⟩]) [some 0] (.inl rfl) rfl (rl := [.tmp 2]) (.tmp .nil) rfl rfl rfl (.op rfl) ⟨⟨_, rfl, rfl, rfl, .mx ⟨.t _, .t _, trivial⟩⟩, trivial⟩ ⟨rfl, rfl⟩

end V
end Go.Proofs.Ytifcacahgiihoaa
