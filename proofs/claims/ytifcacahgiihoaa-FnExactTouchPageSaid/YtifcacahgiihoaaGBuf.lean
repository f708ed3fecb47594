/- Buffers: functions of plain data, and walks that the program computes just these. No condition. -/
import Derived.Test.YtifcacahgiihoaaGenA
namespace Go.Proofs.Ytifcacahgiihoaa
namespace V
open Enc (enc)
set_option linter.unusedVariables false
set_option linter.unusedSimpArgs false
set_option maxHeartbeats 4000000
set_option maxRecDepth 100000
open Go.RowKit
attribute [local irreducible] thA inA FinA eL

structure L_Frame where
  page : Int
  dirty : Bool
  first : Int
  last : Int
deriving DecidableEq
instance : Enc L_Frame := ⟨fun x => [.v (.int .i64 x.page), .v (.bool x.dirty), .v (.int .i64 x.first), .v (.int .i64 x.last)], 4, fun _ => rfl⟩
instance : EncF L_Frame := ⟨fun _ c h => by simp [enc] at h; rcases h with h | h | h | h <;> exact ⟨_, h⟩⟩
structure L_Buffer where
  frames : List L_Frame
  forced : Int
deriving DecidableEq
instance : Enc L_Buffer := ⟨fun x => [.sl x.frames.length (eL x.frames), .v (.int .i64 x.forced)], 2, fun _ => rfl⟩
structure I_Frame where
  page : Int
  dirty : Bool
  first : Int
  last : Int
deriving DecidableEq
instance : Enc I_Frame := ⟨fun x => [.v (.int .i64 x.page), .v (.bool x.dirty), .v (.int .i64 x.first), .v (.int .i64 x.last)], 4, fun _ => rfl⟩
instance : EncF I_Frame := ⟨fun _ c h => by simp [enc] at h; rcases h with h | h | h | h <;> exact ⟨_, h⟩⟩
structure I_Buffer where
  frames : List I_Frame
  forced : Int
deriving DecidableEq
instance : Enc I_Buffer := ⟨fun x => [.sl x.frames.length (eL x.frames), .v (.int .i64 x.forced)], 2, fun _ => rfl⟩
structure S_reader where
  b : List UInt8
  p : Int
deriving DecidableEq
instance : Enc S_reader := ⟨fun x => [.sl x.b.length (eL x.b), .v (.int .i64 x.p)], 2, fun _ => rfl⟩
def m_S_inRange (N : Nat) (p_n : Int) (p_low : Int) (p_high : Int) : Option (Bool) :=
  cond (decide (p_low ≤ p_n))
    (some (decide (p_n ≤ p_high)))
    (some false)
theorem w_S_inRange (N : Nat) (p_n : Int) (p_low : Int) (p_high : Int) (r : Bool) (hh0 : m_S_inRange N p_n p_low p_high = some r) : FnX Try.prog 31 [] [iA p_n, iA p_low, iA p_high] (RE (bA r) []) := by
  unfold m_S_inRange at hh0
  refine FnX.mk Try.func31 rfl rfl ?_
  intro s hs
  refine PC.seq ?_
  refine PC.region ?_
  refine PL.op rfl (Rd.asnT rfl) ?_
  refine PL.nil ?_
  refine thA_n ?_
  refine PC.seq ?_
  rcases cond_some hh0 with ⟨h_1, hh0⟩ | ⟨h_1, hh0⟩
  rotate_left
  · refine PC.region ?_
    refine PL.op rfl (Rd.moveT rfl) ?_
    refine PL.op rfl (Rd.moveT rfl) ?_
    refine PL.op rfl (Rd.leq rfl rfl) ?_
    refine PL.op rfl (Rd.moveT rfl) ?_
    refine PL.guard_off rfl rfl h_1 ?_
    refine PL.guard_off rfl rfl h_1 ?_
    refine PL.guard_off rfl rfl h_1 ?_
    refine PL.op rfl (Rd.pick_f rfl h_1) ?_
    refine PL.op rfl (Rd.asnT rfl) ?_
    refine PL.nil ?_
    refine thA_n ?_
    refine PC.ret ?_
    obtain rfl := some_in hh0
    exact FinA.mk (r := bA false) (bl := []) [] (.inl rfl) rfl (rl := [.tmp 6]) (.tmp .nil) rfl rfl rfl (.t _) trivial ⟨rfl, rfl⟩
  refine PC.region ?_
  refine PL.op rfl (Rd.moveT rfl) ?_
  refine PL.op rfl (Rd.moveT rfl) ?_
  refine PL.op rfl (Rd.leq rfl rfl) ?_
  refine PL.op rfl (Rd.moveT rfl) ?_
  refine PL.guard_on rfl h_1 ?_
  refine PL.op rfl (Rd.moveT rfl) ?_
  refine PL.guard_on rfl h_1 ?_
  refine PL.op rfl (Rd.moveT rfl) ?_
  refine PL.guard_on rfl h_1 ?_
  refine PL.op rfl (Rd.leq rfl rfl) ?_
  refine PL.op rfl (Rd.pick_t rfl h_1) ?_
  refine PL.op rfl (Rd.asnT rfl) ?_
  refine PL.nil ?_
  refine thA_n ?_
  refine PC.ret ?_
  obtain rfl := some_in hh0
  exact FinA.mk (r := bA (decide (p_n ≤ p_high))) (bl := []) [] (.inl rfl) rfl (rl := [.tmp 6]) (.tmp .nil) rfl rfl rfl (.t _) trivial ⟨rfl, rfl⟩

def m_I_Buffer_find_1 (N : Nat) (p_f : I_Frame) (p_c0 : Int) : Option (Bool) :=
  some (decide (p_f.page = p_c0))
theorem w_I_Buffer_find_1 (N : Nat) (p_f : I_Frame) (p_c0 : Int) (r : Bool) (hh0 : m_I_Buffer_find_1 N p_f p_c0 = some r) : FnX Try.prog 51 [] ((.agg [iA p_f.page, bA p_f.dirty, iA p_f.first, iA p_f.last]) :: [Tr.pt [.v (.int .i64 p_c0)] 0].map .t) (RE (bA r) []) := by
  unfold m_I_Buffer_find_1 at hh0
  refine FnX.mk Try.func51 rfl rfl ?_
  intro s hs
  refine PC.seq ?_
  refine PC.region ?_
  refine PL.ef rfl (Ef.box rfl rfl rfl) ?_
  refine PL.nm (.op 0 0) [some ⟨.mx [iA p_f.page, bA p_f.dirty, iA p_f.first, iA p_f.last], 59, 0⟩] rfl rfl ?_
  refine PL.op rfl (Rd.asnT rfl) ?_
  refine PL.nil ?_
  refine thA_n ?_
  refine PC.seq ?_
  refine PC.region ?_
  refine PL.op rfl (Rd.fieldO rfl rfl) ?_
  refine PL.op rfl (Rd.loadO rfl rfl rfl) ?_
  refine PL.op rfl (Rd.loadT rfl rfl) ?_
  refine PL.op rfl (Rd.eql rfl rfl) ?_
  refine PL.op rfl (Rd.asnT rfl) ?_
  refine PL.nil ?_
  refine thA_n ?_
  refine PC.ret ?_
  obtain rfl := some_in hh0
  exact FinA.mk (r := bA (decide (p_f.page = p_c0))) (bl := []) [] (.inl rfl) rfl (rl := [.tmp 3]) (.tmp .nil) rfl rfl rfl (.t _) trivial ⟨rfl, rfl⟩

def m_slices_IndexFunc_I_Frame_k1 (N : Nat) (p_f : I_Frame → Option Bool) : Option (Int) :=
  some (-1 : Int)
def m_slices_IndexFunc_I_Frame_b1 (N : Nat) (p_f : I_Frame → Option Bool) (p_s : (List I_Frame)) (i1 : Int) : Option (Int ⊕ (Unit ⊕ Int)) :=
  cond (decide (i1 < (p_s.length : Int)))
    ((ixI p_s i1).bind fun x16 =>
    (p_f x16).bind fun r18 =>
    cond r18
      (some (.inr (.inr i1)))
      ((chk (i1 + (1 : Int))).bind fun n21 =>
      some (.inl n21)))
    (some (.inr (.inl ())))
def m_slices_IndexFunc_I_Frame (N : Nat) (p_s : (List I_Frame)) (p_f : I_Frame → Option Bool) : Option (Int) :=
  (loopM (β := Unit ⊕ Int) (fun s : Int => m_slices_IndexFunc_I_Frame_b1 N p_f p_s s) N (0 : Int)).bind fun o => match o with
  | .inl e =>
    m_slices_IndexFunc_I_Frame_k1 N p_f 
  | .inr v =>
    some v
theorem w_slices_IndexFunc_I_Frame (N : Nat) (p_s : (List I_Frame)) (p_f : I_Frame → Option Bool) (g_p_f : FuncId) (c_p_f : List Tr) (hr_p_f : ∀ args w, (callFunc g_p_f args).run Try.prog w = .ok (.enter g_p_f args) w) (hp_p_f : ∀ (a0 : I_Frame) r, p_f a0 = some r → Fn Try.prog g_p_f ((.agg [iA a0.page, bA a0.dirty, iA a0.first, iA a0.last]) :: c_p_f.map .t) (RE (bA r) [])) (r : Int) (hh0 : m_slices_IndexFunc_I_Frame N p_s p_f = some r) : FnX Try.prog 50 [] [sL p_s, .t (.fn (.func g_p_f) c_p_f)] (RE (iA r) []) := by
  unfold m_slices_IndexFunc_I_Frame at hh0
  refine FnX.mk Try.func50 rfl rfl ?_
  intro s hs
  refine PC.seq ?_
  refine PC.region ?_
  refine PL.op rfl (Rd.asnT rfl) ?_
  refine PL.nil ?_
  refine thA_n ?_
  refine PC.seq ?_
  refine PC.seq ?_
  refine PC.region ?_
  refine PL.op rfl (Rd.moveT rfl) ?_
  refine PL.op rfl (Rd.lenT rfl) ?_
  refine PL.op rfl (Rd.moveT rfl) ?_
  refine PL.nil ?_
  refine thA_n ?_
  obtain ⟨o10, h_11, hh0⟩ := bind_some hh0
  refine PC.cutE hs (fun x : Unit => []) (fun x => []) (fun x => m_slices_IndexFunc_I_Frame_k1 N p_f  = some r) ?_ ?_
  · refine PC.block ?_
    refine PC.loop hs (fun x : Nat × (Int) => [(0, sL p_s), (1, .t (.fn (.func g_p_f) c_p_f)), (7, iA (p_s.length : Int)), (8, iA x.2)]) (fun x => []) (fun x => loopM (β := Unit ⊕ Int) (fun s : Int => m_slices_IndexFunc_I_Frame_b1 N p_f p_s s) x.1 x.2 = some o10) (fun x => x.1) (N, (0 : Int)) [] ⟨rfl, rfl, trivial, ⟨.t _, .t _, .t _, .t _, trivial⟩⟩ h_11 ?_
    rintro ⟨f12_, i1⟩ h_14
    obtain ⟨f12, y13, rfl, hh1, kk1⟩ := loopM_some h_14
    replace hh1 : m_slices_IndexFunc_I_Frame_b1 N p_f p_s i1 = some y13 := hh1
    unfold m_slices_IndexFunc_I_Frame_b1 at hh1
    refine PC.seq ?_
    refine PC.region ?_
    refine PL.op rfl (Rd.lss rfl rfl) ?_
    refine PL.nil ?_
    refine thA_n ?_
    refine PC.seq ?_
    rcases cond_some hh1 with ⟨h_15, hh1⟩ | ⟨h_15, hh1⟩
    rotate_left
    · refine PC.cond_false rfl h_15 ?_
      refine PC.exit ?_
      refine thA_e ?_
      refine thA_e ?_
      refine inA_eq rfl ?_
      refine thA_n ?_
      obtain rfl := some_in hh1
      obtain rfl : (.inl () : Unit ⊕ Int) = o10 := kk1
      exact ⟨(), hh0, [], ⟨rfl, rfl, trivial, trivial⟩⟩
    refine PC.cond_true rfl h_15 ?_
    refine PC.skip ?_
    refine thA_n ?_
    refine PC.seq ?_
    refine PC.block ?_
    refine PC.seq ?_
    refine PC.region ?_
    refine PL.op rfl (Rd.moveT rfl) ?_
    refine PL.op rfl (Rd.asnT rfl) ?_
    refine PL.nil ?_
    refine thA_n ?_
    refine PC.seq ?_
    obtain ⟨x16, h_17, hh1⟩ := bind_some hh1
    obtain ⟨r18, h_19, hh1⟩ := bind_some hh1
    refine PC.region ?_
    refine PL.op rfl (Rd.moveT rfl) ?_
    refine PL.op rfl (Rd.moveT rfl) ?_
    refine PL.op rfl (Rd.moveT rfl) ?_
    refine PL.op rfl (Rd.ixM rfl rfl h_17) ?_
    refine PL.op rfl (Rd.elMR rfl h_17 rfl rfl) ?_
    refine PL.callF1M (hp_p_f x16 _ h_19) rfl rfl rfl hr_p_f (.aggL (by repeat (first | exact trivial | refine ⟨.t _, ?_⟩))) ?_
    refine PL.nil ?_
    refine thA_n ?_
    rcases cond_some hh1 with ⟨h_20, hh1⟩ | ⟨h_20, hh1⟩
    rotate_left
    · refine PC.cond_false rfl h_20 ?_
      refine PC.skip ?_
      refine inA_n ?_
      refine thA_n ?_
      obtain ⟨n21, h_22, hh1⟩ := bind_some hh1
      refine PC.region ?_
      refine PL.op rfl (Rd.addM rfl rfl h_22) ?_
      refine PL.op rfl (Rd.moveT rfl) ?_
      refine PL.nil ?_
      obtain rfl := some_in hh1
      refine thA_n ?_
      exact ⟨(f12, n21), Nat.lt_succ_self _, kk1, [], ⟨rfl, rfl, trivial, ⟨.t _, .t _, .t _, .t _, trivial⟩⟩⟩
    refine PC.cond_true rfl h_20 ?_
    refine PC.seq ?_
    refine PC.region ?_
    refine PL.op rfl (Rd.moveT rfl) ?_
    refine PL.op rfl (Rd.asnT rfl) ?_
    refine PL.nil ?_
    refine thA_n ?_
    refine PC.ret ?_
    refine inA_r ?_
    refine thA_r ?_
    refine thA_r ?_
    refine inA_r ?_
    refine thA_r ?_
    obtain rfl := some_in hh1
    obtain rfl : (.inr i1 : Unit ⊕ Int) = o10 := kk1
    refine thA_r ?_
    obtain rfl := some_in hh0
    exact FinA.mk (r := iA i1) (bl := []) [] (.inl rfl) rfl (rl := [.tmp 4]) (.tmp .nil) rfl rfl rfl (.t _) trivial ⟨rfl, rfl⟩
  clear hh0
  rintro ⟨⟩ hh0
  replace hh0 : m_slices_IndexFunc_I_Frame_k1 N p_f  = some r := hh0
  unfold m_slices_IndexFunc_I_Frame_k1 at hh0
  refine thA_n ?_
  refine PC.seq ?_
  refine PC.region ?_
  refine PL.op rfl (Rd.asnT rfl) ?_
  refine PL.nil ?_
  refine thA_n ?_
  refine PC.ret ?_
  obtain rfl := some_in hh0
  exact FinA.mk (r := iA (-1 : Int)) (bl := []) [] (.inl rfl) rfl (rl := [.tmp 4]) (.tmp .nil) rfl rfl rfl (.t _) trivial ⟨rfl, rfl⟩

def m_I_Buffer_find (N : Nat) (p_b : I_Buffer) (p_page : Int) : Option (Int) :=
  (m_slices_IndexFunc_I_Frame N p_b.frames (fun a0 => m_I_Buffer_find_1 N a0 p_page)).bind fun r1 =>
  some r1
theorem w_I_Buffer_find (N : Nat) (p_b : I_Buffer) (p_page : Int) (r : Int) (hh0 : m_I_Buffer_find N p_b p_page = some r) : FnX Try.prog 41 [] [.agg [sL p_b.frames, iA p_b.forced], iA p_page] (RE (iA r) []) := by
  unfold m_I_Buffer_find at hh0
  refine FnX.mk Try.func41 rfl rfl ?_
  intro s hs
  refine PC.seq ?_
  refine PC.region ?_
  refine PL.ef rfl (Ef.box rfl rfl rfl) ?_
  refine PL.nm (.op 0 0) [some ⟨.mx [sL p_b.frames, iA p_b.forced], 28, 0⟩] rfl rfl ?_
  refine PL.ef rfl (Ef.box rfl rfl rfl) ?_
  refine PL.nm (.op 1 0) [some ⟨.mx [sL p_b.frames, iA p_b.forced], 28, 0⟩, some ⟨.mx [iA p_page], 3, 0⟩] rfl rfl ?_
  refine PL.op rfl (Rd.asnT rfl) ?_
  refine PL.nil ?_
  refine thA_n ?_
  refine PC.seq ?_
  obtain ⟨r1, h_2, hh0⟩ := bind_some hh0
  refine PC.region ?_
  refine PL.op rfl (Rd.fieldO rfl rfl) ?_
  refine PL.op rfl (Rd.loadO rfl rfl rfl) ?_
  refine PL.op rfl (Rd.makeFunc rfl) ?_
  refine PL.callM true [] (w_slices_IndexFunc_I_Frame N p_b.frames (fun a0 => m_I_Buffer_find_1 N a0 p_page) 51 [Tr.pt [.v (.int .i64 p_page)] 0] Try.call51 (fun a0 r h => w_I_Buffer_find_1 N a0 p_page r h) r1 h_2) rfl Try.call50 rfl ⟨.t _, Sb.fntL ⟨Sb.fzp rfl rfl (by first | decide | exact List.not_mem_nil) rfl, trivial⟩, trivial⟩ rfl trivial (fun _ => ⟨trivial, flat_nil⟩) ?_
  refine PL.op rfl (Rd.asnT rfl) ?_
  refine PL.nil ?_
  refine thA_n ?_
  refine PC.ret ?_
  obtain rfl := some_in hh0
  exact FinA.mk (r := iA r1) (bl := []) [] (.inl rfl) rfl (rl := [.tmp 4]) (.tmp .nil) rfl rfl rfl (.t _) trivial ⟨rfl, rfl⟩

def m_I_ValidBuffer_k1 (N : Nat) : Option (Bool) :=
  some true
def m_I_ValidBuffer_b1 (N : Nat) (p_b : I_Buffer) (i4 : Int) : Option (Int ⊕ (Unit ⊕ Bool)) :=
  cond (decide (i4 < (p_b.frames.length : Int)))
    ((ixI p_b.frames i4).bind fun x26 =>
    cond (decide (x26.page < (0 : Int)))
      (some (.inr (.inr false)))
      (cond (decide ((6 : Int) ≤ x26.page))
        (some (.inr (.inr false)))
        ((m_I_Buffer_find N p_b x26.page).bind fun r30 =>
        cond (decide (r30 = i4))
          (cond (decide (x26.last < (0 : Int)))
            (some (.inr (.inr false)))
            (cond (decide ((9999 : Int) < x26.last))
              (some (.inr (.inr false)))
              (cond (decide (x26.first < (0 : Int)))
                (some (.inr (.inr false)))
                (cond (decide (x26.last < x26.first))
                  (some (.inr (.inr false)))
                  (cond (x26.dirty == (decide ((0 : Int) < x26.first)))
                    ((chk (i4 + (1 : Int))).bind fun n38 =>
                    some (.inl n38))
                    (some (.inr (.inr false))))))))
          (some (.inr (.inr false))))))
    (some (.inr (.inl ())))
def m_I_ValidBuffer (N : Nat) (p_b : I_Buffer) : Option (Bool) :=
  cond (decide ((4 : Int) < (p_b.frames.length : Int)))
    (some false)
    (cond (decide (p_b.forced < (0 : Int)))
      (some false)
      (cond (decide ((9999 : Int) < p_b.forced))
        (some false)
        ((loopM (β := Unit ⊕ Bool) (fun s : Int => m_I_ValidBuffer_b1 N p_b s) N (0 : Int)).bind fun o => match o with
        | .inl e =>
          m_I_ValidBuffer_k1 N 
        | .inr v =>
          some v)))
theorem w_I_ValidBuffer (N : Nat) (p_b : I_Buffer) (r : Bool) (hh0 : m_I_ValidBuffer N p_b = some r) : FnX Try.prog 20 [] [.agg [sL p_b.frames, iA p_b.forced]] (RE (bA r) []) := by
  unfold m_I_ValidBuffer at hh0
  refine FnX.mk Try.func20 rfl rfl ?_
  intro s hs
  refine PC.seq ?_
  refine PC.region ?_
  refine PL.ef rfl (Ef.box rfl rfl rfl) ?_
  refine PL.nm (.op 0 0) [some ⟨.mx [sL p_b.frames, iA p_b.forced], 28, 0⟩] rfl rfl ?_
  refine PL.op rfl (Rd.asnT rfl) ?_
  refine PL.nil ?_
  refine thA_n ?_
  refine PC.seq ?_
  refine PC.seq ?_
  rcases cond_some hh0 with ⟨h_1, hh0⟩ | ⟨h_1, hh0⟩
  · refine PC.region ?_
    refine PL.op rfl (Rd.fieldO rfl rfl) ?_
    refine PL.op rfl (Rd.loadO rfl rfl rfl) ?_
    refine PL.op rfl (Rd.lenT rfl) ?_
    refine PL.op rfl (Rd.gtr rfl rfl) ?_
    refine PL.op rfl (Rd.moveT rfl) ?_
    refine PL.guard_off rfl rfl h_1 ?_
    refine PL.guard_off rfl rfl h_1 ?_
    refine PL.guard_off rfl rfl h_1 ?_
    refine PL.op rfl (Rd.pick_t rfl h_1) ?_
    refine PL.op rfl (Rd.moveT rfl) ?_
    refine PL.guard_off rfl rfl rfl ?_
    refine PL.guard_off rfl rfl rfl ?_
    refine PL.guard_off rfl rfl rfl ?_
    refine PL.op rfl (Rd.pick_t rfl rfl) ?_
    refine PL.nil ?_
    refine thA_n ?_
    refine PC.cond_true rfl rfl ?_
    refine PC.seq ?_
    refine PC.region ?_
    refine PL.op rfl (Rd.asnT rfl) ?_
    refine PL.nil ?_
    refine thA_n ?_
    refine PC.ret ?_
    refine thA_r ?_
    obtain rfl := some_in hh0
    exact FinA.mk (r := bA false) (bl := []) [] (.inl rfl) rfl (rl := [.tmp 2]) (.tmp .nil) rfl rfl rfl (.t _) trivial ⟨rfl, rfl⟩
  rcases cond_some hh0 with ⟨h_2, hh0⟩ | ⟨h_2, hh0⟩
  · refine PC.region ?_
    refine PL.op rfl (Rd.fieldO rfl rfl) ?_
    refine PL.op rfl (Rd.loadO rfl rfl rfl) ?_
    refine PL.op rfl (Rd.lenT rfl) ?_
    refine PL.op rfl (Rd.gtr rfl rfl) ?_
    refine PL.op rfl (Rd.moveT rfl) ?_
    refine PL.guard_on rfl h_1 ?_
    refine PL.op rfl (Rd.fieldO rfl rfl) ?_
    refine PL.guard_on rfl h_1 ?_
    refine PL.op rfl (Rd.loadO rfl rfl rfl) ?_
    refine PL.guard_on rfl h_1 ?_
    refine PL.op rfl (Rd.lss rfl rfl) ?_
    refine PL.op rfl (Rd.pick_f rfl h_1) ?_
    refine PL.op rfl (Rd.moveT rfl) ?_
    refine PL.guard_off rfl rfl h_2 ?_
    refine PL.guard_off rfl rfl h_2 ?_
    refine PL.guard_off rfl rfl h_2 ?_
    refine PL.op rfl (Rd.pick_t rfl h_2) ?_
    refine PL.nil ?_
    refine thA_n ?_
    refine PC.cond_true rfl rfl ?_
    refine PC.seq ?_
    refine PC.region ?_
    refine PL.op rfl (Rd.asnT rfl) ?_
    refine PL.nil ?_
    refine thA_n ?_
    refine PC.ret ?_
    refine thA_r ?_
    obtain rfl := some_in hh0
    exact FinA.mk (r := bA false) (bl := []) [] (.inl rfl) rfl (rl := [.tmp 2]) (.tmp .nil) rfl rfl rfl (.t _) trivial ⟨rfl, rfl⟩
  refine PC.region ?_
  refine PL.op rfl (Rd.fieldO rfl rfl) ?_
  refine PL.op rfl (Rd.loadO rfl rfl rfl) ?_
  refine PL.op rfl (Rd.lenT rfl) ?_
  refine PL.op rfl (Rd.gtr rfl rfl) ?_
  refine PL.op rfl (Rd.moveT rfl) ?_
  refine PL.guard_on rfl h_1 ?_
  refine PL.op rfl (Rd.fieldO rfl rfl) ?_
  refine PL.guard_on rfl h_1 ?_
  refine PL.op rfl (Rd.loadO rfl rfl rfl) ?_
  refine PL.guard_on rfl h_1 ?_
  refine PL.op rfl (Rd.lss rfl rfl) ?_
  refine PL.op rfl (Rd.pick_f rfl h_1) ?_
  refine PL.op rfl (Rd.moveT rfl) ?_
  refine PL.guard_on rfl h_2 ?_
  refine PL.op rfl (Rd.fieldO rfl rfl) ?_
  refine PL.guard_on rfl h_2 ?_
  refine PL.op rfl (Rd.loadO rfl rfl rfl) ?_
  refine PL.guard_on rfl h_2 ?_
  refine PL.op rfl (Rd.gtr rfl rfl) ?_
  refine PL.op rfl (Rd.pick_f rfl h_2) ?_
  refine PL.nil ?_
  refine thA_n ?_
  rcases cond_some hh0 with ⟨h_3, hh0⟩ | ⟨h_3, hh0⟩
  · refine PC.cond_true rfl h_3 ?_
    refine PC.seq ?_
    refine PC.region ?_
    refine PL.op rfl (Rd.asnT rfl) ?_
    refine PL.nil ?_
    refine thA_n ?_
    refine PC.ret ?_
    refine thA_r ?_
    obtain rfl := some_in hh0
    exact FinA.mk (r := bA false) (bl := []) [] (.inl rfl) rfl (rl := [.tmp 2]) (.tmp .nil) rfl rfl rfl (.t _) trivial ⟨rfl, rfl⟩
  refine PC.cond_false rfl h_3 ?_
  refine PC.skip ?_
  refine thA_n ?_
  refine PC.seq ?_
  refine PC.seq ?_
  refine PC.region ?_
  refine PL.op rfl (Rd.fieldO rfl rfl) ?_
  refine PL.op rfl (Rd.loadO rfl rfl rfl) ?_
  refine PL.op rfl (Rd.lenT rfl) ?_
  refine PL.op rfl (Rd.moveT rfl) ?_
  refine PL.nil ?_
  refine thA_n ?_
  obtain ⟨o20, h_21, hh0⟩ := bind_some hh0
  refine PC.cutE hs (fun x : Unit => []) (fun x => []) (fun x => m_I_ValidBuffer_k1 N  = some r) ?_ ?_
  · refine PC.block ?_
    refine PC.loop hs (fun x : Nat × (Int) => [(1, .op 0 0), (20, sL p_b.frames), (21, iA (p_b.frames.length : Int)), (22, iA x.2)]) (fun x => [⟨.mx [sL p_b.frames, iA p_b.forced], 28, 0⟩]) (fun x => loopM (β := Unit ⊕ Bool) (fun s : Int => m_I_ValidBuffer_b1 N p_b s) x.1 x.2 = some o20) (fun x => x.1) (N, (0 : Int)) [some 0] ⟨rfl, rfl, ⟨⟨_, rfl, rfl, rfl, .mx ⟨.t _, .t _, trivial⟩⟩, trivial⟩, ⟨.op rfl, .t _, .t _, .t _, trivial⟩⟩ h_21 ?_
    rintro ⟨f22_, i4⟩ h_24
    obtain ⟨f22, y23, rfl, hh1, kk1⟩ := loopM_some h_24
    replace hh1 : m_I_ValidBuffer_b1 N p_b i4 = some y23 := hh1
    unfold m_I_ValidBuffer_b1 at hh1
    refine PC.seq ?_
    refine PC.region ?_
    refine PL.op rfl (Rd.lss rfl rfl) ?_
    refine PL.nil ?_
    refine thA_n ?_
    refine PC.seq ?_
    rcases cond_some hh1 with ⟨h_25, hh1⟩ | ⟨h_25, hh1⟩
    rotate_left
    · refine PC.cond_false rfl h_25 ?_
      refine PC.exit ?_
      refine thA_e ?_
      refine thA_e ?_
      refine inA_eq rfl ?_
      refine thA_n ?_
      obtain rfl := some_in hh1
      obtain rfl : (.inl () : Unit ⊕ Bool) = o20 := kk1
      exact ⟨(), hh0, [], ⟨rfl, rfl, trivial, trivial⟩⟩
    refine PC.cond_true rfl h_25 ?_
    refine PC.skip ?_
    refine thA_n ?_
    refine PC.seq ?_
    refine PC.block ?_
    refine PC.seq ?_
    obtain ⟨x26, h_27, hh1⟩ := bind_some hh1
    refine PC.region ?_
    refine PL.op rfl (Rd.moveT rfl) ?_
    refine PL.op rfl (Rd.ixM rfl rfl h_27) ?_
    refine PL.op rfl (Rd.elMR rfl h_27 rfl rfl) ?_
    refine PL.ef rfl (Ef.alloc rfl rfl) ?_
    refine PL.nm (.op 1 0) [some ⟨.mx [sL p_b.frames, iA p_b.forced], 28, 0⟩, some ⟨.mx [iA (0 : Int), bA false, iA (0 : Int), iA (0 : Int)], 59, 0⟩] rfl rfl ?_
    refine PL.op rfl (Rd.asnT rfl) ?_
    refine PL.store rfl rfl rfl rfl rfl rfl rfl ?_
    refine PL.nO [some ⟨.mx [sL p_b.frames, iA p_b.forced], 28, 0⟩, some ⟨.mx [iA x26.page, bA x26.dirty, iA x26.first, iA x26.last], 59, 0⟩] rfl ?_
    refine PL.nil ?_
    refine thA_n ?_
    refine PC.seq ?_
    refine PC.seq ?_
    rcases cond_some hh1 with ⟨h_28, hh1⟩ | ⟨h_28, hh1⟩
    · refine PC.region ?_
      refine PL.op rfl (Rd.fieldO rfl rfl) ?_
      refine PL.op rfl (Rd.loadO rfl rfl rfl) ?_
      refine PL.op rfl (Rd.lss rfl rfl) ?_
      refine PL.op rfl (Rd.moveT rfl) ?_
      refine PL.guard_off rfl rfl h_28 ?_
      refine PL.guard_off rfl rfl h_28 ?_
      refine PL.guard_off rfl rfl h_28 ?_
      refine PL.op rfl (Rd.pick_t rfl h_28) ?_
      refine PL.op rfl (Rd.moveT rfl) ?_
      refine PL.guard_off rfl rfl rfl ?_
      refine PL.guard_off rfl rfl rfl ?_
      refine PL.guard_off rfl rfl rfl ?_
      refine PL.guard_off rfl rfl rfl ?_
      refine PL.guard_off rfl rfl rfl ?_
      refine PL.guard_off rfl rfl rfl ?_
      refine PL.op rfl (Rd.pick_t rfl rfl) ?_
      refine PL.nil ?_
      refine thA_n ?_
      refine PC.cond_true rfl rfl ?_
      refine PC.seq ?_
      refine PC.region ?_
      refine PL.op rfl (Rd.asnT rfl) ?_
      refine PL.nil ?_
      refine thA_n ?_
      refine PC.ret ?_
      refine thA_r ?_
      refine inA_r ?_
      refine thA_r ?_
      refine thA_r ?_
      refine inA_r ?_
      refine thA_r ?_
      obtain rfl := some_in hh1
      obtain rfl : (.inr false : Unit ⊕ Bool) = o20 := kk1
      refine thA_r ?_
      obtain rfl := some_in hh0
      exact FinA.mk (r := bA false) (bl := []) [] (.inl rfl) rfl (rl := [.tmp 2]) (.tmp .nil) rfl rfl rfl (.t _) trivial ⟨rfl, rfl⟩
    rcases cond_some hh1 with ⟨h_29, hh1⟩ | ⟨h_29, hh1⟩
    · refine PC.region ?_
      refine PL.op rfl (Rd.fieldO rfl rfl) ?_
      refine PL.op rfl (Rd.loadO rfl rfl rfl) ?_
      refine PL.op rfl (Rd.lss rfl rfl) ?_
      refine PL.op rfl (Rd.moveT rfl) ?_
      refine PL.guard_on rfl h_28 ?_
      refine PL.op rfl (Rd.fieldO rfl rfl) ?_
      refine PL.guard_on rfl h_28 ?_
      refine PL.op rfl (Rd.loadO rfl rfl rfl) ?_
      refine PL.guard_on rfl h_28 ?_
      refine PL.op rfl (Rd.geq rfl rfl) ?_
      refine PL.op rfl (Rd.pick_f rfl h_28) ?_
      refine PL.op rfl (Rd.moveT rfl) ?_
      refine PL.guard_off rfl rfl h_29 ?_
      refine PL.guard_off rfl rfl h_29 ?_
      refine PL.guard_off rfl rfl h_29 ?_
      refine PL.guard_off rfl rfl h_29 ?_
      refine PL.guard_off rfl rfl h_29 ?_
      refine PL.guard_off rfl rfl h_29 ?_
      refine PL.op rfl (Rd.pick_t rfl h_29) ?_
      refine PL.nil ?_
      refine thA_n ?_
      refine PC.cond_true rfl rfl ?_
      refine PC.seq ?_
      refine PC.region ?_
      refine PL.op rfl (Rd.asnT rfl) ?_
      refine PL.nil ?_
      refine thA_n ?_
      refine PC.ret ?_
      refine thA_r ?_
      refine inA_r ?_
      refine thA_r ?_
      refine thA_r ?_
      refine inA_r ?_
      refine thA_r ?_
      obtain rfl := some_in hh1
      obtain rfl : (.inr false : Unit ⊕ Bool) = o20 := kk1
      refine thA_r ?_
      obtain rfl := some_in hh0
      exact FinA.mk (r := bA false) (bl := []) [] (.inl rfl) rfl (rl := [.tmp 2]) (.tmp .nil) rfl rfl rfl (.t _) trivial ⟨rfl, rfl⟩
    obtain ⟨r30, h_31, hh1⟩ := bind_some hh1
    refine PC.region ?_
    refine PL.op rfl (Rd.fieldO rfl rfl) ?_
    refine PL.op rfl (Rd.loadO rfl rfl rfl) ?_
    refine PL.op rfl (Rd.lss rfl rfl) ?_
    refine PL.op rfl (Rd.moveT rfl) ?_
    refine PL.guard_on rfl h_28 ?_
    refine PL.op rfl (Rd.fieldO rfl rfl) ?_
    refine PL.guard_on rfl h_28 ?_
    refine PL.op rfl (Rd.loadO rfl rfl rfl) ?_
    refine PL.guard_on rfl h_28 ?_
    refine PL.op rfl (Rd.geq rfl rfl) ?_
    refine PL.op rfl (Rd.pick_f rfl h_28) ?_
    refine PL.op rfl (Rd.moveT rfl) ?_
    refine PL.guard_on rfl h_29 ?_
    refine PL.op rfl (Rd.loadBox rfl rfl rfl) ?_
    refine PL.guard_on rfl h_29 ?_
    refine PL.op rfl (Rd.fieldO rfl rfl) ?_
    refine PL.guard_on rfl h_29 ?_
    refine PL.op rfl (Rd.loadO rfl rfl rfl) ?_
    refine PL.guard_on rfl h_29 ?_
    refine PL.callM false [] (w_I_Buffer_find N p_b x26.page r30 h_31) rfl Try.call41 rfl ⟨.aggL ⟨.t _, .t _, trivial⟩, .t _, trivial⟩ rfl trivial (fun h => by cases h) ?_
    refine PL.guard_on rfl h_29 ?_
    refine PL.op rfl (Rd.moveT rfl) ?_
    refine PL.guard_on rfl h_29 ?_
    refine PL.op rfl (Rd.neq rfl rfl) ?_
    refine PL.op rfl (Rd.pick_f rfl h_29) ?_
    refine PL.nil ?_
    refine thA_n ?_
    rcases cond_some hh1 with ⟨h_32, hh1⟩ | ⟨h_32, hh1⟩
    rotate_left
    · refine PC.cond_true rfl (not_f h_32) ?_
      refine PC.seq ?_
      refine PC.region ?_
      refine PL.op rfl (Rd.asnT rfl) ?_
      refine PL.nil ?_
      refine thA_n ?_
      refine PC.ret ?_
      refine thA_r ?_
      refine inA_r ?_
      refine thA_r ?_
      refine thA_r ?_
      refine inA_r ?_
      refine thA_r ?_
      obtain rfl := some_in hh1
      obtain rfl : (.inr false : Unit ⊕ Bool) = o20 := kk1
      refine thA_r ?_
      obtain rfl := some_in hh0
      exact FinA.mk (r := bA false) (bl := []) [] (.inl rfl) rfl (rl := [.tmp 2]) (.tmp .nil) rfl rfl rfl (.t _) trivial ⟨rfl, rfl⟩
    refine PC.cond_false rfl (not_t h_32) ?_
    refine PC.skip ?_
    refine thA_n ?_
    refine PC.seq ?_
    rcases cond_some hh1 with ⟨h_33, hh1⟩ | ⟨h_33, hh1⟩
    · refine PC.region ?_
      refine PL.op rfl (Rd.fieldO rfl rfl) ?_
      refine PL.op rfl (Rd.loadO rfl rfl rfl) ?_
      refine PL.op rfl (Rd.lss rfl rfl) ?_
      refine PL.op rfl (Rd.moveT rfl) ?_
      refine PL.guard_off rfl rfl h_33 ?_
      refine PL.guard_off rfl rfl h_33 ?_
      refine PL.guard_off rfl rfl h_33 ?_
      refine PL.op rfl (Rd.pick_t rfl h_33) ?_
      refine PL.op rfl (Rd.moveT rfl) ?_
      refine PL.guard_off rfl rfl rfl ?_
      refine PL.guard_off rfl rfl rfl ?_
      refine PL.guard_off rfl rfl rfl ?_
      refine PL.op rfl (Rd.pick_t rfl rfl) ?_
      refine PL.op rfl (Rd.moveT rfl) ?_
      refine PL.guard_off rfl rfl rfl ?_
      refine PL.guard_off rfl rfl rfl ?_
      refine PL.guard_off rfl rfl rfl ?_
      refine PL.guard_off rfl rfl rfl ?_
      refine PL.guard_off rfl rfl rfl ?_
      refine PL.op rfl (Rd.pick_t rfl rfl) ?_
      refine PL.op rfl (Rd.moveT rfl) ?_
      refine PL.guard_off rfl rfl rfl ?_
      refine PL.guard_off rfl rfl rfl ?_
      refine PL.guard_off rfl rfl rfl ?_
      refine PL.guard_off rfl rfl rfl ?_
      refine PL.guard_off rfl rfl rfl ?_
      refine PL.guard_off rfl rfl rfl ?_
      refine PL.op rfl (Rd.pick_t rfl rfl) ?_
      refine PL.nil ?_
      refine thA_n ?_
      refine PC.cond_true rfl rfl ?_
      refine PC.seq ?_
      refine PC.region ?_
      refine PL.op rfl (Rd.asnT rfl) ?_
      refine PL.nil ?_
      refine thA_n ?_
      refine PC.ret ?_
      refine inA_r ?_
      refine thA_r ?_
      refine thA_r ?_
      refine inA_r ?_
      refine thA_r ?_
      obtain rfl := some_in hh1
      obtain rfl : (.inr false : Unit ⊕ Bool) = o20 := kk1
      refine thA_r ?_
      obtain rfl := some_in hh0
      exact FinA.mk (r := bA false) (bl := []) [] (.inl rfl) rfl (rl := [.tmp 2]) (.tmp .nil) rfl rfl rfl (.t _) trivial ⟨rfl, rfl⟩
    rcases cond_some hh1 with ⟨h_34, hh1⟩ | ⟨h_34, hh1⟩
    · refine PC.region ?_
      refine PL.op rfl (Rd.fieldO rfl rfl) ?_
      refine PL.op rfl (Rd.loadO rfl rfl rfl) ?_
      refine PL.op rfl (Rd.lss rfl rfl) ?_
      refine PL.op rfl (Rd.moveT rfl) ?_
      refine PL.guard_on rfl h_33 ?_
      refine PL.op rfl (Rd.fieldO rfl rfl) ?_
      refine PL.guard_on rfl h_33 ?_
      refine PL.op rfl (Rd.loadO rfl rfl rfl) ?_
      refine PL.guard_on rfl h_33 ?_
      refine PL.op rfl (Rd.gtr rfl rfl) ?_
      refine PL.op rfl (Rd.pick_f rfl h_33) ?_
      refine PL.op rfl (Rd.moveT rfl) ?_
      refine PL.guard_off rfl rfl h_34 ?_
      refine PL.guard_off rfl rfl h_34 ?_
      refine PL.guard_off rfl rfl h_34 ?_
      refine PL.op rfl (Rd.pick_t rfl h_34) ?_
      refine PL.op rfl (Rd.moveT rfl) ?_
      refine PL.guard_off rfl rfl rfl ?_
      refine PL.guard_off rfl rfl rfl ?_
      refine PL.guard_off rfl rfl rfl ?_
      refine PL.guard_off rfl rfl rfl ?_
      refine PL.guard_off rfl rfl rfl ?_
      refine PL.op rfl (Rd.pick_t rfl rfl) ?_
      refine PL.op rfl (Rd.moveT rfl) ?_
      refine PL.guard_off rfl rfl rfl ?_
      refine PL.guard_off rfl rfl rfl ?_
      refine PL.guard_off rfl rfl rfl ?_
      refine PL.guard_off rfl rfl rfl ?_
      refine PL.guard_off rfl rfl rfl ?_
      refine PL.guard_off rfl rfl rfl ?_
      refine PL.op rfl (Rd.pick_t rfl rfl) ?_
      refine PL.nil ?_
      refine thA_n ?_
      refine PC.cond_true rfl rfl ?_
      refine PC.seq ?_
      refine PC.region ?_
      refine PL.op rfl (Rd.asnT rfl) ?_
      refine PL.nil ?_
      refine thA_n ?_
      refine PC.ret ?_
      refine inA_r ?_
      refine thA_r ?_
      refine thA_r ?_
      refine inA_r ?_
      refine thA_r ?_
      obtain rfl := some_in hh1
      obtain rfl : (.inr false : Unit ⊕ Bool) = o20 := kk1
      refine thA_r ?_
      obtain rfl := some_in hh0
      exact FinA.mk (r := bA false) (bl := []) [] (.inl rfl) rfl (rl := [.tmp 2]) (.tmp .nil) rfl rfl rfl (.t _) trivial ⟨rfl, rfl⟩
    rcases cond_some hh1 with ⟨h_35, hh1⟩ | ⟨h_35, hh1⟩
    · refine PC.region ?_
      refine PL.op rfl (Rd.fieldO rfl rfl) ?_
      refine PL.op rfl (Rd.loadO rfl rfl rfl) ?_
      refine PL.op rfl (Rd.lss rfl rfl) ?_
      refine PL.op rfl (Rd.moveT rfl) ?_
      refine PL.guard_on rfl h_33 ?_
      refine PL.op rfl (Rd.fieldO rfl rfl) ?_
      refine PL.guard_on rfl h_33 ?_
      refine PL.op rfl (Rd.loadO rfl rfl rfl) ?_
      refine PL.guard_on rfl h_33 ?_
      refine PL.op rfl (Rd.gtr rfl rfl) ?_
      refine PL.op rfl (Rd.pick_f rfl h_33) ?_
      refine PL.op rfl (Rd.moveT rfl) ?_
      refine PL.guard_on rfl h_34 ?_
      refine PL.op rfl (Rd.fieldO rfl rfl) ?_
      refine PL.guard_on rfl h_34 ?_
      refine PL.op rfl (Rd.loadO rfl rfl rfl) ?_
      refine PL.guard_on rfl h_34 ?_
      refine PL.op rfl (Rd.lss rfl rfl) ?_
      refine PL.op rfl (Rd.pick_f rfl h_34) ?_
      refine PL.op rfl (Rd.moveT rfl) ?_
      refine PL.guard_off rfl rfl h_35 ?_
      refine PL.guard_off rfl rfl h_35 ?_
      refine PL.guard_off rfl rfl h_35 ?_
      refine PL.guard_off rfl rfl h_35 ?_
      refine PL.guard_off rfl rfl h_35 ?_
      refine PL.op rfl (Rd.pick_t rfl h_35) ?_
      refine PL.op rfl (Rd.moveT rfl) ?_
      refine PL.guard_off rfl rfl rfl ?_
      refine PL.guard_off rfl rfl rfl ?_
      refine PL.guard_off rfl rfl rfl ?_
      refine PL.guard_off rfl rfl rfl ?_
      refine PL.guard_off rfl rfl rfl ?_
      refine PL.guard_off rfl rfl rfl ?_
      refine PL.op rfl (Rd.pick_t rfl rfl) ?_
      refine PL.nil ?_
      refine thA_n ?_
      refine PC.cond_true rfl rfl ?_
      refine PC.seq ?_
      refine PC.region ?_
      refine PL.op rfl (Rd.asnT rfl) ?_
      refine PL.nil ?_
      refine thA_n ?_
      refine PC.ret ?_
      refine inA_r ?_
      refine thA_r ?_
      refine thA_r ?_
      refine inA_r ?_
      refine thA_r ?_
      obtain rfl := some_in hh1
      obtain rfl : (.inr false : Unit ⊕ Bool) = o20 := kk1
      refine thA_r ?_
      obtain rfl := some_in hh0
      exact FinA.mk (r := bA false) (bl := []) [] (.inl rfl) rfl (rl := [.tmp 2]) (.tmp .nil) rfl rfl rfl (.t _) trivial ⟨rfl, rfl⟩
    rcases cond_some hh1 with ⟨h_36, hh1⟩ | ⟨h_36, hh1⟩
    · refine PC.region ?_
      refine PL.op rfl (Rd.fieldO rfl rfl) ?_
      refine PL.op rfl (Rd.loadO rfl rfl rfl) ?_
      refine PL.op rfl (Rd.lss rfl rfl) ?_
      refine PL.op rfl (Rd.moveT rfl) ?_
      refine PL.guard_on rfl h_33 ?_
      refine PL.op rfl (Rd.fieldO rfl rfl) ?_
      refine PL.guard_on rfl h_33 ?_
      refine PL.op rfl (Rd.loadO rfl rfl rfl) ?_
      refine PL.guard_on rfl h_33 ?_
      refine PL.op rfl (Rd.gtr rfl rfl) ?_
      refine PL.op rfl (Rd.pick_f rfl h_33) ?_
      refine PL.op rfl (Rd.moveT rfl) ?_
      refine PL.guard_on rfl h_34 ?_
      refine PL.op rfl (Rd.fieldO rfl rfl) ?_
      refine PL.guard_on rfl h_34 ?_
      refine PL.op rfl (Rd.loadO rfl rfl rfl) ?_
      refine PL.guard_on rfl h_34 ?_
      refine PL.op rfl (Rd.lss rfl rfl) ?_
      refine PL.op rfl (Rd.pick_f rfl h_34) ?_
      refine PL.op rfl (Rd.moveT rfl) ?_
      refine PL.guard_on rfl h_35 ?_
      refine PL.op rfl (Rd.fieldO rfl rfl) ?_
      refine PL.guard_on rfl h_35 ?_
      refine PL.op rfl (Rd.loadO rfl rfl rfl) ?_
      refine PL.guard_on rfl h_35 ?_
      refine PL.op rfl (Rd.fieldO rfl rfl) ?_
      refine PL.guard_on rfl h_35 ?_
      refine PL.op rfl (Rd.loadO rfl rfl rfl) ?_
      refine PL.guard_on rfl h_35 ?_
      refine PL.op rfl (Rd.gtr rfl rfl) ?_
      refine PL.op rfl (Rd.pick_f rfl h_35) ?_
      refine PL.op rfl (Rd.moveT rfl) ?_
      refine PL.guard_off rfl rfl h_36 ?_
      refine PL.guard_off rfl rfl h_36 ?_
      refine PL.guard_off rfl rfl h_36 ?_
      refine PL.guard_off rfl rfl h_36 ?_
      refine PL.guard_off rfl rfl h_36 ?_
      refine PL.guard_off rfl rfl h_36 ?_
      refine PL.op rfl (Rd.pick_t rfl h_36) ?_
      refine PL.nil ?_
      refine thA_n ?_
      refine PC.cond_true rfl rfl ?_
      refine PC.seq ?_
      refine PC.region ?_
      refine PL.op rfl (Rd.asnT rfl) ?_
      refine PL.nil ?_
      refine thA_n ?_
      refine PC.ret ?_
      refine inA_r ?_
      refine thA_r ?_
      refine thA_r ?_
      refine inA_r ?_
      refine thA_r ?_
      obtain rfl := some_in hh1
      obtain rfl : (.inr false : Unit ⊕ Bool) = o20 := kk1
      refine thA_r ?_
      obtain rfl := some_in hh0
      exact FinA.mk (r := bA false) (bl := []) [] (.inl rfl) rfl (rl := [.tmp 2]) (.tmp .nil) rfl rfl rfl (.t _) trivial ⟨rfl, rfl⟩
    refine PC.region ?_
    refine PL.op rfl (Rd.fieldO rfl rfl) ?_
    refine PL.op rfl (Rd.loadO rfl rfl rfl) ?_
    refine PL.op rfl (Rd.lss rfl rfl) ?_
    refine PL.op rfl (Rd.moveT rfl) ?_
    refine PL.guard_on rfl h_33 ?_
    refine PL.op rfl (Rd.fieldO rfl rfl) ?_
    refine PL.guard_on rfl h_33 ?_
    refine PL.op rfl (Rd.loadO rfl rfl rfl) ?_
    refine PL.guard_on rfl h_33 ?_
    refine PL.op rfl (Rd.gtr rfl rfl) ?_
    refine PL.op rfl (Rd.pick_f rfl h_33) ?_
    refine PL.op rfl (Rd.moveT rfl) ?_
    refine PL.guard_on rfl h_34 ?_
    refine PL.op rfl (Rd.fieldO rfl rfl) ?_
    refine PL.guard_on rfl h_34 ?_
    refine PL.op rfl (Rd.loadO rfl rfl rfl) ?_
    refine PL.guard_on rfl h_34 ?_
    refine PL.op rfl (Rd.lss rfl rfl) ?_
    refine PL.op rfl (Rd.pick_f rfl h_34) ?_
    refine PL.op rfl (Rd.moveT rfl) ?_
    refine PL.guard_on rfl h_35 ?_
    refine PL.op rfl (Rd.fieldO rfl rfl) ?_
    refine PL.guard_on rfl h_35 ?_
    refine PL.op rfl (Rd.loadO rfl rfl rfl) ?_
    refine PL.guard_on rfl h_35 ?_
    refine PL.op rfl (Rd.fieldO rfl rfl) ?_
    refine PL.guard_on rfl h_35 ?_
    refine PL.op rfl (Rd.loadO rfl rfl rfl) ?_
    refine PL.guard_on rfl h_35 ?_
    refine PL.op rfl (Rd.gtr rfl rfl) ?_
    refine PL.op rfl (Rd.pick_f rfl h_35) ?_
    refine PL.op rfl (Rd.moveT rfl) ?_
    refine PL.guard_on rfl h_36 ?_
    refine PL.op rfl (Rd.fieldO rfl rfl) ?_
    refine PL.guard_on rfl h_36 ?_
    refine PL.op rfl (Rd.loadO rfl rfl rfl) ?_
    refine PL.guard_on rfl h_36 ?_
    refine PL.op rfl (Rd.fieldO rfl rfl) ?_
    refine PL.guard_on rfl h_36 ?_
    refine PL.op rfl (Rd.loadO rfl rfl rfl) ?_
    refine PL.guard_on rfl h_36 ?_
    refine PL.op rfl (Rd.gtr rfl rfl) ?_
    refine PL.guard_on rfl h_36 ?_
    refine PL.op rfl (Rd.neqB rfl rfl) ?_
    refine PL.op rfl (Rd.pick_f rfl h_36) ?_
    refine PL.nil ?_
    refine thA_n ?_
    rcases cond_some hh1 with ⟨h_37, hh1⟩ | ⟨h_37, hh1⟩
    · refine PC.cond_false rfl (not_t h_37) ?_
      refine PC.skip ?_
      refine inA_n ?_
      refine thA_n ?_
      obtain ⟨n38, h_39, hh1⟩ := bind_some hh1
      refine PC.region ?_
      refine PL.op rfl (Rd.addM rfl rfl h_39) ?_
      refine PL.op rfl (Rd.moveT rfl) ?_
      refine PL.nil ?_
      obtain rfl := some_in hh1
      refine thA_n ?_
      exact ⟨(f22, n38), Nat.lt_succ_self _, kk1, [some 0], ⟨rfl, rfl, ⟨⟨_, rfl, rfl, rfl, .mx ⟨.t _, .t _, trivial⟩⟩, trivial⟩, ⟨.op rfl, .t _, .t _, .t _, trivial⟩⟩⟩
    refine PC.cond_true rfl (not_f h_37) ?_
    refine PC.seq ?_
    refine PC.region ?_
    refine PL.op rfl (Rd.asnT rfl) ?_
    refine PL.nil ?_
    refine thA_n ?_
    refine PC.ret ?_
    refine inA_r ?_
    refine thA_r ?_
    refine thA_r ?_
    refine inA_r ?_
    refine thA_r ?_
    obtain rfl := some_in hh1
    obtain rfl : (.inr false : Unit ⊕ Bool) = o20 := kk1
    refine thA_r ?_
    obtain rfl := some_in hh0
    exact FinA.mk (r := bA false) (bl := []) [] (.inl rfl) rfl (rl := [.tmp 2]) (.tmp .nil) rfl rfl rfl (.t _) trivial ⟨rfl, rfl⟩
  clear hh0
  rintro ⟨⟩ hh0
  replace hh0 : m_I_ValidBuffer_k1 N  = some r := hh0
  unfold m_I_ValidBuffer_k1 at hh0
  refine thA_n ?_
  refine PC.seq ?_
  refine PC.region ?_
  refine PL.op rfl (Rd.asnT rfl) ?_
  refine PL.nil ?_
  refine thA_n ?_
  refine PC.ret ?_
  obtain rfl := some_in hh0
  exact FinA.mk (r := bA true) (bl := []) [] (.inl rfl) rfl (rl := [.tmp 2]) (.tmp .nil) rfl rfl rfl (.t _) trivial ⟨rfl, rfl⟩

def m_I_CanWrite (N : Nat) (p_b : I_Buffer) (p_page : Int) : Option (Bool) :=
  (m_I_ValidBuffer N p_b).bind fun r1 =>
  cond r1
    ((m_I_Buffer_find N p_b p_page).bind fun r4 =>
    cond (decide ((0 : Int) ≤ r4))
      ((ixI p_b.frames r4).bind fun x7 =>
      cond x7.dirty
        ((ixI p_b.frames r4).bind fun x10 =>
        some (decide (x10.last ≤ p_b.forced)))
        (some false))
      (some false))
    (some false)
theorem w_I_CanWrite (N : Nat) (p_b : I_Buffer) (p_page : Int) (r : Bool) (hh0 : m_I_CanWrite N p_b p_page = some r) : FnX Try.prog 21 [] [.agg [sL p_b.frames, iA p_b.forced], iA p_page] (RE (bA r) []) := by
  unfold m_I_CanWrite at hh0
  refine FnX.mk Try.func21 rfl rfl ?_
  intro s hs
  refine PC.seq ?_
  refine PC.region ?_
  refine PL.ef rfl (Ef.box rfl rfl rfl) ?_
  refine PL.nm (.op 0 0) [some ⟨.mx [sL p_b.frames, iA p_b.forced], 28, 0⟩] rfl rfl ?_
  refine PL.op rfl (Rd.asnT rfl) ?_
  refine PL.nil ?_
  refine thA_n ?_
  refine PC.seq ?_
  refine PC.seq ?_
  obtain ⟨r1, h_2, hh0⟩ := bind_some hh0
  refine PC.region ?_
  refine PL.op rfl (Rd.loadBox rfl rfl rfl) ?_
  refine PL.callM false [] (w_I_ValidBuffer N p_b r1 h_2) rfl Try.call20 rfl ⟨.aggL ⟨.t _, .t _, trivial⟩, trivial⟩ rfl trivial (fun h => by cases h) ?_
  refine PL.op rfl (Rd.unnot rfl) ?_
  refine PL.nil ?_
  refine thA_n ?_
  rcases cond_some hh0 with ⟨h_3, hh0⟩ | ⟨h_3, hh0⟩
  rotate_left
  · refine PC.cond_true rfl (not_f h_3) ?_
    refine PC.seq ?_
    refine PC.region ?_
    refine PL.op rfl (Rd.asnT rfl) ?_
    refine PL.nil ?_
    refine thA_n ?_
    refine PC.ret ?_
    refine thA_r ?_
    obtain rfl := some_in hh0
    exact FinA.mk (r := bA false) (bl := []) [] (.inl rfl) rfl (rl := [.tmp 4]) (.tmp .nil) rfl rfl rfl (.t _) trivial ⟨rfl, rfl⟩
  refine PC.cond_false rfl (not_t h_3) ?_
  refine PC.skip ?_
  refine thA_n ?_
  refine PC.seq ?_
  obtain ⟨r4, h_5, hh0⟩ := bind_some hh0
  refine PC.region ?_
  refine PL.op rfl (Rd.loadBox rfl rfl rfl) ?_
  refine PL.op rfl (Rd.moveT rfl) ?_
  refine PL.callM false [] (w_I_Buffer_find N p_b p_page r4 h_5) rfl Try.call41 rfl ⟨.aggL ⟨.t _, .t _, trivial⟩, .t _, trivial⟩ rfl trivial (fun h => by cases h) ?_
  refine PL.op rfl (Rd.asnT rfl) ?_
  refine PL.nil ?_
  refine thA_n ?_
  refine PC.seq ?_
  rcases cond_some hh0 with ⟨h_6, hh0⟩ | ⟨h_6, hh0⟩
  rotate_left
  · refine PC.any (id := 4) 22 (.seg [0, 1, 2, 3, 4, 5, 6, 7, 8, 9, 10, 11, 12, 13, 14, 15, 16, 17, 18, 19, 20, 21] .done) [] rfl (by kernel_rfl) rfl ?_
    refine PT.seg ?_
    refine PR.op rfl (Rd.moveT rfl) ?_
    refine PR.op rfl (Rd.geq rfl rfl) ?_
    refine PR.op rfl (Rd.moveT rfl) ?_
    refine PR.guard_off rfl rfl h_6 ?_
    refine PR.guard_off rfl rfl h_6 ?_
    refine PR.guard_off rfl rfl h_6 ?_
    refine PR.guard_off rfl rfl h_6 ?_
    refine PR.guard_off rfl rfl h_6 ?_
    refine PR.guard_off rfl rfl h_6 ?_
    refine PR.op rfl (Rd.pick_f rfl h_6) ?_
    refine PR.op rfl (Rd.moveT rfl) ?_
    refine PR.guard_off rfl rfl rfl ?_
    refine PR.guard_off rfl rfl rfl ?_
    refine PR.guard_off rfl rfl rfl ?_
    refine PR.guard_off rfl rfl rfl ?_
    refine PR.guard_off rfl rfl rfl ?_
    refine PR.guard_off rfl rfl rfl ?_
    refine PR.guard_off rfl rfl rfl ?_
    refine PR.guard_off rfl rfl rfl ?_
    refine PR.guard_off rfl rfl rfl ?_
    refine PR.op rfl (Rd.pick_f rfl rfl) ?_
    refine PR.op rfl (Rd.asnT rfl) ?_
    refine PR.nil ?_
    refine PT.done ?_
    refine PL.nil ?_
    refine thA_n ?_
    refine PC.ret ?_
    obtain rfl := some_in hh0
    exact FinA.mk (r := bA false) (bl := []) [] (.inl rfl) rfl (rl := [.tmp 4]) (.tmp .nil) rfl rfl rfl (.t _) trivial ⟨rfl, rfl⟩
  obtain ⟨x7, h_8, hh0⟩ := bind_some hh0
  rcases cond_some hh0 with ⟨h_9, hh0⟩ | ⟨h_9, hh0⟩
  rotate_left
  · refine PC.any (id := 4) 22 (.seg [0, 1, 2, 3, 4, 5, 6, 7, 8, 9, 10, 11, 12, 13, 14, 15, 16, 17, 18, 19, 20, 21] .done) [] rfl (by kernel_rfl) rfl ?_
    refine PT.seg ?_
    refine PR.op rfl (Rd.moveT rfl) ?_
    refine PR.op rfl (Rd.geq rfl rfl) ?_
    refine PR.op rfl (Rd.moveT rfl) ?_
    refine PR.guard_on rfl rfl h_6 ?_
    refine PR.op rfl (Rd.fieldO rfl rfl) ?_
    refine PR.guard_on rfl rfl h_6 ?_
    refine PR.op rfl (Rd.loadO rfl rfl rfl) ?_
    refine PR.guard_on rfl rfl h_6 ?_
    refine PR.op rfl (Rd.moveT rfl) ?_
    refine PR.guard_on rfl rfl h_6 ?_
    refine PR.op rfl (Rd.ixM rfl rfl h_8) ?_
    refine PR.guard_on rfl rfl h_6 ?_
    refine PR.op rfl (Rd.fieldT rfl) ?_
    refine PR.guard_on rfl rfl h_6 ?_
    refine PR.op rfl (Rd.elMF (f := 1) rfl h_8 rfl rfl) ?_
    refine PR.op rfl (Rd.pick_t rfl h_6) ?_
    refine PR.op rfl (Rd.moveT rfl) ?_
    refine PR.guard_off rfl rfl h_9 ?_
    refine PR.guard_off rfl rfl h_9 ?_
    refine PR.guard_off rfl rfl h_9 ?_
    refine PR.guard_off rfl rfl h_9 ?_
    refine PR.guard_off rfl rfl h_9 ?_
    refine PR.guard_off rfl rfl h_9 ?_
    refine PR.guard_off rfl rfl h_9 ?_
    refine PR.guard_off rfl rfl h_9 ?_
    refine PR.guard_off rfl rfl h_9 ?_
    refine PR.op rfl (Rd.pick_f rfl h_9) ?_
    refine PR.op rfl (Rd.asnT rfl) ?_
    refine PR.nil ?_
    refine PT.done ?_
    refine PL.nil ?_
    refine thA_n ?_
    refine PC.ret ?_
    obtain rfl := some_in hh0
    exact FinA.mk (r := bA false) (bl := []) [] (.inl rfl) rfl (rl := [.tmp 4]) (.tmp .nil) rfl rfl rfl (.t _) trivial ⟨rfl, rfl⟩
  obtain ⟨x10, h_11, hh0⟩ := bind_some hh0
  refine PC.any (id := 4) 22 (.seg [0, 1, 2, 3, 4, 5, 6, 7, 8, 9, 10, 11, 12, 13, 14, 15, 16, 17, 18, 19, 20, 21] .done) [] rfl (by kernel_rfl) rfl ?_
  refine PT.seg ?_
  refine PR.op rfl (Rd.moveT rfl) ?_
  refine PR.op rfl (Rd.geq rfl rfl) ?_
  refine PR.op rfl (Rd.moveT rfl) ?_
  refine PR.guard_on rfl rfl h_6 ?_
  refine PR.op rfl (Rd.fieldO rfl rfl) ?_
  refine PR.guard_on rfl rfl h_6 ?_
  refine PR.op rfl (Rd.loadO rfl rfl rfl) ?_
  refine PR.guard_on rfl rfl h_6 ?_
  refine PR.op rfl (Rd.moveT rfl) ?_
  refine PR.guard_on rfl rfl h_6 ?_
  refine PR.op rfl (Rd.ixM rfl rfl h_8) ?_
  refine PR.guard_on rfl rfl h_6 ?_
  refine PR.op rfl (Rd.fieldT rfl) ?_
  refine PR.guard_on rfl rfl h_6 ?_
  refine PR.op rfl (Rd.elMF (f := 1) rfl h_8 rfl rfl) ?_
  refine PR.op rfl (Rd.pick_t rfl h_6) ?_
  refine PR.op rfl (Rd.moveT rfl) ?_
  refine PR.guard_on rfl rfl h_9 ?_
  refine PR.op rfl (Rd.fieldO rfl rfl) ?_
  refine PR.guard_on rfl rfl h_9 ?_
  refine PR.op rfl (Rd.loadO rfl rfl rfl) ?_
  refine PR.guard_on rfl rfl h_9 ?_
  refine PR.op rfl (Rd.moveT rfl) ?_
  refine PR.guard_on rfl rfl h_9 ?_
  refine PR.op rfl (Rd.ixM rfl rfl h_11) ?_
  refine PR.guard_on rfl rfl h_9 ?_
  refine PR.op rfl (Rd.fieldT rfl) ?_
  refine PR.guard_on rfl rfl h_9 ?_
  refine PR.op rfl (Rd.elMF (f := 3) rfl h_11 rfl rfl) ?_
  refine PR.guard_on rfl rfl h_9 ?_
  refine PR.op rfl (Rd.fieldO rfl rfl) ?_
  refine PR.guard_on rfl rfl h_9 ?_
  refine PR.op rfl (Rd.loadO rfl rfl rfl) ?_
  refine PR.guard_on rfl rfl h_9 ?_
  refine PR.op rfl (Rd.leq rfl rfl) ?_
  refine PR.op rfl (Rd.pick_t rfl h_9) ?_
  refine PR.op rfl (Rd.asnT rfl) ?_
  refine PR.nil ?_
  refine PT.done ?_
  refine PL.nil ?_
  refine thA_n ?_
  refine PC.ret ?_
  obtain rfl := some_in hh0
  exact FinA.mk (r := bA (decide (x10.last ≤ p_b.forced))) (bl := []) [] (.inl rfl) rfl (rl := [.tmp 4]) (.tmp .nil) rfl rfl rfl (.t _) trivial ⟨rfl, rfl⟩

def m_S_validBuffer_k2 (N : Nat) (p_b : I_Buffer) : Option (Bool) :=
  cond (decide ((p_b.frames.length : Int) ≤ (4 : Int)))
    ((m_S_inRange N p_b.forced (0 : Int) (9999 : Int)).bind fun r41 =>
    some r41)
    (some false)
def m_S_validBuffer_k3 (N : Nat) (f1 : Int) : Option (Int ⊕ (Unit ⊕ Bool)) :=
  (chk (f1 + (1 : Int))).bind fun n68 =>
  some (.inl n68)
def m_S_validBuffer_b3 (N : Nat) (p_b : I_Buffer) (f1 : Int) (x44 : I_Frame) (i56 : Int) : Option (Int ⊕ (Unit ⊕ Bool)) :=
  cond (decide (i56 < f1))
    ((ixI p_b.frames i56).bind fun x71 =>
    cond (decide (x71.page = x44.page))
      (some (.inr (.inr false)))
      ((chk (i56 + (1 : Int))).bind fun n74 =>
      some (.inl n74)))
    (some (.inr (.inl ())))
def m_S_validBuffer_b2 (N : Nat) (p_b : I_Buffer) (f1 : Int) : Option (Int ⊕ (Unit ⊕ Bool)) :=
  cond (decide (f1 < (p_b.frames.length : Int)))
    ((ixI p_b.frames f1).bind fun x44 =>
    (m_S_inRange N x44.page (0 : Int) (5 : Int)).bind fun r46 =>
    cond r46
      ((m_S_inRange N x44.last (0 : Int) (9999 : Int)).bind fun r49 =>
      cond r49
        ((m_S_inRange N x44.first (0 : Int) x44.last).bind fun r52 =>
        cond r52
          (cond (x44.dirty == (decide ((0 : Int) < x44.first)))
            ((loopM (β := Unit ⊕ Bool) (fun s : Int => m_S_validBuffer_b3 N p_b f1 x44 s) N (0 : Int)).bind fun o => match o with
            | .inl e =>
              m_S_validBuffer_k3 N f1 
            | .inr v =>
              some (.inr (.inr v)))
            (some (.inr (.inr false))))
          (some (.inr (.inr false))))
        (some (.inr (.inr false))))
      (some (.inr (.inr false))))
    (some (.inr (.inl ())))
def m_S_validBuffer (N : Nat) (p_b : I_Buffer) : Option (Bool) :=
  (loopM (β := Unit ⊕ Bool) (fun s : Int => m_S_validBuffer_b2 N p_b s) N (0 : Int)).bind fun o => match o with
  | .inl e =>
    m_S_validBuffer_k2 N p_b 
  | .inr v =>
    some v
theorem w_S_validBuffer (N : Nat) (p_b : I_Buffer) (r : Bool) (hh0 : m_S_validBuffer N p_b = some r) : FnX Try.prog 30 [] [.agg [sL p_b.frames, iA p_b.forced]] (RE (bA r) []) := by
  unfold m_S_validBuffer at hh0
  refine FnX.mk Try.func30 rfl rfl ?_
  intro s hs
  refine PC.seq ?_
  refine PC.region ?_
  refine PL.ef rfl (Ef.box rfl rfl rfl) ?_
  refine PL.nm (.op 0 0) [some ⟨.mx [sL p_b.frames, iA p_b.forced], 28, 0⟩] rfl rfl ?_
  refine PL.op rfl (Rd.asnT rfl) ?_
  refine PL.nil ?_
  refine thA_n ?_
  refine PC.seq ?_
  refine PC.seq ?_
  refine PC.region ?_
  refine PL.op rfl (Rd.asnT rfl) ?_
  refine PL.nil ?_
  refine thA_n ?_
  obtain ⟨o35, h_36, hh0⟩ := bind_some hh0
  refine PC.cutE hs (fun x : Unit => [(1, .op 0 0)]) (fun x => [⟨.mx [sL p_b.frames, iA p_b.forced], 28, 0⟩]) (fun x => m_S_validBuffer_k2 N p_b  = some r) ?_ ?_
  · refine PC.block ?_
    refine PC.loop hs (fun x : Nat × (Int) => [(1, .op 0 0), (3, iA x.2)]) (fun x => [⟨.mx [sL p_b.frames, iA p_b.forced], 28, 0⟩]) (fun x => loopM (β := Unit ⊕ Bool) (fun s : Int => m_S_validBuffer_b2 N p_b s) x.1 x.2 = some o35) (fun x => x.1) (N, (0 : Int)) [some 0] ⟨rfl, rfl, ⟨⟨_, rfl, rfl, rfl, .mx ⟨.t _, .t _, trivial⟩⟩, trivial⟩, ⟨.op rfl, .t _, trivial⟩⟩ h_36 ?_
    rintro ⟨f37_, f1⟩ h_39
    obtain ⟨f37, y38, rfl, hh1, kk1⟩ := loopM_some h_39
    replace hh1 : m_S_validBuffer_b2 N p_b f1 = some y38 := hh1
    unfold m_S_validBuffer_b2 at hh1
    refine PC.seq ?_
    refine PC.seq ?_
    refine PC.region ?_
    refine PL.op rfl (Rd.moveT rfl) ?_
    refine PL.op rfl (Rd.fieldO rfl rfl) ?_
    refine PL.op rfl (Rd.loadO rfl rfl rfl) ?_
    refine PL.op rfl (Rd.lenT rfl) ?_
    refine PL.op rfl (Rd.lss rfl rfl) ?_
    refine PL.nil ?_
    refine thA_n ?_
    rcases cond_some hh1 with ⟨h_43, hh1⟩ | ⟨h_43, hh1⟩
    rotate_left
    · refine PC.cond_false rfl h_43 ?_
      refine PC.exit ?_
      refine thA_e ?_
      refine thA_e ?_
      refine inA_eq rfl ?_
      refine thA_n ?_
      obtain rfl := some_in hh1
      obtain rfl : (.inl () : Unit ⊕ Bool) = o35 := kk1
      exact ⟨(), hh0, [some 0], ⟨rfl, rfl, ⟨⟨_, rfl, rfl, rfl, .mx ⟨.t _, .t _, trivial⟩⟩, trivial⟩, ⟨.op rfl, trivial⟩⟩⟩
    refine PC.cond_true rfl h_43 ?_
    refine PC.skip ?_
    refine thA_n ?_
    refine PC.seq ?_
    refine PC.block ?_
    refine PC.seq ?_
    obtain ⟨x44, h_45, hh1⟩ := bind_some hh1
    refine PC.region ?_
    refine PL.op rfl (Rd.fieldO rfl rfl) ?_
    refine PL.op rfl (Rd.loadO rfl rfl rfl) ?_
    refine PL.op rfl (Rd.moveT rfl) ?_
    refine PL.op rfl (Rd.ixM rfl rfl h_45) ?_
    refine PL.op rfl (Rd.elMR rfl h_45 rfl rfl) ?_
    refine PL.ef rfl (Ef.alloc rfl rfl) ?_
    refine PL.nm (.op 1 0) [some ⟨.mx [sL p_b.frames, iA p_b.forced], 28, 0⟩, some ⟨.mx [iA (0 : Int), bA false, iA (0 : Int), iA (0 : Int)], 59, 0⟩] rfl rfl ?_
    refine PL.store rfl rfl rfl rfl rfl rfl rfl ?_
    refine PL.nO [some ⟨.mx [sL p_b.frames, iA p_b.forced], 28, 0⟩, some ⟨.mx [iA x44.page, bA x44.dirty, iA x44.first, iA x44.last], 59, 0⟩] rfl ?_
    refine PL.nil ?_
    refine thA_n ?_
    refine PC.seq ?_
    refine PC.seq ?_
    obtain ⟨r46, h_47, hh1⟩ := bind_some hh1
    rcases cond_some hh1 with ⟨h_48, hh1⟩ | ⟨h_48, hh1⟩
    rotate_left
    · refine PC.region ?_
      refine PL.op rfl (Rd.fieldO rfl rfl) ?_
      refine PL.op rfl (Rd.loadO rfl rfl rfl) ?_
      refine PL.callM false [] (w_S_inRange N x44.page (0 : Int) (5 : Int) r46 h_47) rfl Try.call31 rfl ⟨.t _, .t _, .t _, trivial⟩ rfl trivial (fun h => by cases h) ?_
      refine PL.op rfl (Rd.unnot rfl) ?_
      refine PL.op rfl (Rd.moveT rfl) ?_
      refine PL.guard_off rfl rfl (not_f h_48) ?_
      refine PL.guard_off rfl rfl (not_f h_48) ?_
      refine PL.guard_off rfl rfl (not_f h_48) ?_
      refine PL.guard_off rfl rfl (not_f h_48) ?_
      refine PL.op rfl (Rd.pick_t rfl (not_f h_48)) ?_
      refine PL.op rfl (Rd.moveT rfl) ?_
      refine PL.guard_off rfl rfl rfl ?_
      refine PL.guard_off rfl rfl rfl ?_
      refine PL.guard_off rfl rfl rfl ?_
      refine PL.guard_off rfl rfl rfl ?_
      refine PL.guard_off rfl rfl rfl ?_
      refine PL.guard_off rfl rfl rfl ?_
      refine PL.op rfl (Rd.pick_t rfl rfl) ?_
      refine PL.op rfl (Rd.moveT rfl) ?_
      refine PL.guard_off rfl rfl rfl ?_
      refine PL.guard_off rfl rfl rfl ?_
      refine PL.guard_off rfl rfl rfl ?_
      refine PL.guard_off rfl rfl rfl ?_
      refine PL.guard_off rfl rfl rfl ?_
      refine PL.guard_off rfl rfl rfl ?_
      refine PL.op rfl (Rd.pick_t rfl rfl) ?_
      refine PL.nil ?_
      refine thA_n ?_
      refine PC.cond_true rfl rfl ?_
      refine PC.seq ?_
      refine PC.region ?_
      refine PL.op rfl (Rd.asnT rfl) ?_
      refine PL.nil ?_
      refine thA_n ?_
      refine PC.ret ?_
      refine thA_r ?_
      refine inA_r ?_
      refine thA_r ?_
      refine thA_r ?_
      refine inA_r ?_
      refine thA_r ?_
      obtain rfl := some_in hh1
      obtain rfl : (.inr false : Unit ⊕ Bool) = o35 := kk1
      refine thA_r ?_
      obtain rfl := some_in hh0
      exact FinA.mk (r := bA false) (bl := []) [] (.inl rfl) rfl (rl := [.tmp 2]) (.tmp .nil) rfl rfl rfl (.t _) trivial ⟨rfl, rfl⟩
    obtain ⟨r49, h_50, hh1⟩ := bind_some hh1
    rcases cond_some hh1 with ⟨h_51, hh1⟩ | ⟨h_51, hh1⟩
    rotate_left
    · refine PC.region ?_
      refine PL.op rfl (Rd.fieldO rfl rfl) ?_
      refine PL.op rfl (Rd.loadO rfl rfl rfl) ?_
      refine PL.callM false [] (w_S_inRange N x44.page (0 : Int) (5 : Int) r46 h_47) rfl Try.call31 rfl ⟨.t _, .t _, .t _, trivial⟩ rfl trivial (fun h => by cases h) ?_
      refine PL.op rfl (Rd.unnot rfl) ?_
      refine PL.op rfl (Rd.moveT rfl) ?_
      refine PL.guard_on rfl (not_t h_48) ?_
      refine PL.op rfl (Rd.fieldO rfl rfl) ?_
      refine PL.guard_on rfl (not_t h_48) ?_
      refine PL.op rfl (Rd.loadO rfl rfl rfl) ?_
      refine PL.guard_on rfl (not_t h_48) ?_
      refine PL.callM false [] (w_S_inRange N x44.last (0 : Int) (9999 : Int) r49 h_50) rfl Try.call31 rfl ⟨.t _, .t _, .t _, trivial⟩ rfl trivial (fun h => by cases h) ?_
      refine PL.guard_on rfl (not_t h_48) ?_
      refine PL.op rfl (Rd.unnot rfl) ?_
      refine PL.op rfl (Rd.pick_f rfl (not_t h_48)) ?_
      refine PL.op rfl (Rd.moveT rfl) ?_
      refine PL.guard_off rfl rfl (not_f h_51) ?_
      refine PL.guard_off rfl rfl (not_f h_51) ?_
      refine PL.guard_off rfl rfl (not_f h_51) ?_
      refine PL.guard_off rfl rfl (not_f h_51) ?_
      refine PL.guard_off rfl rfl (not_f h_51) ?_
      refine PL.guard_off rfl rfl (not_f h_51) ?_
      refine PL.op rfl (Rd.pick_t rfl (not_f h_51)) ?_
      refine PL.op rfl (Rd.moveT rfl) ?_
      refine PL.guard_off rfl rfl rfl ?_
      refine PL.guard_off rfl rfl rfl ?_
      refine PL.guard_off rfl rfl rfl ?_
      refine PL.guard_off rfl rfl rfl ?_
      refine PL.guard_off rfl rfl rfl ?_
      refine PL.guard_off rfl rfl rfl ?_
      refine PL.op rfl (Rd.pick_t rfl rfl) ?_
      refine PL.nil ?_
      refine thA_n ?_
      refine PC.cond_true rfl rfl ?_
      refine PC.seq ?_
      refine PC.region ?_
      refine PL.op rfl (Rd.asnT rfl) ?_
      refine PL.nil ?_
      refine thA_n ?_
      refine PC.ret ?_
      refine thA_r ?_
      refine inA_r ?_
      refine thA_r ?_
      refine thA_r ?_
      refine inA_r ?_
      refine thA_r ?_
      obtain rfl := some_in hh1
      obtain rfl : (.inr false : Unit ⊕ Bool) = o35 := kk1
      refine thA_r ?_
      obtain rfl := some_in hh0
      exact FinA.mk (r := bA false) (bl := []) [] (.inl rfl) rfl (rl := [.tmp 2]) (.tmp .nil) rfl rfl rfl (.t _) trivial ⟨rfl, rfl⟩
    obtain ⟨r52, h_53, hh1⟩ := bind_some hh1
    rcases cond_some hh1 with ⟨h_54, hh1⟩ | ⟨h_54, hh1⟩
    rotate_left
    · refine PC.region ?_
      refine PL.op rfl (Rd.fieldO rfl rfl) ?_
      refine PL.op rfl (Rd.loadO rfl rfl rfl) ?_
      refine PL.callM false [] (w_S_inRange N x44.page (0 : Int) (5 : Int) r46 h_47) rfl Try.call31 rfl ⟨.t _, .t _, .t _, trivial⟩ rfl trivial (fun h => by cases h) ?_
      refine PL.op rfl (Rd.unnot rfl) ?_
      refine PL.op rfl (Rd.moveT rfl) ?_
      refine PL.guard_on rfl (not_t h_48) ?_
      refine PL.op rfl (Rd.fieldO rfl rfl) ?_
      refine PL.guard_on rfl (not_t h_48) ?_
      refine PL.op rfl (Rd.loadO rfl rfl rfl) ?_
      refine PL.guard_on rfl (not_t h_48) ?_
      refine PL.callM false [] (w_S_inRange N x44.last (0 : Int) (9999 : Int) r49 h_50) rfl Try.call31 rfl ⟨.t _, .t _, .t _, trivial⟩ rfl trivial (fun h => by cases h) ?_
      refine PL.guard_on rfl (not_t h_48) ?_
      refine PL.op rfl (Rd.unnot rfl) ?_
      refine PL.op rfl (Rd.pick_f rfl (not_t h_48)) ?_
      refine PL.op rfl (Rd.moveT rfl) ?_
      refine PL.guard_on rfl (not_t h_51) ?_
      refine PL.op rfl (Rd.fieldO rfl rfl) ?_
      refine PL.guard_on rfl (not_t h_51) ?_
      refine PL.op rfl (Rd.loadO rfl rfl rfl) ?_
      refine PL.guard_on rfl (not_t h_51) ?_
      refine PL.op rfl (Rd.fieldO rfl rfl) ?_
      refine PL.guard_on rfl (not_t h_51) ?_
      refine PL.op rfl (Rd.loadO rfl rfl rfl) ?_
      refine PL.guard_on rfl (not_t h_51) ?_
      refine PL.callM false [] (w_S_inRange N x44.first (0 : Int) x44.last r52 h_53) rfl Try.call31 rfl ⟨.t _, .t _, .t _, trivial⟩ rfl trivial (fun h => by cases h) ?_
      refine PL.guard_on rfl (not_t h_51) ?_
      refine PL.op rfl (Rd.unnot rfl) ?_
      refine PL.op rfl (Rd.pick_f rfl (not_t h_51)) ?_
      refine PL.op rfl (Rd.moveT rfl) ?_
      refine PL.guard_off rfl rfl (not_f h_54) ?_
      refine PL.guard_off rfl rfl (not_f h_54) ?_
      refine PL.guard_off rfl rfl (not_f h_54) ?_
      refine PL.guard_off rfl rfl (not_f h_54) ?_
      refine PL.guard_off rfl rfl (not_f h_54) ?_
      refine PL.guard_off rfl rfl (not_f h_54) ?_
      refine PL.op rfl (Rd.pick_t rfl (not_f h_54)) ?_
      refine PL.nil ?_
      refine thA_n ?_
      refine PC.cond_true rfl rfl ?_
      refine PC.seq ?_
      refine PC.region ?_
      refine PL.op rfl (Rd.asnT rfl) ?_
      refine PL.nil ?_
      refine thA_n ?_
      refine PC.ret ?_
      refine thA_r ?_
      refine inA_r ?_
      refine thA_r ?_
      refine thA_r ?_
      refine inA_r ?_
      refine thA_r ?_
      obtain rfl := some_in hh1
      obtain rfl : (.inr false : Unit ⊕ Bool) = o35 := kk1
      refine thA_r ?_
      obtain rfl := some_in hh0
      exact FinA.mk (r := bA false) (bl := []) [] (.inl rfl) rfl (rl := [.tmp 2]) (.tmp .nil) rfl rfl rfl (.t _) trivial ⟨rfl, rfl⟩
    refine PC.region ?_
    refine PL.op rfl (Rd.fieldO rfl rfl) ?_
    refine PL.op rfl (Rd.loadO rfl rfl rfl) ?_
    refine PL.callM false [] (w_S_inRange N x44.page (0 : Int) (5 : Int) r46 h_47) rfl Try.call31 rfl ⟨.t _, .t _, .t _, trivial⟩ rfl trivial (fun h => by cases h) ?_
    refine PL.op rfl (Rd.unnot rfl) ?_
    refine PL.op rfl (Rd.moveT rfl) ?_
    refine PL.guard_on rfl (not_t h_48) ?_
    refine PL.op rfl (Rd.fieldO rfl rfl) ?_
    refine PL.guard_on rfl (not_t h_48) ?_
    refine PL.op rfl (Rd.loadO rfl rfl rfl) ?_
    refine PL.guard_on rfl (not_t h_48) ?_
    refine PL.callM false [] (w_S_inRange N x44.last (0 : Int) (9999 : Int) r49 h_50) rfl Try.call31 rfl ⟨.t _, .t _, .t _, trivial⟩ rfl trivial (fun h => by cases h) ?_
    refine PL.guard_on rfl (not_t h_48) ?_
    refine PL.op rfl (Rd.unnot rfl) ?_
    refine PL.op rfl (Rd.pick_f rfl (not_t h_48)) ?_
    refine PL.op rfl (Rd.moveT rfl) ?_
    refine PL.guard_on rfl (not_t h_51) ?_
    refine PL.op rfl (Rd.fieldO rfl rfl) ?_
    refine PL.guard_on rfl (not_t h_51) ?_
    refine PL.op rfl (Rd.loadO rfl rfl rfl) ?_
    refine PL.guard_on rfl (not_t h_51) ?_
    refine PL.op rfl (Rd.fieldO rfl rfl) ?_
    refine PL.guard_on rfl (not_t h_51) ?_
    refine PL.op rfl (Rd.loadO rfl rfl rfl) ?_
    refine PL.guard_on rfl (not_t h_51) ?_
    refine PL.callM false [] (w_S_inRange N x44.first (0 : Int) x44.last r52 h_53) rfl Try.call31 rfl ⟨.t _, .t _, .t _, trivial⟩ rfl trivial (fun h => by cases h) ?_
    refine PL.guard_on rfl (not_t h_51) ?_
    refine PL.op rfl (Rd.unnot rfl) ?_
    refine PL.op rfl (Rd.pick_f rfl (not_t h_51)) ?_
    refine PL.op rfl (Rd.moveT rfl) ?_
    refine PL.guard_on rfl (not_t h_54) ?_
    refine PL.op rfl (Rd.fieldO rfl rfl) ?_
    refine PL.guard_on rfl (not_t h_54) ?_
    refine PL.op rfl (Rd.loadO rfl rfl rfl) ?_
    refine PL.guard_on rfl (not_t h_54) ?_
    refine PL.op rfl (Rd.fieldO rfl rfl) ?_
    refine PL.guard_on rfl (not_t h_54) ?_
    refine PL.op rfl (Rd.loadO rfl rfl rfl) ?_
    refine PL.guard_on rfl (not_t h_54) ?_
    refine PL.op rfl (Rd.gtr rfl rfl) ?_
    refine PL.guard_on rfl (not_t h_54) ?_
    refine PL.op rfl (Rd.neqB rfl rfl) ?_
    refine PL.op rfl (Rd.pick_f rfl (not_t h_54)) ?_
    refine PL.nil ?_
    refine thA_n ?_
    rcases cond_some hh1 with ⟨h_55, hh1⟩ | ⟨h_55, hh1⟩
    rotate_left
    · refine PC.cond_true rfl (not_f h_55) ?_
      refine PC.seq ?_
      refine PC.region ?_
      refine PL.op rfl (Rd.asnT rfl) ?_
      refine PL.nil ?_
      refine thA_n ?_
      refine PC.ret ?_
      refine thA_r ?_
      refine inA_r ?_
      refine thA_r ?_
      refine thA_r ?_
      refine inA_r ?_
      refine thA_r ?_
      obtain rfl := some_in hh1
      obtain rfl : (.inr false : Unit ⊕ Bool) = o35 := kk1
      refine thA_r ?_
      obtain rfl := some_in hh0
      exact FinA.mk (r := bA false) (bl := []) [] (.inl rfl) rfl (rl := [.tmp 2]) (.tmp .nil) rfl rfl rfl (.t _) trivial ⟨rfl, rfl⟩
    refine PC.cond_false rfl (not_t h_55) ?_
    refine PC.skip ?_
    refine thA_n ?_
    refine PC.seq ?_
    refine PC.region ?_
    refine PL.op rfl (Rd.asnT rfl) ?_
    refine PL.nil ?_
    refine thA_n ?_
    obtain ⟨o63, h_64, hh1⟩ := bind_some hh1
    refine PC.cutE hs (fun x : Unit => [(1, .op 0 0), (3, iA f1), (23, .op 1 3), (24, iA x44.last), (25, bA r49), (26, bA (!r49)), (29, .op 1 2), (30, iA x44.first), (31, .op 1 3), (32, iA x44.last), (33, bA r52), (34, bA (!r52)), (37, .op 1 1), (38, bA x44.dirty), (39, .op 1 2), (40, iA x44.first), (41, bA (decide ((0 : Int) < x44.first))), (42, bA (!(x44.dirty == (decide ((0 : Int) < x44.first)))))]) (fun x => [⟨.mx [sL p_b.frames, iA p_b.forced], 28, 0⟩, ⟨.mx [iA x44.page, bA x44.dirty, iA x44.first, iA x44.last], 59, 0⟩]) (fun x => m_S_validBuffer_k3 N f1  = some y38) ?_ ?_
    · refine PC.block ?_
      refine PC.loop hs (fun x : Nat × (Int) => [(1, .op 0 0), (3, iA f1), (4, .op 1 0), (5, iA x.2), (23, .op 1 3), (24, iA x44.last), (25, bA r49), (26, bA (!r49)), (29, .op 1 2), (30, iA x44.first), (31, .op 1 3), (32, iA x44.last), (33, bA r52), (34, bA (!r52)), (37, .op 1 1), (38, bA x44.dirty), (39, .op 1 2), (40, iA x44.first), (41, bA (decide ((0 : Int) < x44.first))), (42, bA (!(x44.dirty == (decide ((0 : Int) < x44.first)))))]) (fun x => [⟨.mx [sL p_b.frames, iA p_b.forced], 28, 0⟩, ⟨.mx [iA x44.page, bA x44.dirty, iA x44.first, iA x44.last], 59, 0⟩]) (fun x => loopM (β := Unit ⊕ Bool) (fun s : Int => m_S_validBuffer_b3 N p_b f1 x44 s) x.1 x.2 = some o63) (fun x => x.1) (N, (0 : Int)) [some 0, some 1] ⟨rfl, rfl, ⟨⟨_, rfl, rfl, rfl, .mx ⟨.t _, .t _, trivial⟩⟩, ⟨_, rfl, rfl, rfl, .mx ⟨.t _, .t _, .t _, .t _, trivial⟩⟩, trivial⟩, ⟨.op rfl, .t _, .op rfl, .t _, .op rfl, .t _, .t _, .t _, .op rfl, .t _, .op rfl, .t _, .t _, .t _, .op rfl, .t _, .op rfl, .t _, .t _, .t _, trivial⟩⟩ h_64 ?_
      rintro ⟨f65_, i56⟩ h_67
      obtain ⟨f65, y66, rfl, hh2, kk2⟩ := loopM_some h_67
      replace hh2 : m_S_validBuffer_b3 N p_b f1 x44 i56 = some y66 := hh2
      unfold m_S_validBuffer_b3 at hh2
      refine PC.seq ?_
      refine PC.seq ?_
      refine PC.region ?_
      refine PL.op rfl (Rd.moveT rfl) ?_
      refine PL.op rfl (Rd.moveT rfl) ?_
      refine PL.op rfl (Rd.lss rfl rfl) ?_
      refine PL.nil ?_
      refine thA_n ?_
      rcases cond_some hh2 with ⟨h_70, hh2⟩ | ⟨h_70, hh2⟩
      rotate_left
      · refine PC.cond_false rfl h_70 ?_
        refine PC.exit ?_
        refine thA_e ?_
        refine thA_e ?_
        refine inA_eq rfl ?_
        refine thA_n ?_
        obtain rfl := some_in hh2
        obtain rfl : (.inl () : Unit ⊕ Bool) = o63 := kk2
        exact ⟨(), hh1, [some 0, some 1], ⟨rfl, rfl, ⟨⟨_, rfl, rfl, rfl, .mx ⟨.t _, .t _, trivial⟩⟩, ⟨_, rfl, rfl, rfl, .mx ⟨.t _, .t _, .t _, .t _, trivial⟩⟩, trivial⟩, ⟨.op rfl, .t _, .op rfl, .t _, .t _, .t _, .op rfl, .t _, .op rfl, .t _, .t _, .t _, .op rfl, .t _, .op rfl, .t _, .t _, .t _, trivial⟩⟩⟩
      refine PC.cond_true rfl h_70 ?_
      refine PC.skip ?_
      refine thA_n ?_
      refine PC.seq ?_
      refine PC.block ?_
      refine PC.seq ?_
      obtain ⟨x71, h_72, hh2⟩ := bind_some hh2
      refine PC.any (id := 10) 9 (.seg [0, 1, 2, 3, 4, 5, 6, 7, 8] .done) [] rfl (by kernel_rfl) rfl ?_
      refine PT.seg ?_
      refine PR.op rfl (Rd.fieldO rfl rfl) ?_
      refine PR.op rfl (Rd.loadO rfl rfl rfl) ?_
      refine PR.op rfl (Rd.moveT rfl) ?_
      refine PR.op rfl (Rd.ixM rfl rfl h_72) ?_
      refine PR.op rfl (Rd.fieldT rfl) ?_
      refine PR.op rfl (Rd.elMF (f := 0) rfl h_72 rfl rfl) ?_
      refine PR.op rfl (Rd.fieldO rfl rfl) ?_
      refine PR.op rfl (Rd.loadO rfl rfl rfl) ?_
      refine PR.op rfl (Rd.eql rfl rfl) ?_
      refine PR.nil ?_
      refine PT.done ?_
      refine PL.nil ?_
      refine thA_n ?_
      rcases cond_some hh2 with ⟨h_73, hh2⟩ | ⟨h_73, hh2⟩
      · refine PC.cond_true rfl h_73 ?_
        refine PC.seq ?_
        refine PC.region ?_
        refine PL.op rfl (Rd.asnT rfl) ?_
        refine PL.nil ?_
        refine thA_n ?_
        refine PC.ret ?_
        refine inA_r ?_
        refine thA_r ?_
        refine thA_r ?_
        refine inA_r ?_
        refine thA_r ?_
        obtain rfl := some_in hh2
        obtain rfl : (.inr false : Unit ⊕ Bool) = o63 := kk2
        refine inA_r ?_
        refine thA_r ?_
        refine thA_r ?_
        refine inA_r ?_
        refine thA_r ?_
        obtain rfl := some_in hh1
        obtain rfl : (.inr false : Unit ⊕ Bool) = o35 := kk1
        refine thA_r ?_
        obtain rfl := some_in hh0
        exact FinA.mk (r := bA false) (bl := []) [] (.inl rfl) rfl (rl := [.tmp 2]) (.tmp .nil) rfl rfl rfl (.t _) trivial ⟨rfl, rfl⟩
      refine PC.cond_false rfl h_73 ?_
      refine PC.skip ?_
      refine inA_n ?_
      refine thA_n ?_
      obtain ⟨n74, h_75, hh2⟩ := bind_some hh2
      refine PC.region ?_
      refine PL.op rfl (Rd.moveT rfl) ?_
      refine PL.op rfl (Rd.addM rfl rfl h_75) ?_
      refine PL.op rfl (Rd.asnT rfl) ?_
      refine PL.nil ?_
      obtain rfl := some_in hh2
      refine thA_n ?_
      exact ⟨(f65, n74), Nat.lt_succ_self _, kk2, [some 0, some 1], ⟨rfl, rfl, ⟨⟨_, rfl, rfl, rfl, .mx ⟨.t _, .t _, trivial⟩⟩, ⟨_, rfl, rfl, rfl, .mx ⟨.t _, .t _, .t _, .t _, trivial⟩⟩, trivial⟩, ⟨.op rfl, .t _, .op rfl, .t _, .op rfl, .t _, .t _, .t _, .op rfl, .t _, .op rfl, .t _, .t _, .t _, .op rfl, .t _, .op rfl, .t _, .t _, .t _, trivial⟩⟩⟩
    clear hh1
    rintro ⟨⟩ hh1
    replace hh1 : m_S_validBuffer_k3 N f1  = some y38 := hh1
    unfold m_S_validBuffer_k3 at hh1
    refine inA_n ?_
    refine thA_n ?_
    obtain ⟨n68, h_69, hh1⟩ := bind_some hh1
    refine PC.region ?_
    refine PL.op rfl (Rd.moveT rfl) ?_
    refine PL.op rfl (Rd.addM rfl rfl h_69) ?_
    refine PL.op rfl (Rd.asnT rfl) ?_
    refine PL.nil ?_
    obtain rfl := some_in hh1
    refine thA_n ?_
    exact ⟨(f37, n68), Nat.lt_succ_self _, kk1, [some 0], ⟨rfl, rfl, ⟨⟨_, rfl, rfl, rfl, .mx ⟨.t _, .t _, trivial⟩⟩, trivial⟩, ⟨.op rfl, .t _, trivial⟩⟩⟩
  clear hh0
  rintro ⟨⟩ hh0
  replace hh0 : m_S_validBuffer_k2 N p_b  = some r := hh0
  unfold m_S_validBuffer_k2 at hh0
  refine thA_n ?_
  refine PC.seq ?_
  rcases cond_some hh0 with ⟨h_40, hh0⟩ | ⟨h_40, hh0⟩
  rotate_left
  · refine PC.region ?_
    refine PL.op rfl (Rd.fieldO rfl rfl) ?_
    refine PL.op rfl (Rd.loadO rfl rfl rfl) ?_
    refine PL.op rfl (Rd.lenT rfl) ?_
    refine PL.op rfl (Rd.leq rfl rfl) ?_
    refine PL.op rfl (Rd.moveT rfl) ?_
    refine PL.guard_off rfl rfl h_40 ?_
    refine PL.guard_off rfl rfl h_40 ?_
    refine PL.guard_off rfl rfl h_40 ?_
    refine PL.op rfl (Rd.pick_f rfl h_40) ?_
    refine PL.op rfl (Rd.asnT rfl) ?_
    refine PL.nil ?_
    refine thA_n ?_
    refine PC.ret ?_
    obtain rfl := some_in hh0
    exact FinA.mk (r := bA false) (bl := []) [] (.inl rfl) rfl (rl := [.tmp 2]) (.tmp .nil) rfl rfl rfl (.t _) trivial ⟨rfl, rfl⟩
  obtain ⟨r41, h_42, hh0⟩ := bind_some hh0
  refine PC.region ?_
  refine PL.op rfl (Rd.fieldO rfl rfl) ?_
  refine PL.op rfl (Rd.loadO rfl rfl rfl) ?_
  refine PL.op rfl (Rd.lenT rfl) ?_
  refine PL.op rfl (Rd.leq rfl rfl) ?_
  refine PL.op rfl (Rd.moveT rfl) ?_
  refine PL.guard_on rfl h_40 ?_
  refine PL.op rfl (Rd.fieldO rfl rfl) ?_
  refine PL.guard_on rfl h_40 ?_
  refine PL.op rfl (Rd.loadO rfl rfl rfl) ?_
  refine PL.guard_on rfl h_40 ?_
  refine PL.callM false [] (w_S_inRange N p_b.forced (0 : Int) (9999 : Int) r41 h_42) rfl Try.call31 rfl ⟨.t _, .t _, .t _, trivial⟩ rfl trivial (fun h => by cases h) ?_
  refine PL.op rfl (Rd.pick_t rfl h_40) ?_
  refine PL.op rfl (Rd.asnT rfl) ?_
  refine PL.nil ?_
  refine thA_n ?_
  refine PC.ret ?_
  obtain rfl := some_in hh0
  exact FinA.mk (r := bA r41) (bl := []) [] (.inl rfl) rfl (rl := [.tmp 2]) (.tmp .nil) rfl rfl rfl (.t _) trivial ⟨rfl, rfl⟩

def m_S_frameOf_k1 (N : Nat) : Option (Int) :=
  some (-1 : Int)
def m_S_frameOf_b1 (N : Nat) (p_b : I_Buffer) (p_page : Int) (i1 : Int) : Option (Int ⊕ (Unit ⊕ Int)) :=
  cond (decide (i1 < (p_b.frames.length : Int)))
    ((ixI p_b.frames i1).bind fun x14 =>
    cond (decide (x14.page = p_page))
      (some (.inr (.inr i1)))
      ((chk (i1 + (1 : Int))).bind fun n17 =>
      some (.inl n17)))
    (some (.inr (.inl ())))
def m_S_frameOf (N : Nat) (p_b : I_Buffer) (p_page : Int) : Option (Int) :=
  (loopM (β := Unit ⊕ Int) (fun s : Int => m_S_frameOf_b1 N p_b p_page s) N (0 : Int)).bind fun o => match o with
  | .inl e =>
    m_S_frameOf_k1 N 
  | .inr v =>
    some v
theorem w_S_frameOf (N : Nat) (p_b : I_Buffer) (p_page : Int) (r : Int) (hh0 : m_S_frameOf N p_b p_page = some r) : FnX Try.prog 43 [] [.agg [sL p_b.frames, iA p_b.forced], iA p_page] (RE (iA r) []) := by
  unfold m_S_frameOf at hh0
  refine FnX.mk Try.func43 rfl rfl ?_
  intro s hs
  refine PC.seq ?_
  refine PC.region ?_
  refine PL.ef rfl (Ef.box rfl rfl rfl) ?_
  refine PL.nm (.op 0 0) [some ⟨.mx [sL p_b.frames, iA p_b.forced], 28, 0⟩] rfl rfl ?_
  refine PL.op rfl (Rd.asnT rfl) ?_
  refine PL.nil ?_
  refine thA_n ?_
  refine PC.seq ?_
  refine PC.seq ?_
  refine PC.region ?_
  refine PL.op rfl (Rd.asnT rfl) ?_
  refine PL.nil ?_
  refine thA_n ?_
  obtain ⟨o8, h_9, hh0⟩ := bind_some hh0
  refine PC.cutE hs (fun x : Unit => []) (fun x => []) (fun x => m_S_frameOf_k1 N  = some r) ?_ ?_
  · refine PC.block ?_
    refine PC.loop hs (fun x : Nat × (Int) => [(1, iA p_page), (2, .op 0 0), (5, iA x.2)]) (fun x => [⟨.mx [sL p_b.frames, iA p_b.forced], 28, 0⟩]) (fun x => loopM (β := Unit ⊕ Int) (fun s : Int => m_S_frameOf_b1 N p_b p_page s) x.1 x.2 = some o8) (fun x => x.1) (N, (0 : Int)) [some 0] ⟨rfl, rfl, ⟨⟨_, rfl, rfl, rfl, .mx ⟨.t _, .t _, trivial⟩⟩, trivial⟩, ⟨.t _, .op rfl, .t _, trivial⟩⟩ h_9 ?_
    rintro ⟨f10_, i1⟩ h_12
    obtain ⟨f10, y11, rfl, hh1, kk1⟩ := loopM_some h_12
    replace hh1 : m_S_frameOf_b1 N p_b p_page i1 = some y11 := hh1
    unfold m_S_frameOf_b1 at hh1
    refine PC.seq ?_
    refine PC.seq ?_
    refine PC.region ?_
    refine PL.op rfl (Rd.moveT rfl) ?_
    refine PL.op rfl (Rd.fieldO rfl rfl) ?_
    refine PL.op rfl (Rd.loadO rfl rfl rfl) ?_
    refine PL.op rfl (Rd.lenT rfl) ?_
    refine PL.op rfl (Rd.lss rfl rfl) ?_
    refine PL.nil ?_
    refine thA_n ?_
    rcases cond_some hh1 with ⟨h_13, hh1⟩ | ⟨h_13, hh1⟩
    rotate_left
    · refine PC.cond_false rfl h_13 ?_
      refine PC.exit ?_
      refine thA_e ?_
      refine thA_e ?_
      refine inA_eq rfl ?_
      refine thA_n ?_
      obtain rfl := some_in hh1
      obtain rfl : (.inl () : Unit ⊕ Int) = o8 := kk1
      exact ⟨(), hh0, [], ⟨rfl, rfl, trivial, trivial⟩⟩
    refine PC.cond_true rfl h_13 ?_
    refine PC.skip ?_
    refine thA_n ?_
    refine PC.seq ?_
    refine PC.block ?_
    refine PC.seq ?_
    obtain ⟨x14, h_15, hh1⟩ := bind_some hh1
    refine PC.region ?_
    refine PL.op rfl (Rd.fieldO rfl rfl) ?_
    refine PL.op rfl (Rd.loadO rfl rfl rfl) ?_
    refine PL.op rfl (Rd.moveT rfl) ?_
    refine PL.op rfl (Rd.ixM rfl rfl h_15) ?_
    refine PL.op rfl (Rd.fieldT rfl) ?_
    refine PL.op rfl (Rd.elMF (f := 0) rfl h_15 rfl rfl) ?_
    refine PL.op rfl (Rd.moveT rfl) ?_
    refine PL.op rfl (Rd.eql rfl rfl) ?_
    refine PL.nil ?_
    refine thA_n ?_
    rcases cond_some hh1 with ⟨h_16, hh1⟩ | ⟨h_16, hh1⟩
    rotate_left
    · refine PC.cond_false rfl h_16 ?_
      refine PC.skip ?_
      refine inA_n ?_
      refine thA_n ?_
      obtain ⟨n17, h_18, hh1⟩ := bind_some hh1
      refine PC.region ?_
      refine PL.op rfl (Rd.moveT rfl) ?_
      refine PL.op rfl (Rd.addM rfl rfl h_18) ?_
      refine PL.op rfl (Rd.asnT rfl) ?_
      refine PL.nil ?_
      obtain rfl := some_in hh1
      refine thA_n ?_
      exact ⟨(f10, n17), Nat.lt_succ_self _, kk1, [some 0], ⟨rfl, rfl, ⟨⟨_, rfl, rfl, rfl, .mx ⟨.t _, .t _, trivial⟩⟩, trivial⟩, ⟨.t _, .op rfl, .t _, trivial⟩⟩⟩
    refine PC.cond_true rfl h_16 ?_
    refine PC.seq ?_
    refine PC.region ?_
    refine PL.op rfl (Rd.moveT rfl) ?_
    refine PL.op rfl (Rd.asnT rfl) ?_
    refine PL.nil ?_
    refine thA_n ?_
    refine PC.ret ?_
    refine inA_r ?_
    refine thA_r ?_
    refine thA_r ?_
    refine inA_r ?_
    refine thA_r ?_
    obtain rfl := some_in hh1
    obtain rfl : (.inr i1 : Unit ⊕ Int) = o8 := kk1
    refine thA_r ?_
    obtain rfl := some_in hh0
    exact FinA.mk (r := iA i1) (bl := []) [] (.inl rfl) rfl (rl := [.tmp 4]) (.tmp .nil) rfl rfl rfl (.t _) trivial ⟨rfl, rfl⟩
  clear hh0
  rintro ⟨⟩ hh0
  replace hh0 : m_S_frameOf_k1 N  = some r := hh0
  unfold m_S_frameOf_k1 at hh0
  refine thA_n ?_
  refine PC.seq ?_
  refine PC.region ?_
  refine PL.op rfl (Rd.asnT rfl) ?_
  refine PL.nil ?_
  refine thA_n ?_
  refine PC.ret ?_
  obtain rfl := some_in hh0
  exact FinA.mk (r := iA (-1 : Int)) (bl := []) [] (.inl rfl) rfl (rl := [.tmp 4]) (.tmp .nil) rfl rfl rfl (.t _) trivial ⟨rfl, rfl⟩

def m_S_CanWrite (N : Nat) (p_b : I_Buffer) (p_page : Int) : Option (Bool) :=
  (m_S_frameOf N p_b p_page).bind fun r1 =>
  (m_S_validBuffer N p_b).bind fun r3 =>
  cond r3
    (cond (decide ((0 : Int) ≤ r1))
      ((ixI p_b.frames r1).bind fun x7 =>
      cond x7.dirty
        ((ixI p_b.frames r1).bind fun x10 =>
        some (decide (x10.last ≤ p_b.forced)))
        (some false))
      (some false))
    (some false)
theorem w_S_CanWrite (N : Nat) (p_b : I_Buffer) (p_page : Int) (r : Bool) (hh0 : m_S_CanWrite N p_b p_page = some r) : FnX Try.prog 45 [] [.agg [sL p_b.frames, iA p_b.forced], iA p_page] (RE (bA r) []) := by
  unfold m_S_CanWrite at hh0
  refine FnX.mk Try.func45 rfl rfl ?_
  intro s hs
  refine PC.seq ?_
  refine PC.region ?_
  refine PL.ef rfl (Ef.box rfl rfl rfl) ?_
  refine PL.nm (.op 0 0) [some ⟨.mx [sL p_b.frames, iA p_b.forced], 28, 0⟩] rfl rfl ?_
  refine PL.op rfl (Rd.asnT rfl) ?_
  refine PL.nil ?_
  refine thA_n ?_
  refine PC.seq ?_
  obtain ⟨r1, h_2, hh0⟩ := bind_some hh0
  refine PC.region ?_
  refine PL.op rfl (Rd.loadBox rfl rfl rfl) ?_
  refine PL.op rfl (Rd.moveT rfl) ?_
  refine PL.callM false [] (w_S_frameOf N p_b p_page r1 h_2) rfl Try.call43 rfl ⟨.aggL ⟨.t _, .t _, trivial⟩, .t _, trivial⟩ rfl trivial (fun h => by cases h) ?_
  refine PL.op rfl (Rd.asnT rfl) ?_
  refine PL.nil ?_
  refine thA_n ?_
  refine PC.seq ?_
  obtain ⟨r3, h_4, hh0⟩ := bind_some hh0
  rcases cond_some hh0 with ⟨h_5, hh0⟩ | ⟨h_5, hh0⟩
  rotate_left
  · refine PC.any (id := 2) 26 (.seg [0, 1, 2, 3, 4, 5, 6, 7, 8, 9, 10, 11, 12, 13, 14, 15, 16, 17, 18, 19, 20, 21, 22, 23, 24, 25] .done) [] rfl (by kernel_rfl) rfl ?_
    refine PT.seg ?_
    refine PR.op rfl (Rd.loadBox rfl rfl rfl) ?_
    refine PR.callM false [] (w_S_validBuffer N p_b r3 h_4) rfl Try.call30 rfl ⟨.aggL ⟨.t _, .t _, trivial⟩, trivial⟩ rfl trivial (fun h => by cases h) rfl ?_
    refine PR.op rfl (Rd.moveT rfl) ?_
    refine PR.guard_off rfl rfl h_5 ?_
    refine PR.guard_off rfl rfl h_5 ?_
    refine PR.op rfl (Rd.pick_f rfl h_5) ?_
    refine PR.op rfl (Rd.moveT rfl) ?_
    refine PR.guard_off rfl rfl rfl ?_
    refine PR.guard_off rfl rfl rfl ?_
    refine PR.guard_off rfl rfl rfl ?_
    refine PR.guard_off rfl rfl rfl ?_
    refine PR.guard_off rfl rfl rfl ?_
    refine PR.guard_off rfl rfl rfl ?_
    refine PR.op rfl (Rd.pick_f rfl rfl) ?_
    refine PR.op rfl (Rd.moveT rfl) ?_
    refine PR.guard_off rfl rfl rfl ?_
    refine PR.guard_off rfl rfl rfl ?_
    refine PR.guard_off rfl rfl rfl ?_
    refine PR.guard_off rfl rfl rfl ?_
    refine PR.guard_off rfl rfl rfl ?_
    refine PR.guard_off rfl rfl rfl ?_
    refine PR.guard_off rfl rfl rfl ?_
    refine PR.guard_off rfl rfl rfl ?_
    refine PR.guard_off rfl rfl rfl ?_
    refine PR.op rfl (Rd.pick_f rfl rfl) ?_
    refine PR.op rfl (Rd.asnT rfl) ?_
    refine PR.nil ?_
    refine PT.done ?_
    refine PL.nil ?_
    refine thA_n ?_
    refine PC.ret ?_
    obtain rfl := some_in hh0
    exact FinA.mk (r := bA false) (bl := []) [] (.inl rfl) rfl (rl := [.tmp 4]) (.tmp .nil) rfl rfl rfl (.t _) trivial ⟨rfl, rfl⟩
  rcases cond_some hh0 with ⟨h_6, hh0⟩ | ⟨h_6, hh0⟩
  rotate_left
  · refine PC.any (id := 2) 26 (.seg [0, 1, 2, 3, 4, 5, 6, 7, 8, 9, 10, 11, 12, 13, 14, 15, 16, 17, 18, 19, 20, 21, 22, 23, 24, 25] .done) [] rfl (by kernel_rfl) rfl ?_
    refine PT.seg ?_
    refine PR.op rfl (Rd.loadBox rfl rfl rfl) ?_
    refine PR.callM false [] (w_S_validBuffer N p_b r3 h_4) rfl Try.call30 rfl ⟨.aggL ⟨.t _, .t _, trivial⟩, trivial⟩ rfl trivial (fun h => by cases h) rfl ?_
    refine PR.op rfl (Rd.moveT rfl) ?_
    refine PR.guard_on rfl rfl h_5 ?_
    refine PR.op rfl (Rd.moveT rfl) ?_
    refine PR.guard_on rfl rfl h_5 ?_
    refine PR.op rfl (Rd.geq rfl rfl) ?_
    refine PR.op rfl (Rd.pick_t rfl h_5) ?_
    refine PR.op rfl (Rd.moveT rfl) ?_
    refine PR.guard_off rfl rfl h_6 ?_
    refine PR.guard_off rfl rfl h_6 ?_
    refine PR.guard_off rfl rfl h_6 ?_
    refine PR.guard_off rfl rfl h_6 ?_
    refine PR.guard_off rfl rfl h_6 ?_
    refine PR.guard_off rfl rfl h_6 ?_
    refine PR.op rfl (Rd.pick_f rfl h_6) ?_
    refine PR.op rfl (Rd.moveT rfl) ?_
    refine PR.guard_off rfl rfl rfl ?_
    refine PR.guard_off rfl rfl rfl ?_
    refine PR.guard_off rfl rfl rfl ?_
    refine PR.guard_off rfl rfl rfl ?_
    refine PR.guard_off rfl rfl rfl ?_
    refine PR.guard_off rfl rfl rfl ?_
    refine PR.guard_off rfl rfl rfl ?_
    refine PR.guard_off rfl rfl rfl ?_
    refine PR.guard_off rfl rfl rfl ?_
    refine PR.op rfl (Rd.pick_f rfl rfl) ?_
    refine PR.op rfl (Rd.asnT rfl) ?_
    refine PR.nil ?_
    refine PT.done ?_
    refine PL.nil ?_
    refine thA_n ?_
    refine PC.ret ?_
    obtain rfl := some_in hh0
    exact FinA.mk (r := bA false) (bl := []) [] (.inl rfl) rfl (rl := [.tmp 4]) (.tmp .nil) rfl rfl rfl (.t _) trivial ⟨rfl, rfl⟩
  obtain ⟨x7, h_8, hh0⟩ := bind_some hh0
  rcases cond_some hh0 with ⟨h_9, hh0⟩ | ⟨h_9, hh0⟩
  rotate_left
  · refine PC.any (id := 2) 26 (.seg [0, 1, 2, 3, 4, 5, 6, 7, 8, 9, 10, 11, 12, 13, 14, 15, 16, 17, 18, 19, 20, 21, 22, 23, 24, 25] .done) [] rfl (by kernel_rfl) rfl ?_
    refine PT.seg ?_
    refine PR.op rfl (Rd.loadBox rfl rfl rfl) ?_
    refine PR.callM false [] (w_S_validBuffer N p_b r3 h_4) rfl Try.call30 rfl ⟨.aggL ⟨.t _, .t _, trivial⟩, trivial⟩ rfl trivial (fun h => by cases h) rfl ?_
    refine PR.op rfl (Rd.moveT rfl) ?_
    refine PR.guard_on rfl rfl h_5 ?_
    refine PR.op rfl (Rd.moveT rfl) ?_
    refine PR.guard_on rfl rfl h_5 ?_
    refine PR.op rfl (Rd.geq rfl rfl) ?_
    refine PR.op rfl (Rd.pick_t rfl h_5) ?_
    refine PR.op rfl (Rd.moveT rfl) ?_
    refine PR.guard_on rfl rfl h_6 ?_
    refine PR.op rfl (Rd.fieldO rfl rfl) ?_
    refine PR.guard_on rfl rfl h_6 ?_
    refine PR.op rfl (Rd.loadO rfl rfl rfl) ?_
    refine PR.guard_on rfl rfl h_6 ?_
    refine PR.op rfl (Rd.moveT rfl) ?_
    refine PR.guard_on rfl rfl h_6 ?_
    refine PR.op rfl (Rd.ixM rfl rfl h_8) ?_
    refine PR.guard_on rfl rfl h_6 ?_
    refine PR.op rfl (Rd.fieldT rfl) ?_
    refine PR.guard_on rfl rfl h_6 ?_
    refine PR.op rfl (Rd.elMF (f := 1) rfl h_8 rfl rfl) ?_
    refine PR.op rfl (Rd.pick_t rfl h_6) ?_
    refine PR.op rfl (Rd.moveT rfl) ?_
    refine PR.guard_off rfl rfl h_9 ?_
    refine PR.guard_off rfl rfl h_9 ?_
    refine PR.guard_off rfl rfl h_9 ?_
    refine PR.guard_off rfl rfl h_9 ?_
    refine PR.guard_off rfl rfl h_9 ?_
    refine PR.guard_off rfl rfl h_9 ?_
    refine PR.guard_off rfl rfl h_9 ?_
    refine PR.guard_off rfl rfl h_9 ?_
    refine PR.guard_off rfl rfl h_9 ?_
    refine PR.op rfl (Rd.pick_f rfl h_9) ?_
    refine PR.op rfl (Rd.asnT rfl) ?_
    refine PR.nil ?_
    refine PT.done ?_
    refine PL.nil ?_
    refine thA_n ?_
    refine PC.ret ?_
    obtain rfl := some_in hh0
    exact FinA.mk (r := bA false) (bl := []) [] (.inl rfl) rfl (rl := [.tmp 4]) (.tmp .nil) rfl rfl rfl (.t _) trivial ⟨rfl, rfl⟩
  obtain ⟨x10, h_11, hh0⟩ := bind_some hh0
  refine PC.any (id := 2) 26 (.seg [0, 1, 2, 3, 4, 5, 6, 7, 8, 9, 10, 11, 12, 13, 14, 15, 16, 17, 18, 19, 20, 21, 22, 23, 24, 25] .done) [] rfl (by kernel_rfl) rfl ?_
  refine PT.seg ?_
  refine PR.op rfl (Rd.loadBox rfl rfl rfl) ?_
  refine PR.callM false [] (w_S_validBuffer N p_b r3 h_4) rfl Try.call30 rfl ⟨.aggL ⟨.t _, .t _, trivial⟩, trivial⟩ rfl trivial (fun h => by cases h) rfl ?_
  refine PR.op rfl (Rd.moveT rfl) ?_
  refine PR.guard_on rfl rfl h_5 ?_
  refine PR.op rfl (Rd.moveT rfl) ?_
  refine PR.guard_on rfl rfl h_5 ?_
  refine PR.op rfl (Rd.geq rfl rfl) ?_
  refine PR.op rfl (Rd.pick_t rfl h_5) ?_
  refine PR.op rfl (Rd.moveT rfl) ?_
  refine PR.guard_on rfl rfl h_6 ?_
  refine PR.op rfl (Rd.fieldO rfl rfl) ?_
  refine PR.guard_on rfl rfl h_6 ?_
  refine PR.op rfl (Rd.loadO rfl rfl rfl) ?_
  refine PR.guard_on rfl rfl h_6 ?_
  refine PR.op rfl (Rd.moveT rfl) ?_
  refine PR.guard_on rfl rfl h_6 ?_
  refine PR.op rfl (Rd.ixM rfl rfl h_8) ?_
  refine PR.guard_on rfl rfl h_6 ?_
  refine PR.op rfl (Rd.fieldT rfl) ?_
  refine PR.guard_on rfl rfl h_6 ?_
  refine PR.op rfl (Rd.elMF (f := 1) rfl h_8 rfl rfl) ?_
  refine PR.op rfl (Rd.pick_t rfl h_6) ?_
  refine PR.op rfl (Rd.moveT rfl) ?_
  refine PR.guard_on rfl rfl h_9 ?_
  refine PR.op rfl (Rd.fieldO rfl rfl) ?_
  refine PR.guard_on rfl rfl h_9 ?_
  refine PR.op rfl (Rd.loadO rfl rfl rfl) ?_
  refine PR.guard_on rfl rfl h_9 ?_
  refine PR.op rfl (Rd.moveT rfl) ?_
  refine PR.guard_on rfl rfl h_9 ?_
  refine PR.op rfl (Rd.ixM rfl rfl h_11) ?_
  refine PR.guard_on rfl rfl h_9 ?_
  refine PR.op rfl (Rd.fieldT rfl) ?_
  refine PR.guard_on rfl rfl h_9 ?_
  refine PR.op rfl (Rd.elMF (f := 3) rfl h_11 rfl rfl) ?_
  refine PR.guard_on rfl rfl h_9 ?_
  refine PR.op rfl (Rd.fieldO rfl rfl) ?_
  refine PR.guard_on rfl rfl h_9 ?_
  refine PR.op rfl (Rd.loadO rfl rfl rfl) ?_
  refine PR.guard_on rfl rfl h_9 ?_
  refine PR.op rfl (Rd.leq rfl rfl) ?_
  refine PR.op rfl (Rd.pick_t rfl h_9) ?_
  refine PR.op rfl (Rd.asnT rfl) ?_
  refine PR.nil ?_
  refine PT.done ?_
  refine PL.nil ?_
  refine thA_n ?_
  refine PC.ret ?_
  obtain rfl := some_in hh0
  exact FinA.mk (r := bA (decide (x10.last ≤ p_b.forced))) (bl := []) [] (.inl rfl) rfl (rl := [.tmp 4]) (.tmp .nil) rfl rfl rfl (.t _) trivial ⟨rfl, rfl⟩

def m_S_copyBuffer (N : Nat) (p_b : I_Buffer) : Option (I_Buffer) :=
  (appM 32 ([] : List I_Frame) p_b.frames).bind fun xs1 =>
  some (I_Buffer.mk xs1 p_b.forced)
theorem w_S_copyBuffer (N : Nat) (p_b : I_Buffer) (r : I_Buffer) (hh0 : m_S_copyBuffer N p_b = some r) : FnX Try.prog 42 [] [.agg [sL p_b.frames, iA p_b.forced]] (RE (.agg [.os 0 0 r.frames.length, iA r.forced]) [⟨.tr (eL r.frames), 59, 4⟩]) := by
  unfold m_S_copyBuffer at hh0
  refine FnX.mk Try.func42 rfl rfl ?_
  intro s hs
  refine PC.seq ?_
  refine PC.region ?_
  refine PL.ef rfl (Ef.box rfl rfl rfl) ?_
  refine PL.nm (.op 0 0) [some ⟨.mx [sL p_b.frames, iA p_b.forced], 28, 0⟩] rfl rfl ?_
  refine PL.ef rfl (Ef.alloc rfl rfl) ?_
  refine PL.nm (.op 1 0) [some ⟨.mx [sL p_b.frames, iA p_b.forced], 28, 0⟩, some ⟨.mx [.t (.v (.slice none 0 0)), iA (0 : Int)], 28, 0⟩] rfl rfl ?_
  refine PL.nil ?_
  refine thA_n ?_
  refine PC.seq ?_
  obtain ⟨xs1, h_2, hh0⟩ := bind_some hh0
  refine PC.any (id := 1) 7 (.seg [1, 2, 4, 5, 0, 3, 6] .done) [] rfl (by kernel_rfl) rfl ?_
  refine PT.seg ?_
  refine PR.op rfl (Rd.fieldO rfl rfl) ?_
  refine PR.op rfl (Rd.loadO rfl rfl rfl) ?_
  refine PR.op rfl (Rd.fieldO rfl rfl) ?_
  refine PR.op rfl (Rd.loadO rfl rfl rfl) ?_
  refine PR.efX rfl rfl (Ef.lit0M I_Frame) ?_
  refine PR.nm (.os 2 0 0) [some ⟨.mx [sL p_b.frames, iA p_b.forced], 28, 0⟩, some ⟨.mx [.t (.v (.slice none 0 0)), iA (0 : Int)], 28, 0⟩, some ⟨.tr (eL ([] : List I_Frame)), 59, 4⟩] rfl rfl ?_
  refine PR.apM hs rfl rfl rfl rfl (SrcA.eL rfl) rfl rfl rfl rfl rfl h_2 ?_
  refine PR.nm (.os 3 0 xs1.length) [some ⟨.mx [sL p_b.frames, iA p_b.forced], 28, 0⟩, some ⟨.mx [.t (.v (.slice none 0 0)), iA (0 : Int)], 28, 0⟩, none, some ⟨.tr (eL xs1), 59, 4⟩] rfl rfl ?_
  refine PR.op rfl (Rd.build rfl rfl rfl rfl) ?_
  refine PR.nil ?_
  refine PT.done ?_
  refine PL.store rfl rfl rfl rfl rfl rfl rfl ?_
  refine PL.nO [some ⟨.mx [sL p_b.frames, iA p_b.forced], 28, 0⟩, some ⟨.mx [.os 3 0 xs1.length, iA p_b.forced], 28, 0⟩, none, some ⟨.tr (eL xs1), 59, 4⟩] rfl ?_
  refine PL.nil ?_
  refine thA_n ?_
  refine PC.ret ?_
  obtain rfl := some_in hh0
  exact FinA.mk (r := .agg [.os 0 0 xs1.length, iA p_b.forced]) (bl := [⟨.tr (eL xs1), 59, 4⟩]) [some 3] (.inl rfl) rfl (rl := [.cell 2 28]) (.cellN rfl rfl rfl rfl .nil) rfl rfl rfl (.aggL ⟨.os rfl, .t _, trivial⟩) ⟨⟨_, rfl, rfl, rfl, .tr _⟩, trivial⟩ ⟨rfl, rfl⟩

def m_S_ForceLog (N : Nat) (p_b : I_Buffer) (p_lsn : Int) : Option (I_Buffer) :=
  (m_S_validBuffer N p_b).bind fun r1 =>
  cond r1
    ((m_S_inRange N p_lsn (0 : Int) (9999 : Int)).bind fun r4 =>
    cond r4
      ((appM 32 ([] : List I_Frame) p_b.frames).bind fun xs7 =>
      some (I_Buffer.mk xs7 (max p_b.forced p_lsn)))
      (some (I_Buffer.mk ([] : List I_Frame) (0 : Int))))
    (some (I_Buffer.mk ([] : List I_Frame) (0 : Int)))
theorem w_S_ForceLog (N : Nat) (p_b : I_Buffer) (p_lsn : Int) (r : I_Buffer) (hh0 : m_S_ForceLog N p_b p_lsn = some r) : FnX Try.prog 12 [] [.agg [sL p_b.frames, iA p_b.forced], iA p_lsn] (RE (.agg [.os 0 0 r.frames.length, iA r.forced]) [⟨.tr (eL r.frames), 59, 4⟩]) := by
  unfold m_S_ForceLog at hh0
  refine FnX.mk Try.func12 rfl rfl ?_
  intro s hs
  refine PC.seq ?_
  refine PC.region ?_
  refine PL.ef rfl (Ef.box rfl rfl rfl) ?_
  refine PL.nm (.op 0 0) [some ⟨.mx [sL p_b.frames, iA p_b.forced], 28, 0⟩] rfl rfl ?_
  refine PL.ef rfl (Ef.alloc rfl rfl) ?_
  refine PL.nm (.op 1 0) [some ⟨.mx [sL p_b.frames, iA p_b.forced], 28, 0⟩, some ⟨.mx [.t (.v (.slice none 0 0)), iA (0 : Int)], 28, 0⟩] rfl rfl ?_
  refine PL.nil ?_
  refine thA_n ?_
  refine PC.seq ?_
  refine PC.seq ?_
  obtain ⟨r1, h_2, hh0⟩ := bind_some hh0
  rcases cond_some hh0 with ⟨h_3, hh0⟩ | ⟨h_3, hh0⟩
  rotate_left
  · refine PC.region ?_
    refine PL.op rfl (Rd.loadBox rfl rfl rfl) ?_
    refine PL.callM false [] (w_S_validBuffer N p_b r1 h_2) rfl Try.call30 rfl ⟨.aggL ⟨.t _, .t _, trivial⟩, trivial⟩ rfl trivial (fun h => by cases h) ?_
    refine PL.op rfl (Rd.unnot rfl) ?_
    refine PL.op rfl (Rd.moveT rfl) ?_
    refine PL.guard_off rfl rfl (not_f h_3) ?_
    refine PL.guard_off rfl rfl (not_f h_3) ?_
    refine PL.guard_off rfl rfl (not_f h_3) ?_
    refine PL.op rfl (Rd.pick_t rfl (not_f h_3)) ?_
    refine PL.nil ?_
    refine thA_n ?_
    refine PC.cond_true rfl rfl ?_
    refine PC.seq ?_
    refine PC.region ?_
    refine PL.op rfl (Rd.build rfl rfl rfl rfl) ?_
    refine PL.store rfl rfl rfl rfl rfl rfl rfl ?_
    refine PL.nil ?_
    refine thA_n ?_
    refine PC.ret ?_
    refine thA_r ?_
    obtain rfl := some_in hh0
    exact FinA.mk (r := .agg [.os 0 0 0, iA (0 : Int)]) (bl := [⟨.tr (eL ([] : List I_Frame)), 59, 4⟩]) [none] (.inl rfl) rfl (rl := [.cell 4 28]) (.cellN rfl rfl rfl rfl .nil) rfl rfl rfl (.aggL ⟨.osn rfl, .t _, trivial⟩) ⟨ow_nil _, trivial⟩ ⟨rfl, rfl⟩
  obtain ⟨r4, h_5, hh0⟩ := bind_some hh0
  refine PC.region ?_
  refine PL.op rfl (Rd.loadBox rfl rfl rfl) ?_
  refine PL.callM false [] (w_S_validBuffer N p_b r1 h_2) rfl Try.call30 rfl ⟨.aggL ⟨.t _, .t _, trivial⟩, trivial⟩ rfl trivial (fun h => by cases h) ?_
  refine PL.op rfl (Rd.unnot rfl) ?_
  refine PL.op rfl (Rd.moveT rfl) ?_
  refine PL.guard_on rfl (not_t h_3) ?_
  refine PL.op rfl (Rd.moveT rfl) ?_
  refine PL.guard_on rfl (not_t h_3) ?_
  refine PL.callM false [] (w_S_inRange N p_lsn (0 : Int) (9999 : Int) r4 h_5) rfl Try.call31 rfl ⟨.t _, .t _, .t _, trivial⟩ rfl trivial (fun h => by cases h) ?_
  refine PL.guard_on rfl (not_t h_3) ?_
  refine PL.op rfl (Rd.unnot rfl) ?_
  refine PL.op rfl (Rd.pick_f rfl (not_t h_3)) ?_
  refine PL.nil ?_
  refine thA_n ?_
  rcases cond_some hh0 with ⟨h_6, hh0⟩ | ⟨h_6, hh0⟩
  rotate_left
  · refine PC.cond_true rfl (not_f h_6) ?_
    refine PC.seq ?_
    refine PC.region ?_
    refine PL.op rfl (Rd.build rfl rfl rfl rfl) ?_
    refine PL.store rfl rfl rfl rfl rfl rfl rfl ?_
    refine PL.nil ?_
    refine thA_n ?_
    refine PC.ret ?_
    refine thA_r ?_
    obtain rfl := some_in hh0
    exact FinA.mk (r := .agg [.os 0 0 0, iA (0 : Int)]) (bl := [⟨.tr (eL ([] : List I_Frame)), 59, 4⟩]) [none] (.inl rfl) rfl (rl := [.cell 4 28]) (.cellN rfl rfl rfl rfl .nil) rfl rfl rfl (.aggL ⟨.osn rfl, .t _, trivial⟩) ⟨ow_nil _, trivial⟩ ⟨rfl, rfl⟩
  refine PC.cond_false rfl (not_t h_6) ?_
  refine PC.skip ?_
  refine thA_n ?_
  refine PC.seq ?_
  obtain ⟨xs7, h_8, hh0⟩ := bind_some hh0
  refine PC.any (id := 3) 9 (.seg [1, 2, 4, 5, 6, 7, 0, 3, 8] .done) [] rfl (by kernel_rfl) rfl ?_
  refine PT.seg ?_
  refine PR.op rfl (Rd.fieldO rfl rfl) ?_
  refine PR.op rfl (Rd.loadO rfl rfl rfl) ?_
  refine PR.op rfl (Rd.fieldO rfl rfl) ?_
  refine PR.op rfl (Rd.loadO rfl rfl rfl) ?_
  refine PR.op rfl (Rd.moveT rfl) ?_
  refine PR.op rfl (Rd.max2 rfl rfl) ?_
  refine PR.efX rfl rfl (Ef.lit0M I_Frame) ?_
  refine PR.nm (.os 2 0 0) [some ⟨.mx [sL p_b.frames, iA p_b.forced], 28, 0⟩, some ⟨.mx [.t (.v (.slice none 0 0)), iA (0 : Int)], 28, 0⟩, some ⟨.tr (eL ([] : List I_Frame)), 59, 4⟩] rfl rfl ?_
  refine PR.apM hs rfl rfl rfl rfl (SrcA.eL rfl) rfl rfl rfl rfl rfl h_8 ?_
  refine PR.nm (.os 3 0 xs7.length) [some ⟨.mx [sL p_b.frames, iA p_b.forced], 28, 0⟩, some ⟨.mx [.t (.v (.slice none 0 0)), iA (0 : Int)], 28, 0⟩, none, some ⟨.tr (eL xs7), 59, 4⟩] rfl rfl ?_
  refine PR.op rfl (Rd.build rfl rfl rfl rfl) ?_
  refine PR.nil ?_
  refine PT.done ?_
  refine PL.store rfl rfl rfl rfl rfl rfl rfl ?_
  refine PL.nO [some ⟨.mx [sL p_b.frames, iA p_b.forced], 28, 0⟩, some ⟨.mx [.os 3 0 xs7.length, iA (max p_b.forced p_lsn)], 28, 0⟩, none, some ⟨.tr (eL xs7), 59, 4⟩] rfl ?_
  refine PL.nil ?_
  refine thA_n ?_
  refine PC.ret ?_
  obtain rfl := some_in hh0
  exact FinA.mk (r := .agg [.os 0 0 xs7.length, iA (max p_b.forced p_lsn)]) (bl := [⟨.tr (eL xs7), 59, 4⟩]) [some 3] (.inl rfl) rfl (rl := [.cell 4 28]) (.cellN rfl rfl rfl rfl .nil) rfl rfl rfl (.aggL ⟨.os rfl, .t _, trivial⟩) ⟨⟨_, rfl, rfl, rfl, .tr _⟩, trivial⟩ ⟨rfl, rfl⟩

def m_S_TouchPage (N : Nat) (p_b : I_Buffer) (p_page : Int) (p_lsn : Int) : Option (I_Buffer × Bool) :=
  (m_S_validBuffer N p_b).bind fun r1 =>
  cond r1
    ((m_S_inRange N p_page (0 : Int) (5 : Int)).bind fun r4 =>
    cond r4
      ((m_S_inRange N p_lsn (1 : Int) (9999 : Int)).bind fun r7 =>
      cond r7
        ((m_S_copyBuffer N p_b).bind fun r10 =>
        (m_S_frameOf N p_b p_page).bind fun r12 =>
        cond (decide (r12 < (0 : Int)))
          ((appM 32 r10.frames [(I_Frame.mk p_page true p_lsn p_lsn)]).bind fun xs15 =>
          cond (decide ((4 : Int) < (xs15.length : Int)))
            (some ((I_Buffer.mk ([] : List I_Frame) (0 : Int)), false))
            (some ((I_Buffer.mk xs15 p_b.forced), true)))
          ((ixI p_b.frames r12).bind fun x18 =>
          cond (decide (p_lsn ≤ x18.last))
            (some ((I_Buffer.mk ([] : List I_Frame) (0 : Int)), false))
            (cond x18.dirty
              ((ixI r10.frames r12).bind fun x22 =>
              some ((I_Buffer.mk (r10.frames.set r12.toNat (I_Frame.mk p_page true x18.first p_lsn)) r10.forced), true))
              ((ixI r10.frames r12).bind fun x24 =>
              some ((I_Buffer.mk (r10.frames.set r12.toNat (I_Frame.mk p_page true p_lsn p_lsn)) r10.forced), true)))))
        (some ((I_Buffer.mk ([] : List I_Frame) (0 : Int)), false)))
      (some ((I_Buffer.mk ([] : List I_Frame) (0 : Int)), false)))
    (some ((I_Buffer.mk ([] : List I_Frame) (0 : Int)), false))
theorem w_S_TouchPage (N : Nat) (p_b : I_Buffer) (p_page : Int) (p_lsn : Int) (r : I_Buffer × Bool) (hh0 : m_S_TouchPage N p_b p_page p_lsn = some r) : FnX Try.prog 24 [] [.agg [sL p_b.frames, iA p_b.forced], iA p_page, iA p_lsn] (RE (.tup [.agg [.os 0 0 r.1.frames.length, iA r.1.forced], bA r.2]) [⟨.tr (eL r.1.frames), 59, 4⟩]) := by
  unfold m_S_TouchPage at hh0
  refine FnX.mk Try.func24 rfl rfl ?_
  intro s hs
  refine PC.seq ?_
  refine PC.region ?_
  refine PL.ef rfl (Ef.box rfl rfl rfl) ?_
  refine PL.nm (.op 0 0) [some ⟨.mx [sL p_b.frames, iA p_b.forced], 28, 0⟩] rfl rfl ?_
  refine PL.ef rfl (Ef.alloc rfl rfl) ?_
  refine PL.nm (.op 1 0) [some ⟨.mx [sL p_b.frames, iA p_b.forced], 28, 0⟩, some ⟨.mx [.t (.v (.slice none 0 0)), iA (0 : Int)], 28, 0⟩] rfl rfl ?_
  refine PL.op rfl (Rd.asnT rfl) ?_
  refine PL.nil ?_
  refine thA_n ?_
  refine PC.seq ?_
  refine PC.seq ?_
  obtain ⟨r1, h_2, hh0⟩ := bind_some hh0
  rcases cond_some hh0 with ⟨h_3, hh0⟩ | ⟨h_3, hh0⟩
  rotate_left
  · refine PC.region ?_
    refine PL.op rfl (Rd.loadBox rfl rfl rfl) ?_
    refine PL.callM false [] (w_S_validBuffer N p_b r1 h_2) rfl Try.call30 rfl ⟨.aggL ⟨.t _, .t _, trivial⟩, trivial⟩ rfl trivial (fun h => by cases h) ?_
    refine PL.op rfl (Rd.unnot rfl) ?_
    refine PL.op rfl (Rd.moveT rfl) ?_
    refine PL.guard_off rfl rfl (not_f h_3) ?_
    refine PL.guard_off rfl rfl (not_f h_3) ?_
    refine PL.guard_off rfl rfl (not_f h_3) ?_
    refine PL.op rfl (Rd.pick_t rfl (not_f h_3)) ?_
    refine PL.op rfl (Rd.moveT rfl) ?_
    refine PL.guard_off rfl rfl rfl ?_
    refine PL.guard_off rfl rfl rfl ?_
    refine PL.guard_off rfl rfl rfl ?_
    refine PL.op rfl (Rd.pick_t rfl rfl) ?_
    refine PL.nil ?_
    refine thA_n ?_
    refine PC.cond_true rfl rfl ?_
    refine PC.seq ?_
    refine PC.region ?_
    refine PL.op rfl (Rd.build rfl rfl rfl rfl) ?_
    refine PL.store rfl rfl rfl rfl rfl rfl rfl ?_
    refine PL.op rfl (Rd.asnT rfl) ?_
    refine PL.nil ?_
    refine thA_n ?_
    refine PC.ret ?_
    refine thA_r ?_
    obtain rfl := some_in hh0
    exact FinA.mk (r := .tup [.agg [.os 0 0 ((((I_Buffer.mk ([] : List I_Frame) (0 : Int)), false).1.frames).length), iA (((I_Buffer.mk ([] : List I_Frame) (0 : Int)), false).1.forced)], bA (((I_Buffer.mk ([] : List I_Frame) (0 : Int)), false).2)]) (bl := [⟨.tr (eL (((I_Buffer.mk ([] : List I_Frame) (0 : Int)), false).1.frames)), 59, 4⟩]) [none] (.inl rfl) rfl (rl := [.cell 6 28, .tmp 7]) (.cellN rfl rfl rfl rfl (.tmp .nil)) rfl rfl rfl (.tupL ⟨.aggL ⟨.osn rfl, .t _, trivial⟩, .t _, trivial⟩) ⟨ow_nil _, trivial⟩ ⟨rfl, rfl⟩
  obtain ⟨r4, h_5, hh0⟩ := bind_some hh0
  rcases cond_some hh0 with ⟨h_6, hh0⟩ | ⟨h_6, hh0⟩
  rotate_left
  · refine PC.region ?_
    refine PL.op rfl (Rd.loadBox rfl rfl rfl) ?_
    refine PL.callM false [] (w_S_validBuffer N p_b r1 h_2) rfl Try.call30 rfl ⟨.aggL ⟨.t _, .t _, trivial⟩, trivial⟩ rfl trivial (fun h => by cases h) ?_
    refine PL.op rfl (Rd.unnot rfl) ?_
    refine PL.op rfl (Rd.moveT rfl) ?_
    refine PL.guard_on rfl (not_t h_3) ?_
    refine PL.op rfl (Rd.moveT rfl) ?_
    refine PL.guard_on rfl (not_t h_3) ?_
    refine PL.callM false [] (w_S_inRange N p_page (0 : Int) (5 : Int) r4 h_5) rfl Try.call31 rfl ⟨.t _, .t _, .t _, trivial⟩ rfl trivial (fun h => by cases h) ?_
    refine PL.guard_on rfl (not_t h_3) ?_
    refine PL.op rfl (Rd.unnot rfl) ?_
    refine PL.op rfl (Rd.pick_f rfl (not_t h_3)) ?_
    refine PL.op rfl (Rd.moveT rfl) ?_
    refine PL.guard_off rfl rfl (not_f h_6) ?_
    refine PL.guard_off rfl rfl (not_f h_6) ?_
    refine PL.guard_off rfl rfl (not_f h_6) ?_
    refine PL.op rfl (Rd.pick_t rfl (not_f h_6)) ?_
    refine PL.nil ?_
    refine thA_n ?_
    refine PC.cond_true rfl rfl ?_
    refine PC.seq ?_
    refine PC.region ?_
    refine PL.op rfl (Rd.build rfl rfl rfl rfl) ?_
    refine PL.store rfl rfl rfl rfl rfl rfl rfl ?_
    refine PL.op rfl (Rd.asnT rfl) ?_
    refine PL.nil ?_
    refine thA_n ?_
    refine PC.ret ?_
    refine thA_r ?_
    obtain rfl := some_in hh0
    exact FinA.mk (r := .tup [.agg [.os 0 0 ((((I_Buffer.mk ([] : List I_Frame) (0 : Int)), false).1.frames).length), iA (((I_Buffer.mk ([] : List I_Frame) (0 : Int)), false).1.forced)], bA (((I_Buffer.mk ([] : List I_Frame) (0 : Int)), false).2)]) (bl := [⟨.tr (eL (((I_Buffer.mk ([] : List I_Frame) (0 : Int)), false).1.frames)), 59, 4⟩]) [none] (.inl rfl) rfl (rl := [.cell 6 28, .tmp 7]) (.cellN rfl rfl rfl rfl (.tmp .nil)) rfl rfl rfl (.tupL ⟨.aggL ⟨.osn rfl, .t _, trivial⟩, .t _, trivial⟩) ⟨ow_nil _, trivial⟩ ⟨rfl, rfl⟩
  obtain ⟨r7, h_8, hh0⟩ := bind_some hh0
  refine PC.region ?_
  refine PL.op rfl (Rd.loadBox rfl rfl rfl) ?_
  refine PL.callM false [] (w_S_validBuffer N p_b r1 h_2) rfl Try.call30 rfl ⟨.aggL ⟨.t _, .t _, trivial⟩, trivial⟩ rfl trivial (fun h => by cases h) ?_
  refine PL.op rfl (Rd.unnot rfl) ?_
  refine PL.op rfl (Rd.moveT rfl) ?_
  refine PL.guard_on rfl (not_t h_3) ?_
  refine PL.op rfl (Rd.moveT rfl) ?_
  refine PL.guard_on rfl (not_t h_3) ?_
  refine PL.callM false [] (w_S_inRange N p_page (0 : Int) (5 : Int) r4 h_5) rfl Try.call31 rfl ⟨.t _, .t _, .t _, trivial⟩ rfl trivial (fun h => by cases h) ?_
  refine PL.guard_on rfl (not_t h_3) ?_
  refine PL.op rfl (Rd.unnot rfl) ?_
  refine PL.op rfl (Rd.pick_f rfl (not_t h_3)) ?_
  refine PL.op rfl (Rd.moveT rfl) ?_
  refine PL.guard_on rfl (not_t h_6) ?_
  refine PL.op rfl (Rd.moveT rfl) ?_
  refine PL.guard_on rfl (not_t h_6) ?_
  refine PL.callM false [] (w_S_inRange N p_lsn (1 : Int) (9999 : Int) r7 h_8) rfl Try.call31 rfl ⟨.t _, .t _, .t _, trivial⟩ rfl trivial (fun h => by cases h) ?_
  refine PL.guard_on rfl (not_t h_6) ?_
  refine PL.op rfl (Rd.unnot rfl) ?_
  refine PL.op rfl (Rd.pick_f rfl (not_t h_6)) ?_
  refine PL.nil ?_
  refine thA_n ?_
  rcases cond_some hh0 with ⟨h_9, hh0⟩ | ⟨h_9, hh0⟩
  rotate_left
  · refine PC.cond_true rfl (not_f h_9) ?_
    refine PC.seq ?_
    refine PC.region ?_
    refine PL.op rfl (Rd.build rfl rfl rfl rfl) ?_
    refine PL.store rfl rfl rfl rfl rfl rfl rfl ?_
    refine PL.op rfl (Rd.asnT rfl) ?_
    refine PL.nil ?_
    refine thA_n ?_
    refine PC.ret ?_
    refine thA_r ?_
    obtain rfl := some_in hh0
    exact FinA.mk (r := .tup [.agg [.os 0 0 ((((I_Buffer.mk ([] : List I_Frame) (0 : Int)), false).1.frames).length), iA (((I_Buffer.mk ([] : List I_Frame) (0 : Int)), false).1.forced)], bA (((I_Buffer.mk ([] : List I_Frame) (0 : Int)), false).2)]) (bl := [⟨.tr (eL (((I_Buffer.mk ([] : List I_Frame) (0 : Int)), false).1.frames)), 59, 4⟩]) [none] (.inl rfl) rfl (rl := [.cell 6 28, .tmp 7]) (.cellN rfl rfl rfl rfl (.tmp .nil)) rfl rfl rfl (.tupL ⟨.aggL ⟨.osn rfl, .t _, trivial⟩, .t _, trivial⟩) ⟨ow_nil _, trivial⟩ ⟨rfl, rfl⟩
  refine PC.cond_false rfl (not_t h_9) ?_
  refine PC.skip ?_
  refine thA_n ?_
  refine PC.seq ?_
  obtain ⟨r10, h_11, hh0⟩ := bind_some hh0
  refine PC.region ?_
  refine PL.op rfl (Rd.loadBox rfl rfl rfl) ?_
  refine PL.callM false [] (w_S_copyBuffer N p_b r10 h_11) rfl Try.call42 rfl ⟨.aggL ⟨.t _, .t _, trivial⟩, trivial⟩ rfl trivial (fun h => by cases h) ?_
  refine PL.nm (.agg [.os 2 0 r10.frames.length, iA r10.forced]) [some ⟨.mx [sL p_b.frames, iA p_b.forced], 28, 0⟩, some ⟨.mx [.t (.v (.slice none 0 0)), iA (0 : Int)], 28, 0⟩, some ⟨.tr (eL r10.frames), 59, 4⟩] rfl rfl ?_
  refine PL.ef rfl (Ef.alloc rfl rfl) ?_
  refine PL.nm (.op 3 0) [some ⟨.mx [sL p_b.frames, iA p_b.forced], 28, 0⟩, some ⟨.mx [.t (.v (.slice none 0 0)), iA (0 : Int)], 28, 0⟩, some ⟨.tr (eL r10.frames), 59, 4⟩, some ⟨.mx [.t (.v (.slice none 0 0)), iA (0 : Int)], 28, 0⟩] rfl rfl ?_
  refine PL.store rfl rfl rfl rfl rfl rfl rfl ?_
  refine PL.nO [some ⟨.mx [sL p_b.frames, iA p_b.forced], 28, 0⟩, some ⟨.mx [.t (.v (.slice none 0 0)), iA (0 : Int)], 28, 0⟩, some ⟨.tr (eL r10.frames), 59, 4⟩, some ⟨.mx [.os 2 0 r10.frames.length, iA r10.forced], 28, 0⟩] rfl ?_
  refine PL.nil ?_
  refine thA_n ?_
  refine PC.seq ?_
  obtain ⟨r12, h_13, hh0⟩ := bind_some hh0
  refine PC.region ?_
  refine PL.op rfl (Rd.loadBox rfl rfl rfl) ?_
  refine PL.op rfl (Rd.moveT rfl) ?_
  refine PL.callM false [] (w_S_frameOf N p_b p_page r12 h_13) rfl Try.call43 rfl ⟨.aggL ⟨.t _, .t _, trivial⟩, .t _, trivial⟩ rfl trivial (fun h => by cases h) ?_
  refine PL.op rfl (Rd.asnT rfl) ?_
  refine PL.nil ?_
  refine thA_n ?_
  refine PC.seq ?_
  refine PC.seq ?_
  refine PC.region ?_
  refine PL.op rfl (Rd.moveT rfl) ?_
  refine PL.op rfl (Rd.lss rfl rfl) ?_
  refine PL.nil ?_
  refine thA_n ?_
  rcases cond_some hh0 with ⟨h_14, hh0⟩ | ⟨h_14, hh0⟩
  · refine PC.cond_true rfl h_14 ?_
    refine PC.seq ?_
    obtain ⟨xs15, h_16, hh0⟩ := bind_some hh0
    refine PC.region ?_
    refine PL.op rfl (Rd.fieldO rfl rfl) ?_
    refine PL.op rfl (Rd.loadO rfl rfl rfl) ?_
    refine PL.op rfl (Rd.moveT rfl) ?_
    refine PL.op rfl (Rd.moveT rfl) ?_
    refine PL.op rfl (Rd.moveT rfl) ?_
    refine PL.op rfl (Rd.build rfl rfl rfl rfl) ?_
    refine PL.ef rfl (Ef.litM (α := I_Frame) [(I_Frame.mk p_page true p_lsn p_lsn)] [_] rfl rfl (by decide) rfl rfl rfl rfl) ?_
    refine PL.nm (.os 4 0 1) [some ⟨.mx [sL p_b.frames, iA p_b.forced], 28, 0⟩, some ⟨.mx [.t (.v (.slice none 0 0)), iA (0 : Int)], 28, 0⟩, some ⟨.tr (eL r10.frames), 59, 4⟩, some ⟨.mx [.os 2 0 r10.frames.length, iA r10.forced], 28, 0⟩, some ⟨.tr (eL [(I_Frame.mk p_page true p_lsn p_lsn)]), 59, 4⟩] rfl rfl ?_
    refine PL.apM hs rfl rfl rfl rfl (SrcA.ownE rfl rfl rfl) rfl rfl rfl rfl h_16 ?_
    refine PL.nm (.os 5 0 xs15.length) [some ⟨.mx [sL p_b.frames, iA p_b.forced], 28, 0⟩, some ⟨.mx [.t (.v (.slice none 0 0)), iA (0 : Int)], 28, 0⟩, none, some ⟨.mx [.os 2 0 r10.frames.length, iA r10.forced], 28, 0⟩, some ⟨.tr (eL [(I_Frame.mk p_page true p_lsn p_lsn)]), 59, 4⟩, some ⟨.tr (eL xs15), 59, 4⟩] rfl rfl ?_
    refine PL.op rfl (Rd.asnO rfl) ?_
    refine PL.nil ?_
    refine thA_n ?_
    refine PC.seq ?_
    refine PC.seq ?_
    refine PC.region ?_
    refine PL.op rfl (Rd.moveO rfl) ?_
    refine PL.op rfl (Rd.lenO rfl rfl) ?_
    refine PL.op rfl (Rd.gtr rfl rfl) ?_
    refine PL.nil ?_
    refine thA_n ?_
    rcases cond_some hh0 with ⟨h_17, hh0⟩ | ⟨h_17, hh0⟩
    · refine PC.cond_true rfl h_17 ?_
      refine PC.seq ?_
      refine PC.region ?_
      refine PL.op rfl (Rd.build rfl rfl rfl rfl) ?_
      refine PL.store rfl rfl rfl rfl rfl rfl rfl ?_
      refine PL.op rfl (Rd.asnT rfl) ?_
      refine PL.nil ?_
      refine thA_n ?_
      refine PC.ret ?_
      refine thA_r ?_
      refine thA_r ?_
      obtain rfl := some_in hh0
      exact FinA.mk (r := .tup [.agg [.os 0 0 ((((I_Buffer.mk ([] : List I_Frame) (0 : Int)), false).1.frames).length), iA (((I_Buffer.mk ([] : List I_Frame) (0 : Int)), false).1.forced)], bA (((I_Buffer.mk ([] : List I_Frame) (0 : Int)), false).2)]) (bl := [⟨.tr (eL (((I_Buffer.mk ([] : List I_Frame) (0 : Int)), false).1.frames)), 59, 4⟩]) [none] (.inl rfl) rfl (rl := [.cell 6 28, .tmp 7]) (.cellN rfl rfl rfl rfl (.tmp .nil)) rfl rfl rfl (.tupL ⟨.aggL ⟨.osn rfl, .t _, trivial⟩, .t _, trivial⟩) ⟨ow_nil _, trivial⟩ ⟨rfl, rfl⟩
    refine PC.cond_false rfl h_17 ?_
    refine PC.skip ?_
    refine thA_n ?_
    refine PC.seq ?_
    refine PC.region ?_
    refine PL.op rfl (Rd.moveO rfl) ?_
    refine PL.op rfl (Rd.fieldO rfl rfl) ?_
    refine PL.op rfl (Rd.loadO rfl rfl rfl) ?_
    refine PL.op rfl (Rd.build rfl rfl rfl rfl) ?_
    refine PL.store rfl rfl rfl rfl rfl rfl rfl ?_
    refine PL.nO [some ⟨.mx [sL p_b.frames, iA p_b.forced], 28, 0⟩, some ⟨.mx [.os 5 0 xs15.length, iA p_b.forced], 28, 0⟩, none, some ⟨.mx [.os 2 0 r10.frames.length, iA r10.forced], 28, 0⟩, some ⟨.tr (eL [(I_Frame.mk p_page true p_lsn p_lsn)]), 59, 4⟩, some ⟨.tr (eL xs15), 59, 4⟩] rfl ?_
    refine PL.op rfl (Rd.asnT rfl) ?_
    refine PL.nil ?_
    refine thA_n ?_
    refine PC.ret ?_
    refine thA_r ?_
    obtain rfl := some_in hh0
    exact FinA.mk (r := .tup [.agg [.os 0 0 ((((I_Buffer.mk xs15 p_b.forced), true).1.frames).length), iA (((I_Buffer.mk xs15 p_b.forced), true).1.forced)], bA (((I_Buffer.mk xs15 p_b.forced), true).2)]) (bl := [⟨.tr (eL (((I_Buffer.mk xs15 p_b.forced), true).1.frames)), 59, 4⟩]) [some 5] (.inl rfl) rfl (rl := [.cell 6 28, .tmp 7]) (.cellN rfl rfl rfl rfl (.tmp .nil)) rfl rfl rfl (.tupL ⟨.aggL ⟨.os rfl, .t _, trivial⟩, .t _, trivial⟩) ⟨⟨_, rfl, rfl, rfl, .tr _⟩, trivial⟩ ⟨rfl, rfl⟩
  refine PC.cond_false rfl h_14 ?_
  refine PC.skip ?_
  refine thA_n ?_
  refine PC.seq ?_
  obtain ⟨x18, h_19, hh0⟩ := bind_some hh0
  refine PC.region ?_
  refine PL.op rfl (Rd.fieldO rfl rfl) ?_
  refine PL.op rfl (Rd.loadO rfl rfl rfl) ?_
  refine PL.op rfl (Rd.moveT rfl) ?_
  refine PL.op rfl (Rd.ixM rfl rfl h_19) ?_
  refine PL.op rfl (Rd.elMR rfl h_19 rfl rfl) ?_
  refine PL.ef rfl (Ef.alloc rfl rfl) ?_
  refine PL.nm (.op 4 0) [some ⟨.mx [sL p_b.frames, iA p_b.forced], 28, 0⟩, some ⟨.mx [.t (.v (.slice none 0 0)), iA (0 : Int)], 28, 0⟩, some ⟨.tr (eL r10.frames), 59, 4⟩, some ⟨.mx [.os 2 0 r10.frames.length, iA r10.forced], 28, 0⟩, some ⟨.mx [iA (0 : Int), bA false, iA (0 : Int), iA (0 : Int)], 59, 0⟩] rfl rfl ?_
  refine PL.store rfl rfl rfl rfl rfl rfl rfl ?_
  refine PL.nO [some ⟨.mx [sL p_b.frames, iA p_b.forced], 28, 0⟩, some ⟨.mx [.t (.v (.slice none 0 0)), iA (0 : Int)], 28, 0⟩, some ⟨.tr (eL r10.frames), 59, 4⟩, some ⟨.mx [.os 2 0 r10.frames.length, iA r10.forced], 28, 0⟩, some ⟨.mx [iA x18.page, bA x18.dirty, iA x18.first, iA x18.last], 59, 0⟩] rfl ?_
  refine PL.nil ?_
  refine thA_n ?_
  refine PC.seq ?_
  refine PC.seq ?_
  refine PC.region ?_
  refine PL.op rfl (Rd.moveT rfl) ?_
  refine PL.op rfl (Rd.fieldO rfl rfl) ?_
  refine PL.op rfl (Rd.loadO rfl rfl rfl) ?_
  refine PL.op rfl (Rd.leq rfl rfl) ?_
  refine PL.nil ?_
  refine thA_n ?_
  rcases cond_some hh0 with ⟨h_20, hh0⟩ | ⟨h_20, hh0⟩
  · refine PC.cond_true rfl h_20 ?_
    refine PC.seq ?_
    refine PC.region ?_
    refine PL.op rfl (Rd.build rfl rfl rfl rfl) ?_
    refine PL.store rfl rfl rfl rfl rfl rfl rfl ?_
    refine PL.op rfl (Rd.asnT rfl) ?_
    refine PL.nil ?_
    refine thA_n ?_
    refine PC.ret ?_
    refine thA_r ?_
    obtain rfl := some_in hh0
    exact FinA.mk (r := .tup [.agg [.os 0 0 ((((I_Buffer.mk ([] : List I_Frame) (0 : Int)), false).1.frames).length), iA (((I_Buffer.mk ([] : List I_Frame) (0 : Int)), false).1.forced)], bA (((I_Buffer.mk ([] : List I_Frame) (0 : Int)), false).2)]) (bl := [⟨.tr (eL (((I_Buffer.mk ([] : List I_Frame) (0 : Int)), false).1.frames)), 59, 4⟩]) [none] (.inl rfl) rfl (rl := [.cell 6 28, .tmp 7]) (.cellN rfl rfl rfl rfl (.tmp .nil)) rfl rfl rfl (.tupL ⟨.aggL ⟨.osn rfl, .t _, trivial⟩, .t _, trivial⟩) ⟨ow_nil _, trivial⟩ ⟨rfl, rfl⟩
  refine PC.cond_false rfl h_20 ?_
  refine PC.skip ?_
  refine thA_n ?_
  refine PC.seq ?_
  refine PC.region ?_
  refine PL.op rfl (Rd.fieldO rfl rfl) ?_
  refine PL.op rfl (Rd.loadO rfl rfl rfl) ?_
  refine PL.op rfl (Rd.asnT rfl) ?_
  refine PL.nil ?_
  refine thA_n ?_
  refine PC.seq ?_
  refine PC.seq ?_
  refine PC.region ?_
  refine PL.op rfl (Rd.fieldO rfl rfl) ?_
  refine PL.op rfl (Rd.loadO rfl rfl rfl) ?_
  refine PL.op rfl (Rd.unnot rfl) ?_
  refine PL.nil ?_
  refine thA_n ?_
  rcases cond_some hh0 with ⟨h_21, hh0⟩ | ⟨h_21, hh0⟩
  · refine PC.cond_false rfl (not_t h_21) ?_
    refine PC.skip ?_
    refine thA_n ?_
    refine PC.seq ?_
    obtain ⟨x22, h_23, hh0⟩ := bind_some hh0
    refine PC.region ?_
    refine PL.op rfl (Rd.fieldO rfl rfl) ?_
    refine PL.op rfl (Rd.loadO rfl rfl rfl) ?_
    refine PL.op rfl (Rd.moveT rfl) ?_
    refine PL.op rfl (Rd.moveT rfl) ?_
    refine PL.op rfl (Rd.moveT rfl) ?_
    refine PL.op rfl (Rd.moveT rfl) ?_
    refine PL.op rfl (Rd.build rfl rfl rfl rfl) ?_
    refine PL.op rfl (Rd.ixOM rfl rfl rfl (ixI_lt h_23)) ?_
    refine PL.stRM (I_Frame.mk p_page true x18.first p_lsn) rfl rfl rfl rfl rfl h_23 rfl ?_
    refine PL.nO [some ⟨.mx [sL p_b.frames, iA p_b.forced], 28, 0⟩, some ⟨.mx [.t (.v (.slice none 0 0)), iA (0 : Int)], 28, 0⟩, some ⟨.tr (eL (r10.frames.set r12.toNat (I_Frame.mk p_page true x18.first p_lsn))), 59, 4⟩, some ⟨.mx [.os 2 0 r10.frames.length, iA r10.forced], 28, 0⟩, some ⟨.mx [iA x18.page, bA x18.dirty, iA x18.first, iA x18.last], 59, 0⟩] rfl ?_
    refine PL.nil ?_
    refine thA_n ?_
    refine PC.seq ?_
    refine PC.region ?_
    refine PL.op rfl (Rd.loadBox rfl rfl rfl) ?_
    refine PL.store rfl rfl rfl rfl rfl rfl rfl ?_
    refine PL.nO [some ⟨.mx [sL p_b.frames, iA p_b.forced], 28, 0⟩, some ⟨.mx [.os 2 0 r10.frames.length, iA r10.forced], 28, 0⟩, some ⟨.tr (eL (r10.frames.set r12.toNat (I_Frame.mk p_page true x18.first p_lsn))), 59, 4⟩, some ⟨.mx [.os 2 0 r10.frames.length, iA r10.forced], 28, 0⟩, some ⟨.mx [iA x18.page, bA x18.dirty, iA x18.first, iA x18.last], 59, 0⟩] rfl ?_
    refine PL.op rfl (Rd.asnT rfl) ?_
    refine PL.nil ?_
    refine thA_n ?_
    refine PC.ret ?_
    obtain rfl := some_in hh0
    exact FinA.mk (r := .tup [.agg [.os 0 0 ((((I_Buffer.mk (r10.frames.set r12.toNat (I_Frame.mk p_page true x18.first p_lsn)) r10.forced), true).1.frames).length), iA (((I_Buffer.mk (r10.frames.set r12.toNat (I_Frame.mk p_page true x18.first p_lsn)) r10.forced), true).1.forced)], bA (((I_Buffer.mk (r10.frames.set r12.toNat (I_Frame.mk p_page true x18.first p_lsn)) r10.forced), true).2)]) (bl := [⟨.tr (eL (((I_Buffer.mk (r10.frames.set r12.toNat (I_Frame.mk p_page true x18.first p_lsn)) r10.forced), true).1.frames)), 59, 4⟩]) [some 2] (.inl rfl) rfl (rl := [.cell 6 28, .tmp 7]) (.cellN rfl rfl rfl rfl (.tmp .nil)) rfl rfl rfl (.tupL ⟨.aggL ⟨.osE rfl (by simp only [List.length_set]), .t _, trivial⟩, .t _, trivial⟩) ⟨⟨_, rfl, rfl, rfl, .tr _⟩, trivial⟩ ⟨rfl, rfl⟩
  refine PC.cond_true rfl (not_f h_21) ?_
  refine PC.region ?_
  refine PL.op rfl (Rd.moveT rfl) ?_
  refine PL.op rfl (Rd.asnT rfl) ?_
  refine PL.nil ?_
  refine thA_n ?_
  refine PC.seq ?_
  obtain ⟨x24, h_25, hh0⟩ := bind_some hh0
  refine PC.region ?_
  refine PL.op rfl (Rd.fieldO rfl rfl) ?_
  refine PL.op rfl (Rd.loadO rfl rfl rfl) ?_
  refine PL.op rfl (Rd.moveT rfl) ?_
  refine PL.op rfl (Rd.moveT rfl) ?_
  refine PL.op rfl (Rd.moveT rfl) ?_
  refine PL.op rfl (Rd.moveT rfl) ?_
  refine PL.op rfl (Rd.build rfl rfl rfl rfl) ?_
  refine PL.op rfl (Rd.ixOM rfl rfl rfl (ixI_lt h_25)) ?_
  refine PL.stRM (I_Frame.mk p_page true p_lsn p_lsn) rfl rfl rfl rfl rfl h_25 rfl ?_
  refine PL.nO [some ⟨.mx [sL p_b.frames, iA p_b.forced], 28, 0⟩, some ⟨.mx [.t (.v (.slice none 0 0)), iA (0 : Int)], 28, 0⟩, some ⟨.tr (eL (r10.frames.set r12.toNat (I_Frame.mk p_page true p_lsn p_lsn))), 59, 4⟩, some ⟨.mx [.os 2 0 r10.frames.length, iA r10.forced], 28, 0⟩, some ⟨.mx [iA x18.page, bA x18.dirty, iA x18.first, iA x18.last], 59, 0⟩] rfl ?_
  refine PL.nil ?_
  refine thA_n ?_
  refine PC.seq ?_
  refine PC.region ?_
  refine PL.op rfl (Rd.loadBox rfl rfl rfl) ?_
  refine PL.store rfl rfl rfl rfl rfl rfl rfl ?_
  refine PL.nO [some ⟨.mx [sL p_b.frames, iA p_b.forced], 28, 0⟩, some ⟨.mx [.os 2 0 r10.frames.length, iA r10.forced], 28, 0⟩, some ⟨.tr (eL (r10.frames.set r12.toNat (I_Frame.mk p_page true p_lsn p_lsn))), 59, 4⟩, some ⟨.mx [.os 2 0 r10.frames.length, iA r10.forced], 28, 0⟩, some ⟨.mx [iA x18.page, bA x18.dirty, iA x18.first, iA x18.last], 59, 0⟩] rfl ?_
  refine PL.op rfl (Rd.asnT rfl) ?_
  refine PL.nil ?_
  refine thA_n ?_
  refine PC.ret ?_
  obtain rfl := some_in hh0
  exact FinA.mk (r := .tup [.agg [.os 0 0 ((((I_Buffer.mk (r10.frames.set r12.toNat (I_Frame.mk p_page true p_lsn p_lsn)) r10.forced), true).1.frames).length), iA (((I_Buffer.mk (r10.frames.set r12.toNat (I_Frame.mk p_page true p_lsn p_lsn)) r10.forced), true).1.forced)], bA (((I_Buffer.mk (r10.frames.set r12.toNat (I_Frame.mk p_page true p_lsn p_lsn)) r10.forced), true).2)]) (bl := [⟨.tr (eL (((I_Buffer.mk (r10.frames.set r12.toNat (I_Frame.mk p_page true p_lsn p_lsn)) r10.forced), true).1.frames)), 59, 4⟩]) [some 2] (.inl rfl) rfl (rl := [.cell 6 28, .tmp 7]) (.cellN rfl rfl rfl rfl (.tmp .nil)) rfl rfl rfl (.tupL ⟨.aggL ⟨.osE rfl (by simp only [List.length_set]), .t _, trivial⟩, .t _, trivial⟩) ⟨⟨_, rfl, rfl, rfl, .tr _⟩, trivial⟩ ⟨rfl, rfl⟩

def m_S_WritePage (N : Nat) (p_b : I_Buffer) (p_page : Int) : Option (I_Buffer × Bool) :=
  (m_S_CanWrite N p_b p_page).bind fun r1 =>
  cond r1
    ((m_S_copyBuffer N p_b).bind fun r4 =>
    (m_S_frameOf N p_b p_page).bind fun r6 =>
    (ixI p_b.frames r6).bind fun x8 =>
    (ixI r4.frames r6).bind fun x10 =>
    some ((I_Buffer.mk (r4.frames.set r6.toNat (I_Frame.mk p_page false (0 : Int) x8.last)) r4.forced), true))
    (some ((I_Buffer.mk ([] : List I_Frame) (0 : Int)), false))
theorem w_S_WritePage (N : Nat) (p_b : I_Buffer) (p_page : Int) (r : I_Buffer × Bool) (hh0 : m_S_WritePage N p_b p_page = some r) : FnX Try.prog 27 [] [.agg [sL p_b.frames, iA p_b.forced], iA p_page] (RE (.tup [.agg [.os 0 0 r.1.frames.length, iA r.1.forced], bA r.2]) [⟨.tr (eL r.1.frames), 59, 4⟩]) := by
  unfold m_S_WritePage at hh0
  refine FnX.mk Try.func27 rfl rfl ?_
  intro s hs
  refine PC.seq ?_
  refine PC.region ?_
  refine PL.ef rfl (Ef.box rfl rfl rfl) ?_
  refine PL.nm (.op 0 0) [some ⟨.mx [sL p_b.frames, iA p_b.forced], 28, 0⟩] rfl rfl ?_
  refine PL.ef rfl (Ef.alloc rfl rfl) ?_
  refine PL.nm (.op 1 0) [some ⟨.mx [sL p_b.frames, iA p_b.forced], 28, 0⟩, some ⟨.mx [.t (.v (.slice none 0 0)), iA (0 : Int)], 28, 0⟩] rfl rfl ?_
  refine PL.op rfl (Rd.asnT rfl) ?_
  refine PL.nil ?_
  refine thA_n ?_
  refine PC.seq ?_
  refine PC.seq ?_
  obtain ⟨r1, h_2, hh0⟩ := bind_some hh0
  refine PC.region ?_
  refine PL.op rfl (Rd.loadBox rfl rfl rfl) ?_
  refine PL.op rfl (Rd.moveT rfl) ?_
  refine PL.callM false [] (w_S_CanWrite N p_b p_page r1 h_2) rfl Try.call45 rfl ⟨.aggL ⟨.t _, .t _, trivial⟩, .t _, trivial⟩ rfl trivial (fun h => by cases h) ?_
  refine PL.op rfl (Rd.unnot rfl) ?_
  refine PL.nil ?_
  refine thA_n ?_
  rcases cond_some hh0 with ⟨h_3, hh0⟩ | ⟨h_3, hh0⟩
  rotate_left
  · refine PC.cond_true rfl (not_f h_3) ?_
    refine PC.seq ?_
    refine PC.region ?_
    refine PL.op rfl (Rd.build rfl rfl rfl rfl) ?_
    refine PL.store rfl rfl rfl rfl rfl rfl rfl ?_
    refine PL.op rfl (Rd.asnT rfl) ?_
    refine PL.nil ?_
    refine thA_n ?_
    refine PC.ret ?_
    refine thA_r ?_
    obtain rfl := some_in hh0
    exact FinA.mk (r := .tup [.agg [.os 0 0 ((((I_Buffer.mk ([] : List I_Frame) (0 : Int)), false).1.frames).length), iA (((I_Buffer.mk ([] : List I_Frame) (0 : Int)), false).1.forced)], bA (((I_Buffer.mk ([] : List I_Frame) (0 : Int)), false).2)]) (bl := [⟨.tr (eL (((I_Buffer.mk ([] : List I_Frame) (0 : Int)), false).1.frames)), 59, 4⟩]) [none] (.inl rfl) rfl (rl := [.cell 4 28, .tmp 5]) (.cellN rfl rfl rfl rfl (.tmp .nil)) rfl rfl rfl (.tupL ⟨.aggL ⟨.osn rfl, .t _, trivial⟩, .t _, trivial⟩) ⟨ow_nil _, trivial⟩ ⟨rfl, rfl⟩
  refine PC.cond_false rfl (not_t h_3) ?_
  refine PC.skip ?_
  refine thA_n ?_
  refine PC.seq ?_
  obtain ⟨r4, h_5, hh0⟩ := bind_some hh0
  refine PC.region ?_
  refine PL.op rfl (Rd.loadBox rfl rfl rfl) ?_
  refine PL.callM false [] (w_S_copyBuffer N p_b r4 h_5) rfl Try.call42 rfl ⟨.aggL ⟨.t _, .t _, trivial⟩, trivial⟩ rfl trivial (fun h => by cases h) ?_
  refine PL.nm (.agg [.os 2 0 r4.frames.length, iA r4.forced]) [some ⟨.mx [sL p_b.frames, iA p_b.forced], 28, 0⟩, some ⟨.mx [.t (.v (.slice none 0 0)), iA (0 : Int)], 28, 0⟩, some ⟨.tr (eL r4.frames), 59, 4⟩] rfl rfl ?_
  refine PL.ef rfl (Ef.alloc rfl rfl) ?_
  refine PL.nm (.op 3 0) [some ⟨.mx [sL p_b.frames, iA p_b.forced], 28, 0⟩, some ⟨.mx [.t (.v (.slice none 0 0)), iA (0 : Int)], 28, 0⟩, some ⟨.tr (eL r4.frames), 59, 4⟩, some ⟨.mx [.t (.v (.slice none 0 0)), iA (0 : Int)], 28, 0⟩] rfl rfl ?_
  refine PL.store rfl rfl rfl rfl rfl rfl rfl ?_
  refine PL.nO [some ⟨.mx [sL p_b.frames, iA p_b.forced], 28, 0⟩, some ⟨.mx [.t (.v (.slice none 0 0)), iA (0 : Int)], 28, 0⟩, some ⟨.tr (eL r4.frames), 59, 4⟩, some ⟨.mx [.os 2 0 r4.frames.length, iA r4.forced], 28, 0⟩] rfl ?_
  refine PL.nil ?_
  refine thA_n ?_
  refine PC.seq ?_
  obtain ⟨r6, h_7, hh0⟩ := bind_some hh0
  refine PC.region ?_
  refine PL.op rfl (Rd.loadBox rfl rfl rfl) ?_
  refine PL.op rfl (Rd.moveT rfl) ?_
  refine PL.callM false [] (w_S_frameOf N p_b p_page r6 h_7) rfl Try.call43 rfl ⟨.aggL ⟨.t _, .t _, trivial⟩, .t _, trivial⟩ rfl trivial (fun h => by cases h) ?_
  refine PL.op rfl (Rd.asnT rfl) ?_
  refine PL.nil ?_
  refine thA_n ?_
  refine PC.seq ?_
  obtain ⟨x8, h_9, hh0⟩ := bind_some hh0
  obtain ⟨x10, h_11, hh0⟩ := bind_some hh0
  refine PC.any (id := 5) 12 (.seg [0, 1, 2, 3, 4, 5, 6, 7, 8, 9, 10, 11] .done) [] rfl (by kernel_rfl) rfl ?_
  refine PT.seg ?_
  refine PR.op rfl (Rd.fieldO rfl rfl) ?_
  refine PR.op rfl (Rd.loadO rfl rfl rfl) ?_
  refine PR.op rfl (Rd.moveT rfl) ?_
  refine PR.op rfl (Rd.moveT rfl) ?_
  refine PR.op rfl (Rd.fieldO rfl rfl) ?_
  refine PR.op rfl (Rd.loadO rfl rfl rfl) ?_
  refine PR.op rfl (Rd.moveT rfl) ?_
  refine PR.op rfl (Rd.ixM rfl rfl h_9) ?_
  refine PR.op rfl (Rd.fieldT rfl) ?_
  refine PR.op rfl (Rd.elMF (f := 3) rfl h_9 rfl rfl) ?_
  refine PR.op rfl (Rd.build rfl rfl rfl rfl) ?_
  refine PR.op rfl (Rd.ixOM rfl rfl rfl (ixI_lt h_11)) ?_
  refine PR.nil ?_
  refine PT.done ?_
  refine PL.stRM (I_Frame.mk p_page false (0 : Int) x8.last) rfl rfl rfl rfl rfl h_11 rfl ?_
  refine PL.nO [some ⟨.mx [sL p_b.frames, iA p_b.forced], 28, 0⟩, some ⟨.mx [.t (.v (.slice none 0 0)), iA (0 : Int)], 28, 0⟩, some ⟨.tr (eL (r4.frames.set r6.toNat (I_Frame.mk p_page false (0 : Int) x8.last))), 59, 4⟩, some ⟨.mx [.os 2 0 r4.frames.length, iA r4.forced], 28, 0⟩] rfl ?_
  refine PL.nil ?_
  refine thA_n ?_
  refine PC.seq ?_
  refine PC.region ?_
  refine PL.op rfl (Rd.loadBox rfl rfl rfl) ?_
  refine PL.store rfl rfl rfl rfl rfl rfl rfl ?_
  refine PL.nO [some ⟨.mx [sL p_b.frames, iA p_b.forced], 28, 0⟩, some ⟨.mx [.os 2 0 r4.frames.length, iA r4.forced], 28, 0⟩, some ⟨.tr (eL (r4.frames.set r6.toNat (I_Frame.mk p_page false (0 : Int) x8.last))), 59, 4⟩, some ⟨.mx [.os 2 0 r4.frames.length, iA r4.forced], 28, 0⟩] rfl ?_
  refine PL.op rfl (Rd.asnT rfl) ?_
  refine PL.nil ?_
  refine thA_n ?_
  refine PC.ret ?_
  obtain rfl := some_in hh0
  exact FinA.mk (r := .tup [.agg [.os 0 0 ((((I_Buffer.mk (r4.frames.set r6.toNat (I_Frame.mk p_page false (0 : Int) x8.last)) r4.forced), true).1.frames).length), iA (((I_Buffer.mk (r4.frames.set r6.toNat (I_Frame.mk p_page false (0 : Int) x8.last)) r4.forced), true).1.forced)], bA (((I_Buffer.mk (r4.frames.set r6.toNat (I_Frame.mk p_page false (0 : Int) x8.last)) r4.forced), true).2)]) (bl := [⟨.tr (eL (((I_Buffer.mk (r4.frames.set r6.toNat (I_Frame.mk p_page false (0 : Int) x8.last)) r4.forced), true).1.frames)), 59, 4⟩]) [some 2] (.inl rfl) rfl (rl := [.cell 4 28, .tmp 5]) (.cellN rfl rfl rfl rfl (.tmp .nil)) rfl rfl rfl (.tupL ⟨.aggL ⟨.osE rfl (by simp only [List.length_set]), .t _, trivial⟩, .t _, trivial⟩) ⟨⟨_, rfl, rfl, rfl, .tr _⟩, trivial⟩ ⟨rfl, rfl⟩

def m_I_RedoStart_k1 (N : Nat) (x20 : Int) : Option (Int) :=
  some x20
def m_I_RedoStart_b1 (N : Nat) (p_b : I_Buffer) (x4 : Int) (i5 : Int) : Option ((Int × Int) ⊕ Int) :=
  cond (decide (i5 < (p_b.frames.length : Int)))
    ((ixI p_b.frames i5).bind fun x27 =>
    cond x27.dirty
      (cond (decide (x4 = (0 : Int)))
        ((chk (i5 + (1 : Int))).bind fun n31 =>
        some (.inl (x27.first, n31)))
        (cond (decide (x27.first < x4))
          ((chk (i5 + (1 : Int))).bind fun n34 =>
          some (.inl (x27.first, n34)))
          ((chk (i5 + (1 : Int))).bind fun n36 =>
          some (.inl (x4, n36)))))
      ((chk (i5 + (1 : Int))).bind fun n38 =>
      some (.inl (x4, n38))))
    (some (.inr x4))
def m_I_RedoStart (N : Nat) (p_b : I_Buffer) : Option (Int) :=
  (m_I_ValidBuffer N p_b).bind fun r1 =>
  cond r1
    ((loopM (β := Int) (fun s : Int × Int => m_I_RedoStart_b1 N p_b s.1 s.2) N ((0 : Int), (0 : Int))).bind fun e =>
    m_I_RedoStart_k1 N e)
    (some (-1 : Int))
theorem w_I_RedoStart (N : Nat) (p_b : I_Buffer) (r : Int) (hh0 : m_I_RedoStart N p_b = some r) : FnX Try.prog 28 [] [.agg [sL p_b.frames, iA p_b.forced]] (RE (iA r) []) := by
  unfold m_I_RedoStart at hh0
  refine FnX.mk Try.func28 rfl rfl ?_
  intro s hs
  refine PC.seq ?_
  refine PC.region ?_
  refine PL.ef rfl (Ef.box rfl rfl rfl) ?_
  refine PL.nm (.op 0 0) [some ⟨.mx [sL p_b.frames, iA p_b.forced], 28, 0⟩] rfl rfl ?_
  refine PL.op rfl (Rd.asnT rfl) ?_
  refine PL.nil ?_
  refine thA_n ?_
  refine PC.seq ?_
  refine PC.seq ?_
  obtain ⟨r1, h_2, hh0⟩ := bind_some hh0
  refine PC.region ?_
  refine PL.op rfl (Rd.loadBox rfl rfl rfl) ?_
  refine PL.callM false [] (w_I_ValidBuffer N p_b r1 h_2) rfl Try.call20 rfl ⟨.aggL ⟨.t _, .t _, trivial⟩, trivial⟩ rfl trivial (fun h => by cases h) ?_
  refine PL.op rfl (Rd.unnot rfl) ?_
  refine PL.nil ?_
  refine thA_n ?_
  rcases cond_some hh0 with ⟨h_3, hh0⟩ | ⟨h_3, hh0⟩
  rotate_left
  · refine PC.cond_true rfl (not_f h_3) ?_
    refine PC.seq ?_
    refine PC.region ?_
    refine PL.op rfl (Rd.asnT rfl) ?_
    refine PL.nil ?_
    refine thA_n ?_
    refine PC.ret ?_
    refine thA_r ?_
    obtain rfl := some_in hh0
    exact FinA.mk (r := iA (-1 : Int)) (bl := []) [] (.inl rfl) rfl (rl := [.tmp 2]) (.tmp .nil) rfl rfl rfl (.t _) trivial ⟨rfl, rfl⟩
  refine PC.cond_false rfl (not_t h_3) ?_
  refine PC.skip ?_
  refine thA_n ?_
  refine PC.seq ?_
  refine PC.region ?_
  refine PL.op rfl (Rd.asnT rfl) ?_
  refine PL.nil ?_
  refine thA_n ?_
  refine PC.seq ?_
  refine PC.seq ?_
  refine PC.region ?_
  refine PL.op rfl (Rd.fieldO rfl rfl) ?_
  refine PL.op rfl (Rd.loadO rfl rfl rfl) ?_
  refine PL.op rfl (Rd.lenT rfl) ?_
  refine PL.op rfl (Rd.moveT rfl) ?_
  refine PL.nil ?_
  refine thA_n ?_
  obtain ⟨o21, h_22, hh0⟩ := bind_some hh0
  refine PC.cutE hs (fun x : Int => [(3, iA x)]) (fun x => []) (fun x => m_I_RedoStart_k1 N x = some r) ?_ ?_
  · refine PC.block ?_
    refine PC.loop hs (fun x : Nat × (Int × Int) => [(3, iA x.2.1), (10, sL p_b.frames), (11, iA (p_b.frames.length : Int)), (12, iA x.2.2)]) (fun x => []) (fun x => loopM (β := Int) (fun s : Int × Int => m_I_RedoStart_b1 N p_b s.1 s.2) x.1 x.2 = some o21) (fun x => x.1) (N, ((0 : Int), (0 : Int))) [] ⟨rfl, rfl, trivial, ⟨.t _, .t _, .t _, .t _, trivial⟩⟩ h_22 ?_
    rintro ⟨f23_, x4, i5⟩ h_25
    obtain ⟨f23, y24, rfl, hh1, kk1⟩ := loopM_some h_25
    replace hh1 : m_I_RedoStart_b1 N p_b x4 i5 = some y24 := hh1
    unfold m_I_RedoStart_b1 at hh1
    refine PC.seq ?_
    refine PC.region ?_
    refine PL.op rfl (Rd.lss rfl rfl) ?_
    refine PL.nil ?_
    refine thA_n ?_
    refine PC.seq ?_
    rcases cond_some hh1 with ⟨h_26, hh1⟩ | ⟨h_26, hh1⟩
    rotate_left
    · refine PC.cond_false rfl h_26 ?_
      refine PC.exit ?_
      refine thA_e ?_
      refine thA_e ?_
      refine inA_eq rfl ?_
      refine thA_n ?_
      obtain rfl := some_in hh1
      obtain rfl : (x4 : Int) = o21 := kk1
      exact ⟨x4, hh0, [], ⟨rfl, rfl, trivial, ⟨.t _, trivial⟩⟩⟩
    refine PC.cond_true rfl h_26 ?_
    refine PC.skip ?_
    refine thA_n ?_
    refine PC.seq ?_
    refine PC.block ?_
    refine PC.seq ?_
    obtain ⟨x27, h_28, hh1⟩ := bind_some hh1
    refine PC.region ?_
    refine PL.op rfl (Rd.ixM rfl rfl h_28) ?_
    refine PL.op rfl (Rd.elMR rfl h_28 rfl rfl) ?_
    refine PL.ef rfl (Ef.alloc rfl rfl) ?_
    refine PL.nm (.op 0 0) [some ⟨.mx [iA (0 : Int), bA false, iA (0 : Int), iA (0 : Int)], 59, 0⟩] rfl rfl ?_
    refine PL.store rfl rfl rfl rfl rfl rfl rfl ?_
    refine PL.nO [some ⟨.mx [iA x27.page, bA x27.dirty, iA x27.first, iA x27.last], 59, 0⟩] rfl ?_
    refine PL.nil ?_
    refine thA_n ?_
    refine PC.seq ?_
    rcases cond_some hh1 with ⟨h_29, hh1⟩ | ⟨h_29, hh1⟩
    rotate_left
    · refine PC.region ?_
      refine PL.op rfl (Rd.fieldO rfl rfl) ?_
      refine PL.op rfl (Rd.loadO rfl rfl rfl) ?_
      refine PL.op rfl (Rd.moveT rfl) ?_
      refine PL.guard_off rfl rfl h_29 ?_
      refine PL.guard_off rfl rfl h_29 ?_
      refine PL.guard_off rfl rfl h_29 ?_
      refine PL.guard_un rfl rfl ?_
      refine PL.guard_un rfl rfl ?_
      refine PL.guard_un rfl rfl ?_
      refine PL.guard_un rfl rfl ?_
      refine PL.guard_off rfl rfl h_29 ?_
      refine PL.op rfl (Rd.pick_f rfl h_29) ?_
      refine PL.nil ?_
      refine thA_n ?_
      refine PC.cond_false rfl rfl ?_
      refine PC.skip ?_
      refine inA_n ?_
      refine thA_n ?_
      obtain ⟨n38, h_39, hh1⟩ := bind_some hh1
      refine PC.region ?_
      refine PL.op rfl (Rd.addM rfl rfl h_39) ?_
      refine PL.op rfl (Rd.moveT rfl) ?_
      refine PL.nil ?_
      obtain rfl := some_in hh1
      refine thA_n ?_
      exact ⟨(f23, (x4, n38)), Nat.lt_succ_self _, kk1, [], ⟨rfl, rfl, trivial, ⟨.t _, .t _, .t _, .t _, trivial⟩⟩⟩
    rcases cond_some hh1 with ⟨h_30, hh1⟩ | ⟨h_30, hh1⟩
    · refine PC.region ?_
      refine PL.op rfl (Rd.fieldO rfl rfl) ?_
      refine PL.op rfl (Rd.loadO rfl rfl rfl) ?_
      refine PL.op rfl (Rd.moveT rfl) ?_
      refine PL.guard_on rfl h_29 ?_
      refine PL.op rfl (Rd.moveT rfl) ?_
      refine PL.guard_on rfl h_29 ?_
      refine PL.op rfl (Rd.eql rfl rfl) ?_
      refine PL.guard_on rfl h_29 ?_
      refine PL.op rfl (Rd.moveT rfl) ?_
      refine PL.guard_off rfl rfl h_30 ?_
      refine PL.guard_off rfl rfl h_30 ?_
      refine PL.guard_off rfl rfl h_30 ?_
      refine PL.guard_off rfl rfl h_30 ?_
      refine PL.guard_on rfl h_29 ?_
      refine PL.op rfl (Rd.pick_t rfl h_30) ?_
      refine PL.op rfl (Rd.pick_t rfl h_29) ?_
      refine PL.nil ?_
      refine thA_n ?_
      refine PC.cond_true rfl rfl ?_
      refine PC.region ?_
      refine PL.op rfl (Rd.fieldO rfl rfl) ?_
      refine PL.op rfl (Rd.loadO rfl rfl rfl) ?_
      refine PL.op rfl (Rd.asnT rfl) ?_
      refine PL.nil ?_
      refine inA_n ?_
      refine thA_n ?_
      obtain ⟨n31, h_32, hh1⟩ := bind_some hh1
      refine PC.region ?_
      refine PL.op rfl (Rd.addM rfl rfl h_32) ?_
      refine PL.op rfl (Rd.moveT rfl) ?_
      refine PL.nil ?_
      obtain rfl := some_in hh1
      refine thA_n ?_
      exact ⟨(f23, (x27.first, n31)), Nat.lt_succ_self _, kk1, [], ⟨rfl, rfl, trivial, ⟨.t _, .t _, .t _, .t _, trivial⟩⟩⟩
    refine PC.region ?_
    refine PL.op rfl (Rd.fieldO rfl rfl) ?_
    refine PL.op rfl (Rd.loadO rfl rfl rfl) ?_
    refine PL.op rfl (Rd.moveT rfl) ?_
    refine PL.guard_on rfl h_29 ?_
    refine PL.op rfl (Rd.moveT rfl) ?_
    refine PL.guard_on rfl h_29 ?_
    refine PL.op rfl (Rd.eql rfl rfl) ?_
    refine PL.guard_on rfl h_29 ?_
    refine PL.op rfl (Rd.moveT rfl) ?_
    refine PL.guard_on rfl h_30 ?_
    refine PL.op rfl (Rd.fieldO rfl rfl) ?_
    refine PL.guard_on rfl h_30 ?_
    refine PL.op rfl (Rd.loadO rfl rfl rfl) ?_
    refine PL.guard_on rfl h_30 ?_
    refine PL.op rfl (Rd.moveT rfl) ?_
    refine PL.guard_on rfl h_30 ?_
    refine PL.op rfl (Rd.lss rfl rfl) ?_
    refine PL.guard_on rfl h_29 ?_
    refine PL.op rfl (Rd.pick_f rfl h_30) ?_
    refine PL.op rfl (Rd.pick_t rfl h_29) ?_
    refine PL.nil ?_
    refine thA_n ?_
    rcases cond_some hh1 with ⟨h_33, hh1⟩ | ⟨h_33, hh1⟩
    rotate_left
    · refine PC.cond_false rfl h_33 ?_
      refine PC.skip ?_
      refine inA_n ?_
      refine thA_n ?_
      obtain ⟨n36, h_37, hh1⟩ := bind_some hh1
      refine PC.region ?_
      refine PL.op rfl (Rd.addM rfl rfl h_37) ?_
      refine PL.op rfl (Rd.moveT rfl) ?_
      refine PL.nil ?_
      obtain rfl := some_in hh1
      refine thA_n ?_
      exact ⟨(f23, (x4, n36)), Nat.lt_succ_self _, kk1, [], ⟨rfl, rfl, trivial, ⟨.t _, .t _, .t _, .t _, trivial⟩⟩⟩
    refine PC.cond_true rfl h_33 ?_
    refine PC.region ?_
    refine PL.op rfl (Rd.fieldO rfl rfl) ?_
    refine PL.op rfl (Rd.loadO rfl rfl rfl) ?_
    refine PL.op rfl (Rd.asnT rfl) ?_
    refine PL.nil ?_
    refine inA_n ?_
    refine thA_n ?_
    obtain ⟨n34, h_35, hh1⟩ := bind_some hh1
    refine PC.region ?_
    refine PL.op rfl (Rd.addM rfl rfl h_35) ?_
    refine PL.op rfl (Rd.moveT rfl) ?_
    refine PL.nil ?_
    obtain rfl := some_in hh1
    refine thA_n ?_
    exact ⟨(f23, (x27.first, n34)), Nat.lt_succ_self _, kk1, [], ⟨rfl, rfl, trivial, ⟨.t _, .t _, .t _, .t _, trivial⟩⟩⟩
  clear hh0
  rintro x20 hh0
  replace hh0 : m_I_RedoStart_k1 N x20 = some r := hh0
  unfold m_I_RedoStart_k1 at hh0
  refine thA_n ?_
  refine PC.seq ?_
  refine PC.region ?_
  refine PL.op rfl (Rd.moveT rfl) ?_
  refine PL.op rfl (Rd.asnT rfl) ?_
  refine PL.nil ?_
  refine thA_n ?_
  refine PC.ret ?_
  obtain rfl := some_in hh0
  exact FinA.mk (r := iA x20) (bl := []) [] (.inl rfl) rfl (rl := [.tmp 2]) (.tmp .nil) rfl rfl rfl (.t _) trivial ⟨rfl, rfl⟩

def m_S_reader_pick (N : Nat) (p_r : S_reader) (p_n : Int) : Option (Int × S_reader) :=
  (chk (p_r.p + (1 : Int))).bind fun n1 =>
  cond (decide (p_n < (1 : Int)))
    (some ((0 : Int), (S_reader.mk p_r.b n1)))
    (cond (decide ((p_r.b.length : Int) = (0 : Int)))
      (some ((0 : Int), (S_reader.mk p_r.b n1)))
      ((chk (n1 - (1 : Int))).bind fun n5 =>
      cond (decide (n5 < (p_r.b.length : Int)))
        ((ixI p_r.b n5).bind fun x8 =>
        (remM (x8.toNat : Int) p_n).bind fun n10 =>
        some (n10, (S_reader.mk p_r.b n1)))
        ((remM n5 (p_r.b.length : Int)).bind fun n12 =>
        (ixI p_r.b n12).bind fun x14 =>
        (chk ((x14.toNat : Int) * (131 : Int))).bind fun n16 =>
        (chk (n5 * (7 : Int))).bind fun n18 =>
        (chk (n18 + (3 : Int))).bind fun n20 =>
        (remM n20 (p_r.b.length : Int)).bind fun n22 =>
        (ixI p_r.b n22).bind fun x24 =>
        (chk ((x24.toNat : Int) * (1117 : Int))).bind fun n26 =>
        (chk (n16 + n26)).bind fun n28 =>
        (chk (n5 * (29 : Int))).bind fun n30 =>
        (chk (n28 + n30)).bind fun n32 =>
        (quoM n5 (p_r.b.length : Int)).bind fun n34 =>
        (chk (n34 * (53 : Int))).bind fun n36 =>
        (chk (n32 + n36)).bind fun n38 =>
        (quoM n38 (64 : Int)).bind fun n40 =>
        (xorM n38 n40).bind fun n42 =>
        (remM n42 p_n).bind fun n44 =>
        some (n44, (S_reader.mk p_r.b n1)))))
theorem w_S_reader_pick (N : Nat) (p_r : S_reader) (p_n : Int) (r : Int × S_reader) (hh0 : m_S_reader_pick N p_r p_n = some r) : FnX Try.prog 49 [⟨.mx [sL p_r.b, iA p_r.p], 68, 0⟩] [.op 0 0, iA p_n] (RE (iA r.1) [⟨.mx [sL r.2.b, iA r.2.p], 68, 0⟩]) := by
  unfold m_S_reader_pick at hh0
  refine FnX.mk Try.func49 rfl rfl ?_
  intro s hs
  refine PC.seq ?_
  refine PC.region ?_
  refine PL.op rfl (Rd.asnT rfl) ?_
  refine PL.nil ?_
  refine thA_n ?_
  refine PC.seq ?_
  obtain ⟨n1, h_2, hh0⟩ := bind_some hh0
  refine PC.region ?_
  refine PL.op rfl (Rd.moveP rfl) ?_
  refine PL.op rfl (Rd.moveP rfl) ?_
  refine PL.op rfl (Rd.nilCheckO rfl rfl) ?_
  refine PL.op rfl (Rd.fieldO rfl rfl) ?_
  refine PL.op rfl (Rd.loadO rfl rfl rfl) ?_
  refine PL.op rfl (Rd.addM rfl rfl h_2) ?_
  refine PL.op rfl (Rd.nilCheckO rfl rfl) ?_
  refine PL.op rfl (Rd.fieldO rfl rfl) ?_
  refine PL.store rfl rfl rfl rfl rfl rfl rfl ?_
  refine PL.nO [some ⟨.mx [sL p_r.b, iA n1], 68, 0⟩] rfl ?_
  refine PL.nil ?_
  refine thA_n ?_
  refine PC.seq ?_
  refine PC.seq ?_
  rcases cond_some hh0 with ⟨h_3, hh0⟩ | ⟨h_3, hh0⟩
  · refine PC.region ?_
    refine PL.op rfl (Rd.moveT rfl) ?_
    refine PL.op rfl (Rd.lss rfl rfl) ?_
    refine PL.op rfl (Rd.moveT rfl) ?_
    refine PL.guard_off rfl rfl h_3 ?_
    refine PL.guard_off rfl rfl h_3 ?_
    refine PL.guard_off rfl rfl h_3 ?_
    refine PL.guard_off rfl rfl h_3 ?_
    refine PL.guard_off rfl rfl h_3 ?_
    refine PL.guard_off rfl rfl h_3 ?_
    refine PL.op rfl (Rd.pick_t rfl h_3) ?_
    refine PL.nil ?_
    refine thA_n ?_
    refine PC.cond_true rfl rfl ?_
    refine PC.seq ?_
    refine PC.region ?_
    refine PL.op rfl (Rd.asnT rfl) ?_
    refine PL.nil ?_
    refine thA_n ?_
    refine PC.ret ?_
    refine thA_r ?_
    obtain rfl := some_in hh0
    exact FinA.mk (r := iA (((0 : Int), (S_reader.mk p_r.b n1)).1)) (bl := [⟨.mx [sL (((0 : Int), (S_reader.mk p_r.b n1)).2.b), iA (((0 : Int), (S_reader.mk p_r.b n1)).2.p)], 68, 0⟩]) [some 0] (.inl rfl) rfl (rl := [.tmp 4]) (.tmp .nil) rfl rfl rfl (.t _) ⟨⟨_, rfl, rfl, rfl, .mx ⟨.t _, .t _, trivial⟩⟩, trivial⟩ ⟨rfl, rfl⟩
  refine PC.region ?_
  refine PL.op rfl (Rd.moveT rfl) ?_
  refine PL.op rfl (Rd.lss rfl rfl) ?_
  refine PL.op rfl (Rd.moveT rfl) ?_
  refine PL.guard_on rfl h_3 ?_
  refine PL.op rfl (Rd.moveP rfl) ?_
  refine PL.guard_on rfl h_3 ?_
  refine PL.op rfl (Rd.nilCheckO rfl rfl) ?_
  refine PL.guard_on rfl h_3 ?_
  refine PL.op rfl (Rd.fieldO rfl rfl) ?_
  refine PL.guard_on rfl h_3 ?_
  refine PL.op rfl (Rd.loadO rfl rfl rfl) ?_
  refine PL.guard_on rfl h_3 ?_
  refine PL.op rfl (Rd.lenT rfl) ?_
  refine PL.guard_on rfl h_3 ?_
  refine PL.op rfl (Rd.eql rfl rfl) ?_
  refine PL.op rfl (Rd.pick_f rfl h_3) ?_
  refine PL.nil ?_
  refine thA_n ?_
  rcases cond_some hh0 with ⟨h_4, hh0⟩ | ⟨h_4, hh0⟩
  · refine PC.cond_true rfl h_4 ?_
    refine PC.seq ?_
    refine PC.region ?_
    refine PL.op rfl (Rd.asnT rfl) ?_
    refine PL.nil ?_
    refine thA_n ?_
    refine PC.ret ?_
    refine thA_r ?_
    obtain rfl := some_in hh0
    exact FinA.mk (r := iA (((0 : Int), (S_reader.mk p_r.b n1)).1)) (bl := [⟨.mx [sL (((0 : Int), (S_reader.mk p_r.b n1)).2.b), iA (((0 : Int), (S_reader.mk p_r.b n1)).2.p)], 68, 0⟩]) [some 0] (.inl rfl) rfl (rl := [.tmp 4]) (.tmp .nil) rfl rfl rfl (.t _) ⟨⟨_, rfl, rfl, rfl, .mx ⟨.t _, .t _, trivial⟩⟩, trivial⟩ ⟨rfl, rfl⟩
  refine PC.cond_false rfl h_4 ?_
  refine PC.skip ?_
  refine thA_n ?_
  refine PC.seq ?_
  obtain ⟨n5, h_6, hh0⟩ := bind_some hh0
  refine PC.region ?_
  refine PL.op rfl (Rd.moveP rfl) ?_
  refine PL.op rfl (Rd.nilCheckO rfl rfl) ?_
  refine PL.op rfl (Rd.fieldO rfl rfl) ?_
  refine PL.op rfl (Rd.loadO rfl rfl rfl) ?_
  refine PL.op rfl (Rd.subM rfl rfl h_6) ?_
  refine PL.op rfl (Rd.asnT rfl) ?_
  refine PL.nil ?_
  refine thA_n ?_
  refine PC.seq ?_
  refine PC.seq ?_
  refine PC.region ?_
  refine PL.op rfl (Rd.moveT rfl) ?_
  refine PL.op rfl (Rd.moveP rfl) ?_
  refine PL.op rfl (Rd.nilCheckO rfl rfl) ?_
  refine PL.op rfl (Rd.fieldO rfl rfl) ?_
  refine PL.op rfl (Rd.loadO rfl rfl rfl) ?_
  refine PL.op rfl (Rd.lenT rfl) ?_
  refine PL.op rfl (Rd.lss rfl rfl) ?_
  refine PL.nil ?_
  refine thA_n ?_
  rcases cond_some hh0 with ⟨h_7, hh0⟩ | ⟨h_7, hh0⟩
  · refine PC.cond_true rfl h_7 ?_
    refine PC.seq ?_
    obtain ⟨x8, h_9, hh0⟩ := bind_some hh0
    obtain ⟨n10, h_11, hh0⟩ := bind_some hh0
    refine PC.region ?_
    refine PL.op rfl (Rd.moveP rfl) ?_
    refine PL.op rfl (Rd.nilCheckO rfl rfl) ?_
    refine PL.op rfl (Rd.fieldO rfl rfl) ?_
    refine PL.op rfl (Rd.loadO rfl rfl rfl) ?_
    refine PL.op rfl (Rd.moveT rfl) ?_
    refine PL.op rfl (Rd.ixM rfl rfl h_9) ?_
    refine PL.op rfl (Rd.elM1 rfl h_9 rfl rfl) ?_
    refine PL.op rfl (Rd.u8 rfl) ?_
    refine PL.op rfl (Rd.moveT rfl) ?_
    refine PL.op rfl (Rd.remM rfl rfl h_11) ?_
    refine PL.op rfl (Rd.asnT rfl) ?_
    refine PL.nil ?_
    refine thA_n ?_
    refine PC.ret ?_
    refine thA_r ?_
    obtain rfl := some_in hh0
    exact FinA.mk (r := iA ((n10, (S_reader.mk p_r.b n1)).1)) (bl := [⟨.mx [sL ((n10, (S_reader.mk p_r.b n1)).2.b), iA ((n10, (S_reader.mk p_r.b n1)).2.p)], 68, 0⟩]) [some 0] (.inl rfl) rfl (rl := [.tmp 4]) (.tmp .nil) rfl rfl rfl (.t _) ⟨⟨_, rfl, rfl, rfl, .mx ⟨.t _, .t _, trivial⟩⟩, trivial⟩ ⟨rfl, rfl⟩
  refine PC.cond_false rfl h_7 ?_
  refine PC.skip ?_
  refine thA_n ?_
  refine PC.seq ?_
  obtain ⟨n12, h_13, hh0⟩ := bind_some hh0
  obtain ⟨x14, h_15, hh0⟩ := bind_some hh0
  obtain ⟨n16, h_17, hh0⟩ := bind_some hh0
  obtain ⟨n18, h_19, hh0⟩ := bind_some hh0
  obtain ⟨n20, h_21, hh0⟩ := bind_some hh0
  obtain ⟨n22, h_23, hh0⟩ := bind_some hh0
  obtain ⟨x24, h_25, hh0⟩ := bind_some hh0
  obtain ⟨n26, h_27, hh0⟩ := bind_some hh0
  obtain ⟨n28, h_29, hh0⟩ := bind_some hh0
  obtain ⟨n30, h_31, hh0⟩ := bind_some hh0
  obtain ⟨n32, h_33, hh0⟩ := bind_some hh0
  obtain ⟨n34, h_35, hh0⟩ := bind_some hh0
  obtain ⟨n36, h_37, hh0⟩ := bind_some hh0
  obtain ⟨n38, h_39, hh0⟩ := bind_some hh0
  refine PC.any (id := 7) 46 (.seg [0, 1, 2, 3, 4, 5, 6, 7, 8, 9, 10, 11, 12, 13, 14, 15, 16, 17, 18, 19, 20, 21, 22, 23, 24, 25, 26, 27, 28, 29, 30, 31, 32, 33, 34, 35, 36, 37, 38, 39, 40, 41, 42, 43, 44, 45] .done) [] rfl (by kernel_rfl) rfl ?_
  refine PT.seg ?_
  refine PR.op rfl (Rd.moveP rfl) ?_
  refine PR.op rfl (Rd.nilCheckO rfl rfl) ?_
  refine PR.op rfl (Rd.fieldO rfl rfl) ?_
  refine PR.op rfl (Rd.loadO rfl rfl rfl) ?_
  refine PR.op rfl (Rd.moveT rfl) ?_
  refine PR.op rfl (Rd.moveP rfl) ?_
  refine PR.op rfl (Rd.nilCheckO rfl rfl) ?_
  refine PR.op rfl (Rd.fieldO rfl rfl) ?_
  refine PR.op rfl (Rd.loadO rfl rfl rfl) ?_
  refine PR.op rfl (Rd.lenT rfl) ?_
  refine PR.op rfl (Rd.remM rfl rfl h_13) ?_
  refine PR.op rfl (Rd.ixM rfl rfl h_15) ?_
  refine PR.op rfl (Rd.elM1 rfl h_15 rfl rfl) ?_
  refine PR.op rfl (Rd.u8 rfl) ?_
  refine PR.op rfl (Rd.mulM rfl rfl h_17) ?_
  refine PR.op rfl (Rd.moveP rfl) ?_
  refine PR.op rfl (Rd.nilCheckO rfl rfl) ?_
  refine PR.op rfl (Rd.fieldO rfl rfl) ?_
  refine PR.op rfl (Rd.loadO rfl rfl rfl) ?_
  refine PR.op rfl (Rd.moveT rfl) ?_
  refine PR.op rfl (Rd.mulM rfl rfl h_19) ?_
  refine PR.op rfl (Rd.addM rfl rfl h_21) ?_
  refine PR.op rfl (Rd.moveP rfl) ?_
  refine PR.op rfl (Rd.nilCheckO rfl rfl) ?_
  refine PR.op rfl (Rd.fieldO rfl rfl) ?_
  refine PR.op rfl (Rd.loadO rfl rfl rfl) ?_
  refine PR.op rfl (Rd.lenT rfl) ?_
  refine PR.op rfl (Rd.remM rfl rfl h_23) ?_
  refine PR.op rfl (Rd.ixM rfl rfl h_25) ?_
  refine PR.op rfl (Rd.elM1 rfl h_25 rfl rfl) ?_
  refine PR.op rfl (Rd.u8 rfl) ?_
  refine PR.op rfl (Rd.mulM rfl rfl h_27) ?_
  refine PR.op rfl (Rd.addM rfl rfl h_29) ?_
  refine PR.op rfl (Rd.moveT rfl) ?_
  refine PR.op rfl (Rd.mulM rfl rfl h_31) ?_
  refine PR.op rfl (Rd.addM rfl rfl h_33) ?_
  refine PR.op rfl (Rd.moveT rfl) ?_
  refine PR.op rfl (Rd.moveP rfl) ?_
  refine PR.op rfl (Rd.nilCheckO rfl rfl) ?_
  refine PR.op rfl (Rd.fieldO rfl rfl) ?_
  refine PR.op rfl (Rd.loadO rfl rfl rfl) ?_
  refine PR.op rfl (Rd.lenT rfl) ?_
  refine PR.op rfl (Rd.quoM rfl rfl h_35) ?_
  refine PR.op rfl (Rd.mulM rfl rfl h_37) ?_
  refine PR.op rfl (Rd.addM rfl rfl h_39) ?_
  refine PR.op rfl (Rd.asnT rfl) ?_
  refine PR.nil ?_
  refine PT.done ?_
  refine PL.nil ?_
  refine thA_n ?_
  refine PC.seq ?_
  obtain ⟨n40, h_41, hh0⟩ := bind_some hh0
  obtain ⟨n42, h_43, hh0⟩ := bind_some hh0
  refine PC.region ?_
  refine PL.op rfl (Rd.moveT rfl) ?_
  refine PL.op rfl (Rd.moveT rfl) ?_
  refine PL.op rfl (Rd.quoM rfl rfl h_41) ?_
  refine PL.op rfl (Rd.xorM rfl rfl h_43) ?_
  refine PL.op rfl (Rd.asnT rfl) ?_
  refine PL.nil ?_
  refine thA_n ?_
  refine PC.seq ?_
  obtain ⟨n44, h_45, hh0⟩ := bind_some hh0
  refine PC.region ?_
  refine PL.op rfl (Rd.moveT rfl) ?_
  refine PL.op rfl (Rd.moveT rfl) ?_
  refine PL.op rfl (Rd.remM rfl rfl h_45) ?_
  refine PL.op rfl (Rd.asnT rfl) ?_
  refine PL.nil ?_
  refine thA_n ?_
  refine PC.ret ?_
  obtain rfl := some_in hh0
  exact FinA.mk (r := iA ((n44, (S_reader.mk p_r.b n1)).1)) (bl := [⟨.mx [sL ((n44, (S_reader.mk p_r.b n1)).2.b), iA ((n44, (S_reader.mk p_r.b n1)).2.p)], 68, 0⟩]) [some 0] (.inl rfl) rfl (rl := [.tmp 4]) (.tmp .nil) rfl rfl rfl (.t _) ⟨⟨_, rfl, rfl, rfl, .mx ⟨.t _, .t _, trivial⟩⟩, trivial⟩ ⟨rfl, rfl⟩

def m_S_reader_one (N : Nat) (p_r : S_reader) (p_list : (List Int)) : Option (Int × S_reader) :=
  (m_S_reader_pick N p_r (p_list.length : Int)).bind fun r1 =>
  (ixI p_list r1.1).bind fun x3 =>
  some (x3, r1.2)
theorem w_S_reader_one (N : Nat) (p_r : S_reader) (p_list : (List Int)) (r : Int × S_reader) (hh0 : m_S_reader_one N p_r p_list = some r) : FnX Try.prog 39 [⟨.mx [sL p_r.b, iA p_r.p], 68, 0⟩] [.op 0 0, sL p_list] (RE (iA r.1) [⟨.mx [sL r.2.b, iA r.2.p], 68, 0⟩]) := by
  unfold m_S_reader_one at hh0
  refine FnX.mk Try.func39 rfl rfl ?_
  intro s hs
  refine PC.seq ?_
  refine PC.region ?_
  refine PL.op rfl (Rd.asnT rfl) ?_
  refine PL.nil ?_
  refine thA_n ?_
  refine PC.seq ?_
  obtain ⟨r1, h_2, hh0⟩ := bind_some hh0
  obtain ⟨x3, h_4, hh0⟩ := bind_some hh0
  refine PC.region ?_
  refine PL.op rfl (Rd.moveT rfl) ?_
  refine PL.op rfl (Rd.moveP rfl) ?_
  refine PL.op rfl (Rd.moveT rfl) ?_
  refine PL.op rfl (Rd.lenT rfl) ?_
  refine PL.callM false [0] (w_S_reader_pick N p_r (p_list.length : Int) r1 h_2) rfl Try.call49 rfl ⟨.op rfl, .t _, trivial⟩ rfl ⟨⟨_, rfl, rfl, rfl, .mx ⟨.t _, .t _, trivial⟩⟩, trivial⟩ (fun h => by cases h) ?_
  refine PL.nm (iA r1.1) [some ⟨.mx [sL r1.2.b, iA r1.2.p], 68, 0⟩] rfl rfl ?_
  refine PL.op rfl (Rd.ixM rfl rfl h_4) ?_
  refine PL.op rfl (Rd.elM1 rfl h_4 rfl rfl) ?_
  refine PL.op rfl (Rd.asnT rfl) ?_
  refine PL.nil ?_
  refine thA_n ?_
  refine PC.ret ?_
  obtain rfl := some_in hh0
  exact FinA.mk (r := iA ((x3, r1.2).1)) (bl := [⟨.mx [sL ((x3, r1.2).2.b), iA ((x3, r1.2).2.p)], 68, 0⟩]) [some 0] (.inl rfl) rfl (rl := [.tmp 4]) (.tmp .nil) rfl rfl rfl (.t _) ⟨⟨_, rfl, rfl, rfl, .mx ⟨.t _, .t _, trivial⟩⟩, trivial⟩ ⟨rfl, rfl⟩

end V
end Go.Proofs.Ytifcacahgiihoaa
