/- Texts for a law of package file, behind the shared ones, part 1: the law's own contracts and plain words. -/
import Derived.Test.YtmdlmmfbcnkanaaRA4

set_option linter.unusedVariables false
set_option maxRecDepth 10000

namespace Go.Proofs.YtmdlmmfbcnkanaaR
open Go.RowKit Go.Shelf
noncomputable def opsFa0 : Array Oper := (Try.f20.body.bind (regionOf 0)).getD #[]
noncomputable def opsFa1 : Array Oper := (Try.f20.body.bind (regionOf 1)).getD #[]
noncomputable def code20 : Code := (.seq (.region 0 opsFa0 false) (.seq (.region 1 opsFa1 false) .ret))
theorem body20 : Try.f20.body = some code20 := by kernel_rfl
theorem fault_any (s : Ser) (A : Option Addr) (c : Nat) (W : World) (hl : s.rd.length ≤ 1000000) (hs : IntsAt W W.heap.size A s.rd) : Calls Try.prog 20 #[serV s A c] W (EvP W (.int .i64 (faultS s))) := by
  refine (callsIn_wide (n := 5)).1 (callsIn_of_wp Try.func20 body20 trivial ?_ rfl)
  obtain ⟨a, ha⟩ : ∃ a : Act, a = { tmps := #[serV s A c] ++ Array.replicate (Try.f20.ntmps - (#[serV s A c] : Array Value).size) undef, defers := [] } := ⟨_, rfl⟩
  have hsz : a.tmps.size = 5 := by rw [ha]; simp [Try.ntmps20]
  have t0 : a.eval (.tmp 0) = serV s A c := by rw [ha]; simp [Act.eval]
  have hd_a : a.defers = [] := by rw [ha]
  rw [← ha]
  clear ha
  unfold code20
  refine wpIn_seq (region_p 2 ?_)
  intro K hK
  refine ListK.box (i := 0) (u := serV s A c) rfl (by simp [t0]) (bx24 W _ _ _ _ _) ?_
  refine ListK.assign (i := 1) (v := .int .i64 0) rfl (by simp) ?_
  refine ListK.done (hK _ _ ?_)
  clear hK K
  replace hs : IntsAt (W.alloc (.cells #[.int .i64 s.width, .int .i64 s.step, .slice A s.rd.length c] 24)) W.heap.size A s.rd := hs.below ((Below.refl W.heap.size W).alloc (Nat.le_refl _) _) (Nat.le_refl _)
  have w1 := Whole.new W 24 #[.int .i64 s.width, .int .i64 s.step, .slice A s.rd.length c]
  have hb_b1 : Below W.heap.size W (W.alloc (.cells #[.int .i64 s.width, .int .i64 s.step, .slice A s.rd.length c] 24)) := (Below.refl _ W).alloc (Nat.le_refl _) _
  have hB := hb_b1
  generalize hq_b1 : W.heap.size = b1 at *
  generalize W.alloc (.cells #[.int .i64 s.width, .int .i64 s.step, .slice A s.rd.length c] 24) = W1 at *
  have hsz1 := hB.size
  generalize hA : Act.put _ _ _ = a1
  have hz_a1 : a1.tmps.size = 5 := by rw [← hA]; simp only [size_put, hsz]
  have u1 : a1.eval (.tmp 1) = .pointer (some ⟨b1, 0, none⟩) := by rw [← hA]; exact (by simp [hsz])
  have hd_a1 : a1.defers = [] := by rw [← hA]; simp only [defers_put, hd_a]
  clear hA
  refine wpIn_seq (region_p 3 ?_)
  intro K hK
  refine ListK.load (i := 0) (p := ⟨b1, 0, none⟩) (v := serV s A c) rfl (by simp [u1]) (ld24 ⟨w1.cell 0, w1.cell 1, w1.cell 2⟩) ?_
  refine ListK.call (i := 1) (vs := #[serV s A c]) rfl (enters_of Try.func35 (by kernel_rfl) rfl) (by simp [hz_a1]) ((refFault_any s A c W1 hl (hs.more (by omega))).mono ?_)
  rintro _ W2 ⟨rfl, hb2⟩
  refine ⟨_, rfl, ?_⟩
  refine ListK.assign (i := 2) (v := .int .i64 (faultS s)) rfl (by simp [hz_a1]) ?_
  refine ListK.done (hK _ _ (wpIn_ret ?_))
  exact bodyPost_ret (v := .int .i64 (faultS s)) (res1 Try.results20 (by simp [hz_a1])) (by simp only [defers_put, hd_a1]) ⟨rfl, by rw [hq_b1]; exact hB.trans (hb2.mono (by omega))⟩
noncomputable def opsSh0 : Array Oper := (Try.f15.body.bind (regionOf 0)).getD #[]
noncomputable def opsSh1 : Array Oper := (Try.f15.body.bind (regionOf 1)).getD #[]
noncomputable def code15 : Code := (.seq (.region 0 opsSh0 false) (.seq (.region 1 opsSh1 false) .ret))
theorem body15 : Try.f15.body = some code15 := by kernel_rfl
theorem short_any (s : Ser) (A : Option Addr) (c : Nat) (W : World) : Calls Try.prog 15 #[serV s A c] W (EvP W (.bool (decide ((s.rd.length : Int) ≤ 45)))) := by
  refine (callsIn_wide (n := 5)).1 (callsIn_of_wp Try.func15 body15 trivial ?_ rfl)
  obtain ⟨a, ha⟩ : ∃ a : Act, a = { tmps := #[serV s A c] ++ Array.replicate (Try.f15.ntmps - (#[serV s A c] : Array Value).size) undef, defers := [] } := ⟨_, rfl⟩
  have hsz : a.tmps.size = 7 := by rw [ha]; simp [Try.ntmps15]
  have t0 : a.eval (.tmp 0) = serV s A c := by rw [ha]; simp [Act.eval]
  have hd_a : a.defers = [] := by rw [ha]
  rw [← ha]
  clear ha
  unfold code15
  refine wpIn_seq (region_p 2 ?_)
  intro K hK
  refine ListK.box (i := 0) (u := serV s A c) rfl (by simp [t0]) (bx24 W _ _ _ _ _) ?_
  refine ListK.assign (i := 1) (v := .bool false) rfl (by simp) ?_
  refine ListK.done (hK _ _ ?_)
  clear hK K
  have w1 := Whole.new W 24 #[.int .i64 s.width, .int .i64 s.step, .slice A s.rd.length c]
  have hb_b1 : Below W.heap.size W (W.alloc (.cells #[.int .i64 s.width, .int .i64 s.step, .slice A s.rd.length c] 24)) := (Below.refl _ W).alloc (Nat.le_refl _) _
  have hB := hb_b1
  generalize hq_b1 : W.heap.size = b1 at *
  generalize W.alloc (.cells #[.int .i64 s.width, .int .i64 s.step, .slice A s.rd.length c] 24) = W1 at *
  generalize hA : Act.put _ _ _ = a1
  have hz_a1 : a1.tmps.size = 7 := by rw [← hA]; simp only [size_put, hsz]
  have u1 : a1.eval (.tmp 1) = .pointer (some ⟨b1, 0, none⟩) := by rw [← hA]; exact (by simp [hsz])
  have hd_a1 : a1.defers = [] := by rw [← hA]; simp only [defers_put, hd_a]
  clear hA
  refine wpIn_seq (region_p 5 ?_)
  intro K hK
  refine ListK.field (i := 0) (u := .pointer (some ⟨b1, 0, none⟩)) (v := .pointer (some ⟨b1, 2, none⟩)) rfl (by simp [u1]) (fa24_2 _) ?_
  refine ListK.load (i := 1) (p := ⟨b1, 2, none⟩) (v := .slice A s.rd.length c) rfl (by simp [hz_a1]) (ld22 (w1.cell 2)) ?_
  refine ListK.len (i := 2) (u := .slice A s.rd.length c) (v := .int .i64 s.rd.length) rfl (by simp [hz_a1]) (ln22 _ _ _ _ _) rfl ?_
  refine ListK.bin (i := 3) (u := .int .i64 s.rd.length) (u' := .int .i64 45) (v := .bool (decide ((s.rd.length : Int) ≤ 45))) rfl (by simp [hz_a1]) (by simp) (leq3 _) ?_
  refine ListK.assign (i := 4) (v := .bool (decide ((s.rd.length : Int) ≤ 45))) rfl (by simp [hz_a1]) ?_
  refine ListK.done (hK _ _ (wpIn_ret ?_))
  exact bodyPost_ret (v := .bool (decide ((s.rd.length : Int) ≤ 45))) (res1 Try.results15 (by simp [hz_a1])) (by simp only [defers_put, hd_a1]) ⟨rfl, by rw [hq_b1]; exact hB⟩
noncomputable def opsFw0 : Array Oper := (Try.f3.body.bind (regionOf 0)).getD #[]
noncomputable def opsFw1 : Array Oper := (Try.f3.body.bind (regionOf 1)).getD #[]
noncomputable def opsFw2 : Array Oper := (Try.f3.body.bind (regionOf 2)).getD #[]
noncomputable def opsFw3 : Array Oper := (Try.f3.body.bind (regionOf 3)).getD #[]
noncomputable def opsFw4 : Array Oper := (Try.f3.body.bind (regionOf 4)).getD #[]
noncomputable def opsFw5 : Array Oper := (Try.f3.body.bind (regionOf 5)).getD #[]
noncomputable def opsFw6 : Array Oper := (Try.f3.body.bind (regionOf 6)).getD #[]
noncomputable def opsFw7 : Array Oper := (Try.f3.body.bind (regionOf 7)).getD #[]
noncomputable def opsFw8 : Array Oper := (Try.f3.body.bind (regionOf 8)).getD #[]
noncomputable def opsFw9 : Array Oper := (Try.f3.body.bind (regionOf 9)).getD #[]
noncomputable def opsFw10 : Array Oper := (Try.f3.body.bind (regionOf 10)).getD #[]
noncomputable def fw_c : Code := (.seq (.seq (.region 8 opsFw8 false) (.cond (.tmp 26) (.seq (.region 9 opsFw9 false) .ret) .skip)) (.seq (.region 10 opsFw10 true) .ret))
noncomputable def fw_b : Code := (.seq (.region 3 opsFw3 false) (.seq (.region 4 opsFw4 false) (.seq (.region 5 opsFw5 false) (.seq (.seq (.region 6 opsFw6 false) (.cond (.tmp 24) (.seq (.region 7 opsFw7 false) .ret) .skip)) fw_c))))
noncomputable def code3 : Code := (.seq (.region 0 opsFw0 false) (.seq (.seq (.region 1 opsFw1 false) (.cond (.tmp 9) (.seq (.region 2 opsFw2 false) .ret) .skip)) fw_b))
theorem body3 : Try.f3.body = some code3 := by kernel_rfl
section
attribute [local irreducible] AnyK StepK
set_option maxHeartbeats 400000 in
theorem fw_c_any {s : Ser} {A : Option Addr} {c b1 : Nat} {v : Value} {a : Act} {W W1 : World} (h45 : s.rd.length ≤ 45) (hz : a.tmps.size = 51) (hd_a : a.defers = []) (t1 : a.eval (.tmp 1) = ptr b1) (t4 : a.eval (.tmp 4) = v) (t5 : a.eval (.tmp 5) = .int .i64 (faultS s)) (t6 : a.eval (.tmp 6) = .int .i64 (faultS s))
    (w1 : Whole W1 b1 24 #[.int .i64 s.width, .int .i64 s.step, .slice A s.rd.length c]) (hs : IntsAt W1 W1.heap.size A s.rd) {W0 : World} (ho : OB W0 v (if faultS s = 0 then linesL (fileL s) else []) W1) (hB : Below W.heap.size W W1) :
    fw_c.wpIn Fence.wide 5 Try.prog (bodyPost Try.prog Try.f3 (EvP W (.bool true))) a W1 := by
  obtain ⟨A4, c4, hv, hc4, hy4⟩ := ho.bytes
  unfold fw_c
  by_cases hf : faultS s = 0
  · rw [if_pos hf] at hv hy4 hc4
    subst hv
    rw [hf] at t5 t6
    obtain ⟨hl, _⟩ := ser_valid hf
    have h7 := recsTo_seven s s.rd.length
    have hll := linesL_len h7
    have hfl := recsTo_len s s.rd.length
    refine wpIn_seq (wpIn_seq (region_p 2 ?_))
    intro K hK
    refine ListK.move (i := 0) (v := .int .i64 0) rfl (by simp [t6]) ?_
    refine ListK.bin (i := 1) (u := .int .i64 0) (u' := .int .i64 0) (v := .bool false) rfl (by simp [hz]) (by simp) (neq27F rfl _) ?_
    refine ListK.done (hK _ _ ?_)
    clear hK K
    refine wpIn_cond (t := false) (by simp [hz]) (wpIn_skip ?_)
    generalize hA : Act.put _ _ _ = a1
    have hz_a1 : a1.tmps.size = 51 := by rw [← hA]; simp only [size_put, hz]
    have u1 : a1.eval (.tmp 1) = .pointer (some ⟨b1, 0, none⟩) := by rw [← hA]; exact (by simp [t1])
    have u4 : a1.eval (.tmp 4) = .slice A4 (linesL (fileL s)).length c4 := by rw [← hA]; exact (by simp [t4])
    have u5 : a1.eval (.tmp 5) = .int .i64 0 := by rw [← hA]; exact (by simp [t5])
    have hd_a1 : a1.defers = [] := by rw [← hA]; simp only [defers_put, hd_a]
    clear hA
    have hgr : ∀ w w', (fun w : World => (Whole w b1 24 #[.int .i64 s.width, .int .i64 s.step, .slice A s.rd.length c] ∧ IntsAt w W1.heap.size A s.rd) ∧ BytesAt w W1.heap.size A4 (linesL (fileL s)) ∧ Below W1.heap.size W1 w) w → Below w.heap.size w w' → (fun w : World => (Whole w b1 24 #[.int .i64 s.width, .int .i64 s.step, .slice A s.rd.length c] ∧ IntsAt w W1.heap.size A s.rd) ∧ BytesAt w W1.heap.size A4 (linesL (fileL s)) ∧ Below W1.heap.size W1 w) w' := fun w w' h hb => ⟨⟨h.1.1.below hb h.1.1.lt, h.1.2.below hb h.2.2.size⟩, h.2.1.below (hb.mono h.2.2.size) (Nat.le_refl _), h.2.2.trans (hb.mono h.2.2.size)⟩
    have hR0 : (fun w : World => (Whole w b1 24 #[.int .i64 s.width, .int .i64 s.step, .slice A s.rd.length c] ∧ IntsAt w W1.heap.size A s.rd) ∧ BytesAt w W1.heap.size A4 (linesL (fileL s)) ∧ Below W1.heap.size W1 w) W1 := ⟨⟨w1, hs⟩, hy4, Below.refl _ _⟩
    refine wpIn_seq (region_K (KpR (fun w : World => (Whole w b1 24 #[.int .i64 s.width, .int .i64 s.step, .slice A s.rd.length c] ∧ IntsAt w W1.heap.size A s.rd) ∧ BytesAt w W1.heap.size A4 (linesL (fileL s)) ∧ Below W1.heap.size W1 w) (fun _ => false)) (wideF_plain _) (by kernel_rfl) Try.mixed ?_)
    change AnyK _ _ _ _ 14 (Array.replicate 14 false) _ _
    have hR : (fun w : World => (Whole w b1 24 #[.int .i64 s.width, .int .i64 s.step, .slice A s.rd.length c] ∧ IntsAt w W1.heap.size A s.rd) ∧ BytesAt w W1.heap.size A4 (linesL (fileL s)) ∧ Below W1.heap.size W1 w) W1.drew := hgr _ _ hR0 (Below.refl W1.heap.size W1).drew
    refine AnyK.move (i := 0) may_o (v := .int .i64 0) (by simp [u5]) hR ?_
    refine AnyK.bin (i := 1) may_o (u := .int .i64 0) (u' := .int .i64 (0)) (v := .bool true) (by simp [hz_a1]) (by simp) (fun w => eql27c 0 _ _ w) hR ?_
    refine AnyK.move (i := 2) may_o (v := .bool true) (by simp [hz_a1]) hR ?_
    refine AnyK.move (i := 3) may_o (v := .slice A4 (linesL (fileL s)).length c4) (by simp [u4]) hR (hw := (by exact wanted_g (e := 40) (b' := true) rfl (by simp [hz_a1]) rfl)) ?_
    refine AnyK.convR (i := 4) may_o (u := .slice A4 (linesL (fileL s)).length c4) (v := strV (linesL (fileL s))) (by simp [hz_a1]) (fun w hw => cv319 c4 hw.2.1) hR (hw := (by exact wanted_g (e := 40) (b' := true) rfl (by simp [hz_a1]) rfl)) ?_
    refine AnyK.load (i := 5) may_o (p := ⟨b1, 0, none⟩) (v := serV s A c) (by simp [u1]) (fun w hw => ld24 ⟨hw.1.1.cell 0, hw.1.1.cell 1, hw.1.1.cell 2⟩) hR (hw := (by exact wanted_g (e := 40) (b' := true) rfl (by simp [hz_a1]) rfl)) ?_
    refine AnyK.pick1 (i := 6) (by kernel_rfl) ?_
    refine StepK.call (i := 6) (f := 22) (vs := #[serV s A c]) rfl (enters_of Try.func22 (by kernel_rfl) rfl) rfl (by simp [hz_a1]) ((refRecords_any s A c (W1.drew) hf (hR.1.2.more hR.2.2.size)).mono ?_) (hw := wanted_g (e := 40) (b' := true) rfl (by simp [hz_a1]) rfl)
    rintro _ V6 ⟨v6, rfl, hos6⟩
    replace hR : (fun w : World => (Whole w b1 24 #[.int .i64 s.width, .int .i64 s.step, .slice A s.rd.length c] ∧ IntsAt w W1.heap.size A s.rd) ∧ BytesAt w W1.heap.size A4 (linesL (fileL s)) ∧ Below W1.heap.size W1 w) V6 := hgr _ _ hR hos6.low
    obtain ⟨A6, c6, rfl, hst6⟩ := hos6.strs
    refine ⟨_, rfl, fun _ _ => hR, ?_⟩
    refine AnyK.pick1 (i := 7) (by kernel_rfl) ?_
    refine StepK.call (i := 7) (f := 21) (vs := #[.slice A6 (fileL s).length c6]) rfl (enters_of Try.func21 (by kernel_rfl) rfl) rfl (by simp [hz_a1]) ((refLines_any A6 c6 (fileL s) (by show (linesL (recsTo s s.rd.length)).length ≤ 500000; omega) (by show (recsTo s s.rd.length).length ≤ 100000; omega) V6 hst6).mono ?_) (hw := wanted_g (e := 40) (b' := true) rfl (by simp [hz_a1]) rfl)
    rintro _ _ ⟨rfl, hWe⟩
    subst hWe
    refine ⟨_, rfl, fun _ _ => hR, ?_⟩
    refine AnyK.bin (i := 8) may_o (u := strV (linesL (fileL s))) (u' := strV (linesL (fileL s))) (v := .bool true) (by simp [hz_a1]) (by simp [hz_a1]) (fun w => eql9T _ w) hR (hw := (by exact wanted_g (e := 40) (b' := true) rfl (by simp [hz_a1]) rfl)) ?_
    refine AnyK.pick (i := 9) may_o (b := true) (v := .bool true) (by simp [hz_a1]) (by simp [hz_a1]) hR ?_
    refine AnyK.move (i := 10) may_o (v := .bool true) (by simp [hz_a1]) hR ?_
    refine AnyK.pick1 (i := 11) (by kernel_rfl) ?_
    refine StepK.call (i := 11) (f := 16) (vs := #[]) rfl (enters_of Try.func16 (by kernel_rfl) rfl) rfl (by simp) ((awake_any _).mono ?_) (hw := wanted_g (e := 48) (b' := true) rfl (by simp [hz_a1]) rfl)
    rintro _ V11 ⟨rfl, hv11⟩
    replace hR : (fun w : World => (Whole w b1 24 #[.int .i64 s.width, .int .i64 s.step, .slice A s.rd.length c] ∧ IntsAt w W1.heap.size A s.rd) ∧ BytesAt w W1.heap.size A4 (linesL (fileL s)) ∧ Below W1.heap.size W1 w) V11 := hgr _ _ hR hv11
    refine ⟨_, rfl, fun _ _ => hR, ?_⟩
    refine AnyK.pick (i := 12) may_o (b := true) (v := .bool true) (by simp [hz_a1]) (by simp [hz_a1]) hR ?_
    refine AnyK.assign (i := 13) may_o (v := .bool true) (by simp [hz_a1]) hR ?_
    refine AnyK.done (by kernel_rfl) ?_
    refine wpIn_ret ?_
    exact bodyPost_ret (v := .bool true) (res1 Try.results3 (by simp [hz_a1])) (by simp only [defers_put, hd_a1]) ⟨rfl, hB.trans (hR.2.2.mono hB.size)⟩
  · rw [if_neg hf] at hv
    subst hv
    refine wpIn_seq (wpIn_seq (region_p 2 ?_))
    intro K hK
    refine ListK.move (i := 0) (v := .int .i64 (faultS s)) rfl (by simp [t6]) ?_
    refine ListK.bin (i := 1) (u := .int .i64 (faultS s)) (u' := .int .i64 0) (v := .bool true) rfl (by simp [hz]) (by simp) (neq27T hf _) ?_
    refine ListK.done (hK _ _ ?_)
    clear hK K
    refine wpIn_cond (t := true) (by simp [hz]) ?_
    refine wpIn_seq (region_p 12 ?_)
    intro K hK
    refine ListK.move (i := 0) (v := .int .i64 (faultS s)) rfl (by simp [t5]) ?_
    refine ListK.move (i := 1) (v := .int .i64 (faultS s)) rfl (by simp [t6]) ?_
    refine ListK.bin (i := 2) (u := .int .i64 (faultS s)) (u' := .int .i64 (faultS s)) (v := .bool true) rfl (by simp [hz]) (by simp [hz]) (eql27T rfl _) ?_
    refine ListK.move (i := 3) (v := .bool true) rfl (by simp [hz]) ?_
    refine ListK.move (i := 4) (v := .slice A4 ([] : List UInt8).length c4) rfl (by simp [t4]) ?_ (hw := wanted_g (e := 30) (b' := true) rfl (by simp [hz]) rfl)
    refine ListK.lenW (i := 5) (u := .slice A4 ([] : List UInt8).length c4) (v := .int .i64 ([] : List UInt8).length) rfl (by simp [hz]) (ln31 _ _ _ _ _) rfl ?_ (hw := wanted_g (e := 30) (b' := true) rfl (by simp [hz]) rfl)
    refine ListK.bin (i := 6) (u := .int .i64 ([] : List UInt8).length) (u' := .int .i64 0) (v := .bool true) rfl (by simp [hz]) (by simp) (eql3T rfl _) ?_ (hw := wanted_g (e := 30) (b' := true) rfl (by simp [hz]) rfl)
    refine ListK.pick (i := 7) (b := true) (v := .bool true) rfl (by simp [hz]) (by simp [hz]) ?_
    refine ListK.move (i := 8) (v := .bool true) rfl (by simp [hz]) ?_
    refine ListK.call (i := 9) (vs := #[]) rfl (enters_of Try.func16 (by kernel_rfl) rfl) (by simp) ((awake_any W1).mono ?_) (hw := wanted_g (e := 35) (b' := true) rfl (by simp [hz]) rfl)
    rintro _ W2 ⟨rfl, hb2⟩
    refine ⟨_, rfl, ?_⟩
    refine ListK.pick (i := 10) (b := true) (v := .bool true) rfl (by simp [hz]) (by simp [hz]) ?_
    refine ListK.assign (i := 11) (v := .bool true) rfl (by simp [hz]) ?_
    refine ListK.done (hK _ _ (wpIn_ret ?_))
    exact bodyPost_ret (v := .bool true) (res1 Try.results3 (by simp [hz])) (by simp only [defers_put, hd_a]) ⟨rfl, hB.trans (hb2.mono hB.size)⟩
set_option maxHeartbeats 400000 in
theorem writes_law (s : Ser) (A : Option Addr) (c : Nat) (W : World) (hs : IntsAt W W.heap.size A s.rd) : Calls Try.prog 3 #[serV s A c] W (TP W true) := by
  refine (callsIn_wide (n := 5)).1 (callsIn_of_wp Try.func3 body3 trivial ?_ rfl)
  obtain ⟨a, ha⟩ : ∃ a : Act, a = { tmps := #[serV s A c] ++ Array.replicate (Try.f3.ntmps - (#[serV s A c] : Array Value).size) undef, defers := [] } := ⟨_, rfl⟩
  have hsz : a.tmps.size = 51 := by rw [ha]; simp [Try.ntmps3]
  have t0 : a.eval (.tmp 0) = serV s A c := by rw [ha]; simp [Act.eval]
  have hd_a : a.defers = [] := by rw [ha]
  rw [← ha]
  clear ha
  unfold code3
  refine wpIn_seq (region_p 2 ?_)
  intro K hK
  refine ListK.box (i := 0) (u := serV s A c) rfl (by simp [t0]) (bx24 W _ _ _ _ _) ?_
  refine ListK.assign (i := 1) (v := .bool false) rfl (by simp) ?_
  refine ListK.done (hK _ _ ?_)
  clear hK K
  replace hs : IntsAt (W.alloc (.cells #[.int .i64 s.width, .int .i64 s.step, .slice A s.rd.length c] 24)) W.heap.size A s.rd := hs.below ((Below.refl W.heap.size W).alloc (Nat.le_refl _) _) (Nat.le_refl _)
  have w1 := Whole.new W 24 #[.int .i64 s.width, .int .i64 s.step, .slice A s.rd.length c]
  have hb_b1 : Below W.heap.size W (W.alloc (.cells #[.int .i64 s.width, .int .i64 s.step, .slice A s.rd.length c] 24)) := (Below.refl _ W).alloc (Nat.le_refl _) _
  have hB := hb_b1
  generalize hq_b1 : W.heap.size = b1 at *
  generalize W.alloc (.cells #[.int .i64 s.width, .int .i64 s.step, .slice A s.rd.length c] 24) = W1 at *
  have hsz1 := hB.size
  replace hs := hs.more (show b1 ≤ W1.heap.size by omega)
  generalize hA : Act.put _ _ _ = a1
  have hz_a1 : a1.tmps.size = 51 := by rw [← hA]; simp only [size_put, hsz]
  have u1 : a1.eval (.tmp 1) = .pointer (some ⟨b1, 0, none⟩) := by rw [← hA]; exact (by simp [hsz])
  have hd_a1 : a1.defers = [] := by rw [← hA]; simp only [defers_put, hd_a]
  clear hA
  by_cases h45 : s.rd.length ≤ 45
  · have hd : decide ((s.rd.length : Int) ≤ 45) = true := by simp; omega
    have hsh := short_any s A c W1
    rw [hd] at hsh
    refine wpIn_seq (wpIn_seq (region_p 3 ?_))
    intro K hK
    refine ListK.load (i := 0) (p := ⟨b1, 0, none⟩) (v := serV s A c) rfl (by simp [u1]) (ld24 ⟨w1.cell 0, w1.cell 1, w1.cell 2⟩) ?_
    refine ListK.call (i := 1) (vs := #[serV s A c]) rfl (enters_of Try.func15 (by kernel_rfl) rfl) (by simp [hz_a1]) ((hsh).mono ?_)
    rintro _ W2 ⟨rfl, hb2⟩
    refine ⟨_, rfl, ?_⟩
    refine ListK.un (i := 2) (u := .bool true) (v := .bool false) rfl (by simp [hz_a1]) (not4 _ _) ?_
    refine ListK.done (hK _ _ ?_)
    clear hK K
    refine wpIn_cond (t := false) (by simp [hz_a1]) (wpIn_skip ?_)
    generalize hA : Act.put _ _ _ = a2
    have hz_a2 : a2.tmps.size = 51 := by rw [← hA]; simp only [size_put, hz_a1]
    have v1 : a2.eval (.tmp 1) = .pointer (some ⟨b1, 0, none⟩) := by rw [← hA]; exact (by simp [u1])
    have hd_a2 : a2.defers = [] := by rw [← hA]; simp only [defers_put, hd_a1]
    clear hA
    unfold fw_b
    have w2 := w1.below hb2 w1.lt
    have hs2 := hs.below hb2 (Nat.le_refl _)
    have hB2 := hB.trans (hb2.mono (by omega))
    have hz2 := hB2.size
    refine wpIn_seq (region_p 4 ?_)
    intro K hK
    refine ListK.load (i := 0) (p := ⟨b1, 0, none⟩) (v := serV s A c) rfl (by simp [v1]) (ld24 ⟨w2.cell 0, w2.cell 1, w2.cell 2⟩) ?_
    refine ListK.call (i := 1) (vs := #[serV s A c]) rfl (enters_of Try.func18 (by kernel_rfl) rfl) (by simp [hz_a2]) ((series_any s A c W2 (by omega) (hs2.more hb2.size)).mono ?_)
    rintro _ W3 ⟨A3, c3, rfl, hs3, hb3⟩
    refine ⟨_, rfl, ?_⟩
    refine ListK.call (i := 2) (vs := #[serV s A3 c3]) rfl (enters_of Try.func17 (by kernel_rfl) rfl) (by simp [hz_a2]) ((check_any s A3 c3 W3 (by omega) hs3).mono ?_)
    rintro _ W4 ⟨rfl, hb4⟩
    refine ⟨_, rfl, ?_⟩
    refine ListK.assign (i := 3) (v := .int .i64 (faultS s)) rfl (by simp [hz_a2]) ?_
    refine ListK.done (hK _ _ ?_)
    clear hK K
    have hb24 := hb3.trans (hb4.mono hb3.size)
    have w4 := w2.below hb24 w2.lt
    have hs4 := (hs2.more hb2.size).below hb24 (Nat.le_refl _)
    have hB4 := hB2.trans (hb24.mono (by omega))
    have hz4 := hB4.size
    have hz24 := hb24.size
    generalize hA : Act.put _ _ _ = a3
    have hz_a3 : a3.tmps.size = 51 := by rw [← hA]; simp only [size_put, hz_a2]
    have q1 : a3.eval (.tmp 1) = .pointer (some ⟨b1, 0, none⟩) := by rw [← hA]; exact (by simp [v1])
    have q3 : a3.eval (.tmp 3) = .int .i64 (faultS s) := by rw [← hA]; exact (by simp [hz_a2])
    have hd_a3 : a3.defers = [] := by rw [← hA]; simp only [defers_put, hd_a2]
    clear hA
    refine wpIn_seq (region_p 8 ?_)
    intro K hK
    refine ListK.load (i := 0) (p := ⟨b1, 0, none⟩) (v := serV s A c) rfl (by simp [q1]) (ld24 ⟨w4.cell 0, w4.cell 1, w4.cell 2⟩) ?_
    refine ListK.call (i := 1) (vs := #[serV s A c]) rfl (enters_of Try.func18 (by kernel_rfl) rfl) (by simp [hz_a3]) ((series_any s A c W4 (by omega) (hs4.more hz24)).mono ?_)
    rintro _ W5 ⟨A5, c5, rfl, hs5, hb5⟩
    refine ⟨_, rfl, ?_⟩
    refine ListK.call (i := 2) (vs := #[serV s A5 c5]) rfl (enters_of Try.func19 (by kernel_rfl) rfl) (by simp [hz_a3]) ((write_any s A5 c5 W5 (by omega) hs5).mono ?_)
    rintro _ W6 ⟨v, rfl, ho⟩
    refine ⟨_, rfl, ?_⟩
    refine ListK.move (i := 3) (v := .tuple #[v, .int .i64 (faultS s)]) rfl (by simp [hz_a3]) ?_
    refine ListK.extract (i := 4) (u := .tuple #[v, .int .i64 (faultS s)]) (v := v) rfl (by simp [hz_a3]) (ex0 _ _ _) ?_
    refine ListK.extract (i := 5) (u := .tuple #[v, .int .i64 (faultS s)]) (v := .int .i64 (faultS s)) rfl (by simp [hz_a3]) (ex1 _ _ _) ?_
    refine ListK.assign (i := 6) (v := v) rfl (by simp [hz_a3]) ?_
    refine ListK.assign (i := 7) (v := .int .i64 (faultS s)) rfl (by simp [hz_a3]) ?_
    refine ListK.done (hK _ _ ?_)
    clear hK K
    have hb46 := hb5.trans (ho.low.mono hb5.size)
    have w6 := w4.below hb46 w4.lt
    have hs6 := (hs4.more hz24).below hb46 (Nat.le_refl _)
    have hB6 := hB4.trans (hb46.mono (by omega))
    have hz6 := hB6.size
    have hz46 := hb46.size
    generalize hA : Act.put _ _ _ = a4
    have hz_a4 : a4.tmps.size = 51 := by rw [← hA]; simp only [size_put, hz_a3]
    have r1 : a4.eval (.tmp 1) = .pointer (some ⟨b1, 0, none⟩) := by rw [← hA]; exact (by simp [q1])
    have r3 : a4.eval (.tmp 3) = .int .i64 (faultS s) := by rw [← hA]; exact (by simp [q3])
    have r4 : a4.eval (.tmp 4) = v := by rw [← hA]; exact (by simp [hz_a3])
    have r5 : a4.eval (.tmp 5) = .int .i64 (faultS s) := by rw [← hA]; exact (by simp [hz_a3])
    have hd_a4 : a4.defers = [] := by rw [← hA]; simp only [defers_put, hd_a3]
    clear hA
    refine wpIn_seq (region_p 3 ?_)
    intro K hK
    refine ListK.load (i := 0) (p := ⟨b1, 0, none⟩) (v := serV s A c) rfl (by simp [r1]) (ld24 ⟨w6.cell 0, w6.cell 1, w6.cell 2⟩) ?_
    refine ListK.call (i := 1) (vs := #[serV s A c]) rfl (enters_of Try.func20 (by kernel_rfl) rfl) (by simp [hz_a4]) ((fault_any s A c W6 (by omega) (hs6.more hz46)).mono ?_)
    rintro _ W7 ⟨rfl, hb7⟩
    refine ⟨_, rfl, ?_⟩
    refine ListK.assign (i := 2) (v := .int .i64 (faultS s)) rfl (by simp [hz_a4]) ?_
    refine ListK.done (hK _ _ ?_)
    clear hK K
    have ho7 := ho.below hb7
    have w7 := w6.below hb7 w6.lt
    have hs7 := (hs6.more hz46).below hb7 (Nat.le_refl _)
    have hB7 := hB6.trans (hb7.mono (by omega))
    generalize hA : Act.put _ _ _ = a5
    have hz_a5 : a5.tmps.size = 51 := by rw [← hA]; simp only [size_put, hz_a4]
    have p1 : a5.eval (.tmp 1) = .pointer (some ⟨b1, 0, none⟩) := by rw [← hA]; exact (by simp [r1])
    have p3 : a5.eval (.tmp 3) = .int .i64 (faultS s) := by rw [← hA]; exact (by simp [r3])
    have p4 : a5.eval (.tmp 4) = v := by rw [← hA]; exact (by simp [r4])
    have p5 : a5.eval (.tmp 5) = .int .i64 (faultS s) := by rw [← hA]; exact (by simp [r5])
    have p6 : a5.eval (.tmp 6) = .int .i64 (faultS s) := by rw [← hA]; exact (by simp [hz_a4])
    have hd_a5 : a5.defers = [] := by rw [← hA]; simp only [defers_put, hd_a4]
    clear hA
    refine wpIn_seq (wpIn_seq (region_p 3 ?_))
    intro K hK
    refine ListK.move (i := 0) (v := .int .i64 (faultS s)) rfl (by simp [p3]) ?_
    refine ListK.move (i := 1) (v := .int .i64 (faultS s)) rfl (by simp [p6]) ?_
    refine ListK.bin (i := 2) (u := .int .i64 (faultS s)) (u' := .int .i64 (faultS s)) (v := .bool false) rfl (by simp [hz_a5]) (by simp [hz_a5]) (neq27F rfl _) ?_
    refine ListK.done (hK _ _ ?_)
    clear hK K
    refine wpIn_cond (t := false) (by simp [hz_a5]) (wpIn_skip ?_)
    generalize hA : Act.put _ _ _ = a6
    have hz_a6 : a6.tmps.size = 51 := by rw [← hA]; simp only [size_put, hz_a5]
    have o1 : a6.eval (.tmp 1) = .pointer (some ⟨b1, 0, none⟩) := by rw [← hA]; exact (by simp [p1])
    have o4 : a6.eval (.tmp 4) = v := by rw [← hA]; exact (by simp [p4])
    have o5 : a6.eval (.tmp 5) = .int .i64 (faultS s) := by rw [← hA]; exact (by simp [p5])
    have o6 : a6.eval (.tmp 6) = .int .i64 (faultS s) := by rw [← hA]; exact (by simp [p6])
    have hd_a6 : a6.defers = [] := by rw [← hA]; simp only [defers_put, hd_a5]
    clear hA
    rw [← hq_b1] at hB7
    exact fw_c_any (W0 := W5) h45 hz_a6 hd_a6 o1 o4 o5 o6 w7 (hs7.more hb7.size) ho7 hB7
  · have hd : decide ((s.rd.length : Int) ≤ 45) = false := by simp; omega
    have hsh := short_any s A c W1
    rw [hd] at hsh
    refine wpIn_seq (wpIn_seq (region_p 3 ?_))
    intro K hK
    refine ListK.load (i := 0) (p := ⟨b1, 0, none⟩) (v := serV s A c) rfl (by simp [u1]) (ld24 ⟨w1.cell 0, w1.cell 1, w1.cell 2⟩) ?_
    refine ListK.call (i := 1) (vs := #[serV s A c]) rfl (enters_of Try.func15 (by kernel_rfl) rfl) (by simp [hz_a1]) ((hsh).mono ?_)
    rintro _ W2 ⟨rfl, hb2⟩
    refine ⟨_, rfl, ?_⟩
    refine ListK.un (i := 2) (u := .bool false) (v := .bool true) rfl (by simp [hz_a1]) (not4 _ _) ?_
    refine ListK.done (hK _ _ ?_)
    clear hK K
    refine wpIn_cond (t := true) (by simp [hz_a1]) ?_
    refine wpIn_seq (region_p 2 ?_)
    intro K hK
    refine ListK.call (i := 0) (vs := #[]) rfl (enters_of Try.func16 (by kernel_rfl) rfl) (by simp) ((awake_any W2).mono ?_)
    rintro _ W3 ⟨rfl, hb3⟩
    refine ⟨_, rfl, ?_⟩
    refine ListK.assign (i := 1) (v := .bool true) rfl (by simp [hz_a1]) ?_
    refine ListK.done (hK _ _ (wpIn_ret ?_))
    refine bodyPost_ret (v := .bool true) (res1 Try.results3 (by simp [hz_a1])) (by simp only [defers_put, hd_a1]) ⟨rfl, ?_⟩
    rw [hq_b1]
    exact (hB.trans (hb2.mono (by omega))).trans (hb3.mono (by have := hb2.size; omega))
end
end Go.Proofs.YtmdlmmfbcnkanaaR
