/- Texts for a law of package file, behind the shared ones, part 2: the law's own contracts and plain words. -/
import Derived.Test.YtmdlmmfbcnkanaaRB1

set_option linter.unusedVariables false
set_option maxRecDepth 10000

namespace Go.Proofs.YtmdlmmfbcnkanaaR
open Go.RowKit Go.Shelf
noncomputable def opsBk0 : Array Oper := (Try.f12.body.bind (regionOf 0)).getD #[]
noncomputable def opsBk1 : Array Oper := (Try.f12.body.bind (regionOf 1)).getD #[]
noncomputable def opsBk2 : Array Oper := (Try.f12.body.bind (regionOf 2)).getD #[]
noncomputable def opsBk3 : Array Oper := (Try.f12.body.bind (regionOf 3)).getD #[]
noncomputable def opsBk4 : Array Oper := (Try.f12.body.bind (regionOf 4)).getD #[]
noncomputable def opsBk5 : Array Oper := (Try.f12.body.bind (regionOf 5)).getD #[]
noncomputable def opsBk6 : Array Oper := (Try.f12.body.bind (regionOf 6)).getD #[]
noncomputable def opsBk7 : Array Oper := (Try.f12.body.bind (regionOf 7)).getD #[]
noncomputable def opsBk8 : Array Oper := (Try.f12.body.bind (regionOf 8)).getD #[]
noncomputable def opsBk9 : Array Oper := (Try.f12.body.bind (regionOf 9)).getD #[]
noncomputable def opsBk10 : Array Oper := (Try.f12.body.bind (regionOf 10)).getD #[]
noncomputable def opsBk11 : Array Oper := (Try.f12.body.bind (regionOf 11)).getD #[]
noncomputable def opsBk12 : Array Oper := (Try.f12.body.bind (regionOf 12)).getD #[]
noncomputable def opsBk13 : Array Oper := (Try.f12.body.bind (regionOf 13)).getD #[]
noncomputable def opsBk14 : Array Oper := (Try.f12.body.bind (regionOf 14)).getD #[]
noncomputable def opsBk15 : Array Oper := (Try.f12.body.bind (regionOf 15)).getD #[]
noncomputable def bk_l : Code := (.seq (.seq (.region 8 opsBk8 false) (.cond (.tmp 51) .skip (.exit 0))) (.seq (.block 1 (.seq (.region 10 opsBk10 true) (.cond (.tmp 69) (.seq (.region 11 opsBk11 false) .ret) .skip))) (.region 9 opsBk9 false)))
noncomputable def bk_e : Code := (.seq (.region 15 opsBk15 false) .ret)
noncomputable def bk_d : Code := (.seq (.region 13 opsBk13 false) (.seq (.region 14 opsBk14 false) bk_e))
noncomputable def bk_c : Code := (.seq (.region 12 opsBk12 false) bk_d)
noncomputable def bk_b : Code := (.seq (.seq (.region 7 opsBk7 false) (.block 0 (.loop bk_l))) bk_c)
noncomputable def code12 : Code := (.seq (.region 0 opsBk0 false) (.seq (.seq (.region 1 opsBk1 false) (.cond (.tmp 20) (.seq (.region 2 opsBk2 false) .ret) .skip)) (.seq (.region 3 opsBk3 false) (.seq (.region 4 opsBk4 false) (.seq (.seq (.region 5 opsBk5 false) (.cond (.tmp 47) (.seq (.region 6 opsBk6 false) .ret) .skip)) bk_b)))))
theorem body12 : Try.f12.body = some code12 := by kernel_rfl
section
attribute [local irreducible] AnyK StepK
variable {s : Ser} {W : World}
set_option maxHeartbeats 800000 in
theorem bk_e_any {b1 c c7 c12 c14 c16 : Nat} {A A7 A12 A14 A16 : Option Addr} {J : List (List UInt8)} {a : Act} {W8 : World} (hf : faultS s = 0) (t : TornF s J) (hJl : (linesL J).length = (linesL (fileL s)).length)
    (w8 : Whole W8 b1 24 #[.int .i64 s.width, .int .i64 s.step, .slice A s.rd.length c]) (hs : IntsAt W8 W8.heap.size A s.rd) (hc12 : (linesL J).length ≤ c12) (hy12 : BytesAt W8 W8.heap.size A12 (linesL J)) (hy14 : BytesAt W8 W8.heap.size A14 (linesL J)) (hy16 : BytesAt W8 W8.heap.size A16 (linesL J))
    (hz : a.tmps.size = 137) (hd_a : a.defers = []) (t3 : a.eval (.tmp 3) = ptr b1) (t7 : a.eval (.tmp 7) = .slice A7 (linesL (fileL s)).length c7) (t12 : a.eval (.tmp 12) = .slice A12 (linesL J).length c12) (t13 : a.eval (.tmp 13) = .int .i64 0) (t14 : a.eval (.tmp 14) = .slice A14 (linesL J).length c14) (t15 : a.eval (.tmp 15) = .int .i64 0) (t16 : a.eval (.tmp 16) = .slice A16 (linesL J).length c16) (t17 : a.eval (.tmp 17) = .int .i64 0) (hB : Below W.heap.size W W8) :
    bk_e.wpIn Fence.wide 5 Try.prog (bodyPost Try.prog Try.f12 (TP W true)) a W8 := by
  have n := serN hf
  have hlen := n.len
  have hTb := t.bytes
  have hTl := t.len
  have hfit := fits_torn hf t
  unfold bk_e
  refine wpIn_seq (region_p 41 ?_)
  intro K hK
  refine ListK.move (i := 0) (v := .int .i64 0) rfl (by simp [t13]) ?_
  refine ListK.bin (i := 1) (u := .int .i64 0) (u' := .int .i64 0) (v := .bool true) rfl (by simp [hz]) (by simp) (eql27T rfl _) ?_
  refine ListK.move (i := 2) (v := .bool true) rfl (by simp [hz]) ?_
  refine ListK.move (i := 3) (v := .int .i64 0) rfl (by simp [t15]) ?_ (hw := wanted_g (e := 99) (b' := true) rfl (by simp [hz]) rfl)
  refine ListK.bin (i := 4) (u := .int .i64 0) (u' := .int .i64 0) (v := .bool true) rfl (by simp [hz]) (by simp) (eql27T rfl _) ?_ (hw := wanted_g (e := 99) (b' := true) rfl (by simp [hz]) rfl)
  refine ListK.pick (i := 5) (b := true) (v := .bool true) rfl (by simp [hz]) (by simp [hz]) ?_
  refine ListK.move (i := 6) (v := .bool true) rfl (by simp [hz]) ?_
  refine ListK.move (i := 7) (v := .int .i64 0) rfl (by simp [t17]) ?_ (hw := wanted_g (e := 103) (b' := true) rfl (by simp [hz]) rfl)
  refine ListK.bin (i := 8) (u := .int .i64 0) (u' := .int .i64 0) (v := .bool true) rfl (by simp [hz]) (by simp) (eql27T rfl _) ?_ (hw := wanted_g (e := 103) (b' := true) rfl (by simp [hz]) rfl)
  refine ListK.pick (i := 9) (b := true) (v := .bool true) rfl (by simp [hz]) (by simp [hz]) ?_
  refine ListK.move (i := 10) (v := .bool true) rfl (by simp [hz]) ?_
  refine ListK.move (i := 11) (v := .slice A12 (linesL J).length c12) rfl (by simp [t12]) ?_ (hw := wanted_g (e := 107) (b' := true) rfl (by simp [hz]) rfl)
  refine ListK.lenW (i := 12) (u := .slice A12 (linesL J).length c12) (v := .int .i64 (linesL J).length) rfl (by simp [hz]) (ln31 _ _ _ _ _) rfl ?_ (hw := wanted_g (e := 107) (b' := true) rfl (by simp [hz]) rfl)
  refine ListK.move (i := 13) (v := .slice A7 (linesL (fileL s)).length c7) rfl (by simp [t7]) ?_ (hw := wanted_g (e := 107) (b' := true) rfl (by simp [hz]) rfl)
  refine ListK.lenW (i := 14) (u := .slice A7 (linesL (fileL s)).length c7) (v := .int .i64 (linesL (fileL s)).length) rfl (by simp [hz]) (ln31 _ _ _ _ _) rfl ?_ (hw := wanted_g (e := 107) (b' := true) rfl (by simp [hz]) rfl)
  refine ListK.bin (i := 15) (u := .int .i64 (linesL J).length) (u' := .int .i64 (linesL (fileL s)).length) (v := .bool true) rfl (by simp [hz]) (by simp [hz]) (eqlT (by rw [hJl]) _) ?_ (hw := wanted_g (e := 107) (b' := true) rfl (by simp [hz]) rfl)
  refine ListK.pick (i := 16) (b := true) (v := .bool true) rfl (by simp [hz]) (by simp [hz]) ?_
  refine ListK.move (i := 17) (v := .bool true) rfl (by simp [hz]) ?_
  refine ListK.move (i := 18) (v := .slice A12 (linesL J).length c12) rfl (by simp [t12]) ?_ (hw := wanted_g (e := 114) (b' := true) rfl (by simp [hz]) rfl)
  refine ListK.conv (i := 19) (u := .slice A12 (linesL J).length c12) (v := strV (linesL J)) rfl (by simp [hz]) (cv319 c12 hy12) ?_ (hw := wanted_g (e := 114) (b' := true) rfl (by simp [hz]) rfl)
  refine ListK.move (i := 20) (v := .slice A14 (linesL J).length c14) rfl (by simp [t14]) ?_ (hw := wanted_g (e := 114) (b' := true) rfl (by simp [hz]) rfl)
  refine ListK.conv (i := 21) (u := .slice A14 (linesL J).length c14) (v := strV (linesL J)) rfl (by simp [hz]) (cv319 c14 hy14) ?_ (hw := wanted_g (e := 114) (b' := true) rfl (by simp [hz]) rfl)
  refine ListK.bin (i := 22) (u := strV (linesL J)) (u' := strV (linesL J)) (v := .bool true) rfl (by simp [hz]) (by simp [hz]) (by rw [← decide_eq_true (rfl : linesL J = linesL J)]; exact eql9n _ _ _) ?_ (hw := wanted_g (e := 114) (b' := true) rfl (by simp [hz]) rfl)
  refine ListK.pick (i := 23) (b := true) (v := .bool true) rfl (by simp [hz]) (by simp [hz]) ?_
  refine ListK.move (i := 24) (v := .bool true) rfl (by simp [hz]) ?_
  refine ListK.move (i := 25) (v := .slice A16 (linesL J).length c16) rfl (by simp [t16]) ?_ (hw := wanted_g (e := 121) (b' := true) rfl (by simp [hz]) rfl)
  refine ListK.conv (i := 26) (u := .slice A16 (linesL J).length c16) (v := strV (linesL J)) rfl (by simp [hz]) (cv319 c16 hy16) ?_ (hw := wanted_g (e := 121) (b' := true) rfl (by simp [hz]) rfl)
  refine ListK.move (i := 27) (v := .slice A12 (linesL J).length c12) rfl (by simp [t12]) ?_ (hw := wanted_g (e := 121) (b' := true) rfl (by simp [hz]) rfl)
  refine ListK.conv (i := 28) (u := .slice A12 (linesL J).length c12) (v := strV (linesL J)) rfl (by simp [hz]) (cv319 c12 hy12) ?_ (hw := wanted_g (e := 121) (b' := true) rfl (by simp [hz]) rfl)
  refine ListK.bin (i := 29) (u := strV (linesL J)) (u' := strV (linesL J)) (v := .bool true) rfl (by simp [hz]) (by simp [hz]) (by rw [← decide_eq_true (rfl : linesL J = linesL J)]; exact eql9n _ _ _) ?_ (hw := wanted_g (e := 121) (b' := true) rfl (by simp [hz]) rfl)
  refine ListK.pick (i := 30) (b := true) (v := .bool true) rfl (by simp [hz]) (by simp [hz]) ?_
  refine ListK.move (i := 31) (v := .bool true) rfl (by simp [hz]) ?_
  refine ListK.move (i := 32) (v := .slice A12 (linesL J).length c12) rfl (by simp [t12]) ?_ (hw := wanted_g (e := 128) (b' := true) rfl (by simp [hz]) rfl)
  refine ListK.load (i := 33) (p := ⟨b1, 0, none⟩) (v := serV s A c) rfl (by simp [t3]) (ld24 ⟨w8.cell 0, w8.cell 1, w8.cell 2⟩) ?_ (hw := wanted_g (e := 128) (b' := true) rfl (by simp [hz]) rfl)
  refine ListK.call (i := 34) (vs := #[serV s A c]) rfl (enters_of Try.func18 (by kernel_rfl) rfl) (by simp [hz]) ((series_any s A c W8 (by omega) hs).mono ?_) (hw := wanted_g (e := 128) (b' := true) rfl (by simp [hz]) rfl)
  rintro _ W9 ⟨A9, c9, rfl, hs9, hb9⟩
  refine ⟨_, rfl, ?_⟩
  refine ListK.call (i := 35) (vs := #[.slice A12 (linesL J).length c12, serV s A9 c9]) rfl (enters_of Try.func31 (by kernel_rfl) rfl) (by simp [hz]) ((fits_any s A9 A12 c9 c12 (linesL J) W9 (by omega) hs9 hc12 (by omega) ((hy12.below hb9 (Nat.le_refl _)).more hb9.size)).mono ?_) (hw := wanted_g (e := 128) (b' := true) rfl (by simp [hz]) rfl)
  rintro _ W10 ⟨rfl, hb10⟩
  rw [hfit]
  refine ⟨_, rfl, ?_⟩
  refine ListK.pick (i := 36) (b := true) (v := .bool true) rfl (by simp [hz]) (by simp [hz]) ?_
  refine ListK.move (i := 37) (v := .bool true) rfl (by simp [hz]) ?_
  refine ListK.call (i := 38) (vs := #[]) rfl (enters_of Try.func16 (by kernel_rfl) rfl) (by simp) ((awake_any W10).mono ?_) (hw := wanted_g (e := 134) (b' := true) rfl (by simp [hz]) rfl)
  rintro _ W11 ⟨rfl, hb11⟩
  refine ⟨_, rfl, ?_⟩
  refine ListK.pick (i := 39) (b := true) (v := .bool true) rfl (by simp [hz]) (by simp [hz]) ?_
  refine ListK.assign (i := 40) (v := .bool true) rfl (by simp [hz]) ?_
  refine ListK.done (hK _ _ (wpIn_ret ?_))
  exact bodyPost_ret (v := .bool true) (res1 Try.results12 (by simp [hz])) (by simp only [defers_put, hd_a]) ⟨rfl, hB.trans ((hb9.trans ((hb10.trans (hb11.mono hb10.size)).mono hb9.size)).mono hB.size)⟩
set_option maxHeartbeats 800000 in
theorem bk_c_any {b1 c c7 cw by_ : Nat} {A A7 Aw : Option Addr} {lw : List Nat} {a : Act} {W1 : World} (hf : faultS s = 0) (hby : by_ < 256) (w1 : Whole W1 b1 24 #[.int .i64 s.width, .int .i64 s.step, .slice A s.rd.length c]) (hs : IntsAt W1 W1.heap.size A s.rd) (hw : WordsAt W1 W1.heap.size Aw lw) (hy7 : BytesAt W1 W1.heap.size A7 (linesL (fileL s)))
    (hz : a.tmps.size = 137) (hd_a : a.defers = []) (t1 : a.eval (.tmp 1) = .slice Aw lw.length cw) (t2 : a.eval (.tmp 2) = .int .u8 (by_ : Int)) (t3 : a.eval (.tmp 3) = ptr b1) (t7 : a.eval (.tmp 7) = .slice A7 (linesL (fileL s)).length c7) (hB : Below W.heap.size W W1) :
    bk_c.wpIn Fence.wide 5 Try.prog (bodyPost Try.prog Try.f12 (TP W true)) a W1 := by
  have n := serN hf
  have hlen := n.len
  have hfl := file_len n
  have hl8 := lines_len8 (fileL s) (fun r hr => (file_ok n hr).1)
  have hhd : hdR s ∈ fileL s := mem_recsTo.2 (.inl rfl)
  obtain ⟨r1, r2⟩ := two_read n (T := fileL s) (U := fileL s) (fun r h => h) (fun r h => h) (List.mem_append_left _ hhd) (by omega) (by omega)
  have hFF : ∀ r, r ∈ fileL s ++ fileL s ↔ r ∈ fileL s := fun r => by simp
  have tJ := join_torn n (L := fileL s ++ fileL s) (fun r h => (hFF r).1 h) ((hFF _).2 hhd)
  have hJl := join_file_len n hFF
  have hgF : ∀ r, r ∈ fileL s ++ fileL s → isGood r = true := fun r hr => (file_ok n ((hFF r).1 hr)).1
  have hfF : Func (fileL s ++ fileL s) := (file_func n).of_sub fun r hr => (hFF r).1 hr
  have hjj := joinR_self hgF hfF
  have hpart : ∀ T : List (List UInt8), (∀ r, r ∈ T → r ∈ fileL s) → joinR (T ++ fileL s) = joinR (fileL s ++ fileL s) := fun T hT => (joinR_same hgF hfF fun r => by
    rw [hFF, List.mem_append]
    exact ⟨fun h => .inr h, fun h => h.elim (hT r) id⟩).symm
  obtain ⟨J, hJ⟩ : ∃ J, joinR (fileL s ++ fileL s) = J := ⟨_, rfl⟩
  rw [hJ] at tJ hJl hjj hpart
  have hJb := tJ.bytes
  have r3 : readC [linesL J, []] = 0 ∧ [linesL J, []].flatMap goods = J := by
    have := two_read n (T := J) (U := []) tJ.sub (fun r h => by cases h) (by simpa using tJ.hd) (by omega) (by simp [linesL])
    simpa [linesL] using this
  unfold bk_c
  obtain ⟨v2, W2, hap2, ob2⟩ := app31_run (c := c7) (ty := 31) (OB.nil W1) hy7 (by simp) (by omega) (by omega)
  replace ob2 : OB W1 v2 (linesL (fileL s)) W2 := ob2
  obtain ⟨A2, c2, rfl, hc2, hy2⟩ := ob2.bytes
  obtain ⟨v3, W3, hap3, ob3⟩ := app31_run (c := c7) (ty := 31) (OB.nil W2) ((hy7.below ob2.low (Nat.le_refl _)).more ob2.low.size) (by simp) (by omega) (by omega)
  replace ob3 : OB W2 v3 (linesL (fileL s)) W3 := ob3
  obtain ⟨A3, c3, rfl, hc3, hy3⟩ := ob3.bytes
  refine wpIn_seq (region_p 10 ?_)
  intro K hK
  refine ListK.move (i := 0) (v := .slice A7 (linesL (fileL s)).length c7) rfl (by simp [t7]) ?_
  refine ListK.app31 (i := 1) rfl (by simp) (by simp [hz]) hap2 ?_
  refine ListK.move (i := 2) (v := .slice A7 (linesL (fileL s)).length c7) rfl (by simp [t7]) ?_
  refine ListK.app31 (i := 3) rfl (by simp) (by simp [hz]) hap3 ?_
  refine ListK.call (i := 4) (vs := #[.slice A2 (linesL (fileL s)).length c2, .slice A3 (linesL (fileL s)).length c3]) rfl (enters_of Try.func39 (by kernel_rfl) rfl) (by simp [hz]) ((join_any A2 A3 c2 c3 (linesL (fileL s)) (linesL (fileL s)) W3 hc2 (by omega) ((hy2.below ob3.low (Nat.le_refl _)).more ob3.low.size) hc3 (by omega) hy3).mono ?_)
  rintro e W4 ⟨hb4, v12, rfl, _, hv1⟩
  have ob12 := hv1 r1
  rw [r2, hJ] at ob12
  rw [r1]
  obtain ⟨A12, c12, rfl, hc12, hy12⟩ := ob12.bytes
  refine ⟨_, rfl, ?_⟩
  refine ListK.move (i := 5) (v := .tuple #[.slice A12 (linesL J).length c12, .int .i64 0]) rfl (by simp [hz]) ?_
  refine ListK.extract (i := 6) (u := .tuple #[.slice A12 (linesL J).length c12, .int .i64 0]) (v := .slice A12 (linesL J).length c12) rfl (by simp [hz]) (ex0 _ _ _) ?_
  refine ListK.extract (i := 7) (u := .tuple #[.slice A12 (linesL J).length c12, .int .i64 0]) (v := .int .i64 0) rfl (by simp [hz]) (ex1 _ _ _) ?_
  refine ListK.assign (i := 8) (v := .slice A12 (linesL J).length c12) rfl (by simp [hz]) ?_
  refine ListK.assign (i := 9) (v := .int .i64 0) rfl (by simp [hz]) ?_
  refine ListK.done (hK _ _ ?_)
  clear hK K
  have hb14 := ob2.low.trans ((ob3.low.trans (hb4.mono ob3.low.size)).mono ob2.low.size)
  have w4 := w1.below hb14 w1.lt
  have hs4 := (hs.below hb14 (Nat.le_refl _)).more hb14.size
  have hw4 := (hw.below hb14).more hb14.size
  have hy74 := (hy7.below hb14 (Nat.le_refl _)).more hb14.size
  generalize hA : Act.put _ _ _ = a2
  have hz_a2 : a2.tmps.size = 137 := by rw [← hA]; simp only [size_put, hz]
  have u1 : a2.eval (.tmp 1) = .slice Aw lw.length cw := by rw [← hA]; exact (by simp [t1])
  have u2 : a2.eval (.tmp 2) = .int .u8 (by_ : Int) := by rw [← hA]; exact (by simp [t2])
  have u3 : a2.eval (.tmp 3) = .pointer (some ⟨b1, 0, none⟩) := by rw [← hA]; exact (by simp [t3])
  have u7 : a2.eval (.tmp 7) = .slice A7 (linesL (fileL s)).length c7 := by rw [← hA]; exact (by simp [t7])
  have u12 : a2.eval (.tmp 12) = .slice A12 (linesL J).length c12 := by rw [← hA]; exact (by simp [hz])
  have u13 : a2.eval (.tmp 13) = .int .i64 0 := by rw [← hA]; exact (by simp [hz])
  have hd_a2 : a2.defers = [] := by rw [← hA]; simp only [defers_put, hd_a]
  clear hA
  show bk_d.wpIn _ _ _ _ _ _
  unfold bk_d
  refine wpIn_seq (region_p 15 ?_)
  intro K hK
  refine ListK.load (i := 0) (p := ⟨b1, 0, none⟩) (v := serV s A c) rfl (by simp [u3]) (ld24 ⟨w4.cell 0, w4.cell 1, w4.cell 2⟩) ?_
  refine ListK.call (i := 1) (vs := #[serV s A c]) rfl (enters_of Try.func22 (by kernel_rfl) rfl) (by simp [hz_a2]) ((refRecords_any s A c W4 (by omega) hs4).mono ?_)
  rintro _ W5 ⟨v5, rfl, os5⟩
  obtain ⟨A5, c5, rfl, hst5⟩ := os5.strs
  refine ⟨_, rfl, ?_⟩
  refine ListK.move (i := 2) (v := .slice Aw lw.length cw) rfl (by simp [u1]) ?_
  refine ListK.move (i := 3) (v := .int .u8 (by_ : Int)) rfl (by simp [u2]) ?_
  refine ListK.call (i := 4) (vs := #[.slice A5 (fileL s).length c5, .slice Aw lw.length cw, .int .u8 (by_ : Int)]) rfl (enters_of Try.func24 (by kernel_rfl) rfl) (by simp [hz_a2]) ((torn_any A5 Aw c5 cw by_ (fileL s) lw W5 (by omega) hfl.2 hby hst5 ((hw4.below os5.low).more os5.low.size)).mono ?_)
  rintro _ W6 ⟨v6, T, rfl, os6, tn⟩
  obtain ⟨A6, c6, rfl, hst6⟩ := os6.strs
  have tT := tornF n tn
  have hTl := tT.len
  have hTb := tT.bytes
  refine ⟨_, rfl, ?_⟩
  refine ListK.call (i := 5) (vs := #[.slice A6 T.length c6]) rfl (enters_of Try.func21 (by kernel_rfl) rfl) (by simp [hz_a2]) ((refLines_any A6 c6 T (by omega) (by omega) W6 hst6).mono ?_)
  rintro _ W6x ⟨rfl, hWe⟩
  have hWf := hWe.symm
  subst hWf
  refine ⟨_, rfl, ?_⟩
  refine ListK.call (i := 6) (vs := #[strV (linesL T)]) rfl (enters_of Try.func26 (by kernel_rfl) rfl) (by simp [hz_a2]) ((bytes_any (linesL T) (by omega) W6).mono ?_)
  rintro _ W7 ⟨v7, rfl, ob7⟩
  obtain ⟨A7x, c7x, rfl, hc7x, hy7x⟩ := ob7.bytes
  have hb48 := os5.low.trans ((os6.low.trans (ob7.low.mono os6.low.size)).mono os5.low.size)
  obtain ⟨v8, W8, hap8, ob8⟩ := app31_run (c := c7) (ty := 31) (OB.nil W7) ((hy74.below hb48 (Nat.le_refl _)).more hb48.size) (by simp) (by omega) (by omega)
  replace ob8 : OB W7 v8 (linesL (fileL s)) W8 := ob8
  obtain ⟨A8, c8, rfl, hc8, hy8⟩ := ob8.bytes
  refine ⟨_, rfl, ?_⟩
  refine ListK.move (i := 7) (v := .slice A7 (linesL (fileL s)).length c7) rfl (by simp [u7]) ?_
  refine ListK.app31 (i := 8) rfl (by simp) (by simp [hz_a2]) hap8 ?_
  refine ListK.call (i := 9) (vs := #[.slice A7x (linesL T).length c7x, .slice A8 (linesL (fileL s)).length c8]) rfl (enters_of Try.func39 (by kernel_rfl) rfl) (by simp [hz_a2]) ((join_any A7x A8 c7x c8 (linesL T) (linesL (fileL s)) W8 hc7x (by omega) ((hy7x.below ob8.low (Nat.le_refl _)).more ob8.low.size) hc8 (by omega) hy8).mono ?_)
  rintro e W9 ⟨hb9, v14, rfl, _, hv1⟩
  obtain ⟨r4, r5⟩ := two_read n (T := T) (U := fileL s) tT.sub (fun r h => h) (List.mem_append_right _ hhd) (by omega) (by omega)
  have ob14 := hv1 r4
  rw [r5, hpart T tT.sub] at ob14
  rw [r4]
  obtain ⟨A14, c14, rfl, hc14, hy14⟩ := ob14.bytes
  refine ⟨_, rfl, ?_⟩
  refine ListK.move (i := 10) (v := .tuple #[.slice A14 (linesL J).length c14, .int .i64 0]) rfl (by simp [hz_a2]) ?_
  refine ListK.extract (i := 11) (u := .tuple #[.slice A14 (linesL J).length c14, .int .i64 0]) (v := .slice A14 (linesL J).length c14) rfl (by simp [hz_a2]) (ex0 _ _ _) ?_
  refine ListK.extract (i := 12) (u := .tuple #[.slice A14 (linesL J).length c14, .int .i64 0]) (v := .int .i64 0) rfl (by simp [hz_a2]) (ex1 _ _ _) ?_
  refine ListK.assign (i := 13) (v := .slice A14 (linesL J).length c14) rfl (by simp [hz_a2]) ?_
  refine ListK.assign (i := 14) (v := .int .i64 0) rfl (by simp [hz_a2]) ?_
  refine ListK.done (hK _ _ ?_)
  clear hK K
  have hb49 := hb48.trans ((ob8.low.trans (hb9.mono ob8.low.size)).mono hb48.size)
  have w9 := w4.below hb49 w4.lt
  have hs9 := (hs4.below hb49 (Nat.le_refl _)).more hb49.size
  have hy129 := (hy12.below hb49 (Nat.le_refl _)).more hb49.size
  have hB9 := hB.trans ((hb14.trans (hb49.mono hb14.size)).mono hB.size)
  generalize hA : Act.put _ _ _ = a3
  have hz_a3 : a3.tmps.size = 137 := by rw [← hA]; simp only [size_put, hz_a2]
  have v3 : a3.eval (.tmp 3) = .pointer (some ⟨b1, 0, none⟩) := by rw [← hA]; exact (by simp [u3])
  have v7 : a3.eval (.tmp 7) = .slice A7 (linesL (fileL s)).length c7 := by rw [← hA]; exact (by simp [u7])
  have v12 : a3.eval (.tmp 12) = .slice A12 (linesL J).length c12 := by rw [← hA]; exact (by simp [u12])
  have v13 : a3.eval (.tmp 13) = .int .i64 0 := by rw [← hA]; exact (by simp [u13])
  have v14 : a3.eval (.tmp 14) = .slice A14 (linesL J).length c14 := by rw [← hA]; exact (by simp [hz_a2])
  have v15 : a3.eval (.tmp 15) = .int .i64 0 := by rw [← hA]; exact (by simp [hz_a2])
  have hd_a3 : a3.defers = [] := by rw [← hA]; simp only [defers_put, hd_a2]
  clear hA
  obtain ⟨v10, W10, hap10, ob10⟩ := app31_run (c := c12) (ty := 31) (OB.nil W9) hy129 (by simp) (by omega) (by have := tJ.hd; have := List.length_pos_of_mem this; omega)
  replace ob10 : OB W9 v10 (linesL J) W10 := ob10
  obtain ⟨A10, c10, rfl, hc10, hy10⟩ := ob10.bytes
  refine wpIn_seq (region_p 8 ?_)
  intro K hK
  refine ListK.move (i := 0) (v := .slice A12 (linesL J).length c12) rfl (by simp [v12]) ?_
  refine ListK.app31 (i := 1) rfl (by simp) (by simp [hz_a3]) hap10 ?_
  refine ListK.call (i := 2) (vs := #[.slice A10 (linesL J).length c10, .slice none 0 0]) rfl (enters_of Try.func39 (by kernel_rfl) rfl) (by simp [hz_a3]) ((join_any A10 none c10 0 (linesL J) [] W10 hc10 (by omega) hy10 (Nat.le_refl _) (by simp) (fun k x h => by simp at h)).mono ?_)
  rintro e W11 ⟨hb11, v16, rfl, _, hv1⟩
  have ob16 := hv1 r3.1
  rw [r3.2, hjj] at ob16
  rw [r3.1]
  obtain ⟨A16, c16, rfl, hc16, hy16⟩ := ob16.bytes
  refine ⟨_, rfl, ?_⟩
  refine ListK.move (i := 3) (v := .tuple #[.slice A16 (linesL J).length c16, .int .i64 0]) rfl (by simp [hz_a3]) ?_
  refine ListK.extract (i := 4) (u := .tuple #[.slice A16 (linesL J).length c16, .int .i64 0]) (v := .slice A16 (linesL J).length c16) rfl (by simp [hz_a3]) (ex0 _ _ _) ?_
  refine ListK.extract (i := 5) (u := .tuple #[.slice A16 (linesL J).length c16, .int .i64 0]) (v := .int .i64 0) rfl (by simp [hz_a3]) (ex1 _ _ _) ?_
  refine ListK.assign (i := 6) (v := .slice A16 (linesL J).length c16) rfl (by simp [hz_a3]) ?_
  refine ListK.assign (i := 7) (v := .int .i64 0) rfl (by simp [hz_a3]) ?_
  refine ListK.done (hK _ _ ?_)
  clear hK K
  have hb911 := ob10.low.trans (hb11.mono ob10.low.size)
  show bk_e.wpIn _ _ _ _ _ _
  exact bk_e_any (A7 := A7) (c7 := c7) (c14 := c14) (c16 := c16) hf tJ (by rw [hJb, hl8, hJl]) (w9.below hb911 w9.lt) ((hs9.below hb911 (Nat.le_refl _)).more hb911.size) hc12 ((hy129.below hb911 (Nat.le_refl _)).more hb911.size) ((hy14.below hb911 (Nat.le_refl _)).more hb911.size) hy16 (by simp only [size_put, hz_a3]) (by simp only [defers_put, hd_a3]) (by simp [v3]) (by simp [v7]) (by simp [v12]) (by simp [v13]) (by simp [v14]) (by simp [v15]) (by simp [hz_a3]) (by simp [hz_a3]) (hB9.trans (hb911.mono hB9.size))
set_option maxHeartbeats 400000 in
theorem bk_b_any {b1 c c7 cw by_ : Nat} {A A7 Aw : Option Addr} {lw : List Nat} {g1 : Nat} {f1 : Nat → Int} {a : Act} {W6 : World} (hf : faultS s = 0) (hby : by_ < 256)
    (row1 : Row W6 g1 ((hdH s).many * 2) f1) (hf1 : ∀ i, i < (hdH s).many → f1 (i * 2) = rdN s i ∧ f1 (i * 2 + 1) = rdN s i) (w6 : Whole W6 b1 24 #[.int .i64 s.width, .int .i64 s.step, .slice A s.rd.length c]) (hs : IntsAt W6 W6.heap.size A s.rd) (hw : WordsAt W6 W6.heap.size Aw lw) (hy7 : BytesAt W6 W6.heap.size A7 (linesL (fileL s)))
    (hz : a.tmps.size = 137) (hd_a : a.defers = []) (t1 : a.eval (.tmp 1) = .slice Aw lw.length cw) (t2 : a.eval (.tmp 2) = .int .u8 (by_ : Int)) (t3 : a.eval (.tmp 3) = ptr b1) (t7 : a.eval (.tmp 7) = .slice A7 (linesL (fileL s)).length c7) (t9 : a.eval (.tmp 9) = .slice (some ⟨g1, 0, none⟩) (hdH s).many (hdH s).many) (hB : Below W.heap.size W W6) :
    bk_b.wpIn Fence.wide 5 Try.prog (bodyPost Try.prog Try.f12 (TP W true)) a W6 := by
  have n := serN hf
  have hlen := n.len
  have hM : (hdH s).many = s.rd.length := rfl
  unfold bk_b
  refine wpIn_seq (wpIn_seq (region_p 1 ?_))
  intro K hK
  refine ListK.assign (i := 0) (v := .int .i64 0) rfl (by simp) ?_
  refine ListK.done (hK _ _ ?_)
  clear hK K
  generalize hA : Act.put _ _ _ = a3
  have hz_a3 : a3.tmps.size = 137 := by rw [← hA]; simp only [size_put, hz]
  have q1 : a3.eval (.tmp 1) = .slice Aw lw.length cw := by rw [← hA]; exact (by simp [t1])
  have q2 : a3.eval (.tmp 2) = .int .u8 (by_ : Int) := by rw [← hA]; exact (by simp [t2])
  have q3 : a3.eval (.tmp 3) = .pointer (some ⟨b1, 0, none⟩) := by rw [← hA]; exact (by simp [t3])
  have q7 : a3.eval (.tmp 7) = .slice A7 (linesL (fileL s)).length c7 := by rw [← hA]; exact (by simp [t7])
  have q9 : a3.eval (.tmp 9) = .slice (some ⟨g1, 0, none⟩) (hdH s).many (hdH s).many := by rw [← hA]; exact (by simp [t9])
  have q11 : a3.eval (.tmp 11) = .int .i64 0 := by rw [← hA]; exact (by simp [hz])
  have hd_a3 : a3.defers = [] := by rw [← hA]; simp only [defers_put, hd_a]
  clear hA
  refine wpIn_block (wpIn_loop (fun a W' => ∃ k : Nat, Below W6.heap.size W6 W' ∧ k ≤ (hdH s).many ∧ a.tmps.size = 137 ∧ a.defers = [] ∧ a.eval (.tmp 1) = .slice Aw lw.length cw ∧ a.eval (.tmp 2) = .int .u8 (by_ : Int) ∧ a.eval (.tmp 3) = ptr b1 ∧ a.eval (.tmp 7) = .slice A7 (linesL (fileL s)).length c7 ∧ a.eval (.tmp 9) = .slice (some ⟨g1, 0, none⟩) (hdH s).many (hdH s).many ∧ a.eval (.tmp 11) = .int .i64 (k : Int)) (fun a _ => (hdH s).many - (intOf (a.eval (.tmp 11))).toNat)
    ⟨0, Below.refl _ _, by omega, hz_a3, hd_a3, q1, q2, q3, q7, q9, q11⟩ ?_)
  rintro b2 W9 ⟨k, hb9, hkm, hz_b1, hd_b2, s1, s2, s3, s7, s9, s11⟩
  unfold bk_l
  by_cases hlt : k < (hdH s).many
  · skip
    refine wpIn_seq (wpIn_seq (region_p 4 ?_))
    intro K hK
    refine ListK.move (i := 0) (v := .int .i64 (k : Int)) rfl (by simp [s11]) ?_
    refine ListK.move (i := 1) (v := .slice (some ⟨g1, 0, none⟩) (hdH s).many (hdH s).many) rfl (by simp [s9]) ?_
    refine ListK.len (i := 2) (u := .slice (some ⟨g1, 0, none⟩) (hdH s).many (hdH s).many) (v := .int .i64 (hdH s).many) rfl (by simp [hz_b1]) (ln40 _ _ _ _ _) rfl ?_
    refine ListK.bin (i := 3) (u := .int .i64 (k : Int)) (u' := .int .i64 (hdH s).many) (v := .bool true) rfl (by simp [hz_b1]) (by simp [hz_b1]) (lssT3 (by omega) _) ?_
    refine ListK.done (hK _ _ ?_)
    clear hK K
    refine wpIn_cond (t := true) (by simp [hz_b1]) (wpIn_skip ?_)
    generalize hA : Act.put _ _ _ = b3
    have hz_b3 : b3.tmps.size = 137 := by rw [← hA]; simp only [size_put, hz_b1]
    have o1 : b3.eval (.tmp 1) = .slice Aw lw.length cw := by rw [← hA]; exact (by simp [s1])
    have o2 : b3.eval (.tmp 2) = .int .u8 (by_ : Int) := by rw [← hA]; exact (by simp [s2])
    have o3 : b3.eval (.tmp 3) = .pointer (some ⟨b1, 0, none⟩) := by rw [← hA]; exact (by simp [s3])
    have o7 : b3.eval (.tmp 7) = .slice A7 (linesL (fileL s)).length c7 := by rw [← hA]; exact (by simp [s7])
    have o9 : b3.eval (.tmp 9) = .slice (some ⟨g1, 0, none⟩) (hdH s).many (hdH s).many := by rw [← hA]; exact (by simp [s9])
    have o11 : b3.eval (.tmp 11) = .int .i64 (k : Int) := by rw [← hA]; exact (by simp [s11])
    have hd_b3 : b3.defers = [] := by rw [← hA]; simp only [defers_put, hd_b2]
    clear hA
    refine wpIn_seq (wpIn_block ?_)
    have w9 := w6.below hb9 w6.lt
    have r9 := row1.below hb9
    have hs9 := hs.below hb9 (Nat.le_refl _)
    have hks : k < s.rd.length := hlt
    have hx := (n.rd k hks).2
    have c1 := (r9 (k * 2) (by omega)).1
    have c2 := (r9 (k * 2 + 1) (by omega)).1
    rw [(hf1 k hlt).1] at c1
    rw [(hf1 k hlt).2] at c2
    obtain ⟨gb, off, hA, hgb, c3⟩ := hs9 k _ hx
    have hbd := (Below.refl W9.heap.size W9).drew
    have hgr : ∀ w w', (fun w : World => (Whole w b1 24 #[.int .i64 s.width, .int .i64 s.step, .slice A s.rd.length c] ∧ w.cell? ⟨gb, off + k, none⟩ = some (.int .i64 (rdN s k : Int))) ∧ (w.cell? ⟨g1, k * 2, none⟩ = some (.int .i64 (rdN s k : Int)) ∧ w.cell? ⟨g1, k * 2 + 1, none⟩ = some (.int .i64 (rdN s k : Int))) ∧ Below W9.heap.size W9 w) w → Below w.heap.size w w' → (fun w : World => (Whole w b1 24 #[.int .i64 s.width, .int .i64 s.step, .slice A s.rd.length c] ∧ w.cell? ⟨gb, off + k, none⟩ = some (.int .i64 (rdN s k : Int))) ∧ (w.cell? ⟨g1, k * 2, none⟩ = some (.int .i64 (rdN s k : Int)) ∧ w.cell? ⟨g1, k * 2 + 1, none⟩ = some (.int .i64 (rdN s k : Int))) ∧ Below W9.heap.size W9 w) w' := fun w w' h hb => ⟨⟨h.1.1.below hb h.1.1.lt, (hb.cell (block_lt_of_cell h.1.2)).trans h.1.2⟩, ⟨(hb.cell (block_lt_of_cell h.2.1.1)).trans h.2.1.1, (hb.cell (block_lt_of_cell h.2.1.2)).trans h.2.1.2⟩, h.2.2.trans (hb.mono h.2.2.size)⟩
    have hR9 : (fun w : World => (Whole w b1 24 #[.int .i64 s.width, .int .i64 s.step, .slice A s.rd.length c] ∧ w.cell? ⟨gb, off + k, none⟩ = some (.int .i64 (rdN s k : Int))) ∧ (w.cell? ⟨g1, k * 2, none⟩ = some (.int .i64 (rdN s k : Int)) ∧ w.cell? ⟨g1, k * 2 + 1, none⟩ = some (.int .i64 (rdN s k : Int))) ∧ Below W9.heap.size W9 w) W9 := ⟨⟨w9, c3⟩, ⟨c1, c2⟩, Below.refl _ _⟩
    refine wpIn_seq (region_K (KpR (fun w : World => (Whole w b1 24 #[.int .i64 s.width, .int .i64 s.step, .slice A s.rd.length c] ∧ w.cell? ⟨gb, off + k, none⟩ = some (.int .i64 (rdN s k : Int))) ∧ (w.cell? ⟨g1, k * 2, none⟩ = some (.int .i64 (rdN s k : Int)) ∧ w.cell? ⟨g1, k * 2 + 1, none⟩ = some (.int .i64 (rdN s k : Int))) ∧ Below W9.heap.size W9 w) (fun _ => false)) (wideF_plain _) (by kernel_rfl) Try.mixed ?_)
    change AnyK _ _ _ _ 16 (Array.replicate 16 false) _ _
    have hR : (fun w : World => (Whole w b1 24 #[.int .i64 s.width, .int .i64 s.step, .slice A s.rd.length c] ∧ w.cell? ⟨gb, off + k, none⟩ = some (.int .i64 (rdN s k : Int))) ∧ (w.cell? ⟨g1, k * 2, none⟩ = some (.int .i64 (rdN s k : Int)) ∧ w.cell? ⟨g1, k * 2 + 1, none⟩ = some (.int .i64 (rdN s k : Int))) ∧ Below W9.heap.size W9 w) W9.drew := hgr _ _ hR9 hbd
    refine AnyK.move (i := 0) may_o (v := .slice (some ⟨g1, 0, none⟩) (hdH s).many (hdH s).many) (by simp [o9]) hR ?_
    refine AnyK.move (i := 1) may_o (v := .int .i64 (k : Int)) (by simp [o11]) hR ?_
    refine AnyK.index (i := 2) may_o (u := .slice (some ⟨g1, 0, none⟩) (hdH s).many (hdH s).many) (u' := .int .i64 (k : Int)) (v := .pointer (some ⟨g1, k * 2, none⟩)) (by simp [hz_b3]) (by simp [hz_b3]) (fun w => by have := ix40 (b := g1) (o := 0) (c := (hdH s).many) hlt w; rwa [Nat.zero_add] at this) hR ?_
    refine AnyK.load (i := 3) may_o (p := ⟨g1, k * 2, none⟩) (v := .agg #[.int .i64 (rdN s k : Int), .int .i64 (rdN s k : Int)]) (by simp [hz_b3]) (fun w hw => ld45 hw.2.1.1 hw.2.1.2) hR ?_
    refine AnyK.field (i := 4) may_o (u := .pointer (some ⟨b1, 0, none⟩)) (v := .pointer (some ⟨b1, 2, none⟩)) (by simp [o3]) (fun w => fa24_2 w) hR ?_
    refine AnyK.load (i := 5) may_o (p := ⟨b1, 2, none⟩) (v := .slice (some ⟨gb, off, none⟩) s.rd.length c) (by simp [hz_b3]) (fun w hw => ld22 ((hw.1.1.cell 2).trans (by rw [hA]; rfl))) hR ?_
    refine AnyK.move (i := 6) may_o (v := .int .i64 (k : Int)) (by simp [o11]) hR ?_
    refine AnyK.index (i := 7) may_o (u := .slice (some ⟨gb, off, none⟩) s.rd.length c) (u' := .int .i64 (k : Int)) (v := .pointer (some ⟨gb, off + k, none⟩)) (by simp [hz_b3]) (by simp [hz_b3]) (fun w => ix22 hks w) hR ?_
    refine AnyK.load (i := 8) may_o (p := ⟨gb, off + k, none⟩) (v := .int .i64 (rdN s k : Int)) (by simp [hz_b3]) (fun w hw => ld3 hw.1.2) hR ?_
    refine AnyK.field (i := 9) may_o (u := .pointer (some ⟨b1, 0, none⟩)) (v := .pointer (some ⟨b1, 2, none⟩)) (by simp [o3]) (fun w => fa24_2 w) hR ?_
    refine AnyK.load (i := 10) may_o (p := ⟨b1, 2, none⟩) (v := .slice (some ⟨gb, off, none⟩) s.rd.length c) (by simp [hz_b3]) (fun w hw => ld22 ((hw.1.1.cell 2).trans (by rw [hA]; rfl))) hR ?_
    refine AnyK.move (i := 11) may_o (v := .int .i64 (k : Int)) (by simp [o11]) hR ?_
    refine AnyK.index (i := 12) may_o (u := .slice (some ⟨gb, off, none⟩) s.rd.length c) (u' := .int .i64 (k : Int)) (v := .pointer (some ⟨gb, off + k, none⟩)) (by simp [hz_b3]) (by simp [hz_b3]) (fun w => ix22 hks w) hR ?_
    refine AnyK.load (i := 13) may_o (p := ⟨gb, off + k, none⟩) (v := .int .i64 (rdN s k : Int)) (by simp [hz_b3]) (fun w hw => ld3 hw.1.2) hR ?_
    refine AnyK.pick1 (i := 14) (by kernel_rfl) ?_
    refine StepK.call (i := 14) (f := 28) (vs := #[.int .i64 (rdN s k : Int), .int .i64 (rdN s k : Int)]) rfl (enters_of Try.func28 (by kernel_rfl) rfl) rfl (by simp [hz_b3]) ((between_any (rdN s k : Int) (rdN s k : Int) _).mono ?_)
    rintro _ V14 ⟨rfl, hv14⟩
    replace hR : (fun w : World => (Whole w b1 24 #[.int .i64 s.width, .int .i64 s.step, .slice A s.rd.length c] ∧ w.cell? ⟨gb, off + k, none⟩ = some (.int .i64 (rdN s k : Int))) ∧ (w.cell? ⟨g1, k * 2, none⟩ = some (.int .i64 (rdN s k : Int)) ∧ w.cell? ⟨g1, k * 2 + 1, none⟩ = some (.int .i64 (rdN s k : Int))) ∧ Below W9.heap.size W9 w) V14 := hgr _ _ hR hv14
    refine ⟨_, rfl, fun _ _ => hR, ?_⟩
    refine AnyK.bin (i := 15) may_o (u := .agg #[.int .i64 (rdN s k : Int), .int .i64 (rdN s k : Int)]) (u' := .agg #[.int .i64 (rdN s k : Int), .int .i64 (rdN s k : Int)]) (v := .bool false) (by simp [hz_b3]) (by simp [hz_b3]) (fun w => neq45F _ _ w) hR ?_
    refine AnyK.done (by kernel_rfl) ?_
    refine wpIn_cond (t := false) (by simp [hz_b3]) (wpIn_skip ?_)
    generalize hA : Act.put _ _ _ = b4
    have hz_b4 : b4.tmps.size = 137 := by rw [← hA]; simp only [size_put, hz_b3]
    have x1 : b4.eval (.tmp 1) = .slice Aw lw.length cw := by rw [← hA]; exact (by simp [o1])
    have x2 : b4.eval (.tmp 2) = .int .u8 (by_ : Int) := by rw [← hA]; exact (by simp [o2])
    have x3 : b4.eval (.tmp 3) = .pointer (some ⟨b1, 0, none⟩) := by rw [← hA]; exact (by simp [o3])
    have x7 : b4.eval (.tmp 7) = .slice A7 (linesL (fileL s)).length c7 := by rw [← hA]; exact (by simp [o7])
    have x9 : b4.eval (.tmp 9) = .slice (some ⟨g1, 0, none⟩) (hdH s).many (hdH s).many := by rw [← hA]; exact (by simp [o9])
    have x11 : b4.eval (.tmp 11) = .int .i64 (k : Int) := by rw [← hA]; exact (by simp [o11])
    have hd_b4 : b4.defers = [] := by rw [← hA]; simp only [defers_put, hd_b3]
    clear hA
    refine region_p 3 ?_
    intro K hK
    refine ListK.move (i := 0) (v := .int .i64 (k : Int)) rfl (by simp [x11]) ?_
    refine ListK.bin (i := 1) (u := .int .i64 (k : Int)) (u' := .int .i64 1) (v := .int .i64 ((k + 1 : Nat) : Int)) rfl (by simp [hz_b4]) (by simp) (add3 (by omega) (by omega) _) ?_
    refine ListK.assign (i := 2) (v := .int .i64 ((k + 1 : Nat) : Int)) rfl (by simp [hz_b4]) ?_
    refine ListK.done (hK _ _ ?_)
    clear hK K
    refine ⟨⟨k + 1, hb9.trans (hR.2.2.mono hb9.size), by omega, (by simp only [size_put, hz_b4]), (by simp only [defers_put, hd_b4]), (by simp [x1]), (by simp [x2]), (by simp [x3]), (by simp [x7]), (by simp [x9]), (by simp [hz_b4])⟩, ?_⟩
    rw [s11, show (Act.put _ _ _).eval (.tmp 11) = .int .i64 ((k + 1 : Nat) : Int) from (by simp [hz_b4])]
    simp only [intOf]
    omega
  · skip
    refine wpIn_seq (wpIn_seq (region_p 4 ?_))
    intro K hK
    refine ListK.move (i := 0) (v := .int .i64 (k : Int)) rfl (by simp [s11]) ?_
    refine ListK.move (i := 1) (v := .slice (some ⟨g1, 0, none⟩) (hdH s).many (hdH s).many) rfl (by simp [s9]) ?_
    refine ListK.len (i := 2) (u := .slice (some ⟨g1, 0, none⟩) (hdH s).many (hdH s).many) (v := .int .i64 (hdH s).many) rfl (by simp [hz_b1]) (ln40 _ _ _ _ _) rfl ?_
    refine ListK.bin (i := 3) (u := .int .i64 (k : Int)) (u' := .int .i64 (hdH s).many) (v := .bool false) rfl (by simp [hz_b1]) (by simp [hz_b1]) (lssF3 (by omega) _) ?_
    refine ListK.done (hK _ _ ?_)
    clear hK K
    refine wpIn_cond (t := false) (by simp [hz_b1]) (wpIn_exit ?_)
    show bk_c.wpIn _ _ _ _ _ _
    exact bk_c_any (c7 := c7) (cw := cw) (by_ := by_) hf hby (w6.below hb9 w6.lt) ((hs.below hb9 (Nat.le_refl _)).more hb9.size) ((hw.below hb9).more hb9.size) ((hy7.below hb9 (Nat.le_refl _)).more hb9.size) (by simp only [size_put, hz_b1]) (by simp only [defers_put, hd_b2]) (by simp [s1]) (by simp [s2]) (by simp [s3]) (by simp [s7]) (hB.trans (hb9.mono hB.size))
end
set_option maxHeartbeats 400000 in
theorem back_wp (s : Ser) (A Aw : Option Addr) (c cw by_ : Nat) (lw : List Nat) (W : World) (hby : by_ < 256) (hs : IntsAt W W.heap.size A s.rd) (hw : WordsAt W W.heap.size Aw lw) :
    Calls Try.prog 12 #[serV s A c, .slice Aw lw.length cw, .int .u8 (by_ : Int)] W (TP W true) := by
  refine (callsIn_wide (n := 5)).1 (callsIn_of_wp Try.func12 body12 trivial ?_ rfl)
  obtain ⟨a, ha⟩ : ∃ a : Act, a = { tmps := #[serV s A c, .slice Aw lw.length cw, .int .u8 (by_ : Int)] ++ Array.replicate (Try.f12.ntmps - (#[serV s A c, .slice Aw lw.length cw, .int .u8 (by_ : Int)] : Array Value).size) undef, defers := [] } := ⟨_, rfl⟩
  have hsz : a.tmps.size = 137 := by rw [ha]; simp [Try.ntmps12]
  have t0 : a.eval (.tmp 0) = serV s A c := by rw [ha]; simp [Act.eval]
  have t1 : a.eval (.tmp 1) = .slice Aw lw.length cw := by rw [ha]; simp [Act.eval]
  have t2 : a.eval (.tmp 2) = .int .u8 (by_ : Int) := by rw [ha]; simp [Act.eval]
  have hd_a : a.defers = [] := by rw [ha]
  rw [← ha]
  clear ha
  unfold code12
  refine wpIn_seq (region_p 2 ?_)
  intro K hK
  refine ListK.box (i := 0) (u := serV s A c) rfl (by simp [t0]) (bx24 W _ _ _ _ _) ?_
  refine ListK.assign (i := 1) (v := .bool false) rfl (by simp) ?_
  refine ListK.done (hK _ _ ?_)
  clear hK K
  replace hs : IntsAt (W.alloc (.cells #[.int .i64 s.width, .int .i64 s.step, .slice A s.rd.length c] 24)) W.heap.size A s.rd := hs.below ((Below.refl W.heap.size W).alloc (Nat.le_refl _) _) (Nat.le_refl _)
  replace hw : WordsAt (W.alloc (.cells #[.int .i64 s.width, .int .i64 s.step, .slice A s.rd.length c] 24)) W.heap.size Aw lw := hw.below ((Below.refl W.heap.size W).alloc (Nat.le_refl _) _)
  have w1 := Whole.new W 24 #[.int .i64 s.width, .int .i64 s.step, .slice A s.rd.length c]
  have hb_b1 : Below W.heap.size W (W.alloc (.cells #[.int .i64 s.width, .int .i64 s.step, .slice A s.rd.length c] 24)) := (Below.refl _ W).alloc (Nat.le_refl _) _
  have hB := hb_b1
  generalize hq_b1 : W.heap.size = b1 at *
  generalize W.alloc (.cells #[.int .i64 s.width, .int .i64 s.step, .slice A s.rd.length c] 24) = W1 at *
  have hsz1 := hB.size
  replace hs := hs.more (show b1 ≤ W1.heap.size by omega)
  replace hw := hw.more (show b1 ≤ W1.heap.size by omega)
  generalize hA : Act.put _ _ _ = a1
  have hz_a1 : a1.tmps.size = 137 := by rw [← hA]; simp only [size_put, hsz]
  have u1 : a1.eval (.tmp 1) = .slice Aw lw.length cw := by rw [← hA]; exact (by simp [t1])
  have u2 : a1.eval (.tmp 2) = .int .u8 (by_ : Int) := by rw [← hA]; exact (by simp [t2])
  have u3 : a1.eval (.tmp 3) = .pointer (some ⟨b1, 0, none⟩) := by rw [← hA]; exact (by simp [hsz])
  have hd_a1 : a1.defers = [] := by rw [← hA]; simp only [defers_put, hd_a]
  clear hA
  have hrd := ready_any s A c W1 hs
  cases hrb : readyB s
  · rw [hrb] at hrd
    refine wpIn_seq (wpIn_seq (region_p 3 ?_))
    intro K hK
    refine ListK.load (i := 0) (p := ⟨b1, 0, none⟩) (v := serV s A c) rfl (by simp [u3]) (ld24 ⟨w1.cell 0, w1.cell 1, w1.cell 2⟩) ?_
    refine ListK.call (i := 1) (vs := #[serV s A c]) rfl (enters_of Try.func23 (by kernel_rfl) rfl) (by simp [hz_a1]) ((hrd).mono ?_)
    rintro _ W2 ⟨rfl, hb2⟩
    refine ⟨_, rfl, ?_⟩
    refine ListK.un (i := 2) (u := .bool false) (v := .bool true) rfl (by simp [hz_a1]) (not4 _ _) ?_
    refine ListK.done (hK _ _ ?_)
    clear hK K
    refine wpIn_cond (t := true) (by simp [hz_a1]) ?_
    refine wpIn_seq (region_p 2 ?_)
    intro K hK
    refine ListK.call (i := 0) (vs := #[]) rfl (enters_of Try.func16 (by kernel_rfl) rfl) (by simp) ((awake_any W2).mono ?_)
    rintro _ W3 ⟨rfl, hb3⟩
    refine ⟨_, rfl, ?_⟩
    refine ListK.assign (i := 1) (v := .bool true) rfl (by simp [hz_a1]) ?_
    refine ListK.done (hK _ _ (wpIn_ret ?_))
    refine bodyPost_ret (v := .bool true) (res1 Try.results12 (by simp [hz_a1])) (by simp only [defers_put, hd_a1]) ⟨rfl, ?_⟩
    rw [hq_b1]
    exact (hB.trans (hb2.mono (by omega))).trans (hb3.mono (by have := hb2.size; omega))
  rw [hrb] at hrd
  have hrb2 : s.rd.length ≤ 45 ∧ faultS s = 0 := by simpa [readyB] using hrb
  have n := serN hrb2.2
  have hfl := file_len n
  refine wpIn_seq (wpIn_seq (region_p 3 ?_))
  intro K hK
  refine ListK.load (i := 0) (p := ⟨b1, 0, none⟩) (v := serV s A c) rfl (by simp [u3]) (ld24 ⟨w1.cell 0, w1.cell 1, w1.cell 2⟩) ?_
  refine ListK.call (i := 1) (vs := #[serV s A c]) rfl (enters_of Try.func23 (by kernel_rfl) rfl) (by simp [hz_a1]) ((hrd).mono ?_)
  rintro _ W2 ⟨rfl, hb2⟩
  refine ⟨_, rfl, ?_⟩
  refine ListK.un (i := 2) (u := .bool true) (v := .bool false) rfl (by simp [hz_a1]) (not4 _ _) ?_
  refine ListK.done (hK _ _ ?_)
  clear hK K
  refine wpIn_cond (t := false) (by simp [hz_a1]) (wpIn_skip ?_)
  generalize hA : Act.put _ _ _ = a2
  have hz_a2 : a2.tmps.size = 137 := by rw [← hA]; simp only [size_put, hz_a1]
  have v1 : a2.eval (.tmp 1) = .slice Aw lw.length cw := by rw [← hA]; exact (by simp [u1])
  have v2 : a2.eval (.tmp 2) = .int .u8 (by_ : Int) := by rw [← hA]; exact (by simp [u2])
  have v3 : a2.eval (.tmp 3) = .pointer (some ⟨b1, 0, none⟩) := by rw [← hA]; exact (by simp [u3])
  have hd_a2 : a2.defers = [] := by rw [← hA]; simp only [defers_put, hd_a1]
  clear hA
  have w2 := w1.below hb2 w1.lt
  have hs2 := (hs.below hb2 (Nat.le_refl _)).more hb2.size
  have hw2 := (hw.below hb2).more hb2.size
  have hB2 := hB.trans (hb2.mono (by omega))
  have hz2 := hB2.size
  rw [← hq_b1] at hB2
  have hl8 := lines_len8 (fileL s) (fun r hr => (file_ok n hr).1)
  have hhd : hdR s ∈ fileL s := mem_recsTo.2 (.inl rfl)
  refine wpIn_seq (region_p 8 ?_)
  intro K hK
  refine ListK.load (i := 0) (p := ⟨b1, 0, none⟩) (v := serV s A c) rfl (by simp [v3]) (ld24 ⟨w2.cell 0, w2.cell 1, w2.cell 2⟩) ?_
  refine ListK.call (i := 1) (vs := #[serV s A c]) rfl (enters_of Try.func18 (by kernel_rfl) rfl) (by simp [hz_a2]) ((series_any s A c W2 (by omega) hs2).mono ?_)
  rintro _ W3 ⟨A3, c3, rfl, hs3, hb3⟩
  refine ⟨_, rfl, ?_⟩
  refine ListK.call (i := 2) (vs := #[serV s A3 c3]) rfl (enters_of Try.func19 (by kernel_rfl) rfl) (by simp [hz_a2]) ((write_any s A3 c3 W3 (by omega) hs3).mono ?_)
  rintro _ W4 ⟨v4, rfl, ob4⟩
  rw [if_pos hrb2.2] at ob4
  rw [hrb2.2]
  obtain ⟨A4, c4, rfl, hc4, hy4⟩ := ob4.bytes
  refine ⟨_, rfl, ?_⟩
  refine ListK.move (i := 3) (v := .tuple #[.slice A4 (linesL (fileL s)).length c4, .int .i64 0]) rfl (by simp [hz_a2]) ?_
  refine ListK.extract (i := 4) (u := .tuple #[.slice A4 (linesL (fileL s)).length c4, .int .i64 0]) (v := .slice A4 (linesL (fileL s)).length c4) rfl (by simp [hz_a2]) (ex0 _ _ _) ?_
  refine ListK.extract (i := 5) (u := .tuple #[.slice A4 (linesL (fileL s)).length c4, .int .i64 0]) (v := .int .i64 0) rfl (by simp [hz_a2]) (ex1 _ _ _) ?_
  refine ListK.assign (i := 6) (v := .slice A4 (linesL (fileL s)).length c4) rfl (by simp [hz_a2]) ?_
  refine ListK.assign (i := 7) (v := .int .i64 0) rfl (by simp [hz_a2]) ?_
  refine ListK.done (hK _ _ ?_)
  clear hK K
  have hb24 := hb3.trans (ob4.low.mono hb3.size)
  have hB4 := hB2.trans (hb24.mono hB2.size)
  generalize hA : Act.put _ _ _ = a3
  have hz_a3 : a3.tmps.size = 137 := by rw [← hA]; simp only [size_put, hz_a2]
  have q1 : a3.eval (.tmp 1) = .slice Aw lw.length cw := by rw [← hA]; exact (by simp [v1])
  have q2 : a3.eval (.tmp 2) = .int .u8 (by_ : Int) := by rw [← hA]; exact (by simp [v2])
  have q3 : a3.eval (.tmp 3) = .pointer (some ⟨b1, 0, none⟩) := by rw [← hA]; exact (by simp [v3])
  have q7 : a3.eval (.tmp 7) = .slice A4 (linesL (fileL s)).length c4 := by rw [← hA]; exact (by simp [hz_a2])
  have q8 : a3.eval (.tmp 8) = .int .i64 0 := by rw [← hA]; exact (by simp [hz_a2])
  have hd_a3 : a3.defers = [] := by rw [← hA]; simp only [defers_put, hd_a2]
  clear hA
  obtain ⟨v5, W5, hap5, ob5⟩ := app31_run (c := c4) (ty := 31) (OB.nil W4) hy4 (by simp) (by omega) (by omega)
  replace ob5 : OB W4 v5 (linesL (fileL s)) W5 := ob5
  obtain ⟨A5, c5, rfl, hc5, hy5⟩ := ob5.bytes
  have h0 := mend_torn n (T := fileL s) (fun r h => h) hhd (by omega)
  obtain ⟨m, _, hmm, hmR, _, hrm⟩ := read_torn n (T := fileL s) (fun r h => h) hhd (by omega)
  refine wpIn_seq (region_p 8 ?_)
  intro K hK
  refine ListK.move (i := 0) (v := .slice A4 (linesL (fileL s)).length c4) rfl (by simp [q7]) ?_
  refine ListK.app31 (i := 1) rfl (by simp) (by simp [hz_a3]) hap5 ?_
  refine ListK.call (i := 2) (vs := #[.slice A5 (linesL (fileL s)).length c5]) rfl (enters_of Try.func25 (by kernel_rfl) rfl) (by simp [hz_a3]) ((mendX_any A5 (linesL (fileL s)) c5 W5 hc5 (by omega) hy5).mono ?_)
  rintro e W6 hmp
  obtain ⟨hb6, B6, n6, d6, rfl, hx6, hm6⟩ := hmp
  refine ⟨_, rfl, ?_⟩
  refine ListK.move (i := 3) (v := .tuple #[.slice B6 n6 d6, .int .i64 (mendC (linesL (fileL s)))]) rfl (by simp [hz_a3]) ?_
  refine ListK.extract (i := 4) (u := .tuple #[.slice B6 n6 d6, .int .i64 (mendC (linesL (fileL s)))]) (v := .slice B6 n6 d6) rfl (by simp [hz_a3]) (ex0 _ _ _) ?_
  refine ListK.extract (i := 5) (u := .tuple #[.slice B6 n6 d6, .int .i64 (mendC (linesL (fileL s)))]) (v := .int .i64 (mendC (linesL (fileL s)))) rfl (by simp [hz_a3]) (ex1 _ _ _) ?_
  refine ListK.assign (i := 6) (v := .slice B6 n6 d6) rfl (by simp [hz_a3]) ?_
  refine ListK.assign (i := 7) (v := .int .i64 (mendC (linesL (fileL s)))) rfl (by simp [hz_a3]) ?_
  refine ListK.done (hK _ _ ?_)
  clear hK K
  obtain ⟨hd1, m1, g1, f1, hr1, _, hh1, rfl, rfl, rfl, row1, hf1⟩ := hm6 h0
  rw [hrm] at hr1
  cases hr1
  rw [h0]
  have hb46 := ob5.low.trans (hb6.mono ob5.low.size)
  have hb26 := hb24.trans (hb46.mono hb24.size)
  have w6 := w2.below hb26 w2.lt
  have hs6 := (hs2.below hb26 (Nat.le_refl _)).more hb26.size
  have hw6 := (hw2.below hb26).more hb26.size
  generalize hA : Act.put _ _ _ = a4
  have hz_a4 : a4.tmps.size = 137 := by rw [← hA]; simp only [size_put, hz_a3]
  have r1 : a4.eval (.tmp 1) = .slice Aw lw.length cw := by rw [← hA]; exact (by simp [q1])
  have r2 : a4.eval (.tmp 2) = .int .u8 (by_ : Int) := by rw [← hA]; exact (by simp [q2])
  have r3 : a4.eval (.tmp 3) = .pointer (some ⟨b1, 0, none⟩) := by rw [← hA]; exact (by simp [q3])
  have r7 : a4.eval (.tmp 7) = .slice A4 (linesL (fileL s)).length c4 := by rw [← hA]; exact (by simp [q7])
  have r8 : a4.eval (.tmp 8) = .int .i64 0 := by rw [← hA]; exact (by simp [q8])
  have r9 : a4.eval (.tmp 9) = .slice (some ⟨g1, 0, none⟩) (hdH s).many (hdH s).many := by rw [← hA]; exact (by simp [hz_a3])
  have r10 : a4.eval (.tmp 10) = .int .i64 0 := by rw [← hA]; exact (by simp [hz_a3])
  have hd_a4 : a4.defers = [] := by rw [← hA]; simp only [defers_put, hd_a3]
  clear hA
  have x2 : W6.cell? ⟨b1, 2, none⟩ = some (.slice A s.rd.length c) := w6.cell 2
  refine wpIn_seq (wpIn_seq (region_p 14 ?_))
  intro K hK
  refine ListK.move (i := 0) (v := .int .i64 0) rfl (by simp [r8]) ?_
  refine ListK.bin (i := 1) (u := .int .i64 0) (u' := .int .i64 0) (v := .bool false) rfl (by simp [hz_a4]) (by simp) (neq27F rfl _) ?_
  refine ListK.move (i := 2) (v := .bool false) rfl (by simp [hz_a4]) ?_
  refine ListK.move (i := 3) (v := .int .i64 0) rfl (by simp [r10]) ?_ (hw := wanted_g (e := 36) (b' := false) rfl (by simp [hz_a4]) rfl)
  refine ListK.bin (i := 4) (u := .int .i64 0) (u' := .int .i64 0) (v := .bool false) rfl (by simp [hz_a4]) (by simp) (neq27F rfl _) ?_ (hw := wanted_g (e := 36) (b' := false) rfl (by simp [hz_a4]) rfl)
  refine ListK.pick (i := 5) (b := false) (v := .bool false) rfl (by simp [hz_a4]) (by simp [hz_a4]) ?_
  refine ListK.move (i := 6) (v := .bool false) rfl (by simp [hz_a4]) ?_
  refine ListK.move (i := 7) (v := .slice (some ⟨g1, 0, none⟩) (hdH s).many (hdH s).many) rfl (by simp [r9]) ?_ (hw := wanted_g (e := 40) (b' := false) rfl (by simp [hz_a4]) rfl)
  refine ListK.lenW (i := 8) (u := .slice (some ⟨g1, 0, none⟩) (hdH s).many (hdH s).many) (v := .int .i64 (hdH s).many) rfl (by simp [hz_a4]) (ln40 _ _ _ _ _) rfl ?_ (hw := wanted_g (e := 40) (b' := false) rfl (by simp [hz_a4]) rfl)
  refine ListK.field (i := 9) (u := .pointer (some ⟨b1, 0, none⟩)) (v := .pointer (some ⟨b1, 2, none⟩)) rfl (by simp [r3]) (fa24_2 _) ?_ (hw := wanted_g (e := 40) (b' := false) rfl (by simp [hz_a4]) rfl)
  refine ListK.load (i := 10) (p := ⟨b1, 2, none⟩) (v := .slice A s.rd.length c) rfl (by simp [hz_a4]) (ld22 (x2)) ?_ (hw := wanted_g (e := 40) (b' := false) rfl (by simp [hz_a4]) rfl)
  refine ListK.lenW (i := 11) (u := .slice A s.rd.length c) (v := .int .i64 s.rd.length) rfl (by simp [hz_a4]) (ln22 _ _ _ _ _) rfl ?_ (hw := wanted_g (e := 40) (b' := false) rfl (by simp [hz_a4]) rfl)
  refine ListK.bin (i := 12) (u := .int .i64 (hdH s).many) (u' := .int .i64 s.rd.length) (v := .bool false) rfl (by simp [hz_a4]) (by simp [hz_a4]) (neqF rfl _) ?_ (hw := wanted_g (e := 40) (b' := false) rfl (by simp [hz_a4]) rfl)
  refine ListK.pick (i := 13) (b := false) (v := .bool false) rfl (by simp [hz_a4]) (by simp [hz_a4]) ?_
  refine ListK.done (hK _ _ ?_)
  clear hK K
  refine wpIn_cond (t := false) (by simp [hz_a4]) (wpIn_skip ?_)
  show bk_b.wpIn _ _ _ _ _ _
  exact bk_b_any (c7 := c4) (cw := cw) hrb2.2 hby row1 (fun i hi => ⟨(hf1 i hi).1.trans (all_known n hmR (fun r hr => (hmm r).2 hr) hi).1, (hf1 i hi).2.trans (all_known n hmR (fun r hr => (hmm r).2 hr) hi).2⟩) w6 hs6 hw6 ((hy4.below hb46 (Nat.le_refl _)).more hb46.size) (by simp only [size_put, hz_a4]) (by simp only [defers_put, hd_a4]) (by simp [r1]) (by simp [r2]) (by simp [r3]) (by simp [r7]) (by simp [r9]) (hB4.trans (hb46.mono hB4.size))
end Go.Proofs.YtmdlmmfbcnkanaaR
