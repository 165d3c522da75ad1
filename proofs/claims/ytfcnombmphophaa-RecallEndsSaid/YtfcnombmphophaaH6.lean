/- Texts for the laws of package recall, part 6: contracts of the program's functions, each for every input that its words name. -/
import Derived.Test.YtfcnombmphophaaH5
import Derived.ChangeOld

set_option linter.unusedVariables false
set_option maxRecDepth 10000

namespace Go.Proofs.Ytfcnombmphophaa
open Go.RowKit Go.Shelf
section
variable {o t dy : Int} {A1 : Option Addr} {c1 p6 p8 i : Nat} {vs vo vd : Value} {l : List Sale} {ds : List Int} {ws : List Nat} {a1 : Act} {W Wb W1 : World} {Q : Exit → Act → World → Prop}
theorem tr6 (hi : i < 8) (hf : TrG o A1 ws.length c1 p6 p8 vo vd dy i a1) (hQ : ∀ a', TrG o A1 ws.length c1 p6 p8 vo vd dy (i + 1) a' → Q .normal a' W) : (Code.region 6 opsTy6 false).wpIn Fence.wide 5 Try.prog Q a1 W := by
  obtain ⟨hz_a1, hd_a1, u0, u2, u6, u8, u9, u10, u11, u12⟩ := hf
  refine region_p 3 ?_
  intro K hK
  refine ListK.move (i := 0) (v := .int .i64 i) rfl (by simp [u12]) ?_
  refine ListK.bin (i := 1) (u := .int .i64 i) (u' := .int .i64 1) (v := .int .i64 (i + 1)) rfl (by simp [hz_a1]) (by simp) (add3 (by omega) (by omega) _) ?_
  refine ListK.assign (i := 2) (v := .int .i64 ((i + 1 : Nat) : Int)) rfl (by simp [hz_a1]) ?_
  skip
  exact ListK.done (hK _ _ (hQ _ ⟨(by simp only [size_put, hz_a1]), (by simp only [defers_put, hd_a1]), (by simp [u0]), (by simp [u2]), (by simp [u6]), (by simp [u8]), (by simp [u9]), (by simp [u10]), (by simp [u11]), (by simp [hz_a1])⟩))
set_option maxHeartbeats 4000000 in
theorem tr7 (hi8 : i < 8) (hiw : i < ws.length) (hw : WordsAt W W.heap.size A1 ws) (hI : TrI o t i (l, ds, dy)) (hWb : Wb.heap.size = p8) (hf : TrG o A1 ws.length c1 p6 p8 vo vd dy i a1) (hk : TrK W p6 p8 o t vs l W1) (hr : RM Wb vo vd (upTo l.length) ds W1)
    (hQ1 : ∀ a' W' vs' vo' vd', TrG o A1 ws.length c1 p6 p8 vo' vd' (trStep o t (l, ds, dy) ws[i]).2.2 i a' → TrK W p6 p8 o t vs' (trStep o t (l, ds, dy) ws[i]).1 W' → RM Wb vo' vd' (upTo (trStep o t (l, ds, dy) ws[i]).1.length) (trStep o t (l, ds, dy) ws[i]).2.1 W' → Q .normal a' W')
    (hQ2 : ∀ a' W' vs' vo' vd', TrG o A1 ws.length c1 p6 p8 vo' vd' (trStep o t (l, ds, dy) ws[i]).2.2 i a' → TrK W p6 p8 o t vs' (trStep o t (l, ds, dy) ws[i]).1 W' → RM Wb vo' vd' (upTo (trStep o t (l, ds, dy) ws[i]).1.length) (trStep o t (l, ds, dy) ws[i]).2.1 W' → Q (.exit 1) a' W') :
    (Code.seq (.region 7 opsTy7 false) (.seq (.region 8 opsTr8 true) (.seq (.region 9 opsTy9 false) (.seq (Code.seq (.region 10 opsTy10 false) (.block 2 (.loop (.seq (.seq (.region 11 opsTy11 false) (.cond (.tmp 48) .skip (.exit 2))) (.seq (.block 3 (.region 13 opsTy13 false)) (.region 12 opsTy12 false)))))) (.seq (.region 14 opsTy14 false) (.seq (.seq (.region 15 opsTy15 false) (.cond (.tmp 65) (.exit 1) .skip)) (.seq (.region 16 opsTy16 false) (.seq (.region 17 opsTr17 true) (.region 18 opsTy18 false))))))))).wpIn Fence.wide 5 Try.prog Q a1 W1 := by
  obtain ⟨hz_a1, hd_a1, u0, u2, u6, u8, u9, u10, u11, u12⟩ := hf
  have hv := hI.valid (by omega)
  have hl8 : l.length ≤ 8 := hv.len
  have ho1 := hv.o1
  have ho6 := hv.o6
  have hT0 := hv.t0
  have hT1 := hv.t1
  have hm : ∀ s, s ∈ l → 0 ≤ s.many ∧ s.many ≤ 1000 := fun s hs => by
    have := saleOk_facts (hv.ok s hs)
    omega
  have hday : 0 ≤ dy ∧ dy ≤ 100 := hI.day
  obtain ⟨wd, hwd'⟩ : ∃ wd, ws[i] = wd := ⟨_, rfl⟩
  rw [hwd'] at hQ1 hQ2
  obtain ⟨hwd, b, off, rfl, hbW, hcW⟩ := hw i ws[i] (List.getElem?_eq_getElem hiw)
  rw [hwd'] at hwd hcW
  have hc1 := (hk.low.cell (p := ⟨b, off + i, none⟩) hbW).trans hcW
  refine wpIn_seq (region_p 6 ?_)
  intro K hK
  refine ListK.move (i := 0) (v := .slice (some ⟨b, off, none⟩) ws.length c1) rfl (by simp [u2]) ?_
  refine ListK.move (i := 1) (v := .int .i64 i) rfl (by simp [u12]) ?_
  refine ListK.index (i := 2) (u := .slice (some ⟨b, off, none⟩) ws.length c1) (u' := .int .i64 i) (v := .pointer (some ⟨b, off + i, none⟩)) rfl (by simp [hz_a1]) (by simp [hz_a1]) (ix64 hiw _) ?_
  refine ListK.load (i := 3) (p := ⟨b, off + i, none⟩) (v := .int .u16 wd) rfl (by simp [hz_a1]) (ld63 (hc1)) ?_
  refine ListK.conv (i := 4) (u := .int .u16 wd) (v := .int .i64 wd) rfl (by simp [hz_a1]) (cv63 hwd _) ?_
  refine ListK.assign (i := 5) (v := .int .i64 wd) rfl (by simp [hz_a1]) ?_
  refine ListK.done (hK _ _ ?_)
  clear hK K
  generalize hA : Act.put _ _ _ = a2
  have hz_a2 : a2.tmps.size = 109 := by rw [← hA]; simp only [size_put, hz_a1]
  have v0 : a2.eval (.tmp 0) = .int .i64 o := by rw [← hA]; exact (by simp [u0])
  have v2 : a2.eval (.tmp 2) = .slice (some ⟨b, off, none⟩) ws.length c1 := by rw [← hA]; exact (by simp [u2])
  have v6 : a2.eval (.tmp 6) = .pointer (some ⟨p6, 0, none⟩) := by rw [← hA]; exact (by simp [u6])
  have v8 : a2.eval (.tmp 8) = .pointer (some ⟨p8, 0, none⟩) := by rw [← hA]; exact (by simp [u8])
  have v9 : a2.eval (.tmp 9) = vo := by rw [← hA]; exact (by simp [u9])
  have v10 : a2.eval (.tmp 10) = vd := by rw [← hA]; exact (by simp [u10])
  have v11 : a2.eval (.tmp 11) = .int .i64 dy := by rw [← hA]; exact (by simp [u11])
  have v12 : a2.eval (.tmp 12) = .int .i64 i := by rw [← hA]; exact (by simp [u12])
  have v13 : a2.eval (.tmp 13) = .int .i64 wd := by rw [← hA]; exact (by simp [hz_a1])
  have hd_a2 : a2.defers = [] := by rw [← hA]; simp only [defers_put, hd_a1]
  clear hA
  obtain ⟨fr, hfr⟩ : ∃ f : Int, (wd : Int) % o = f := ⟨_, rfl⟩
  obtain ⟨q8, hq8⟩ : ∃ f : Int, (wd : Int) / 8 = f := ⟨_, rfl⟩
  obtain ⟨to, hto⟩ : ∃ f : Int, q8 % o = f := ⟨_, rfl⟩
  have hfr0 : 0 ≤ fr ∧ fr < o := by
    rw [← hfr]
    exact ⟨Int.emod_nonneg _ (by omega), Int.emod_lt_of_pos _ (by omega)⟩
  refine wpIn_seq (regionTr8 (wideF_plain _) hz_a2 v0 v13 hwd (by omega) hfr hq8 hto ?_)
  intro a3 W3 hz_a3 hd3 hb3 hr3 hw3
  have hd_a3 : a3.defers = [] := hd3.trans hd_a2
  have x0 : a3.eval (.tmp 0) = .int .i64 o := (hr3 0 (by kernel_rfl)).trans v0
  have x2 : a3.eval (.tmp 2) = .slice (some ⟨b, off, none⟩) ws.length c1 := (hr3 2 (by kernel_rfl)).trans v2
  have x6 : a3.eval (.tmp 6) = .pointer (some ⟨p6, 0, none⟩) := (hr3 6 (by kernel_rfl)).trans v6
  have x8 : a3.eval (.tmp 8) = .pointer (some ⟨p8, 0, none⟩) := (hr3 8 (by kernel_rfl)).trans v8
  have x9 : a3.eval (.tmp 9) = vo := (hr3 9 (by kernel_rfl)).trans v9
  have x10 : a3.eval (.tmp 10) = vd := (hr3 10 (by kernel_rfl)).trans v10
  have x11 : a3.eval (.tmp 11) = .int .i64 dy := (hr3 11 (by kernel_rfl)).trans v11
  have x12 : a3.eval (.tmp 12) = .int .i64 i := (hr3 12 (by kernel_rfl)).trans v12
  have x13 : a3.eval (.tmp 13) = .int .i64 wd := (hr3 13 (by kernel_rfl)).trans v13
  have x14 : a3.eval (.tmp 14) = .int .i64 fr := hw3 7 14 (by kernel_rfl)
  have x15 : a3.eval (.tmp 15) = .int .i64 to := hw3 8 15 (by kernel_rfl)
  replace hk := hk.below hb3
  replace hr := hr.below hb3
  clear hr3 hw3 hb3 hc1
  refine wpIn_seq (region_p 1 ?_)
  intro K hK
  refine ListK.assign (i := 0) (v := .slice none 0 0) rfl (by simp) ?_
  refine ListK.done (hK _ _ ?_)
  clear hK K
  generalize hA : Act.put _ _ _ = a4
  have hz_a4 : a4.tmps.size = 109 := by rw [← hA]; simp only [size_put, hz_a3]
  have y0 : a4.eval (.tmp 0) = .int .i64 o := by rw [← hA]; exact (by simp [x0])
  have y2 : a4.eval (.tmp 2) = .slice (some ⟨b, off, none⟩) ws.length c1 := by rw [← hA]; exact (by simp [x2])
  have y6 : a4.eval (.tmp 6) = .pointer (some ⟨p6, 0, none⟩) := by rw [← hA]; exact (by simp [x6])
  have y8 : a4.eval (.tmp 8) = .pointer (some ⟨p8, 0, none⟩) := by rw [← hA]; exact (by simp [x8])
  have y9 : a4.eval (.tmp 9) = vo := by rw [← hA]; exact (by simp [x9])
  have y10 : a4.eval (.tmp 10) = vd := by rw [← hA]; exact (by simp [x10])
  have y11 : a4.eval (.tmp 11) = .int .i64 dy := by rw [← hA]; exact (by simp [x11])
  have y12 : a4.eval (.tmp 12) = .int .i64 i := by rw [← hA]; exact (by simp [x12])
  have y13 : a4.eval (.tmp 13) = .int .i64 wd := by rw [← hA]; exact (by simp [x13])
  have y14 : a4.eval (.tmp 14) = .int .i64 fr := by rw [← hA]; exact (by simp [x14])
  have y15 : a4.eval (.tmp 15) = .int .i64 to := by rw [← hA]; exact (by simp [x15])
  have y16 : a4.eval (.tmp 16) = .slice none 0 0 := by rw [← hA]; exact (by simp [hz_a3])
  have hd_a4 : a4.defers = [] := by rw [← hA]; simp only [defers_put, hd_a3]
  clear hA
  obtain ⟨A, c, e, _⟩ := sales_of_owns73 hk.os
  subst e
  refine wpIn_seq (tr10 (by omega) ⟨hz_a4, hd_a4, y0, y2, y6, y8, y9, y10, y11, y12, y13, y14, y15⟩ y16 hk.k8 fun a5 W5 vn f5 e16 hol => ?_)
  obtain ⟨hz_a5, hd_a5, z0, z2, z6, z8, z9, z10, z11, z12, z13, z14, z15⟩ := f5
  replace hk := hk.below hol.low
  replace hr := hr.below hol.low
  obtain ⟨Ad, cd, rfl, hcd, hid⟩ := hol.ints
  obtain ⟨A', c', e, hs⟩ := sales_of_owns73 hk.os
  cases e
  have hul := upTo_length l.length
  refine wpIn_seq (region_p 5 ?_)
  intro K hK
  refine ListK.load (i := 0) (p := ⟨p8, 0, none⟩) (v := .agg #[.int .i64 o, .int .i64 t, .slice A l.length c]) rfl (by simp [z8]) (ld24 ⟨hk.k8.cell 0, hk.k8.cell 1, hk.k8.cell 2⟩) ?_
  refine ListK.move (i := 1) (v := .slice Ad (upTo l.length).length cd) rfl (by simp [e16]) ?_
  refine ListK.move (i := 2) (v := .int .i64 fr) rfl (by simp [z14]) ?_
  refine ListK.call (i := 3) (vs := #[.agg #[.int .i64 o, .int .i64 t, .slice A l.length c], .slice Ad (upTo l.length).length cd, .int .i64 fr]) rfl (enters_of Try.func69 (by kernel_rfl) rfl) (by simp [hz_a5]) (((stockR_any o t fr A Ad l (upTo l.length) c cd W5 (by omega) (by omega) hT0 hT1 hm (fun d h => by have := upTo_mem h; omega) hs hid)).mono ?_)
  rintro _ W6 ⟨rfl, hb6⟩
  replace hk := hk.below hb6
  replace hr := hr.below hb6
  refine ⟨_, rfl, ?_⟩
  refine ListK.assign (i := 4) (v := .int .i64 (stockR t l (upTo l.length) fr)) rfl (by simp [hz_a5]) ?_
  refine ListK.done (hK _ _ ?_)
  clear hK K
  generalize hA : Act.put _ _ _ = a6
  have hz_a6 : a6.tmps.size = 109 := by rw [← hA]; simp only [size_put, hz_a5]
  have q0 : a6.eval (.tmp 0) = .int .i64 o := by rw [← hA]; exact (by simp [z0])
  have q2 : a6.eval (.tmp 2) = .slice (some ⟨b, off, none⟩) ws.length c1 := by rw [← hA]; exact (by simp [z2])
  have q6 : a6.eval (.tmp 6) = .pointer (some ⟨p6, 0, none⟩) := by rw [← hA]; exact (by simp [z6])
  have q8 : a6.eval (.tmp 8) = .pointer (some ⟨p8, 0, none⟩) := by rw [← hA]; exact (by simp [z8])
  have q9 : a6.eval (.tmp 9) = vo := by rw [← hA]; exact (by simp [z9])
  have q10 : a6.eval (.tmp 10) = vd := by rw [← hA]; exact (by simp [z10])
  have q11 : a6.eval (.tmp 11) = .int .i64 dy := by rw [← hA]; exact (by simp [z11])
  have q12 : a6.eval (.tmp 12) = .int .i64 i := by rw [← hA]; exact (by simp [z12])
  have q13 : a6.eval (.tmp 13) = .int .i64 wd := by rw [← hA]; exact (by simp [z13])
  have q14 : a6.eval (.tmp 14) = .int .i64 fr := by rw [← hA]; exact (by simp [z14])
  have q15 : a6.eval (.tmp 15) = .int .i64 to := by rw [← hA]; exact (by simp [z15])
  have q18 : a6.eval (.tmp 18) = .int .i64 (stockR t l (upTo l.length) fr) := by rw [← hA]; exact (by simp [hz_a5])
  have hd_a6 : a6.defers = [] := by rw [← hA]; simp only [defers_put, hd_a5]
  clear hA
  obtain ⟨hst0, hst1, _⟩ := hI.stock (by omega) hfr0.1 hfr0.2
  change 0 ≤ stockR t l (upTo l.length) fr at hst0
  change stockR t l (upTo l.length) fr ≤ t at hst1
  have hstep : trStep o t (l, ds, dy) wd = if fr = to ∨ stockR t l (upTo l.length) fr = 0 then (l, ds, dy) else (l ++ [⟨fr, to, 1 + (wd : Int) / 256 % stockR t l (upTo l.length) fr, max 0 (min 100 (dy + (wd : Int) / 64 % 4) - (wd : Int) / 512 % 4), min 100 (min 100 (dy + (wd : Int) / 64 % 4) + (wd : Int) / 2048 % 4)⟩], ds ++ [min 100 (dy + (wd : Int) / 64 % 4)], min 100 (dy + (wd : Int) / 64 % 4)) := by
    unfold trStep
    rw [hfr, hq8, hto]
  rw [hstep] at hQ1 hQ2
  clear hstep
  generalize stockR t l (upTo l.length) fr = st at *
  by_cases h1 : fr = to
  · rw [if_pos (.inl h1)] at hQ2
    refine wpIn_seq (wpIn_seq (region_p 7 ?_))
    intro K hK
    refine ListK.move (i := 0) (v := .int .i64 fr) rfl (by simp [q14]) ?_
    refine ListK.move (i := 1) (v := .int .i64 to) rfl (by simp [q15]) ?_
    refine ListK.bin (i := 2) (u := .int .i64 fr) (u' := .int .i64 to) (v := .bool true) rfl (by simp [hz_a6]) (by simp [hz_a6]) (eql3T h1 _) ?_
    refine ListK.move (i := 3) (v := .bool true) rfl (by simp [hz_a6]) ?_
    refine ListK.passG (i := 4) (e := 62) (b' := true) rfl rfl (by simp [hz_a6]) rfl ?_
    refine ListK.passG (i := 5) (e := 62) (b' := true) rfl rfl (by simp [hz_a6]) rfl ?_
    refine ListK.pick (i := 6) (b := true) (v := .bool true) rfl (by simp [hz_a6]) (by simp) ?_
    refine ListK.done (hK _ _ ?_)
    clear hK K
    refine wpIn_cond (t := true) (by simp [hz_a6]) (wpIn_exit ?_)
    exact hQ2 _ _ _ vo vd ⟨(by simp only [size_put, hz_a6]), (by simp only [defers_put, hd_a6]), (by simp [q0]), (by simp [q2]), (by simp [q6]), (by simp [q8]), (by simp [q9]), (by simp [q10]), (by simp [q11]), (by simp [q12])⟩ hk hr
  · by_cases h2 : st = 0
    · rw [if_pos (.inr h2)] at hQ2
      refine wpIn_seq (wpIn_seq (region_p 7 ?_))
      intro K hK
      refine ListK.move (i := 0) (v := .int .i64 fr) rfl (by simp [q14]) ?_
      refine ListK.move (i := 1) (v := .int .i64 to) rfl (by simp [q15]) ?_
      refine ListK.bin (i := 2) (u := .int .i64 fr) (u' := .int .i64 to) (v := .bool false) rfl (by simp [hz_a6]) (by simp [hz_a6]) (eql3F h1 _) ?_
      refine ListK.move (i := 3) (v := .bool false) rfl (by simp [hz_a6]) ?_
      refine ListK.move (i := 4) (v := .int .i64 st) rfl (by simp [q18]) ?_ (hw := wanted_g (e := 62) (b' := false) rfl (by simp [hz_a6]) rfl)
      refine ListK.bin (i := 5) (u := .int .i64 st) (u' := .int .i64 0) (v := .bool true) rfl (by simp [hz_a6]) (by simp) (eql3T h2 _) ?_ (hw := wanted_g (e := 62) (b' := false) rfl (by simp [hz_a6]) rfl)
      refine ListK.pick (i := 6) (b := false) (v := .bool true) rfl (by simp [hz_a6]) (by simp [hz_a6]) ?_
      refine ListK.done (hK _ _ ?_)
      clear hK K
      refine wpIn_cond (t := true) (by simp [hz_a6]) (wpIn_exit ?_)
      exact hQ2 _ _ _ vo vd ⟨(by simp only [size_put, hz_a6]), (by simp only [defers_put, hd_a6]), (by simp [q0]), (by simp [q2]), (by simp [q6]), (by simp [q8]), (by simp [q9]), (by simp [q10]), (by simp [q11]), (by simp [q12])⟩ hk hr
    · rw [if_neg (by rintro (h | h); exact h1 h; exact h2 h)] at hQ1
      refine wpIn_seq (wpIn_seq (region_p 7 ?_))
      intro K hK
      refine ListK.move (i := 0) (v := .int .i64 fr) rfl (by simp [q14]) ?_
      refine ListK.move (i := 1) (v := .int .i64 to) rfl (by simp [q15]) ?_
      refine ListK.bin (i := 2) (u := .int .i64 fr) (u' := .int .i64 to) (v := .bool false) rfl (by simp [hz_a6]) (by simp [hz_a6]) (eql3F h1 _) ?_
      refine ListK.move (i := 3) (v := .bool false) rfl (by simp [hz_a6]) ?_
      refine ListK.move (i := 4) (v := .int .i64 st) rfl (by simp [q18]) ?_ (hw := wanted_g (e := 62) (b' := false) rfl (by simp [hz_a6]) rfl)
      refine ListK.bin (i := 5) (u := .int .i64 st) (u' := .int .i64 0) (v := .bool false) rfl (by simp [hz_a6]) (by simp) (eql3F h2 _) ?_ (hw := wanted_g (e := 62) (b' := false) rfl (by simp [hz_a6]) rfl)
      refine ListK.pick (i := 6) (b := false) (v := .bool false) rfl (by simp [hz_a6]) (by simp [hz_a6]) ?_
      refine ListK.done (hK _ _ ?_)
      clear hK K
      refine wpIn_cond (t := false) (by simp [hz_a6]) (wpIn_skip ?_)
      show (Code.seq _ _).wpIn _ _ _ _ _ _
      generalize hA : Act.put _ _ _ = a7
      have hz_a7 : a7.tmps.size = 109 := by rw [← hA]; simp only [size_put, hz_a6]
      have pp0 : a7.eval (.tmp 0) = .int .i64 o := by rw [← hA]; exact (by simp [q0])
      have pp2 : a7.eval (.tmp 2) = .slice (some ⟨b, off, none⟩) ws.length c1 := by rw [← hA]; exact (by simp [q2])
      have pp6 : a7.eval (.tmp 6) = .pointer (some ⟨p6, 0, none⟩) := by rw [← hA]; exact (by simp [q6])
      have pp8 : a7.eval (.tmp 8) = .pointer (some ⟨p8, 0, none⟩) := by rw [← hA]; exact (by simp [q8])
      have pp9 : a7.eval (.tmp 9) = vo := by rw [← hA]; exact (by simp [q9])
      have pp10 : a7.eval (.tmp 10) = vd := by rw [← hA]; exact (by simp [q10])
      have pp11 : a7.eval (.tmp 11) = .int .i64 dy := by rw [← hA]; exact (by simp [q11])
      have pp12 : a7.eval (.tmp 12) = .int .i64 i := by rw [← hA]; exact (by simp [q12])
      have pp13 : a7.eval (.tmp 13) = .int .i64 wd := by rw [← hA]; exact (by simp [q13])
      have pp14 : a7.eval (.tmp 14) = .int .i64 fr := by rw [← hA]; exact (by simp [q14])
      have pp15 : a7.eval (.tmp 15) = .int .i64 to := by rw [← hA]; exact (by simp [q15])
      have pp18 : a7.eval (.tmp 18) = .int .i64 st := by rw [← hA]; exact (by simp [q18])
      have hd_a7 : a7.defers = [] := by rw [← hA]; simp only [defers_put, hd_a6]
      clear hA
      obtain ⟨q64, hq64⟩ : ∃ f : Int, (wd : Int) / 64 = f := ⟨_, rfl⟩
      obtain ⟨d1, hd1⟩ : ∃ f : Int, q64 % 4 = f := ⟨_, rfl⟩
      obtain ⟨q6, hq6⟩ : ∃ f : Int, (wd : Int) / 256 = f := ⟨_, rfl⟩
      obtain ⟨qm, hqm⟩ : ∃ f : Int, q6 % st = f := ⟨_, rfl⟩
      obtain ⟨q5, hq5⟩ : ∃ f : Int, (wd : Int) / 512 = f := ⟨_, rfl⟩
      obtain ⟨m5, hm5⟩ : ∃ f : Int, q5 % 4 = f := ⟨_, rfl⟩
      obtain ⟨q2, hq2⟩ : ∃ f : Int, (wd : Int) / 2048 = f := ⟨_, rfl⟩
      obtain ⟨m2, hm2⟩ : ∃ f : Int, q2 % 4 = f := ⟨_, rfl⟩
      have hqb : 0 ≤ qm ∧ qm < st := by
        rw [← hqm]
        exact ⟨Int.emod_nonneg _ h2, Int.emod_lt_of_pos _ (by omega)⟩
      rw [hq64, hd1, hq6, hqm, hq5, hm5, hq2, hm2] at hQ1
      refine wpIn_seq (region_p 7 ?_)
      intro K hK
      refine ListK.move (i := 0) (v := .int .i64 dy) rfl (by simp [pp11]) ?_
      refine ListK.move (i := 1) (v := .int .i64 wd) rfl (by simp [pp13]) ?_
      refine ListK.bin (i := 2) (u := .int .i64 wd) (u' := .int .i64 64) (v := .int .i64 q64) rfl (by simp [hz_a7]) (by simp) (quo3r (by omega) (by omega) (by omega) hq64 _) ?_
      refine ListK.bin (i := 3) (u := .int .i64 q64) (u' := .int .i64 4) (v := .int .i64 d1) rfl (by simp [hz_a7]) (by simp) (rem3r (by omega) (by omega) hd1 _) ?_
      refine ListK.bin (i := 4) (u := .int .i64 dy) (u' := .int .i64 d1) (v := .int .i64 (dy + d1)) rfl (by simp [hz_a7]) (by simp [hz_a7]) (add3 (by omega) (by omega) _) ?_
      refine ListK.bi2 (i := 5) (u := .int .i64 (dy + d1)) (v := .int .i64 (min 100 (dy + d1))) rfl (by simp [hz_a7]) (mnc _ _ _ _) ?_
      refine ListK.assign (i := 6) (v := .int .i64 (min 100 (dy + d1))) rfl (by simp [hz_a7]) ?_
      refine ListK.done (hK _ _ ?_)
      clear hK K
      obtain ⟨dn, hdn⟩ : ∃ f : Int, min 100 (dy + d1) = f := ⟨_, rfl⟩
      rw [hdn] at hQ1
      simp only [hdn]
      generalize hA : Act.put _ _ _ = a8
      have hz_a8 : a8.tmps.size = 109 := by rw [← hA]; simp only [size_put, hz_a7]
      have r0 : a8.eval (.tmp 0) = .int .i64 o := by rw [← hA]; exact (by simp [pp0])
      have r2 : a8.eval (.tmp 2) = .slice (some ⟨b, off, none⟩) ws.length c1 := by rw [← hA]; exact (by simp [pp2])
      have r6 : a8.eval (.tmp 6) = .pointer (some ⟨p6, 0, none⟩) := by rw [← hA]; exact (by simp [pp6])
      have r8 : a8.eval (.tmp 8) = .pointer (some ⟨p8, 0, none⟩) := by rw [← hA]; exact (by simp [pp8])
      have r9 : a8.eval (.tmp 9) = vo := by rw [← hA]; exact (by simp [pp9])
      have r10 : a8.eval (.tmp 10) = vd := by rw [← hA]; exact (by simp [pp10])
      have r11 : a8.eval (.tmp 11) = .int .i64 dn := by rw [← hA]; exact (by simp [hz_a7])
      have r12 : a8.eval (.tmp 12) = .int .i64 i := by rw [← hA]; exact (by simp [pp12])
      have r13 : a8.eval (.tmp 13) = .int .i64 wd := by rw [← hA]; exact (by simp [pp13])
      have r14 : a8.eval (.tmp 14) = .int .i64 fr := by rw [← hA]; exact (by simp [pp14])
      have r15 : a8.eval (.tmp 15) = .int .i64 to := by rw [← hA]; exact (by simp [pp15])
      have r18 : a8.eval (.tmp 18) = .int .i64 st := by rw [← hA]; exact (by simp [pp18])
      have hd_a8 : a8.defers = [] := by rw [← hA]; simp only [defers_put, hd_a7]
      clear hA
      refine wpIn_seq (regionTr17 (p8 := p8) (wd := wd) (B := p8 + 1) (dy := dn) (v := .slice A l.length c) (wideF_plain _) hz_a8 r8 r11 r13 r14 r15 r18 (hk.k8.cell 2) hwd ⟨by omega, by omega⟩ (by omega) hq6 hqm hqb hq5 hm5 hq2 hm2 hk.os (by omega) hk.k8.lt (by omega) (hk.k8.frozen 2) ?_)
      intro a9 W9 A9 c9 hBB hsm ho9 hz_a9 hd9 hr9
      have hd_a9 : a9.defers = [] := hd9.trans hd_a8
      have s0 : a9.eval (.tmp 0) = .int .i64 o := (hr9 0 (by omega)).trans r0
      have s2 : a9.eval (.tmp 2) = .slice (some ⟨b, off, none⟩) ws.length c1 := (hr9 2 (by omega)).trans r2
      have s6 : a9.eval (.tmp 6) = .pointer (some ⟨p6, 0, none⟩) := (hr9 6 (by omega)).trans r6
      have s8 : a9.eval (.tmp 8) = .pointer (some ⟨p8, 0, none⟩) := (hr9 8 (by omega)).trans r8
      have s9 : a9.eval (.tmp 9) = vo := (hr9 9 (by omega)).trans r9
      have s10 : a9.eval (.tmp 10) = vd := (hr9 10 (by omega)).trans r10
      have s11 : a9.eval (.tmp 11) = .int .i64 dn := (hr9 11 (by omega)).trans r11
      have s12 : a9.eval (.tmp 12) = .int .i64 i := (hr9 12 (by omega)).trans r12
      have hp8W := hk.k8.lt
      have hp68 := hk.p68
      have hp6W := hk.p6W
      have hW1 := hk.low.size
      have oe := hr.oe
      have os := hr.os
      obtain ⟨sn, hsn⟩ : ∃ s : Sale, (⟨fr, to, 1 + qm, max 0 (dn - m5), min 100 (dn + m2)⟩ : Sale) = s := ⟨_, rfl⟩
      rw [hsn] at hQ1 ho9 ⊢
      have hk9 : TrK W p6 p8 o t (.slice A9 (l ++ [sn]).length c9) (l ++ [sn]) (W9.setCell ⟨p8, 2, none⟩ (.slice A9 (l ++ [sn]).length c9)) := by
        refine ⟨(hk.low.trans (hBB.mono (by omega))).setCell (p := ⟨p8, 2, none⟩) (by show W.heap.size ≤ p8; omega) _, (hk.k6.below hBB (by omega)).far (by show p6 ≠ p8; omega) _, ?_, ho9.kept (grown_set _ _ _) (.inr fun e => by have := (ho9.lt p8 e).1; omega), hp6W, hp68⟩
        have := (hk.k8.below hBB (by omega)).set 2 (.slice A9 (l ++ [sn]).length c9)
        simpa using this
      have hr9' : RM Wb vo vd (upTo l.length) ds (W9.setCell ⟨p8, 2, none⟩ (.slice A9 (l ++ [sn]).length c9)) := by
        have h1 := own_same oe (w' := W9) fun q e => hsm q (oe.lt q e).2 (own_apart oe hk.os (by decide) e)
        have h2 := own_same os (w' := W9) fun q e => hsm q (os.lt q e).2 (own_apart os hk.os (by decide) e)
        have k89 := hk.k8.below hBB (by omega)
        exact ⟨(hr.low.trans (hBB.mono (by omega))).setCell (p := ⟨p8, 2, none⟩) (by show Wb.heap.size ≤ p8; omega) _, h1.kept (grown_set _ _ _) (.inr fun e => own_whole h1 k89 (by decide) e.symm), h2.kept (grown_set _ _ _) (.inr fun e => own_whole h2 k89 (by decide) e.symm), hr.ne⟩
      clear hsm hBB ho9 hr hk oe os hr9 hs hid hol
      generalize W9.setCell ⟨p8, 2, none⟩ (.slice A9 (l ++ [sn]).length c9) = W10 at *
      obtain ⟨⟨Ao, co, e, _, _⟩, _⟩ := hr9'.ri
      subst e
      obtain ⟨ln, hln⟩ : ∃ ln : Int, ((upTo l.length).length : Int) = ln := ⟨_, rfl⟩
      have hal := (Below.refl W10.heap.size W10).alloc (Nat.le_refl _) (.cells #[.int .i64 (upTo l.length).length] 3)
      have rm1 := hr9'.below hal
      have tk1 := hk9.below hal
      have hdsl : ds.length = l.length := hI.days
      refine region_p 11 ?_
      intro K hK
      refine ListK.move (i := 0) (v := .slice Ao (upTo l.length).length co) rfl (by simp [s9]) ?_
      refine ListK.move (i := 1) (v := .slice Ao (upTo l.length).length co) rfl (by simp [s9]) ?_
      refine ListK.len (i := 2) (u := .slice Ao (upTo l.length).length co) (v := .int .i64 (upTo l.length).length) rfl (by simp [hz_a9]) (ln25 _ _ _ _ _) rfl ?_
      refine ListK.bsl (i := 3) (ps := #[(0, .int .i64 (upTo l.length).length)]) (v := .slice (some ⟨W10.heap.size, 0, none⟩) 1 1) rfl (by simp [hz_a9]) (bs25_1 _ _) ?_
      refine ListK.append (i := 4) rfl rm1.oe (by simp [hz_a9]) ⟨W10.heap.size, 0, none⟩ 1 [.int .i64 (upTo l.length).length] (by simp [hz_a9]) rfl (news1 (cell_new1 W10 _ _)) (by simp [Value.oneCell']) (by unfold maxLen; omega) (by omega) rm1.low.size ?_
      intro g1 k1 W11 hown1 hgr1 hat1
      have rm2 := rm1.appE hown1 hgr1 hat1
      have oe1 := rm1.oe
      rw [hWb] at oe1
      have tk2 := tk1.grow oe1 hgr1
      have hal2 := (Below.refl W11.heap.size W11).alloc (Nat.le_refl _) (.cells #[.int .i64 dn] 3)
      have rm3 := rm2.below hal2
      have tk3 := tk2.below hal2
      refine ListK.move (i := 5) (v := vd) rfl (by simp [s10]) ?_
      refine ListK.move (i := 6) (v := .int .i64 dn) rfl (by simp [s11]) ?_
      refine ListK.bsl (i := 7) (ps := #[(0, .int .i64 dn)]) (v := .slice (some ⟨W11.heap.size, 0, none⟩) 1 1) rfl (by simp [hz_a9]) (bs25_1 _ _) ?_
      refine ListK.append (i := 8) rfl rm3.os (by simp [hz_a9]) ⟨W11.heap.size, 0, none⟩ 1 [.int .i64 dn] (by simp [hz_a9]) rfl (news1 (cell_new1 W11 _ _)) (by simp [Value.oneCell']) (by unfold maxLen; omega) (by omega) rm3.low.size ?_
      intro g2 k2 W12 hown2 hgr2 hat2
      have rm4 := rm3.appS hown2 hgr2 hat2
      have os3 := rm3.os
      rw [hWb] at os3
      have tk4 := tk3.grow os3 hgr2
      refine ListK.assign (i := 9) (v := .slice (some ⟨g1, 0, none⟩) ((upTo l.length).length + 1) k1) rfl (by simp [hz_a9]) ?_
      refine ListK.assign (i := 10) (v := .slice (some ⟨g2, 0, none⟩) (ds.length + 1) k2) rfl (by simp [hz_a9]) ?_
      refine ListK.done (hK _ _ ?_)
      refine hQ1 _ _ _ (.slice (some ⟨g1, 0, none⟩) ((upTo l.length).length + 1) k1) (.slice (some ⟨g2, 0, none⟩) (ds.length + 1) k2) ⟨(by simp only [size_put, hz_a9]), (by simp only [defers_put, hd_a9]), (by simp [s0]), (by simp [s2]), (by simp [s6]), (by simp [s8]), (by simp [hz_a9]), (by simp [hz_a9]), (by simp [s11]), (by simp [s12])⟩ tk4 ?_
      have eu : upTo (l ++ [sn]).length = upTo l.length ++ [((upTo l.length).length : Int)] := by
        rw [List.length_append, upTo_length]
        rfl
      show RM Wb _ _ (upTo (l ++ [sn]).length) (ds ++ [dn]) W12
      rw [eu]
      exact rm4
end
end Go.Proofs.Ytfcnombmphophaa
namespace Go.Proofs.Ytfcnombmphophaa
open Go.RowKit Go.Shelf
noncomputable def opsDw0 : Array Oper := (Try.f38.body.bind (regionOf 0)).getD #[]
noncomputable def opsDw1 : Array Oper := (Try.f38.body.bind (regionOf 1)).getD #[]
noncomputable def code38 : Code := (.seq (.region 0 opsDw0 false) (.seq (.region 1 opsDw1 false) .ret))
theorem body38 : Try.f38.body = some code38 := by kernel_rfl
theorem res2t {fn : Func} {i j : Nat} {W : World} {a : Act} {x y : Value} (h : fn.results = #[.tmp i, .tmp j]) (hi : a.eval (.tmp i) = x) (hj : a.eval (.tmp j) = y) : (results fn a.tmps).run Try.prog W = .ok (.tuple #[x, y]) W := by
  have e1 : a.tmps[i]?.getD undef = x := by simpa [Act.eval] using hi
  have e2 : a.tmps[j]?.getD undef = y := by simpa [Act.eval] using hj
  simp only [results, h]
  simp [e1, e2]
theorem res24b {fn : Func} {k b j : Nat} {W : World} {a : Act} {x y z u : Value} (h : fn.results = #[.cell k 24, .tmp j]) (he : a.eval (.tmp k) = .pointer (some ⟨b, 0, none⟩)) (hj : a.eval (.tmp j) = u) (h0 : W.cell? ⟨b, 0, none⟩ = some x) (h1 : W.cell? ⟨b, 1, none⟩ = some y) (h2 : W.cell? ⟨b, 2, none⟩ = some z) :
    (results fn a.tmps).run Try.prog W = .ok (.tuple #[.agg #[x, y, z], u]) W := by
  have he' : a.tmps[k]?.getD undef = .pointer (some ⟨b, 0, none⟩) := by simpa [Act.eval] using he
  have hj' : a.tmps[j]?.getD undef = u := by simpa [Act.eval] using hj
  simp only [results, h]
  simp [he', hj']
  go_simp
theorem drawn_any (no nt : Nat) (W : World) (h1 : no < 256) (h2 : nt < 65536) :
    Calls Try.prog 38 #[.int .u8 no, .int .u16 nt] W fun e w' => e = .returned (.tuple #[.int .i64 (1 + (no : Int) % 6), .int .i64 ((nt : Int) % 1001)]) ∧ Below W.heap.size W w' := by
  refine (callsIn_wide (n := 5)).1 (callsIn_of_wp Try.func38 body38 trivial ?_ rfl)
  obtain ⟨a, ha⟩ : ∃ a : Act, a = { tmps := #[.int .u8 no, .int .u16 nt] ++ Array.replicate (Try.f38.ntmps - (#[.int .u8 no, .int .u16 nt] : Array Value).size) undef, defers := [] } := ⟨_, rfl⟩
  have hsz : a.tmps.size = 13 := by rw [ha]; simp [Try.ntmps38]
  have t0 : a.eval (.tmp 0) = .int .u8 no := by rw [ha]; simp [Act.eval]
  have t1 : a.eval (.tmp 1) = .int .u16 nt := by rw [ha]; simp [Act.eval]
  have hdf : a.defers = [] := by rw [ha]
  rw [← ha]
  clear ha
  unfold code38
  refine wpIn_seq (region_p 2 ?_)
  intro K hK
  refine ListK.assign (i := 0) (v := .int .i64 0) rfl (by simp) ?_
  refine ListK.assign (i := 1) (v := .int .i64 0) rfl (by simp) ?_
  refine ListK.done (hK _ _ ?_)
  clear hK K
  generalize hA : Act.put _ _ _ = a1
  have hz_a1 : a1.tmps.size = 13 := by rw [← hA]; simp only [size_put, hsz]
  have u0 : a1.eval (.tmp 0) = .int .u8 no := by rw [← hA]; exact (by simp [t0])
  have u1 : a1.eval (.tmp 1) = .int .u16 nt := by rw [← hA]; exact (by simp [t1])
  have hd_a1 : a1.defers = [] := by rw [← hA]; simp only [defers_put, hdf]
  clear hA
  refine wpIn_seq (region_p 9 ?_)
  intro K hK
  refine ListK.move (i := 0) (v := .int .u8 no) rfl (by simp [u0]) ?_
  refine ListK.conv (i := 1) (u := .int .u8 no) (v := .int .i64 no) rfl (by simp [hz_a1]) (cvu8 h1 _) ?_
  refine ListK.bin (i := 2) (u := .int .i64 no) (u' := .int .i64 6) (v := .int .i64 ((no : Int) % 6)) rfl (by simp [hz_a1]) (by simp) (rem3r (by omega) (by omega) rfl _) ?_
  refine ListK.bin (i := 3) (u := .int .i64 1) (u' := .int .i64 ((no : Int) % 6)) (v := .int .i64 (1 + (no : Int) % 6)) rfl (by simp) (by simp [hz_a1]) (add3 (by omega) (by omega) _) ?_
  refine ListK.move (i := 4) (v := .int .u16 nt) rfl (by simp [u1]) ?_
  refine ListK.conv (i := 5) (u := .int .u16 nt) (v := .int .i64 nt) rfl (by simp [hz_a1]) (cv63 h2 _) ?_
  refine ListK.bin (i := 6) (u := .int .i64 nt) (u' := .int .i64 1001) (v := .int .i64 ((nt : Int) % 1001)) rfl (by simp [hz_a1]) (by simp) (rem3r (by omega) (by omega) rfl _) ?_
  refine ListK.assign (i := 7) (v := .int .i64 (1 + (no : Int) % 6)) rfl (by simp [hz_a1]) ?_
  refine ListK.assign (i := 8) (v := .int .i64 ((nt : Int) % 1001)) rfl (by simp [hz_a1]) ?_
  refine ListK.done (hK _ _ (wpIn_ret ?_))
  exact bodyPost_ret (v := .tuple #[.int .i64 (1 + (no : Int) % 6), .int .i64 ((nt : Int) % 1001)]) (res2t Try.results38 (by simp [hz_a1]) (by simp [hz_a1])) (by simp only [defers_put, hd_a1]) ⟨rfl, Below.refl _ _⟩
/-- What Truly gives. -/
def TyP (W : World) (o t : Int) (ws : List Nat) : Ending → World → Prop := fun e w' => ∃ i A2 c2 A3 c3, i ≤ 8 ∧ i ≤ ws.length ∧ e = .returned (.tuple #[.agg #[.int .i64 o, .int .i64 t, .slice A2 (truly o t ws i).1.length c2], .slice A3 (truly o t ws i).2.1.length c3]) ∧ SalesAt w' w'.heap.size A2 (truly o t ws i).1 ∧ IntsAt w' w'.heap.size A3 (truly o t ws i).2.1 ∧ Below W.heap.size W w'
theorem own_set {w : World} {B e sz n : Nat} {v u : Value} {xs : List Value} {p : Addr} (h : w.ownsRow B e sz v n xs) (hp : p.block < B) : (w.setCell p u).ownsRow B e sz v n xs :=
  h.kept (grown_set w p u) (.inr fun e => by have := (h.lt p.block e).1; omega)
theorem ints_own {w : World} {B c : Nat} {A : Option Addr} {xs : List Int} (h : w.ownsRow B 3 1 (.slice A xs.length c) xs.length (xs.map (Value.int .i64))) : IntsAt w w.heap.size A xs := by
  intro k x hx
  have hk := (List.getElem?_eq_some_iff.1 hx).1
  rcases h.2 with ⟨e, h0⟩ | ⟨g, cap, cur, e, hb, hg, _⟩
  · omega
  · cases e
    refine ⟨g, 0, rfl, (Array.getElem?_eq_some_iff.1 hg).1, ?_⟩
    rw [Nat.zero_add, h.cellAt k (by omega), List.getElem?_map, hx]
    rfl
set_option maxHeartbeats 4000000 in
theorem truly_any (o t : Int) (A1 : Option Addr) (ws : List Nat) (c1 : Nat) (W : World) (h1 : 1 ≤ o) (h2 : o ≤ 6) (h3 : 0 ≤ t) (h4 : t ≤ 1000) (hw : WordsAt W W.heap.size A1 ws) :
    Calls Try.prog 39 #[.int .i64 o, .int .i64 t, .slice A1 ws.length c1] W (TyP W o t ws) := by
  refine (callsIn_wide (n := 5)).1 (callsIn_of_wp Try.func39 body39 trivial ?_ rfl)
  obtain ⟨a, ha⟩ : ∃ a : Act, a = { tmps := #[.int .i64 o, .int .i64 t, .slice A1 ws.length c1] ++ Array.replicate (Try.f39.ntmps - (#[.int .i64 o, .int .i64 t, .slice A1 ws.length c1] : Array Value).size) undef, defers := [] } := ⟨_, rfl⟩
  have hsz : a.tmps.size = 109 := by rw [ha]; simp [Try.ntmps39]
  have t0 : a.eval (.tmp 0) = .int .i64 o := by rw [ha]; simp [Act.eval]
  have t1 : a.eval (.tmp 1) = .int .i64 t := by rw [ha]; simp [Act.eval]
  have t2 : a.eval (.tmp 2) = .slice A1 ws.length c1 := by rw [ha]; simp [Act.eval]
  have hdf : a.defers = [] := by rw [ha]
  rw [← ha]
  clear ha
  unfold code39
  refine wpIn_seq (region_p 2 ?_)
  intro K hK
  refine ListK.alloc (i := 0) rfl (al24 W) ?_
  refine ListK.assign (i := 1) (v := .slice none 0 0) rfl (by simp) ?_
  refine ListK.done (hK _ _ ?_)
  clear hK K
  obtain ⟨W1, hW1⟩ : ∃ W1, W.alloc (.cells #[.int .i64 0, .int .i64 0, .slice none 0 0] 24) = W1 := ⟨_, rfl⟩
  have hb1 : Below W.heap.size W W1 := by rw [← hW1]; exact (Below.refl _ W).alloc (Nat.le_refl _) _
  have k6 : Whole W1 W.heap.size 24 #[.int .i64 0, .int .i64 0, .slice none 0 0] := by rw [← hW1]; exact Whole.new W 24 _
  rw [hW1]
  obtain ⟨p6, hp6⟩ : ∃ p, W.heap.size = p := ⟨_, rfl⟩
  rw [hp6] at k6
  simp only [hp6]
  generalize hA : Act.put _ _ _ = a1
  have hz_a1 : a1.tmps.size = 109 := by rw [← hA]; simp only [size_put, hsz]
  have u0 : a1.eval (.tmp 0) = .int .i64 o := by rw [← hA]; exact (by simp [t0])
  have u1 : a1.eval (.tmp 1) = .int .i64 t := by rw [← hA]; exact (by simp [t1])
  have u2 : a1.eval (.tmp 2) = .slice A1 ws.length c1 := by rw [← hA]; exact (by simp [t2])
  have u6 : a1.eval (.tmp 6) = .pointer (some ⟨p6, 0, none⟩) := by rw [← hA]; exact (by simp [hsz])
  have hd_a1 : a1.defers = [] := by rw [← hA]; simp only [defers_put, hdf]
  clear hA
  refine wpIn_seq (region_p 5 ?_)
  intro K hK
  refine ListK.move (i := 0) (v := .int .i64 o) rfl (by simp [u0]) ?_
  refine ListK.move (i := 1) (v := .int .i64 t) rfl (by simp [u1]) ?_
  refine ListK.bld (i := 2) (ps := #[(0, .int .i64 o), (1, .int .i64 t)]) (v := .agg #[.int .i64 o, .int .i64 t, .slice none 0 0]) rfl (by simp [hz_a1]) (bd24 _ _ _) ?_
  refine ListK.alloc (i := 3) rfl (al24 W1) ?_
  refine ListK.store (i := 4) (u := .pointer (some ⟨W1.heap.size, 0, none⟩)) (u' := .agg #[.int .i64 o, .int .i64 t, .slice none 0 0]) rfl (by simp [hz_a1]) (by simp [hz_a1]) (st24n W1 o t none 0 0) ?_
  refine ListK.done (hK _ _ ?_)
  clear hK K
  obtain ⟨W2, hW2⟩ : ∃ W2, W1.alloc (.cells #[.int .i64 o, .int .i64 t, .slice none 0 0] 24) = W2 := ⟨_, rfl⟩
  have hb2 : Below W1.heap.size W1 W2 := by rw [← hW2]; exact (Below.refl _ W1).alloc (Nat.le_refl _) _
  have k8 : Whole W2 W1.heap.size 24 #[.int .i64 o, .int .i64 t, .slice none 0 0] := by rw [← hW2]; exact Whole.new W1 24 _
  rw [hW2]
  obtain ⟨p8, hp8⟩ : ∃ p, W1.heap.size = p := ⟨_, rfl⟩
  rw [hp8] at k8
  simp only [hp8]
  have h68 : p6 < p8 := by have := k6.lt; omega
  have tk0 : TrK W p6 p8 o t (.slice none 0 0) [] W2 := ⟨hb1.trans (hb2.mono (by have := hb1.size; omega)), k6.below hb2 k6.lt, k8, World.ownsRow_nil _ _ _ _, by omega, h68⟩
  have rm0 : RM W1 (.slice none 0 0) (.slice none 0 0) (upTo 0) [] W2 := ⟨hb2, World.ownsRow_nil _ _ _ _, World.ownsRow_nil _ _ _ _, .inl rfl⟩
  generalize hA : Act.put _ _ _ = a2
  have hz_a2 : a2.tmps.size = 109 := by rw [← hA]; simp only [size_put, hz_a1]
  have v0 : a2.eval (.tmp 0) = .int .i64 o := by rw [← hA]; exact (by simp [u0])
  have v2 : a2.eval (.tmp 2) = .slice A1 ws.length c1 := by rw [← hA]; exact (by simp [u2])
  have v6 : a2.eval (.tmp 6) = .pointer (some ⟨p6, 0, none⟩) := by rw [← hA]; exact (by simp [u6])
  have v8 : a2.eval (.tmp 8) = .pointer (some ⟨p8, 0, none⟩) := by rw [← hA]; exact (by simp [hz_a1])
  have hd_a2 : a2.defers = [] := by rw [← hA]; simp only [defers_put, hd_a1]
  clear hA
  refine wpIn_seq (region_p 2 ?_)
  intro K hK
  refine ListK.assign (i := 0) (v := .slice none 0 0) rfl (by simp) ?_
  refine ListK.assign (i := 1) (v := .slice none 0 0) rfl (by simp) ?_
  refine ListK.done (hK _ _ ?_)
  clear hK K
  generalize hA : Act.put _ _ _ = a3
  have hz_a3 : a3.tmps.size = 109 := by rw [← hA]; simp only [size_put, hz_a2]
  have x0 : a3.eval (.tmp 0) = .int .i64 o := by rw [← hA]; exact (by simp [v0])
  have x2 : a3.eval (.tmp 2) = .slice A1 ws.length c1 := by rw [← hA]; exact (by simp [v2])
  have x6 : a3.eval (.tmp 6) = .pointer (some ⟨p6, 0, none⟩) := by rw [← hA]; exact (by simp [v6])
  have x8 : a3.eval (.tmp 8) = .pointer (some ⟨p8, 0, none⟩) := by rw [← hA]; exact (by simp [v8])
  have x9 : a3.eval (.tmp 9) = .slice none 0 0 := by rw [← hA]; exact (by simp [hz_a2])
  have x10 : a3.eval (.tmp 10) = .slice none 0 0 := by rw [← hA]; exact (by simp [hz_a2])
  have hd_a3 : a3.defers = [] := by rw [← hA]; simp only [defers_put, hd_a2]
  clear hA
  refine wpIn_seq (region_p 1 ?_)
  intro K hK
  refine ListK.assign (i := 0) (v := .int .i64 0) rfl (by simp) ?_
  refine ListK.done (hK _ _ ?_)
  clear hK K
  generalize hA : Act.put _ _ _ = a4
  have hz_a4 : a4.tmps.size = 109 := by rw [← hA]; simp only [size_put, hz_a3]
  have y0 : a4.eval (.tmp 0) = .int .i64 o := by rw [← hA]; exact (by simp [x0])
  have y2 : a4.eval (.tmp 2) = .slice A1 ws.length c1 := by rw [← hA]; exact (by simp [x2])
  have y6 : a4.eval (.tmp 6) = .pointer (some ⟨p6, 0, none⟩) := by rw [← hA]; exact (by simp [x6])
  have y8 : a4.eval (.tmp 8) = .pointer (some ⟨p8, 0, none⟩) := by rw [← hA]; exact (by simp [x8])
  have y9 : a4.eval (.tmp 9) = .slice none 0 0 := by rw [← hA]; exact (by simp [x9])
  have y10 : a4.eval (.tmp 10) = .slice none 0 0 := by rw [← hA]; exact (by simp [x10])
  have y11 : a4.eval (.tmp 11) = .int .i64 0 := by rw [← hA]; exact (by simp [hz_a3])
  have hd_a4 : a4.defers = [] := by rw [← hA]; simp only [defers_put, hd_a3]
  clear hA
  refine wpIn_seq (wpIn_seq (region_p 1 ?_))
  intro K hK
  refine ListK.assign (i := 0) (v := .int .i64 0) rfl (by simp) ?_
  refine ListK.done (hK _ _ ?_)
  clear hK K
  clear k6 k8 hb1 hb2 hW1 hW2
  refine wpIn_block (wpIn_loop (fun a W' => ∃ i vs vo vd, i ≤ 8 ∧ i ≤ ws.length ∧ TrG o A1 ws.length c1 p6 p8 vo vd (truly o t ws i).2.2 i a ∧ TrK W p6 p8 o t vs (truly o t ws i).1 W' ∧ RM W1 vo vd (upTo (truly o t ws i).1.length) (truly o t ws i).2.1 W') (fun a _ => ws.length - (intOf (a.eval (.tmp 12))).toNat)
    ⟨0, .slice none 0 0, .slice none 0 0, .slice none 0 0, by omega, Nat.zero_le _, ⟨(by simp only [size_put, hz_a4]), (by simp only [defers_put, hd_a4]), (by simp [y0]), (by simp [y2]), (by simp [y6]), (by simp [y8]), (by simp [y9]), (by simp [y10]), (by show _ = Value.int .i64 0; exact (by simp [y11])), (by simp [hz_a4])⟩, tk0, rm0⟩ ?_)
  clear hsz t0 t1 t2 hdf hz_a1 hd_a1 u0 u1 u2 u6 hz_a2 hd_a2 v0 v2 v6 v8 hz_a3 hd_a3 x0 x2 x6 x8 x9 x10 hz_a4 hd_a4 y0 y2 y6 y8 y9 y10 y11 tk0 rm0
  rintro b1 W3 ⟨i, vs, vo, vd, hi8, hiw, hf, hk, hr⟩
  have hI := truly_inv h1 h2 h3 h4 ws i hi8 hiw
  obtain ⟨hz_b1, hd_b1, u0, u2, u6, u8, u9, u10, u11, u12⟩ := hf
  have hout : ∀ (a' : Act), TrG o A1 ws.length c1 p6 p8 vo vd (truly o t ws i).2.2 i a' → tr_d.wpIn Fence.wide 5 Try.prog (bodyPost Try.prog Try.f39 (TyP W o t ws)) a' W3 := by
    intro c1' hf'
    obtain ⟨hz_c, hd_c, w0, w2, w6, w8, w9, w10, w11, w12⟩ := hf'
    obtain ⟨A, c, e, hs⟩ := sales_of_owns73 hk.os
    subst e
    obtain ⟨_, Ad, cd, e, hcd, hid⟩ := hr.ri
    subst e
    unfold tr_d
    refine wpIn_seq (region_p 4 ?_)
    intro K hK
    refine ListK.load (i := 0) (p := ⟨p8, 0, none⟩) (v := .agg #[.int .i64 o, .int .i64 t, .slice A (truly o t ws i).1.length c]) rfl (by simp [w8]) (ld24 ⟨hk.k8.cell 0, hk.k8.cell 1, hk.k8.cell 2⟩) ?_
    refine ListK.move (i := 1) (v := .slice Ad (truly o t ws i).2.1.length cd) rfl (by simp [w10]) ?_
    refine ListK.store (i := 2) (u := .pointer (some ⟨p6, 0, none⟩)) (u' := .agg #[.int .i64 o, .int .i64 t, .slice A (truly o t ws i).1.length c]) rfl (by simp [w6]) (by simp [hz_c]) (st24 (hk.k6.cell 0) (hk.k6.cell 1) (hk.k6.cell 2) (hk.k6.frozen 0) (hk.k6.frozen 1) (hk.k6.frozen 2)) ?_
    refine ListK.assign (i := 3) (v := .slice Ad (truly o t ws i).2.1.length cd) rfl (by simp [hz_c]) ?_
    refine ListK.done (hK _ _ (wpIn_ret ?_))
    have hp68 := hk.p68
    have hp6W := hk.p6W
    have kk := ((hk.k6.set 0 (.int .i64 o)).set 1 (.int .i64 t)).set 2 (.slice A (truly o t ws i).1.length c)
    have oss := own_set (p := ⟨p6, 2, none⟩) (u := .slice A (truly o t ws i).1.length c) (own_set (p := ⟨p6, 1, none⟩) (u := .int .i64 t) (own_set (p := ⟨p6, 0, none⟩) (u := .int .i64 o) hk.os (by show p6 < p8 + 1; omega)) (by show p6 < p8 + 1; omega)) (by show p6 < p8 + 1; omega)
    have oo := hr.os
    rw [hp8] at oo
    have odd := own_set (p := ⟨p6, 2, none⟩) (u := .slice A (truly o t ws i).1.length c) (own_set (p := ⟨p6, 1, none⟩) (u := .int .i64 t) (own_set (p := ⟨p6, 0, none⟩) (u := .int .i64 o) oo (by show p6 < p8; omega)) (by show p6 < p8; omega)) (by show p6 < p8; omega)
    have hlow := ((hk.low.setCell (p := ⟨p6, 0, none⟩) (by show W.heap.size ≤ p6; omega) (.int .i64 o)).setCell (p := ⟨p6, 1, none⟩) (by show W.heap.size ≤ p6; omega) (.int .i64 t)).setCell (p := ⟨p6, 2, none⟩) (by show W.heap.size ≤ p6; omega) (.slice A (truly o t ws i).1.length c)
    generalize ((W3.setCell ⟨p6, 0, none⟩ (.int .i64 o)).setCell ⟨p6, 1, none⟩ (.int .i64 t)).setCell ⟨p6, 2, none⟩ (.slice A (truly o t ws i).1.length c) = W4 at *
    obtain ⟨A4, c4, e4, hs4⟩ := sales_of_owns73 oss
    cases e4
    have hi5 := ints_own odd
    exact bodyPost_ret (v := .tuple #[.agg #[.int .i64 o, .int .i64 t, .slice A (truly o t ws i).1.length c], .slice Ad (truly o t ws i).2.1.length cd]) (res24b (b := p6) Try.results39 (by simp [w6]) (by simp [hz_c]) (by have := kk.cell 0; simpa using this) (by have := kk.cell 1; simpa using this) (by have := kk.cell 2; simpa using this)) (by simp only [defers_put, hd_c]) ⟨i, A, c, Ad, cd, hi8, hiw, rfl, hs4, hi5, hlow⟩
  by_cases hil : i < ws.length
  · by_cases hi9 : i < 8
    · skip
      refine wpIn_seq (wpIn_seq (region_p 8 ?_))
      intro K hK
      refine ListK.move (i := 0) (v := .int .i64 i) rfl (by simp [u12]) ?_
      refine ListK.move (i := 1) (v := .slice A1 ws.length c1) rfl (by simp [u2]) ?_
      refine ListK.len (i := 2) (u := .slice A1 ws.length c1) (v := .int .i64 ws.length) rfl (by simp [hz_b1]) (ln64 _ _ _ _ _) rfl ?_
      refine ListK.bin (i := 3) (u := .int .i64 i) (u' := .int .i64 ws.length) (v := .bool true) rfl (by simp [hz_b1]) (by simp [hz_b1]) (lssT (by omega) _) ?_
      refine ListK.move (i := 4) (v := .bool true) rfl (by simp [hz_b1]) ?_
      refine ListK.move (i := 5) (v := .int .i64 i) rfl (by simp [u12]) ?_ (hw := wanted_g (e := 26) (b' := true) rfl (by simp [hz_b1]) rfl)
      refine ListK.bin (i := 6) (u := .int .i64 i) (u' := .int .i64 8) (v := .bool true) rfl (by simp [hz_b1]) (by simp) (lssT (by omega) _) ?_ (hw := wanted_g (e := 26) (b' := true) rfl (by simp [hz_b1]) rfl)
      refine ListK.pick (i := 7) (b := true) (v := .bool true) rfl (by simp [hz_b1]) (by simp [hz_b1]) ?_
      refine ListK.done (hK _ _ ?_)
      clear hK K
      refine wpIn_cond (t := true) (by simp [hz_b1]) (wpIn_skip ?_)
      show (Code.seq _ _).wpIn _ _ _ _ _ _
      refine wpIn_seq (wpIn_block ?_)
      have hlast : ∀ (Q : Exit → Act → World → Prop), (∀ a' W', (∃ i vs vo vd, i ≤ 8 ∧ i ≤ ws.length ∧ TrG o A1 ws.length c1 p6 p8 vo vd (truly o t ws i).2.2 i a' ∧ TrK W p6 p8 o t vs (truly o t ws i).1 W' ∧ RM W1 vo vd (upTo (truly o t ws i).1.length) (truly o t ws i).2.1 W') → ws.length - (intOf (a'.eval (.tmp 12))).toNat < ws.length - (intOf (b1.eval (.tmp 12))).toNat → Q .normal a' W') →
          ∀ a' W' vs' vo' vd', TrG o A1 ws.length c1 p6 p8 vo' vd' (trStep o t ((truly o t ws i).1, (truly o t ws i).2.1, (truly o t ws i).2.2) ws[i]).2.2 i a' → TrK W p6 p8 o t vs' (trStep o t ((truly o t ws i).1, (truly o t ws i).2.1, (truly o t ws i).2.2) ws[i]).1 W' → RM W1 vo' vd' (upTo (trStep o t ((truly o t ws i).1, (truly o t ws i).2.1, (truly o t ws i).2.2) ws[i]).1.length) (trStep o t ((truly o t ws i).1, (truly o t ws i).2.1, (truly o t ws i).2.2) ws[i]).2.1 W' →
          (Code.region 6 opsTy6 false).wpIn Fence.wide 5 Try.prog Q a' W' := by
        intro Q hQ a' W' vs' vo' vd' f' k' r'
        have e : trStep o t ((truly o t ws i).1, (truly o t ws i).2.1, (truly o t ws i).2.2) ws[i] = truly o t ws (i + 1) := (truly_step hil).symm
        rw [e] at f' k' r'
        refine tr6 hi9 f' fun a2 f2 => hQ _ _ ⟨i + 1, vs', vo', vd', by omega, by omega, f2, k', r'⟩ ?_
        rw [f2.2.2.2.2.2.2.2.2.2, u12]
        simp only [intOf]
        omega
      refine tr7 (dy := (truly o t ws i).2.2) (l := (truly o t ws i).1) (ds := (truly o t ws i).2.1) (p6 := p6) (c1 := c1) (vo := vo) (vd := vd) (i := i) hi9 hil hw hI hp8 ⟨(by simp only [size_put, hz_b1]), (by simp only [defers_put, hd_b1]), (by simp [u0]), (by simp [u2]), (by simp [u6]), (by simp [u8]), (by simp [u9]), (by simp [u10]), (by simp [u11]), (by simp [u12])⟩ hk hr (fun a' W' vs' vo' vd' f' k' r' => ?_) (fun a' W' vs' vo' vd' f' k' r' => ?_)
      · exact hlast _ (fun a2 W2 h e => ⟨h, e⟩) a' W' vs' vo' vd' f' k' r'
      · exact hlast _ (fun a2 W2 h e => ⟨h, e⟩) a' W' vs' vo' vd' f' k' r'
    · skip
      refine wpIn_seq (wpIn_seq (region_p 8 ?_))
      intro K hK
      refine ListK.move (i := 0) (v := .int .i64 i) rfl (by simp [u12]) ?_
      refine ListK.move (i := 1) (v := .slice A1 ws.length c1) rfl (by simp [u2]) ?_
      refine ListK.len (i := 2) (u := .slice A1 ws.length c1) (v := .int .i64 ws.length) rfl (by simp [hz_b1]) (ln64 _ _ _ _ _) rfl ?_
      refine ListK.bin (i := 3) (u := .int .i64 i) (u' := .int .i64 ws.length) (v := .bool true) rfl (by simp [hz_b1]) (by simp [hz_b1]) (lssT (by omega) _) ?_
      refine ListK.move (i := 4) (v := .bool true) rfl (by simp [hz_b1]) ?_
      refine ListK.move (i := 5) (v := .int .i64 i) rfl (by simp [u12]) ?_ (hw := wanted_g (e := 26) (b' := true) rfl (by simp [hz_b1]) rfl)
      refine ListK.bin (i := 6) (u := .int .i64 i) (u' := .int .i64 8) (v := .bool false) rfl (by simp [hz_b1]) (by simp) (lssF (by omega) _) ?_ (hw := wanted_g (e := 26) (b' := true) rfl (by simp [hz_b1]) rfl)
      refine ListK.pick (i := 7) (b := true) (v := .bool false) rfl (by simp [hz_b1]) (by simp [hz_b1]) ?_
      refine ListK.done (hK _ _ ?_)
      clear hK K
      refine wpIn_cond (t := false) (by simp [hz_b1]) (wpIn_exit ?_)
      exact hout _ ⟨(by simp only [size_put, hz_b1]), (by simp only [defers_put, hd_b1]), (by simp [u0]), (by simp [u2]), (by simp [u6]), (by simp [u8]), (by simp [u9]), (by simp [u10]), (by simp [u11]), (by simp [u12])⟩
  · skip
    refine wpIn_seq (wpIn_seq (region_p 8 ?_))
    intro K hK
    refine ListK.move (i := 0) (v := .int .i64 i) rfl (by simp [u12]) ?_
    refine ListK.move (i := 1) (v := .slice A1 ws.length c1) rfl (by simp [u2]) ?_
    refine ListK.len (i := 2) (u := .slice A1 ws.length c1) (v := .int .i64 ws.length) rfl (by simp [hz_b1]) (ln64 _ _ _ _ _) rfl ?_
    refine ListK.bin (i := 3) (u := .int .i64 i) (u' := .int .i64 ws.length) (v := .bool false) rfl (by simp [hz_b1]) (by simp [hz_b1]) (lssF (by omega) _) ?_
    refine ListK.move (i := 4) (v := .bool false) rfl (by simp [hz_b1]) ?_
    refine ListK.passG (i := 5) (e := 26) (b' := false) rfl rfl (by simp [hz_b1]) rfl ?_
    refine ListK.passG (i := 6) (e := 26) (b' := false) rfl rfl (by simp [hz_b1]) rfl ?_
    refine ListK.pick (i := 7) (b := false) (v := .bool false) rfl (by simp [hz_b1]) (by simp) ?_
    refine ListK.done (hK _ _ ?_)
    clear hK K
    refine wpIn_cond (t := false) (by simp [hz_b1]) (wpIn_exit ?_)
    exact hout _ ⟨(by simp only [size_put, hz_b1]), (by simp only [defers_put, hd_b1]), (by simp [u0]), (by simp [u2]), (by simp [u6]), (by simp [u8]), (by simp [u9]), (by simp [u10]), (by simp [u11]), (by simp [u12])⟩
end Go.Proofs.Ytfcnombmphophaa
namespace Go.Proofs.Ytfcnombmphophaa
open Go.RowKit Go.Shelf
section
attribute [local irreducible] AnyK StepK
end
end Go.Proofs.Ytfcnombmphophaa
namespace Go.Proofs.Ytfcnombmphophaa
open Go.RowKit Go.Shelf
theorem WordsAt.below {w w' : World} {B B' : Nat} {A : Option Addr} {l : List Nat} (h : WordsAt w B A l) (hb : Below B w w') (hB : B ≤ B') : WordsAt w' B' A l := by
  intro k x hx
  obtain ⟨h1, b, off, e, hlt, hc⟩ := h k x hx
  exact ⟨h1, b, off, e, by omega, (hb.cell (p := ⟨b, off + k, none⟩) hlt).trans hc⟩
/-- A truth by words. -/
theorem truth_by (o t : Int) (A1 : Option Addr) (ws : List Nat) (c1 : Nat) (W : World) (h1 : 1 ≤ o) (h2 : o ≤ 6) (h3 : 0 ≤ t) (h4 : t ≤ 1000) (hw : WordsAt W W.heap.size A1 ws) :
    Calls Try.prog 39 #[.int .i64 o, .int .i64 t, .slice A1 ws.length c1] W fun e w' => ∃ (l : List Sale) (ds : List Int) (A : Option Addr) (c : Nat) (A3 : Option Addr) (c3 : Nat), e = .returned (.tuple #[.agg #[.int .i64 o, .int .i64 t, .slice A l.length c], .slice A3 ds.length c3]) ∧ SalesAt w' w'.heap.size A l ∧ IntsAt w' w'.heap.size A3 ds ∧ Below W.heap.size W w' ∧ Valid o t l ∧ TruP t l (dayPs l ds) ∧ ds.length = l.length := by
  refine (truly_any o t A1 ws c1 W h1 h2 h3 h4 hw).mono ?_
  rintro e w' ⟨i, A, c, A3, c3, hi8, hiw, rfl, hs, hi3, hb⟩
  have hI := truly_inv h1 h2 h3 h4 ws i hi8 hiw
  exact ⟨_, _, A, c, A3, c3, rfl, hs, hi3, hb, hI.valid hi8, tri_tru hI, hI.days⟩
section
variable {o t on : Int} {A A3 : Option Addr} {l : List Sale} {ds : List Int} {c c3 nd pb k : Nat} {a1 : Act} {W W1 : World} {Q : Exit → Act → World → Prop}
end
end Go.Proofs.Ytfcnombmphophaa
namespace Go.Proofs.Ytfcnombmphophaa
open Go.RowKit Go.Shelf
end Go.Proofs.Ytfcnombmphophaa
namespace Go.Proofs.Ytfcnombmphophaa
open Go.RowKit Go.Shelf Go.ChangeShapes Go.WideShapes
theorem carry_trod {H : Type} {enc : TypeId × Value → H} {W W' : World} {t : TypeId} {v : Value} {d : DataW H} {ps : List MemPlace} (hr : Try.prog.readableRec t = true) (hrow : t < Try.prog.types.size) (hb : Below W.heap.size W W')
    (hd : DataW.Trod enc Try.prog W 0 (fun _ => true) true t v d ps) (hlt : ∀ p ∈ ps, p.block < W.heap.size) : DataW.Trod enc Try.prog W' 0 (fun b => decide (b < W.heap.size)) true t v d ps := by
  obtain ⟨n, h⟩ := hd
  exact ⟨n, DataW.trod_stays (kids_book laidOut hr) (book_sized hr) (fun h => by cases h) ⟨hrow, book_self t⟩ h
    (fun p hp => (hb.frame (fun _ => False)).sameAt (hlt p hp) id (fun b e => by
      have := DataW.trod_good (kids_book laidOut hr) (fun h => by cases h) n t _ _ ⟨hrow, book_self t⟩ h p hp
      subst e
      exact this))
    (fun p hp => by simpa using hlt p hp)⟩
end Go.Proofs.Ytfcnombmphophaa
namespace Go.Proofs.Ytfcnombmphophaa
open Go.RowKit Go.Shelf Go.ChangeShapes Go.WideShapes
section
variable {H : Type} {enc : TypeId × Value → H} {W : World} {r : Reach} {b0 : Nat}
theorem c63 : Try.prog.cellsOf 63 = 1 := by kernel_rfl
set_option maxRecDepth 100000 in
theorem open_words {v : Value} {d : DataW H} {ps : List MemPlace} (hval : Value.okWide Try.prog W r b0 64 v) (hd : DataW.Trod enc Try.prog W 0 (fun _ => true) true 64 v d ps) :
    ∃ (A : Option Addr) (l : List Nat) (c : Nat), v = .slice A l.length c ∧ l.length ≤ c ∧ WordsAt W W.heap.size A l := by
  obtain ⟨a, n, c, rfl⟩ := okWide_slice Try.underlying64 hval
  obtain ⟨fuel, hf⟩ := hd
  rcases open_ints Try.underlying64 Try.underlying63 c63 hf with ⟨hcs, _⟩ | ⟨a', n', c', zs, hcs, _, hle, _, hall, _, hcell, hwf⟩
  · simp [Value.cells] at hcs
    obtain ⟨rfl, rfl, rfl⟩ := hcs
    exact ⟨none, [], 0, rfl, Nat.le_refl _, fun k x hx => by simp at hx⟩
  · simp [Value.cells] at hcs
    obtain ⟨rfl, rfl, rfl⟩ := hcs
    simp at hall
    refine ⟨some a', (zs.take n).map Int.toNat, c, by rw [List.length_map, List.length_take]; congr 1; omega, by rw [List.length_map, List.length_take]; omega, ?_⟩
    intro k x hx
    rw [List.getElem?_map, Option.map_eq_some_iff] at hx
    obtain ⟨z, hx, rfl⟩ := hx
    rw [List.getElem?_take] at hx
    split at hx
    · have hk : k < zs.length := (List.getElem?_eq_some_iff.1 hx).1
      have hb := bounds_u16 (hwf z (List.mem_of_getElem? hx))
      obtain ⟨b, off, rfl, hc⟩ := ints_at hcell (by omega)
      have h1 := hc k hk
      have h2 : zs.getD k 0 = z := by simp [List.getD, hx]
      rw [h2] at h1
      refine ⟨by omega, b, off, rfl, block_lt_of_cell h1, ?_⟩
      rw [Int.toNat_of_nonneg hb.1]
      exact h1
    · cases hx
end
theorem r64 : Try.prog.readableRec 64 = true := by kernel_rfl
theorem s64 : 64 < Try.prog.types.size := of_decide_eq_true (by kernel_rfl)
end Go.Proofs.Ytfcnombmphophaa
