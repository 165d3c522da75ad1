/- Texts for the laws of package recall, part 6: contracts of the program's functions, each for every input that its words name. -/
import Derived.Test.YtfcnombmphophaaF5
import Derived.Test.YtfcnombmphophaaF4

set_option linter.unusedVariables false

namespace Go.Proofs.Ytfcnombmphophaa
open Go.RowKit Go.Shelf
theorem cv_may {w : World} {o t la dy : Int} {A A1 : Option Addr} {l : List Sale} {done : List Int} {c c1 k m : Nat} {b : Bool} (hl : l.length ≤ 12) (hmd : m = done.length) (hd : done.length ≤ 12) (ht0 : 0 ≤ t) (ht : t ≤ 1000) (hm : ∀ s, s ∈ l → 0 ≤ s.many ∧ s.many ≤ 1000)
    (hdn : ∀ d, d ∈ done → 0 ≤ d ∧ d < l.length) (hk : k < l.length) (hs : SalesAt w w.heap.size A l) (h1 : IntsAt w w.heap.size A1 done) (hb : mayR t l done la k dy = b) :
    CV w 52 #[.agg #[.int .i64 o, .int .i64 t, .slice A l.length c], .slice A1 m c1, .int .i64 la, .int .i64 k, .int .i64 dy] (.bool b) := by
  subst hmd
  intro W1 hw
  refine (may_any o t A A1 l done c c1 k la dy W1 hl hd ht0 ht hm hdn hk ((hs.below hw (Nat.le_refl _)).more hw.size) ((h1.below hw (Nat.le_refl _)).more hw.size)).mono ?_
  rintro e w' ⟨rfl, hb'⟩
  exact ⟨_, rfl, by rw [hb], hb'⟩
set_option maxRecDepth 10000 in
set_option maxHeartbeats 2000000 in
theorem truth_any (o t : Int) (A A1 A2 : Option Addr) (l : List Sale) (ord dys : List Int) (c c1 c2 : Nat) (W : World) (hl : l.length ≤ 12) (hc1 : ord.length ≤ c1) (ho : ord.length ≤ 12) (hdl : dys.length ≤ 12) (ht0 : 0 ≤ t) (ht : t ≤ 1000) (hm : ∀ s, s ∈ l → 0 ≤ s.many ∧ s.many ≤ 1000)
    (hs : SalesAt W W.heap.size A l) (h1 : IntsAt W W.heap.size A1 ord) (h2 : IntsAt W W.heap.size A2 dys) :
    Calls Try.prog 22 #[.agg #[.int .i64 o, .int .i64 t, .slice A l.length c], .slice A1 ord.length c1, .slice A2 dys.length c2] W (TP W (truthB t l ord dys)) := by
  refine (callsIn_wide (n := 5)).1 (callsIn_of_wp Try.func22 body22 trivial ?_ rfl)
  obtain ⟨a, ha⟩ : ∃ a : Act, a = { tmps := #[.agg #[.int .i64 o, .int .i64 t, .slice A l.length c], .slice A1 ord.length c1, .slice A2 dys.length c2] ++ Array.replicate (Try.f22.ntmps - (#[.agg #[.int .i64 o, .int .i64 t, .slice A l.length c], .slice A1 ord.length c1, .slice A2 dys.length c2] : Array Value).size) undef, defers := [] } := ⟨_, rfl⟩
  have hsz : a.tmps.size = 66 := by rw [ha]; simp [Try.ntmps22]
  have t0 : a.eval (.tmp 0) = .agg #[.int .i64 o, .int .i64 t, .slice A l.length c] := by rw [ha]; simp [Act.eval]
  have t1 : a.eval (.tmp 1) = .slice A1 ord.length c1 := by rw [ha]; simp [Act.eval]
  have t2 : a.eval (.tmp 2) = .slice A2 dys.length c2 := by rw [ha]; simp [Act.eval]
  have hdf : a.defers = [] := by rw [ha]
  rw [← ha]
  clear ha
  have hret : ∀ (a' : Act) (W' : World) (v : Bool), a'.defers = [] → a'.eval (.tmp 6) = .bool v → Below W.heap.size W W' → v = truthB t l ord dys → bodyPost Try.prog Try.f22 (TP W (truthB t l ord dys)) .ret a' W' := fun a' W' v hd h4 hb he =>
    bodyPost_ret (v := .bool v) (res1 Try.results22 h4) hd ⟨by rw [he], hb⟩
  unfold code22
  refine wpIn_seq (region_p 2 ?_)
  intro K hK
  refine ListK.box (i := 0) (u := .agg #[.int .i64 o, .int .i64 t, .slice A l.length c]) rfl (by simp [t0]) (bx24 W _ _ _ _ _) ?_
  refine ListK.assign (i := 1) (v := .bool false) rfl (by simp) ?_
  refine ListK.done (hK _ _ ?_)
  clear hK K
  have wb := Whole.new W 24 #[.int .i64 o, .int .i64 t, .slice A l.length c]
  have hB1 : Below W.heap.size W (W.alloc (.cells #[.int .i64 o, .int .i64 t, .slice A l.length c] 24)) := (Below.refl _ W).alloc (Nat.le_refl _) _
  have hS1 := hB1.size
  have hlt : W.heap.size < (W.alloc (.cells #[.int .i64 o, .int .i64 t, .slice A l.length c] 24)).heap.size := by simp
  generalize hb3 : W.heap.size = b3 at *
  generalize W.alloc (.cells #[.int .i64 o, .int .i64 t, .slice A l.length c] 24) = W1 at *
  have hs1 : SalesAt W1 W1.heap.size A l := (hs.below hB1 (Nat.le_refl _)).more hS1
  have h11 : IntsAt W1 W1.heap.size A1 ord := (h1.below hB1 (Nat.le_refl _)).more hS1
  have h21 : IntsAt W1 W1.heap.size A2 dys := (h2.below hB1 (Nat.le_refl _)).more hS1
  have q2' := wb.cell 2
  generalize hA : Act.put _ _ _ = a1
  have hz_a1 : a1.tmps.size = 66 := by rw [← hA]; simp only [size_put, hsz]
  have u1 : a1.eval (.tmp 1) = .slice A1 ord.length c1 := by rw [← hA]; exact (by simp [t1])
  have u2 : a1.eval (.tmp 2) = .slice A2 dys.length c2 := by rw [← hA]; exact (by simp [t2])
  have u3 : a1.eval (.tmp 3) = .pointer (some ⟨b3, 0, none⟩) := by rw [← hA]; exact (by simp [hsz])
  have hd_a1 : a1.defers = [] := by rw [← hA]; simp only [defers_put, hdf]
  clear hA
  by_cases hlen : ord.length = l.length
  · by_cases hlen2 : dys.length = l.length
    · skip
      refine wpIn_seq (wpIn_seq (region_p 14 ?_))
      intro K hK
      refine ListK.move (i := 0) (v := .slice A1 ord.length c1) rfl (by simp [u1]) ?_
      refine ListK.len (i := 1) (u := .slice A1 ord.length c1) (v := .int .i64 ord.length) rfl (by simp [hz_a1]) (ln25 _ _ _ _ _) rfl ?_
      refine ListK.field (i := 2) (u := .pointer (some ⟨b3, 0, none⟩)) (v := .pointer (some ⟨b3, 2, none⟩)) rfl (by simp [u3]) (fa24_2 _) ?_
      refine ListK.load (i := 3) (p := ⟨b3, 2, none⟩) (v := .slice A l.length c) rfl (by simp [hz_a1]) (ld22 (q2')) ?_
      refine ListK.len (i := 4) (u := .slice A l.length c) (v := .int .i64 l.length) rfl (by simp [hz_a1]) (ln22 _ _ _ _ _) rfl ?_
      refine ListK.bin (i := 5) (u := .int .i64 ord.length) (u' := .int .i64 l.length) (v := .bool false) rfl (by simp [hz_a1]) (by simp [hz_a1]) (neqF (by omega) _) ?_
      refine ListK.move (i := 6) (v := .bool false) rfl (by simp [hz_a1]) ?_
      refine ListK.move (i := 7) (v := .slice A2 dys.length c2) rfl (by simp [u2]) ?_ (hw := wanted_g (e := 15) (b' := false) rfl (by simp [hz_a1]) rfl)
      refine ListK.lenW (i := 8) (u := .slice A2 dys.length c2) (v := .int .i64 dys.length) rfl (by simp [hz_a1]) (ln25 _ _ _ _ _) rfl ?_ (hw := wanted_g (e := 15) (b' := false) rfl (by simp [hz_a1]) rfl)
      refine ListK.field (i := 9) (u := .pointer (some ⟨b3, 0, none⟩)) (v := .pointer (some ⟨b3, 2, none⟩)) rfl (by simp [u3]) (fa24_2 _) ?_ (hw := wanted_g (e := 15) (b' := false) rfl (by simp [hz_a1]) rfl)
      refine ListK.load (i := 10) (p := ⟨b3, 2, none⟩) (v := .slice A l.length c) rfl (by simp [hz_a1]) (ld22 (q2')) ?_ (hw := wanted_g (e := 15) (b' := false) rfl (by simp [hz_a1]) rfl)
      refine ListK.lenW (i := 11) (u := .slice A l.length c) (v := .int .i64 l.length) rfl (by simp [hz_a1]) (ln22 _ _ _ _ _) rfl ?_ (hw := wanted_g (e := 15) (b' := false) rfl (by simp [hz_a1]) rfl)
      refine ListK.bin (i := 12) (u := .int .i64 dys.length) (u' := .int .i64 l.length) (v := .bool false) rfl (by simp [hz_a1]) (by simp [hz_a1]) (neqF (by omega) _) ?_ (hw := wanted_g (e := 15) (b' := false) rfl (by simp [hz_a1]) rfl)
      refine ListK.pick (i := 13) (b := false) (v := .bool false) rfl (by simp [hz_a1]) (by simp [hz_a1]) ?_
      refine ListK.done (hK _ _ ?_)
      clear hK K
      refine wpIn_cond (t := false) (by simp [hz_a1]) (wpIn_skip ?_)
      show (Code.seq _ _).wpIn _ _ _ _ _ _
      generalize hA : Act.put _ _ _ = a2
      have hz_a2 : a2.tmps.size = 66 := by rw [← hA]; simp only [size_put, hz_a1]
      have v1 : a2.eval (.tmp 1) = .slice A1 ord.length c1 := by rw [← hA]; exact (by simp [u1])
      have v2 : a2.eval (.tmp 2) = .slice A2 dys.length c2 := by rw [← hA]; exact (by simp [u2])
      have v3 : a2.eval (.tmp 3) = .pointer (some ⟨b3, 0, none⟩) := by rw [← hA]; exact (by simp [u3])
      have hd_a2 : a2.defers = [] := by rw [← hA]; simp only [defers_put, hd_a1]
      clear hA
      refine wpIn_seq (region_p 1 ?_)
      intro K hK
      refine ListK.assign (i := 0) (v := .int .i64 0) rfl (by simp) ?_
      refine ListK.done (hK _ _ ?_)
      clear hK K
      generalize hA : Act.put _ _ _ = a3
      have hz_a3 : a3.tmps.size = 66 := by rw [← hA]; simp only [size_put, hz_a2]
      have x1 : a3.eval (.tmp 1) = .slice A1 ord.length c1 := by rw [← hA]; exact (by simp [v1])
      have x2 : a3.eval (.tmp 2) = .slice A2 dys.length c2 := by rw [← hA]; exact (by simp [v2])
      have x3 : a3.eval (.tmp 3) = .pointer (some ⟨b3, 0, none⟩) := by rw [← hA]; exact (by simp [v3])
      have x7 : a3.eval (.tmp 7) = .int .i64 0 := by rw [← hA]; exact (by simp [hz_a2])
      have hd_a3 : a3.defers = [] := by rw [← hA]; simp only [defers_put, hd_a2]
      clear hA
      refine wpIn_seq (wpIn_seq (region_p 1 ?_))
      intro K hK
      refine ListK.assign (i := 0) (v := .int .i64 0) rfl (by simp) ?_
      refine ListK.done (hK _ _ ?_)
      clear hK K
      refine wpIn_block (wpIn_loop (fun a W' => ∃ (k : Nat) (la : Int), k ≤ ord.length ∧ a.tmps.size = 66 ∧ a.defers = [] ∧ a.eval (.tmp 1) = .slice A1 ord.length c1 ∧ a.eval (.tmp 2) = .slice A2 dys.length c2 ∧ a.eval (.tmp 3) = .pointer (some ⟨b3, 0, none⟩) ∧ a.eval (.tmp 7) = .int .i64 la ∧ a.eval (.tmp 8) = .int .i64 k ∧ Below W1.heap.size W1 W' ∧ isGo t l dys [] ord 0 = isGo t l dys (ord.take k) (ord.drop k) la ∧ (∀ d, d ∈ ord.take k → 0 ≤ d ∧ d < l.length)) (fun a _ => ord.length - (intOf (a.eval (.tmp 8))).toNat)
        ⟨0, 0, Nat.zero_le _, by simp only [size_put, hz_a3], by simp only [defers_put, hd_a3], (by simp [x1]), (by simp [x2]), (by simp [x3]), (by simp [x7]), (by simp [hz_a3]), Below.refl _ _, rfl, fun d hd => by simp at hd⟩ ?_)
      clear hsz t0 t1 t2 hdf hz_a1 u1 u2 u3 hd_a1 hz_a2 v1 v2 v3 hd_a2 hz_a3 x1 x2 x3 x7 hd_a3 a a1 a2 a3
      rintro a W2 ⟨k, la, hk, hsz, hdf, t1, t2, t3, t7, t8, hb, hgo, hdn⟩
      refine wpIn_seq (wpIn_seq (region_p 4 ?_))
      intro K hK
      refine ListK.move (i := 0) (v := .int .i64 k) rfl (by simp [t8]) ?_
      refine ListK.move (i := 1) (v := .slice A1 ord.length c1) rfl (by simp [t1]) ?_
      refine ListK.len (i := 2) (u := .slice A1 ord.length c1) (v := .int .i64 ord.length) rfl (by simp [hsz]) (ln25 _ _ _ _ _) rfl ?_
      refine ListK.bin (i := 3) (u := .int .i64 k) (u' := .int .i64 (ord.length : Int)) (v := .bool (decide (k < (ord.length : Int)))) rfl (by simp [hsz]) (by simp [hsz]) (lss3 _) ?_
      refine ListK.done (hK _ _ ?_)
      clear hK K
      have hB2 := hB1.trans (hb.mono hS1)
      by_cases hkl : k < ord.length
      · refine wpIn_cond (t := true) (by simp [hsz]; omega) (wpIn_skip ?_)
        generalize hA : Act.put _ _ _ = a1
        have hz_a1 : a1.tmps.size = 66 := by rw [← hA]; simp only [size_put, hsz]
        have u1 : a1.eval (.tmp 1) = .slice A1 ord.length c1 := by rw [← hA]; exact (by simp [t1])
        have u2 : a1.eval (.tmp 2) = .slice A2 dys.length c2 := by rw [← hA]; exact (by simp [t2])
        have u3 : a1.eval (.tmp 3) = .pointer (some ⟨b3, 0, none⟩) := by rw [← hA]; exact (by simp [t3])
        have u7 : a1.eval (.tmp 7) = .int .i64 la := by rw [← hA]; exact (by simp [t7])
        have u8 : a1.eval (.tmp 8) = .int .i64 k := by rw [← hA]; exact (by simp [t8])
        have hd_a1 : a1.defers = [] := by rw [← hA]; simp only [defers_put, hdf]
        clear hA
        have hs2 : SalesAt W2 W2.heap.size A l := (hs1.below hb (Nat.le_refl _)).more hb.size
        have h12 : IntsAt W2 W2.heap.size A1 ord := (h11.below hb (Nat.le_refl _)).more hb.size
        have h22 : IntsAt W2 W2.heap.size A2 dys := (h21.below hb (Nat.le_refl _)).more hb.size
        have wb2 := wb.below hb (by omega)
        have q0 : W2.cell? ⟨b3, 0, none⟩ = some (.int .i64 o) := wb2.cell 0
        have q1 : W2.cell? ⟨b3, 1, none⟩ = some (.int .i64 t) := wb2.cell 1
        have q2 : W2.cell? ⟨b3, 2, none⟩ = some (.slice A l.length c) := wb2.cell 2
        obtain ⟨b1, o1, hA1, hbb1, m0⟩ := h12 k ord[k] (List.getElem?_eq_getElem hkl)
        subst hA1
        have hstep := isGo_step (t := t) (l := l) (dys := dys) (la := la) hkl
        rw [← hgo] at hstep
        have htk := List.take_succ_eq_append_getElem hkl
        generalize ord[k] = n0 at *
        show (Code.seq _ _).wpIn _ _ _ _ _ _
        cases hI : inR n0 0 ((l.length : Int) - 1) with
        | false =>
          refine wpIn_seq (wpIn_block (wpIn_seq (wpIn_seq (regionTr0 (wideF_plain _) hz_a1 u1 u2 u3 u7 u8 q0 q1 q2 hl hkl m0 (cv_in hI) ?_))))
          intro a2 W3 hz2 hd2 hb3' hr hw
          have v58 : a2.eval (.tmp 58) = .bool true := hw 29 58 (by kernel_rfl)
          refine wpIn_cond (t := true) v58 ?_
          refine wpIn_seq (region_p 1 ?_)
          intro K hK
          refine ListK.assign (i := 0) (v := .bool false) rfl (by simp) ?_
          refine ListK.done (hK _ _ (wpIn_ret ?_))
          show bodyPost Try.prog Try.f22 (TP W (truthB t l ord dys)) Exit.ret _ _
          refine hret _ _ false (by simp only [defers_put, hd2, hd_a1]) (by simp [hz2]) (hB2.trans (hb3'.mono (by have := hB2.size; omega))) ?_
          rw [truthB, hstep, hI]
          simp
        | true =>
          have hin := inR_iff.1 hI
          obtain ⟨jn, rfl⟩ : ∃ j : Nat, n0 = j := ⟨n0.toNat, by omega⟩
          have hjl : jn < l.length := by omega
          have hjd : jn < dys.length := by omega
          obtain ⟨b2, o2, hA2, hbb2, m1⟩ := h22 jn dys[jn] (List.getElem?_eq_getElem hjd)
          subst hA2
          have hdy : (dys[((jn : Int)).toNat]?).getD 0 = dys[jn] := by
            rw [Int.toNat_natCast, List.getElem?_eq_getElem hjd]
            rfl
          rw [hdy, hI, Bool.true_and] at hstep
          generalize dys[jn] = dy at *
          have htl : (ord.take k).length = k := by rw [List.length_take]; omega
          refine wpIn_seq (wpIn_block (wpIn_seq (wpIn_seq (regionTr1 (wideF_plain _) hz_a1 u1 u2 u3 u7 u8 q0 q1 q2 hl hkl m0 (cv_in hI) m1 hjd (by omega) (cv_may (m := k) hl htl.symm (by omega) ht0 ht hm hdn hjl hs2 (h12.take k) rfl) ?_))))
          intro a2 W3 hz2 hd2 hb3' hr hw
          generalize hmv : mayR t l (ord.take k) la (jn : Int) dy = mv at *
          have v58 : a2.eval (.tmp 58) = .bool (!mv) := hw 29 58 (by kernel_rfl)
          have hB3 := hB2.trans (hb3'.mono (by have := hB2.size; omega))
          cases mv with
          | false =>
            refine wpIn_cond (t := true) v58 ?_
            refine wpIn_seq (region_p 1 ?_)
            intro K hK
            refine ListK.assign (i := 0) (v := .bool false) rfl (by simp) ?_
            refine ListK.done (hK _ _ (wpIn_ret ?_))
            show bodyPost Try.prog Try.f22 (TP W (truthB t l ord dys)) Exit.ret _ _
            refine hret _ _ false (by simp only [defers_put, hd2, hd_a1]) (by simp [hz2]) hB3 ?_
            rw [truthB, hstep]
            simp
          | true =>
            refine wpIn_cond (t := false) v58 (wpIn_skip ?_)
            have w1 := (hr 1 (by kernel_rfl)).trans u1
            have w2 := (hr 2 (by kernel_rfl)).trans u2
            have w3 := (hr 3 (by kernel_rfl)).trans u3
            have w8 := (hr 8 (by kernel_rfl)).trans u8
            have m0' := (hb3'.cell (p := ⟨b1, o1 + k, none⟩) hbb1).trans m0
            have m1' := (hb3'.cell (p := ⟨b2, o2 + jn, none⟩) hbb2).trans m1
            show (Code.region 9 opsTr_9 false).wpIn _ _ _ _ _ _
            refine region_p 8 ?_
            intro K9 hK9
            refine ListK.move (i := 0) (v := .slice (some ⟨b2, o2, none⟩) dys.length c2) rfl (by simp [w2]) ?_
            refine ListK.move (i := 1) (v := .slice (some ⟨b1, o1, none⟩) ord.length c1) rfl (by simp [w1]) ?_
            refine ListK.move (i := 2) (v := .int .i64 k) rfl (by simp [w8]) ?_
            refine ListK.index (i := 3) (u := .slice (some ⟨b1, o1, none⟩) ord.length c1) (u' := .int .i64 k) (v := .pointer (some ⟨b1, o1 + k, none⟩)) rfl (by simp [hz2]) (by simp [hz2]) (ix25o hkl _) ?_
            refine ListK.load (i := 4) (p := ⟨b1, o1 + k, none⟩) (v := .int .i64 jn) rfl (by simp [hz2]) (ld3 (m0')) ?_
            refine ListK.index (i := 5) (u := .slice (some ⟨b2, o2, none⟩) dys.length c2) (u' := .int .i64 jn) (v := .pointer (some ⟨b2, o2 + jn, none⟩)) rfl (by simp [hz2]) (by simp [hz2]) (ix25o hjd _) ?_
            refine ListK.load (i := 6) (p := ⟨b2, o2 + jn, none⟩) (v := .int .i64 dy) rfl (by simp [hz2]) (ld3 (m1')) ?_
            refine ListK.assign (i := 7) (v := .int .i64 dy) rfl (by simp [hz2]) ?_
            refine ListK.done (hK9 _ _ ?_)
            generalize hA : Act.put _ _ _ = a4
            have hz_a4 : a4.tmps.size = 66 := by rw [← hA]; simp only [size_put, hz2]
            have y1 : a4.eval (.tmp 1) = .slice (some ⟨b1, o1, none⟩) ord.length c1 := by rw [← hA]; exact (by simp [w1])
            have y2 : a4.eval (.tmp 2) = .slice (some ⟨b2, o2, none⟩) dys.length c2 := by rw [← hA]; exact (by simp [w2])
            have y3 : a4.eval (.tmp 3) = .pointer (some ⟨b3, 0, none⟩) := by rw [← hA]; exact (by simp [w3])
            have y7 : a4.eval (.tmp 7) = .int .i64 dy := by rw [← hA]; exact (by simp [hz2])
            have y8 : a4.eval (.tmp 8) = .int .i64 k := by rw [← hA]; exact (by simp [w8])
            have hd_a4 : a4.defers = [] := by rw [← hA]; simp only [defers_put, hd2, hd_a1]
            clear hA
            show (Code.region 6 opsTr_6 false).wpIn _ _ _ _ _ _
            refine region_p 3 ?_
            intro K hK
            refine ListK.move (i := 0) (v := .int .i64 k) rfl (by simp [y8]) ?_
            refine ListK.bin (i := 1) (u := .int .i64 k) (u' := .int .i64 1) (v := .int .i64 (k + 1)) rfl (by simp [hz_a4]) (by simp) (add3 (by omega) (by omega) _) ?_
            refine ListK.assign (i := 2) (v := .int .i64 ((k + 1 : Nat) : Int)) rfl (by simp [hz_a4]) ?_
            skip
            have hmu : ∀ b : Act, b.eval (.tmp 8) = .int .i64 ((k + 1 : Nat) : Int) → ord.length - (intOf (b.eval (.tmp 8))).toNat < ord.length - (intOf (a.eval (.tmp 8))).toNat := by
              intro b e
              rw [e, t8]
              simp only [intOf]
              omega
            refine ListK.done (hK _ _ ⟨⟨k + 1, dy, by omega, by simp only [size_put, hz_a4], by simp only [defers_put, hd_a4], (by simp [y1]), (by simp [y2]), (by simp [y3]), (by simp [y7]), (by simp [hz_a4]), hb.trans (hb3'.mono hb.size), by rw [hstep, Bool.true_and], ?_⟩, hmu _ (by simp [hz_a4])⟩)
            intro d hd
            rw [htk, List.mem_append, List.mem_singleton] at hd
            rcases hd with hd | rfl
            · exact hdn d hd
            · exact ⟨by omega, by omega⟩
      · obtain rfl : k = ord.length := by omega
        refine wpIn_cond (t := false) (by simp [hsz]) (wpIn_exit ?_)
        generalize hA : Act.put _ _ _ = a1
        have hz_a1 : a1.tmps.size = 66 := by rw [← hA]; simp only [size_put, hsz]
        have u1 : a1.eval (.tmp 1) = .slice A1 ord.length c1 := by rw [← hA]; exact (by simp [t1])
        have u2 : a1.eval (.tmp 2) = .slice A2 dys.length c2 := by rw [← hA]; exact (by simp [t2])
        have hd_a1 : a1.defers = [] := by rw [← hA]; simp only [defers_put, hdf]
        clear hA
        show (Code.seq _ _).wpIn _ _ _ _ _ _
        refine wpIn_seq (region_p 1 ?_)
        intro K hK
        refine ListK.assign (i := 0) (v := .bool true) rfl (by simp) ?_
        refine ListK.done (hK _ _ (wpIn_ret ?_))
        show bodyPost Try.prog Try.f22 (TP W (truthB t l ord dys)) Exit.ret _ _
        exact hret _ _ true (by simp only [defers_put, hd_a1]) (by simp [hz_a1]) hB2 (by rw [truthB, hgo, List.drop_length]; simp [isGo, hlen, hlen2])
    · skip
      refine wpIn_seq (wpIn_seq (region_p 14 ?_))
      intro K hK
      refine ListK.move (i := 0) (v := .slice A1 ord.length c1) rfl (by simp [u1]) ?_
      refine ListK.len (i := 1) (u := .slice A1 ord.length c1) (v := .int .i64 ord.length) rfl (by simp [hz_a1]) (ln25 _ _ _ _ _) rfl ?_
      refine ListK.field (i := 2) (u := .pointer (some ⟨b3, 0, none⟩)) (v := .pointer (some ⟨b3, 2, none⟩)) rfl (by simp [u3]) (fa24_2 _) ?_
      refine ListK.load (i := 3) (p := ⟨b3, 2, none⟩) (v := .slice A l.length c) rfl (by simp [hz_a1]) (ld22 (q2')) ?_
      refine ListK.len (i := 4) (u := .slice A l.length c) (v := .int .i64 l.length) rfl (by simp [hz_a1]) (ln22 _ _ _ _ _) rfl ?_
      refine ListK.bin (i := 5) (u := .int .i64 ord.length) (u' := .int .i64 l.length) (v := .bool false) rfl (by simp [hz_a1]) (by simp [hz_a1]) (neqF (by omega) _) ?_
      refine ListK.move (i := 6) (v := .bool false) rfl (by simp [hz_a1]) ?_
      refine ListK.move (i := 7) (v := .slice A2 dys.length c2) rfl (by simp [u2]) ?_ (hw := wanted_g (e := 15) (b' := false) rfl (by simp [hz_a1]) rfl)
      refine ListK.lenW (i := 8) (u := .slice A2 dys.length c2) (v := .int .i64 dys.length) rfl (by simp [hz_a1]) (ln25 _ _ _ _ _) rfl ?_ (hw := wanted_g (e := 15) (b' := false) rfl (by simp [hz_a1]) rfl)
      refine ListK.field (i := 9) (u := .pointer (some ⟨b3, 0, none⟩)) (v := .pointer (some ⟨b3, 2, none⟩)) rfl (by simp [u3]) (fa24_2 _) ?_ (hw := wanted_g (e := 15) (b' := false) rfl (by simp [hz_a1]) rfl)
      refine ListK.load (i := 10) (p := ⟨b3, 2, none⟩) (v := .slice A l.length c) rfl (by simp [hz_a1]) (ld22 (q2')) ?_ (hw := wanted_g (e := 15) (b' := false) rfl (by simp [hz_a1]) rfl)
      refine ListK.lenW (i := 11) (u := .slice A l.length c) (v := .int .i64 l.length) rfl (by simp [hz_a1]) (ln22 _ _ _ _ _) rfl ?_ (hw := wanted_g (e := 15) (b' := false) rfl (by simp [hz_a1]) rfl)
      refine ListK.bin (i := 12) (u := .int .i64 dys.length) (u' := .int .i64 l.length) (v := .bool true) rfl (by simp [hz_a1]) (by simp [hz_a1]) (neqT (by omega) _) ?_ (hw := wanted_g (e := 15) (b' := false) rfl (by simp [hz_a1]) rfl)
      refine ListK.pick (i := 13) (b := false) (v := .bool true) rfl (by simp [hz_a1]) (by simp [hz_a1]) ?_
      refine ListK.done (hK _ _ ?_)
      clear hK K
      refine wpIn_cond (t := true) (by simp [hz_a1]) ?_
      generalize hA : Act.put _ _ _ = a2
      have hz_a2 : a2.tmps.size = 66 := by rw [← hA]; simp only [size_put, hz_a1]
      have v1 : a2.eval (.tmp 1) = .slice A1 ord.length c1 := by rw [← hA]; exact (by simp [u1])
      have hd_a2 : a2.defers = [] := by rw [← hA]; simp only [defers_put, hd_a1]
      clear hA
      refine wpIn_seq (region_p 1 ?_)
      intro K hK
      refine ListK.assign (i := 0) (v := .bool false) rfl (by simp) ?_
      refine ListK.done (hK _ _ (wpIn_ret ?_))
      show bodyPost Try.prog Try.f22 (TP W (truthB t l ord dys)) Exit.ret _ _
      exact hret _ _ false (by simp only [defers_put, hd_a2]) (by simp [hz_a2]) hB1 (by rw [truthB]; simp [hlen2])
  · skip
    refine wpIn_seq (wpIn_seq (region_p 14 ?_))
    intro K hK
    refine ListK.move (i := 0) (v := .slice A1 ord.length c1) rfl (by simp [u1]) ?_
    refine ListK.len (i := 1) (u := .slice A1 ord.length c1) (v := .int .i64 ord.length) rfl (by simp [hz_a1]) (ln25 _ _ _ _ _) rfl ?_
    refine ListK.field (i := 2) (u := .pointer (some ⟨b3, 0, none⟩)) (v := .pointer (some ⟨b3, 2, none⟩)) rfl (by simp [u3]) (fa24_2 _) ?_
    refine ListK.load (i := 3) (p := ⟨b3, 2, none⟩) (v := .slice A l.length c) rfl (by simp [hz_a1]) (ld22 (q2')) ?_
    refine ListK.len (i := 4) (u := .slice A l.length c) (v := .int .i64 l.length) rfl (by simp [hz_a1]) (ln22 _ _ _ _ _) rfl ?_
    refine ListK.bin (i := 5) (u := .int .i64 ord.length) (u' := .int .i64 l.length) (v := .bool true) rfl (by simp [hz_a1]) (by simp [hz_a1]) (neqT (by omega) _) ?_
    refine ListK.move (i := 6) (v := .bool true) rfl (by simp [hz_a1]) ?_
    refine ListK.passG (i := 7) (e := 15) (b' := true) rfl rfl (by simp [hz_a1]) rfl ?_
    refine ListK.passG (i := 8) (e := 15) (b' := true) rfl rfl (by simp [hz_a1]) rfl ?_
    refine ListK.passG (i := 9) (e := 15) (b' := true) rfl rfl (by simp [hz_a1]) rfl ?_
    refine ListK.passG (i := 10) (e := 15) (b' := true) rfl rfl (by simp [hz_a1]) rfl ?_
    refine ListK.passG (i := 11) (e := 15) (b' := true) rfl rfl (by simp [hz_a1]) rfl ?_
    refine ListK.passG (i := 12) (e := 15) (b' := true) rfl rfl (by simp [hz_a1]) rfl ?_
    refine ListK.pick (i := 13) (b := true) (v := .bool true) rfl (by simp [hz_a1]) (by simp) ?_
    refine ListK.done (hK _ _ ?_)
    clear hK K
    refine wpIn_cond (t := true) (by simp [hz_a1]) ?_
    generalize hA : Act.put _ _ _ = a2
    have hz_a2 : a2.tmps.size = 66 := by rw [← hA]; simp only [size_put, hz_a1]
    have v1 : a2.eval (.tmp 1) = .slice A1 ord.length c1 := by rw [← hA]; exact (by simp [u1])
    have hd_a2 : a2.defers = [] := by rw [← hA]; simp only [defers_put, hd_a1]
    clear hA
    refine wpIn_seq (region_p 1 ?_)
    intro K hK
    refine ListK.assign (i := 0) (v := .bool false) rfl (by simp) ?_
    refine ListK.done (hK _ _ (wpIn_ret ?_))
    show bodyPost Try.prog Try.f22 (TP W (truthB t l ord dys)) Exit.ret _ _
    exact hret _ _ false (by simp only [defers_put, hd_a2]) (by simp [hz_a2]) hB1 (by rw [truthB]; simp [hlen])
end Go.Proofs.Ytfcnombmphophaa

namespace Go.Proofs.Ytfcnombmphophaa
open Go.RowKit Go.Shelf
/-- The memory of Batch: the batch at block h, the result at h + 1, what is made at h + 2; a list of sales that is owned. -/
structure BtM (w : World) (h : Nat) (o t : Int) (A : Option Addr) (n c : Nat) (v : Value) (xs : List Sale) (W : World) : Prop where
  kb : Whole W h 24 #[.int .i64 o, .int .i64 t, .slice A n c]
  kr : Whole W (h + 1) 31 #[.int .i64 0, .int .i64 0, .slice none 0 0]
  kx : Whole W (h + 2) 31 #[.int .i64 o, .int .i64 t, v]
  low : Below h w W
  own : W.ownsRow (h + 3) 61 5 v xs.length (salesL xs)
section
variable {w W W' : World} {h : Nat} {o t : Int} {A : Option Addr} {n c : Nat} {v : Value} {xs : List Sale}
theorem BtM.base (b : BtM w h o t A n c v xs W) : h + 3 ≤ W.heap.size := b.kx.lt
theorem BtM.below (b : BtM w h o t A n c v xs W) (hb : Below W.heap.size W W') : BtM w h o t A n c v xs W' :=
  ⟨b.kb.below hb b.kb.lt, b.kr.below hb b.kr.lt, b.kx.below hb b.kx.lt, b.low.trans (hb.mono (by have := b.base; omega)), b.own.kept (grown_of_below hb) (by cases v.ownBlock <;> simp)⟩
theorem BtM.far (b : BtM w h o t A n c v xs W) {g : Nat} (hg : g < h + 3) : some g ≠ v.ownBlock := fun e => by have := (b.own.lt g e.symm).1; omega
theorem BtM.put (b : BtM w h o t A n c v xs W) {g cap : Nat} {s : Sale} (hown : W'.ownsRow (h + 3) 61 5 (.slice (some ⟨g, 0, none⟩) (xs.length + 1) cap) (xs.length + 1) (salesL xs ++ saleL s)) (hgr : W.grownBy W' v.ownBlock) :
    BtM w h o t A n c (.slice (some ⟨g, 0, none⟩) (xs.length + 1) cap) (xs ++ [s]) (W'.setCell ⟨h + 2, 2, none⟩ (.slice (some ⟨g, 0, none⟩) (xs.length + 1) cap)) := by
  have k0 : Whole W' h 24 _ := (hgr.block _ b.kb.lt (b.far (by omega))).trans b.kb
  have k1 : Whole W' (h + 1) 31 _ := (hgr.block _ b.kr.lt (b.far (by omega))).trans b.kr
  have k2 : Whole W' (h + 2) 31 _ := (hgr.block _ b.kx.lt (b.far (by omega))).trans b.kx
  have hlo : Below h w W' := b.low.grown hgr (by have := b.base; omega) (fun k e => by have := (b.own.lt k e).1; omega)
  refine ⟨k0.far (by simp) _, k1.far (by simp) _, k2.set 2 _, hlo.setCell (p := ⟨h + 2, 2, none⟩) (by simp) _, ?_⟩
  rw [salesL_app]
  refine World.ownsRow.kept ?_ (grown_set W' ⟨h + 2, 2, none⟩ _) (.inr ?_)
  · simpa using hown
  · intro e
    have hg : g = h + 2 := by simpa [Value.ownBlock] using e
    have := (hown.lt g rfl).1
    omega
end
theorem bd46r (x y : Int) (w : World) : (Instr.build 46 #[(0, .int .i64 x), (1, .int .i64 y)]).run Try.prog w = .ok (.agg #[.int .i64 x, .int .i64 y]) w := by
  go_simp
theorem bd61r (s : Sale) (w : World) : (Instr.build 61 #[(0, .int .i64 s.src), (1, .int .i64 s.dst), (2, .int .i64 s.many), (3, .agg #[.int .i64 s.lo, .int .i64 s.hi])]).run Try.prog w = .ok (saleV s) w := by
  unfold saleV
  go_simp
noncomputable def opsBa0 : Array Oper := (Try.f18.body.bind (regionOf 0)).getD #[]
noncomputable def opsBa1 : Array Oper := (Try.f18.body.bind (regionOf 1)).getD #[]
noncomputable def opsBa2 : Array Oper := (Try.f18.body.bind (regionOf 2)).getD #[]
noncomputable def opsBa3 : Array Oper := (Try.f18.body.bind (regionOf 3)).getD #[]
noncomputable def opsBa4 : Array Oper := (Try.f18.body.bind (regionOf 4)).getD #[]
noncomputable def opsBa5 : Array Oper := (Try.f18.body.bind (regionOf 5)).getD #[]
noncomputable def opsBa6 : Array Oper := (Try.f18.body.bind (regionOf 6)).getD #[]
noncomputable def opsBa7 : Array Oper := (Try.f18.body.bind (regionOf 7)).getD #[]
noncomputable def roundBa : Code := .seq (.seq (.region 3 opsBa3 false) (.cond (.tmp 15) .skip (.exit 0))) (.seq (.block 1 (.seq (.region 5 opsBa5 false) (.region 6 opsBa6 false))) (.region 4 opsBa4 false))
noncomputable def code18 : Code := .seq (.region 0 opsBa0 false) (.seq (.region 1 opsBa1 false) (.seq (.seq (.region 2 opsBa2 false) (.block 0 (.loop roundBa))) (.seq (.region 7 opsBa7 false) .ret)))
theorem body18 : Try.f18.body = some code18 := by kernel_rfl
set_option maxRecDepth 10000 in
set_option maxHeartbeats 2000000 in
theorem batch_any (o t : Int) (A : Option Addr) (l : List Sale) (c : Nat) (W : World) (hl : l.length ≤ 60) (hs : SalesAt W W.heap.size A l) :
    Calls Try.prog 18 #[.agg #[.int .i64 o, .int .i64 t, .slice A l.length c]] W
      fun e w' => ∃ A' c', e = .returned (.agg #[.int .i64 o, .int .i64 t, .slice A' l.length c']) ∧ SalesAt w' w'.heap.size A' l ∧ Below W.heap.size W w' := by
  refine (callsIn_wide (n := 5)).1 (callsIn_of_wp Try.func18 body18 trivial ?_ rfl)
  obtain ⟨a, ha⟩ : ∃ a : Act, a = { tmps := #[.agg #[.int .i64 o, .int .i64 t, .slice A l.length c]] ++ Array.replicate (Try.f18.ntmps - (#[.agg #[.int .i64 o, .int .i64 t, .slice A l.length c]] : Array Value).size) undef, defers := [] } := ⟨_, rfl⟩
  have hsz : a.tmps.size = 43 := by rw [ha]; simp [Try.ntmps18]
  have t0 : a.eval (.tmp 0) = .agg #[.int .i64 o, .int .i64 t, .slice A l.length c] := by rw [ha]; simp [Act.eval]
  have hdf : a.defers = [] := by rw [ha]
  rw [← ha]
  clear ha
  unfold code18
  refine wpIn_seq (region_p 2 ?_)
  intro K hK
  refine ListK.box (i := 0) (u := .agg #[.int .i64 o, .int .i64 t, .slice A l.length c]) rfl (by simp [t0]) (bx24 W _ _ _ _ _) ?_
  refine ListK.alloc (i := 1) rfl (al31 _) ?_
  refine ListK.done (hK _ _ ?_)
  clear hK K
  generalize hA : Act.put _ _ _ = a1
  have hz_a1 : a1.tmps.size = 43 := by rw [← hA]; simp only [size_put, hsz]
  have u1 : a1.eval (.tmp 1) = .pointer (some ⟨W.heap.size, 0, none⟩) := by rw [← hA]; exact (by simp [hsz])
  have u2 : a1.eval (.tmp 2) = .pointer (some ⟨(W.alloc (.cells #[.int .i64 o, .int .i64 t, .slice A l.length c] 24)).heap.size, 0, none⟩) := by rw [← hA]; exact (by simp [hsz])
  have hd_a1 : a1.defers = [] := by rw [← hA]; simp only [defers_put, hdf]
  clear hA
  rw [World.size_alloc] at u2
  have wb := (Whole.new W 24 #[.int .i64 o, .int .i64 t, .slice A l.length c]).alloc (.cells #[.int .i64 0, .int .i64 0, .slice none 0 0] 31)
  have wr := Whole.new (W.alloc (.cells #[.int .i64 o, .int .i64 t, .slice A l.length c] 24)) 31 #[.int .i64 0, .int .i64 0, .slice none 0 0]
  have hB1 : Below W.heap.size W ((W.alloc (.cells #[.int .i64 o, .int .i64 t, .slice A l.length c] 24)).alloc (.cells #[.int .i64 0, .int .i64 0, .slice none 0 0] 31)) := ((Below.refl _ W).alloc (Nat.le_refl _) _).alloc (by simp) _
  have hz1 : ((W.alloc (.cells #[.int .i64 o, .int .i64 t, .slice A l.length c] 24)).alloc (.cells #[.int .i64 0, .int .i64 0, .slice none 0 0] 31)).heap.size = W.heap.size + 2 := by simp
  rw [World.size_alloc] at wr
  generalize hh : W.heap.size = h at *
  generalize (W.alloc (.cells #[.int .i64 o, .int .i64 t, .slice A l.length c] 24)).alloc (.cells #[.int .i64 0, .int .i64 0, .slice none 0 0] 31) = W1 at *
  refine wpIn_seq (region_p 7 ?_)
  intro K hK
  refine ListK.field (i := 0) (u := .pointer (some ⟨h, 0, none⟩)) (v := .pointer (some ⟨h, 0, none⟩)) rfl (by simp [u1]) (fa24_0 _) ?_
  refine ListK.load (i := 1) (p := ⟨h, 0, none⟩) (v := .int .i64 o) rfl (by simp [hz_a1]) (ld3 (wb.cell 0)) ?_
  refine ListK.field (i := 2) (u := .pointer (some ⟨h, 0, none⟩)) (v := .pointer (some ⟨h, 1, none⟩)) rfl (by simp [u1]) (fa24_1 _) ?_
  refine ListK.load (i := 3) (p := ⟨h, 1, none⟩) (v := .int .i64 t) rfl (by simp [hz_a1]) (ld3 (wb.cell 1)) ?_
  refine ListK.bld (i := 4) (ps := #[(0, .int .i64 o), (1, .int .i64 t)]) (v := .agg #[.int .i64 o, .int .i64 t, .slice none 0 0]) rfl (by simp [hz_a1]) (bd31 _ _ _) ?_
  refine ListK.alloc (i := 5) rfl (al31 W1) ?_
  refine ListK.store (i := 6) (u := .pointer (some ⟨W1.heap.size, 0, none⟩)) (u' := .agg #[.int .i64 o, .int .i64 t, .slice none 0 0]) rfl (by simp [hz_a1]) (by simp [hz_a1]) (st31n W1 _ _ _ _ _) ?_
  refine ListK.done (hK _ _ ?_)
  clear hK K
  generalize hA : Act.put _ _ _ = a2
  have hz_a2 : a2.tmps.size = 43 := by rw [← hA]; simp only [size_put, hz_a1]
  have v1 : a2.eval (.tmp 1) = .pointer (some ⟨h, 0, none⟩) := by rw [← hA]; exact (by simp [u1])
  have v2 : a2.eval (.tmp 2) = .pointer (some ⟨h + 1, 0, none⟩) := by rw [← hA]; exact (by simp [u2])
  have v3 : a2.eval (.tmp 3) = .pointer (some ⟨W1.heap.size, 0, none⟩) := by rw [← hA]; exact (by simp [hz_a1])
  have hd_a2 : a2.defers = [] := by rw [← hA]; simp only [defers_put, hd_a1]
  clear hA
  have hm : BtM W h o t A l.length c (.slice none 0 0) [] (W1.alloc (.cells #[.int .i64 o, .int .i64 t, .slice none 0 0] 31)) := by
    refine ⟨wb.alloc _, wr.alloc _, ?_, hB1.alloc (by omega) _, World.ownsRow_nil _ _ _ _⟩
    have := Whole.new W1 31 #[.int .i64 o, .int .i64 t, .slice none 0 0]
    rwa [hz1] at this
  generalize W1.alloc (.cells #[.int .i64 o, .int .i64 t, .slice none 0 0] 31) = W2 at *
  rw [hz1] at v3
  refine wpIn_seq (wpIn_seq (region_p 1 ?_))
  intro K hK
  refine ListK.assign (i := 0) (v := .int .i64 0) rfl (by simp) ?_
  refine ListK.done (hK _ _ ?_)
  clear hK K
  refine wpIn_block (wpIn_loop (fun a W' => ∃ (k : Nat) (v : Value), k ≤ l.length ∧ a.tmps.size = 43 ∧ a.defers = [] ∧ a.eval (.tmp 1) = .pointer (some ⟨h, 0, none⟩) ∧ a.eval (.tmp 2) = .pointer (some ⟨h + 1, 0, none⟩) ∧ a.eval (.tmp 3) = .pointer (some ⟨h + 2, 0, none⟩) ∧ a.eval (.tmp 4) = .int .i64 k ∧ BtM W h o t A l.length c v (l.take k) W') (fun a _ => l.length - (intOf (a.eval (.tmp 4))).toNat)
    ⟨0, _, Nat.zero_le _, by simp only [size_put, hz_a2], by simp only [defers_put, hd_a2], (by simp [v1]), (by simp [v2]), (by simp [v3]), (by simp [hz_a2]), hm⟩ ?_)
  clear hsz t0 hdf hz_a1 u1 u2 hd_a1 hz_a2 v1 v2 v3 hd_a2 a a1 a2 wb wr hB1 hz1 hm
  rintro a W2 ⟨k, v, hk, hsz, hdf, t1, t2, t3, t4, hm⟩
  have hkb2 := hm.kb.cell 2
  refine wpIn_seq (wpIn_seq (region_p 5 ?_))
  intro K hK
  refine ListK.move (i := 0) (v := .int .i64 k) rfl (by simp [t4]) ?_
  refine ListK.field (i := 1) (u := .pointer (some ⟨h, 0, none⟩)) (v := .pointer (some ⟨h, 2, none⟩)) rfl (by simp [t1]) (fa24_2 _) ?_
  refine ListK.load (i := 2) (p := ⟨h, 2, none⟩) (v := .slice A l.length c) rfl (by simp [hsz]) (ld22 (hkb2)) ?_
  refine ListK.len (i := 3) (u := .slice A l.length c) (v := .int .i64 l.length) rfl (by simp [hsz]) (ln22 _ _ _ _ _) rfl ?_
  refine ListK.bin (i := 4) (u := .int .i64 k) (u' := .int .i64 (l.length : Int)) (v := .bool (decide (k < (l.length : Int)))) rfl (by simp [hsz]) (by simp [hsz]) (lss3 _) ?_
  refine ListK.done (hK _ _ ?_)
  clear hK K
  have htl : (l.take k).length = k := by rw [List.length_take]; omega
  by_cases hkl : k < l.length
  · refine wpIn_cond (t := true) (by simp [hsz]; omega) (wpIn_skip ?_)
    generalize hA : Act.put _ _ _ = a1
    have hz_a1 : a1.tmps.size = 43 := by rw [← hA]; simp only [size_put, hsz]
    have u1 : a1.eval (.tmp 1) = .pointer (some ⟨h, 0, none⟩) := by rw [← hA]; exact (by simp [t1])
    have u2 : a1.eval (.tmp 2) = .pointer (some ⟨h + 1, 0, none⟩) := by rw [← hA]; exact (by simp [t2])
    have u3 : a1.eval (.tmp 3) = .pointer (some ⟨h + 2, 0, none⟩) := by rw [← hA]; exact (by simp [t3])
    have u4 : a1.eval (.tmp 4) = .int .i64 k := by rw [← hA]; exact (by simp [t4])
    have hd_a1 : a1.defers = [] := by rw [← hA]; simp only [defers_put, hdf]
    clear hA
    have htk := List.take_succ_eq_append_getElem hkl
    obtain ⟨b, off, hA, hbB, s0, s1, s2, s3, s4⟩ := (hs.below hm.low (Nat.le_refl _)) k _ (List.getElem?_eq_getElem hkl)
    subst hA
    generalize l[k] = s at *
    show (Code.seq _ _).wpIn _ _ _ _ _ _
    refine wpIn_seq (wpIn_block (wpIn_seq (region_p 7 ?_)))
    intro K5 hK5
    refine ListK.field (i := 0) (u := .pointer (some ⟨h, 0, none⟩)) (v := .pointer (some ⟨h, 2, none⟩)) rfl (by simp [u1]) (fa24_2 _) ?_
    refine ListK.load (i := 1) (p := ⟨h, 2, none⟩) (v := .slice (some ⟨b, off, none⟩) l.length c) rfl (by simp [hz_a1]) (ld22 (hkb2)) ?_
    refine ListK.move (i := 2) (v := .int .i64 k) rfl (by simp [u4]) ?_
    refine ListK.index (i := 3) (u := .slice (some ⟨b, off, none⟩) l.length c) (u' := .int .i64 k) (v := .pointer (some ⟨b, off + k * 5, none⟩)) rfl (by simp [hz_a1]) (by simp [hz_a1]) (ix22 hkl _) ?_
    refine ListK.load (i := 4) (p := ⟨b, off + k * 5, none⟩) (v := saleV s) rfl (by simp [hz_a1]) (ld73 s0 s1 s2 s3 s4) ?_
    refine ListK.alloc (i := 5) rfl (al73 W2) ?_
    refine ListK.store (i := 6) (u := .pointer (some ⟨W2.heap.size, 0, none⟩)) (u' := saleV s) rfl (by simp [hz_a1]) (by simp [hz_a1]) (sa73 W2 _) ?_
    refine ListK.done (hK5 _ _ ?_)
    have hwx := Whole.new W2 73 (saleC s)
    have hm1 := hm.below ((Below.refl _ W2).alloc (Nat.le_refl _) (.cells (saleC s) 73))
    generalize hbx : W2.heap.size = bx at *
    generalize W2.alloc (.cells (saleC s) 73) = W3 at *
    clear hm s0 s1 s2 s3 s4 hkb2 hbx W2
    generalize hA : Act.put _ _ _ = a2
    have hz_a2 : a2.tmps.size = 43 := by rw [← hA]; simp only [size_put, hz_a1]
    have x1 : a2.eval (.tmp 1) = .pointer (some ⟨h, 0, none⟩) := by rw [← hA]; exact (by simp [u1])
    have x2 : a2.eval (.tmp 2) = .pointer (some ⟨h + 1, 0, none⟩) := by rw [← hA]; exact (by simp [u2])
    have x3 : a2.eval (.tmp 3) = .pointer (some ⟨h + 2, 0, none⟩) := by rw [← hA]; exact (by simp [u3])
    have x4 : a2.eval (.tmp 4) = .int .i64 k := by rw [← hA]; exact (by simp [u4])
    have x5 : a2.eval (.tmp 5) = .pointer (some ⟨bx, 0, none⟩) := by rw [← hA]; exact (by simp [hz_a1])
    have hd_a2 : a2.defers = [] := by rw [← hA]; simp only [defers_put, hd_a1]
    clear hA
    have c0 : W3.cell? ⟨bx, 0, none⟩ = some (.int .i64 s.src) := hwx.cell 0
    have c1 : W3.cell? ⟨bx, 1, none⟩ = some (.int .i64 s.dst) := hwx.cell 1
    have c2 : W3.cell? ⟨bx, 2, none⟩ = some (.int .i64 s.many) := hwx.cell 2
    have c3 : W3.cell? ⟨bx, 3, none⟩ = some (.int .i64 s.lo) := hwx.cell 3
    have c4 : W3.cell? ⟨bx, 4, none⟩ = some (.int .i64 s.hi) := hwx.cell 4
    have hkx2 := hm1.kx.cell 2
    show (Code.region 6 opsBa6 false).wpIn _ _ _ _ _ _
    refine region_p 20 ?_
    intro K6 hK6
    refine ListK.field (i := 0) (u := .pointer (some ⟨h + 2, 0, none⟩)) (v := .pointer (some ⟨h + 2, 2, none⟩)) rfl (by simp [x3]) (fa31_2 _) ?_
    refine ListK.load (i := 1) (p := ⟨h + 2, 2, none⟩) (v := v) rfl (by simp [hz_a2]) (ld29 (hkx2)) ?_
    refine ListK.field (i := 2) (u := .pointer (some ⟨bx, 0, none⟩)) (v := .pointer (some ⟨bx, 0, none⟩)) rfl (by simp [x5]) (fa73_0 _) ?_
    refine ListK.load (i := 3) (p := ⟨bx, 0, none⟩) (v := .int .i64 s.src) rfl (by simp [hz_a2]) (ld3 (c0)) ?_
    refine ListK.field (i := 4) (u := .pointer (some ⟨bx, 0, none⟩)) (v := .pointer (some ⟨bx, 1, none⟩)) rfl (by simp [x5]) (fa73_1 _) ?_
    refine ListK.load (i := 5) (p := ⟨bx, 1, none⟩) (v := .int .i64 s.dst) rfl (by simp [hz_a2]) (ld3 (c1)) ?_
    refine ListK.field (i := 6) (u := .pointer (some ⟨bx, 0, none⟩)) (v := .pointer (some ⟨bx, 2, none⟩)) rfl (by simp [x5]) (fa73_2 _) ?_
    refine ListK.load (i := 7) (p := ⟨bx, 2, none⟩) (v := .int .i64 s.many) rfl (by simp [hz_a2]) (ld3 (c2)) ?_
    refine ListK.field (i := 8) (u := .pointer (some ⟨bx, 0, none⟩)) (v := .pointer (some ⟨bx, 3, none⟩)) rfl (by simp [x5]) (fa73_3 _) ?_
    refine ListK.field (i := 9) (u := .pointer (some ⟨bx, 3, none⟩)) (v := .pointer (some ⟨bx, 3, none⟩)) rfl (by simp [hz_a2]) (fa71_0 _) ?_
    refine ListK.load (i := 10) (p := ⟨bx, 3, none⟩) (v := .int .i64 s.lo) rfl (by simp [hz_a2]) (ld3 (c3)) ?_
    refine ListK.field (i := 11) (u := .pointer (some ⟨bx, 0, none⟩)) (v := .pointer (some ⟨bx, 3, none⟩)) rfl (by simp [x5]) (fa73_3 _) ?_
    refine ListK.field (i := 12) (u := .pointer (some ⟨bx, 3, none⟩)) (v := .pointer (some ⟨bx, 4, none⟩)) rfl (by simp [hz_a2]) (fa71_1 _) ?_
    refine ListK.load (i := 13) (p := ⟨bx, 4, none⟩) (v := .int .i64 s.hi) rfl (by simp [hz_a2]) (ld3 (c4)) ?_
    refine ListK.bld (i := 14) (ps := #[(0, .int .i64 s.lo), (1, .int .i64 s.hi)]) (v := .agg #[.int .i64 s.lo, .int .i64 s.hi]) rfl (by simp [hz_a2]) (bd46r _ _ _) ?_
    refine ListK.bld (i := 15) (ps := #[(0, .int .i64 s.src), (1, .int .i64 s.dst), (2, .int .i64 s.many), (3, .agg #[.int .i64 s.lo, .int .i64 s.hi])]) (v := saleV s) rfl (by simp [hz_a2]) (bd61r _ _) ?_
    refine ListK.bsl (i := 16) (ps := #[(0, saleV s)]) (v := .slice (some ⟨W3.heap.size, 0, none⟩) 1 1) rfl (by simp [hz_a2]) (bs29_1 _ _) ?_
    have hm2 := hm1.below ((Below.refl _ W3).alloc (Nat.le_refl _) (.cells (saleC s) 61))
    have hnw := news5 (W := W3) s 61
    generalize W3.alloc (.cells (saleC s) 61) = W4 at *
    refine ListK.append61 (i := 17) rfl hm2.own (by simp [hz_a2]) ⟨W3.heap.size, 0, none⟩ 1 (saleL s) (by simp [hz_a2]) rfl hnw (by simp [saleL, Value.oneCell']) (by unfold maxLen; omega) (by omega) hm2.base ?_
    intro g cap W5 hown hgr hat
    have hm3 := hm2.put hown hgr
    have hc2 : W5.cell? ⟨h + 2, 2, none⟩ = some v := (hgr.cell (hm2.kx.cell 2) (hm2.far (by simp)))
    have hf2 : W5.frozen? ⟨h + 2, 2, none⟩ = false := (hgr.frozen_far ⟨h + 2, 2, none⟩ hm2.kx.lt (hm2.far (by simp))).trans (hm2.kx.frozen 2)
    refine ListK.field (i := 18) (u := .pointer (some ⟨h + 2, 0, none⟩)) (v := .pointer (some ⟨h + 2, 2, none⟩)) rfl (by simp [x3]) (fa31_2 _) ?_
    refine ListK.store (i := 19) (u := .pointer (some ⟨h + 2, 2, none⟩)) (u' := .slice (some ⟨g, 0, none⟩) ((l.take k).length + 1) cap) rfl (by simp [hz_a2]) (by simp [hz_a2]) (st29 hc2 hf2) ?_
    refine ListK.done (hK6 _ _ ?_)
    generalize hA : Act.put _ _ _ = a3
    have hz_a3 : a3.tmps.size = 43 := by rw [← hA]; simp only [size_put, hz_a2]
    have y1 : a3.eval (.tmp 1) = .pointer (some ⟨h, 0, none⟩) := by rw [← hA]; exact (by simp [x1])
    have y2 : a3.eval (.tmp 2) = .pointer (some ⟨h + 1, 0, none⟩) := by rw [← hA]; exact (by simp [x2])
    have y3 : a3.eval (.tmp 3) = .pointer (some ⟨h + 2, 0, none⟩) := by rw [← hA]; exact (by simp [x3])
    have y4 : a3.eval (.tmp 4) = .int .i64 k := by rw [← hA]; exact (by simp [x4])
    have hd_a3 : a3.defers = [] := by rw [← hA]; simp only [defers_put, hd_a2]
    clear hA
    show (Code.region 4 opsBa4 false).wpIn _ _ _ _ _ _
    refine region_p 3 ?_
    intro K4 hK4
    refine ListK.move (i := 0) (v := .int .i64 k) rfl (by simp [y4]) ?_
    refine ListK.bin (i := 1) (u := .int .i64 k) (u' := .int .i64 1) (v := .int .i64 (k + 1)) rfl (by simp [hz_a3]) (by simp) (add3 (by omega) (by omega) _) ?_
    refine ListK.assign (i := 2) (v := .int .i64 ((k + 1 : Nat) : Int)) rfl (by simp [hz_a3]) ?_
    skip
    have hmu : ∀ b : Act, b.eval (.tmp 4) = .int .i64 ((k + 1 : Nat) : Int) → l.length - (intOf (b.eval (.tmp 4))).toNat < l.length - (intOf (a.eval (.tmp 4))).toNat := by
      intro b e
      rw [e, t4]
      simp only [intOf]
      omega
    refine ListK.done (hK4 _ _ ⟨⟨k + 1, _, by omega, by simp only [size_put, hz_a3], by simp only [defers_put, hd_a3], (by simp [y1]), (by simp [y2]), (by simp [y3]), (by simp [hz_a3]), by rw [htk]; exact hm3⟩, hmu _ (by simp [hz_a3])⟩)
  · obtain rfl : k = l.length := by omega
    refine wpIn_cond (t := false) (by simp [hsz]) (wpIn_exit ?_)
    generalize hA : Act.put _ _ _ = a1
    have hz_a1 : a1.tmps.size = 43 := by rw [← hA]; simp only [size_put, hsz]
    have u1 : a1.eval (.tmp 1) = .pointer (some ⟨h, 0, none⟩) := by rw [← hA]; exact (by simp [t1])
    have u2 : a1.eval (.tmp 2) = .pointer (some ⟨h + 1, 0, none⟩) := by rw [← hA]; exact (by simp [t2])
    have u3 : a1.eval (.tmp 3) = .pointer (some ⟨h + 2, 0, none⟩) := by rw [← hA]; exact (by simp [t3])
    have hd_a1 : a1.defers = [] := by rw [← hA]; simp only [defers_put, hdf]
    clear hA
    rw [List.take_length] at hm
    obtain ⟨A', c', rfl, hsa⟩ := sales_of_owns hm.own
    have ht2 := hm.kx
    have x0 := ht2.cell 0
    have x1 := ht2.cell 1
    have x2 := ht2.cell 2
    have r := hm.kr
    show (Code.seq _ _).wpIn _ _ _ _ _ _
    refine wpIn_seq (region_p 2 ?_)
    intro K hK
    refine ListK.load (i := 0) (p := ⟨h + 2, 0, none⟩) (v := .agg #[.int .i64 o, .int .i64 t, .slice A' l.length c']) rfl (by simp [u3]) (ld31' ⟨x0, x1, x2⟩) ?_
    refine ListK.store (i := 1) (u := .pointer (some ⟨h + 1, 0, none⟩)) (u' := .agg #[.int .i64 o, .int .i64 t, .slice A' l.length c']) rfl (by simp [u2]) (by simp [hz_a1]) (st31 (r.cell 0) (r.cell 1) (r.cell 2) (r.frozen 0) (r.frozen 1) (r.frozen 2)) ?_
    refine ListK.done (hK _ _ (wpIn_ret ?_))
    have k3 := ((r.set 0 (.int .i64 o)).set 1 (.int .i64 t)).set 2 (.slice A' l.length c')
    refine bodyPost_ret (res31 (b := h + 1) Try.results18 (by simp [u2]) (k3.cell 0) (k3.cell 1) (k3.cell 2)) (by simp only [defers_put, hd_a1]) ⟨A', c', rfl, ?_, ?_⟩
    · have hne : ∀ k s, l[k]? = some s → ∃ b off, A' = some ⟨b, off, none⟩ ∧ b < W2.heap.size ∧ b ≠ h + 1 ∧ SaleAt W2 b off k s := by
        intro k s hks
        obtain ⟨b, off, e1, e2, e3⟩ := hsa k s hks
        refine ⟨b, off, e1, e2, ?_, e3⟩
        rcases hm.own.2 with ⟨e4, _⟩ | ⟨g, cap, cur, e4, e5, _⟩
        · rw [e1] at e4; cases e4
        · rw [e1] at e4; cases e4; omega
      intro k s hks
      obtain ⟨b, off, e1, e2, e3, e4⟩ := hne k s hks
      refine ⟨b, off, e1, by simpa [World.setCell] using e2, e4.keep fun i => ?_⟩
      rw [cell_set_far (by simpa using e3), cell_set_far (by simpa using e3), cell_set_far (by simpa using e3)]
    · have hlow := hm.low
      exact ((hlow.setCell (p := ⟨h + 1, 0, none⟩) (by simp) _).setCell (p := ⟨h + 1, 1, none⟩) (by simp) _).setCell (p := ⟨h + 1, 2, none⟩) (by simp) _
end Go.Proofs.Ytfcnombmphophaa

namespace Go.Proofs.Ytfcnombmphophaa
open Go.RowKit Go.Shelf
section
variable {ops : Array Oper} {K : Act → World → Prop} {k i d : Nat} {a : Act} {w : World} {ty : TypeId} {pos : String} {aft : Array Edge}
end
end Go.Proofs.Ytfcnombmphophaa

namespace Go.Proofs.Ytfcnombmphophaa
open Go.RowKit Go.Shelf
theorem hasI_app (l : List Int) (x n : Int) : hasI (l ++ [x]) n = (hasI l n || x == n) := by
  simp [hasI]
theorem stockR_app (t : Int) (l : List Sale) (pre : List Int) (n ow : Int) : stockR t l (pre ++ [n]) ow = stepR l ow (stockR t l pre ow) n := by
  simp [stockR]
theorem sold_step {l : List Sale} {st : Nat → Int} {n : Nat} {x : Int} {i : Nat} (hn : n < l.length) (h0 : 0 ≤ (saleOf l n).src) (h1 : 0 ≤ (saleOf l n).dst) (hne : (saleOf l n).src ≠ (saleOf l n).dst) (hx : st i = x) : sold st (saleOf l n) i = stepR l i x n := by
  rw [sold_delta, hx]
  unfold stepR delta
  rw [Int.toNat_natCast]
  generalize saleOf l n = s at *
  obtain ⟨a, b, m, lo, hi⟩ := s
  simp only [] at *
  have e1 : (i = b.toNat) = (b = (i : Int)) := propext ⟨fun h => by omega, fun h => by omega⟩
  have e2 : (i = a.toNat) = (a = (i : Int)) := propext ⟨fun h => by omega, fun h => by omega⟩
  simp only [e1, e2]
  split <;> split <;> omega
theorem isGo_prove {o t : Int} {l : List Sale} (hv : Valid o t l) (dys : List Int) : ∀ (ns pre : List Int) (sn : Nat → Bool) (st : Nat → Int) (la : Int), (∀ m : Nat, sn m = hasI pre m) → (∀ i : Nat, st i = stockR t l pre i) → isGo t l dys pre ns la = proveGo l dys ns sn st la
  | [], _, _, _, _, _, _ => rfl
  | n :: ns, pre, sn, st, la, h1, h2 => by
    unfold isGo proveGo
    cases hI : inR n 0 ((l.length : Int) - 1) with
    | false => simp
    | true =>
      have hin := inR_iff.1 hI
      obtain ⟨m, rfl⟩ : ∃ m : Nat, n = m := ⟨n.toNat, by omega⟩
      have hm : m < l.length := by omega
      have hs : l[m]? = some l[m] := List.getElem?_eq_getElem hm
      have hf := hv.at_ hs
      have hso := saleOf_eq hs
      rw [Int.toNat_natCast]
      simp only [Bool.true_and, Bool.true_eq_false, if_false]
      unfold mayR
      rw [Int.toNat_natCast, h1 m]
      cases hasI pre m with
      | true => simp
      | false =>
        simp only [Bool.not_false, Bool.true_and, Bool.false_eq_true, if_false]
        generalize (dys[m]?).getD 0 = dy
        cases inR dy (saleOf l m).lo (saleOf l m).hi with
        | false => simp
        | true =>
          simp only [Bool.true_and, Bool.true_eq_false, if_false]
          by_cases h3 : dy < la
          · rw [if_pos h3]
            have : ¬ la ≤ dy := by omega
            simp [this]
          · rw [if_neg h3]
            have h3' : la ≤ dy := by omega
            have hst : st (saleOf l m).src.toNat = stockR t l pre (saleOf l m).src := by
              rw [h2, Int.toNat_of_nonneg (by rw [hso]; exact hf.1)]
            rw [hst]
            by_cases h4 : stockR t l pre (saleOf l m).src < (saleOf l m).many
            · rw [if_pos h4]
              have : ¬ (saleOf l m).many ≤ stockR t l pre (saleOf l m).src := by omega
              simp [this]
            · rw [if_neg h4]
              have h4' : (saleOf l m).many ≤ stockR t l pre (saleOf l m).src := by omega
              simp only [h3', h4', decide_true, Bool.true_and]
              refine isGo_prove hv dys ns _ _ _ _ ?_ ?_
              · intro j
                rw [hasI_app]
                unfold updB
                by_cases e : j = m
                · simp [e]
                · rw [if_neg e, h1 j]
                  have : ¬ m = j := fun h => e h.symm
                  simp
                  intro h
                  exact absurd h (by omega)
              · intro i
                rw [stockR_app]
                exact sold_step hm (by rw [hso]; exact hf.1) (by rw [hso]; exact hf.2.2.1) (by rw [hso]; exact hf.2.2.2.2.1) (h2 i)
theorem truth_prove {o t : Int} {l : List Sale} (h0 : fault o t l = 0) (ord dys : List Int) : proveB o t l ord dys = truthB t l ord dys := by
  unfold proveB truthB
  rw [h0]
  rw [isGo_prove (valid_of_fault h0) dys ord [] (fun _ => false) (upd (fun _ => 0) 0 t) 0 (fun m => rfl) (fun i => ?_)]
  · simp
  · unfold stockR upd
    simp
end Go.Proofs.Ytfcnombmphophaa

namespace Go.Proofs.Ytfcnombmphophaa
open Go.RowKit Go.Shelf
theorem eql27F {x y : Operand} {m n : Int} (h : m ≠ n) (w : World) : (do eqGuard .eql 27 x y (.int .i64 m) (.int .i64 n); binOp .eql 27 (.int .i64 m) (.int .i64 n) : Sem Value).run Try.prog w = .ok (.bool false) w := by
  go_simp
theorem ListK.pickW {P : Program} {ops : Array Oper} {K : Act → World → Prop} {k i d : Nat} {a : Act} {w : World} {ty : TypeId} {pos : String} {aft : Array Edge} {gd : Option (Nat × Bool)} {c x y : Operand} {b : Bool} {v : Value} (hi : ops[i]? = some ⟨some d, .pick c x y, ty, pos, aft, gd⟩) (hc : a.eval c = .bool b) (hx : (if b then a.eval x else a.eval y) = v)
    (h : ListK P ops K k (i + 1) (a.put (some d) v) w) (hw : Region.wanted ⟨some d, .pick c x y, ty, pos, aft, gd⟩ (yielded ops a.tmps) = true := by rfl) : ListK P ops K (k + 1) i a w :=
  ListK.valW hi hw (by simp [execOp, hc, asBool]; cases b <;> simpa using hx) h
end Go.Proofs.Ytfcnombmphophaa

namespace Go.Proofs.Ytfcnombmphophaa
open Go.RowKit Go.Shelf
def lexLt : List Int → List Int → Bool
  | x :: xs, y :: ys => if x = y then lexLt xs ys else decide (x < y)
  | _, _ => false
def lessR (a b : List Int) : Bool := if a.length = b.length then lexLt a b else decide (a.length < b.length)
theorem lexLt_drop (a b : List Int) (k : Nat) (ha : k < a.length) (hb : k < b.length) : lexLt (a.drop k) (b.drop k) = if a[k] = b[k] then lexLt (a.drop (k + 1)) (b.drop (k + 1)) else decide (a[k] < b[k]) := by
  rw [List.drop_eq_getElem_cons ha, List.drop_eq_getElem_cons hb]
  rfl
set_option maxHeartbeats 1000000 in
theorem lessR_any (A A' : Option Addr) (c c' : Nat) (a b : List Int) (w : World) (ha : a.length ≤ 1000000) (hb : b.length ≤ 1000000) (h1 : IntsAt w w.heap.size A a) (h2 : IntsAt w w.heap.size A' b) :
    Calls Try.prog 45 #[.slice A a.length c, .slice A' b.length c'] w fun e w' => e = .returned (.bool (lessR a b)) ∧ Below w.heap.size w w' := by
  have H1 := Lib.hid h1
  have H2 := Lib.hid h2
  clear h1 h2
  generalize hq : lessR a b = res
  unfold lessR at hq
  by_cases hl : a.length = b.length
  · rw [if_pos hl] at hq
    have HQ := Lib.hid hq
    clear hq
    go_enter Try.func45, Try.ntmps45
    go_wp2
    go_loopw [5] (fun i wr => ∃ k : Nat, k ≤ a.length ∧ i = .int .i64 k ∧ lexLt (a.drop k) (b.drop k) = res ∧ Below w.heap.size w wr) (fun i _ => a.length - (intOf i).toNat)
    case atStart => exact ⟨0, Nat.zero_le _, rfl, HQ.out, Below.refl _ _⟩
    case round =>
      obtain ⟨k, hk, rfl, hgood, hbl⟩ := hrel
      by_cases hlt : k < a.length
      · have hlt2 : k < b.length := by omega
        obtain ⟨ba, oa, rfl, hba, ca⟩ := (H1.out.below hbl (Nat.le_refl _)) k _ (List.getElem?_eq_getElem hlt)
        obtain ⟨bb, ob, rfl, hbb, cb⟩ := (H2.out.below hbl (Nat.le_refl _)) k _ (List.getElem?_eq_getElem hlt2)
        have hsz := hbl.size
        have hba2 : ba < wr.heap.size := by omega
        have hbb2 : bb < wr.heap.size := by omega
        rw [lexLt_drop a b k hlt hlt2] at hgood
        have HG := Lib.hid hgood
        clear hgood
        generalize a[k] = x at *
        generalize b[k] = y at *
        have hll : (a.length : Int) = b.length := by omega
        by_cases hxy : x = y
        · have hn : (x != y) = false := by simp [hxy]
          go_wp2_with fail
          go_region
          go_wp2_with fail
          rw [if_pos hxy] at HG
          exact ⟨⟨k + 1, by omega, by simp, HG.out, hbl.drew⟩, by simp [intOf]; omega⟩
        · have hn : (x != y) = true := by simp [hxy]
          rw [if_neg hxy] at HG
          go_wp2_with fail
          go_region
          go_wp2_with fail
          go_region
          go_wp2_with fail
          go_ret
          exact ⟨by rw [← HG.out]; rfl, hbl.drew.drew⟩
      · obtain rfl : k = a.length := by omega
        have HG : Hid (res = false) := Lib.hid (by
          rw [← hgood, List.drop_length]
          cases List.drop a.length b <;> rfl)
        clear hgood
        have hll : ¬ (a.length : Int) < b.length := by omega
        go_wp2_with fail
        go_ret
        refine ⟨?_, hbl⟩
        rw [HG.out]
        simp []
  · rw [if_neg hl] at hq
    have HQ := Lib.hid hq
    clear hq
    go_enter Try.func45, Try.ntmps45
    go_wp2
    go_loop [5] (fun i => i = .int .i64 0) (fun _ => 0)
    case atStart => rfl
    case round =>
      subst hrel
      have hll : ¬ (a.length : Int) = b.length := by omega
      have hll2 : ((a.length : Int) == b.length) = false := by simpa using hll
      by_cases h0 : a.length = 0
      · go_wp2_with fail
        go_ret
        exact ⟨by rw [← HQ.out]; simp [h0], Below.refl _ _⟩
      · have h0' : 0 < a.length := by omega
        go_wp2_with fail
        go_ret
        exact ⟨by rw [← HQ.out]; simp, Below.refl _ _⟩
end Go.Proofs.Ytfcnombmphophaa

namespace Go.Proofs.Ytfcnombmphophaa
open Go.RowKit Go.Shelf
theorem ListK.conv {P : Program} {ops : Array Oper} {K : Act → World → Prop} {k i d : Nat} {a : Act} {w : World} {ty : TypeId} {pos : String} {aft : Array Edge} {gd : Option (Nat × Bool)} {s t : TypeId} {x : Operand} {u v : Value} (hi : ops[i]? = some ⟨some d, .convert s t x, ty, pos, aft, gd⟩) (hx : a.eval x = u) (hv : (convert s t u).run P w = .ok v w)
    (h : ListK P ops K k (i + 1) (a.put (some d) v) w) (hw : Region.wanted ⟨some d, .convert s t x, ty, pos, aft, gd⟩ (yielded ops a.tmps) = true := by rfl) : ListK P ops K (k + 1) i a w :=
  ListK.valW hi hw (by simp [execOp, hx, hv]) h
set_option maxRecDepth 100000 in
theorem shr3 {x y : Operand} {d k : Nat} (hk : k < 64) (w : World) : (do eqGuard .shr 3 x y (.int .i64 d) (.int .u64 k); binOp .shr 3 (.int .i64 d) (.int .u64 k) : Sem Value).run Try.prog w = .ok (.int .i64 ((d >>> k : Nat) : Int)) w := by
  rw [← div_pow_cast]
  go_simp
set_option maxRecDepth 100000 in
theorem rem3 {x y : Operand} {d : Nat} (w : World) : (do eqGuard .rem 3 x y (.int .i64 d) (.int .i64 2); binOp .rem 3 (.int .i64 d) (.int .i64 2) : Sem Value).run Try.prog w = .ok (.int .i64 ((d : Int) % 2)) w := by
  go_simp
  exact Int.tmod_eq_emod_of_nonneg (by omega)
set_option maxRecDepth 100000 in
theorem cv107 {k : Nat} (hk : k < 64) (w : World) : (convert 3 107 (.int .i64 k)).run Try.prog w = .ok (.int .u64 k) w := by
  have h1 : IntKind.u64.wrap (k : Int) = k := by
    simp [IntKind.wrap, IntKind.bits, IntKind.signed]
    omega
  go_simp
theorem bit_rem (d k : Nat) : (((d >>> k : Nat) : Int) % 2 == 1) = d.testBit k := by
  have h : d.testBit k = decide ((d >>> k) % 2 = 1) := by simp [Nat.testBit]
  rw [h, Bool.eq_iff_iff]
  generalize d >>> k = e
  simp only [beq_iff_eq, decide_eq_true_eq]
  omega
theorem eqlbit {x y : Operand} {d k : Nat} (w : World) : (do eqGuard .eql 3 x y (.int .i64 (((d >>> k : Nat) : Int) % 2)) (.int .i64 1); binOp .eql 3 (.int .i64 (((d >>> k : Nat) : Int) % 2)) (.int .i64 1) : Sem Value).run Try.prog w = .ok (.bool (d.testBit k)) w := by
  rw [← bit_rem]
  exact eql3 w
noncomputable def opsOf0 : Array Oper := (Try.f42.body.bind (regionOf 0)).getD #[]
noncomputable def opsOf1 : Array Oper := (Try.f42.body.bind (regionOf 1)).getD #[]
noncomputable def opsOf2 : Array Oper := (Try.f42.body.bind (regionOf 2)).getD #[]
noncomputable def opsOf3 : Array Oper := (Try.f42.body.bind (regionOf 3)).getD #[]
noncomputable def opsOf4 : Array Oper := (Try.f42.body.bind (regionOf 4)).getD #[]
noncomputable def opsOf5 : Array Oper := (Try.f42.body.bind (regionOf 5)).getD #[]
noncomputable def opsOf6 : Array Oper := (Try.f42.body.bind (regionOf 6)).getD #[]
noncomputable def opsOf7 : Array Oper := (Try.f42.body.bind (regionOf 7)).getD #[]
noncomputable def roundOf : Code := .seq (.seq (.region 3 opsOf3 false) (.cond (.tmp 11) .skip (.exit 0))) (.seq (.block 1 (.seq (.region 5 opsOf5 false) (.cond (.tmp 19) (.region 6 opsOf6 false) .skip))) (.region 4 opsOf4 false))
noncomputable def code42 : Code := .seq (.region 0 opsOf0 false) (.seq (.region 1 opsOf1 false) (.seq (.seq (.region 2 opsOf2 false) (.block 0 (.loop roundOf))) (.seq (.region 7 opsOf7 false) .ret)))
theorem body42 : Try.f42.body = some code42 := by kernel_rfl
set_option maxRecDepth 10000 in
set_option maxHeartbeats 1000000 in
theorem of_any (o t : Int) (A : Option Addr) (l : List Sale) (c d : Nat) (W : World) (hl : l.length ≤ 12) :
    Calls Try.prog 42 #[.agg #[.int .i64 o, .int .i64 t, .slice A l.length c], .int .i64 d] W fun e w' => ∃ v, e = .returned v ∧ RI w' v (listTo d l.length) ∧ Below W.heap.size W w' := by
  refine (callsIn_wide (n := 5)).1 (callsIn_of_wp Try.func42 body42 trivial ?_ rfl)
  obtain ⟨a, ha⟩ : ∃ a : Act, a = { tmps := #[.agg #[.int .i64 o, .int .i64 t, .slice A l.length c], .int .i64 d] ++ Array.replicate (Try.f42.ntmps - (#[.agg #[.int .i64 o, .int .i64 t, .slice A l.length c], .int .i64 d] : Array Value).size) undef, defers := [] } := ⟨_, rfl⟩
  have hsz : a.tmps.size = 25 := by rw [ha]; simp [Try.ntmps42]
  have t0 : a.eval (.tmp 0) = .agg #[.int .i64 o, .int .i64 t, .slice A l.length c] := by rw [ha]; simp [Act.eval]
  have t1 : a.eval (.tmp 1) = .int .i64 d := by rw [ha]; simp [Act.eval]
  have hdf : a.defers = [] := by rw [ha]
  rw [← ha]
  clear ha
  unfold code42
  refine wpIn_seq (region_p 2 ?_)
  intro K hK
  refine ListK.box (i := 0) (u := .agg #[.int .i64 o, .int .i64 t, .slice A l.length c]) rfl (by simp [t0]) (bx24 W _ _ _ _ _) ?_
  refine ListK.assign (i := 1) (v := .slice none 0 0) rfl (by simp) ?_
  refine ListK.done (hK _ _ ?_)
  clear hK K
  have wb := Whole.new W 24 #[.int .i64 o, .int .i64 t, .slice A l.length c]
  have hB1 : Below W.heap.size W (W.alloc (.cells #[.int .i64 o, .int .i64 t, .slice A l.length c] 24)) := (Below.refl _ W).alloc (Nat.le_refl _) _
  generalize hb2 : W.heap.size = b2 at *
  generalize W.alloc (.cells #[.int .i64 o, .int .i64 t, .slice A l.length c] 24) = W1 at *
  generalize hA : Act.put _ _ _ = a1
  have hz_a1 : a1.tmps.size = 25 := by rw [← hA]; simp only [size_put, hsz]
  have u1 : a1.eval (.tmp 1) = .int .i64 d := by rw [← hA]; exact (by simp [t1])
  have u2 : a1.eval (.tmp 2) = .pointer (some ⟨b2, 0, none⟩) := by rw [← hA]; exact (by simp [hsz])
  have hd_a1 : a1.defers = [] := by rw [← hA]; simp only [defers_put, hdf]
  clear hA
  refine wpIn_seq (region_p 1 ?_)
  intro K hK
  refine ListK.assign (i := 0) (v := .slice none 0 0) rfl (by simp) ?_
  refine ListK.done (hK _ _ ?_)
  clear hK K
  generalize hA : Act.put _ _ _ = a2
  have hz_a2 : a2.tmps.size = 25 := by rw [← hA]; simp only [size_put, hz_a1]
  have v1 : a2.eval (.tmp 1) = .int .i64 d := by rw [← hA]; exact (by simp [u1])
  have v2 : a2.eval (.tmp 2) = .pointer (some ⟨b2, 0, none⟩) := by rw [← hA]; exact (by simp [u2])
  have v5 : a2.eval (.tmp 5) = .slice none 0 0 := by rw [← hA]; exact (by simp [hz_a1])
  have hd_a2 : a2.defers = [] := by rw [← hA]; simp only [defers_put, hd_a1]
  clear hA
  refine wpIn_seq (wpIn_seq (region_p 1 ?_))
  intro K hK
  refine ListK.assign (i := 0) (v := .int .i64 0) rfl (by simp) ?_
  refine ListK.done (hK _ _ ?_)
  clear hK K
  refine wpIn_block (wpIn_loop (fun a W' => ∃ (k : Nat) (v : Value), k ≤ l.length ∧ a.tmps.size = 25 ∧ a.defers = [] ∧ a.eval (.tmp 1) = .int .i64 d ∧ a.eval (.tmp 2) = .pointer (some ⟨b2, 0, none⟩) ∧ a.eval (.tmp 5) = v ∧ a.eval (.tmp 6) = .int .i64 k ∧ OL W1 v (listTo d k) W') (fun a _ => l.length - (intOf (a.eval (.tmp 6))).toNat)
    ⟨0, .slice none 0 0, Nat.zero_le _, by simp only [size_put, hz_a2], by simp only [defers_put, hd_a2], (by simp [v1]), (by simp [v2]), (by simp [v5]), (by simp [hz_a2]), ⟨Below.refl _ _, World.ownsRow_nil _ _ _ _⟩⟩ ?_)
  clear hsz t0 t1 hdf hz_a1 u1 u2 hd_a1 hz_a2 v1 v2 v5 hd_a2 a a1 a2
  rintro a W2 ⟨k, v, hk, hsz, hdf, t1, t2, t5, t6, hol⟩
  have wb2 := wb.below hol.low wb.lt
  have q2 := wb2.cell 2
  refine wpIn_seq (wpIn_seq (region_p 5 ?_))
  intro K hK
  refine ListK.move (i := 0) (v := .int .i64 k) rfl (by simp [t6]) ?_
  refine ListK.field (i := 1) (u := .pointer (some ⟨b2, 0, none⟩)) (v := .pointer (some ⟨b2, 2, none⟩)) rfl (by simp [t2]) (fa24_2 _) ?_
  refine ListK.load (i := 2) (p := ⟨b2, 2, none⟩) (v := .slice A l.length c) rfl (by simp [hsz]) (ld22 (q2)) ?_
  refine ListK.len (i := 3) (u := .slice A l.length c) (v := .int .i64 l.length) rfl (by simp [hsz]) (ln22 _ _ _ _ _) rfl ?_
  refine ListK.bin (i := 4) (u := .int .i64 k) (u' := .int .i64 (l.length : Int)) (v := .bool (decide (k < (l.length : Int)))) rfl (by simp [hsz]) (by simp [hsz]) (lss3 _) ?_
  refine ListK.done (hK _ _ ?_)
  clear hK K
  by_cases hkl : k < l.length
  · refine wpIn_cond (t := true) (by simp [hsz]; omega) (wpIn_skip ?_)
    generalize hA : Act.put _ _ _ = a1
    have hz_a1 : a1.tmps.size = 25 := by rw [← hA]; simp only [size_put, hsz]
    have u1 : a1.eval (.tmp 1) = .int .i64 d := by rw [← hA]; exact (by simp [t1])
    have u2 : a1.eval (.tmp 2) = .pointer (some ⟨b2, 0, none⟩) := by rw [← hA]; exact (by simp [t2])
    have u5 : a1.eval (.tmp 5) = v := by rw [← hA]; exact (by simp [t5])
    have u6 : a1.eval (.tmp 6) = .int .i64 k := by rw [← hA]; exact (by simp [t6])
    have hd_a1 : a1.defers = [] := by rw [← hA]; simp only [defers_put, hdf]
    clear hA
    show (Code.seq _ _).wpIn _ _ _ _ _ _
    have hll := listTo_length d k
    have hend : ∀ (a' : Act) (v' : Value) (W3 : World), a'.tmps.size = 25 → a'.defers = [] → a'.eval (.tmp 1) = .int .i64 d → a'.eval (.tmp 2) = .pointer (some ⟨b2, 0, none⟩) → a'.eval (.tmp 5) = v' → a'.eval (.tmp 6) = .int .i64 k → OL W1 v' (listTo d (k + 1)) W3 → ∀ Q : Exit → Act → World → Prop,
        (∀ a W', (∃ (k : Nat) (v : Value), k ≤ l.length ∧ a.tmps.size = 25 ∧ a.defers = [] ∧ a.eval (.tmp 1) = .int .i64 d ∧ a.eval (.tmp 2) = .pointer (some ⟨b2, 0, none⟩) ∧ a.eval (.tmp 5) = v ∧ a.eval (.tmp 6) = .int .i64 k ∧ OL W1 v (listTo d k) W') → a.eval (.tmp 6) = .int .i64 ((k + 1 : Nat) : Int) → Q .normal a W') →
        (Code.region 4 opsOf4 false).wpIn Fence.wide 5 Try.prog Q a' W3 := by
      intro a' v' W3 hz hd' x1 x2 x5 x6 ho Q hQ
      refine region_p 3 ?_
      intro K4 hK4
      refine ListK.move (i := 0) (v := .int .i64 k) rfl (by simp [x6]) ?_
      refine ListK.bin (i := 1) (u := .int .i64 k) (u' := .int .i64 1) (v := .int .i64 (k + 1)) rfl (by simp [hz]) (by simp) (add3 (by omega) (by omega) _) ?_
      refine ListK.assign (i := 2) (v := .int .i64 ((k + 1 : Nat) : Int)) rfl (by simp [hz]) ?_
      skip
      exact ListK.done (hK4 _ _ (hQ _ _ ⟨k + 1, v', by omega, by simp only [size_put, hz], by simp only [defers_put, hd'], (by simp [x1]), (by simp [x2]), (by simp [x5]), (by simp [hz]), ho⟩ (by simp [hz])))
    have hmu : ∀ b : Act, b.eval (.tmp 6) = .int .i64 ((k + 1 : Nat) : Int) → l.length - (intOf (b.eval (.tmp 6))).toNat < l.length - (intOf (a.eval (.tmp 6))).toNat := by
      intro b e
      rw [e, t6]
      simp only [intOf]
      omega
    refine wpIn_seq (wpIn_block (wpIn_seq (region_p 6 ?_)))
    intro K5 hK5
    refine ListK.move (i := 0) (v := .int .i64 d) rfl (by simp [u1]) ?_
    refine ListK.move (i := 1) (v := .int .i64 k) rfl (by simp [u6]) ?_
    refine ListK.conv (i := 2) (u := .int .i64 k) (v := .int .u64 k) rfl (by simp [hz_a1]) (cv107 (by omega) _) ?_
    refine ListK.bin (i := 3) (u := .int .i64 d) (u' := .int .u64 k) (v := .int .i64 ((d >>> k : Nat) : Int)) rfl (by simp [hz_a1]) (by simp [hz_a1]) (shr3 (by omega) _) ?_
    refine ListK.bin (i := 4) (u := .int .i64 ((d >>> k : Nat) : Int)) (u' := .int .i64 2) (v := .int .i64 (((d >>> k : Nat) : Int) % 2)) rfl (by simp [hz_a1]) (by simp) (rem3 _) ?_
    refine ListK.bin (i := 5) (u := .int .i64 (((d >>> k : Nat) : Int) % 2)) (u' := .int .i64 1) (v := .bool (d.testBit k)) rfl (by simp [hz_a1]) (by simp) (eqlbit _) ?_
    refine ListK.done (hK5 _ _ ?_)
    cases hbt : d.testBit k with
    | false =>
      refine wpIn_cond (t := false) (by simp [hz_a1]) (wpIn_skip ?_)
      refine hend _ v W2 (by simp only [size_put, hz_a1]) (by simp only [defers_put, hd_a1]) (by simp [u1]) (by simp [u2]) (by simp [u5]) (by simp [u6]) ?_ _ (fun a' W' h e => ⟨h, hmu _ e⟩)
      rw [show listTo d (k + 1) = listTo d k by simp [listTo, hbt]]
      exact hol
    | true =>
      refine wpIn_cond (t := true) (by simp [hz_a1]) ?_
      generalize hA : Act.put _ _ _ = a2
      have hz_a2 : a2.tmps.size = 25 := by rw [← hA]; simp only [size_put, hz_a1]
      have x1 : a2.eval (.tmp 1) = .int .i64 d := by rw [← hA]; exact (by simp [u1])
      have x2 : a2.eval (.tmp 2) = .pointer (some ⟨b2, 0, none⟩) := by rw [← hA]; exact (by simp [u2])
      have x5 : a2.eval (.tmp 5) = v := by rw [← hA]; exact (by simp [u5])
      have x6 : a2.eval (.tmp 6) = .int .i64 k := by rw [← hA]; exact (by simp [u6])
      have hd_a2 : a2.defers = [] := by rw [← hA]; simp only [defers_put, hd_a1]
      clear hA
      have hol1 := hol.below ((Below.refl _ W2).alloc (Nat.le_refl _) (.cells #[.int .i64 k] 3))
      show (Code.region 6 opsOf6 false).wpIn _ _ _ _ _ _
      refine region_p 5 ?_
      intro K6 hK6
      refine ListK.move (i := 0) (v := v) rfl (by simp [x5]) ?_
      refine ListK.move (i := 1) (v := .int .i64 k) rfl (by simp [x6]) ?_
      refine ListK.bsl (i := 2) (ps := #[(0, .int .i64 k)]) (v := .slice (some ⟨W2.heap.size, 0, none⟩) 1 1) rfl (by simp [hz_a2]) (bs25_1 _ _) ?_
      refine ListK.append (i := 3) rfl hol1.own (by simp [hz_a2]) ⟨W2.heap.size, 0, none⟩ 1 [.int .i64 k] (by simp [hz_a2]) rfl (news1 (cell_new1 W2 _ _)) (by simp [Value.oneCell']) (by unfold maxLen; omega) (by omega) hol1.low.size ?_
      intro g cap W3 hown hgr hat
      refine ListK.assign (i := 4) (v := .slice (some ⟨g, 0, none⟩) ((listTo d k).length + 1) cap) rfl (by simp [hz_a2]) ?_
      refine ListK.done (hK6 _ _ ?_)
      refine hend _ (.slice (some ⟨g, 0, none⟩) ((listTo d k).length + 1) cap) W3 (by simp only [size_put, hz_a2]) (by simp only [defers_put, hd_a2]) (by simp [x1]) (by simp [x2]) (by simp [hz_a2]) (by simp [x6]) ?_ _ (fun a' W' h e => ⟨h, hmu _ e⟩)
      rw [show listTo d (k + 1) = listTo d k ++ [(k : Int)] by simp [listTo, hbt]]
      exact hol1.app hown hgr
  · obtain rfl : k = l.length := by omega
    refine wpIn_cond (t := false) (by simp [hsz]) (wpIn_exit ?_)
    generalize hA : Act.put _ _ _ = a1
    have hz_a1 : a1.tmps.size = 25 := by rw [← hA]; simp only [size_put, hsz]
    have u5 : a1.eval (.tmp 5) = v := by rw [← hA]; exact (by simp [t5])
    have hd_a1 : a1.defers = [] := by rw [← hA]; simp only [defers_put, hdf]
    clear hA
    show (Code.seq _ _).wpIn _ _ _ _ _ _
    refine wpIn_seq (region_p 2 ?_)
    intro K hK
    refine ListK.move (i := 0) (v := v) rfl (by simp [u5]) ?_
    refine ListK.assign (i := 1) (v := v) rfl (by simp [hz_a1]) ?_
    refine ListK.done (hK _ _ (wpIn_ret ?_))
    show bodyPost Try.prog Try.f42 (fun e w' => ∃ v, e = .returned v ∧ RI w' v (listTo d l.length) ∧ Below b2 W w') Exit.ret _ _
    exact bodyPost_ret (v := v) (res1 Try.results42 (by simp [hz_a1])) (by simp only [defers_put, hd_a1]) ⟨v, rfl, hol.ints, hB1.trans (hol.low.mono (by have := hB1.size; omega))⟩
end Go.Proofs.Ytfcnombmphophaa

namespace Go.Proofs.Ytfcnombmphophaa
open Go.RowKit Go.Shelf
theorem al24 (w : World) : (Instr.alloc 24 true (.tuple #[])).run Try.prog w = .ok (.pointer (some ⟨w.heap.size, 0, none⟩)) (w.alloc (.cells #[.int .i64 0, .int .i64 0, .slice none 0 0] 24)) := by
  go_simp
theorem bd24 (x y : Int) (w : World) : (Instr.build 24 #[(0, .int .i64 x), (1, .int .i64 y)]).run Try.prog w = .ok (.agg #[.int .i64 x, .int .i64 y, .slice none 0 0]) w := by
  go_simp
theorem st24n (w : World) (x y : Int) (A : Option Addr) (n c : Nat) : (Instr.storeAt 24 (.pointer (some ⟨w.heap.size, 0, none⟩)) (.agg #[.int .i64 x, .int .i64 y, .slice A n c])).run Try.prog (w.alloc (.cells #[.int .i64 0, .int .i64 0, .slice none 0 0] 24)) = .ok () (w.alloc (.cells #[.int .i64 x, .int .i64 y, .slice A n c] 24)) := by
  go_simp
theorem st24 {w : World} {b : Nat} {u1 u2 u3 : Value} {x y : Int} {A : Option Addr} {n c : Nat} (h0 : w.cell? ⟨b, 0, none⟩ = some u1) (h1 : w.cell? ⟨b, 1, none⟩ = some u2) (h2 : w.cell? ⟨b, 2, none⟩ = some u3) (f0 : w.frozen? ⟨b, 0, none⟩ = false) (f1 : w.frozen? ⟨b, 1, none⟩ = false) (f2 : w.frozen? ⟨b, 2, none⟩ = false) :
    (Instr.storeAt 24 (.pointer (some ⟨b, 0, none⟩)) (.agg #[.int .i64 x, .int .i64 y, .slice A n c])).run Try.prog w = .ok () (((w.setCell ⟨b, 0, none⟩ (.int .i64 x)).setCell ⟨b, 1, none⟩ (.int .i64 y)).setCell ⟨b, 2, none⟩ (.slice A n c)) := by
  go_simp
theorem bs22_1 (s : Sale) (w : World) : (Instr.buildSlice 22 1 #[(0, saleV s)]).run Try.prog w = .ok (.slice (some ⟨w.heap.size, 0, none⟩) 1 1) (w.alloc (.cells (saleC s) 73)) := by
  unfold saleV saleC
  go_simp
theorem st22 {w : World} {p : Addr} {v : Value} {A : Option Addr} {n c : Nat} (h : w.cell? p = some v) (hf : w.frozen? p = false) : (Instr.storeAt 22 (.pointer (some p)) (.slice A n c)).run Try.prog w = .ok () (w.setCell p (.slice A n c)) := by
  go_simp
theorem res24 {fn : Func} {k b : Nat} {W : World} {a : Act} {x y z : Value} (h : fn.results = #[.cell k 24]) (he : a.eval (.tmp k) = .pointer (some ⟨b, 0, none⟩)) (h0 : W.cell? ⟨b, 0, none⟩ = some x) (h1 : W.cell? ⟨b, 1, none⟩ = some y) (h2 : W.cell? ⟨b, 2, none⟩ = some z) :
    (results fn a.tmps).run Try.prog W = .ok (.agg #[x, y, z]) W := by
  have he' : a.tmps[k]?.getD undef = .pointer (some ⟨b, 0, none⟩) := by simpa [Act.eval] using he
  simp only [results, h]
  simp [he']
  go_simp
/-- A list of sales that is owned reads as it should. -/
theorem sales_of_owns73 {W : World} {base : Nat} {v : Value} {xs : List Sale} (h : W.ownsRow base 73 5 v xs.length (salesL xs)) : ∃ A c, v = .slice A xs.length c ∧ SalesAt W W.heap.size A xs := by
  rcases h.2 with ⟨rfl, h0⟩ | ⟨g, cap, cur, rfl, hb, hg, hc, _⟩
  · refine ⟨none, 0, by rw [h0], fun k x hx => ?_⟩
    have : xs = [] := List.eq_nil_of_length_eq_zero h0
    subst this
    simp at hx
  · refine ⟨_, cap, rfl, fun k s hs => ⟨g, 0, rfl, (Array.getElem?_eq_some_iff.1 hg).1, ?_⟩⟩
    have hcell : ∀ j u, (salesL xs)[j]? = some u → W.cell? ⟨g, j, none⟩ = some u := by
      intro j u hu
      have := h.cells (g := g) rfl j u hu
      simp only [Addr.add] at this
      split at this
      · rename_i h0
        subst h0
        simpa using this
      · simpa using this
    have hat := salesL_at xs k s hs
    refine ⟨?_, ?_, ?_, ?_, ?_⟩
    · exact (congrArg (fun q => W.cell? ⟨g, q, none⟩) (by omega)).trans (hcell (k * 5 + 0) _ (hat 0 (by omega)))
    · exact (congrArg (fun q => W.cell? ⟨g, q, none⟩) (by omega)).trans (hcell (k * 5 + 1) _ (hat 1 (by omega)))
    · exact (congrArg (fun q => W.cell? ⟨g, q, none⟩) (by omega)).trans (hcell (k * 5 + 2) _ (hat 2 (by omega)))
    · exact (congrArg (fun q => W.cell? ⟨g, q, none⟩) (by omega)).trans (hcell (k * 5 + 3) _ (hat 3 (by omega)))
    · exact (congrArg (fun q => W.cell? ⟨g, q, none⟩) (by omega)).trans (hcell (k * 5 + 4) _ (hat 4 (by omega)))
/-- The memory of Without. -/
structure WtM (w : World) (h : Nat) (o t : Int) (A : Option Addr) (n c : Nat) (v : Value) (xs : List Sale) (W : World) : Prop where
  kb : Whole W h 24 #[.int .i64 o, .int .i64 t, .slice A n c]
  kr : Whole W (h + 1) 24 #[.int .i64 0, .int .i64 0, .slice none 0 0]
  kx : Whole W (h + 2) 24 #[.int .i64 o, .int .i64 t, v]
  low : Below h w W
  own : W.ownsRow (h + 3) 73 5 v xs.length (salesL xs)
section
variable {w W W' : World} {h : Nat} {o t : Int} {A : Option Addr} {n c : Nat} {v : Value} {xs : List Sale}
theorem WtM.base (b : WtM w h o t A n c v xs W) : h + 3 ≤ W.heap.size := b.kx.lt
theorem WtM.below (b : WtM w h o t A n c v xs W) (hb : Below W.heap.size W W') : WtM w h o t A n c v xs W' :=
  ⟨b.kb.below hb b.kb.lt, b.kr.below hb b.kr.lt, b.kx.below hb b.kx.lt, b.low.trans (hb.mono (by have := b.base; omega)), b.own.kept (grown_of_below hb) (by cases v.ownBlock <;> simp)⟩
theorem WtM.far (b : WtM w h o t A n c v xs W) {g : Nat} (hg : g < h + 3) : some g ≠ v.ownBlock := fun e => by have := (b.own.lt g e.symm).1; omega
theorem WtM.put (b : WtM w h o t A n c v xs W) {g cap : Nat} {s : Sale} (hown : W'.ownsRow (h + 3) 73 5 (.slice (some ⟨g, 0, none⟩) (xs.length + 1) cap) (xs.length + 1) (salesL xs ++ saleL s)) (hgr : W.grownBy W' v.ownBlock) :
    WtM w h o t A n c (.slice (some ⟨g, 0, none⟩) (xs.length + 1) cap) (xs ++ [s]) (W'.setCell ⟨h + 2, 2, none⟩ (.slice (some ⟨g, 0, none⟩) (xs.length + 1) cap)) := by
  have k0 : Whole W' h 24 _ := (hgr.block _ b.kb.lt (b.far (by omega))).trans b.kb
  have k1 : Whole W' (h + 1) 24 _ := (hgr.block _ b.kr.lt (b.far (by omega))).trans b.kr
  have k2 : Whole W' (h + 2) 24 _ := (hgr.block _ b.kx.lt (b.far (by omega))).trans b.kx
  have hlo : Below h w W' := b.low.grown hgr (by have := b.base; omega) (fun k e => by have := (b.own.lt k e).1; omega)
  refine ⟨k0.far (by simp) _, k1.far (by simp) _, k2.set 2 _, hlo.setCell (p := ⟨h + 2, 2, none⟩) (by simp) _, ?_⟩
  rw [salesL_app]
  refine World.ownsRow.kept ?_ (grown_set W' ⟨h + 2, 2, none⟩ _) (.inr ?_)
  · simpa using hown
  · intro e
    have hg : g = h + 2 := by simpa [Value.ownBlock] using e
    have := (hown.lt g rfl).1
    omega
end
section
variable {ops : Array Oper} {K : Act → World → Prop} {Kp : Nat → World → World → Prop} {fuel i d : Nat} {listed : Array Bool} {a : Act} {w : World} {ty : TypeId} {pos : String} {aft : Array Edge}
theorem info73 : (Try.prog.info? 73).map (fun i => (i.zero, i.size, i.bytes)) = some (some (.agg #[.int .i64 0, .int .i64 0, .int .i64 0, .int .i64 0, .int .i64 0]), 5, 40) := by kernel_rfl
theorem StepK.app22 {s x : Operand} (hi : ops[i]? = some ⟨some d, .call { callee := .builtin .append, args := #[s, x], argTypes := #[22, 22] }, ty, pos, aft, none⟩)
    {base n : Nat} {v : Value} {xs : List Value} (hown : w.ownsRow base 73 5 v n xs) (hs : a.eval s = v) (ad : Addr) (c : Nat) (news : List Value) (hx : a.eval x = .slice (some ad) 1 c) (hl : news.length = 5)
    (hnews : ∀ j u, news[j]? = some u → w.cell? (ad.add j) = some u) (h1 : ∀ u ∈ news, u.oneCell' = true) (h63 : n + 1 ≤ maxLen) (hbytes : (n + 1) * 40 ≤ 140737488355328) (hbase : base ≤ w.heap.size)
    (h : ∀ g cap w', w'.ownsRow base 73 5 (.slice (some ⟨g, 0, none⟩) (n + 1) cap) (n + 1) (xs ++ news) → w.grownBy w' v.ownBlock → (v.ownBlock = some g ∨ g = w.heap.size) → Kp i w w' ∧ AnyK Try.prog ops K Kp fuel (listed.setIfInBounds i true) (a.put (some d) (.slice (some ⟨g, 0, none⟩) (n + 1) cap)) w') :
    StepK Try.prog ops K Kp fuel listed a w i := by
  obtain ⟨i0, hi0, hi1, hi2, hi3⟩ := info_parts info73
  unfold StepK opG
  simp only [hi]
  rw [if_pos (show Region.wanted _ _ = true from rfl)]
  exact wp_append_lies _ s x 22 rfl base 73 i0 _ 5 40 Try.underlying22 hi0 hi1 hi2 hi3 rfl (by omega) v n xs hs hown ad 1 c news hx (by simpa using hl) hnews h1 (by omega) h63 hbytes hbase w.heap.size rfl (fun g cap w' a b c _ => h g cap w' a b c)
end
noncomputable def opsWt6 : Array Oper := (Try.f44.body.bind (regionOf 6)).getD #[]
section
attribute [local irreducible] AnyK StepK
/-- A sale's five cells. -/
def Cells5 (b o : Nat) (s : Sale) (w : World) : Prop := w.cell? ⟨b, o, none⟩ = some (.int .i64 s.src) ∧ w.cell? ⟨b, o + 1, none⟩ = some (.int .i64 s.dst) ∧ w.cell? ⟨b, o + 2, none⟩ = some (.int .i64 s.many) ∧ w.cell? ⟨b, o + 3, none⟩ = some (.int .i64 s.lo) ∧ w.cell? ⟨b, o + 4, none⟩ = some (.int .i64 s.hi)
abbrev KpWt (h : Nat) (v sv : Value) (b o : Nat) (s : Sale) : Nat → World → World → Prop := fun j w w' => (w.cell? ⟨h, 2, none⟩ = some sv → w'.cell? ⟨h, 2, none⟩ = some sv) ∧ (Cells5 b o s w → Cells5 b o s w') ∧ ((j == 10) = false → w.cell? ⟨h + 2, 2, none⟩ = some v → w'.cell? ⟨h + 2, 2, none⟩ = some v)
theorem mayWt {ops : Array Oper} {listed : Array Bool} {h b o : Nat} {v sv : Value} {s : Sale} {i : Nat} {oi : Oper} (h1 : ops[i]? = some oi) (h2 : Region.noSelect ops = true) (h3 : (Region.ready .any ops listed).contains i = true) (h4 : looseB .any ops (fun _ => false) i oi = true) :
    May ops (KpWt h v sv b o s) listed (fun _ => True) (fun _ => false) i oi := ⟨h1, h2, h3, h4, fun _ _ _ _ _ _ => trivial, fun _ => ⟨id, id, fun _ => id⟩⟩
theorem Cells5.of {b o : Nat} {s : Sale} {w w' : World} (h : Cells5 b o s w) (hk : ∀ i u, w.cell? ⟨b, i, none⟩ = some u → w'.cell? ⟨b, i, none⟩ = some u) : Cells5 b o s w' :=
  ⟨hk _ _ h.1, hk _ _ h.2.1, hk _ _ h.2.2.1, hk _ _ h.2.2.2.1, hk _ _ h.2.2.2.2⟩
set_option maxRecDepth 10000 in
set_option maxHeartbeats 2000000 in
theorem regionWt6 {F : Fence} {nF : Nat} (hF : WideF F Try.prog) {Q : Exit → Act → World → Prop} {a : Act} {w W0 : World} {h n c b off k : Nat} {o t : Int} {v : Value} {xs : List Sale} {s : Sale} (hsz : a.tmps.size = 34)
    (t2 : a.eval (.tmp 2) = .pointer (some ⟨h, 0, none⟩)) (t5 : a.eval (.tmp 5) = .pointer (some ⟨h + 2, 0, none⟩)) (t6 : a.eval (.tmp 6) = .int .i64 k) (hm : WtM W0 h o t (some ⟨b, off, none⟩) n c v xs w) (hs : Cells5 b (off + k * 5) s w) (hk : k < n) (hbh : b < h) (hx : xs.length < 1000)
    (hK : ∀ a' W' v', WtM W0 h o t (some ⟨b, off, none⟩) n c v' (xs ++ [s]) W' → a'.tmps.size = 34 → a'.defers = a.defers → (∀ e : Nat, e < 23 → a'.eval (.tmp e) = a.eval (.tmp e)) → Q .normal a' W') :
    (Code.region 6 opsWt6 true).wpIn F nF Try.prog Q a w := by
  refine region_K (KpWt h v (.slice (some ⟨b, off, none⟩) n c) b (off + k * 5) s) hF (by kernel_rfl) Try.mixed ?_
  change AnyK _ _ _ _ 11 (Array.replicate 11 false) _ _
  replace hm : WtM W0 h o t (some ⟨b, off, none⟩) n c v xs w.drew := hm.below ((Below.refl _ _).drew)
  replace hs : Cells5 b (off + k * 5) s w.drew := hs
  generalize w.drew = W at *
  have c1 : W.cell? ⟨h + 2, 2, none⟩ = some v := hm.kx.cell 2
  have c3 : W.cell? ⟨h, 2, none⟩ = some (.slice (some ⟨b, off, none⟩) n c) := hm.kb.cell 2
  refine AnyK.field (i := 0) (u := .pointer (some ⟨h + 2, 0, none⟩)) (v := .pointer (some ⟨h + 2, 2, none⟩)) (mayWt rfl (by kernel_rfl) (by kernel_rfl) (by kernel_rfl)) (by simp [t5]) (fun w => fa24_2 w) trivial ?_
  refine AnyK.load (i := 1) (p := ⟨h + 2, 2, none⟩) (v := v) (R := fun w => w.cell? ⟨h + 2, 2, none⟩ = some v) ⟨rfl, by kernel_rfl, by kernel_rfl, by kernel_rfl, fun _ _ _ hT hk hR => hk.2.2 hT hR, fun _ => ⟨id, id, fun _ => id⟩⟩ (T := fun j => j == 10) (by simp [hsz]) (fun w hw => ld22 hw) c1 ?_
  refine AnyK.field (i := 2) (u := .pointer (some ⟨h, 0, none⟩)) (v := .pointer (some ⟨h, 2, none⟩)) (mayWt rfl (by kernel_rfl) (by kernel_rfl) (by kernel_rfl)) (by simp [t2]) (fun w => fa24_2 w) trivial ?_
  refine AnyK.load (i := 3) (p := ⟨h, 2, none⟩) (v := .slice (some ⟨b, off, none⟩) n c) (R := fun w => w.cell? ⟨h, 2, none⟩ = some (.slice (some ⟨b, off, none⟩) n c)) ⟨rfl, by kernel_rfl, by kernel_rfl, by kernel_rfl, fun _ _ _ _ hk hR => hk.1 hR, fun _ => ⟨id, id, fun _ => id⟩⟩ (T := fun _ => false) (by simp [hsz]) (fun w hw => ld22 hw) c3 ?_
  refine AnyK.move (i := 4) (v := .int .i64 k) (mayWt rfl (by kernel_rfl) (by kernel_rfl) (by kernel_rfl)) (by simp [t6]) trivial ?_
  refine AnyK.index (i := 5) (u := .slice (some ⟨b, off, none⟩) n c) (u' := .int .i64 k) (v := .pointer (some ⟨b, off + k * 5, none⟩)) (mayWt rfl (by kernel_rfl) (by kernel_rfl) (by kernel_rfl)) (by simp [hsz]) (by simp [hsz]) (fun w => ix22 hk w) trivial ?_
  refine AnyK.load (i := 6) (p := ⟨b, off + k * 5, none⟩) (v := saleV s) (R := Cells5 b (off + k * 5) s) ⟨rfl, by kernel_rfl, by kernel_rfl, by kernel_rfl, fun _ _ _ _ hk hR => hk.2.1 hR, fun _ => ⟨id, id, fun _ => id⟩⟩ (T := fun _ => false) (by simp [hsz]) (fun w hw => ld73 hw.1 hw.2.1 hw.2.2.1 hw.2.2.2.1 hw.2.2.2.2) hs ?_
  refine AnyK.pick1 (i := 7) (by kernel_rfl) ?_
  refine StepK.build (i := 7) (ps := #[(0, saleV s)]) rfl (by simp [hsz]) (bs22_1 _ _) ⟨fun hw => cell_alloc_l _ hw, fun hw => hw.of (fun _ _ h => cell_alloc_l _ h), fun _ hw => cell_alloc_l _ hw⟩ ?_
  have hnw := news5 (W := W) s 73
  replace hs : Cells5 b (off + k * 5) s (W.alloc (.cells (saleC s) 73)) := hs.of (fun _ _ h => cell_alloc_l _ h)
  replace hm := hm.below ((Below.refl _ W).alloc (Nat.le_refl _) (.cells (saleC s) 73))
  generalize W.heap.size = p7 at *
  generalize W.alloc (.cells (saleC s) 73) = W7 at *
  clear c1 c3 W
  refine AnyK.pick1 (i := 8) (by kernel_rfl) ?_
  refine StepK.app22 (i := 8) rfl hm.own (by simp [hsz]) ⟨p7, 0, none⟩ 1 (saleL s) (by simp [hsz]) rfl hnw (by simp [saleL, Value.oneCell']) (by unfold maxLen; omega) (by omega) hm.base ?_
  intro g cap W8 hown hgr hat
  have hm8 := hm.put hown hgr
  have hfar : ∀ q : Nat, q < h + 3 → ∀ i u, W7.cell? ⟨q, i, none⟩ = some u → W8.cell? ⟨q, i, none⟩ = some u := fun q hq i u hu => hgr.cell hu (hm.far hq)
  have hc2 : W8.cell? ⟨h + 2, 2, none⟩ = some v := hfar _ (by omega) _ _ (hm.kx.cell 2)
  have hf2 : W8.frozen? ⟨h + 2, 2, none⟩ = false := (hgr.frozen_far ⟨h + 2, 2, none⟩ hm.kx.lt (hm.far (by simp))).trans (hm.kx.frozen 2)
  refine ⟨⟨fun hw => hfar _ (by omega) _ _ hw, fun hw => hw.of (fun i u h => hfar _ (by omega) i u h), fun _ hw => hfar _ (by omega) _ _ hw⟩, ?_⟩
  refine AnyK.field (i := 9) (u := .pointer (some ⟨h + 2, 0, none⟩)) (v := .pointer (some ⟨h + 2, 2, none⟩)) (mayWt rfl (by kernel_rfl) (by kernel_rfl) (by kernel_rfl)) (by simp [t5]) (fun w => fa24_2 w) trivial ?_
  refine AnyK.pick1 (i := 10) (by kernel_rfl) ?_
  refine StepK.store (i := 10) (u := .pointer (some ⟨h + 2, 2, none⟩)) (u' := .slice (some ⟨g, 0, none⟩) (xs.length + 1) cap) rfl (by simp [hsz]) (by simp [hsz]) (st22 hc2 hf2) ⟨fun hw => (cell_set_far (by simp) _).trans hw, fun hw => hw.of (fun i u h => (cell_set_far (by simp; omega) _).trans h), fun h => by cases h⟩ ?_
  refine AnyK.done (by kernel_rfl) (hK _ _ _ hm8 ?_ ?_ ?_)
  · simp only [size_put, hsz]
  · simp only [defers_put]
  · intro e he
    iterate 10 refine (ev_ne (by omega)).trans ?_
    rfl
end
end Go.Proofs.Ytfcnombmphophaa

namespace Go.Proofs.Ytfcnombmphophaa
open Go.RowKit Go.Shelf
/-- The sales but for those in a list. -/
def outTo (l : List Sale) (xs : List Int) : Nat → List Sale
  | 0 => []
  | k + 1 => if hasI xs k = true then outTo l xs k else outTo l xs k ++ [saleOf l k]
def outL (l : List Sale) (xs : List Int) : List Sale := outTo l xs l.length
theorem outTo_length (l : List Sale) (xs : List Int) (n : Nat) : (outTo l xs n).length ≤ n := by
  induction n with
  | zero => simp [outTo]
  | succ n ih =>
    unfold outTo
    split
    · omega
    · simp; omega
noncomputable def opsWt_0 : Array Oper := (Try.f44.body.bind (regionOf 0)).getD #[]
noncomputable def opsWt_1 : Array Oper := (Try.f44.body.bind (regionOf 1)).getD #[]
noncomputable def opsWt_2 : Array Oper := (Try.f44.body.bind (regionOf 2)).getD #[]
noncomputable def opsWt_3 : Array Oper := (Try.f44.body.bind (regionOf 3)).getD #[]
noncomputable def opsWt_4 : Array Oper := (Try.f44.body.bind (regionOf 4)).getD #[]
noncomputable def opsWt_5 : Array Oper := (Try.f44.body.bind (regionOf 5)).getD #[]
noncomputable def opsWt_7 : Array Oper := (Try.f44.body.bind (regionOf 7)).getD #[]
noncomputable def roundWt : Code := .seq (.seq (.region 3 opsWt_3 false) (.cond (.tmp 16) .skip (.exit 0))) (.seq (.block 1 (.seq (.region 5 opsWt_5 false) (.cond (.tmp 22) (.region 6 opsWt6 true) .skip))) (.region 4 opsWt_4 false))
noncomputable def code44 : Code := .seq (.region 0 opsWt_0 false) (.seq (.region 1 opsWt_1 false) (.seq (.seq (.region 2 opsWt_2 false) (.block 0 (.loop roundWt))) (.seq (.region 7 opsWt_7 false) .ret)))
theorem body44 : Try.f44.body = some code44 := by kernel_rfl
set_option maxRecDepth 10000 in
set_option maxHeartbeats 2000000 in
theorem out_any (o t : Int) (A A1 : Option Addr) (l : List Sale) (xs : List Int) (c c1 : Nat) (W : World) (hl : l.length ≤ 60) (hx : xs.length ≤ 12) (hs : SalesAt W W.heap.size A l) (hi : IntsAt W W.heap.size A1 xs) :
    Calls Try.prog 44 #[.agg #[.int .i64 o, .int .i64 t, .slice A l.length c], .slice A1 xs.length c1] W
      fun e w' => ∃ A' c', e = .returned (.agg #[.int .i64 o, .int .i64 t, .slice A' (outL l xs).length c']) ∧ SalesAt w' w'.heap.size A' (outL l xs) ∧ Below W.heap.size W w' := by
  refine (callsIn_wide (n := 5)).1 (callsIn_of_wp Try.func44 body44 trivial ?_ rfl)
  obtain ⟨a, ha⟩ : ∃ a : Act, a = { tmps := #[.agg #[.int .i64 o, .int .i64 t, .slice A l.length c], .slice A1 xs.length c1] ++ Array.replicate (Try.f44.ntmps - (#[.agg #[.int .i64 o, .int .i64 t, .slice A l.length c], .slice A1 xs.length c1] : Array Value).size) undef, defers := [] } := ⟨_, rfl⟩
  have hsz : a.tmps.size = 34 := by rw [ha]; simp [Try.ntmps44]
  have t0 : a.eval (.tmp 0) = .agg #[.int .i64 o, .int .i64 t, .slice A l.length c] := by rw [ha]; simp [Act.eval]
  have t1 : a.eval (.tmp 1) = .slice A1 xs.length c1 := by rw [ha]; simp [Act.eval]
  have hdf : a.defers = [] := by rw [ha]
  rw [← ha]
  clear ha
  unfold code44
  refine wpIn_seq (region_p 2 ?_)
  intro K hK
  refine ListK.box (i := 0) (u := .agg #[.int .i64 o, .int .i64 t, .slice A l.length c]) rfl (by simp [t0]) (bx24 W _ _ _ _ _) ?_
  refine ListK.alloc (i := 1) rfl (al24 _) ?_
  refine ListK.done (hK _ _ ?_)
  clear hK K
  generalize hA : Act.put _ _ _ = a1
  have hz_a1 : a1.tmps.size = 34 := by rw [← hA]; simp only [size_put, hsz]
  have u1 : a1.eval (.tmp 1) = .slice A1 xs.length c1 := by rw [← hA]; exact (by simp [t1])
  have u2 : a1.eval (.tmp 2) = .pointer (some ⟨W.heap.size, 0, none⟩) := by rw [← hA]; exact (by simp [hsz])
  have u4 : a1.eval (.tmp 4) = .pointer (some ⟨(W.alloc (.cells #[.int .i64 o, .int .i64 t, .slice A l.length c] 24)).heap.size, 0, none⟩) := by rw [← hA]; exact (by simp [hsz])
  have hd_a1 : a1.defers = [] := by rw [← hA]; simp only [defers_put, hdf]
  clear hA
  rw [World.size_alloc] at u4
  have wb := (Whole.new W 24 #[.int .i64 o, .int .i64 t, .slice A l.length c]).alloc (.cells #[.int .i64 0, .int .i64 0, .slice none 0 0] 24)
  have wr := Whole.new (W.alloc (.cells #[.int .i64 o, .int .i64 t, .slice A l.length c] 24)) 24 #[.int .i64 0, .int .i64 0, .slice none 0 0]
  have hB1 : Below W.heap.size W ((W.alloc (.cells #[.int .i64 o, .int .i64 t, .slice A l.length c] 24)).alloc (.cells #[.int .i64 0, .int .i64 0, .slice none 0 0] 24)) := ((Below.refl _ W).alloc (Nat.le_refl _) _).alloc (by simp) _
  have hz1 : ((W.alloc (.cells #[.int .i64 o, .int .i64 t, .slice A l.length c] 24)).alloc (.cells #[.int .i64 0, .int .i64 0, .slice none 0 0] 24)).heap.size = W.heap.size + 2 := by simp
  rw [World.size_alloc] at wr
  generalize hh : W.heap.size = h at *
  generalize (W.alloc (.cells #[.int .i64 o, .int .i64 t, .slice A l.length c] 24)).alloc (.cells #[.int .i64 0, .int .i64 0, .slice none 0 0] 24) = W1 at *
  refine wpIn_seq (region_p 7 ?_)
  intro K hK
  refine ListK.field (i := 0) (u := .pointer (some ⟨h, 0, none⟩)) (v := .pointer (some ⟨h, 0, none⟩)) rfl (by simp [u2]) (fa24_0 _) ?_
  refine ListK.load (i := 1) (p := ⟨h, 0, none⟩) (v := .int .i64 o) rfl (by simp [hz_a1]) (ld3 (wb.cell 0)) ?_
  refine ListK.field (i := 2) (u := .pointer (some ⟨h, 0, none⟩)) (v := .pointer (some ⟨h, 1, none⟩)) rfl (by simp [u2]) (fa24_1 _) ?_
  refine ListK.load (i := 3) (p := ⟨h, 1, none⟩) (v := .int .i64 t) rfl (by simp [hz_a1]) (ld3 (wb.cell 1)) ?_
  refine ListK.bld (i := 4) (ps := #[(0, .int .i64 o), (1, .int .i64 t)]) (v := .agg #[.int .i64 o, .int .i64 t, .slice none 0 0]) rfl (by simp [hz_a1]) (bd24 _ _ _) ?_
  refine ListK.alloc (i := 5) rfl (al24 W1) ?_
  refine ListK.store (i := 6) (u := .pointer (some ⟨W1.heap.size, 0, none⟩)) (u' := .agg #[.int .i64 o, .int .i64 t, .slice none 0 0]) rfl (by simp [hz_a1]) (by simp [hz_a1]) (st24n W1 _ _ _ _ _) ?_
  refine ListK.done (hK _ _ ?_)
  clear hK K
  generalize hA : Act.put _ _ _ = a2
  have hz_a2 : a2.tmps.size = 34 := by rw [← hA]; simp only [size_put, hz_a1]
  have v1 : a2.eval (.tmp 1) = .slice A1 xs.length c1 := by rw [← hA]; exact (by simp [u1])
  have v2 : a2.eval (.tmp 2) = .pointer (some ⟨h, 0, none⟩) := by rw [← hA]; exact (by simp [u2])
  have v4 : a2.eval (.tmp 4) = .pointer (some ⟨h + 1, 0, none⟩) := by rw [← hA]; exact (by simp [u4])
  have v5 : a2.eval (.tmp 5) = .pointer (some ⟨W1.heap.size, 0, none⟩) := by rw [← hA]; exact (by simp [hz_a1])
  have hd_a2 : a2.defers = [] := by rw [← hA]; simp only [defers_put, hd_a1]
  clear hA
  have hm : WtM W h o t A l.length c (.slice none 0 0) [] (W1.alloc (.cells #[.int .i64 o, .int .i64 t, .slice none 0 0] 24)) := by
    refine ⟨wb.alloc _, wr.alloc _, ?_, hB1.alloc (by omega) _, World.ownsRow_nil _ _ _ _⟩
    have := Whole.new W1 24 #[.int .i64 o, .int .i64 t, .slice none 0 0]
    rwa [hz1] at this
  generalize W1.alloc (.cells #[.int .i64 o, .int .i64 t, .slice none 0 0] 24) = W2 at *
  rw [hz1] at v5
  refine wpIn_seq (wpIn_seq (region_p 1 ?_))
  intro K hK
  refine ListK.assign (i := 0) (v := .int .i64 0) rfl (by simp) ?_
  refine ListK.done (hK _ _ ?_)
  clear hK K
  refine wpIn_block (wpIn_loop (fun a W' => ∃ (k : Nat) (v : Value), k ≤ l.length ∧ a.tmps.size = 34 ∧ a.defers = [] ∧ a.eval (.tmp 1) = .slice A1 xs.length c1 ∧ a.eval (.tmp 2) = .pointer (some ⟨h, 0, none⟩) ∧ a.eval (.tmp 4) = .pointer (some ⟨h + 1, 0, none⟩) ∧ a.eval (.tmp 5) = .pointer (some ⟨h + 2, 0, none⟩) ∧ a.eval (.tmp 6) = .int .i64 k ∧ WtM W h o t A l.length c v (outTo l xs k) W') (fun a _ => l.length - (intOf (a.eval (.tmp 6))).toNat)
    ⟨0, _, Nat.zero_le _, by simp only [size_put, hz_a2], by simp only [defers_put, hd_a2], (by simp [v1]), (by simp [v2]), (by simp [v4]), (by simp [v5]), (by simp [hz_a2]), hm⟩ ?_)
  clear hsz t0 t1 hdf hz_a1 u1 u2 u4 hd_a1 hz_a2 v1 v2 v4 v5 hd_a2 a a1 a2 wb wr hB1 hz1 hm
  rintro a W2 ⟨k, v, hk, hsz, hdf, t1, t2, t4, t5, t6, hm⟩
  have hkb2 := hm.kb.cell 2
  refine wpIn_seq (wpIn_seq (region_p 5 ?_))
  intro K hK
  refine ListK.move (i := 0) (v := .int .i64 k) rfl (by simp [t6]) ?_
  refine ListK.field (i := 1) (u := .pointer (some ⟨h, 0, none⟩)) (v := .pointer (some ⟨h, 2, none⟩)) rfl (by simp [t2]) (fa24_2 _) ?_
  refine ListK.load (i := 2) (p := ⟨h, 2, none⟩) (v := .slice A l.length c) rfl (by simp [hsz]) (ld22 (hkb2)) ?_
  refine ListK.len (i := 3) (u := .slice A l.length c) (v := .int .i64 l.length) rfl (by simp [hsz]) (ln22 _ _ _ _ _) rfl ?_
  refine ListK.bin (i := 4) (u := .int .i64 k) (u' := .int .i64 (l.length : Int)) (v := .bool (decide (k < (l.length : Int)))) rfl (by simp [hsz]) (by simp [hsz]) (lss3 _) ?_
  refine ListK.done (hK _ _ ?_)
  clear hK K
  have hbase := hm.base
  by_cases hkl : k < l.length
  · refine wpIn_cond (t := true) (by simp [hsz]; omega) (wpIn_skip ?_)
    generalize hA : Act.put _ _ _ = a1
    have hz_a1 : a1.tmps.size = 34 := by rw [← hA]; simp only [size_put, hsz]
    have u1 : a1.eval (.tmp 1) = .slice A1 xs.length c1 := by rw [← hA]; exact (by simp [t1])
    have u2 : a1.eval (.tmp 2) = .pointer (some ⟨h, 0, none⟩) := by rw [← hA]; exact (by simp [t2])
    have u4 : a1.eval (.tmp 4) = .pointer (some ⟨h + 1, 0, none⟩) := by rw [← hA]; exact (by simp [t4])
    have u5 : a1.eval (.tmp 5) = .pointer (some ⟨h + 2, 0, none⟩) := by rw [← hA]; exact (by simp [t5])
    have u6 : a1.eval (.tmp 6) = .int .i64 k := by rw [← hA]; exact (by simp [t6])
    have hd_a1 : a1.defers = [] := by rw [← hA]; simp only [defers_put, hdf]
    clear hA
    have hgl : l[k]? = some l[k] := List.getElem?_eq_getElem hkl
    have hsl := saleOf_eq hgl
    obtain ⟨b, off, hA, hbB, s0, s1, s2, s3, s4⟩ := (hs.below hm.low (Nat.le_refl _)) k _ hgl
    subst hA
    have hs5 : Cells5 b (off + k * 5) l[k] W2 := ⟨s0, s1, s2, s3, s4⟩
    rw [← hsl] at hs5
    have hol := outTo_length l xs k
    have hi2 : IntsAt W2 W2.heap.size A1 xs := (hi.below hm.low (Nat.le_refl _)).more (by omega)
    have hmu : ∀ b : Act, b.eval (.tmp 6) = .int .i64 ((k + 1 : Nat) : Int) → l.length - (intOf (b.eval (.tmp 6))).toNat < l.length - (intOf (a.eval (.tmp 6))).toNat := by
      intro b e
      rw [e, t6]
      simp only [intOf]
      omega
    have hend : ∀ (a' : Act) (v' : Value) (W3 : World), a'.tmps.size = 34 → a'.defers = [] → a'.eval (.tmp 1) = .slice A1 xs.length c1 → a'.eval (.tmp 2) = .pointer (some ⟨h, 0, none⟩) → a'.eval (.tmp 4) = .pointer (some ⟨h + 1, 0, none⟩) → a'.eval (.tmp 5) = .pointer (some ⟨h + 2, 0, none⟩) → a'.eval (.tmp 6) = .int .i64 k → WtM W h o t (some ⟨b, off, none⟩) l.length c v' (outTo l xs (k + 1)) W3 → ∀ Q : Exit → Act → World → Prop,
        (∀ a W', (∃ (k : Nat) (v : Value), k ≤ l.length ∧ a.tmps.size = 34 ∧ a.defers = [] ∧ a.eval (.tmp 1) = .slice A1 xs.length c1 ∧ a.eval (.tmp 2) = .pointer (some ⟨h, 0, none⟩) ∧ a.eval (.tmp 4) = .pointer (some ⟨h + 1, 0, none⟩) ∧ a.eval (.tmp 5) = .pointer (some ⟨h + 2, 0, none⟩) ∧ a.eval (.tmp 6) = .int .i64 k ∧ WtM W h o t (some ⟨b, off, none⟩) l.length c v (outTo l xs k) W') → a.eval (.tmp 6) = .int .i64 ((k + 1 : Nat) : Int) → Q .normal a W') →
        (Code.region 4 opsWt_4 false).wpIn Fence.wide 5 Try.prog Q a' W3 := by
      intro a' v' W3 hz hd' x1 x2 x4 x5 x6 ho Q hQ
      refine region_p 3 ?_
      intro K4 hK4
      refine ListK.move (i := 0) (v := .int .i64 k) rfl (by simp [x6]) ?_
      refine ListK.bin (i := 1) (u := .int .i64 k) (u' := .int .i64 1) (v := .int .i64 (k + 1)) rfl (by simp [hz]) (by simp) (add3 (by omega) (by omega) _) ?_
      refine ListK.assign (i := 2) (v := .int .i64 ((k + 1 : Nat) : Int)) rfl (by simp [hz]) ?_
      skip
      exact ListK.done (hK4 _ _ (hQ _ _ ⟨k + 1, v', by omega, by simp only [size_put, hz], by simp only [defers_put, hd'], (by simp [x1]), (by simp [x2]), (by simp [x4]), (by simp [x5]), (by simp [hz]), ho⟩ (by simp [hz])))
    show (Code.seq _ _).wpIn _ _ _ _ _ _
    refine wpIn_seq (wpIn_block (wpIn_seq (region_p 4 ?_)))
    intro K5 hK5
    refine ListK.move (i := 0) (v := .slice A1 xs.length c1) rfl (by simp [u1]) ?_
    refine ListK.move (i := 1) (v := .int .i64 k) rfl (by simp [u6]) ?_
    refine ListK.call (i := 2) (vs := #[.slice A1 xs.length c1, .int .i64 k]) rfl (enters_of Try.func40 (by kernel_rfl) rfl) (by simp [hz_a1]) (((hasI_any A1 c1 xs k W2 (by omega) hi2)).mono ?_)
    rintro _ _ ⟨rfl, rfl⟩
    refine ⟨_, rfl, ?_⟩
    refine ListK.un (i := 3) (u := .bool (hasI xs k)) (v := .bool (!hasI xs k)) rfl (by simp [hz_a1]) (not4 _ _) ?_
    refine ListK.done (hK5 _ _ ?_)
    cases hbt : hasI xs (k : Int) with
    | true =>
      refine wpIn_cond (t := false) (by simp [hz_a1]) (wpIn_skip ?_)
      refine hend _ v W2 (by simp only [size_put, hz_a1]) (by simp only [defers_put, hd_a1]) (by simp [u1]) (by simp [u2]) (by simp [u4]) (by simp [u5]) (by simp [u6]) ?_ _ (fun a' W' h e => ⟨h, hmu _ e⟩)
      rw [show outTo l xs (k + 1) = outTo l xs k by simp [outTo, hbt]]
      exact hm
    | false =>
      refine wpIn_cond (t := true) (by simp [hz_a1]) ?_
      generalize hA : Act.put _ _ _ = a2
      have hz_a2 : a2.tmps.size = 34 := by rw [← hA]; simp only [size_put, hz_a1]
      have x1 : a2.eval (.tmp 1) = .slice A1 xs.length c1 := by rw [← hA]; exact (by simp [u1])
      have x2 : a2.eval (.tmp 2) = .pointer (some ⟨h, 0, none⟩) := by rw [← hA]; exact (by simp [u2])
      have x4 : a2.eval (.tmp 4) = .pointer (some ⟨h + 1, 0, none⟩) := by rw [← hA]; exact (by simp [u4])
      have x5 : a2.eval (.tmp 5) = .pointer (some ⟨h + 2, 0, none⟩) := by rw [← hA]; exact (by simp [u5])
      have x6 : a2.eval (.tmp 6) = .int .i64 k := by rw [← hA]; exact (by simp [u6])
      have hd_a2 : a2.defers = [] := by rw [← hA]; simp only [defers_put, hd_a1]
      clear hA
      refine regionWt6 (wideF_plain _) hz_a2 x2 x5 x6 hm hs5 hkl hbB (by omega) ?_
      intro a3 W3 v' hm3 hz3 hd3 he3
      refine hend _ v' W3 hz3 (hd3.trans hd_a2) ((he3 1 (by omega)).trans x1) ((he3 2 (by omega)).trans x2) ((he3 4 (by omega)).trans x4) ((he3 5 (by omega)).trans x5) ((he3 6 (by omega)).trans x6) ?_ _ (fun a' W' h e => ⟨h, hmu _ e⟩)
      rw [show outTo l xs (k + 1) = outTo l xs k ++ [saleOf l k] by simp [outTo, hbt]]
      exact hm3
  · obtain rfl : k = l.length := by omega
    refine wpIn_cond (t := false) (by simp [hsz]) (wpIn_exit ?_)
    generalize hA : Act.put _ _ _ = a1
    have hz_a1 : a1.tmps.size = 34 := by rw [← hA]; simp only [size_put, hsz]
    have u4 : a1.eval (.tmp 4) = .pointer (some ⟨h + 1, 0, none⟩) := by rw [← hA]; exact (by simp [t4])
    have u5 : a1.eval (.tmp 5) = .pointer (some ⟨h + 2, 0, none⟩) := by rw [← hA]; exact (by simp [t5])
    have hd_a1 : a1.defers = [] := by rw [← hA]; simp only [defers_put, hdf]
    clear hA
    change WtM W h o t A l.length c v (outL l xs) W2 at hm
    obtain ⟨A', c', rfl, hsa⟩ := sales_of_owns73 hm.own
    have ht2 := hm.kx
    have x0 := ht2.cell 0
    have x1 := ht2.cell 1
    have x2 := ht2.cell 2
    have r := hm.kr
    show (Code.seq _ _).wpIn _ _ _ _ _ _
    refine wpIn_seq (region_p 2 ?_)
    intro K hK
    refine ListK.load (i := 0) (p := ⟨h + 2, 0, none⟩) (v := .agg #[.int .i64 o, .int .i64 t, .slice A' (outL l xs).length c']) rfl (by simp [u5]) (ld24 ⟨x0, x1, x2⟩) ?_
    refine ListK.store (i := 1) (u := .pointer (some ⟨h + 1, 0, none⟩)) (u' := .agg #[.int .i64 o, .int .i64 t, .slice A' (outL l xs).length c']) rfl (by simp [u4]) (by simp [hz_a1]) (st24 (r.cell 0) (r.cell 1) (r.cell 2) (r.frozen 0) (r.frozen 1) (r.frozen 2)) ?_
    refine ListK.done (hK _ _ (wpIn_ret ?_))
    have k3 := ((r.set 0 (.int .i64 o)).set 1 (.int .i64 t)).set 2 (.slice A' (outL l xs).length c')
    refine bodyPost_ret (res24 (b := h + 1) Try.results44 (by simp [u4]) (k3.cell 0) (k3.cell 1) (k3.cell 2)) (by simp only [defers_put, hd_a1]) ⟨A', c', rfl, ?_, ?_⟩
    · have hne : ∀ k s, (outL l xs)[k]? = some s → ∃ b off, A' = some ⟨b, off, none⟩ ∧ b < W2.heap.size ∧ b ≠ h + 1 ∧ SaleAt W2 b off k s := by
        intro k s hks
        obtain ⟨b, off, e1, e2, e3⟩ := hsa k s hks
        refine ⟨b, off, e1, e2, ?_, e3⟩
        rcases hm.own.2 with ⟨e4, _⟩ | ⟨g, cap, cur, e4, e5, _⟩
        · rw [e1] at e4; cases e4
        · rw [e1] at e4; cases e4; omega
      intro k s hks
      obtain ⟨b, off, e1, e2, e3, e4⟩ := hne k s hks
      refine ⟨b, off, e1, by simpa [World.setCell] using e2, e4.keep fun i => ?_⟩
      rw [cell_set_far (by simpa using e3), cell_set_far (by simpa using e3), cell_set_far (by simpa using e3)]
    · have hlow := hm.low
      exact ((hlow.setCell (p := ⟨h + 1, 0, none⟩) (by simp) _).setCell (p := ⟨h + 1, 1, none⟩) (by simp) _).setCell (p := ⟨h + 1, 2, none⟩) (by simp) _
end Go.Proofs.Ytfcnombmphophaa

namespace Go.Proofs.Ytfcnombmphophaa
open Go.RowKit Go.Shelf
section
variable {ops : Array Oper} {K : Act → World → Prop} {Kp : Nat → World → World → Prop} {fuel i d : Nat} {listed : Array Bool} {a : Act} {w : World} {ty : TypeId} {pos : String} {aft : Array Edge} {gd : Option (Nat × Bool)}
end
abbrev RCn (b3 : Nat) (o t : Int) (A : Option Addr) (nl c : Nat) : World → Prop := fun w => w.cell? ⟨b3, 0, none⟩ = some (.int .i64 o) ∧ w.cell? ⟨b3, 1, none⟩ = some (.int .i64 t) ∧ w.cell? ⟨b3, 2, none⟩ = some (.slice A nl c)
theorem RCn.of {b3 : Nat} {o t : Int} {A : Option Addr} {nl c : Nat} {w w' : World} (h : RCn b3 o t A nl c w) (hk : ∀ i u, w.cell? ⟨b3, i, none⟩ = some u → w'.cell? ⟨b3, i, none⟩ = some u) : RCn b3 o t A nl c w' := ⟨hk _ _ h.1, hk _ _ h.2.1, hk _ _ h.2.2⟩
section
attribute [local irreducible] AnyK StepK
end
end Go.Proofs.Ytfcnombmphophaa

namespace Go.Proofs.Ytfcnombmphophaa
open Go.RowKit Go.Shelf
section
attribute [local irreducible] AnyK StepK
end
end Go.Proofs.Ytfcnombmphophaa

namespace Go.Proofs.Ytfcnombmphophaa
open Go.RowKit Go.Shelf
theorem eql3T {x y : Operand} {m n : Int} (h : m = n) (w : World) : (do eqGuard .eql 3 x y (.int .i64 m) (.int .i64 n); binOp .eql 3 (.int .i64 m) (.int .i64 n) : Sem Value).run Try.prog w = .ok (.bool true) w := by
  subst h
  go_simp
theorem eql3F {x y : Operand} {m n : Int} (h : m ≠ n) (w : World) : (do eqGuard .eql 3 x y (.int .i64 m) (.int .i64 n); binOp .eql 3 (.int .i64 m) (.int .i64 n) : Sem Value).run Try.prog w = .ok (.bool false) w := by
  go_simp
end Go.Proofs.Ytfcnombmphophaa

namespace Go.Proofs.Ytfcnombmphophaa
open Go.RowKit Go.Shelf
theorem outL_mem {l : List Sale} {xs : List Int} {s : Sale} (h : s ∈ outL l xs) : s ∈ l := by
  have key : ∀ n, n ≤ l.length → ∀ s, s ∈ outTo l xs n → s ∈ l := by
    intro n
    induction n with
    | zero => intro _ s hs; simp [outTo] at hs
    | succ n ih =>
      intro hn s hs
      unfold outTo at hs
      split at hs
      · exact ih (by omega) s hs
      · rw [List.mem_append, List.mem_singleton] at hs
        rcases hs with hs | rfl
        · exact ih (by omega) s hs
        · rw [saleOf_eq (List.getElem?_eq_getElem (show n < l.length by omega))]
          exact List.getElem_mem _
  exact key _ (Nat.le_refl _) s h
end Go.Proofs.Ytfcnombmphophaa
