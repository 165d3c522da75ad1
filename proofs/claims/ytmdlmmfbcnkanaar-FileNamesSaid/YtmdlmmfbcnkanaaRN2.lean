/- Texts for a law of package file, behind the shared ones, part 2: the law's own contracts and plain words. -/
import Derived.Test.YtmdlmmfbcnkanaaRN1
import Derived.Deep.OwnRows

set_option linter.unusedVariables false
set_option maxRecDepth 10000

namespace Go.Proofs.YtmdlmmfbcnkanaaR
open Go.RowKit Go.Shelf
theorem mk31n (w : World) : (Instr.makeSlice 31 (.int .i64 4001) (.int .i64 4001)).run Try.prog w = .ok (.slice (some ⟨w.heap.size, 0, none⟩) 4001 4001) (w.alloc (.cells (madeCells #[.int .u8 0] 4001) 5)) :=
  run_make_row' 31 5 (.int .u8 0) 1 Try.underlying31 Try.info5 rfl .i64 .i64 4001 (by omega) (by omega) w
theorem made_at {z : Value} {n k : Nat} (h : k < n) : (madeCells #[z] n)[k]? = some z := by simp [madeCells, h, Nat.mod_one]
theorem mk22n (w : World) : (Instr.makeSlice 22 (.int .i64 41) (.int .i64 41)).run Try.prog w = .ok (.slice (some ⟨w.heap.size, 0, none⟩) 41 41) (w.alloc (.cells (Array.replicate 41 (.int .i64 0)) 3)) := by kernel_rfl
theorem set3_own {w : World} {b : Nat} {u0 u1 u2 : Value} (h : Whole w b 29 #[u0, u1, u2]) (x y z : Value) : Whole (((w.setCell ⟨b, 0, none⟩ x).setCell ⟨b, 1, none⟩ y).setCell ⟨b, 2, none⟩ z) b 29 #[x, y, z] := ((h.set 0 x).set 1 y).set 2 z
theorem set3_far {w : World} {b g : Nat} {t : TypeId} {cs : Array Value} (h : Whole w g t cs) (hne : g ≠ b) (x y z : Value) : Whole (((w.setCell ⟨b, 0, none⟩ x).setCell ⟨b, 1, none⟩ y).setCell ⟨b, 2, none⟩ z) g t cs := ((h.far (p := ⟨b, 0, none⟩) hne x).far (p := ⟨b, 1, none⟩) hne y).far (p := ⟨b, 2, none⟩) hne z
theorem set3_below {B b : Nat} {W w : World} (h : Below B W w) (hB : B ≤ b) (x y z : Value) : Below B W (((w.setCell ⟨b, 0, none⟩ x).setCell ⟨b, 1, none⟩ y).setCell ⟨b, 2, none⟩ z) := ((h.setCell (p := ⟨b, 0, none⟩) hB x).setCell (p := ⟨b, 1, none⟩) hB y).setCell (p := ⟨b, 2, none⟩) hB z
theorem bd29_0 (w : World) : (Instr.build 29 #[]).run Try.prog w = .ok (.agg #[.int .i64 0, .int .i64 0, .slice none 0 0]) w := by go_simp
theorem ints_whole {W : World} {g : Nat} {cs : Array Value} {l : List Int} (w : Whole W g 3 cs) (h : ∀ (k : Nat) (x : Int), l[k]? = some x → cs[k]? = some (.int .i64 x)) : IntsAt W W.heap.size (some ⟨g, 0, none⟩) l := by
  intro k x hx
  refine ⟨g, 0, rfl, w.lt, ?_⟩
  rw [Nat.zero_add, w.cell k]
  exact h k x hx
theorem map_at {l : List Int} {cs : Array Value} (h : cs = (l.map (Value.int .i64)).toArray) (k : Nat) (x : Int) (hx : l[k]? = some x) : cs[k]? = some (.int .i64 x) := by
  rw [h, List.getElem?_toArray, List.getElem?_map, hx]
  rfl
theorem zeros_at (n : Nat) : ∃ z : List UInt8, (∀ (k : Nat) (x : UInt8), z[k]? = some x → k < n ∧ x = 0) ∧ z.length = n := by
  refine ⟨List.replicate n 0, fun k x h => ?_, List.length_replicate⟩
  rw [List.getElem?_replicate] at h
  split at h
  · rename_i hk
    cases h
    exact ⟨hk, rfl⟩
  · cases h
section
attribute [local irreducible] AnyK StepK
set_option maxHeartbeats 800000 in
theorem nm_21_any {a : Act} {W W1 : World} {b14 b15 b16 g14 g15 g16 : Nat} (m14 : Whole W1 b14 29 #[.int .i64 3, .int .i64 4, .slice (some ⟨g14, 0, none⟩) 41 41]) (m15 : Whole W1 b15 29 #[.int .i64 9, .int .i64 4, .slice (some ⟨g15, 0, none⟩) 5 5]) (m16 : Whole W1 b16 29 #[.int .i64 3, .int .i64 4, .slice (some ⟨g16, 0, none⟩) 5 5])
    (i14 : IntsAt W1 W1.heap.size (some ⟨g14, 0, none⟩) manyS.rd) (i15 : IntsAt W1 W1.heap.size (some ⟨g15, 0, none⟩) wideS.rd) (i16 : IntsAt W1 W1.heap.size (some ⟨g16, 0, none⟩) farS.rd)
    (hz : a.tmps.size = 188) (hd_a : a.defers = []) (t2 : a.eval (.tmp 2) = .int .i64 7) (t4 : a.eval (.tmp 4) = .int .i64 6) (t6 : a.eval (.tmp 6) = .int .i64 6) (t8 : a.eval (.tmp 8) = .int .i64 6) (t11 : a.eval (.tmp 11) = .int .i64 9) (t13 : a.eval (.tmp 13) = .int .i64 3) (t14 : a.eval (.tmp 14) = ptr b14) (t15 : a.eval (.tmp 15) = ptr b15) (t16 : a.eval (.tmp 16) = ptr b16) (hB : Below W.heap.size W W1) :
    nm_21.wpIn Fence.wide 5 Try.prog (bodyPost Try.prog Try.f14 (TP W true)) a W1 := by
  unfold nm_21
  refine wpIn_seq (region_p 46 ?_)
  intro K hK
  refine ListK.move (i := 0) (v := .int .i64 7) rfl (by simp [t2]) ?_
  refine ListK.bin (i := 1) (u := .int .i64 7) (u' := .int .i64 7) (v := .bool true) rfl (by simp [hz]) (by simp) (eql27T rfl _) ?_
  refine ListK.move (i := 2) (v := .bool true) rfl (by simp [hz]) ?_
  refine ListK.move (i := 3) (v := .int .i64 6) rfl (by simp [t4]) ?_ (hw := wanted_g (e := 145) (b' := true) rfl (by simp [hz]) rfl)
  refine ListK.bin (i := 4) (u := .int .i64 6) (u' := .int .i64 6) (v := .bool true) rfl (by simp [hz]) (by simp) (eql27T rfl _) ?_ (hw := wanted_g (e := 145) (b' := true) rfl (by simp [hz]) rfl)
  refine ListK.pick (i := 5) (b := true) (v := .bool true) rfl (by simp [hz]) (by simp [hz]) ?_
  refine ListK.move (i := 6) (v := .bool true) rfl (by simp [hz]) ?_
  refine ListK.move (i := 7) (v := .int .i64 6) rfl (by simp [t6]) ?_ (hw := wanted_g (e := 149) (b' := true) rfl (by simp [hz]) rfl)
  refine ListK.bin (i := 8) (u := .int .i64 6) (u' := .int .i64 6) (v := .bool true) rfl (by simp [hz]) (by simp) (eql27T rfl _) ?_ (hw := wanted_g (e := 149) (b' := true) rfl (by simp [hz]) rfl)
  refine ListK.pick (i := 9) (b := true) (v := .bool true) rfl (by simp [hz]) (by simp [hz]) ?_
  refine ListK.move (i := 10) (v := .bool true) rfl (by simp [hz]) ?_
  refine ListK.move (i := 11) (v := .int .i64 6) rfl (by simp [t8]) ?_ (hw := wanted_g (e := 153) (b' := true) rfl (by simp [hz]) rfl)
  refine ListK.bin (i := 12) (u := .int .i64 6) (u' := .int .i64 6) (v := .bool true) rfl (by simp [hz]) (by simp) (eql27T rfl _) ?_ (hw := wanted_g (e := 153) (b' := true) rfl (by simp [hz]) rfl)
  refine ListK.pick (i := 13) (b := true) (v := .bool true) rfl (by simp [hz]) (by simp [hz]) ?_
  refine ListK.move (i := 14) (v := .bool true) rfl (by simp [hz]) ?_
  refine ListK.move (i := 15) (v := .int .i64 9) rfl (by simp [t11]) ?_ (hw := wanted_g (e := 157) (b' := true) rfl (by simp [hz]) rfl)
  refine ListK.bin (i := 16) (u := .int .i64 9) (u' := .int .i64 9) (v := .bool true) rfl (by simp [hz]) (by simp) (eql27T rfl _) ?_ (hw := wanted_g (e := 157) (b' := true) rfl (by simp [hz]) rfl)
  refine ListK.pick (i := 17) (b := true) (v := .bool true) rfl (by simp [hz]) (by simp [hz]) ?_
  refine ListK.move (i := 18) (v := .bool true) rfl (by simp [hz]) ?_
  refine ListK.move (i := 19) (v := .int .i64 3) rfl (by simp [t13]) ?_ (hw := wanted_g (e := 161) (b' := true) rfl (by simp [hz]) rfl)
  refine ListK.bin (i := 20) (u := .int .i64 3) (u' := .int .i64 3) (v := .bool true) rfl (by simp [hz]) (by simp) (eql27T rfl _) ?_ (hw := wanted_g (e := 161) (b' := true) rfl (by simp [hz]) rfl)
  refine ListK.pick (i := 21) (b := true) (v := .bool true) rfl (by simp [hz]) (by simp [hz]) ?_
  refine ListK.move (i := 22) (v := .bool true) rfl (by simp [hz]) ?_
  refine ListK.load (i := 23) (p := ⟨b14, 0, none⟩) (v := serV manyS (some ⟨g14, 0, none⟩) 41) rfl (by simp [t14]) (ld29 ⟨m14.cell 0, m14.cell 1, m14.cell 2⟩) ?_ (hw := wanted_g (e := 165) (b' := true) rfl (by simp [hz]) rfl)
  refine ListK.call (i := 24) (vs := #[serV manyS (some ⟨g14, 0, none⟩) 41]) rfl (enters_of Try.func17 (by kernel_rfl) rfl) (by simp [hz]) ((check_any manyS (some ⟨g14, 0, none⟩) 41 W1 (by decide) i14).mono ?_) (hw := wanted_g (e := 165) (b' := true) rfl (by simp [hz]) rfl)
  rintro _ W2 ⟨rfl, hb2⟩
  have m15b := m15.below hb2 m15.lt
  refine ⟨_, rfl, ?_⟩
  refine ListK.bin (i := 25) (u := .int .i64 (faultS manyS)) (u' := .int .i64 3) (v := .bool true) rfl (by simp [hz]) (by simp) (eql27T n_s1 _) ?_ (hw := wanted_g (e := 165) (b' := true) rfl (by simp [hz]) rfl)
  refine ListK.pick (i := 26) (b := true) (v := .bool true) rfl (by simp [hz]) (by simp [hz]) ?_
  refine ListK.move (i := 27) (v := .bool true) rfl (by simp [hz]) ?_
  refine ListK.load (i := 28) (p := ⟨b15, 0, none⟩) (v := serV wideS (some ⟨g15, 0, none⟩) 5) rfl (by simp [t15]) (ld29 ⟨m15b.cell 0, m15b.cell 1, m15b.cell 2⟩) ?_ (hw := wanted_g (e := 170) (b' := true) rfl (by simp [hz]) rfl)
  refine ListK.call (i := 29) (vs := #[serV wideS (some ⟨g15, 0, none⟩) 5]) rfl (enters_of Try.func17 (by kernel_rfl) rfl) (by simp [hz]) ((check_any wideS (some ⟨g15, 0, none⟩) 5 W2 (by decide) ((i15.below hb2 (Nat.le_refl _)).more hb2.size)).mono ?_) (hw := wanted_g (e := 170) (b' := true) rfl (by simp [hz]) rfl)
  rintro _ W3 ⟨rfl, hb3⟩
  have hb13 := hb2.trans (hb3.mono hb2.size)
  have m16c := m16.below hb13 m16.lt
  refine ⟨_, rfl, ?_⟩
  refine ListK.bin (i := 30) (u := .int .i64 (faultS wideS)) (u' := .int .i64 1) (v := .bool true) rfl (by simp [hz]) (by simp) (eql27T n_s2 _) ?_ (hw := wanted_g (e := 170) (b' := true) rfl (by simp [hz]) rfl)
  refine ListK.pick (i := 31) (b := true) (v := .bool true) rfl (by simp [hz]) (by simp [hz]) ?_
  refine ListK.move (i := 32) (v := .bool true) rfl (by simp [hz]) ?_
  refine ListK.load (i := 33) (p := ⟨b16, 0, none⟩) (v := serV farS (some ⟨g16, 0, none⟩) 5) rfl (by simp [t16]) (ld29 ⟨m16c.cell 0, m16c.cell 1, m16c.cell 2⟩) ?_ (hw := wanted_g (e := 175) (b' := true) rfl (by simp [hz]) rfl)
  refine ListK.call (i := 34) (vs := #[serV farS (some ⟨g16, 0, none⟩) 5]) rfl (enters_of Try.func17 (by kernel_rfl) rfl) (by simp [hz]) ((check_any farS (some ⟨g16, 0, none⟩) 5 W3 (by decide) ((i16.below hb13 (Nat.le_refl _)).more hb13.size)).mono ?_) (hw := wanted_g (e := 175) (b' := true) rfl (by simp [hz]) rfl)
  rintro _ W4 ⟨rfl, hb4⟩
  have hb14 := hb13.trans (hb4.mono hb13.size)
  refine ⟨_, rfl, ?_⟩
  refine ListK.bin (i := 35) (u := .int .i64 (faultS farS)) (u' := .int .i64 1) (v := .bool true) rfl (by simp [hz]) (by simp) (eql27T n_s3 _) ?_ (hw := wanted_g (e := 175) (b' := true) rfl (by simp [hz]) rfl)
  refine ListK.pick (i := 36) (b := true) (v := .bool true) rfl (by simp [hz]) (by simp [hz]) ?_
  refine ListK.move (i := 37) (v := .bool true) rfl (by simp [hz]) ?_
  refine ListK.bldW (i := 38) (ps := #[]) (v := serV noneS none 0) rfl (by simp) (bd29_0 _) ?_ (hw := wanted_g (e := 180) (b' := true) rfl (by simp [hz]) rfl)
  refine ListK.call (i := 39) (vs := #[serV noneS none 0]) rfl (enters_of Try.func17 (by kernel_rfl) rfl) (by simp [hz]) ((check_any noneS none 0 W4 (by decide) (fun k x h => by simp [noneS] at h)).mono ?_) (hw := wanted_g (e := 180) (b' := true) rfl (by simp [hz]) rfl)
  rintro _ W5 ⟨rfl, hb5⟩
  have hb15 := hb14.trans (hb5.mono hb14.size)
  refine ⟨_, rfl, ?_⟩
  refine ListK.bin (i := 40) (u := .int .i64 (faultS noneS)) (u' := .int .i64 1) (v := .bool true) rfl (by simp [hz]) (by simp) (eql27T n_s4 _) ?_ (hw := wanted_g (e := 180) (b' := true) rfl (by simp [hz]) rfl)
  refine ListK.pick (i := 41) (b := true) (v := .bool true) rfl (by simp [hz]) (by simp [hz]) ?_
  refine ListK.move (i := 42) (v := .bool true) rfl (by simp [hz]) ?_
  refine ListK.call (i := 43) (vs := #[]) rfl (enters_of Try.func16 (by kernel_rfl) rfl) (by simp) ((awake_any W5).mono ?_) (hw := wanted_g (e := 185) (b' := true) rfl (by simp [hz]) rfl)
  rintro _ W6 ⟨rfl, hb6⟩
  have hb16 := hb15.trans (hb6.mono hb15.size)
  refine ⟨_, rfl, ?_⟩
  refine ListK.pick (i := 44) (b := true) (v := .bool true) rfl (by simp [hz]) (by simp [hz]) ?_
  refine ListK.assign (i := 45) (v := .bool true) rfl (by simp [hz]) ?_
  refine ListK.done (hK _ _ (wpIn_ret ?_))
  exact bodyPost_ret (v := .bool true) (res1 Try.results14 (by simp [hz])) (by simp only [defers_put, hd_a]) ⟨rfl, hB.trans (hb16.mono hB.size)⟩
set_option maxHeartbeats 800000 in
theorem nm_18_any {a : Act} {W W9 : World} {b14 b15 b16 g14 g15 g16 : Nat} (m14 : Whole W9 b14 29 #[.int .i64 3, .int .i64 4, .slice (some ⟨g14, 0, none⟩) 5 5]) (m15 : Whole W9 b15 29 #[.int .i64 3, .int .i64 4, .slice (some ⟨g15, 0, none⟩) 5 5]) (m16 : Whole W9 b16 29 #[.int .i64 3, .int .i64 4, .slice (some ⟨g16, 0, none⟩) 5 5]) (p15 : Whole W9 g15 3 #[.int .i64 50, .int .i64 52, .int .i64 49, .int .i64 47, .int .i64 50]) (p16 : Whole W9 g16 3 #[.int .i64 50, .int .i64 52, .int .i64 49, .int .i64 47, .int .i64 50]) (hs1 : b14 < b15) (hs2 : b15 < b16) (hlt9 : b16 < W9.heap.size) (hg15 : g15 < b14) (hg16 : g16 < b14) (hgg : g15 < g16) (hWb : W.heap.size ≤ g16) (hz : a.tmps.size = 188) (hd_a : a.defers = []) (t2 : a.eval (.tmp 2) = .int .i64 7) (t4 : a.eval (.tmp 4) = .int .i64 6) (t6 : a.eval (.tmp 6) = .int .i64 6) (t8 : a.eval (.tmp 8) = .int .i64 6) (t11 : a.eval (.tmp 11) = .int .i64 9) (t13 : a.eval (.tmp 13) = .int .i64 3) (t14 : a.eval (.tmp 14) = ptr b14) (t15 : a.eval (.tmp 15) = ptr b15) (t16 : a.eval (.tmp 16) = ptr b16) (hB9 : Below W.heap.size W W9) :
    nm_18.wpIn Fence.wide 5 Try.prog (bodyPost Try.prog Try.f14 (TP W true)) a W9 := by
  unfold nm_18
  have hbm : Below W9.heap.size W9 (W9.alloc (.cells (Array.replicate 41 (.int .i64 0)) 3)) := (Below.refl _ W9).alloc (Nat.le_refl _) _
  have qm := Whole.new W9 3 (Array.replicate 41 (.int .i64 0))
  have lm := qm.lt
  have k14 := m14.lt
  replace m14 := m14.below hbm m14.lt
  replace m15 := m15.below hbm m15.lt
  replace m16 := m16.below hbm m16.lt
  replace p15 := p15.below hbm p15.lt
  replace p16 := p16.below hbm p16.lt
  refine wpIn_seq (region_p 3 ?_)
  intro K hK
  refine ListK.mkS (i := 0) (u := .int .i64 41) (u' := .int .i64 41) (v := .slice (some ⟨W9.heap.size, 0, none⟩) 41 41) rfl (by simp) (by simp) (mk22n W9) ?_
  refine ListK.field (i := 1) (u := .pointer (some ⟨b14, 0, none⟩)) (v := .pointer (some ⟨b14, 2, none⟩)) rfl (by simp [t14]) (fa29_2 _) ?_
  refine ListK.store (i := 2) (u := .pointer (some ⟨b14, 2, none⟩)) (u' := .slice (some ⟨W9.heap.size, 0, none⟩) 41 41) rfl (by simp [hz]) (by simp [hz]) (st22 (m14.cell 2) (m14.frozen 2)) ?_
  refine ListK.done (hK _ _ ?_)
  clear hK K
  have hB10 : Below W.heap.size W ((W9.alloc (.cells (Array.replicate 41 (.int .i64 0)) 3)).setCell ⟨b14, 2, none⟩ (.slice (some ⟨W9.heap.size, 0, none⟩) 41 41)) := (hB9.trans (hbm.mono hB9.size)).setCell (p := ⟨b14, 2, none⟩) (show W.heap.size ≤ b14 by omega) _
  replace m14 := m14.set 2 (.slice (some ⟨W9.heap.size, 0, none⟩) 41 41)
  replace m15 := m15.far (p := ⟨b14, 2, none⟩) (show b15 ≠ b14 by omega) (.slice (some ⟨W9.heap.size, 0, none⟩) 41 41)
  replace m16 := m16.far (p := ⟨b14, 2, none⟩) (show b16 ≠ b14 by omega) (.slice (some ⟨W9.heap.size, 0, none⟩) 41 41)
  replace p15 := p15.far (p := ⟨b14, 2, none⟩) (show g15 ≠ b14 by omega) (.slice (some ⟨W9.heap.size, 0, none⟩) 41 41)
  replace p16 := p16.far (p := ⟨b14, 2, none⟩) (show g16 ≠ b14 by omega) (.slice (some ⟨W9.heap.size, 0, none⟩) 41 41)
  replace qm := qm.far (p := ⟨b14, 2, none⟩) (show W9.heap.size ≠ b14 by omega) (.slice (some ⟨W9.heap.size, 0, none⟩) 41 41)
  generalize W9.heap.size = gm at *
  generalize (W9.alloc (.cells (Array.replicate 41 (.int .i64 0)) 3)).setCell ⟨b14, 2, none⟩ (.slice (some ⟨gm, 0, none⟩) 41 41) = W10 at *
  generalize hA : Act.put _ _ _ = a3
  have hz_a3 : a3.tmps.size = 188 := by rw [← hA]; simp only [size_put, hz]
  have q2 : a3.eval (.tmp 2) = .int .i64 7 := by rw [← hA]; exact (by simp [t2])
  have q4 : a3.eval (.tmp 4) = .int .i64 6 := by rw [← hA]; exact (by simp [t4])
  have q6 : a3.eval (.tmp 6) = .int .i64 6 := by rw [← hA]; exact (by simp [t6])
  have q8 : a3.eval (.tmp 8) = .int .i64 6 := by rw [← hA]; exact (by simp [t8])
  have q11 : a3.eval (.tmp 11) = .int .i64 9 := by rw [← hA]; exact (by simp [t11])
  have q13 : a3.eval (.tmp 13) = .int .i64 3 := by rw [← hA]; exact (by simp [t13])
  have q14 : a3.eval (.tmp 14) = .pointer (some ⟨b14, 0, none⟩) := by rw [← hA]; exact (by simp [t14])
  have q15 : a3.eval (.tmp 15) = .pointer (some ⟨b15, 0, none⟩) := by rw [← hA]; exact (by simp [t15])
  have q16 : a3.eval (.tmp 16) = .pointer (some ⟨b16, 0, none⟩) := by rw [← hA]; exact (by simp [t16])
  have hd_a3 : a3.defers = [] := by rw [← hA]; simp only [defers_put, hd_a]
  clear hA
  refine wpIn_seq (region_p 2 ?_)
  intro K hK
  refine ListK.field (i := 0) (u := .pointer (some ⟨b15, 0, none⟩)) (v := .pointer (some ⟨b15, 0, none⟩)) rfl (by simp [q15]) (fa29_0 _) ?_
  refine ListK.store (i := 1) (u := .pointer (some ⟨b15, 0, none⟩)) (u' := .int .i64 9) rfl (by simp [hz_a3]) (by simp) (st3 (m15.cell 0) (m15.frozen 0)) ?_
  refine ListK.done (hK _ _ ?_)
  clear hK K
  have hB11 := hB10.setCell (p := ⟨b15, 0, none⟩) (show W.heap.size ≤ b15 by omega) (.int .i64 9)
  replace m14 := m14.far (p := ⟨b15, 0, none⟩) (show b14 ≠ b15 by omega) (.int .i64 9)
  replace m15 := m15.set 0 (.int .i64 9)
  replace m16 := m16.far (p := ⟨b15, 0, none⟩) (show b16 ≠ b15 by omega) (.int .i64 9)
  replace p15 := p15.far (p := ⟨b15, 0, none⟩) (show g15 ≠ b15 by omega) (.int .i64 9)
  replace p16 := p16.far (p := ⟨b15, 0, none⟩) (show g16 ≠ b15 by omega) (.int .i64 9)
  replace qm := qm.far (p := ⟨b15, 0, none⟩) (show gm ≠ b15 by omega) (.int .i64 9)
  generalize W10.setCell ⟨b15, 0, none⟩ (.int .i64 9) = W11 at *
  generalize hA : Act.put _ _ _ = a4
  have hz_a4 : a4.tmps.size = 188 := by rw [← hA]; simp only [size_put, hz_a3]
  have r2 : a4.eval (.tmp 2) = .int .i64 7 := by rw [← hA]; exact (by simp [q2])
  have r4 : a4.eval (.tmp 4) = .int .i64 6 := by rw [← hA]; exact (by simp [q4])
  have r6 : a4.eval (.tmp 6) = .int .i64 6 := by rw [← hA]; exact (by simp [q6])
  have r8 : a4.eval (.tmp 8) = .int .i64 6 := by rw [← hA]; exact (by simp [q8])
  have r11 : a4.eval (.tmp 11) = .int .i64 9 := by rw [← hA]; exact (by simp [q11])
  have r13 : a4.eval (.tmp 13) = .int .i64 3 := by rw [← hA]; exact (by simp [q13])
  have r14 : a4.eval (.tmp 14) = .pointer (some ⟨b14, 0, none⟩) := by rw [← hA]; exact (by simp [q14])
  have r15 : a4.eval (.tmp 15) = .pointer (some ⟨b15, 0, none⟩) := by rw [← hA]; exact (by simp [q15])
  have r16 : a4.eval (.tmp 16) = .pointer (some ⟨b16, 0, none⟩) := by rw [← hA]; exact (by simp [q16])
  have hd_a4 : a4.defers = [] := by rw [← hA]; simp only [defers_put, hd_a3]
  clear hA
  refine wpIn_seq (region_p 4 ?_)
  intro K hK
  refine ListK.field (i := 0) (u := .pointer (some ⟨b16, 0, none⟩)) (v := .pointer (some ⟨b16, 2, none⟩)) rfl (by simp [r16]) (fa29_2 _) ?_
  refine ListK.load (i := 1) (p := ⟨b16, 2, none⟩) (v := .slice (some ⟨g16, 0, none⟩) 5 5) rfl (by simp [hz_a4]) (ld22 ((m16.cell 2))) ?_
  refine ListK.index (i := 2) (u := .slice (some ⟨g16, 0, none⟩) 5 5) (u' := .int .i64 1) (v := .pointer (some ⟨g16, 1, none⟩)) rfl (by simp [hz_a4]) (by simp) (ix22z (i := 1) (by decide) _) ?_
  refine ListK.store (i := 3) (u := .pointer (some ⟨g16, 1, none⟩)) (u' := .int .i64 55) rfl (by simp [hz_a4]) (by simp) (st3 (p16.cell 1) (p16.frozen 1)) ?_
  refine ListK.done (hK _ _ ?_)
  clear hK K
  have hB12 := hB11.setCell (p := ⟨g16, 1, none⟩) hWb (.int .i64 55)
  replace m14 := m14.far (p := ⟨g16, 1, none⟩) (show b14 ≠ g16 by omega) (.int .i64 55)
  replace m15 := m15.far (p := ⟨g16, 1, none⟩) (show b15 ≠ g16 by omega) (.int .i64 55)
  replace m16 := m16.far (p := ⟨g16, 1, none⟩) (show b16 ≠ g16 by omega) (.int .i64 55)
  replace p15 := p15.far (p := ⟨g16, 1, none⟩) (show g15 ≠ g16 by omega) (.int .i64 55)
  replace p16 := p16.set 1 (.int .i64 55)
  replace qm := qm.far (p := ⟨g16, 1, none⟩) (show gm ≠ g16 by omega) (.int .i64 55)
  generalize W11.setCell ⟨g16, 1, none⟩ (.int .i64 55) = W12 at *
  show nm_21.wpIn _ _ _ _ _ _
  exact nm_21_any m14 m15 m16 (ints_whole qm (map_at rfl)) (ints_whole p15 (map_at rfl)) (ints_whole p16 (map_at rfl)) (by simp only [size_put, hz_a4]) (by simp only [defers_put, hd_a4]) (by simp [r2]) (by simp [r4]) (by simp [r6]) (by simp [r8]) (by simp [r11]) (by simp [r13]) (by simp [r14]) (by simp [r15]) (by simp [r16]) hB12
set_option maxHeartbeats 800000 in
theorem nm_17_any {a : Act} {W W3 : World} (hz : a.tmps.size = 188) (hd_a : a.defers = []) (t2 : a.eval (.tmp 2) = .int .i64 7) (t4 : a.eval (.tmp 4) = .int .i64 6) (t6 : a.eval (.tmp 6) = .int .i64 6) (t8 : a.eval (.tmp 8) = .int .i64 6) (t11 : a.eval (.tmp 11) = .int .i64 9) (t13 : a.eval (.tmp 13) = .int .i64 3) (hB3 : Below W.heap.size W W3) :
    nm_17.wpIn Fence.wide 5 Try.prog (bodyPost Try.prog Try.f14 (TP W true)) a W3 := by
  unfold nm_17
  have hsz3 := hB3.size
  refine wpIn_seq (region_p 9 ?_)
  intro K hK
  refine ListK.call (i := 0) (vs := #[]) rfl (enters_of Try.func41 (by kernel_rfl) rfl) (by simp) ((fiveW_any W3).mono ?_)
  rintro _ W4 ⟨g14, rfl, ge14, q14, hb4⟩
  have lg14 := q14.lt
  refine ⟨_, rfl, ?_⟩
  refine ListK.call (i := 1) (vs := #[]) rfl (enters_of Try.func41 (by kernel_rfl) rfl) (by simp) ((fiveW_any W4).mono ?_)
  rintro _ W5 ⟨g15, rfl, ge15, q15, hb5⟩
  have lg15 := q15.lt
  refine ⟨_, rfl, ?_⟩
  refine ListK.call (i := 2) (vs := #[]) rfl (enters_of Try.func41 (by kernel_rfl) rfl) (by simp) ((fiveW_any W5).mono ?_)
  rintro _ W6 ⟨g16, rfl, ge16, q16, hb6⟩
  have lg16 := q16.lt
  have hb45 := hb5.size
  have hb56 := hb6.size
  replace q15 := q15.below hb6 q15.lt
  refine ⟨_, rfl, ?_⟩
  refine ListK.alloc (i := 3) rfl (al29 W6) ?_
  have m14 := Whole.new W6 29 #[.int .i64 0, .int .i64 0, .slice none 0 0]
  have hxX1 : Below W6.heap.size W6 (W6.alloc (.cells #[.int .i64 0, .int .i64 0, .slice none 0 0] 29)) := (Below.refl _ _).alloc (Nat.le_refl _) _
  replace q15 := q15.below hxX1 q15.lt
  replace q16 := q16.below hxX1 q16.lt
  have lb14 := m14.lt
  generalize hqb14 : W6.heap.size = b14 at *
  generalize W6.alloc (.cells #[.int .i64 0, .int .i64 0, .slice none 0 0] 29) = X1 at *
  refine ListK.alloc (i := 4) rfl (al29 X1) ?_
  have m15 := Whole.new X1 29 #[.int .i64 0, .int .i64 0, .slice none 0 0]
  have hxX2 : Below X1.heap.size X1 (X1.alloc (.cells #[.int .i64 0, .int .i64 0, .slice none 0 0] 29)) := (Below.refl _ _).alloc (Nat.le_refl _) _
  replace q15 := q15.below hxX2 q15.lt
  replace q16 := q16.below hxX2 q16.lt
  replace m14 := m14.below hxX2 m14.lt
  have lb15 := m15.lt
  generalize hqb15 : X1.heap.size = b15 at *
  generalize X1.alloc (.cells #[.int .i64 0, .int .i64 0, .slice none 0 0] 29) = X2 at *
  refine ListK.alloc (i := 5) rfl (al29 X2) ?_
  have m16 := Whole.new X2 29 #[.int .i64 0, .int .i64 0, .slice none 0 0]
  have hxX3 : Below X2.heap.size X2 (X2.alloc (.cells #[.int .i64 0, .int .i64 0, .slice none 0 0] 29)) := (Below.refl _ _).alloc (Nat.le_refl _) _
  replace q15 := q15.below hxX3 q15.lt
  replace q16 := q16.below hxX3 q16.lt
  replace m14 := m14.below hxX3 m14.lt
  replace m15 := m15.below hxX3 m15.lt
  have lb16 := m16.lt
  generalize hqb16 : X2.heap.size = b16 at *
  generalize X2.alloc (.cells #[.int .i64 0, .int .i64 0, .slice none 0 0] 29) = X3 at *
  refine ListK.store (i := 6) (u := .pointer (some ⟨b14, 0, none⟩)) (u' := .agg #[.int .i64 3, .int .i64 4, .slice (some ⟨g14, 0, none⟩) 5 5]) rfl (by simp [hz]) (by simp [hz]) (st29 m14) ?_
  have hyY1 : Below b14 X3 (((X3.setCell ⟨b14, 0, none⟩ (.int .i64 3)).setCell ⟨b14, 1, none⟩ (.int .i64 4)).setCell ⟨b14, 2, none⟩ (.slice (some ⟨g14, 0, none⟩) 5 5)) := set3_below (Below.refl _ _) (by omega) _ _ _
  replace m14 : Whole (((X3.setCell ⟨b14, 0, none⟩ (.int .i64 3)).setCell ⟨b14, 1, none⟩ (.int .i64 4)).setCell ⟨b14, 2, none⟩ (.slice (some ⟨g14, 0, none⟩) 5 5)) b14 29 #[.int .i64 3, .int .i64 4, .slice (some ⟨g14, 0, none⟩) 5 5] := set3_own m14 _ _ _
  replace q15 := set3_far (b := b14) q15 (by omega) (.int .i64 3) (.int .i64 4) (.slice (some ⟨g14, 0, none⟩) 5 5)
  replace q16 := set3_far (b := b14) q16 (by omega) (.int .i64 3) (.int .i64 4) (.slice (some ⟨g14, 0, none⟩) 5 5)
  replace m15 := set3_far (b := b14) m15 (by omega) (.int .i64 3) (.int .i64 4) (.slice (some ⟨g14, 0, none⟩) 5 5)
  replace m16 := set3_far (b := b14) m16 (by omega) (.int .i64 3) (.int .i64 4) (.slice (some ⟨g14, 0, none⟩) 5 5)
  generalize ((X3.setCell ⟨b14, 0, none⟩ (.int .i64 3)).setCell ⟨b14, 1, none⟩ (.int .i64 4)).setCell ⟨b14, 2, none⟩ (.slice (some ⟨g14, 0, none⟩) 5 5) = Y1 at *
  refine ListK.store (i := 7) (u := .pointer (some ⟨b15, 0, none⟩)) (u' := .agg #[.int .i64 3, .int .i64 4, .slice (some ⟨g15, 0, none⟩) 5 5]) rfl (by simp [hz]) (by simp [hz]) (st29 m15) ?_
  have hyY2 : Below b14 Y1 (((Y1.setCell ⟨b15, 0, none⟩ (.int .i64 3)).setCell ⟨b15, 1, none⟩ (.int .i64 4)).setCell ⟨b15, 2, none⟩ (.slice (some ⟨g15, 0, none⟩) 5 5)) := set3_below (Below.refl _ _) (by omega) _ _ _
  replace m15 : Whole (((Y1.setCell ⟨b15, 0, none⟩ (.int .i64 3)).setCell ⟨b15, 1, none⟩ (.int .i64 4)).setCell ⟨b15, 2, none⟩ (.slice (some ⟨g15, 0, none⟩) 5 5)) b15 29 #[.int .i64 3, .int .i64 4, .slice (some ⟨g15, 0, none⟩) 5 5] := set3_own m15 _ _ _
  replace q15 := set3_far (b := b15) q15 (by omega) (.int .i64 3) (.int .i64 4) (.slice (some ⟨g15, 0, none⟩) 5 5)
  replace q16 := set3_far (b := b15) q16 (by omega) (.int .i64 3) (.int .i64 4) (.slice (some ⟨g15, 0, none⟩) 5 5)
  replace m14 := set3_far (b := b15) m14 (by omega) (.int .i64 3) (.int .i64 4) (.slice (some ⟨g15, 0, none⟩) 5 5)
  replace m16 := set3_far (b := b15) m16 (by omega) (.int .i64 3) (.int .i64 4) (.slice (some ⟨g15, 0, none⟩) 5 5)
  generalize ((Y1.setCell ⟨b15, 0, none⟩ (.int .i64 3)).setCell ⟨b15, 1, none⟩ (.int .i64 4)).setCell ⟨b15, 2, none⟩ (.slice (some ⟨g15, 0, none⟩) 5 5) = Y2 at *
  refine ListK.store (i := 8) (u := .pointer (some ⟨b16, 0, none⟩)) (u' := .agg #[.int .i64 3, .int .i64 4, .slice (some ⟨g16, 0, none⟩) 5 5]) rfl (by simp [hz]) (by simp [hz]) (st29 m16) ?_
  have hyY3 : Below b14 Y2 (((Y2.setCell ⟨b16, 0, none⟩ (.int .i64 3)).setCell ⟨b16, 1, none⟩ (.int .i64 4)).setCell ⟨b16, 2, none⟩ (.slice (some ⟨g16, 0, none⟩) 5 5)) := set3_below (Below.refl _ _) (by omega) _ _ _
  replace m16 : Whole (((Y2.setCell ⟨b16, 0, none⟩ (.int .i64 3)).setCell ⟨b16, 1, none⟩ (.int .i64 4)).setCell ⟨b16, 2, none⟩ (.slice (some ⟨g16, 0, none⟩) 5 5)) b16 29 #[.int .i64 3, .int .i64 4, .slice (some ⟨g16, 0, none⟩) 5 5] := set3_own m16 _ _ _
  replace q15 := set3_far (b := b16) q15 (by omega) (.int .i64 3) (.int .i64 4) (.slice (some ⟨g16, 0, none⟩) 5 5)
  replace q16 := set3_far (b := b16) q16 (by omega) (.int .i64 3) (.int .i64 4) (.slice (some ⟨g16, 0, none⟩) 5 5)
  replace m14 := set3_far (b := b16) m14 (by omega) (.int .i64 3) (.int .i64 4) (.slice (some ⟨g16, 0, none⟩) 5 5)
  replace m15 := set3_far (b := b16) m15 (by omega) (.int .i64 3) (.int .i64 4) (.slice (some ⟨g16, 0, none⟩) 5 5)
  generalize ((Y2.setCell ⟨b16, 0, none⟩ (.int .i64 3)).setCell ⟨b16, 1, none⟩ (.int .i64 4)).setCell ⟨b16, 2, none⟩ (.slice (some ⟨g16, 0, none⟩) 5 5) = Y3 at *
  refine ListK.done (hK _ _ ?_)
  clear hK K
  have hB9 : Below W.heap.size W Y3 := hB3.trans ((hb4.trans ((hb5.trans ((hb6.trans (((hxX1.trans ((hxX2.trans (hxX3.mono (by omega))).mono (by omega))).trans ((hyY1.trans (hyY2.trans hyY3)))).mono hb56)).mono hb45)).mono hb4.size)).mono hB3.size)
  show nm_18.wpIn _ _ _ _ _ _
  exact nm_18_any m14 m15 m16 q15 q16 (by omega) (by omega) m16.lt (by omega) (by omega) (by omega) (by omega) (by simp only [size_put, hz]) (by simp only [defers_put, hd_a]) (by simp [t2]) (by simp [t4]) (by simp [t6]) (by simp [t8]) (by simp [t11]) (by simp [t13]) (by simp [hz]) (by simp [hz]) (by simp [hz]) hB9
set_option maxHeartbeats 800000 in
theorem nm_16_any {a : Act} {W W1 : World} (hz : a.tmps.size = 188) (hd_a : a.defers = []) (t2 : a.eval (.tmp 2) = .int .i64 7) (t4 : a.eval (.tmp 4) = .int .i64 6) (t6 : a.eval (.tmp 6) = .int .i64 6) (t8 : a.eval (.tmp 8) = .int .i64 6) (t11 : a.eval (.tmp 11) = .int .i64 9) (hB : Below W.heap.size W W1) :
    nm_16.wpIn Fence.wide 5 Try.prog (bodyPost Try.prog Try.f14 (TP W true)) a W1 := by
  obtain ⟨z, hzz, hzl⟩ := zeros_at 4001
  have hbz : Below W1.heap.size W1 (W1.alloc (.cells (madeCells #[.int .u8 0] 4001) 5)) := (Below.refl _ W1).alloc (Nat.le_refl _) _
  have hyz : BytesAt (W1.alloc (.cells (madeCells #[.int .u8 0] 4001) 5)) (W1.alloc (.cells (madeCells #[.int .u8 0] 4001) 5)).heap.size (some ⟨W1.heap.size, 0, none⟩) z := by
    intro k x hx
    obtain ⟨h1, rfl⟩ := hzz k x hx
    have w := Whole.new W1 5 (madeCells #[.int .u8 0] 4001)
    refine ⟨_, _, rfl, w.lt, ?_⟩
    rw [Nat.zero_add, w.cell k, made_at h1]
    rfl
  have hct := count_any (some ⟨W1.heap.size, 0, none⟩) z 4001 _ (by omega) hyz
  rw [hzl] at hct
  unfold nm_16
  refine wpIn_seq (region_p 8 ?_)
  intro K hK
  refine ListK.mkS (i := 0) (u := .int .i64 4001) (u' := .int .i64 4001) (v := .slice (some ⟨W1.heap.size, 0, none⟩) 4001 4001) rfl (by simp) (by simp) (mk31n W1) ?_
  refine ListK.call (i := 1) (vs := #[.slice (some ⟨W1.heap.size, 0, none⟩) 4001 4001]) rfl (enters_of Try.func37 (by kernel_rfl) rfl) (by simp [hz]) ((hct).mono ?_)
  rintro _ W2 ⟨rfl, hb2⟩
  rw [n_big z (by omega)]
  refine ⟨_, rfl, ?_⟩
  refine ListK.move (i := 2) (v := .tuple #[.agg (c62 0 0 0), .int .i64 3]) rfl (by simp [hz]) ?_
  refine ListK.extract (i := 3) (u := .tuple #[.agg (c62 0 0 0), .int .i64 3]) (v := .agg (c62 0 0 0)) rfl (by simp [hz]) (ex0 _ _ _) ?_
  refine ListK.extract (i := 4) (u := .tuple #[.agg (c62 0 0 0), .int .i64 3]) (v := .int .i64 3) rfl (by simp [hz]) (ex1 _ _ _) ?_
  refine ListK.alloc (i := 5) rfl (al62 W2) ?_
  refine ListK.store (i := 6) (u := .pointer (some ⟨W2.heap.size, 0, none⟩)) (u' := .agg (c62 0 0 0)) rfl (by simp [hz]) (by simp [hz]) (st62 (Whole.new W2 62 #[.int .i64 0, .int .i64 0, .int .i64 0])) ?_
  refine ListK.assign (i := 7) (v := .int .i64 3) rfl (by simp [hz]) ?_
  refine ListK.done (hK _ _ ?_)
  clear hK K
  have hb3 : Below W2.heap.size W2 ((((W2.alloc (.cells #[.int .i64 0, .int .i64 0, .int .i64 0] 62)).setCell ⟨W2.heap.size, 0, none⟩ (.int .i64 ((0 : Nat) : Int))).setCell ⟨W2.heap.size, 1, none⟩ (.int .i64 ((0 : Nat) : Int))).setCell ⟨W2.heap.size, 2, none⟩ (.int .i64 ((0 : Nat) : Int))) := ((((Below.refl _ W2).alloc (Nat.le_refl _) _).setCell (p := ⟨W2.heap.size, 0, none⟩) (Nat.le_refl _) _).setCell (p := ⟨W2.heap.size, 1, none⟩) (Nat.le_refl _) _).setCell (p := ⟨W2.heap.size, 2, none⟩) (Nat.le_refl _) _
  have hb13 := hbz.trans ((hb2.trans (hb3.mono hb2.size)).mono hbz.size)
  have hB3 := hB.trans (hb13.mono hB.size)
  clear hct hyz hzz hzl
  generalize W2.heap.size = b12 at *
  generalize ((((W2.alloc (.cells #[.int .i64 0, .int .i64 0, .int .i64 0] 62)).setCell ⟨b12, 0, none⟩ (.int .i64 ((0 : Nat) : Int))).setCell ⟨b12, 1, none⟩ (.int .i64 ((0 : Nat) : Int))).setCell ⟨b12, 2, none⟩ (.int .i64 ((0 : Nat) : Int))) = W3 at *
  show nm_17.wpIn _ _ _ _ _ _
  exact nm_17_any (by simp only [size_put, hz]) (by simp only [defers_put, hd_a]) (by simp [t2]) (by simp [t4]) (by simp [t6]) (by simp [t8]) (by simp [t11]) (by simp [hz]) hB3
end
end Go.Proofs.YtmdlmmfbcnkanaaR
namespace Go.Proofs.YtmdlmmfbcnkanaaR
open Go.RowKit Go.Shelf
section
attribute [local irreducible] AnyK StepK
set_option maxHeartbeats 800000 in
theorem nm_11_any {a : Act} {W W1 : World} (hz : a.tmps.size = 188) (hd_a : a.defers = []) (hB : Below W.heap.size W W1) :
    nm_11.wpIn Fence.wide 5 Try.prog (bodyPost Try.prog Try.f14 (TP W true)) a W1 := by
  unfold nm_11
  have hn11 : Below W1.heap.size W1 (W1.alloc (.cells #[strV [82, 48, 48, 53, 48, 56, 51]] 9)) := (Below.refl _ _).alloc (Nat.le_refl _) _
  have hst11 : StrsAt (W1.alloc (.cells #[strV [82, 48, 48, 53, 48, 56, 51]] 9)) _ (some ⟨W1.heap.size, 0, none⟩) [nR0] := strs_new rfl
  refine wpIn_seq (region_p 7 ?_)
  intro K hK
  refine ListK.bsl (i := 0) (ps := #[(0, strV [82, 48, 48, 53, 48, 56, 51])]) (v := .slice (some ⟨W1.heap.size, 0, none⟩) 1 1) rfl (by simp) (bs36_1 _ W1) ?_
  refine ListK.call (i := 1) (vs := #[.slice (some ⟨W1.heap.size, 0, none⟩) 1 1]) rfl (enters_of Try.func42 (by kernel_rfl) rfl) (by simp [hz]) ((left_any (some ⟨W1.heap.size, 0, none⟩) 1 [nR0] (by decide +kernel) (by decide) _ hst11).mono ?_)
  rintro _ V11 ⟨v11, rfl, ob11⟩
  obtain ⟨A11, c11, rfl, hc11, hy11⟩ := ob11.bytes
  refine ⟨_, rfl, ?_⟩
  refine ListK.call (i := 2) (vs := #[.slice A11 (linesL [nR0]).length c11]) rfl (enters_of Try.func25 (by kernel_rfl) rfl) (by simp [hz]) ((mendX_any A11 (linesL [nR0]) c11 V11 hc11 (by decide +kernel) hy11).mono ?_)
  rintro e U11 hmp
  obtain ⟨hb11, B11, n11, d11, rfl, _, _⟩ := hmp
  rw [n_m1]
  refine ⟨_, rfl, ?_⟩
  refine ListK.move (i := 3) (v := .tuple #[.slice B11 n11 d11, .int .i64 7]) rfl (by simp [hz]) ?_
  refine ListK.extract (i := 4) (u := .tuple #[.slice B11 n11 d11, .int .i64 7]) (v := .slice B11 n11 d11) rfl (by simp [hz]) (ex0 _ _ _) ?_
  refine ListK.extract (i := 5) (u := .tuple #[.slice B11 n11 d11, .int .i64 7]) (v := .int .i64 7) rfl (by simp [hz]) (ex1 _ _ _) ?_
  refine ListK.assign (i := 6) (v := .int .i64 7) rfl (by simp [hz]) ?_
  refine ListK.done (hK _ _ ?_)
  clear hK K
  have hk11 : Below W1.heap.size W1 U11 := hn11.trans ((ob11.low.trans (hb11.mono ob11.low.size)).mono hn11.size)
  have hB11 : Below W.heap.size W U11 := hB.trans (hk11.mono hB.size)
  generalize hA : Act.put _ _ _ = a11
  have hz_a11 : a11.tmps.size = 188 := by rw [← hA]; simp only [size_put, hz]
  have u2 : a11.eval (.tmp 2) = .int .i64 7 := by rw [← hA]; exact (by simp [hz])
  have hd_a11 : a11.defers = [] := by rw [← hA]; simp only [defers_put, hd_a]
  clear hA
  have hn12 : Below U11.heap.size U11 (U11.alloc (.cells #[strV [72, 48, 53, 51, 52, 48, 48], strV [72, 48, 54, 51, 52, 48, 52]] 9)) := (Below.refl _ _).alloc (Nat.le_refl _) _
  have hst12 : StrsAt (U11.alloc (.cells #[strV [72, 48, 53, 51, 52, 48, 48], strV [72, 48, 54, 51, 52, 48, 52]] 9)) _ (some ⟨U11.heap.size, 0, none⟩) [nH5, [72, 48, 54, 51, 52, 48, 52]] := strs_new rfl
  refine wpIn_seq (region_p 7 ?_)
  intro K hK
  refine ListK.bsl (i := 0) (ps := #[(0, strV [72, 48, 53, 51, 52, 48, 48]), (1, strV [72, 48, 54, 51, 52, 48, 52])]) (v := .slice (some ⟨U11.heap.size, 0, none⟩) 2 2) rfl (by simp) (bs36_2 _ _ U11) ?_
  refine ListK.call (i := 1) (vs := #[.slice (some ⟨U11.heap.size, 0, none⟩) 2 2]) rfl (enters_of Try.func42 (by kernel_rfl) rfl) (by simp [hz_a11]) ((left_any (some ⟨U11.heap.size, 0, none⟩) 2 [nH5, [72, 48, 54, 51, 52, 48, 52]] (by decide +kernel) (by decide) _ hst12).mono ?_)
  rintro _ V12 ⟨v12, rfl, ob12⟩
  obtain ⟨A12, c12, rfl, hc12, hy12⟩ := ob12.bytes
  refine ⟨_, rfl, ?_⟩
  refine ListK.call (i := 2) (vs := #[.slice A12 (linesL [nH5, [72, 48, 54, 51, 52, 48, 52]]).length c12]) rfl (enters_of Try.func25 (by kernel_rfl) rfl) (by simp [hz_a11]) ((mendX_any A12 (linesL [nH5, [72, 48, 54, 51, 52, 48, 52]]) c12 V12 hc12 (by decide +kernel) hy12).mono ?_)
  rintro e U12 hmp
  obtain ⟨hb12, B12, n12, d12, rfl, _, _⟩ := hmp
  rw [n_m2]
  refine ⟨_, rfl, ?_⟩
  refine ListK.move (i := 3) (v := .tuple #[.slice B12 n12 d12, .int .i64 6]) rfl (by simp [hz_a11]) ?_
  refine ListK.extract (i := 4) (u := .tuple #[.slice B12 n12 d12, .int .i64 6]) (v := .slice B12 n12 d12) rfl (by simp [hz_a11]) (ex0 _ _ _) ?_
  refine ListK.extract (i := 5) (u := .tuple #[.slice B12 n12 d12, .int .i64 6]) (v := .int .i64 6) rfl (by simp [hz_a11]) (ex1 _ _ _) ?_
  refine ListK.assign (i := 6) (v := .int .i64 6) rfl (by simp [hz_a11]) ?_
  refine ListK.done (hK _ _ ?_)
  clear hK K
  have hk12 : Below U11.heap.size U11 U12 := hn12.trans ((ob12.low.trans (hb12.mono ob12.low.size)).mono hn12.size)
  have hB12 : Below W.heap.size W U12 := hB11.trans (hk12.mono hB11.size)
  generalize hA : Act.put _ _ _ = a12
  have hz_a12 : a12.tmps.size = 188 := by rw [← hA]; simp only [size_put, hz_a11]
  have v2 : a12.eval (.tmp 2) = .int .i64 7 := by rw [← hA]; exact (by simp [u2])
  have v4 : a12.eval (.tmp 4) = .int .i64 6 := by rw [← hA]; exact (by simp [hz_a11])
  have hd_a12 : a12.defers = [] := by rw [← hA]; simp only [defers_put, hd_a11]
  clear hA
  have hn13 : Below U12.heap.size U12 (U12.alloc (.cells #[strV [72, 48, 53, 51, 52, 48, 48], strV [82, 48, 48, 53, 48, 56, 51], strV [82, 48, 48, 53, 49, 56, 57]] 9)) := (Below.refl _ _).alloc (Nat.le_refl _) _
  have hst13 : StrsAt (U12.alloc (.cells #[strV [72, 48, 53, 51, 52, 48, 48], strV [82, 48, 48, 53, 48, 56, 51], strV [82, 48, 48, 53, 49, 56, 57]] 9)) _ (some ⟨U12.heap.size, 0, none⟩) [nH5, nR0, [82, 48, 48, 53, 49, 56, 57]] := strs_new rfl
  refine wpIn_seq (region_p 7 ?_)
  intro K hK
  refine ListK.bsl (i := 0) (ps := #[(0, strV [72, 48, 53, 51, 52, 48, 48]), (1, strV [82, 48, 48, 53, 48, 56, 51]), (2, strV [82, 48, 48, 53, 49, 56, 57])]) (v := .slice (some ⟨U12.heap.size, 0, none⟩) 3 3) rfl (by simp) (bs36_3 _ _ _ U12) ?_
  refine ListK.call (i := 1) (vs := #[.slice (some ⟨U12.heap.size, 0, none⟩) 3 3]) rfl (enters_of Try.func42 (by kernel_rfl) rfl) (by simp [hz_a12]) ((left_any (some ⟨U12.heap.size, 0, none⟩) 3 [nH5, nR0, [82, 48, 48, 53, 49, 56, 57]] (by decide +kernel) (by decide) _ hst13).mono ?_)
  rintro _ V13 ⟨v13, rfl, ob13⟩
  obtain ⟨A13, c13, rfl, hc13, hy13⟩ := ob13.bytes
  refine ⟨_, rfl, ?_⟩
  refine ListK.call (i := 2) (vs := #[.slice A13 (linesL [nH5, nR0, [82, 48, 48, 53, 49, 56, 57]]).length c13]) rfl (enters_of Try.func25 (by kernel_rfl) rfl) (by simp [hz_a12]) ((mendX_any A13 (linesL [nH5, nR0, [82, 48, 48, 53, 49, 56, 57]]) c13 V13 hc13 (by decide +kernel) hy13).mono ?_)
  rintro e U13 hmp
  obtain ⟨hb13, B13, n13, d13, rfl, _, _⟩ := hmp
  rw [n_m3]
  refine ⟨_, rfl, ?_⟩
  refine ListK.move (i := 3) (v := .tuple #[.slice B13 n13 d13, .int .i64 6]) rfl (by simp [hz_a12]) ?_
  refine ListK.extract (i := 4) (u := .tuple #[.slice B13 n13 d13, .int .i64 6]) (v := .slice B13 n13 d13) rfl (by simp [hz_a12]) (ex0 _ _ _) ?_
  refine ListK.extract (i := 5) (u := .tuple #[.slice B13 n13 d13, .int .i64 6]) (v := .int .i64 6) rfl (by simp [hz_a12]) (ex1 _ _ _) ?_
  refine ListK.assign (i := 6) (v := .int .i64 6) rfl (by simp [hz_a12]) ?_
  refine ListK.done (hK _ _ ?_)
  clear hK K
  have hk13 : Below U12.heap.size U12 U13 := hn13.trans ((ob13.low.trans (hb13.mono ob13.low.size)).mono hn13.size)
  have hB13 : Below W.heap.size W U13 := hB12.trans (hk13.mono hB12.size)
  generalize hA : Act.put _ _ _ = a13
  have hz_a13 : a13.tmps.size = 188 := by rw [← hA]; simp only [size_put, hz_a12]
  have q2 : a13.eval (.tmp 2) = .int .i64 7 := by rw [← hA]; exact (by simp [v2])
  have q4 : a13.eval (.tmp 4) = .int .i64 6 := by rw [← hA]; exact (by simp [v4])
  have q6 : a13.eval (.tmp 6) = .int .i64 6 := by rw [← hA]; exact (by simp [hz_a12])
  have hd_a13 : a13.defers = [] := by rw [← hA]; simp only [defers_put, hd_a12]
  clear hA
  have hn14 : Below U13.heap.size U13 (U13.alloc (.cells #[strV [72, 48, 53, 51, 52, 48, 48], strV [82, 48, 53, 53, 48, 48, 54]] 9)) := (Below.refl _ _).alloc (Nat.le_refl _) _
  have hst14 : StrsAt (U13.alloc (.cells #[strV [72, 48, 53, 51, 52, 48, 48], strV [82, 48, 53, 53, 48, 48, 54]] 9)) _ (some ⟨U13.heap.size, 0, none⟩) [nH5, [82, 48, 53, 53, 48, 48, 54]] := strs_new rfl
  refine wpIn_seq (region_p 7 ?_)
  intro K hK
  refine ListK.bsl (i := 0) (ps := #[(0, strV [72, 48, 53, 51, 52, 48, 48]), (1, strV [82, 48, 53, 53, 48, 48, 54])]) (v := .slice (some ⟨U13.heap.size, 0, none⟩) 2 2) rfl (by simp) (bs36_2 _ _ U13) ?_
  refine ListK.call (i := 1) (vs := #[.slice (some ⟨U13.heap.size, 0, none⟩) 2 2]) rfl (enters_of Try.func42 (by kernel_rfl) rfl) (by simp [hz_a13]) ((left_any (some ⟨U13.heap.size, 0, none⟩) 2 [nH5, [82, 48, 53, 53, 48, 48, 54]] (by decide +kernel) (by decide) _ hst14).mono ?_)
  rintro _ V14 ⟨v14, rfl, ob14⟩
  obtain ⟨A14, c14, rfl, hc14, hy14⟩ := ob14.bytes
  refine ⟨_, rfl, ?_⟩
  refine ListK.call (i := 2) (vs := #[.slice A14 (linesL [nH5, [82, 48, 53, 53, 48, 48, 54]]).length c14]) rfl (enters_of Try.func25 (by kernel_rfl) rfl) (by simp [hz_a13]) ((mendX_any A14 (linesL [nH5, [82, 48, 53, 53, 48, 48, 54]]) c14 V14 hc14 (by decide +kernel) hy14).mono ?_)
  rintro e U14 hmp
  obtain ⟨hb14, B14, n14, d14, rfl, _, _⟩ := hmp
  rw [n_m4]
  refine ⟨_, rfl, ?_⟩
  refine ListK.move (i := 3) (v := .tuple #[.slice B14 n14 d14, .int .i64 6]) rfl (by simp [hz_a13]) ?_
  refine ListK.extract (i := 4) (u := .tuple #[.slice B14 n14 d14, .int .i64 6]) (v := .slice B14 n14 d14) rfl (by simp [hz_a13]) (ex0 _ _ _) ?_
  refine ListK.extract (i := 5) (u := .tuple #[.slice B14 n14 d14, .int .i64 6]) (v := .int .i64 6) rfl (by simp [hz_a13]) (ex1 _ _ _) ?_
  refine ListK.assign (i := 6) (v := .int .i64 6) rfl (by simp [hz_a13]) ?_
  refine ListK.done (hK _ _ ?_)
  clear hK K
  have hk14 : Below U13.heap.size U13 U14 := hn14.trans ((ob14.low.trans (hb14.mono ob14.low.size)).mono hn14.size)
  have hB14 : Below W.heap.size W U14 := hB13.trans (hk14.mono hB13.size)
  generalize hA : Act.put _ _ _ = a14
  have hz_a14 : a14.tmps.size = 188 := by rw [← hA]; simp only [size_put, hz_a13]
  have r2 : a14.eval (.tmp 2) = .int .i64 7 := by rw [← hA]; exact (by simp [q2])
  have r4 : a14.eval (.tmp 4) = .int .i64 6 := by rw [← hA]; exact (by simp [q4])
  have r6 : a14.eval (.tmp 6) = .int .i64 6 := by rw [← hA]; exact (by simp [q6])
  have r8 : a14.eval (.tmp 8) = .int .i64 6 := by rw [← hA]; exact (by simp [hz_a13])
  have hd_a14 : a14.defers = [] := by rw [← hA]; simp only [defers_put, hd_a13]
  clear hA
  have hn15 : Below U14.heap.size U14 (U14.alloc (.cells #[strV [72, 48, 53, 51, 52, 48, 48], strV [82, 48, 48, 53, 48, 56, 51], strV [82, 48, 49, 53, 55, 51, 50]] 9)) := (Below.refl _ _).alloc (Nat.le_refl _) _
  have hst15 : StrsAt (U14.alloc (.cells #[strV [72, 48, 53, 51, 52, 48, 48], strV [82, 48, 48, 53, 48, 56, 51], strV [82, 48, 49, 53, 55, 51, 50]] 9)) _ (some ⟨U14.heap.size, 0, none⟩) [nH5, nR0, [82, 48, 49, 53, 55, 51, 50]] := strs_new rfl
  refine wpIn_seq (region_p 8 ?_)
  intro K hK
  refine ListK.bsl (i := 0) (ps := #[(0, strV [72, 48, 53, 51, 52, 48, 48]), (1, strV [82, 48, 48, 53, 48, 56, 51]), (2, strV [82, 48, 49, 53, 55, 51, 50])]) (v := .slice (some ⟨U14.heap.size, 0, none⟩) 3 3) rfl (by simp) (bs36_3 _ _ _ U14) ?_
  refine ListK.call (i := 1) (vs := #[.slice (some ⟨U14.heap.size, 0, none⟩) 3 3]) rfl (enters_of Try.func42 (by kernel_rfl) rfl) (by simp [hz_a14]) ((left_any (some ⟨U14.heap.size, 0, none⟩) 3 [nH5, nR0, [82, 48, 49, 53, 55, 51, 50]] (by decide +kernel) (by decide) _ hst15).mono ?_)
  rintro _ V15 ⟨v15, rfl, ob15⟩
  obtain ⟨A15, c15, rfl, hc15, hy15⟩ := ob15.bytes
  refine ⟨_, rfl, ?_⟩
  refine ListK.call (i := 2) (vs := #[.slice A15 (linesL [nH5, nR0, [82, 48, 49, 53, 55, 51, 50]]).length c15]) rfl (enters_of Try.func25 (by kernel_rfl) rfl) (by simp [hz_a14]) ((mendX_any A15 (linesL [nH5, nR0, [82, 48, 49, 53, 55, 51, 50]]) c15 V15 hc15 (by decide +kernel) hy15).mono ?_)
  rintro e U15 hmp
  obtain ⟨hb15, B15, n15, d15, rfl, _, _⟩ := hmp
  rw [n_m5]
  refine ⟨_, rfl, ?_⟩
  refine ListK.move (i := 3) (v := .tuple #[.slice B15 n15 d15, .int .i64 9]) rfl (by simp [hz_a14]) ?_
  refine ListK.extract (i := 4) (u := .tuple #[.slice B15 n15 d15, .int .i64 9]) (v := .slice B15 n15 d15) rfl (by simp [hz_a14]) (ex0 _ _ _) ?_
  refine ListK.extract (i := 5) (u := .tuple #[.slice B15 n15 d15, .int .i64 9]) (v := .int .i64 9) rfl (by simp [hz_a14]) (ex1 _ _ _) ?_
  refine ListK.assign (i := 6) (v := .slice B15 n15 d15) rfl (by simp [hz_a14]) ?_
  refine ListK.assign (i := 7) (v := .int .i64 9) rfl (by simp [hz_a14]) ?_
  refine ListK.done (hK _ _ ?_)
  clear hK K
  have hk15 : Below U14.heap.size U14 U15 := hn15.trans ((ob15.low.trans (hb15.mono ob15.low.size)).mono hn15.size)
  have hB15 : Below W.heap.size W U15 := hB14.trans (hk15.mono hB14.size)
  show nm_16.wpIn _ _ _ _ _ _
  exact nm_16_any (by simp only [size_put, hz_a14]) (by simp only [defers_put, hd_a14]) (by simp [r2]) (by simp [r4]) (by simp [r6]) (by simp [r8]) (by simp [hz_a14]) hB15
set_option maxHeartbeats 800000 in
theorem nm_7_any {a : Act} {W W1 : World} {A1 : Option Addr} {c1 : Nat} (hc1 : exB.length ≤ c1) (hy1 : BytesAt W1 W1.heap.size A1 exB) (hz : a.tmps.size = 188) (hd_a : a.defers = []) (t1 : a.eval (.tmp 1) = .slice A1 exB.length c1) (hB : Below W.heap.size W W1) :
    nm_7.wpIn Fence.wide 5 Try.prog (bodyPost Try.prog Try.f14 (TP W true)) a W1 := by
  unfold nm_7
  refine wpIn_seq (region_p 3 ?_)
  intro K hK
  refine ListK.call (i := 0) (vs := #[]) rfl (enters_of Try.func41 (by kernel_rfl) rfl) (by simp) ((fiveW_any W1).mono ?_)
  rintro _ W2 ⟨g, rfl, hg, q, hb2⟩
  refine ⟨_, rfl, ?_⟩
  refine ListK.alloc (i := 1) rfl (al29 W2) ?_
  refine ListK.store (i := 2) (u := .pointer (some ⟨W2.heap.size, 0, none⟩)) (u' := .agg #[.int .i64 3, .int .i64 4, .slice (some ⟨g, 0, none⟩) 5 5]) rfl (by simp [hz]) (by simp [hz]) (st29 (Whole.new W2 29 #[.int .i64 0, .int .i64 0, .slice none 0 0])) ?_
  refine ListK.done (hK _ _ ?_)
  clear hK K
  have m9 : Whole ((((W2.alloc (.cells #[.int .i64 0, .int .i64 0, .slice none 0 0] 29)).setCell ⟨W2.heap.size, 0, none⟩ (.int .i64 3)).setCell ⟨W2.heap.size, 1, none⟩ (.int .i64 4)).setCell ⟨W2.heap.size, 2, none⟩ (.slice (some ⟨g, 0, none⟩) 5 5)) W2.heap.size 29 #[.int .i64 3, .int .i64 4, .slice (some ⟨g, 0, none⟩) 5 5] := set3_own (Whole.new W2 29 #[.int .i64 0, .int .i64 0, .slice none 0 0]) _ _ _
  have hb3 : Below W2.heap.size W2 ((((W2.alloc (.cells #[.int .i64 0, .int .i64 0, .slice none 0 0] 29)).setCell ⟨W2.heap.size, 0, none⟩ (.int .i64 3)).setCell ⟨W2.heap.size, 1, none⟩ (.int .i64 4)).setCell ⟨W2.heap.size, 2, none⟩ (.slice (some ⟨g, 0, none⟩) 5 5)) := set3_below ((Below.refl _ W2).alloc (Nat.le_refl _) _) (Nat.le_refl _) _ _ _
  have lg := q.lt
  replace q := q.below hb3 q.lt
  have hb13 := hb2.trans (hb3.mono hb2.size)
  have hlt := m9.lt
  generalize W2.heap.size = b9 at *
  generalize ((((W2.alloc (.cells #[.int .i64 0, .int .i64 0, .slice none 0 0] 29)).setCell ⟨b9, 0, none⟩ (.int .i64 3)).setCell ⟨b9, 1, none⟩ (.int .i64 4)).setCell ⟨b9, 2, none⟩ (.slice (some ⟨g, 0, none⟩) 5 5)) = W3 at *
  generalize hA : Act.put _ _ _ = a2
  have hz_a2 : a2.tmps.size = 188 := by rw [← hA]; simp only [size_put, hz]
  have v1 : a2.eval (.tmp 1) = .slice A1 exB.length c1 := by rw [← hA]; exact (by simp [t1])
  have v9 : a2.eval (.tmp 9) = .pointer (some ⟨b9, 0, none⟩) := by rw [← hA]; exact (by simp [hz])
  have hd_a2 : a2.defers = [] := by rw [← hA]; simp only [defers_put, hd_a]
  clear hA
  have hsz1 := hB.size
  have hy3 := (hy1.below hb13 (Nat.le_refl _)).more hb13.size
  refine wpIn_seq (region_p 4 ?_)
  intro K hK
  refine ListK.field (i := 0) (u := .pointer (some ⟨b9, 0, none⟩)) (v := .pointer (some ⟨b9, 2, none⟩)) rfl (by simp [v9]) (fa29_2 _) ?_
  refine ListK.load (i := 1) (p := ⟨b9, 2, none⟩) (v := .slice (some ⟨g, 0, none⟩) 5 5) rfl (by simp [hz_a2]) (ld22 ((m9.cell 2))) ?_
  refine ListK.index (i := 2) (u := .slice (some ⟨g, 0, none⟩) 5 5) (u' := .int .i64 4) (v := .pointer (some ⟨g, 4, none⟩)) rfl (by simp [hz_a2]) (by simp) (ix22z (i := 4) (by decide) _) ?_
  refine ListK.store (i := 3) (u := .pointer (some ⟨g, 4, none⟩)) (u' := .int .i64 49) rfl (by simp [hz_a2]) (by simp) (st3 (q.cell 4) (q.frozen 4)) ?_
  refine ListK.done (hK _ _ ?_)
  clear hK K
  have hb34 : Below W1.heap.size W3 (W3.setCell ⟨g, 4, none⟩ (.int .i64 49)) := (Below.refl _ W3).setCell (p := ⟨g, 4, none⟩) hg _
  replace m9 := m9.far (p := ⟨g, 4, none⟩) (show b9 ≠ g by omega) (.int .i64 49)
  replace q := q.set 4 (.int .i64 49)
  have hb14 := hb13.trans hb34
  have hy4 := (hy1.below hb14 (Nat.le_refl _)).more hb14.size
  clear hy3
  generalize W3.setCell ⟨g, 4, none⟩ (.int .i64 49) = W4 at *
  have i4 : IntsAt W4 W4.heap.size (some ⟨g, 0, none⟩) otherS.rd := ints_whole q (map_at rfl)
  have hB4 := hB.trans (hb14.mono hB.size)
  generalize hA : Act.put _ _ _ = a3
  have hz_a3 : a3.tmps.size = 188 := by rw [← hA]; simp only [size_put, hz_a2]
  have q1 : a3.eval (.tmp 1) = .slice A1 exB.length c1 := by rw [← hA]; exact (by simp [v1])
  have q9 : a3.eval (.tmp 9) = .pointer (some ⟨b9, 0, none⟩) := by rw [← hA]; exact (by simp [v9])
  have hd_a3 : a3.defers = [] := by rw [← hA]; simp only [defers_put, hd_a2]
  clear hA
  have hbd := (Below.refl W4.heap.size W4).drew
  have hgr : ∀ w w', (fun w : World => (Whole w b9 29 #[.int .i64 3, .int .i64 4, .slice (some ⟨g, 0, none⟩) 5 5] ∧ IntsAt w W4.heap.size (some ⟨g, 0, none⟩) otherS.rd) ∧ BytesAt w W4.heap.size A1 exB ∧ Below W4.heap.size W4 w) w → Below w.heap.size w w' → (fun w : World => (Whole w b9 29 #[.int .i64 3, .int .i64 4, .slice (some ⟨g, 0, none⟩) 5 5] ∧ IntsAt w W4.heap.size (some ⟨g, 0, none⟩) otherS.rd) ∧ BytesAt w W4.heap.size A1 exB ∧ Below W4.heap.size W4 w) w' := fun w w' h hb => ⟨⟨h.1.1.below hb h.1.1.lt, h.1.2.below hb h.2.2.size⟩, h.2.1.below hb h.2.2.size, h.2.2.trans (hb.mono h.2.2.size)⟩
  have hR0 : (fun w : World => (Whole w b9 29 #[.int .i64 3, .int .i64 4, .slice (some ⟨g, 0, none⟩) 5 5] ∧ IntsAt w W4.heap.size (some ⟨g, 0, none⟩) otherS.rd) ∧ BytesAt w W4.heap.size A1 exB ∧ Below W4.heap.size W4 w) W4.drew := hgr W4 _ ⟨⟨m9, i4⟩, hy4, Below.refl _ _⟩ hbd
  refine wpIn_seq (wpIn_seq (region_K (KpR (fun w : World => (Whole w b9 29 #[.int .i64 3, .int .i64 4, .slice (some ⟨g, 0, none⟩) 5 5] ∧ IntsAt w W4.heap.size (some ⟨g, 0, none⟩) otherS.rd) ∧ BytesAt w W4.heap.size A1 exB ∧ Below W4.heap.size W4 w) (fun _ => false)) (wideF_plain _) (by kernel_rfl) Try.mixed ?_))
  change AnyK _ _ _ _ 10 (Array.replicate 10 false) _ _
  have hR : (fun w : World => (Whole w b9 29 #[.int .i64 3, .int .i64 4, .slice (some ⟨g, 0, none⟩) 5 5] ∧ IntsAt w W4.heap.size (some ⟨g, 0, none⟩) otherS.rd) ∧ BytesAt w W4.heap.size A1 exB ∧ Below W4.heap.size W4 w) W4.drew := hR0
  refine AnyK.move (i := 0) may_o (v := .slice A1 exB.length c1) (by simp [q1]) hR ?_
  refine AnyK.load (i := 1) may_o (p := ⟨b9, 0, none⟩) (v := serV otherS (some ⟨g, 0, none⟩) 5) (by simp [q9]) (fun w hw => ld29 ⟨hw.1.1.cell 0, hw.1.1.cell 1, hw.1.1.cell 2⟩) hR ?_
  refine AnyK.pick1 (i := 2) (by kernel_rfl) ?_
  refine StepK.call (i := 2) (f := 31) (vs := #[.slice A1 exB.length c1, serV otherS (some ⟨g, 0, none⟩) 5]) rfl (enters_of Try.func31 (by kernel_rfl) rfl) rfl (by simp [hz_a3]) ((fits_any otherS (some ⟨g, 0, none⟩) A1 5 c1 exB _ (by decide) (hR.1.2.more hR.2.2.size) hc1 (by decide) (hR.2.1.more hR.2.2.size)).mono ?_)
  rintro _ X2 ⟨rfl, hx2⟩
  rw [n_fit3]
  replace hR : (fun w : World => (Whole w b9 29 #[.int .i64 3, .int .i64 4, .slice (some ⟨g, 0, none⟩) 5 5] ∧ IntsAt w W4.heap.size (some ⟨g, 0, none⟩) otherS.rd) ∧ BytesAt w W4.heap.size A1 exB ∧ Below W4.heap.size W4 w) X2 := hgr _ _ hR hx2
  refine ⟨_, rfl, fun _ _ => hR, ?_⟩
  refine AnyK.move (i := 3) may_o (v := .bool false) (by simp [hz_a3]) hR ?_
  refine AnyK.load (i := 6) may_o (p := ⟨b9, 0, none⟩) (v := serV otherS (some ⟨g, 0, none⟩) 5) (by simp [q9]) (fun w hw => ld29 ⟨hw.1.1.cell 0, hw.1.1.cell 1, hw.1.1.cell 2⟩) hR (hw := (by exact wanted_g (e := 92) (b' := false) rfl (by simp [hz_a3]) rfl)) ?_
  refine AnyK.pick1 (i := 4) (by kernel_rfl) ?_
  have hst4 : StrsAt (X2.alloc (.cells #[strV [72, 48, 53, 51, 52, 48, 48], strV [82, 48, 51, 52, 55, 51, 53]] 9)) (X2.alloc (.cells #[strV [72, 48, 53, 51, 52, 48, 48], strV [82, 48, 51, 52, 55, 51, 53]] 9)).heap.size (some ⟨X2.heap.size, 0, none⟩) [nH5, [82, 48, 51, 52, 55, 51, 53]] := strs_new rfl
  have hn4 : Below X2.heap.size X2 (X2.alloc (.cells #[strV [72, 48, 53, 51, 52, 48, 48], strV [82, 48, 51, 52, 55, 51, 53]] 9)) := (Below.refl _ _).alloc (Nat.le_refl _) _
  refine StepK.buildG (i := 4) (ps := #[(0, strV [72, 48, 53, 51, 52, 48, 48]), (1, strV [82, 48, 51, 52, 55, 51, 53])]) (v := .slice (some ⟨X2.heap.size, 0, none⟩) 2 2) rfl (by simp) (bs36_2 _ _ X2) (fun _ h => hgr _ _ h hn4) ?_ (hw := wanted_g (e := 92) (b' := false) rfl (by simp [hz_a3]) rfl)
  replace hR : (fun w : World => (Whole w b9 29 #[.int .i64 3, .int .i64 4, .slice (some ⟨g, 0, none⟩) 5 5] ∧ IntsAt w W4.heap.size (some ⟨g, 0, none⟩) otherS.rd) ∧ BytesAt w W4.heap.size A1 exB ∧ Below W4.heap.size W4 w) _ := hgr _ _ hR hn4
  refine AnyK.pick1 (i := 5) (by kernel_rfl) ?_
  refine StepK.call (i := 5) (f := 42) (vs := #[.slice (some ⟨X2.heap.size, 0, none⟩) 2 2]) rfl (enters_of Try.func42 (by kernel_rfl) rfl) rfl (by simp [hz_a3]) ((left_any (some ⟨X2.heap.size, 0, none⟩) 2 [nH5, [82, 48, 51, 52, 55, 51, 53]] (by decide +kernel) (by decide) _ hst4).mono ?_) (hw := (by exact wanted_g (e := 92) (b' := false) rfl (by simp [hz_a3]) rfl))
  rintro _ X5 ⟨x5, rfl, ob5⟩
  obtain ⟨A5, c5, rfl, hc5, hy5⟩ := ob5.bytes
  replace hR : (fun w : World => (Whole w b9 29 #[.int .i64 3, .int .i64 4, .slice (some ⟨g, 0, none⟩) 5 5] ∧ IntsAt w W4.heap.size (some ⟨g, 0, none⟩) otherS.rd) ∧ BytesAt w W4.heap.size A1 exB ∧ Below W4.heap.size W4 w) X5 := hgr _ _ hR ob5.low
  refine ⟨_, rfl, fun _ _ => hR, ?_⟩
  refine AnyK.pick1 (i := 7) (by kernel_rfl) ?_
  refine StepK.call (i := 7) (f := 31) (vs := #[.slice A5 (linesL [nH5, [82, 48, 51, 52, 55, 51, 53]]).length c5, serV otherS (some ⟨g, 0, none⟩) 5]) rfl (enters_of Try.func31 (by kernel_rfl) rfl) rfl (by simp [hz_a3]) ((fits_any otherS (some ⟨g, 0, none⟩) A5 5 c5 (linesL [nH5, [82, 48, 51, 52, 55, 51, 53]]) X5 (by decide) (hR.1.2.more hR.2.2.size) hc5 (by decide +kernel) hy5).mono ?_) (hw := (by exact wanted_g (e := 92) (b' := false) rfl (by simp [hz_a3]) rfl))
  rintro _ X7 ⟨rfl, hx7⟩
  rw [n_fit4]
  replace hR : (fun w : World => (Whole w b9 29 #[.int .i64 3, .int .i64 4, .slice (some ⟨g, 0, none⟩) 5 5] ∧ IntsAt w W4.heap.size (some ⟨g, 0, none⟩) otherS.rd) ∧ BytesAt w W4.heap.size A1 exB ∧ Below W4.heap.size W4 w) X7 := hgr _ _ hR hx7
  refine ⟨_, rfl, fun _ _ => hR, ?_⟩
  refine AnyK.un (i := 8) may_o (u := .bool true) (v := .bool false) (by simp [hz_a3]) (fun w => not4 _ w) hR (hw := (by exact wanted_g (e := 92) (b' := false) rfl (by simp [hz_a3]) rfl)) ?_
  refine AnyK.pick (i := 9) may_o (b := false) (v := .bool false) (by simp [hz_a3]) (by simp [hz_a3]) hR ?_
  refine AnyK.done (by kernel_rfl) ?_
  refine wpIn_cond (t := false) (by simp [hz_a3]) (wpIn_skip ?_)
  show nm_11.wpIn _ _ _ _ _ _
  exact nm_11_any (by simp only [size_put, hz_a3]) (by simp only [defers_put, hd_a3]) (hB4.trans (hR.2.2.mono hB4.size))
set_option maxHeartbeats 800000 in
theorem nm_5_any {a : Act} {W W8 : World} {A1 A7 : Option Addr} {c1 c7 b3 : Nat} (hz : a.tmps.size = 188) (hd_a : a.defers = []) (t1 : a.eval (.tmp 1) = .slice A1 exB.length c1) (t2 : a.eval (.tmp 2) = .int .i64 0) (t3 : a.eval (.tmp 3) = ptr b3) (t4 : a.eval (.tmp 4) = .int .i64 0) (t5 : a.eval (.tmp 5) = .int .i64 3) (t6 : a.eval (.tmp 6) = .int .i64 0) (t7 : a.eval (.tmp 7) = .slice A7 nJo.length c7) (t8 : a.eval (.tmp 8) = .int .i64 0) (hc1 : exB.length ≤ c1) (hy1 : BytesAt W8 W8.heap.size A1 exB) (hy7 : BytesAt W8 W8.heap.size A7 nJo) (w3 : Whole W8 b3 62 #[.int .i64 9, .int .i64 2, .int .i64 1]) (hB : Below W.heap.size W W8) :
    nm_5.wpIn Fence.wide 5 Try.prog (bodyPost Try.prog Try.f14 (TP W true)) a W8 := by
  unfold nm_5
  have hfj : (!decide (nJo = [72, 48, 53, 51, 52, 48, 48, 10, 82, 48, 48, 53, 48, 56, 51, 10, 82, 48, 51, 52, 55, 51, 53, 10, 80, 48, 49, 57, 55, 52, 56, 10])) = false := by decide
  refine wpIn_seq (wpIn_seq (region_p 40 ?_))
  intro K hK
  refine ListK.move (i := 0) (v := .int .i64 0) rfl (by simp [t2]) ?_
  refine ListK.bin (i := 1) (u := .int .i64 0) (u' := .int .i64 0) (v := .bool false) rfl (by simp [hz]) (by simp) (neq27F rfl _) ?_
  refine ListK.move (i := 2) (v := .bool false) rfl (by simp [hz]) ?_
  refine ListK.move (i := 3) (v := .int .i64 0) rfl (by simp [t4]) ?_ (hw := wanted_g (e := 47) (b' := false) rfl (by simp [hz]) rfl)
  refine ListK.bin (i := 4) (u := .int .i64 0) (u' := .int .i64 0) (v := .bool false) rfl (by simp [hz]) (by simp) (neq27F rfl _) ?_ (hw := wanted_g (e := 47) (b' := false) rfl (by simp [hz]) rfl)
  refine ListK.pick (i := 5) (b := false) (v := .bool false) rfl (by simp [hz]) (by simp [hz]) ?_
  refine ListK.move (i := 6) (v := .bool false) rfl (by simp [hz]) ?_
  refine ListK.load (i := 7) (p := ⟨b3, 0, none⟩) (v := .agg #[.int .i64 9, .int .i64 2, .int .i64 1]) rfl (by simp [t3]) (ld62 ⟨w3.cell 0, w3.cell 1, w3.cell 2⟩) ?_ (hw := wanted_g (e := 51) (b' := false) rfl (by simp [hz]) rfl)
  refine ListK.bldW (i := 8) (ps := #[(0, .int .i64 9), (1, .int .i64 2), (2, .int .i64 1)]) (v := .agg #[.int .i64 9, .int .i64 2, .int .i64 1]) rfl (by simp) (bd62_3 _ _ _ _) ?_ (hw := wanted_g (e := 51) (b' := false) rfl (by simp [hz]) rfl)
  refine ListK.bin (i := 9) (u := .agg #[.int .i64 9, .int .i64 2, .int .i64 1]) (u' := .agg #[.int .i64 9, .int .i64 2, .int .i64 1]) (v := .bool false) rfl (by simp [hz]) (by simp [hz]) (neq62F _ _ _ _) ?_ (hw := wanted_g (e := 51) (b' := false) rfl (by simp [hz]) rfl)
  refine ListK.pick (i := 10) (b := false) (v := .bool false) rfl (by simp [hz]) (by simp [hz]) ?_
  refine ListK.move (i := 11) (v := .bool false) rfl (by simp [hz]) ?_
  refine ListK.move (i := 12) (v := .int .i64 0) rfl (by simp [t6]) ?_ (hw := wanted_g (e := 56) (b' := false) rfl (by simp [hz]) rfl)
  refine ListK.bin (i := 13) (u := .int .i64 0) (u' := .int .i64 0) (v := .bool false) rfl (by simp [hz]) (by simp) (neq27F rfl _) ?_ (hw := wanted_g (e := 56) (b' := false) rfl (by simp [hz]) rfl)
  refine ListK.pick (i := 14) (b := false) (v := .bool false) rfl (by simp [hz]) (by simp [hz]) ?_
  refine ListK.move (i := 15) (v := .bool false) rfl (by simp [hz]) ?_
  refine ListK.move (i := 16) (v := .int .i64 3) rfl (by simp [t5]) ?_ (hw := wanted_g (e := 60) (b' := false) rfl (by simp [hz]) rfl)
  refine ListK.bin (i := 17) (u := .int .i64 3) (u' := .int .i64 3) (v := .bool false) rfl (by simp [hz]) (by simp) (neqF rfl _) ?_ (hw := wanted_g (e := 60) (b' := false) rfl (by simp [hz]) rfl)
  refine ListK.pick (i := 18) (b := false) (v := .bool false) rfl (by simp [hz]) (by simp [hz]) ?_
  refine ListK.move (i := 19) (v := .bool false) rfl (by simp [hz]) ?_
  refine ListK.move (i := 20) (v := .int .i64 0) rfl (by simp [t8]) ?_ (hw := wanted_g (e := 64) (b' := false) rfl (by simp [hz]) rfl)
  refine ListK.bin (i := 21) (u := .int .i64 0) (u' := .int .i64 0) (v := .bool false) rfl (by simp [hz]) (by simp) (neq27F rfl _) ?_ (hw := wanted_g (e := 64) (b' := false) rfl (by simp [hz]) rfl)
  refine ListK.pick (i := 22) (b := false) (v := .bool false) rfl (by simp [hz]) (by simp [hz]) ?_
  refine ListK.move (i := 23) (v := .bool false) rfl (by simp [hz]) ?_
  refine ListK.move (i := 24) (v := .slice A7 nJo.length c7) rfl (by simp [t7]) ?_ (hw := wanted_g (e := 68) (b' := false) rfl (by simp [hz]) rfl)
  refine ListK.conv (i := 25) (u := .slice A7 nJo.length c7) (v := strV nJo) rfl (by simp [hz]) (cv319 c7 hy7) ?_ (hw := wanted_g (e := 68) (b' := false) rfl (by simp [hz]) rfl)
  refine ListK.bin (i := 26) (u := strV nJo) (u' := strV [72, 48, 53, 51, 52, 48, 48, 10, 82, 48, 48, 53, 48, 56, 51, 10, 82, 48, 51, 52, 55, 51, 53, 10, 80, 48, 49, 57, 55, 52, 56, 10]) (v := .bool false) rfl (by simp [hz]) (by simp) (by rw [← hfj]; exact neq9n nJo _ _) ?_ (hw := wanted_g (e := 68) (b' := false) rfl (by simp [hz]) rfl)
  refine ListK.pick (i := 27) (b := false) (v := .bool false) rfl (by simp [hz]) (by simp [hz]) ?_
  refine ListK.move (i := 28) (v := .bool false) rfl (by simp [hz]) ?_
  refine ListK.move (i := 29) (v := .slice A1 exB.length c1) rfl (by simp [t1]) ?_ (hw := wanted_g (e := 73) (b' := false) rfl (by simp [hz]) rfl)
  refine ListK.call (i := 30) (vs := #[]) rfl (enters_of Try.func41 (by kernel_rfl) rfl) (by simp) ((five_any W8).mono ?_) (hw := wanted_g (e := 73) (b' := false) rfl (by simp [hz]) rfl)
  rintro _ W9 ⟨g9, rfl, hs9, hb9⟩
  refine ⟨_, rfl, ?_⟩
  refine ListK.call (i := 31) (vs := #[.slice A1 exB.length c1, serV fiveS (some ⟨g9, 0, none⟩) 5]) rfl (enters_of Try.func31 (by kernel_rfl) rfl) (by simp [hz]) ((fits_any fiveS (some ⟨g9, 0, none⟩) A1 5 c1 exB W9 (by decide) hs9 hc1 (by decide) ((hy1.below hb9 (Nat.le_refl _)).more hb9.size)).mono ?_) (hw := wanted_g (e := 73) (b' := false) rfl (by simp [hz]) rfl)
  rintro _ W10 ⟨rfl, hb10⟩
  rw [n_fit1]
  have hst : StrsAt (W10.alloc (.cells #[strV [82, 48, 48, 53, 48, 56, 51]] 9)) (W10.alloc (.cells #[strV [82, 48, 48, 53, 48, 56, 51]] 9)).heap.size (some ⟨W10.heap.size, 0, none⟩) [nR0] := strs_new rfl
  have hn : Below W10.heap.size W10 (W10.alloc (.cells #[strV [82, 48, 48, 53, 48, 56, 51]] 9)) := (Below.refl _ _).alloc (Nat.le_refl _) _
  refine ⟨_, rfl, ?_⟩
  refine ListK.un (i := 32) (u := .bool true) (v := .bool false) rfl (by simp [hz]) (not4 _ _) ?_ (hw := wanted_g (e := 73) (b' := false) rfl (by simp [hz]) rfl)
  refine ListK.pick (i := 33) (b := false) (v := .bool false) rfl (by simp [hz]) (by simp [hz]) ?_
  refine ListK.move (i := 34) (v := .bool false) rfl (by simp [hz]) ?_
  refine ListK.bsl (i := 35) (ps := #[(0, strV [82, 48, 48, 53, 48, 56, 51])]) (v := .slice (some ⟨W10.heap.size, 0, none⟩) 1 1) rfl (by simp) (bs36_1 _ W10) ?_ (hw := wanted_g (e := 79) (b' := false) rfl (by simp [hz]) rfl)
  refine ListK.call (i := 36) (vs := #[.slice (some ⟨W10.heap.size, 0, none⟩) 1 1]) rfl (enters_of Try.func42 (by kernel_rfl) rfl) (by simp [hz]) ((left_any (some ⟨W10.heap.size, 0, none⟩) 1 [nR0] (by decide +kernel) (by decide) _ hst).mono ?_) (hw := wanted_g (e := 79) (b' := false) rfl (by simp [hz]) rfl)
  rintro _ W11 ⟨v11, rfl, ob11⟩
  obtain ⟨A11, c11, rfl, hc11, hy11⟩ := ob11.bytes
  refine ⟨_, rfl, ?_⟩
  refine ListK.call (i := 37) (vs := #[]) rfl (enters_of Try.func41 (by kernel_rfl) rfl) (by simp) ((five_any W11).mono ?_) (hw := wanted_g (e := 79) (b' := false) rfl (by simp [hz]) rfl)
  rintro _ W12 ⟨g12, rfl, hs12, hb12⟩
  refine ⟨_, rfl, ?_⟩
  refine ListK.call (i := 38) (vs := #[.slice A11 (linesL [nR0]).length c11, serV fiveS (some ⟨g12, 0, none⟩) 5]) rfl (enters_of Try.func31 (by kernel_rfl) rfl) (by simp [hz]) ((fits_any fiveS (some ⟨g12, 0, none⟩) A11 5 c11 (linesL [nR0]) W12 (by decide) hs12 hc11 (by decide +kernel) ((hy11.below hb12 (Nat.le_refl _)).more hb12.size)).mono ?_) (hw := wanted_g (e := 79) (b' := false) rfl (by simp [hz]) rfl)
  rintro _ W13 ⟨rfl, hb13⟩
  rw [n_fit2]
  refine ⟨_, rfl, ?_⟩
  refine ListK.pick (i := 39) (b := false) (v := .bool false) rfl (by simp [hz]) (by simp [hz]) ?_
  refine ListK.done (hK _ _ ?_)
  clear hK K
  refine wpIn_cond (t := false) (by simp [hz]) (wpIn_skip ?_)
  have hb810 := hb9.trans (hb10.mono hb9.size)
  have hb1011 := hn.trans (ob11.low.mono hn.size)
  have hb1113 := hb12.trans (hb13.mono hb12.size)
  have hb813 := hb810.trans ((hb1011.trans (hb1113.mono hb1011.size)).mono hb810.size)
  show nm_7.wpIn _ _ _ _ _ _
  exact nm_7_any hc1 ((hy1.below hb813 (Nat.le_refl _)).more hb813.size) (by simp only [size_put, hz]) (by simp only [defers_put, hd_a]) (by simp [t1]) (hB.trans (hb813.mono hB.size))
end
theorem names_all (W : World) : Calls Try.prog 14 #[] W (TP W true) := names_wp W fun _ _ _ _ _ _ _ hz hd t1 t2 t3 t4 t5 t6 t7 t8 hc hy1 hy7 w3 hB => nm_5_any hz hd t1 t2 t3 t4 t5 t6 t7 t8 hc hy1 hy7 w3 hB
end Go.Proofs.YtmdlmmfbcnkanaaR
