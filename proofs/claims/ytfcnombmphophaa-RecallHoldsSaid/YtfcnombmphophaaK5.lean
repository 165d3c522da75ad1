/- Texts for the laws of package recall, part 5: contracts of the program's functions, each for every input that its words name. -/
import Derived.Test.YtfcnombmphophaaK4
import Derived.Test.YtfcnombmphophaaK3
import Derived.OpenShut
import Derived.ChangeBook
import Derived.ChangeStays
import Derived.Deep.Frames
import Derived.ChangeOld

set_option linter.unusedVariables false
set_option maxRecDepth 10000

namespace Go.Proofs.Ytfcnombmphophaa
open Go.RowKit Go.Shelf
/-- The memory of Batch: the batch at block h, the result at h + 1, what is made at h + 2; a list of sales that is owned. -/
structure BtM (w : World) (h : Nat) (o t : Int) (A : Option Addr) (n c : Nat) (v : Value) (xs : List Sale) (W : World) : Prop where
  kb : Whole W h 24 #[.int .i64 o, .int .i64 t, .slice A n c]
  kr : Whole W (h + 1) 31 #[.int .i64 0, .int .i64 0, .slice none 0 0]
  kx : Whole W (h + 2) 31 #[.int .i64 o, .int .i64 t, v]
  low : Below h w W
  own : W.ownsRow (h + 3) 61 5 v xs.length (salesL xs)
section
variable {w W W' : World} {h : Nat} {o t : Int} {A : Option Addr} {n c : Nat} {v : Value} {xs : List Sale}
theorem BtM.base (b : BtM w h o t A n c v xs W) : h + 3 ≤ W.heap.size := b.kx.lt
theorem BtM.below (b : BtM w h o t A n c v xs W) (hb : Below W.heap.size W W') : BtM w h o t A n c v xs W' :=
  ⟨b.kb.below hb b.kb.lt, b.kr.below hb b.kr.lt, b.kx.below hb b.kx.lt, b.low.trans (hb.mono (by have := b.base; omega)), b.own.kept (grown_of_below hb) (by cases v.ownBlock <;> simp)⟩
theorem BtM.far (b : BtM w h o t A n c v xs W) {g : Nat} (hg : g < h + 3) : some g ≠ v.ownBlock := fun e => by have := (b.own.lt g e.symm).1; omega
theorem BtM.put (b : BtM w h o t A n c v xs W) {g cap : Nat} {s : Sale} (hown : W'.ownsRow (h + 3) 61 5 (.slice (some ⟨g, 0, none⟩) (xs.length + 1) cap) (xs.length + 1) (salesL xs ++ saleL s)) (hgr : W.grownBy W' v.ownBlock) :
    BtM w h o t A n c (.slice (some ⟨g, 0, none⟩) (xs.length + 1) cap) (xs ++ [s]) (W'.setCell ⟨h + 2, 2, none⟩ (.slice (some ⟨g, 0, none⟩) (xs.length + 1) cap)) := by
  have k0 : Whole W' h 24 _ := (hgr.block _ b.kb.lt (b.far (by omega))).trans b.kb
  have k1 : Whole W' (h + 1) 31 _ := (hgr.block _ b.kr.lt (b.far (by omega))).trans b.kr
  have k2 : Whole W' (h + 2) 31 _ := (hgr.block _ b.kx.lt (b.far (by omega))).trans b.kx
  have hlo : Below h w W' := b.low.grown hgr (by have := b.base; omega) (fun k e => by have := (b.own.lt k e).1; omega)
  refine ⟨k0.far (by simp) _, k1.far (by simp) _, k2.set 2 _, hlo.setCell (p := ⟨h + 2, 2, none⟩) (by simp) _, ?_⟩
  rw [salesL_app]
  refine World.ownsRow.kept ?_ (grown_set W' ⟨h + 2, 2, none⟩ _) (.inr ?_)
  · simpa using hown
  · intro e
    have hg : g = h + 2 := by simpa [Value.ownBlock] using e
    have := (hown.lt g rfl).1
    omega
end
theorem bd46r (x y : Int) (w : World) : (Instr.build 46 #[(0, .int .i64 x), (1, .int .i64 y)]).run Try.prog w = .ok (.agg #[.int .i64 x, .int .i64 y]) w := by
  go_simp
theorem bd61r (s : Sale) (w : World) : (Instr.build 61 #[(0, .int .i64 s.src), (1, .int .i64 s.dst), (2, .int .i64 s.many), (3, .agg #[.int .i64 s.lo, .int .i64 s.hi])]).run Try.prog w = .ok (saleV s) w := by
  unfold saleV
  go_simp
noncomputable def opsBa0 : Array Oper := (Try.f18.body.bind (regionOf 0)).getD #[]
noncomputable def opsBa1 : Array Oper := (Try.f18.body.bind (regionOf 1)).getD #[]
noncomputable def opsBa2 : Array Oper := (Try.f18.body.bind (regionOf 2)).getD #[]
noncomputable def opsBa3 : Array Oper := (Try.f18.body.bind (regionOf 3)).getD #[]
noncomputable def opsBa4 : Array Oper := (Try.f18.body.bind (regionOf 4)).getD #[]
noncomputable def opsBa5 : Array Oper := (Try.f18.body.bind (regionOf 5)).getD #[]
noncomputable def opsBa6 : Array Oper := (Try.f18.body.bind (regionOf 6)).getD #[]
noncomputable def opsBa7 : Array Oper := (Try.f18.body.bind (regionOf 7)).getD #[]
noncomputable def roundBa : Code := .seq (.seq (.region 3 opsBa3 false) (.cond (.tmp 15) .skip (.exit 0))) (.seq (.block 1 (.seq (.region 5 opsBa5 false) (.region 6 opsBa6 false))) (.region 4 opsBa4 false))
noncomputable def code18 : Code := .seq (.region 0 opsBa0 false) (.seq (.region 1 opsBa1 false) (.seq (.seq (.region 2 opsBa2 false) (.block 0 (.loop roundBa))) (.seq (.region 7 opsBa7 false) .ret)))
theorem body18 : Try.f18.body = some code18 := by kernel_rfl
set_option maxHeartbeats 2000000 in
theorem batch_any (o t : Int) (A : Option Addr) (l : List Sale) (c : Nat) (W : World) (hl : l.length ≤ 60) (hs : SalesAt W W.heap.size A l) :
    Calls Try.prog 18 #[.agg #[.int .i64 o, .int .i64 t, .slice A l.length c]] W
      fun e w' => ∃ A' c', e = .returned (.agg #[.int .i64 o, .int .i64 t, .slice A' l.length c']) ∧ SalesAt w' w'.heap.size A' l ∧ Below W.heap.size W w' := by
  refine (callsIn_wide (n := 5)).1 (callsIn_of_wp Try.func18 body18 trivial ?_ rfl)
  obtain ⟨a, ha⟩ : ∃ a : Act, a = { tmps := #[.agg #[.int .i64 o, .int .i64 t, .slice A l.length c]] ++ Array.replicate (Try.f18.ntmps - (#[.agg #[.int .i64 o, .int .i64 t, .slice A l.length c]] : Array Value).size) undef, defers := [] } := ⟨_, rfl⟩
  have hsz : a.tmps.size = 43 := by rw [ha]; simp [Try.ntmps18]
  have t0 : a.eval (.tmp 0) = .agg #[.int .i64 o, .int .i64 t, .slice A l.length c] := by rw [ha]; simp [Act.eval]
  have hdf : a.defers = [] := by rw [ha]
  rw [← ha]
  clear ha
  unfold code18
  refine wpIn_seq (region_p 2 ?_)
  intro K hK
  refine ListK.box (i := 0) (u := .agg #[.int .i64 o, .int .i64 t, .slice A l.length c]) rfl (by simp [t0]) (bx24 W _ _ _ _ _) ?_
  refine ListK.alloc (i := 1) rfl (al31 _) ?_
  refine ListK.done (hK _ _ ?_)
  clear hK K
  generalize hA : Act.put _ _ _ = a1
  have hz_a1 : a1.tmps.size = 43 := by rw [← hA]; simp only [size_put, hsz]
  have u1 : a1.eval (.tmp 1) = .pointer (some ⟨W.heap.size, 0, none⟩) := by rw [← hA]; exact (by simp [hsz])
  have u2 : a1.eval (.tmp 2) = .pointer (some ⟨(W.alloc (.cells #[.int .i64 o, .int .i64 t, .slice A l.length c] 24)).heap.size, 0, none⟩) := by rw [← hA]; exact (by simp [hsz])
  have hd_a1 : a1.defers = [] := by rw [← hA]; simp only [defers_put, hdf]
  clear hA
  rw [World.size_alloc] at u2
  have wb := (Whole.new W 24 #[.int .i64 o, .int .i64 t, .slice A l.length c]).alloc (.cells #[.int .i64 0, .int .i64 0, .slice none 0 0] 31)
  have wr := Whole.new (W.alloc (.cells #[.int .i64 o, .int .i64 t, .slice A l.length c] 24)) 31 #[.int .i64 0, .int .i64 0, .slice none 0 0]
  have hB1 : Below W.heap.size W ((W.alloc (.cells #[.int .i64 o, .int .i64 t, .slice A l.length c] 24)).alloc (.cells #[.int .i64 0, .int .i64 0, .slice none 0 0] 31)) := ((Below.refl _ W).alloc (Nat.le_refl _) _).alloc (by simp) _
  have hz1 : ((W.alloc (.cells #[.int .i64 o, .int .i64 t, .slice A l.length c] 24)).alloc (.cells #[.int .i64 0, .int .i64 0, .slice none 0 0] 31)).heap.size = W.heap.size + 2 := by simp
  rw [World.size_alloc] at wr
  generalize hh : W.heap.size = h at *
  generalize (W.alloc (.cells #[.int .i64 o, .int .i64 t, .slice A l.length c] 24)).alloc (.cells #[.int .i64 0, .int .i64 0, .slice none 0 0] 31) = W1 at *
  refine wpIn_seq (region_p 7 ?_)
  intro K hK
  refine ListK.field (i := 0) (u := .pointer (some ⟨h, 0, none⟩)) (v := .pointer (some ⟨h, 0, none⟩)) rfl (by simp [u1]) (fa24_0 _) ?_
  refine ListK.load (i := 1) (p := ⟨h, 0, none⟩) (v := .int .i64 o) rfl (by simp [hz_a1]) (ld3 (wb.cell 0)) ?_
  refine ListK.field (i := 2) (u := .pointer (some ⟨h, 0, none⟩)) (v := .pointer (some ⟨h, 1, none⟩)) rfl (by simp [u1]) (fa24_1 _) ?_
  refine ListK.load (i := 3) (p := ⟨h, 1, none⟩) (v := .int .i64 t) rfl (by simp [hz_a1]) (ld3 (wb.cell 1)) ?_
  refine ListK.bld (i := 4) (ps := #[(0, .int .i64 o), (1, .int .i64 t)]) (v := .agg #[.int .i64 o, .int .i64 t, .slice none 0 0]) rfl (by simp [hz_a1]) (bd31 _ _ _) ?_
  refine ListK.alloc (i := 5) rfl (al31 W1) ?_
  refine ListK.store (i := 6) (u := .pointer (some ⟨W1.heap.size, 0, none⟩)) (u' := .agg #[.int .i64 o, .int .i64 t, .slice none 0 0]) rfl (by simp [hz_a1]) (by simp [hz_a1]) (st31n W1 _ _ _ _ _) ?_
  refine ListK.done (hK _ _ ?_)
  clear hK K
  generalize hA : Act.put _ _ _ = a2
  have hz_a2 : a2.tmps.size = 43 := by rw [← hA]; simp only [size_put, hz_a1]
  have v1 : a2.eval (.tmp 1) = .pointer (some ⟨h, 0, none⟩) := by rw [← hA]; exact (by simp [u1])
  have v2 : a2.eval (.tmp 2) = .pointer (some ⟨h + 1, 0, none⟩) := by rw [← hA]; exact (by simp [u2])
  have v3 : a2.eval (.tmp 3) = .pointer (some ⟨W1.heap.size, 0, none⟩) := by rw [← hA]; exact (by simp [hz_a1])
  have hd_a2 : a2.defers = [] := by rw [← hA]; simp only [defers_put, hd_a1]
  clear hA
  have hm : BtM W h o t A l.length c (.slice none 0 0) [] (W1.alloc (.cells #[.int .i64 o, .int .i64 t, .slice none 0 0] 31)) := by
    refine ⟨wb.alloc _, wr.alloc _, ?_, hB1.alloc (by omega) _, World.ownsRow_nil _ _ _ _⟩
    have := Whole.new W1 31 #[.int .i64 o, .int .i64 t, .slice none 0 0]
    rwa [hz1] at this
  generalize W1.alloc (.cells #[.int .i64 o, .int .i64 t, .slice none 0 0] 31) = W2 at *
  rw [hz1] at v3
  refine wpIn_seq (wpIn_seq (region_p 1 ?_))
  intro K hK
  refine ListK.assign (i := 0) (v := .int .i64 0) rfl (by simp) ?_
  refine ListK.done (hK _ _ ?_)
  clear hK K
  refine wpIn_block (wpIn_loop (fun a W' => ∃ (k : Nat) (v : Value), k ≤ l.length ∧ a.tmps.size = 43 ∧ a.defers = [] ∧ a.eval (.tmp 1) = .pointer (some ⟨h, 0, none⟩) ∧ a.eval (.tmp 2) = .pointer (some ⟨h + 1, 0, none⟩) ∧ a.eval (.tmp 3) = .pointer (some ⟨h + 2, 0, none⟩) ∧ a.eval (.tmp 4) = .int .i64 k ∧ BtM W h o t A l.length c v (l.take k) W') (fun a _ => l.length - (intOf (a.eval (.tmp 4))).toNat)
    ⟨0, _, Nat.zero_le _, by simp only [size_put, hz_a2], by simp only [defers_put, hd_a2], (by simp [v1]), (by simp [v2]), (by simp [v3]), (by simp [hz_a2]), hm⟩ ?_)
  clear hsz t0 hdf hz_a1 u1 u2 hd_a1 hz_a2 v1 v2 v3 hd_a2 a a1 a2 wb wr hB1 hz1 hm
  rintro a W2 ⟨k, v, hk, hsz, hdf, t1, t2, t3, t4, hm⟩
  have hkb2 := hm.kb.cell 2
  refine wpIn_seq (wpIn_seq (region_p 5 ?_))
  intro K hK
  refine ListK.move (i := 0) (v := .int .i64 k) rfl (by simp [t4]) ?_
  refine ListK.field (i := 1) (u := .pointer (some ⟨h, 0, none⟩)) (v := .pointer (some ⟨h, 2, none⟩)) rfl (by simp [t1]) (fa24_2 _) ?_
  refine ListK.load (i := 2) (p := ⟨h, 2, none⟩) (v := .slice A l.length c) rfl (by simp [hsz]) (ld22 (hkb2)) ?_
  refine ListK.len (i := 3) (u := .slice A l.length c) (v := .int .i64 l.length) rfl (by simp [hsz]) (ln22 _ _ _ _ _) rfl ?_
  refine ListK.bin (i := 4) (u := .int .i64 k) (u' := .int .i64 (l.length : Int)) (v := .bool (decide (k < (l.length : Int)))) rfl (by simp [hsz]) (by simp [hsz]) (lss3 _) ?_
  refine ListK.done (hK _ _ ?_)
  clear hK K
  have htl : (l.take k).length = k := by rw [List.length_take]; omega
  by_cases hkl : k < l.length
  · refine wpIn_cond (t := true) (by simp [hsz]; omega) (wpIn_skip ?_)
    generalize hA : Act.put _ _ _ = a1
    have hz_a1 : a1.tmps.size = 43 := by rw [← hA]; simp only [size_put, hsz]
    have u1 : a1.eval (.tmp 1) = .pointer (some ⟨h, 0, none⟩) := by rw [← hA]; exact (by simp [t1])
    have u2 : a1.eval (.tmp 2) = .pointer (some ⟨h + 1, 0, none⟩) := by rw [← hA]; exact (by simp [t2])
    have u3 : a1.eval (.tmp 3) = .pointer (some ⟨h + 2, 0, none⟩) := by rw [← hA]; exact (by simp [t3])
    have u4 : a1.eval (.tmp 4) = .int .i64 k := by rw [← hA]; exact (by simp [t4])
    have hd_a1 : a1.defers = [] := by rw [← hA]; simp only [defers_put, hdf]
    clear hA
    have htk := List.take_succ_eq_append_getElem hkl
    obtain ⟨b, off, hA, hbB, s0, s1, s2, s3, s4⟩ := (hs.below hm.low (Nat.le_refl _)) k _ (List.getElem?_eq_getElem hkl)
    subst hA
    generalize l[k] = s at *
    show (Code.seq _ _).wpIn _ _ _ _ _ _
    refine wpIn_seq (wpIn_block (wpIn_seq (region_p 7 ?_)))
    intro K5 hK5
    refine ListK.field (i := 0) (u := .pointer (some ⟨h, 0, none⟩)) (v := .pointer (some ⟨h, 2, none⟩)) rfl (by simp [u1]) (fa24_2 _) ?_
    refine ListK.load (i := 1) (p := ⟨h, 2, none⟩) (v := .slice (some ⟨b, off, none⟩) l.length c) rfl (by simp [hz_a1]) (ld22 (hkb2)) ?_
    refine ListK.move (i := 2) (v := .int .i64 k) rfl (by simp [u4]) ?_
    refine ListK.index (i := 3) (u := .slice (some ⟨b, off, none⟩) l.length c) (u' := .int .i64 k) (v := .pointer (some ⟨b, off + k * 5, none⟩)) rfl (by simp [hz_a1]) (by simp [hz_a1]) (ix22 hkl _) ?_
    refine ListK.load (i := 4) (p := ⟨b, off + k * 5, none⟩) (v := saleV s) rfl (by simp [hz_a1]) (ld73 s0 s1 s2 s3 s4) ?_
    refine ListK.alloc (i := 5) rfl (al73 W2) ?_
    refine ListK.store (i := 6) (u := .pointer (some ⟨W2.heap.size, 0, none⟩)) (u' := saleV s) rfl (by simp [hz_a1]) (by simp [hz_a1]) (sa73 W2 _) ?_
    refine ListK.done (hK5 _ _ ?_)
    have hwx := Whole.new W2 73 (saleC s)
    have hm1 := hm.below ((Below.refl _ W2).alloc (Nat.le_refl _) (.cells (saleC s) 73))
    generalize hbx : W2.heap.size = bx at *
    generalize W2.alloc (.cells (saleC s) 73) = W3 at *
    clear hm s0 s1 s2 s3 s4 hkb2 hbx W2
    generalize hA : Act.put _ _ _ = a2
    have hz_a2 : a2.tmps.size = 43 := by rw [← hA]; simp only [size_put, hz_a1]
    have x1 : a2.eval (.tmp 1) = .pointer (some ⟨h, 0, none⟩) := by rw [← hA]; exact (by simp [u1])
    have x2 : a2.eval (.tmp 2) = .pointer (some ⟨h + 1, 0, none⟩) := by rw [← hA]; exact (by simp [u2])
    have x3 : a2.eval (.tmp 3) = .pointer (some ⟨h + 2, 0, none⟩) := by rw [← hA]; exact (by simp [u3])
    have x4 : a2.eval (.tmp 4) = .int .i64 k := by rw [← hA]; exact (by simp [u4])
    have x5 : a2.eval (.tmp 5) = .pointer (some ⟨bx, 0, none⟩) := by rw [← hA]; exact (by simp [hz_a1])
    have hd_a2 : a2.defers = [] := by rw [← hA]; simp only [defers_put, hd_a1]
    clear hA
    have c0 : W3.cell? ⟨bx, 0, none⟩ = some (.int .i64 s.src) := hwx.cell 0
    have c1 : W3.cell? ⟨bx, 1, none⟩ = some (.int .i64 s.dst) := hwx.cell 1
    have c2 : W3.cell? ⟨bx, 2, none⟩ = some (.int .i64 s.many) := hwx.cell 2
    have c3 : W3.cell? ⟨bx, 3, none⟩ = some (.int .i64 s.lo) := hwx.cell 3
    have c4 : W3.cell? ⟨bx, 4, none⟩ = some (.int .i64 s.hi) := hwx.cell 4
    have hkx2 := hm1.kx.cell 2
    show (Code.region 6 opsBa6 false).wpIn _ _ _ _ _ _
    refine region_p 20 ?_
    intro K6 hK6
    refine ListK.field (i := 0) (u := .pointer (some ⟨h + 2, 0, none⟩)) (v := .pointer (some ⟨h + 2, 2, none⟩)) rfl (by simp [x3]) (fa31_2 _) ?_
    refine ListK.load (i := 1) (p := ⟨h + 2, 2, none⟩) (v := v) rfl (by simp [hz_a2]) (ld29 (hkx2)) ?_
    refine ListK.field (i := 2) (u := .pointer (some ⟨bx, 0, none⟩)) (v := .pointer (some ⟨bx, 0, none⟩)) rfl (by simp [x5]) (fa73_0 _) ?_
    refine ListK.load (i := 3) (p := ⟨bx, 0, none⟩) (v := .int .i64 s.src) rfl (by simp [hz_a2]) (ld3 (c0)) ?_
    refine ListK.field (i := 4) (u := .pointer (some ⟨bx, 0, none⟩)) (v := .pointer (some ⟨bx, 1, none⟩)) rfl (by simp [x5]) (fa73_1 _) ?_
    refine ListK.load (i := 5) (p := ⟨bx, 1, none⟩) (v := .int .i64 s.dst) rfl (by simp [hz_a2]) (ld3 (c1)) ?_
    refine ListK.field (i := 6) (u := .pointer (some ⟨bx, 0, none⟩)) (v := .pointer (some ⟨bx, 2, none⟩)) rfl (by simp [x5]) (fa73_2 _) ?_
    refine ListK.load (i := 7) (p := ⟨bx, 2, none⟩) (v := .int .i64 s.many) rfl (by simp [hz_a2]) (ld3 (c2)) ?_
    refine ListK.field (i := 8) (u := .pointer (some ⟨bx, 0, none⟩)) (v := .pointer (some ⟨bx, 3, none⟩)) rfl (by simp [x5]) (fa73_3 _) ?_
    refine ListK.field (i := 9) (u := .pointer (some ⟨bx, 3, none⟩)) (v := .pointer (some ⟨bx, 3, none⟩)) rfl (by simp [hz_a2]) (fa71_0 _) ?_
    refine ListK.load (i := 10) (p := ⟨bx, 3, none⟩) (v := .int .i64 s.lo) rfl (by simp [hz_a2]) (ld3 (c3)) ?_
    refine ListK.field (i := 11) (u := .pointer (some ⟨bx, 0, none⟩)) (v := .pointer (some ⟨bx, 3, none⟩)) rfl (by simp [x5]) (fa73_3 _) ?_
    refine ListK.field (i := 12) (u := .pointer (some ⟨bx, 3, none⟩)) (v := .pointer (some ⟨bx, 4, none⟩)) rfl (by simp [hz_a2]) (fa71_1 _) ?_
    refine ListK.load (i := 13) (p := ⟨bx, 4, none⟩) (v := .int .i64 s.hi) rfl (by simp [hz_a2]) (ld3 (c4)) ?_
    refine ListK.bld (i := 14) (ps := #[(0, .int .i64 s.lo), (1, .int .i64 s.hi)]) (v := .agg #[.int .i64 s.lo, .int .i64 s.hi]) rfl (by simp [hz_a2]) (bd46r _ _ _) ?_
    refine ListK.bld (i := 15) (ps := #[(0, .int .i64 s.src), (1, .int .i64 s.dst), (2, .int .i64 s.many), (3, .agg #[.int .i64 s.lo, .int .i64 s.hi])]) (v := saleV s) rfl (by simp [hz_a2]) (bd61r _ _) ?_
    refine ListK.bsl (i := 16) (ps := #[(0, saleV s)]) (v := .slice (some ⟨W3.heap.size, 0, none⟩) 1 1) rfl (by simp [hz_a2]) (bs29_1 _ _) ?_
    have hm2 := hm1.below ((Below.refl _ W3).alloc (Nat.le_refl _) (.cells (saleC s) 61))
    have hnw := news5 (W := W3) s 61
    generalize W3.alloc (.cells (saleC s) 61) = W4 at *
    refine ListK.append61 (i := 17) rfl hm2.own (by simp [hz_a2]) ⟨W3.heap.size, 0, none⟩ 1 (saleL s) (by simp [hz_a2]) rfl hnw (by simp [saleL, Value.oneCell']) (by unfold maxLen; omega) (by omega) hm2.base ?_
    intro g cap W5 hown hgr hat
    have hm3 := hm2.put hown hgr
    have hc2 : W5.cell? ⟨h + 2, 2, none⟩ = some v := (hgr.cell (hm2.kx.cell 2) (hm2.far (by simp)))
    have hf2 : W5.frozen? ⟨h + 2, 2, none⟩ = false := (hgr.frozen_far ⟨h + 2, 2, none⟩ hm2.kx.lt (hm2.far (by simp))).trans (hm2.kx.frozen 2)
    refine ListK.field (i := 18) (u := .pointer (some ⟨h + 2, 0, none⟩)) (v := .pointer (some ⟨h + 2, 2, none⟩)) rfl (by simp [x3]) (fa31_2 _) ?_
    refine ListK.store (i := 19) (u := .pointer (some ⟨h + 2, 2, none⟩)) (u' := .slice (some ⟨g, 0, none⟩) ((l.take k).length + 1) cap) rfl (by simp [hz_a2]) (by simp [hz_a2]) (st29 hc2 hf2) ?_
    refine ListK.done (hK6 _ _ ?_)
    generalize hA : Act.put _ _ _ = a3
    have hz_a3 : a3.tmps.size = 43 := by rw [← hA]; simp only [size_put, hz_a2]
    have y1 : a3.eval (.tmp 1) = .pointer (some ⟨h, 0, none⟩) := by rw [← hA]; exact (by simp [x1])
    have y2 : a3.eval (.tmp 2) = .pointer (some ⟨h + 1, 0, none⟩) := by rw [← hA]; exact (by simp [x2])
    have y3 : a3.eval (.tmp 3) = .pointer (some ⟨h + 2, 0, none⟩) := by rw [← hA]; exact (by simp [x3])
    have y4 : a3.eval (.tmp 4) = .int .i64 k := by rw [← hA]; exact (by simp [x4])
    have hd_a3 : a3.defers = [] := by rw [← hA]; simp only [defers_put, hd_a2]
    clear hA
    show (Code.region 4 opsBa4 false).wpIn _ _ _ _ _ _
    refine region_p 3 ?_
    intro K4 hK4
    refine ListK.move (i := 0) (v := .int .i64 k) rfl (by simp [y4]) ?_
    refine ListK.bin (i := 1) (u := .int .i64 k) (u' := .int .i64 1) (v := .int .i64 (k + 1)) rfl (by simp [hz_a3]) (by simp) (add3 (by omega) (by omega) _) ?_
    refine ListK.assign (i := 2) (v := .int .i64 ((k + 1 : Nat) : Int)) rfl (by simp [hz_a3]) ?_
    skip
    have hmu : ∀ b : Act, b.eval (.tmp 4) = .int .i64 ((k + 1 : Nat) : Int) → l.length - (intOf (b.eval (.tmp 4))).toNat < l.length - (intOf (a.eval (.tmp 4))).toNat := by
      intro b e
      rw [e, t4]
      simp only [intOf]
      omega
    refine ListK.done (hK4 _ _ ⟨⟨k + 1, _, by omega, by simp only [size_put, hz_a3], by simp only [defers_put, hd_a3], (by simp [y1]), (by simp [y2]), (by simp [y3]), (by simp [hz_a3]), by rw [htk]; exact hm3⟩, hmu _ (by simp [hz_a3])⟩)
  · obtain rfl : k = l.length := by omega
    refine wpIn_cond (t := false) (by simp [hsz]) (wpIn_exit ?_)
    generalize hA : Act.put _ _ _ = a1
    have hz_a1 : a1.tmps.size = 43 := by rw [← hA]; simp only [size_put, hsz]
    have u1 : a1.eval (.tmp 1) = .pointer (some ⟨h, 0, none⟩) := by rw [← hA]; exact (by simp [t1])
    have u2 : a1.eval (.tmp 2) = .pointer (some ⟨h + 1, 0, none⟩) := by rw [← hA]; exact (by simp [t2])
    have u3 : a1.eval (.tmp 3) = .pointer (some ⟨h + 2, 0, none⟩) := by rw [← hA]; exact (by simp [t3])
    have hd_a1 : a1.defers = [] := by rw [← hA]; simp only [defers_put, hdf]
    clear hA
    rw [List.take_length] at hm
    obtain ⟨A', c', rfl, hsa⟩ := sales_of_owns hm.own
    have ht2 := hm.kx
    have x0 := ht2.cell 0
    have x1 := ht2.cell 1
    have x2 := ht2.cell 2
    have r := hm.kr
    show (Code.seq _ _).wpIn _ _ _ _ _ _
    refine wpIn_seq (region_p 2 ?_)
    intro K hK
    refine ListK.load (i := 0) (p := ⟨h + 2, 0, none⟩) (v := .agg #[.int .i64 o, .int .i64 t, .slice A' l.length c']) rfl (by simp [u3]) (ld31' ⟨x0, x1, x2⟩) ?_
    refine ListK.store (i := 1) (u := .pointer (some ⟨h + 1, 0, none⟩)) (u' := .agg #[.int .i64 o, .int .i64 t, .slice A' l.length c']) rfl (by simp [u2]) (by simp [hz_a1]) (st31 (r.cell 0) (r.cell 1) (r.cell 2) (r.frozen 0) (r.frozen 1) (r.frozen 2)) ?_
    refine ListK.done (hK _ _ (wpIn_ret ?_))
    have k3 := ((r.set 0 (.int .i64 o)).set 1 (.int .i64 t)).set 2 (.slice A' l.length c')
    refine bodyPost_ret (res31 (b := h + 1) Try.results18 (by simp [u2]) (k3.cell 0) (k3.cell 1) (k3.cell 2)) (by simp only [defers_put, hd_a1]) ⟨A', c', rfl, ?_, ?_⟩
    · have hne : ∀ k s, l[k]? = some s → ∃ b off, A' = some ⟨b, off, none⟩ ∧ b < W2.heap.size ∧ b ≠ h + 1 ∧ SaleAt W2 b off k s := by
        intro k s hks
        obtain ⟨b, off, e1, e2, e3⟩ := hsa k s hks
        refine ⟨b, off, e1, e2, ?_, e3⟩
        rcases hm.own.2 with ⟨e4, _⟩ | ⟨g, cap, cur, e4, e5, _⟩
        · rw [e1] at e4; cases e4
        · rw [e1] at e4; cases e4; omega
      intro k s hks
      obtain ⟨b, off, e1, e2, e3, e4⟩ := hne k s hks
      refine ⟨b, off, e1, by simpa [World.setCell] using e2, e4.keep fun i => ?_⟩
      rw [cell_set_far (by simpa using e3), cell_set_far (by simpa using e3), cell_set_far (by simpa using e3)]
    · have hlow := hm.low
      exact ((hlow.setCell (p := ⟨h + 1, 0, none⟩) (by simp) _).setCell (p := ⟨h + 1, 1, none⟩) (by simp) _).setCell (p := ⟨h + 1, 2, none⟩) (by simp) _
end Go.Proofs.Ytfcnombmphophaa
namespace Go.Proofs.Ytfcnombmphophaa
open Go.RowKit Go.Shelf
theorem bs25_z (w : World) : (Instr.buildSlice 25 0 #[]).run Try.prog w = .ok (.slice (some ⟨w.heap.size, 0, none⟩) 0 0) (w.alloc (.cells #[] 3)) := by
  kernel_rfl
section
variable {ops : Array Oper} {K : Act → World → Prop} {k i d : Nat} {a : Act} {w : World} {ty : TypeId} {pos : String} {aft : Array Edge}
theorem ListK.app25 {s x : Operand} (hi : ops[i]? = some ⟨some d, .call { callee := .builtin .append, args := #[s, x], argTypes := #[25, 25] }, ty, pos, aft, none⟩)
    {base n : Nat} {v : Value} {xs : List Value} (hown : w.ownsRow base 3 1 v n xs) (hs : a.eval s = v) (ad : Addr) (m c : Nat) (news : List Value) (hx : a.eval x = .slice (some ad) m c) (hl : news.length = m) (hm : 0 < m)
    (hnews : ∀ j u, news[j]? = some u → w.cell? (ad.add j) = some u) (h1 : ∀ u ∈ news, u.oneCell' = true) (h63 : n + m ≤ maxLen) (hbytes : (n + m) * 8 ≤ 140737488355328) (hbase : base ≤ w.heap.size)
    (h : ∀ g cap w', w'.ownsRow base 3 1 (.slice (some ⟨g, 0, none⟩) (n + m) cap) (n + m) (xs ++ news) → w.grownBy w' v.ownBlock → (v.ownBlock = some g ∨ g = w.heap.size) → ListK Try.prog ops K k (i + 1) (a.put (some d) (.slice (some ⟨g, 0, none⟩) (n + m) cap)) w') :
    ListK Try.prog ops K (k + 1) i a w := by
  obtain ⟨i0, hi0, hi1, hi2, hi3⟩ := info_parts Try.info3
  obtain ⟨g, cap, w', hr, h2, h3, h4, h5⟩ := run_append_lies (P := Try.prog) w 25 ty base 3 i0 (.int .i64 0) 1 8 Try.underlying25 hi0 hi1 hi2 hi3 rfl (by omega) v n xs hown ad m c news (by simpa using hl) hnews h1 hm h63 hbytes hbase w.heap.size rfl
  refine ListK.val hi rfl ?_ (h g cap w' h2 h3 h4)
  simp [execOp, resolve, invoke, builtin, hs, hx, hr]
theorem ListK.app25z {s x : Operand} (hi : ops[i]? = some ⟨some d, .call { callee := .builtin .append, args := #[s, x], argTypes := #[25, 25] }, ty, pos, aft, none⟩)
    {g n c c' : Nat} {A : Option Addr} (hs : a.eval s = .slice (some ⟨g, 0, none⟩) n c) (hx : a.eval x = .slice A 0 c') (hnc : n ≤ c)
    (h : ListK Try.prog ops K k (i + 1) (a.put (some d) (.slice (some ⟨g, 0, none⟩) n c)) w) : ListK Try.prog ops K (k + 1) i a w := by
  obtain ⟨i0, hi0, hi1, hi2, hi3⟩ := info_parts Try.info3
  refine ListK.val hi rfl ?_ h
  have : (Builtin.append_ #[25, 25] ty #[.slice (some ⟨g, 0, none⟩) n c, .slice A 0 c']).run Try.prog w = .ok (.slice (some ⟨g, 0, none⟩) n c) w := by
    cases A <;> simp [Builtin.append_, run_underlying Try.underlying25, sizeOf, typeInfo, hi0, Builtin.lenOf, Builtin.firstCells, hnc, storeCells, loadCells, loadCellsFrom]
  simp [execOp, resolve, invoke, builtin, hs, hx, this]
end
end Go.Proofs.Ytfcnombmphophaa
namespace Go.Proofs.Ytfcnombmphophaa
open Go.RowKit Go.Shelf
theorem hasI_app (l : List Int) (x n : Int) : hasI (l ++ [x]) n = (hasI l n || x == n) := by
  simp [hasI]
theorem stockR_app (t : Int) (l : List Sale) (pre : List Int) (n ow : Int) : stockR t l (pre ++ [n]) ow = stepR l ow (stockR t l pre ow) n := by
  simp [stockR]
theorem sold_step {l : List Sale} {st : Nat → Int} {n : Nat} {x : Int} {i : Nat} (hn : n < l.length) (h0 : 0 ≤ (saleOf l n).src) (h1 : 0 ≤ (saleOf l n).dst) (hne : (saleOf l n).src ≠ (saleOf l n).dst) (hx : st i = x) : sold st (saleOf l n) i = stepR l i x n := by
  rw [sold_delta, hx]
  unfold stepR delta
  rw [Int.toNat_natCast]
  generalize saleOf l n = s at *
  obtain ⟨a, b, m, lo, hi⟩ := s
  simp only [] at *
  have e1 : (i = b.toNat) = (b = (i : Int)) := propext ⟨fun h => by omega, fun h => by omega⟩
  have e2 : (i = a.toNat) = (a = (i : Int)) := propext ⟨fun h => by omega, fun h => by omega⟩
  simp only [e1, e2]
  split <;> split <;> omega
end Go.Proofs.Ytfcnombmphophaa
namespace Go.Proofs.Ytfcnombmphophaa
open Go.RowKit Go.Shelf
theorem eql27F {x y : Operand} {m n : Int} (h : m ≠ n) (w : World) : (do eqGuard .eql 27 x y (.int .i64 m) (.int .i64 n); binOp .eql 27 (.int .i64 m) (.int .i64 n) : Sem Value).run Try.prog w = .ok (.bool false) w := by
  go_simp
theorem ListK.pickW {P : Program} {ops : Array Oper} {K : Act → World → Prop} {k i d : Nat} {a : Act} {w : World} {ty : TypeId} {pos : String} {aft : Array Edge} {gd : Option (Nat × Bool)} {c x y : Operand} {b : Bool} {v : Value} (hi : ops[i]? = some ⟨some d, .pick c x y, ty, pos, aft, gd⟩) (hc : a.eval c = .bool b) (hx : (if b then a.eval x else a.eval y) = v)
    (h : ListK P ops K k (i + 1) (a.put (some d) v) w) (hw : Region.wanted ⟨some d, .pick c x y, ty, pos, aft, gd⟩ (yielded ops a.tmps) = true := by rfl) : ListK P ops K (k + 1) i a w :=
  ListK.valW hi hw (by simp [execOp, hc, asBool]; cases b <;> simpa using hx) h
end Go.Proofs.Ytfcnombmphophaa
namespace Go.Proofs.Ytfcnombmphophaa
open Go.RowKit Go.Shelf
end Go.Proofs.Ytfcnombmphophaa
namespace Go.Proofs.Ytfcnombmphophaa
open Go.RowKit Go.Shelf
theorem ListK.conv {P : Program} {ops : Array Oper} {K : Act → World → Prop} {k i d : Nat} {a : Act} {w : World} {ty : TypeId} {pos : String} {aft : Array Edge} {gd : Option (Nat × Bool)} {s t : TypeId} {x : Operand} {u v : Value} (hi : ops[i]? = some ⟨some d, .convert s t x, ty, pos, aft, gd⟩) (hx : a.eval x = u) (hv : (convert s t u).run P w = .ok v w)
    (h : ListK P ops K k (i + 1) (a.put (some d) v) w) (hw : Region.wanted ⟨some d, .convert s t x, ty, pos, aft, gd⟩ (yielded ops a.tmps) = true := by rfl) : ListK P ops K (k + 1) i a w :=
  ListK.valW hi hw (by simp [execOp, hx, hv]) h
end Go.Proofs.Ytfcnombmphophaa
namespace Go.Proofs.Ytfcnombmphophaa
open Go.RowKit Go.Shelf
/-- The memory of Without. -/
structure WtM (w : World) (h : Nat) (o t : Int) (A : Option Addr) (n c : Nat) (v : Value) (xs : List Sale) (W : World) : Prop where
  kb : Whole W h 24 #[.int .i64 o, .int .i64 t, .slice A n c]
  kr : Whole W (h + 1) 24 #[.int .i64 0, .int .i64 0, .slice none 0 0]
  kx : Whole W (h + 2) 24 #[.int .i64 o, .int .i64 t, v]
  low : Below h w W
  own : W.ownsRow (h + 3) 73 5 v xs.length (salesL xs)
section
variable {w W W' : World} {h : Nat} {o t : Int} {A : Option Addr} {n c : Nat} {v : Value} {xs : List Sale}
theorem WtM.base (b : WtM w h o t A n c v xs W) : h + 3 ≤ W.heap.size := b.kx.lt
theorem WtM.below (b : WtM w h o t A n c v xs W) (hb : Below W.heap.size W W') : WtM w h o t A n c v xs W' :=
  ⟨b.kb.below hb b.kb.lt, b.kr.below hb b.kr.lt, b.kx.below hb b.kx.lt, b.low.trans (hb.mono (by have := b.base; omega)), b.own.kept (grown_of_below hb) (by cases v.ownBlock <;> simp)⟩
theorem WtM.far (b : WtM w h o t A n c v xs W) {g : Nat} (hg : g < h + 3) : some g ≠ v.ownBlock := fun e => by have := (b.own.lt g e.symm).1; omega
theorem WtM.put (b : WtM w h o t A n c v xs W) {g cap : Nat} {s : Sale} (hown : W'.ownsRow (h + 3) 73 5 (.slice (some ⟨g, 0, none⟩) (xs.length + 1) cap) (xs.length + 1) (salesL xs ++ saleL s)) (hgr : W.grownBy W' v.ownBlock) :
    WtM w h o t A n c (.slice (some ⟨g, 0, none⟩) (xs.length + 1) cap) (xs ++ [s]) (W'.setCell ⟨h + 2, 2, none⟩ (.slice (some ⟨g, 0, none⟩) (xs.length + 1) cap)) := by
  have k0 : Whole W' h 24 _ := (hgr.block _ b.kb.lt (b.far (by omega))).trans b.kb
  have k1 : Whole W' (h + 1) 24 _ := (hgr.block _ b.kr.lt (b.far (by omega))).trans b.kr
  have k2 : Whole W' (h + 2) 24 _ := (hgr.block _ b.kx.lt (b.far (by omega))).trans b.kx
  have hlo : Below h w W' := b.low.grown hgr (by have := b.base; omega) (fun k e => by have := (b.own.lt k e).1; omega)
  refine ⟨k0.far (by simp) _, k1.far (by simp) _, k2.set 2 _, hlo.setCell (p := ⟨h + 2, 2, none⟩) (by simp) _, ?_⟩
  rw [salesL_app]
  refine World.ownsRow.kept ?_ (grown_set W' ⟨h + 2, 2, none⟩ _) (.inr ?_)
  · simpa using hown
  · intro e
    have hg : g = h + 2 := by simpa [Value.ownBlock] using e
    have := (hown.lt g rfl).1
    omega
end
section
variable {ops : Array Oper} {K : Act → World → Prop} {Kp : Nat → World → World → Prop} {fuel i d : Nat} {listed : Array Bool} {a : Act} {w : World} {ty : TypeId} {pos : String} {aft : Array Edge}
end
section
attribute [local irreducible] AnyK StepK
/-- A sale's five cells. -/
def Cells5 (b o : Nat) (s : Sale) (w : World) : Prop := w.cell? ⟨b, o, none⟩ = some (.int .i64 s.src) ∧ w.cell? ⟨b, o + 1, none⟩ = some (.int .i64 s.dst) ∧ w.cell? ⟨b, o + 2, none⟩ = some (.int .i64 s.many) ∧ w.cell? ⟨b, o + 3, none⟩ = some (.int .i64 s.lo) ∧ w.cell? ⟨b, o + 4, none⟩ = some (.int .i64 s.hi)
theorem Cells5.of {b o : Nat} {s : Sale} {w w' : World} (h : Cells5 b o s w) (hk : ∀ i u, w.cell? ⟨b, i, none⟩ = some u → w'.cell? ⟨b, i, none⟩ = some u) : Cells5 b o s w' :=
  ⟨hk _ _ h.1, hk _ _ h.2.1, hk _ _ h.2.2.1, hk _ _ h.2.2.2.1, hk _ _ h.2.2.2.2⟩
end
end Go.Proofs.Ytfcnombmphophaa
namespace Go.Proofs.Ytfcnombmphophaa
open Go.RowKit Go.Shelf
end Go.Proofs.Ytfcnombmphophaa
namespace Go.Proofs.Ytfcnombmphophaa
open Go.RowKit Go.Shelf
section
variable {ops : Array Oper} {K : Act → World → Prop} {Kp : Nat → World → World → Prop} {fuel i d : Nat} {listed : Array Bool} {a : Act} {w : World} {ty : TypeId} {pos : String} {aft : Array Edge} {gd : Option (Nat × Bool)}
/-- append of a list to an empty one that is owned. -/
theorem StepK.cpy {s x : Operand} (hi : ops[i]? = some ⟨some d, .call { callee := .builtin .append, args := #[s, x], argTypes := #[25, 25] }, ty, pos, aft, gd⟩) (hw : Region.wanted ⟨some d, .call { callee := .builtin .append, args := #[s, x], argTypes := #[25, 25] }, ty, pos, aft, gd⟩ (yielded ops a.tmps) = true)
    {W0 : World} {g c B : Nat} {A : Option Addr} {ys : List Int} (hol : OL W0 (.slice (some ⟨g, 0, none⟩) 0 0) [] w) (hs : a.eval s = .slice (some ⟨g, 0, none⟩) 0 0) (hx : a.eval x = .slice A ys.length c) (hy : IntsAt w B A ys) (hl : ys.length ≤ 1000)
    (h : ∀ v' w', OL W0 v' ys w' → (∀ b i u, b ≠ g → w.cell? ⟨b, i, none⟩ = some u → w'.cell? ⟨b, i, none⟩ = some u) → w.heap.size ≤ w'.heap.size → Kp i w w' ∧ AnyK Try.prog ops K Kp fuel (listed.setIfInBounds i true) (a.put (some d) v') w') :
    StepK Try.prog ops K Kp fuel listed a w i := by
  obtain ⟨i0, hi0, hi1, hi2, hi3⟩ := info_parts Try.info3
  unfold StepK opG
  simp only [hi]
  rw [if_pos hw]
  by_cases h0 : ys.length = 0
  · obtain rfl : ys = [] := List.eq_nil_of_length_eq_zero h0
    have h1 := h (.slice (some ⟨g, 0, none⟩) 0 0) w hol (fun _ _ _ _ h => h) (Nat.le_refl _)
    have : (Builtin.append_ #[25, 25] ty #[.slice (some ⟨g, 0, none⟩) 0 0, .slice A 0 c]).run Try.prog w = .ok (.slice (some ⟨g, 0, none⟩) 0 0) w := by
      cases A <;> simp [Builtin.append_, run_underlying Try.underlying25, sizeOf, typeInfo, hi0, Builtin.lenOf, Builtin.firstCells, storeCells, loadCells, loadCellsFrom]
    have hx' : a.eval x = .slice A 0 c := hx
    simp only [Oper.wp, execOp, resolve, invoke, builtin, Sem.run_bind, Sem.run_pure, Result.andThen_ok, List.map_toArray, List.map_cons, List.map_nil, hs, hx', this]
    exact h1
  · obtain ⟨b, off, hA, hb, _⟩ := hy 0 ys[0] (List.getElem?_eq_getElem (by omega))
    subst hA
    refine wp_append_lies _ s x 25 rfl W0.heap.size 3 i0 (.int .i64 0) 1 8 Try.underlying25 hi0 hi1 hi2 hi3 rfl (by omega) _ 0 [] hs hol.own ⟨b, off, none⟩ ys.length c (ys.map (Value.int .i64)) hx (by simp) ?_ ?_ (by omega) (by unfold maxLen; omega) (by omega) hol.low.size w.heap.size rfl ?_
    · intro j u hu
      rw [List.getElem?_map, Option.map_eq_some_iff] at hu
      obtain ⟨x, hx, rfl⟩ := hu
      obtain ⟨b', off', e, _, hc⟩ := hy j x hx
      cases e
      simp only [Addr.add]
      split
      · rename_i h0
        subst h0
        exact hc
      · exact hc
    · intro u hu
      obtain ⟨x, _, rfl⟩ := List.mem_map.1 hu
      rfl
    · intro g' cap w' ho hgr _ _
      rw [Nat.zero_add, List.nil_append] at ho
      refine h (.slice (some ⟨g', 0, none⟩) (0 + ys.length) cap) w' ⟨hol.low.grown hgr hol.low.size (fun k e => (hol.own.lt k e).1), by rw [Nat.zero_add]; exact ho⟩ (fun q i u hq hu => hgr.cell hu (by simpa [Value.ownBlock] using hq)) ?_
      exact (hol.low.grown hgr hol.low.size (fun k e => (hol.own.lt k e).1)).size |> fun _ => hgr.size
/-- append of one number to a list that is owned. -/
theorem StepK.app1 {s x : Operand} (hi : ops[i]? = some ⟨some d, .call { callee := .builtin .append, args := #[s, x], argTypes := #[25, 25] }, ty, pos, aft, gd⟩) (hw : Region.wanted ⟨some d, .call { callee := .builtin .append, args := #[s, x], argTypes := #[25, 25] }, ty, pos, aft, gd⟩ (yielded ops a.tmps) = true)
    {W0 : World} {p : Nat} {v : Value} {ys : List Int} {y : Int} (hol : OL W0 v ys w) (hs : a.eval s = v) (hx : a.eval x = .slice (some ⟨p, 0, none⟩) 1 1) (hy : w.cell? ⟨p, 0, none⟩ = some (.int .i64 y)) (hl : ys.length ≤ 1000)
    (h : ∀ v' w', OL W0 v' (ys ++ [y]) w' → (∀ b i u, b < W0.heap.size → w.cell? ⟨b, i, none⟩ = some u → w'.cell? ⟨b, i, none⟩ = some u) → Kp i w w' ∧ AnyK Try.prog ops K Kp fuel (listed.setIfInBounds i true) (a.put (some d) v') w') :
    StepK Try.prog ops K Kp fuel listed a w i := by
  obtain ⟨i0, hi0, hi1, hi2, hi3⟩ := info_parts Try.info3
  unfold StepK opG
  simp only [hi]
  rw [if_pos hw]
  refine wp_append_lies _ s x 25 rfl W0.heap.size 3 i0 (.int .i64 0) 1 8 Try.underlying25 hi0 hi1 hi2 hi3 rfl (by omega) v ys.length (ys.map (Value.int .i64)) hs hol.own ⟨p, 0, none⟩ 1 1 [.int .i64 y] hx (by simp) (news1 hy) (by simp [Value.oneCell']) (by omega) (by unfold maxLen; omega) (by omega) hol.low.size w.heap.size rfl ?_
  intro g' cap w' ho hgr _ _
  exact h (.slice (some ⟨g', 0, none⟩) (ys.length + 1) cap) w' (hol.app ho hgr) (fun q i u hq hu => hgr.cell hu (fun e => by have := (hol.own.lt q e.symm).1; omega))
end
abbrev RCn (b3 : Nat) (o t : Int) (A : Option Addr) (nl c : Nat) : World → Prop := fun w => w.cell? ⟨b3, 0, none⟩ = some (.int .i64 o) ∧ w.cell? ⟨b3, 1, none⟩ = some (.int .i64 t) ∧ w.cell? ⟨b3, 2, none⟩ = some (.slice A nl c)
theorem RCn.of {b3 : Nat} {o t : Int} {A : Option Addr} {nl c : Nat} {w w' : World} (h : RCn b3 o t A nl c w) (hk : ∀ i u, w.cell? ⟨b3, i, none⟩ = some u → w'.cell? ⟨b3, i, none⟩ = some u) : RCn b3 o t A nl c w' := ⟨hk _ _ h.1, hk _ _ h.2.1, hk _ _ h.2.2⟩
section
attribute [local irreducible] AnyK StepK
end
end Go.Proofs.Ytfcnombmphophaa
namespace Go.Proofs.Ytfcnombmphophaa
open Go.RowKit Go.Shelf
theorem ol_nil {W0 W : World} (hb : Below W0.heap.size W0 W) : OL W0 (.slice (some ⟨W.heap.size, 0, none⟩) 0 0) [] (W.alloc (.cells #[] 3)) := by
  refine ⟨hb.alloc hb.size _, ?_⟩
  have := World.ownsRow_lit (base := W0.heap.size) (e := 3) (size := 1) W (#[] : Array Value) 0 hb.size (by unfold maxLen; omega) (by simp)
  simpa using this
section
attribute [local irreducible] AnyK StepK
end
end Go.Proofs.Ytfcnombmphophaa
namespace Go.Proofs.Ytfcnombmphophaa
open Go.RowKit Go.Shelf
theorem max3 (m n : Int) (ty : TypeId) (w : World) : (builtin .max #[3, 3] ty #[false, false] #[.int .i64 m, .int .i64 n]).run Try.prog w = .ok (.value (.int .i64 (max m n))) w := by
  go_simp
  split <;> omega
theorem ListK.bmax {ops : Array Oper} {K : Act → World → Prop} {k i d : Nat} {a : Act} {w : World} {ty : TypeId} {pos : String} {aft : Array Edge} {x y : Nat} {m n : Int} (hi : ops[i]? = some ⟨some d, .call { callee := .builtin .max, args := #[.tmp x, .tmp y], argTypes := #[3, 3] }, ty, pos, aft, none⟩) (hx : a.eval (.tmp x) = .int .i64 m) (hy : a.eval (.tmp y) = .int .i64 n)
    (h : ListK Try.prog ops K k (i + 1) (a.put (some d) (.int .i64 (max m n))) w) : ListK Try.prog ops K (k + 1) i a w := by
  have := max3 m n ty w
  exact ListK.val hi rfl (by simp [execOp, resolve, invoke, hx, hy]; exact this) h
theorem eql3T {x y : Operand} {m n : Int} (h : m = n) (w : World) : (do eqGuard .eql 3 x y (.int .i64 m) (.int .i64 n); binOp .eql 3 (.int .i64 m) (.int .i64 n) : Sem Value).run Try.prog w = .ok (.bool true) w := by
  subst h
  go_simp
theorem eql3F {x y : Operand} {m n : Int} (h : m ≠ n) (w : World) : (do eqGuard .eql 3 x y (.int .i64 m) (.int .i64 n); binOp .eql 3 (.int .i64 m) (.int .i64 n) : Sem Value).run Try.prog w = .ok (.bool false) w := by
  go_simp
end Go.Proofs.Ytfcnombmphophaa
namespace Go.Proofs.Ytfcnombmphophaa
open Go.RowKit Go.Shelf
end Go.Proofs.Ytfcnombmphophaa
namespace Go.Proofs.Ytfcnombmphophaa
open Go.RowKit Go.Shelf
theorem ListK.passU {P : Program} {ops : Array Oper} {K : Act → World → Prop} {k i j d : Nat} {a : Act} {w : World} {ty : TypeId} {pos : String} {aft : Array Edge} {op : Op} {b : Bool} {e : Nat} (hi : ops[i]? = some ⟨some d, op, ty, pos, aft, some (j, b)⟩) (hj : (ops[j]?).bind (·.dst) = some e) (he : a.eval (.tmp e) = undef)
    (h : ListK P ops K k (i + 1) (a.put (some d) undef) w) : ListK P ops K (k + 1) i a w := ListK.passW hi (wanted_undef hj he) h
end Go.Proofs.Ytfcnombmphophaa
namespace Go.Proofs.Ytfcnombmphophaa
open Go.RowKit Go.Shelf
theorem stepE_le (l : List Sale) (d : Nat) (E : Nat → Int) (k e : Nat) : stepE l d E k e ≤ E e := by
  unfold stepE
  split
  · unfold upd
    split
    · rename_i h
      subst h
      omega
    · exact Int.le_refl _
  · exact Int.le_refl _
theorem foldE_le (l : List Sale) (d : Nat) : ∀ (ks : List Nat) (E : Nat → Int) (e : Nat), (ks.foldl (stepE l d) E) e ≤ E e
  | [], _, _ => Int.le_refl _
  | k :: ks, E, e => Int.le_trans (foldE_le l d ks (stepE l d E k) e) (stepE_le l d E k e)
theorem stepE_low {l : List Sale} {d k e : Nat} (hb : d.testBit k = false) (he : e ≤ d) (E : Nat → Int) : stepE l d E k e = E e := by
  unfold stepE
  split
  · unfold upd
    rw [if_neg (by have := or_gt hb; omega)]
  · rfl
theorem foldE_low {l : List Sale} {d e : Nat} (he : e ≤ d) : ∀ (ks : List Nat), (∀ k, k ∈ ks → d.testBit k = false) → ∀ E : Nat → Int, (ks.foldl (stepE l d) E) e = E e
  | [], _, _ => rfl
  | k :: ks, h, E => (foldE_low he ks (fun j hj => h j (List.mem_cons_of_mem _ hj)) _).trans (stepE_low (h k List.mem_cons_self) he E)
theorem foldE_hit {l : List Sale} {d k : Nat} : ∀ (ks : List Nat), (∀ j, j ∈ ks → d.testBit j = false) → k ∈ ks → ∀ E : Nat → Int, max (E d) (saleOf l k).lo ≤ (saleOf l k).hi → (ks.foldl (stepE l d) E) (d ||| 2 ^ k) ≤ max (E d) (saleOf l k).lo
  | [], _, h, _, _ => by cases h
  | j :: ks, hb, hk, E, hle => by
    by_cases e : j = k
    · subst e
      refine Int.le_trans (foldE_le l d ks _ _) ?_
      unfold stepE
      rw [if_pos hle]
      unfold upd
      rw [if_pos rfl]
      omega
    · have hk' : k ∈ ks := by
        rcases List.mem_cons.1 hk with h | h
        · exact absurd h.symm e
        · exact h
      have hd := stepE_low (l := l) (hb j List.mem_cons_self) (Nat.le_refl d) E
      have := foldE_hit ks (fun i hi => hb i (List.mem_cons_of_mem _ hi)) hk' (stepE l d E j) (by rw [hd]; exact hle)
      rwa [hd] at this
theorem next_bits (t : Int) (l : List Sale) (d : Nat) : ∀ k, k ∈ nextL t l d → d.testBit k = false := by
  intro k hk
  have := (List.mem_filter.1 hk).2
  simp [nextB] at this
  exact this.2.1
theorem earlyTo_low (t : Int) (l : List Sale) {e : Nat} : ∀ j, e ≤ j → earlyTo t l j e = earlyTo t l e e := by
  intro j
  induction j with
  | zero => intro h; rw [show e = 0 by omega]
  | succ j ih =>
    intro h
    by_cases e1 : e = j + 1
    · rw [e1]
    · rw [← ih (by omega)]
      conv => lhs; unfold earlyTo
      split
      · rfl
      · exact foldE_low (by omega) _ (next_bits t l j) _
theorem earlyTo_mono (t : Int) (l : List Sale) (e : Nat) : ∀ j i, earlyTo t l (j + i) e ≤ earlyTo t l j e
  | j, 0 => Int.le_refl _
  | j, i + 1 => by
    refine Int.le_trans ?_ (earlyTo_mono t l e j i)
    show earlyTo t l (j + i + 1) e ≤ _
    conv => lhs; unfold earlyTo
    split
    · exact Int.le_refl _
    · exact foldE_le l _ _ _ _
theorem early_at (t : Int) (l : List Sale) {d : Nat} (h : d < 2 ^ l.length) : early t l d = earlyTo t l d d := earlyTo_low t l _ (by omega)
/-- One sale on. -/
theorem early_step {t : Int} {l : List Sale} {d k : Nat} (hd : d < 2 ^ l.length) (h1 : early t l d ≠ 101) (hn : nextB t l d k = true) (hle : max (early t l d) (saleOf l k).lo ≤ (saleOf l k).hi) : early t l (d ||| 2 ^ k) ≤ max (early t l d) (saleOf l k).lo := by
  rw [early_at t l hd] at h1 hle ⊢
  have hk : k < l.length := by simp [nextB] at hn; exact hn.1
  have hm := earlyTo_mono t l (d ||| 2 ^ k) (d + 1) (2 ^ l.length - (d + 1))
  rw [show d + 1 + (2 ^ l.length - (d + 1)) = 2 ^ l.length by omega] at hm
  refine Int.le_trans hm ?_
  conv => lhs; unfold earlyTo
  rw [if_neg h1]
  exact foldE_hit _ (next_bits t l d) (List.mem_filter.2 ⟨List.mem_range.2 hk, hn⟩) _ hle
end Go.Proofs.Ytfcnombmphophaa
namespace Go.Proofs.Ytfcnombmphophaa
open Go.RowKit Go.Shelf
/-- Sales, each on a day, one behind another: from stocks, the last day being x. -/
def GoP (l : List Sale) : (Nat → Int) → Int → List (Nat × Int) → Prop
  | _, _, [] => True
  | st, x, p :: ps => (saleOf l p.1).many ≤ st (saleOf l p.1).src.toNat ∧ (saleOf l p.1).lo ≤ p.2 ∧ p.2 ≤ (saleOf l p.1).hi ∧ x ≤ p.2 ∧ GoP l (sold st (saleOf l p.1)) p.2 ps
/-- All are other sales, none of them in d. -/
def Fresh (l : List Sale) : Nat → List (Nat × Int) → Prop
  | _, [] => True
  | d, p :: ps => p.1 < l.length ∧ d.testBit p.1 = false ∧ Fresh l (d ||| 2 ^ p.1) ps
def dset (d : Nat) (ps : List (Nat × Int)) : Nat := ps.foldl (fun d p => d ||| 2 ^ p.1) d
def lastD (x : Int) (ps : List (Nat × Int)) : Int := ps.foldl (fun _ p => p.2) x
@[simp] theorem dset_nil (d : Nat) : dset d [] = d := rfl
@[simp] theorem dset_cons (d : Nat) (p : Nat × Int) (ps : List (Nat × Int)) : dset d (p :: ps) = dset (d ||| 2 ^ p.1) ps := rfl
@[simp] theorem lastD_nil (x : Int) : lastD x [] = x := rfl
@[simp] theorem lastD_cons (x : Int) (p : Nat × Int) (ps : List (Nat × Int)) : lastD x (p :: ps) = lastD p.2 ps := rfl
theorem dset_app (d : Nat) (ps qs : List (Nat × Int)) : dset d (ps ++ qs) = dset (dset d ps) qs := List.foldl_append
theorem Fresh.app {l : List Sale} : ∀ {ps qs : List (Nat × Int)} {d : Nat}, Fresh l d (ps ++ qs) ↔ Fresh l d ps ∧ Fresh l (dset d ps) qs
  | [], _, _ => by simp [Fresh]
  | p :: ps, qs, d => by
    simp only [List.cons_append, Fresh, dset_cons]
    rw [Fresh.app (ps := ps)]
    exact ⟨fun ⟨a, b, c, e⟩ => ⟨⟨a, b, c⟩, e⟩, fun ⟨⟨a, b, c⟩, e⟩ => ⟨a, b, c, e⟩⟩
theorem Fresh.lt {l : List Sale} : ∀ {ps : List (Nat × Int)} {d : Nat}, d < 2 ^ l.length → Fresh l d ps → dset d ps < 2 ^ l.length
  | [], _, h, _ => h
  | p :: ps, d, h, ⟨a, _, c⟩ => by
    rw [dset_cons]
    exact Fresh.lt (Nat.or_lt_two_pow h (Nat.pow_lt_pow_right (by omega) a)) c
theorem GoP.app {t : Int} {l : List Sale} : ∀ {ps qs : List (Nat × Int)} {d : Nat} {x : Int}, Fresh l d ps → (GoP l (stocksOf t l d) x (ps ++ qs) ↔ GoP l (stocksOf t l d) x ps ∧ GoP l (stocksOf t l (dset d ps)) (lastD x ps) qs)
  | [], _, _, _, _ => by simp [GoP]
  | p :: ps, qs, d, x, ⟨a, b, c⟩ => by
    simp only [List.cons_append, GoP, dset_cons, lastD_cons]
    rw [← stocksOf_or b a, GoP.app (ps := ps) c]
    exact ⟨fun ⟨a, b, c, e, f, g⟩ => ⟨⟨a, b, c, e, f⟩, g⟩, fun ⟨⟨a, b, c, e, f⟩, g⟩ => ⟨a, b, c, e, f, g⟩⟩
theorem GoP.mono {l : List Sale} : ∀ {ps : List (Nat × Int)} {st : Nat → Int} {x : Int}, GoP l st x ps → x ≤ lastD x ps ∧ ∀ p, p ∈ ps → x ≤ p.2 ∧ p.2 ≤ lastD x ps ∧ (saleOf l p.1).lo ≤ p.2 ∧ p.2 ≤ (saleOf l p.1).hi
  | [], _, x, _ => ⟨Int.le_refl _, fun p h => (by cases h)⟩
  | p :: ps, st, x, ⟨_, a, b, c, d⟩ => by
    obtain ⟨h1, h2⟩ := GoP.mono d
    rw [lastD_cons]
    refine ⟨by omega, fun q hq => ?_⟩
    rcases List.mem_cons.1 hq with rfl | hq
    · exact ⟨c, h1, a, b⟩
    · have := h2 q hq
      omega
theorem GoP.low {l : List Sale} {ps : List (Nat × Int)} {st : Nat → Int} {x y : Int} (h : GoP l st x ps) (hy : ∀ p, p ∈ ps → y ≤ p.2) : GoP l st y ps := by
  cases ps with
  | nil => trivial
  | cons p ps => exact ⟨h.1, h.2.1, h.2.2.1, hy p List.mem_cons_self, h.2.2.2.2⟩
theorem saleOf_valid {o t : Int} {l : List Sale} (hv : Valid o t l) {n : Nat} (hn : n < l.length) : 0 ≤ (saleOf l n).src ∧ (saleOf l n).src < o ∧ 0 ≤ (saleOf l n).dst ∧ (saleOf l n).dst < o ∧ (saleOf l n).src ≠ (saleOf l n).dst ∧ 1 ≤ (saleOf l n).many ∧ (saleOf l n).many ≤ 1000 ∧ 0 ≤ (saleOf l n).lo ∧ (saleOf l n).lo ≤ (saleOf l n).hi ∧ (saleOf l n).hi ≤ 100 := by
  have := hv.at_ (List.getElem?_eq_getElem hn)
  rwa [← saleOf_eq (List.getElem?_eq_getElem hn)] at this
/-- A run begins no sooner than the table says. -/
theorem go_early {o t : Int} {l : List Sale} (hv : Valid o t l) : ∀ {ps : List (Nat × Int)} {d : Nat} {x : Int}, d < 2 ^ l.length → Fresh l d ps → GoP l (stocksOf t l d) x ps → early t l d ≤ x → x ≤ 100 → early t l (dset d ps) ≤ lastD x ps ∧ lastD x ps ≤ 100
  | [], _, _, _, _, _, h, h2 => ⟨h, h2⟩
  | p :: ps, d, x, hd, ⟨f1, f2, f3⟩, ⟨g1, g2, g3, g4, g5⟩, h, h2 => by
    have hf := saleOf_valid hv f1
    rw [← stocksOf_or f2 f1] at g5
    have hs := early_step (t := t) (k := p.1) hd (by omega) (by unfold nextB; simp [f1, f2, g1]) (by omega)
    rw [dset_cons, lastD_cons]
    exact go_early hv (ps := ps) (d := d ||| 2 ^ p.1) (Nat.or_lt_two_pow hd (Nat.pow_lt_pow_right (by omega) f1)) f3 g5 (by omega) (by omega)
theorem run_go {t : Int} {l : List Sale} {d' : Nat} {x' : Int} : ∀ (ns : List Nat) (d : Nat) (x : Int), RunTo t l d x ns d' x' → ∃ ps, Fresh l d ps ∧ dset d ps = d' ∧ GoP l (stocksOf t l d) x ps ∧ lastD x ps = x'
  | [], d, x, ⟨h1, h2⟩ => ⟨[], trivial, h1, trivial, h2⟩
  | n :: ns, d, x, ⟨h1, h2, h3⟩ => by
    obtain ⟨hn, hb, hm⟩ := nextB_facts h1
    obtain ⟨ps, a, b, c, e⟩ := run_go ns _ _ h3
    rw [stocksOf_or hb hn] at c
    exact ⟨(n, max x (saleOf l n).lo) :: ps, ⟨hn, hb, a⟩, b, ⟨hm, Int.le_max_right _ _, h2, Int.le_max_left _ _, c⟩, e⟩
/-- The first day of a set is reached. -/
theorem early_go {o t : Int} {l : List Sale} (hv : Valid o t l) {d : Nat} (h : early t l d ≠ 101) : ∃ ps, Fresh l 0 ps ∧ dset 0 ps = d ∧ GoP l (stocksOf t l 0) 0 ps ∧ lastD 0 ps = early t l d := by
  obtain ⟨ns, hns⟩ := early_run hv _ d h
  exact run_go ns 0 0 hns
/-! The table of last days. -/
theorem stepL_other {l : List Sale} {d e k : Nat} (L : Nat → Int) (h : e ≠ d) : stepL l d L k e = L e := by
  unfold stepL
  split
  · unfold upd
    rw [if_neg h]
  · rfl
theorem foldL_other {l : List Sale} {d e : Nat} (h : e ≠ d) : ∀ (ks : List Nat) (L : Nat → Int), (ks.foldl (stepL l d) L) e = L e
  | [], _ => rfl
  | k :: ks, L => (foldL_other h ks _).trans (stepL_other L h)
/-- What one sale says of the last day of d. -/
def lastOf (l : List Sale) (L : Nat → Int) (d k : Nat) : Int := min (L (d ||| 2 ^ k)) (saleOf l k).hi
theorem foldL_spec {l : List Sale} {d : Nat} : ∀ (ks : List Nat), (∀ k, k ∈ ks → d.testBit k = false) → ∀ L : Nat → Int,
    (∀ k, k ∈ ks → (saleOf l k).lo ≤ lastOf l L d k → lastOf l L d k ≤ (ks.foldl (stepL l d) L) d) ∧ L d ≤ (ks.foldl (stepL l d) L) d ∧
    ((ks.foldl (stepL l d) L) d = L d ∨ ∃ k, k ∈ ks ∧ (saleOf l k).lo ≤ lastOf l L d k ∧ (ks.foldl (stepL l d) L) d = lastOf l L d k)
  | [], _, L => ⟨fun k h => (by cases h), Int.le_refl _, .inl rfl⟩
  | j :: ks, hb, L => by
    have hsame : ∀ k, k ∈ ks → lastOf l (stepL l d L j) d k = lastOf l L d k := fun k hk => by
      unfold lastOf
      rw [stepL_other L (by have := or_gt (hb k (List.mem_cons_of_mem _ hk)); omega)]
    obtain ⟨h1, h2, h3⟩ := foldL_spec ks (fun k hk => hb k (List.mem_cons_of_mem _ hk)) (stepL l d L j)
    have hj : stepL l d L j d = if (saleOf l j).lo ≤ lastOf l L d j then max (L d) (lastOf l L d j) else L d := by
      unfold stepL lastOf
      split
      · simp [upd]
      · rfl
    rw [hj] at h2 h3
    rw [List.foldl_cons]
    refine ⟨fun k hk hle => ?_, ?_, ?_⟩
    · rcases List.mem_cons.1 hk with rfl | hk
      · rw [if_pos hle] at h2
        exact Int.le_trans (Int.le_max_right _ _) h2
      · have := h1 k hk
        rw [hsame k hk] at this
        exact this hle
    · split at h2 <;> omega
    · rcases h3 with h3 | ⟨k, hk, h3, h4⟩
      · split at h3
        · rename_i hle
          by_cases hm : L d ≤ lastOf l L d j
          · exact .inr ⟨j, List.mem_cons_self, hle, by omega⟩
          · exact .inl (by omega)
        · exact .inl h3
      · rw [hsame k hk] at h3 h4
        exact .inr ⟨k, List.mem_cons_of_mem _ hk, h3, h4⟩
theorem lateTo_keep (t : Int) (l : List Sale) {e j : Nat} (he : 2 ^ l.length ≤ e + j + 1) : ∀ i, j + i ≤ 2 ^ l.length - 1 → lateTo t l (j + i) e = lateTo t l j e
  | 0, _ => rfl
  | i + 1, h => by
    rw [← lateTo_keep t l he i (by omega)]
    show lateTo t l (j + i + 1) e = _
    conv => lhs; unfold lateTo
    exact foldL_other (by omega) _ _
theorem late_whole (t : Int) (l : List Sale) : late t l (2 ^ l.length - 1) = 101 := by
  have := lateTo_keep t l (e := 2 ^ l.length - 1) (j := 0) (by omega) (2 ^ l.length - 1) (by omega)
  rw [Nat.zero_add] at this
  unfold late
  rw [this]
  simp [lateTo, upd]
theorem lateTo_start (t : Int) (l : List Sale) {e : Nat} : ∀ j, e + j + 1 < 2 ^ l.length → lateTo t l j e = -1
  | 0, h => by
    simp [lateTo, upd]
    omega
  | j + 1, h => by
    conv => lhs; unfold lateTo
    rw [foldL_other (by omega)]
    exact lateTo_start t l j (by omega)
theorem late_spec (t : Int) (l : List Sale) {d : Nat} (hd : d < 2 ^ l.length - 1) :
    (∀ k, nextB t l d k = true → (saleOf l k).lo ≤ lastOf l (late t l) d k → lastOf l (late t l) d k ≤ late t l d) ∧
    (late t l d = -1 ∨ ∃ k, nextB t l d k = true ∧ (saleOf l k).lo ≤ lastOf l (late t l) d k ∧ late t l d = lastOf l (late t l) d k) := by
  have e0 : 2 ^ l.length - 2 - (2 ^ l.length - 2 - d) = d := by omega
  have hl : late t l d = ((nextL t l d).foldl (stepL l d) (lateTo t l (2 ^ l.length - 2 - d))) d := by
    have := lateTo_keep t l (e := d) (j := 2 ^ l.length - 2 - d + 1) (by omega) d (by omega)
    unfold late
    rw [show 2 ^ l.length - 2 - d + 1 + d = 2 ^ l.length - 1 by omega] at this
    rw [this]
    conv => lhs; unfold lateTo
    rw [e0]
  have hsame : ∀ k, d.testBit k = false → lastOf l (lateTo t l (2 ^ l.length - 2 - d)) d k = lastOf l (late t l) d k := fun k hk => by
    unfold lastOf
    have hgt := or_gt hk
    have := lateTo_keep t l (e := d ||| 2 ^ k) (j := 2 ^ l.length - 2 - d) (by omega) (d + 1) (by omega)
    rw [← this]
    unfold late
    rw [show 2 ^ l.length - 2 - d + (d + 1) = 2 ^ l.length - 1 by omega]
  have h0 : lateTo t l (2 ^ l.length - 2 - d) d = -1 := lateTo_start t l _ (by omega)
  obtain ⟨h1, h2, h3⟩ := foldL_spec (l := l) (d := d) (nextL t l d) (next_bits t l d) (lateTo t l (2 ^ l.length - 2 - d))
  rw [← hl] at h1 h2 h3
  refine ⟨fun k hk hle => ?_, ?_⟩
  · obtain ⟨hn, hb, _⟩ := nextB_facts hk
    have := h1 k (List.mem_filter.2 ⟨List.mem_range.2 hn, hk⟩)
    rw [hsame k hb] at this
    exact this hle
  · rcases h3 with h3 | ⟨k, hk, h3, h4⟩
    · exact .inl (h3.trans h0)
    · have hk' := (List.mem_filter.1 hk).2
      rw [hsame k (nextB_facts hk').2.1] at h3 h4
      exact .inr ⟨k, hk', h3, h4⟩
/-- A run to the end begins no later than the table says. -/
theorem go_late {o t : Int} {l : List Sale} (hv : Valid o t l) : ∀ {ps : List (Nat × Int)} {d : Nat} {x : Int}, d < 2 ^ l.length → Fresh l d ps → dset d ps = 2 ^ l.length - 1 → GoP l (stocksOf t l d) x ps → x ≤ 101 → x ≤ late t l d
  | [], d, x, _, _, h, _, h2 => by
    have : d = 2 ^ l.length - 1 := h
    rw [this, late_whole]
    exact h2
  | p :: ps, d, x, hd, ⟨f1, f2, f3⟩, h, ⟨g1, g2, g3, g4, g5⟩, h2 => by
    have hf := saleOf_valid hv f1
    rw [← stocksOf_or f2 f1] at g5
    have hlt := Nat.or_lt_two_pow hd (Nat.pow_lt_pow_right (by omega : 1 < 2) f1)
    have ih := go_late hv hlt f3 h g5 (by omega)
    have hgt := or_gt f2
    have := (late_spec t l (d := d) (by omega)).1 p.1 (by unfold nextB; simp [f1, f2, g1]) (by unfold lastOf; omega)
    unfold lastOf at this
    omega
/-- The last day from a set is reached. -/
theorem late_go {o t : Int} {l : List Sale} (hv : Valid o t l) : ∀ (f d : Nat) (x : Int), d + f = 2 ^ l.length - 1 → 0 ≤ x → x ≤ late t l d → ∃ ps, Fresh l d ps ∧ dset d ps = 2 ^ l.length - 1 ∧ GoP l (stocksOf t l d) x ps
  | 0, d, x, h, _, _ => ⟨[], trivial, h, trivial⟩
  | f + 1, d, x, h, h0, hx => by
    have := Nat.two_pow_pos l.length
    rcases (late_spec t l (d := d) (by omega)).2 with h1 | ⟨k, hk, h1, h2⟩
    · omega
    · obtain ⟨hn, hb, hm⟩ := nextB_facts hk
      have hgt := or_gt hb
      have hlt := Nat.or_lt_two_pow (show d < 2 ^ l.length by omega) (Nat.pow_lt_pow_right (by omega : 1 < 2) hn)
      unfold lastOf at h1 h2
      obtain ⟨ps, a, b, c⟩ := late_go hv (2 ^ l.length - 1 - (d ||| 2 ^ k)) (d ||| 2 ^ k) (late t l d) (by omega) (by omega) (by omega)
      rw [stocksOf_or hb hn] at c
      exact ⟨(k, late t l d) :: ps, ⟨hn, hb, a⟩, b, ⟨hm, by show (saleOf l k).lo ≤ late t l d; omega, by show late t l d ≤ (saleOf l k).hi; omega, hx, c⟩⟩
  termination_by f => f
  decreasing_by omega
end Go.Proofs.Ytfcnombmphophaa
namespace Go.Proofs.Ytfcnombmphophaa
open Go.RowKit Go.Shelf
/-- A truth: all sales, each on a day. -/
structure TruP (t : Int) (l : List Sale) (ps : List (Nat × Int)) : Prop where
  fresh : Fresh l 0 ps
  all : dset 0 ps = 2 ^ l.length - 1
  go : GoP l (stocksOf t l 0) 0 ps
theorem early_zero (t : Int) (l : List Sale) : early t l 0 = 0 := by
  rw [early_at t l (Nat.two_pow_pos _)]
  simp [earlyTo, upd]
theorem fits_tru {o t : Int} {l : List Sale} (hv : Valid o t l) : fitsB t l = true ↔ ∃ ps, TruP t l ps := by
  constructor
  · intro h
    unfold fitsB at h
    obtain ⟨ps, a, b, c, _⟩ := early_go hv (d := 2 ^ l.length - 1) (by simpa using h)
    exact ⟨ps, a, b, c⟩
  · rintro ⟨ps, a, b, c⟩
    have := go_early hv (Nat.two_pow_pos _) a c (by rw [early_zero]; omega) (by omega)
    rw [b] at this
    unfold fitsB
    simp
    omega
/-- A range of all that is right among the first. -/
theorem range_spec {f : Nat → Int × Int} {is : Nat → Bool} {r : Nat → Int × Int} (hstep : ∀ d, f (d + 1) = if is d = true then (min (f d).1 (r d).1, max (f d).2 (r d).2) else f d) {M : Nat} (h0 : ∀ d, d < M → is d = true → (r d).1 ≤ (f 0).1 ∧ (f 0).2 ≤ (r d).2) :
    ∀ N, N ≤ M → (∀ d, d < N → is d = true → (f N).1 ≤ (r d).1 ∧ (r d).2 ≤ (f N).2) ∧
      ((f N = f 0 ∧ ∀ d, d < N → is d = false) ∨ ((∃ d, d < N ∧ is d = true ∧ (f N).1 = (r d).1) ∧ ∃ d, d < N ∧ is d = true ∧ (f N).2 = (r d).2))
  | 0, _ => ⟨fun d h => by omega, .inl ⟨rfl, fun d h => by omega⟩⟩
  | N + 1, hN => by
    obtain ⟨h1, h2⟩ := range_spec hstep h0 N (by omega)
    rw [hstep N]
    by_cases hi : is N = true
    · rw [if_pos hi]
      have hb := h0 N (by omega) hi
      refine ⟨fun d hd hd2 => ?_, .inr ?_⟩
      · by_cases e : d = N
        · subst e
          exact ⟨by show min _ _ ≤ _; omega, by show _ ≤ max _ _; omega⟩
        · have := h1 d (by omega) hd2
          exact ⟨by show min _ _ ≤ _; omega, by show _ ≤ max _ _; omega⟩
      · have hself : N < N + 1 := by omega
        rcases h2 with ⟨h2, _⟩ | ⟨⟨d, a, b, c⟩, d', a', b', c'⟩
        · rw [h2]
          exact ⟨⟨N, hself, hi, by show min _ _ = _; omega⟩, N, hself, hi, by show max _ _ = _; omega⟩
        · constructor
          · by_cases hm : (f N).1 ≤ (r N).1
            · exact ⟨d, by omega, b, by show min _ _ = _; omega⟩
            · exact ⟨N, hself, hi, by show min _ _ = _; omega⟩
          · by_cases hm : (r N).2 ≤ (f N).2
            · exact ⟨d', by omega, b', by show max _ _ = _; omega⟩
            · exact ⟨N, hself, hi, by show max _ _ = _; omega⟩
    · rw [if_neg hi]
      refine ⟨fun d hd hd2 => ?_, ?_⟩
      · by_cases e : d = N
        · rw [e] at hd2
          exact absurd hd2 hi
        · exact h1 d (by omega) hd2
      rcases h2 with ⟨a, b⟩ | ⟨⟨d, a, b, c⟩, d', a', b', c'⟩
      · refine .inl ⟨a, fun d hd => ?_⟩
        by_cases e : d = N
        · rw [e]; simpa using hi
        · exact b d (by omega)
      · exact .inr ⟨⟨d, by omega, b, c⟩, d', by omega, b', c'⟩
/-- The sales that are done on the evening of a day. -/
def eveSet (ps : List (Nat × Int)) (day : Int) : Nat := dset 0 (ps.filter fun p => decide (p.2 ≤ day))
theorem lastD_le {y : Int} : ∀ {ps : List (Nat × Int)} {x : Int}, x ≤ y → (∀ p, p ∈ ps → p.2 ≤ y) → lastD x ps ≤ y
  | [], _, h, _ => h
  | p :: ps, x, _, h2 => by
    rw [lastD_cons]
    exact lastD_le (h2 p List.mem_cons_self) fun q hq => h2 q (List.mem_cons_of_mem _ hq)
theorem go_split {l : List Sale} (day : Int) : ∀ {ps : List (Nat × Int)} {st : Nat → Int} {x : Int}, GoP l st x ps → ∃ pre post, ps = pre ++ post ∧ (∀ p, p ∈ pre → p.2 ≤ day) ∧ ∀ p, p ∈ post → day < p.2
  | [], _, _, _ => ⟨[], [], rfl, fun p h => (by cases h), fun p h => (by cases h)⟩
  | p :: ps, st, x, ⟨_, _, _, _, h⟩ => by
    by_cases e : p.2 ≤ day
    · obtain ⟨a, b, c, d, f⟩ := go_split day h
      refine ⟨p :: a, b, by rw [c]; rfl, fun q hq => ?_, f⟩
      rcases List.mem_cons.1 hq with rfl | hq
      · exact e
      · exact d q hq
    · refine ⟨[], p :: ps, rfl, fun q hq => (by cases hq), fun q hq => ?_⟩
      rcases List.mem_cons.1 hq with rfl | hq
      · omega
      · have := (GoP.mono h).2 q hq
        omega
theorem eve_pre {pre post : List (Nat × Int)} {day : Int} (h1 : ∀ p, p ∈ pre → p.2 ≤ day) (h2 : ∀ p, p ∈ post → day < p.2) : eveSet (pre ++ post) day = dset 0 pre := by
  unfold eveSet
  rw [List.filter_append, List.filter_eq_self.2 (fun p hp => by simpa using h1 p hp), List.filter_eq_nil_iff.2 (fun p hp => by have := h2 p hp; simp; omega), List.append_nil]
theorem eve_tru {o t : Int} {l : List Sale} (hv : Valid o t l) {d : Nat} {day : Int} (hd : d < 2 ^ l.length) (h0 : 0 ≤ day) (h1 : day ≤ 100) (h : eveB t l d day = true) : ∃ ps, TruP t l ps ∧ eveSet ps day = d := by
  unfold eveB at h
  rw [Bool.and_eq_true, decide_eq_true_eq, decide_eq_true_eq] at h
  obtain ⟨ps, a, b, c, e⟩ := early_go hv (d := d) (by omega)
  obtain ⟨qs, a2, b2, c2⟩ := late_go hv (2 ^ l.length - 1 - d) d (day + 1) (by omega) (by omega) (by omega)
  refine ⟨ps ++ qs, ⟨Fresh.app.2 ⟨a, by rw [b]; exact a2⟩, by rw [dset_app, b]; exact b2, (GoP.app a).2 ⟨c, ?_⟩⟩, ?_⟩
  · rw [b, e]
    exact c2.low fun p hp => by have := (GoP.mono c2).2 p hp; omega
  · rw [eve_pre (fun p hp => by have := (GoP.mono c).2 p hp; omega) (fun p hp => by have := (GoP.mono c2).2 p hp; omega), b]
theorem tru_eve {o t : Int} {l : List Sale} (hv : Valid o t l) {ps : List (Nat × Int)} (h : TruP t l ps) {day : Int} (h0 : 0 ≤ day) (h1 : day ≤ 100) : eveSet ps day < 2 ^ l.length ∧ eveB t l (eveSet ps day) day = true := by
  obtain ⟨pre, post, rfl, p1, p2⟩ := go_split day h.go
  rw [eve_pre p1 p2]
  obtain ⟨f1, f2⟩ := Fresh.app.1 h.fresh
  obtain ⟨g1, g2⟩ := (GoP.app f1).1 h.go
  have hall := h.all
  rw [dset_app] at hall
  have hd := Fresh.lt (Nat.two_pow_pos _) f1
  obtain ⟨e1, e2⟩ := go_early hv (Nat.two_pow_pos _) f1 g1 (by rw [early_zero]; omega) (by omega)
  have e3 := lastD_le (ps := pre) h0 p1
  have hl := go_late hv hd f2 hall (g2.low (y := day + 1) fun p hp => by have := p2 p hp; omega) (by omega)
  refine ⟨hd, ?_⟩
  unfold eveB
  simp
  omega
/-! What there is stays the same, and nobody has less than nothing. -/
def sumTo (st : Nat → Int) : Nat → Int
  | 0 => 0
  | n + 1 => sumTo st n + st n
theorem sumTo_upd (st : Nat → Int) (i : Nat) (v : Int) : ∀ n, sumTo (upd st i v) n = sumTo st n + if i < n then v - st i else 0
  | 0 => by simp [sumTo]
  | n + 1 => by
    unfold sumTo
    rw [sumTo_upd st i v n]
    unfold upd
    by_cases h : n = i
    · subst h
      simp
      omega
    · rw [if_neg h]
      by_cases h2 : i < n
      · rw [if_pos h2, if_pos (by omega)]
        omega
      · rw [if_neg h2, if_neg (by omega)]
        omega
theorem sumTo_sold {st : Nat → Int} {s : Sale} {n : Nat} (h1 : s.src.toNat < n) (h2 : s.dst.toNat < n) : sumTo (sold st s) n = sumTo st n := by
  unfold sold
  rw [sumTo_upd, sumTo_upd, if_pos h1, if_pos h2]
  omega
theorem sumTo_le {st : Nat → Int} : ∀ {n : Nat}, (∀ i, i < n → 0 ≤ st i) → 0 ≤ sumTo st n ∧ ∀ i, i < n → st i ≤ sumTo st n
  | 0, _ => ⟨Int.le_refl _, fun i h => by omega⟩
  | n + 1, h => by
    obtain ⟨a, b⟩ := sumTo_le (fun i hi => h i (by omega) : ∀ i, i < n → 0 ≤ st i)
    have hn := h n (by omega)
    unfold sumTo
    refine ⟨by omega, fun i hi => ?_⟩
    by_cases e : i = n
    · subst e; omega
    · have := b i (by omega)
      omega
/-- Stocks that there can be. -/
structure Fair (o t : Int) (st : Nat → Int) : Prop where
  pos : ∀ i, 0 ≤ st i
  sum : sumTo st o.toNat = t
theorem Fair.sold {o t : Int} {st : Nat → Int} {s : Sale} (h : Fair o t st) (h1 : 0 ≤ s.src ∧ s.src < o) (h2 : 0 ≤ s.dst ∧ s.dst < o) (h3 : s.src ≠ s.dst) (hm : 0 ≤ s.many) (hle : s.many ≤ st s.src.toNat) : Fair o t (sold st s) := by
  refine ⟨fun i => ?_, by rw [sumTo_sold (by omega) (by omega), h.sum]⟩
  have a := h.pos i
  have b := h.pos s.dst.toNat
  have hne : s.dst.toNat ≠ s.src.toNat := by omega
  unfold Ytfcnombmphophaa.sold upd
  rw [if_neg hne]
  split
  · omega
  · split <;> omega
theorem Fair.le {o t : Int} {st : Nat → Int} (h : Fair o t st) {i : Nat} (hi : i < o.toNat) : st i ≤ t := by
  have := (sumTo_le fun i _ => h.pos i : 0 ≤ sumTo st o.toNat ∧ _).2 i hi
  rwa [h.sum] at this
theorem fair_begun {o t : Int} {l : List Sale} (hv : Valid o t l) : Fair o t (stocksOf t l 0) := by
  have e : stocksOf t l 0 = upd (fun _ => 0) 0 t := stocksTo_zero _
  have h1 := hv.o1
  have h2 := hv.t0
  have z : ∀ n, sumTo (fun _ => 0) n = 0 := fun n => by
    induction n with
    | zero => rfl
    | succ n ih => simp [sumTo, ih]
  rw [e]
  refine ⟨fun i => ?_, ?_⟩
  · unfold upd
    split
    · exact h2
    · exact Int.le_refl _
  rw [sumTo_upd, z, if_pos (by omega)]
  omega
theorem fair_go {o t : Int} {l : List Sale} (hv : Valid o t l) : ∀ {ps : List (Nat × Int)} {d : Nat} {x : Int}, Fresh l d ps → GoP l (stocksOf t l d) x ps → Fair o t (stocksOf t l d) → Fair o t (stocksOf t l (dset d ps))
  | [], _, _, _, _, h => h
  | p :: ps, d, x, ⟨f1, f2, f3⟩, ⟨g1, g2, g3, g4, g5⟩, h => by
    have hf := saleOf_valid hv f1
    rw [dset_cons]
    rw [← stocksOf_or f2 f1] at g5
    refine fair_go hv f3 g5 ?_
    rw [stocksOf_or f2 f1]
    exact h.sold ⟨hf.1, hf.2.1⟩ ⟨hf.2.2.1, hf.2.2.2.1⟩ hf.2.2.2.2.1 (by omega) g1
theorem fair_early {o t : Int} {l : List Sale} (hv : Valid o t l) {d : Nat} (h : early t l d ≠ 101) : Fair o t (stocksOf t l d) := by
  obtain ⟨ps, a, b, c, _⟩ := early_go hv h
  rw [← b]
  exact fair_go hv a c (fair_begun hv)
/-- What Holds says. -/
theorem holds_sem {o t : Int} {l : List Sale} (hv : Valid o t l) (hf : fitsB t l = true) {ow : Nat} (ho : (ow : Int) < o) {day : Int} (h0 : 0 ≤ day) (h1 : day ≤ 100) :
    (∀ ps, TruP t l ps → (holdsR t l ow day).1 ≤ stocksOf t l (eveSet ps day) ow ∧ stocksOf t l (eveSet ps day) ow ≤ (holdsR t l ow day).2) ∧
    (∃ ps, TruP t l ps ∧ (holdsR t l ow day).1 = stocksOf t l (eveSet ps day) ow) ∧ ∃ ps, TruP t l ps ∧ (holdsR t l ow day).2 = stocksOf t l (eveSet ps day) ow := by
  have ht := hv.t1
  obtain ⟨k1, k2⟩ := range_spec (f := holdsTo t l ow day) (is := fun d => eveB t l d day) (r := fun d => (stocksOf t l d ow, stocksOf t l d ow)) (fun d => rfl) (M := 2 ^ l.length) (fun d _ h => by
    unfold eveB at h
    rw [Bool.and_eq_true, decide_eq_true_eq, decide_eq_true_eq] at h
    have hfa := fair_early hv (d := d) (by omega)
    have a := hfa.pos ow
    have b := hfa.le (i := ow) (by omega)
    exact ⟨by show _ ≤ (1001 : Int); simp only; omega, by show (-1 : Int) ≤ _; simp only; omega⟩) (2 ^ l.length) (Nat.le_refl _)
  refine ⟨fun ps hp => ?_, ?_⟩
  · obtain ⟨a, b⟩ := tru_eve hv hp h0 h1
    exact k1 _ a b
  · rcases k2 with ⟨_, k2⟩ | ⟨⟨d, a, b, c⟩, d', a', b', c'⟩
    · exfalso
      obtain ⟨ps, hp⟩ := (fits_tru hv).1 hf
      obtain ⟨a, b⟩ := tru_eve hv hp h0 h1
      rw [k2 _ a] at b
      cases b
    · obtain ⟨ps, hp, he⟩ := eve_tru hv a h0 h1 b
      obtain ⟨qs, hq, he'⟩ := eve_tru hv a' h0 h1 b'
      exact ⟨⟨ps, hp, by rw [he]; exact c⟩, qs, hq, by rw [he']; exact c'⟩
end Go.Proofs.Ytfcnombmphophaa
namespace Go.Proofs.Ytfcnombmphophaa
open Go.RowKit Go.Shelf
/-- What all have behind some sales. -/
def afterS (l : List Sale) (st : Nat → Int) (ps : List (Nat × Int)) : Nat → Int := ps.foldl (fun st p => sold st (saleOf l p.1)) st
theorem after_set {t : Int} {l : List Sale} : ∀ {ps : List (Nat × Int)} {d : Nat}, Fresh l d ps → stocksOf t l (dset d ps) = afterS l (stocksOf t l d) ps
  | [], _, _ => rfl
  | p :: ps, d, ⟨f1, f2, f3⟩ => by
    rw [dset_cons, after_set f3, stocksOf_or f2 f1]
    rfl
theorem Fresh.sub {l : List Sale} (P : Nat × Int → Bool) : ∀ {ps : List (Nat × Int)} {d d' : Nat}, (∀ k, d.testBit k = false → d'.testBit k = false) → Fresh l d ps → Fresh l d' (ps.filter P)
  | [], _, _, _, _ => trivial
  | p :: ps, d, d', h, ⟨f1, f2, f3⟩ => by
    rw [List.filter_cons]
    split
    · refine ⟨f1, h _ f2, Fresh.sub P (fun k hk => ?_) f3⟩
      rw [Nat.testBit_or] at hk ⊢
      simp only [Bool.or_eq_false_iff] at hk ⊢
      exact ⟨h k hk.1, hk.2⟩
    · refine Fresh.sub P (fun k hk => ?_) f3
      rw [Nat.testBit_or] at hk
      simp only [Bool.or_eq_false_iff] at hk
      exact h k hk.1
/-- What all have on the evening of a day. -/
def eveOf (t : Int) (l : List Sale) (ps : List (Nat × Int)) (day : Int) : Nat → Int := afterS l (upd (fun _ => 0) 0 t) (ps.filter fun p => decide (p.2 ≤ day))
theorem stocks_zero (t : Int) (l : List Sale) : stocksOf t l 0 = upd (fun _ => 0) 0 t := stocksTo_zero _
theorem eve_of {t : Int} {l : List Sale} {ps : List (Nat × Int)} (h : TruP t l ps) (day : Int) : stocksOf t l (eveSet ps day) = eveOf t l ps day := by
  unfold eveSet eveOf
  rw [after_set (h.fresh.sub _ fun _ h => h), stocks_zero]
theorem dset_bit (k : Nat) : ∀ (ps : List (Nat × Int)) (d : Nat), (dset d ps).testBit k = (d.testBit k || decide (k ∈ ps.map (·.1)))
  | [], d => by simp
  | p :: ps, d => by
    rw [dset_cons, dset_bit k ps, Nat.testBit_or, List.map_cons]
    by_cases e : p.1 = k
    · subst e
      simp
    · rw [Nat.testBit_two_pow_of_ne e, Bool.or_false]
      have : (k == p.1) = false := by simpa using fun h : k = p.1 => e h.symm
      simp [this]
theorem fresh_iff {l : List Sale} : ∀ {ps : List (Nat × Int)} {d : Nat}, Fresh l d ps ↔ (ps.map (·.1)).Nodup ∧ ∀ k, k ∈ ps.map (·.1) → k < l.length ∧ d.testBit k = false
  | [], d => by simp [Fresh]
  | p :: ps, d => by
    unfold Fresh
    rw [fresh_iff, List.map_cons, List.nodup_cons]
    constructor
    · rintro ⟨h1, h2, h3, h4⟩
      refine ⟨⟨fun hm => ?_, h3⟩, fun k hk => ?_⟩
      · have := (h4 _ hm).2
        rw [Nat.testBit_or, Nat.testBit_two_pow_self] at this
        simp at this
      · rcases List.mem_cons.1 hk with rfl | hk
        · exact ⟨h1, h2⟩
        · have := h4 k hk
          rw [Nat.testBit_or] at this
          simp only [Bool.or_eq_false_iff] at this
          exact ⟨this.1, this.2.1⟩
    · rintro ⟨⟨h1, h2⟩, h3⟩
      refine ⟨(h3 _ List.mem_cons_self).1, (h3 _ List.mem_cons_self).2, h2, fun k hk => ?_⟩
      have := h3 k (List.mem_cons_of_mem _ hk)
      refine ⟨this.1, ?_⟩
      rw [Nat.testBit_or, this.2, Nat.testBit_two_pow_of_ne (fun e => h1 (by rw [e]; exact hk))]
      rfl
theorem tru_iff {t : Int} {l : List Sale} {ps : List (Nat × Int)} : TruP t l ps ↔ (ps.map (·.1)).Perm (List.range l.length) ∧ GoP l (upd (fun _ => 0) 0 t) 0 ps := by
  constructor
  · rintro ⟨a, b, c⟩
    rw [stocks_zero] at c
    obtain ⟨h1, h2⟩ := fresh_iff.1 a
    refine ⟨(List.perm_ext_iff_of_nodup h1 List.nodup_range).2 fun k => ?_, c⟩
    rw [List.mem_range]
    refine ⟨fun h => (h2 k h).1, fun h => ?_⟩
    have hb : (dset 0 ps).testBit k = true := by
      rw [b, Nat.testBit_two_pow_sub_one]
      simpa using h
    rw [dset_bit] at hb
    simpa using hb
  · rintro ⟨a, c⟩
    have hf : Fresh l 0 ps := fresh_iff.2 ⟨a.nodup_iff.2 List.nodup_range, fun k hk => ⟨List.mem_range.1 (a.mem_iff.1 hk), by simp⟩⟩
    refine ⟨hf, ?_, by rw [stocks_zero]; exact c⟩
    apply Nat.eq_of_testBit_eq
    intro k
    rw [dset_bit, Nat.testBit_two_pow_sub_one, Nat.zero_testBit, Bool.false_or, decide_eq_decide, a.mem_iff, List.mem_range]
def EveIn (t : Int) (l : List Sale) (ow : Nat) (day y : Int) : Prop := ∃ ps, TruP t l ps ∧ eveOf t l ps day ow = y
theorem holds_in {o t : Int} {l : List Sale} (hv : Valid o t l) (hf : fitsB t l = true) {ow : Nat} (ho : (ow : Int) < o) {day : Int} (h0 : 0 ≤ day) (h1 : day ≤ 100) : (∀ y, EveIn t l ow day y → (holdsR t l ow day).1 ≤ y ∧ y ≤ (holdsR t l ow day).2) ∧ EveIn t l ow day (holdsR t l ow day).1 ∧ EveIn t l ow day (holdsR t l ow day).2 := by
  obtain ⟨a, ⟨ps, b1, b2⟩, qs, c1, c2⟩ := holds_sem hv hf ho h0 h1
  refine ⟨fun y ⟨ps, h1, h2⟩ => ?_, ⟨ps, b1, ?_⟩, qs, c1, ?_⟩
  · have := a ps h1
    rw [eve_of h1, h2] at this
    exact this
  · rw [← eve_of b1, b2]
  · rw [← eve_of c1, c2]
end Go.Proofs.Ytfcnombmphophaa
namespace Go.Proofs.Ytfcnombmphophaa
open Go.RowKit Go.Shelf
theorem tru_mem {t : Int} {l : List Sale} {ps : List (Nat × Int)} (h : TruP t l ps) {p : Nat × Int} (hp : p ∈ ps) : p.1 < l.length ∧ (saleOf l p.1).lo ≤ p.2 ∧ p.2 ≤ (saleOf l p.1).hi ∧ 0 ≤ p.2 := by
  obtain ⟨h1, _⟩ := tru_iff.1 h
  have h2 := (GoP.mono h.go).2 p hp
  exact ⟨List.mem_range.1 (h1.mem_iff.1 (List.mem_map.2 ⟨p, hp, rfl⟩)), h2.2.2.1, h2.2.2.2, h2.1⟩
/-! Sooner. -/
/-! Wider. -/
/-- A batch that gives way to each truth of another one. -/
structure WiderB (t : Int) (l : List Sale) (t' : Int) (l' : List Sale) : Prop where
  len : l'.length = l.length
  tot : t ≤ t'
  at_ : ∀ k, (saleOf l' k).src = (saleOf l k).src ∧ (saleOf l' k).dst = (saleOf l k).dst ∧ (saleOf l' k).many = (saleOf l k).many ∧ (saleOf l' k).lo ≤ (saleOf l k).lo ∧ (saleOf l k).hi ≤ (saleOf l' k).hi
/-! Later. -/
def later (n : Int) (s : Sale) : Sale := ⟨s.src, s.dst, s.many, s.lo + n, s.hi + n⟩
end Go.Proofs.Ytfcnombmphophaa
namespace Go.Proofs.Ytfcnombmphophaa
open Go.RowKit Go.Shelf
/-- A list of sales and a set of them, as one. -/
structure Same (t : Int) (l : List Sale) (pre : List Int) (d : Nat) : Prop where
  bits : ∀ m : Nat, d.testBit m = hasI pre m
  st : ∀ i : Nat, stocksOf t l d i = stockR t l pre i
  lt : d < 2 ^ l.length
  cnt : cnt d l.length = pre.length
theorem Same.zero (t : Int) (l : List Sale) : Same t l [] 0 := by
  refine ⟨fun m => by simp [hasI], fun i => ?_, Nat.two_pow_pos _, cnt_zero _⟩
  unfold stocksOf
  rw [stocksTo_zero]
  unfold stockR upd
  simp
theorem Same.snoc {o t : Int} {l : List Sale} (hv : Valid o t l) {pre : List Int} {d n : Nat} (h : Same t l pre d) (hn : n < l.length) (hb : d.testBit n = false) : Same t l (pre ++ [(n : Int)]) (d ||| 2 ^ n) := by
  have hf := hv.at_ (List.getElem?_eq_getElem hn)
  rw [← saleOf_eq (List.getElem?_eq_getElem hn)] at hf
  refine ⟨fun m => ?_, fun i => ?_, Nat.or_lt_two_pow h.lt (Nat.pow_lt_pow_right (by omega) hn), ?_⟩
  · rw [hasI_app, Nat.testBit_or, h.bits m]
    congr 1
    by_cases e : n = m
    · subst e
      simp
    · rw [Nat.testBit_two_pow_of_ne e]
      symm
      simp
      omega
  · rw [stocksOf_or hb hn, stockR_app]
    exact sold_step hn hf.1 hf.2.2.1 hf.2.2.2.2.1 (h.st i)
  · rw [cnt_or hb, if_pos hn, h.cnt]
    simp
theorem cnt_le (d : Nat) : ∀ n, cnt d n ≤ n
  | 0 => Nat.le_refl _
  | n + 1 => by
    have := cnt_le d n
    unfold cnt
    split <;> omega
theorem cnt_full {d : Nat} : ∀ n, cnt d n = n → ∀ m, m < n → d.testBit m = true
  | 0, _, _, h => by omega
  | n + 1, h, m, hm => by
    have hle := cnt_le d n
    unfold cnt at h
    split at h
    · rename_i hb
      by_cases e : m = n
      · rw [e]; exact hb
      · exact cnt_full n (by omega) m (by omega)
    · omega
end Go.Proofs.Ytfcnombmphophaa
namespace Go.Proofs.Ytfcnombmphophaa
open Go.RowKit Go.Shelf
end Go.Proofs.Ytfcnombmphophaa
namespace Go.Proofs.Ytfcnombmphophaa
open Go.RowKit Go.Shelf
end Go.Proofs.Ytfcnombmphophaa
namespace Go.Proofs.Ytfcnombmphophaa
open Go.RowKit Go.Shelf
end Go.Proofs.Ytfcnombmphophaa
namespace Go.Proofs.Ytfcnombmphophaa
open Go.RowKit Go.Shelf
end Go.Proofs.Ytfcnombmphophaa
namespace Go.Proofs.Ytfcnombmphophaa
open Go.RowKit Go.Shelf
theorem OpW.conv {P : Program} {p : Value → World → Prop} {d : Nat} {a : Act} {w : World} {ty : TypeId} {pos : String} {aft : Array Edge} {gd : Option (Nat × Bool)} {v : Value} {s t : TypeId} {x : Operand} {u : Value} (hx : a.eval x = u) (hv : (convert s t u).run P w = .ok v w) (hp : p v w) :
    OpW P p ⟨some d, .convert s t x, ty, pos, aft, gd⟩ d a w := OpW.val rfl (by simp [execOp, hx, hv]) hp (Below.refl _ _)
theorem OpW.imp {P : Program} {p : Value → World → Prop} {d : Nat} {a : Act} {w : World} {o : Oper} {c : Prop} (h : OpW P p o d a w) : OpW P (fun v w => c → p v w) o d a w := by
  unfold OpW at *
  refine Oper.wp_mono (fun a' w' hh => ?_) h
  obtain ⟨v, h1, h2, h3⟩ := hh
  exact ⟨v, h1, fun _ => h2, h3⟩
theorem StableW.imp {p : Value → World → Prop} {c : Prop} (h : StableW p) : StableW (fun v w => c → p v w) := fun v w w' h1 h2 hc => h v w w' (h1 hc) h2
theorem eql46T {x y : Operand} (a b : Int) (w : World) : (do eqGuard .eql 46 x y (.agg #[.int .i64 a, .int .i64 b]) (.agg #[.int .i64 a, .int .i64 b]); binOp .eql 46 (.agg #[.int .i64 a, .int .i64 b]) (.agg #[.int .i64 a, .int .i64 b]) : Sem Value).run Try.prog w = .ok (.bool true) w := by
  go_simp
theorem neq46S {x y : Operand} {a b c d : Int} (h1 : a = c) (h2 : b = d) (w : World) : (do eqGuard .neq 46 x y (.agg #[.int .i64 a, .int .i64 b]) (.agg #[.int .i64 c, .int .i64 d]); binOp .neq 46 (.agg #[.int .i64 a, .int .i64 b]) (.agg #[.int .i64 c, .int .i64 d]) : Sem Value).run Try.prog w = .ok (.bool false) w := by
  subst h1
  subst h2
  go_simp
theorem nqT {x y : Operand} {m n : Int} (h : m ≠ n) (w : World) : (do eqGuard .neq 27 x y (.int .i64 m) (.int .i64 n); binOp .neq 27 (.int .i64 m) (.int .i64 n) : Sem Value).run Try.prog w = .ok (.bool true) w := by
  rw [neq27]
  simp [h]
theorem nqF {x y : Operand} {m n : Int} (h : m = n) (w : World) : (do eqGuard .neq 27 x y (.int .i64 m) (.int .i64 n); binOp .neq 27 (.int .i64 m) (.int .i64 n) : Sem Value).run Try.prog w = .ok (.bool false) w := by
  rw [neq27]
  simp [h]
theorem triedE_valid {o t : Int} {l : List Sale} (hv : Valid o t l) : triedE o t l true = if fitsB t l = true then 0 else 9 := by
  unfold triedE
  rw [hv.fault]
  cases fitsB t l <;> simp
theorem holdsE_valid {o t : Int} {l : List Sale} (hv : Valid o t l) {ow day : Int} (h1 : 0 ≤ ow) (h2 : ow < o) (h3 : 0 ≤ day) (h4 : day ≤ 100) : holdsE o t l ow day = if fitsB t l = true then 0 else 9 := by
  have h : holdsOk o ow day = true := by
    unfold holdsOk
    have e : IntKind.i64.wrap (o - 1) = o - 1 := by
      have a := hv.o1
      have b := hv.o6
      rw [IntKind.wrap_i64]
      omega
    rw [e, inR_iff.2 ⟨h1, by omega⟩, inR_iff.2 ⟨h3, h4⟩]
    rfl
  unfold holdsE
  rw [h]
  exact triedE_valid hv
theorem holdsV_valid {o t : Int} {l : List Sale} (hv : Valid o t l) {ow day : Int} (h1 : 0 ≤ ow) (h2 : ow < o) (h3 : 0 ≤ day) (h4 : day ≤ 100) : holdsV o t l ow day = if fitsB t l = true then holdsR t l ow.toNat day else (0, 0) := by
  unfold holdsV
  rw [holdsE_valid hv h1 h2 h3 h4]
  cases fitsB t l <;> simp
end Go.Proofs.Ytfcnombmphophaa
namespace Go.Proofs.Ytfcnombmphophaa
open Go.RowKit Go.Shelf
noncomputable def opsEv0 : Array Oper := (Try.f34.body.bind (regionOf 0)).getD #[]
noncomputable def opsEv1 : Array Oper := (Try.f34.body.bind (regionOf 1)).getD #[]
noncomputable def opsEv2 : Array Oper := (Try.f34.body.bind (regionOf 2)).getD #[]
noncomputable def opsEv3 : Array Oper := (Try.f34.body.bind (regionOf 3)).getD #[]
noncomputable def opsEv4 : Array Oper := (Try.f34.body.bind (regionOf 4)).getD #[]
noncomputable def opsEv5 : Array Oper := (Try.f34.body.bind (regionOf 5)).getD #[]
noncomputable def opsEv6 : Array Oper := (Try.f34.body.bind (regionOf 6)).getD #[]
noncomputable def opsEv7 : Array Oper := (Try.f34.body.bind (regionOf 7)).getD #[]
noncomputable def code34 : Code := (.seq (.region 0 opsEv0 false) (.seq (.region 1 opsEv1 false) (.seq (.seq (.region 2 opsEv2 false) (.block 0 (.loop (.seq (.seq (.region 3 opsEv3 false) (.cond (.tmp 14) .skip (.exit 0))) (.seq (.block 1 (.seq (.region 5 opsEv5 false) (.cond (.tmp 22) (.region 6 opsEv6 false) .skip))) (.region 4 opsEv4 false)))))) (.seq (.region 7 opsEv7 false) .ret))))
theorem body34 : Try.f34.body = some code34 := by kernel_rfl
/-- The sales that are done on the evening of a day. -/
def eveL (ds : List Int) (on : Int) : Nat → List Int
  | 0 => []
  | k + 1 => if (ds[k]?).getD 0 ≤ on then eveL ds on k ++ [(k : Int)] else eveL ds on k
theorem eveL_length (ds : List Int) (on : Int) : ∀ k, (eveL ds on k).length ≤ k
  | 0 => Nat.le_refl _
  | k + 1 => by
    have := eveL_length ds on k
    unfold eveL
    split
    · simp; omega
    · omega
theorem eveL_mem (ds : List Int) (on : Int) : ∀ k d, d ∈ eveL ds on k → 0 ≤ d ∧ d < k
  | 0, d, h => by simp [eveL] at h
  | k + 1, d, h => by
    unfold eveL at h
    split at h
    · rcases List.mem_append.1 h with h | h
      · have := eveL_mem ds on k d h
        omega
      · simp at h
        omega
    · have := eveL_mem ds on k d h
      omega
set_option maxHeartbeats 1000000 in
theorem evening_any2 (o t ow on : Int) (A A1 : Option Addr) (l : List Sale) (ds : List Int) (c c1 : Nat) (W : World) (hl : l.length ≤ 12) (hd : ds.length ≤ l.length) (ht0 : 0 ≤ t) (ht : t ≤ 1000) (hm : ∀ s, s ∈ l → 0 ≤ s.many ∧ s.many ≤ 1000) (hs : SalesAt W W.heap.size A l) (h1 : IntsAt W W.heap.size A1 ds) :
    Calls Try.prog 34 #[.agg #[.int .i64 o, .int .i64 t, .slice A l.length c], .slice A1 ds.length c1, .int .i64 ow, .int .i64 on] W fun e w' => e = .returned (.int .i64 (stockR t l (eveL ds on ds.length) ow)) ∧ Below W.heap.size W w' := by
  refine (callsIn_wide (n := 5)).1 (callsIn_of_wp Try.func34 body34 trivial ?_ rfl)
  obtain ⟨a, ha⟩ : ∃ a : Act, a = { tmps := #[.agg #[.int .i64 o, .int .i64 t, .slice A l.length c], .slice A1 ds.length c1, .int .i64 ow, .int .i64 on] ++ Array.replicate (Try.f34.ntmps - (#[.agg #[.int .i64 o, .int .i64 t, .slice A l.length c], .slice A1 ds.length c1, .int .i64 ow, .int .i64 on] : Array Value).size) undef, defers := [] } := ⟨_, rfl⟩
  have hsz : a.tmps.size = 31 := by rw [ha]; simp [Try.ntmps34]
  have t0 : a.eval (.tmp 0) = .agg #[.int .i64 o, .int .i64 t, .slice A l.length c] := by rw [ha]; simp [Act.eval]
  have t1 : a.eval (.tmp 1) = .slice A1 ds.length c1 := by rw [ha]; simp [Act.eval]
  have t2 : a.eval (.tmp 2) = .int .i64 ow := by rw [ha]; simp [Act.eval]
  have t3 : a.eval (.tmp 3) = .int .i64 on := by rw [ha]; simp [Act.eval]
  have hdf : a.defers = [] := by rw [ha]
  rw [← ha]
  clear ha
  have hs0 := hs
  have h10 := h1
  unfold code34
  refine wpIn_seq (region_p 2 ?_)
  intro K hK
  refine ListK.box (i := 0) (u := .agg #[.int .i64 o, .int .i64 t, .slice A l.length c]) rfl (by simp [t0]) (bx24 W _ _ _ _ _) ?_
  refine ListK.assign (i := 1) (v := .int .i64 0) rfl (by simp) ?_
  refine ListK.done (hK _ _ ?_)
  clear hK K
  have wb := Whole.new W 24 #[.int .i64 o, .int .i64 t, .slice A l.length c]
  have hB1 : Below W.heap.size W (W.alloc (.cells #[.int .i64 o, .int .i64 t, .slice A l.length c] 24)) := (Below.refl _ W).alloc (Nat.le_refl _) _
  have hS1 := hB1.size
  have hlt : W.heap.size < (W.alloc (.cells #[.int .i64 o, .int .i64 t, .slice A l.length c] 24)).heap.size := by simp
  generalize hb3 : W.heap.size = b3 at *
  generalize W.alloc (.cells #[.int .i64 o, .int .i64 t, .slice A l.length c] 24) = W1 at *
  replace hs : SalesAt W1 W1.heap.size A l := (hs.below hB1 (Nat.le_refl _)).more hS1
  generalize hA : Act.put _ _ _ = a1
  have hz_a1 : a1.tmps.size = 31 := by rw [← hA]; simp only [size_put, hsz]
  have u1 : a1.eval (.tmp 1) = .slice A1 ds.length c1 := by rw [← hA]; exact (by simp [t1])
  have u2 : a1.eval (.tmp 2) = .int .i64 ow := by rw [← hA]; exact (by simp [t2])
  have u3 : a1.eval (.tmp 3) = .int .i64 on := by rw [← hA]; exact (by simp [t3])
  have u4 : a1.eval (.tmp 4) = .pointer (some ⟨b3, 0, none⟩) := by rw [← hA]; exact (by simp [hsz])
  have hd_a1 : a1.defers = [] := by rw [← hA]; simp only [defers_put, hdf]
  clear hA
  refine wpIn_seq (region_p 1 ?_)
  intro K hK
  refine ListK.assign (i := 0) (v := .slice none 0 0) rfl (by simp) ?_
  refine ListK.done (hK _ _ ?_)
  clear hK K
  generalize hA : Act.put _ _ _ = a2
  have hz_a2 : a2.tmps.size = 31 := by rw [← hA]; simp only [size_put, hz_a1]
  have v1 : a2.eval (.tmp 1) = .slice A1 ds.length c1 := by rw [← hA]; exact (by simp [u1])
  have v2 : a2.eval (.tmp 2) = .int .i64 ow := by rw [← hA]; exact (by simp [u2])
  have v3 : a2.eval (.tmp 3) = .int .i64 on := by rw [← hA]; exact (by simp [u3])
  have v4 : a2.eval (.tmp 4) = .pointer (some ⟨b3, 0, none⟩) := by rw [← hA]; exact (by simp [u4])
  have v9 : a2.eval (.tmp 9) = .slice none 0 0 := by rw [← hA]; exact (by simp [hz_a1])
  have hd_a2 : a2.defers = [] := by rw [← hA]; simp only [defers_put, hd_a1]
  clear hA
  refine wpIn_seq (wpIn_seq (region_p 1 ?_))
  intro K hK
  refine ListK.assign (i := 0) (v := .int .i64 0) rfl (by simp) ?_
  refine ListK.done (hK _ _ ?_)
  clear hK K
  refine wpIn_block (wpIn_loop (fun a W' => ∃ (k : Nat) (v : Value), k ≤ ds.length ∧ a.tmps.size = 31 ∧ a.defers = [] ∧ a.eval (.tmp 1) = .slice A1 ds.length c1 ∧ a.eval (.tmp 2) = .int .i64 ow ∧ a.eval (.tmp 3) = .int .i64 on ∧ a.eval (.tmp 4) = .pointer (some ⟨b3, 0, none⟩) ∧ a.eval (.tmp 9) = v ∧ a.eval (.tmp 10) = .int .i64 k ∧ OL W1 v (eveL ds on k) W') (fun a _ => ds.length - (intOf (a.eval (.tmp 10))).toNat)
    ⟨0, .slice none 0 0, Nat.zero_le _, (by simp only [size_put, hz_a2]), (by simp only [defers_put, hd_a2]), (by simp [v1]), (by simp [v2]), (by simp [v3]), (by simp [v4]), (by simp [v9]), (by simp [hz_a2]), ⟨Below.refl _ _, World.ownsRow_nil _ _ _ _⟩⟩ ?_)
  clear hsz t0 t1 t2 t3 hdf hz_a1 u1 u2 u3 u4 hd_a1 hz_a2 v1 v2 v3 v4 v9 hd_a2 a a1 a2
  rintro a W2 ⟨k, v, hk, hsz, hdf, t1, t2, t3, t4, t9, t10, hol⟩
  have wb2 := wb.below hol.low wb.lt
  have hB2 := hB1.trans (hol.low.mono (by have := hB1.size; omega))
  refine wpIn_seq (wpIn_seq (region_p 4 ?_))
  intro K hK
  refine ListK.move (i := 0) (v := .int .i64 k) rfl (by simp [t10]) ?_
  refine ListK.move (i := 1) (v := .slice A1 ds.length c1) rfl (by simp [t1]) ?_
  refine ListK.len (i := 2) (u := .slice A1 ds.length c1) (v := .int .i64 ds.length) rfl (by simp [hsz]) (ln25 _ _ _ _ _) rfl ?_
  refine ListK.bin (i := 3) (u := .int .i64 k) (u' := .int .i64 (ds.length : Int)) (v := .bool (decide (k < (ds.length : Int)))) rfl (by simp [hsz]) (by simp [hsz]) (lss3 _) ?_
  refine ListK.done (hK _ _ ?_)
  clear hK K
  by_cases hkl : k < ds.length
  · refine wpIn_cond (t := true) (by simp [hsz]; omega) (wpIn_skip ?_)
    generalize hA : Act.put _ _ _ = a1
    have hz_a1 : a1.tmps.size = 31 := by rw [← hA]; simp only [size_put, hsz]
    have u1 : a1.eval (.tmp 1) = .slice A1 ds.length c1 := by rw [← hA]; exact (by simp [t1])
    have u2 : a1.eval (.tmp 2) = .int .i64 ow := by rw [← hA]; exact (by simp [t2])
    have u3 : a1.eval (.tmp 3) = .int .i64 on := by rw [← hA]; exact (by simp [t3])
    have u4 : a1.eval (.tmp 4) = .pointer (some ⟨b3, 0, none⟩) := by rw [← hA]; exact (by simp [t4])
    have u9 : a1.eval (.tmp 9) = v := by rw [← hA]; exact (by simp [t9])
    have u10 : a1.eval (.tmp 10) = .int .i64 k := by rw [← hA]; exact (by simp [t10])
    have hd_a1 : a1.defers = [] := by rw [← hA]; simp only [defers_put, hdf]
    clear hA
    show (Code.seq _ _).wpIn _ _ _ _ _ _
    have hll := eveL_length ds on k
    obtain ⟨b1, o1, rfl, hb1, hc1⟩ := h10 k _ (List.getElem?_eq_getElem hkl)
    have hc1' : W2.cell? ⟨b1, o1 + k, none⟩ = some (.int .i64 ds[k]) := (hB2.cell (p := ⟨b1, o1 + k, none⟩) (by show b1 < b3; omega)).trans hc1
    have hget : (ds[k]?).getD 0 = ds[k] := by simp [hkl]
    have hend : ∀ (a' : Act) (v' : Value) (W3 : World), a'.tmps.size = 31 → a'.defers = [] → a'.eval (.tmp 1) = .slice (some ⟨b1, o1, none⟩) ds.length c1 → a'.eval (.tmp 2) = .int .i64 ow → a'.eval (.tmp 3) = .int .i64 on → a'.eval (.tmp 4) = .pointer (some ⟨b3, 0, none⟩) → a'.eval (.tmp 9) = v' → a'.eval (.tmp 10) = .int .i64 k → OL W1 v' (eveL ds on (k + 1)) W3 → ∀ Q : Exit → Act → World → Prop,
        (∀ a W', (∃ (k : Nat) (v : Value), k ≤ ds.length ∧ a.tmps.size = 31 ∧ a.defers = [] ∧ a.eval (.tmp 1) = .slice (some ⟨b1, o1, none⟩) ds.length c1 ∧ a.eval (.tmp 2) = .int .i64 ow ∧ a.eval (.tmp 3) = .int .i64 on ∧ a.eval (.tmp 4) = .pointer (some ⟨b3, 0, none⟩) ∧ a.eval (.tmp 9) = v ∧ a.eval (.tmp 10) = .int .i64 k ∧ OL W1 v (eveL ds on k) W') → a.eval (.tmp 10) = .int .i64 ((k + 1 : Nat) : Int) → Q .normal a W') →
        (Code.region 4 opsEv4 false).wpIn Fence.wide 5 Try.prog Q a' W3 := by
      intro a' v' W3 hz hd' x1 x2 x3 x4 x9 x10 ho Q hQ
      refine region_p 3 ?_
      intro K4 hK4
      refine ListK.move (i := 0) (v := .int .i64 k) rfl (by simp [x10]) ?_
      refine ListK.bin (i := 1) (u := .int .i64 k) (u' := .int .i64 1) (v := .int .i64 (k + 1)) rfl (by simp [hz]) (by simp) (add3 (by omega) (by omega) _) ?_
      refine ListK.assign (i := 2) (v := .int .i64 ((k + 1 : Nat) : Int)) rfl (by simp [hz]) ?_
      skip
      exact ListK.done (hK4 _ _ (hQ _ _ ⟨k + 1, v', by omega, by simp only [size_put, hz], by simp only [defers_put, hd'], (by simp [x1]), (by simp [x2]), (by simp [x3]), (by simp [x4]), (by simp [x9]), (by simp [hz]), ho⟩ (by simp [hz])))
    have hmu : ∀ b : Act, b.eval (.tmp 10) = .int .i64 ((k + 1 : Nat) : Int) → ds.length - (intOf (b.eval (.tmp 10))).toNat < ds.length - (intOf (a.eval (.tmp 10))).toNat := by
      intro b e
      rw [e, t10]
      simp only [intOf]
      omega
    refine wpIn_seq (wpIn_block (wpIn_seq (region_p 6 ?_)))
    intro K5 hK5
    refine ListK.move (i := 0) (v := .slice (some ⟨b1, o1, none⟩) ds.length c1) rfl (by simp [u1]) ?_
    refine ListK.move (i := 1) (v := .int .i64 k) rfl (by simp [u10]) ?_
    refine ListK.index (i := 2) (u := .slice (some ⟨b1, o1, none⟩) ds.length c1) (u' := .int .i64 k) (v := .pointer (some ⟨b1, o1 + k, none⟩)) rfl (by simp [hz_a1]) (by simp [hz_a1]) (ix25o hkl _) ?_
    refine ListK.load (i := 3) (p := ⟨b1, o1 + k, none⟩) (v := .int .i64 ds[k]) rfl (by simp [hz_a1]) (ld3 (hc1')) ?_
    refine ListK.move (i := 4) (v := .int .i64 on) rfl (by simp [u3]) ?_
    refine ListK.bin (i := 5) (u := .int .i64 ds[k]) (u' := .int .i64 on) (v := .bool (decide (ds[k] ≤ on))) rfl (by simp [hz_a1]) (by simp [hz_a1]) (leq3 _) ?_
    refine ListK.done (hK5 _ _ ?_)
    by_cases hbt : ds[k] ≤ on
    · refine wpIn_cond (t := true) (by simp [hz_a1]; exact hbt) ?_
      generalize hA : Act.put _ _ _ = a2
      have hz_a2 : a2.tmps.size = 31 := by rw [← hA]; simp only [size_put, hz_a1]
      have x1 : a2.eval (.tmp 1) = .slice (some ⟨b1, o1, none⟩) ds.length c1 := by rw [← hA]; exact (by simp [u1])
      have x2 : a2.eval (.tmp 2) = .int .i64 ow := by rw [← hA]; exact (by simp [u2])
      have x3 : a2.eval (.tmp 3) = .int .i64 on := by rw [← hA]; exact (by simp [u3])
      have x4 : a2.eval (.tmp 4) = .pointer (some ⟨b3, 0, none⟩) := by rw [← hA]; exact (by simp [u4])
      have x9 : a2.eval (.tmp 9) = v := by rw [← hA]; exact (by simp [u9])
      have x10 : a2.eval (.tmp 10) = .int .i64 k := by rw [← hA]; exact (by simp [u10])
      have hd_a2 : a2.defers = [] := by rw [← hA]; simp only [defers_put, hd_a1]
      clear hA
      have hol1 := hol.below ((Below.refl _ W2).alloc (Nat.le_refl _) (.cells #[.int .i64 k] 3))
      show (Code.region 6 opsEv6 false).wpIn _ _ _ _ _ _
      refine region_p 5 ?_
      intro K6 hK6
      refine ListK.move (i := 0) (v := v) rfl (by simp [x9]) ?_
      refine ListK.move (i := 1) (v := .int .i64 k) rfl (by simp [x10]) ?_
      refine ListK.bsl (i := 2) (ps := #[(0, .int .i64 k)]) (v := .slice (some ⟨W2.heap.size, 0, none⟩) 1 1) rfl (by simp [hz_a2]) (bs25_1 _ _) ?_
      refine ListK.append (i := 3) rfl hol1.own (by simp [hz_a2]) ⟨W2.heap.size, 0, none⟩ 1 [.int .i64 k] (by simp [hz_a2]) rfl (news1 (cell_new1 W2 _ _)) (by simp [Value.oneCell']) (by unfold maxLen; omega) (by omega) hol1.low.size ?_
      intro g cap W3 hown hgr hat
      refine ListK.assign (i := 4) (v := .slice (some ⟨g, 0, none⟩) ((eveL ds on k).length + 1) cap) rfl (by simp [hz_a2]) ?_
      refine ListK.done (hK6 _ _ ?_)
      refine hend _ (.slice (some ⟨g, 0, none⟩) ((eveL ds on k).length + 1) cap) W3 (by simp only [size_put, hz_a2]) (by simp only [defers_put, hd_a2]) (by simp [x1]) (by simp [x2]) (by simp [x3]) (by simp [x4]) (by simp [hz_a2]) (by simp [x10]) ?_ _ (fun a' W' h e => ⟨h, hmu _ e⟩)
      rw [show eveL ds on (k + 1) = eveL ds on k ++ [(k : Int)] by simp only [eveL]; rw [hget, if_pos hbt]]
      exact hol1.app hown hgr
    · refine wpIn_cond (t := false) (by simp [hz_a1]; omega) (wpIn_skip ?_)
      refine hend _ v W2 (by simp only [size_put, hz_a1]) (by simp only [defers_put, hd_a1]) (by simp [u1]) (by simp [u2]) (by simp [u3]) (by simp [u4]) (by simp [u9]) (by simp [u10]) ?_ _ (fun a' W' h e => ⟨h, hmu _ e⟩)
      rw [show eveL ds on (k + 1) = eveL ds on k by simp only [eveL]; rw [hget, if_neg hbt]]
      exact hol
  · obtain rfl : k = ds.length := by omega
    refine wpIn_cond (t := false) (by simp [hsz]) (wpIn_exit ?_)
    generalize hA : Act.put _ _ _ = a1
    have hz_a1 : a1.tmps.size = 31 := by rw [← hA]; simp only [size_put, hsz]
    have u2 : a1.eval (.tmp 2) = .int .i64 ow := by rw [← hA]; exact (by simp [t2])
    have u4 : a1.eval (.tmp 4) = .pointer (some ⟨b3, 0, none⟩) := by rw [← hA]; exact (by simp [t4])
    have u9 : a1.eval (.tmp 9) = v := by rw [← hA]; exact (by simp [t9])
    have hd_a1 : a1.defers = [] := by rw [← hA]; simp only [defers_put, hdf]
    clear hA
    show (Code.seq _ _).wpIn _ _ _ _ _ _
    obtain ⟨Ad, cd, rfl, hcd, id_⟩ := hol.ints
    have hs2 : SalesAt W2 W2.heap.size A l := (hs0.below hB2 (Nat.le_refl _)).more (by have := wb2.lt; omega)
    have hel := eveL_length ds on ds.length
    refine wpIn_seq (region_p 5 ?_)
    intro K hK
    refine ListK.load (i := 0) (p := ⟨b3, 0, none⟩) (v := .agg #[.int .i64 o, .int .i64 t, .slice A l.length c]) rfl (by simp [u4]) (ld24 ⟨wb2.cell 0, wb2.cell 1, wb2.cell 2⟩) ?_
    refine ListK.move (i := 1) (v := .slice Ad (eveL ds on ds.length).length cd) rfl (by simp [u9]) ?_
    refine ListK.move (i := 2) (v := .int .i64 ow) rfl (by simp [u2]) ?_
    refine ListK.call (i := 3) (vs := #[.agg #[.int .i64 o, .int .i64 t, .slice A l.length c], .slice Ad (eveL ds on ds.length).length cd, .int .i64 ow]) rfl (enters_of Try.func69 (by kernel_rfl) rfl) (by simp [hz_a1]) (((stockR_any o t ow A Ad l (eveL ds on ds.length) c cd W2 hl (by omega) ht0 ht hm (fun d h => by have := eveL_mem ds on _ d h; omega) hs2 id_)).mono ?_)
    rintro _ W3 ⟨rfl, hb3_⟩
    refine ⟨_, rfl, ?_⟩
    refine ListK.assign (i := 4) (v := .int .i64 (stockR t l (eveL ds on ds.length) ow)) rfl (by simp [hz_a1]) ?_
    refine ListK.done (hK _ _ (wpIn_ret ?_))
    show bodyPost Try.prog Try.f34 (fun e w' => e = .returned (.int .i64 (stockR t l (eveL ds on ds.length) ow)) ∧ Below b3 W w') Exit.ret _ _
    exact bodyPost_ret (v := .int .i64 (stockR t l (eveL ds on ds.length) ow)) (res1 Try.results34 (by simp [hz_a1])) (by simp only [defers_put, hd_a1]) ⟨rfl, hB2.trans (hb3_.mono (by have := wb2.lt; omega))⟩
end Go.Proofs.Ytfcnombmphophaa
namespace Go.Proofs.Ytfcnombmphophaa
open Go.RowKit Go.Shelf
theorem hasI_iff {l : List Int} {n : Int} : hasI l n = true ↔ n ∈ l := by
  unfold hasI
  rw [List.any_eq_true]
  constructor
  · rintro ⟨x, hx, e⟩
    have : x = n := by simpa using e
    rw [← this]
    exact hx
  · intro h
    exact ⟨n, h, by simp⟩
theorem eveL_has {ds : List Int} {on : Int} : ∀ {k m : Nat}, ((m : Int) ∈ eveL ds on k ↔ m < k ∧ (ds[m]?).getD 0 ≤ on)
  | 0, m => by simp [eveL]
  | k + 1, m => by
    unfold eveL
    split
    · rename_i h
      rw [List.mem_append, eveL_has, List.mem_singleton]
      constructor
      · rintro (⟨h1, h2⟩ | h1)
        · exact ⟨by omega, h2⟩
        · have : m = k := by omega
          subst this
          exact ⟨by omega, h⟩
      · rintro ⟨h1, h2⟩
        by_cases e : m = k
        · exact .inr (by omega)
        · exact .inl ⟨by omega, h2⟩
    · rename_i h
      rw [eveL_has]
      constructor
      · rintro ⟨h1, h2⟩
        exact ⟨by omega, h2⟩
      · rintro ⟨h1, h2⟩
        by_cases e : m = k
        · subst e
          exact absurd h2 h
        · exact ⟨by omega, h2⟩
theorem eve_same {o t : Int} {l : List Sale} (hv : Valid o t l) (ds : List Int) (on : Int) : ∀ k, k ≤ l.length → ∃ d, Same t l (eveL ds on k) d
  | 0, _ => ⟨0, Same.zero t l⟩
  | k + 1, hk => by
    obtain ⟨d, h⟩ := eve_same hv ds on k (by omega)
    unfold eveL
    split
    · refine ⟨d ||| 2 ^ k, h.snoc hv (by omega) ?_⟩
      rw [h.bits]
      cases hh : hasI (eveL ds on k) (k : Int) with
      | false => rfl
      | true =>
        have := eveL_mem ds on k _ (hasI_iff.1 hh)
        omega
    · exact ⟨d, h⟩
/-- What an owner has on an evening, by the days of all sales of a truth. -/
theorem evening_tru {o t : Int} {l : List Sale} (hv : Valid o t l) {ps : List (Nat × Int)} (h : TruP t l ps) {ds : List Int} (hd : ∀ p, p ∈ ps → ds[p.1]? = some p.2) (on : Int) (ow : Nat) : stockR t l (eveL ds on l.length) ow = stocksOf t l (eveSet ps on) ow := by
  obtain ⟨d, hs⟩ := eve_same hv ds on l.length (Nat.le_refl _)
  have e : d = eveSet ps on := by
    apply Nat.eq_of_testBit_eq
    intro m
    unfold eveSet
    rw [hs.bits, dset_bit, Nat.zero_testBit, Bool.false_or, Bool.eq_iff_iff, hasI_iff, eveL_has, decide_eq_true_eq]
    constructor
    · rintro ⟨h1, h2⟩
      have hm : m ∈ ps.map (·.1) := (tru_iff.1 h).1.mem_iff.2 (List.mem_range.2 h1)
      obtain ⟨p, hp, rfl⟩ := List.mem_map.1 hm
      rw [hd p hp] at h2
      exact List.mem_map.2 ⟨p, List.mem_filter.2 ⟨hp, by simpa using h2⟩, rfl⟩
    · intro hm
      obtain ⟨p, hp, rfl⟩ := List.mem_map.1 hm
      obtain ⟨hp, hle⟩ := List.mem_filter.1 hp
      refine ⟨(tru_mem h hp).1, ?_⟩
      rw [hd p hp]
      simpa using hle
  rw [← e]
  exact (hs.st ow).symm
/-! Truths sale by sale. -/
def GoS : (Nat → Int) → Int → List (Sale × Int) → Prop
  | _, _, [] => True
  | st, x, p :: ps => p.1.many ≤ st p.1.src.toNat ∧ p.1.lo ≤ p.2 ∧ p.2 ≤ p.1.hi ∧ x ≤ p.2 ∧ GoS (sold st p.1) p.2 ps
def lastQ (x : Int) (ps : List (Sale × Int)) : Int := ps.foldl (fun _ p => p.2) x
theorem GoS.snoc : ∀ {ps : List (Sale × Int)} {st : Nat → Int} {x : Int} {p : Sale × Int}, GoS st x ps → p.1.many ≤ ps.foldl (fun st p => sold st p.1) st p.1.src.toNat → p.1.lo ≤ p.2 → p.2 ≤ p.1.hi → lastQ x ps ≤ p.2 → GoS st x (ps ++ [p])
  | [], _, _, _, _, h1, h2, h3, h4 => ⟨h1, h2, h3, h4, trivial⟩
  | q :: ps, st, x, p, ⟨a, b, c, d, e⟩, h1, h2, h3, h4 => ⟨a, b, c, d, GoS.snoc e h1 h2 h3 h4⟩
theorem GoS.fair {o t : Int} : ∀ {ps : List (Sale × Int)} {st : Nat → Int} {x : Int}, GoS st x ps → (∀ p, p ∈ ps → saleOk o p.1 = true) → Fair o t st → Fair o t (ps.foldl (fun st p => sold st p.1) st)
  | [], _, _, _, _, h => h
  | p :: ps, st, x, ⟨a, b, c, d, e⟩, hok, h => by
    have hf := saleOk_facts (hok p List.mem_cons_self)
    rw [List.foldl_cons]
    exact GoS.fair (ps := ps) e (fun q hq => hok q (List.mem_cons_of_mem _ hq)) (h.sold ⟨hf.1, hf.2.1⟩ ⟨hf.2.2.1, hf.2.2.2.1⟩ hf.2.2.2.2.1 (by omega) a)
theorem fold_zip : ∀ (l : List Sale) (ds : List Int) (st : Nat → Int), ds.length = l.length → (l.zip ds).foldl (fun st p => sold st p.1) st = l.foldl sold st
  | [], _, _, _ => by simp
  | s :: l, [], _, h => by simp at h
  | s :: l, d :: ds, st, h => by
    rw [List.zip_cons_cons, List.foldl_cons, List.foldl_cons]
    exact fold_zip l ds _ (by simpa using h)
/-- The numbers of all sales. -/
def upTo : Nat → List Int
  | 0 => []
  | k + 1 => upTo k ++ [(k : Int)]
theorem stock_fold {o t : Int} {l : List Sale} (hv : Valid o t l) (i : Nat) : ∀ k, k ≤ l.length → stockR t l (upTo k) i = ((l.take k).foldl sold (upd (fun _ => 0) 0 t)) i
  | 0, _ => by
    unfold stockR upTo upd
    simp
  | k + 1, hk => by
    have hf := saleOf_valid hv (show k < l.length by omega)
    unfold upTo
    rw [stockR_app, List.take_succ_eq_append_getElem (by omega), List.foldl_append, List.foldl_cons, List.foldl_nil, ← saleOf_eq (List.getElem?_eq_getElem (show k < l.length by omega))]
    exact (sold_step (by omega) hf.1 hf.2.2.1 hf.2.2.2.2.1 (stock_fold hv i k (by omega)).symm).symm
structure TrI (o t : Int) (i : Nat) (s : List Sale × List Int × Int) : Prop where
  o1 : 1 ≤ o
  o6 : o ≤ 6
  t0 : 0 ≤ t
  t1 : t ≤ 1000
  len : s.1.length ≤ i
  ok : ∀ x, x ∈ s.1 → saleOk o x = true
  days : s.2.1.length = s.1.length
  day : 0 ≤ s.2.2 ∧ s.2.2 ≤ 100
  run : GoS (upd (fun _ => 0) 0 t) 0 (s.1.zip s.2.1)
  last : lastQ 0 (s.1.zip s.2.1) ≤ s.2.2
theorem TrI.valid {o t : Int} {i : Nat} {s : List Sale × List Int × Int} (h : TrI o t i s) (hi : i ≤ 8) : Valid o t s.1 := ⟨h.o1, h.o6, h.t0, h.t1, by have := h.len; omega, h.ok⟩
theorem TrI.stock {o t : Int} {i : Nat} {s : List Sale × List Int × Int} (h : TrI o t i s) (hi : i ≤ 8) {ow : Int} (h0 : 0 ≤ ow) (h1 : ow < o) : 0 ≤ stockR t s.1 (upTo s.1.length) ow ∧ stockR t s.1 (upTo s.1.length) ow ≤ t ∧ stockR t s.1 (upTo s.1.length) ow = ((s.1.zip s.2.1).foldl (fun st p => sold st p.1) (upd (fun _ => 0) 0 t)) ow.toNat := by
  have hv := h.valid hi
  have e : stockR t s.1 (upTo s.1.length) ow = ((s.1.zip s.2.1).foldl (fun st p => sold st p.1) (upd (fun _ => 0) 0 t)) ow.toNat := by
    have := stock_fold hv ow.toNat s.1.length (Nat.le_refl _)
    rw [Int.toNat_of_nonneg h0, List.take_length] at this
    rw [this, fold_zip _ _ _ h.days]
  have hz : stocksOf t s.1 0 = upd (fun _ => 0) 0 t := stocks_zero t s.1
  have hfa := h.run.fair (o := o) (t := t) (fun p hp => h.ok _ (List.of_mem_zip hp).1) (by rw [← hz]; exact fair_begun hv)
  rw [e]
  exact ⟨hfa.pos _, hfa.le (by omega), rfl⟩
end Go.Proofs.Ytfcnombmphophaa
namespace Go.Proofs.Ytfcnombmphophaa
open Go.RowKit Go.Shelf
/-- The days in all truths that go on from an order. -/
def allGo (t : Int) (l : List Sale) : Nat → List Int → List Int → Int → List (List Int)
  | 0, _, days, _ => [days]
  | f + 1, pre, days, la => (List.range l.length).flatMap fun n => (List.range ((saleOf l n).hi + 1 - (saleOf l n).lo).toNat).flatMap fun j : Nat =>
      if mayR t l pre la n ((saleOf l n).lo + j) then allGo t l f (pre ++ [(n : Int)]) (days.set n ((saleOf l n).lo + j)) ((saleOf l n).lo + j) else []
theorem flat_step {α : Type} (G : Nat → List α) (k : Nat) : (List.range (k + 1)).flatMap G = (List.range k).flatMap G ++ G k := by
  rw [List.range_succ, List.flatMap_append]
  simp
theorem flat_pre {α : Type} (G : Nat → List α) {k n : Nat} (h : k < n) : ((List.range k).flatMap G).length + (G k).length ≤ ((List.range n).flatMap G).length := by
  induction n with
  | zero => omega
  | succ m ih =>
    rw [flat_step, List.length_append]
    rcases Nat.lt_or_ge k m with h1 | h1
    · have := ih h1
      omega
    · obtain rfl : k = m := by omega
      omega
/-- A list of lists that is owned. -/
structure LL (W0 : World) (v : Value) (xs : List (List Int)) (W : World) : Prop where
  low : Below W0.heap.size W0 W
  own : ∃ vs : List Value, vs.length = xs.length ∧ W.ownsRow W0.heap.size 25 1 v xs.length vs ∧ ∀ (i : Nat) (u : Value) (x : List Int), vs[i]? = some u → xs[i]? = some x → W.ownsRow W0.heap.size 3 1 u x.length (x.map (Value.int .i64))
/-- A row stays where another is grown that has cells of another type. -/
theorem row_kept {W W' : World} {b b' e e' n n' : Nat} {u v : Value} {xs ys : List Value} (h : W.ownsRow b e 1 u n xs) (hv : W.ownsRow b' e' 1 v n' ys) (he : e ≠ e') (hg : W.grownBy W' v.ownBlock) : W'.ownsRow b e 1 u n xs := by
  refine ⟨h.1, ?_⟩
  rcases h.2 with h0 | ⟨g, cap, cur, rfl, hb, hc, h1, h2, h3, h4⟩
  · exact .inl h0
  · refine .inr ⟨g, cap, cur, rfl, hb, ?_, h1, h2, h3, h4⟩
    rw [hg.block g (Array.getElem?_eq_some_iff.1 hc).1 ?_]
    · exact hc
    · intro e1
      rcases hv.2 with ⟨rfl, _⟩ | ⟨g', cap', cur', rfl, hb', hc', _⟩
      · cases e1
      · simp only [Value.ownBlock, Option.some.injEq] at e1
        subst e1
        rw [hc] at hc'
        cases hc'
        exact he rfl
theorem LL.nil (W : World) : LL W (.slice none 0 0) [] W := ⟨Below.refl _ _, [], rfl, World.ownsRow_nil _ _ _ _, fun i u x h => by simp at h⟩
theorem LL.base {W0 W1 W : World} {v : Value} {xs : List (List Int)} (h : LL W1 v xs W) (hb : Below W0.heap.size W0 W1) : LL W0 v xs W := by
  obtain ⟨hl, vs, h1, h2, h3⟩ := h
  exact ⟨hb.trans (hl.mono hb.size), vs, h1, ownsRow_base h2 hb.size, fun i u x hu hx => ownsRow_base (h3 i u x hu hx) hb.size⟩
theorem LL.below {W0 W W' : World} {v : Value} {xs : List (List Int)} (h : LL W0 v xs W) (hb : Below W.heap.size W W') : LL W0 v xs W' := by
  obtain ⟨hl, vs, h1, h2, h3⟩ := h
  exact ⟨hl.trans (hb.mono hl.size), vs, h1, h2.kept (grown_of_below hb) (by cases v.ownBlock <;> simp), fun i u x hu hx => (h3 i u x hu hx).kept (grown_of_below hb) (by cases u.ownBlock <;> simp)⟩
/-- Lists put behind lists. -/
theorem LL.app {W0 W W' : World} {v v2 : Value} {xs ys : List (List Int)} (h : LL W0 v xs W) {vs us : List Value} (hv : vs.length = xs.length) (ho : W.ownsRow W0.heap.size 25 1 v xs.length vs)
    (hr : ∀ (i : Nat) (u : Value) (x : List Int), vs[i]? = some u → xs[i]? = some x → W.ownsRow W0.heap.size 3 1 u x.length (x.map (Value.int .i64)))
    (hu : us.length = ys.length) (hr2 : ∀ (i : Nat) (u : Value) (x : List Int), us[i]? = some u → ys[i]? = some x → W.ownsRow W0.heap.size 3 1 u x.length (x.map (Value.int .i64)))
    (hown : W'.ownsRow W0.heap.size 25 1 v2 (xs.length + ys.length) (vs ++ us)) (hg : W.grownBy W' v.ownBlock) : LL W0 v2 (xs ++ ys) W' := by
  refine ⟨h.low.grown hg h.low.size (fun k e => (ho.lt k e).1), vs ++ us, by simp [hv, hu], by simpa using hown, fun i u x h1 h2 => ?_⟩
  rcases Nat.lt_or_ge i vs.length with hi | hi
  · rw [List.getElem?_append_left hi] at h1
    rw [List.getElem?_append_left (by omega)] at h2
    exact row_kept (hr i u x h1 h2) ho (by decide) hg
  · rw [List.getElem?_append_right hi] at h1
    rw [List.getElem?_append_right (by omega)] at h2
    rw [← hv] at h2
    exact row_kept (hr2 _ u x h1 h2) ho (by decide) hg
/-- A number of an owned list is stored. -/
theorem OL.set {W0 W : World} {g c : Nat} {xs : List Int} {n : Nat} (h : OL W0 (.slice (some ⟨g, 0, none⟩) xs.length c) xs W) (k : Nat) (d : Int) (hn : n = xs.length) :
    OL W0 (.slice (some ⟨g, 0, none⟩) n c) (xs.set k d) (W.setCell ⟨g, k, none⟩ (.int .i64 d)) := by
  subst hn
  obtain ⟨hl, ho⟩ := h
  rcases ho.2 with ⟨e, _⟩ | ⟨g', cap, cur, e, hb, hg, h1, h2, h3, h4⟩
  · cases e
  · cases e
    refine ⟨?_, by simp, .inr ⟨g, c, cur.setIfInBounds k (.int .i64 d), by simp, hb, ?_, by simpa using h1, h2, by simpa using h3, ?_⟩⟩
    · exact hl.setCell (p := ⟨g, k, none⟩) hb _
    · simp [World.setCell, Array.getElem?_modify, hg]
    · rw [Array.toList_setIfInBounds, List.length_set, List.map_set, ← h4, List.take_set]
theorem info25 : (Try.prog.info? 25).map (fun i => (i.zero, i.size, i.bytes)) = some (some (.slice none 0 0), 1, 24) := by kernel_rfl
theorem LL.one {W0 W : World} {u : Value} {x : List Int} (h : OL W0 u x W) : LL W0 (.slice (some ⟨W.heap.size, 0, none⟩) 1 1) [x] (W.alloc (.cells #[u] 25)) := by
  have hb : Below W.heap.size W (W.alloc (.cells #[u] 25)) := (Below.refl _ W).alloc (Nat.le_refl _) _
  have h2 := h.below hb
  refine ⟨h2.low, [u], rfl, ?_, fun i u' x' h3 h4 => ?_⟩
  · have := World.ownsRow_lit (base := W0.heap.size) (e := 25) (size := 1) W (#[u] : Array Value) 1 h.low.size (by unfold maxLen; omega) (by simp)
    simpa using this
  · match i with
    | 0 =>
      simp only [List.getElem?_cons_zero, Option.some.injEq] at h3 h4
      subst h3 h4
      exact h2.own
    | i + 1 => simp at h3
section
variable {ops : Array Oper} {K : Act → World → Prop} {Kp : Nat → World → World → Prop} {fuel i d : Nat} {listed : Array Bool} {a : Act} {w : World} {ty : TypeId} {pos : String} {aft : Array Edge} {gd : Option (Nat × Bool)}
/-- append of lists to lists that are owned. -/
theorem StepK.app49 {s x : Operand} (hi : ops[i]? = some ⟨some d, .call { callee := .builtin .append, args := #[s, x], argTypes := #[49, 49] }, ty, pos, aft, gd⟩) (hw : Region.wanted ⟨some d, .call { callee := .builtin .append, args := #[s, x], argTypes := #[49, 49] }, ty, pos, aft, gd⟩ (yielded ops a.tmps) = true)
    {W0 : World} {v u : Value} {xs ys : List (List Int)} (ho : LL W0 v xs w) (hs : a.eval s = v) (hu : LL W0 u ys w) (hx : a.eval x = u) (hl : xs.length + ys.length ≤ 1099511627776)
    (h : ∀ v' w', LL W0 v' (xs ++ ys) w' → (∀ b i z, b < W0.heap.size → w.cell? ⟨b, i, none⟩ = some z → w'.cell? ⟨b, i, none⟩ = some z) → Kp i w w' ∧ AnyK Try.prog ops K Kp fuel (listed.setIfInBounds i true) (a.put (some d) v') w') :
    StepK Try.prog ops K Kp fuel listed a w i := by
  obtain ⟨i0, hi0, hi1, hi2, hi3⟩ := info_parts info25
  obtain ⟨hlow, vs, e1, o1, r1⟩ := id ho
  obtain ⟨hlow2, us, e2, o2, r2⟩ := hu
  unfold StepK opG
  simp only [hi]
  rw [if_pos hw]
  by_cases h0 : ys.length = 0
  · obtain rfl : ys = [] := List.eq_nil_of_length_eq_zero h0
    have h1 := h v w (by rw [List.append_nil]; exact ho) (fun _ _ _ _ h => h)
    obtain ⟨A2, c2, rfl⟩ : ∃ A2 c2, u = .slice A2 0 c2 := by
      rcases o2.2 with ⟨rfl, _⟩ | ⟨g, cap, cur, rfl, _⟩
      · exact ⟨_, _, rfl⟩
      · exact ⟨_, _, rfl⟩
    have : (Builtin.append_ #[49, 49] ty #[v, .slice A2 0 c2]).run Try.prog w = .ok v w := by
      rcases o1.2 with ⟨rfl, _⟩ | ⟨g, cap, cur, rfl, _, _, hc, _⟩
      · cases A2 <;> simp [Builtin.append_, run_underlying Try.underlying49, sizeOf, typeInfo, hi0, Builtin.lenOf, Builtin.firstCells, loadCells, loadCellsFrom]
      · cases A2 <;> simp [Builtin.append_, run_underlying Try.underlying49, sizeOf, typeInfo, hi0, Builtin.lenOf, Builtin.firstCells, hc, storeCells, loadCells, loadCellsFrom]
    simp only [Oper.wp, execOp, resolve, invoke, builtin, Sem.run_bind, Sem.run_pure, Result.andThen_ok, List.map_toArray, List.map_cons, List.map_nil, hs, hx, this]
    exact h1
  · obtain ⟨g2, c2, rfl, hg2, _⟩ := o2.form (by omega)
    refine wp_append_lies _ s x 49 rfl W0.heap.size 25 i0 (.slice none 0 0) 1 24 Try.underlying49 hi0 hi1 hi2 hi3 rfl (by omega) v xs.length vs hs o1 ⟨g2, 0, none⟩ ys.length c2 us hx (by simp [e2]) (fun j z hz => o2.cells rfl j z hz) ?_ (by omega) (by unfold maxLen; omega) (by omega) hlow.size w.heap.size rfl ?_
    · intro z hz
      obtain ⟨j, hj, hjz⟩ := List.mem_iff_getElem.1 hz
      have := r2 j z (ys[j]'(by omega)) (by rw [List.getElem?_eq_getElem hj, hjz]) (List.getElem?_eq_getElem _)
      rcases this.2 with ⟨rfl, _⟩ | ⟨g, cap, cur, rfl, _⟩ <;> rfl
    · intro g' cap w' hown hgr _ _
      refine h (.slice (some ⟨g', 0, none⟩) (xs.length + ys.length) cap) w' (ho.app e1 o1 r1 e2 r2 hown hgr) (fun q i z hq hz => hgr.cell hz (fun e => by have := (o1.lt q e.symm).1; omega))
end
end Go.Proofs.Ytfcnombmphophaa
namespace Go.Proofs.Ytfcnombmphophaa
open Go.RowKit Go.Shelf
def setAll (ds : List Int) (ps : List (Nat × Int)) : List Int := ps.foldl (fun ds p => ds.set p.1 p.2) ds
theorem setAll_length : ∀ (ps : List (Nat × Int)) (ds : List Int), (setAll ds ps).length = ds.length
  | [], _ => rfl
  | p :: ps, ds => by
    show (setAll (ds.set p.1 p.2) ps).length = _
    rw [setAll_length ps, List.length_set]
theorem setAll_other {k : Nat} : ∀ (ps : List (Nat × Int)) (ds : List Int), k ∉ ps.map (·.1) → (setAll ds ps)[k]? = ds[k]?
  | [], _, _ => rfl
  | p :: ps, ds, h => by
    rw [List.map_cons, List.mem_cons, not_or] at h
    show (setAll (ds.set p.1 p.2) ps)[k]? = _
    rw [setAll_other ps _ h.2, List.getElem?_set_ne (fun e => h.1 e.symm)]
theorem setAll_at : ∀ (ps : List (Nat × Int)) (ds : List Int), (ps.map (·.1)).Nodup → (∀ k, k ∈ ps.map (·.1) → k < ds.length) → ∀ p, p ∈ ps → (setAll ds ps)[p.1]? = some p.2
  | [], _, _, _, p, h => by simp at h
  | q :: ps, ds, hn, hl, p, h => by
    rw [List.map_cons, List.nodup_cons] at hn
    show (setAll (ds.set q.1 q.2) ps)[p.1]? = _
    rw [List.mem_cons] at h
    rcases h with rfl | h
    · rw [setAll_other ps _ hn.1, List.getElem?_set_self (hl _ (by simp))]
    · exact setAll_at ps _ hn.2 (fun k hk => by rw [List.length_set]; exact hl k (by rw [List.map_cons]; exact List.mem_cons_of_mem _ hk)) p h
theorem stocks_sold {t : Int} {l : List Sale} {d n : Nat} {y : Int} (hn : n < l.length) (hb : d.testBit n = false) : stocksOf t l (d ||| 2 ^ n) = sold (stocksOf t l d) (saleOf l n) :=
  after_set (t := t) (l := l) (ps := [(n, y)]) (d := d) ⟨hn, hb, trivial⟩
theorem go_all {o t : Int} {l : List Sale} (hv : Valid o t l) : ∀ (ps : List (Nat × Int)) (pre : List Int) (d : Nat) (la : Int) (days : List Int), Same t l pre d → Fresh l d ps → GoP l (stocksOf t l d) la ps → setAll days ps ∈ allGo t l ps.length pre days la
  | [], _, _, _, days, _, _, _ => by
    show days ∈ [days]
    exact List.mem_singleton.2 rfl
  | (n, y) :: ps, pre, d, la, days, hS, hF, hG => by
    obtain ⟨hn, hb, hF'⟩ := hF
    obtain ⟨g1, g2, g3, g4, g5⟩ := hG
    simp only at hn hb hF' g1 g2 g3 g4 g5
    have hsv := saleOf_valid hv hn
    rw [← stocks_sold (y := y) hn hb] at g5
    have ih := go_all hv ps (pre ++ [(n : Int)]) (d ||| 2 ^ n) y (days.set n y) (hS.snoc hv hn hb) hF' g5
    show setAll (days.set n y) ps ∈ allGo t l (ps.length + 1) pre days la
    unfold allGo
    refine List.mem_flatMap.2 ⟨n, List.mem_range.2 hn, List.mem_flatMap.2 ⟨(y - (saleOf l n).lo).toNat, List.mem_range.2 (by omega), ?_⟩⟩
    have e : (saleOf l n).lo + ((y - (saleOf l n).lo).toNat : Int) = y := by omega
    rw [e]
    have hm : mayR t l pre la n y = true := by
      unfold mayR
      rw [Int.toNat_natCast]
      have h1 : hasI pre (n : Int) = false := by rw [← hS.bits]; exact hb
      have h2 := hS.st (saleOf l n).src.toNat
      rw [Int.toNat_of_nonneg hsv.1] at h2
      rw [h2] at g1
      rw [h1, inR_iff.2 ⟨g2, g3⟩]
      simp [g4, g1]
    rw [if_pos hm]
    exact ih
theorem all_go {o t : Int} {l : List Sale} (hv : Valid o t l) : ∀ (f : Nat) (pre : List Int) (d : Nat) (la : Int) (days ds : List Int), Same t l pre d → ds ∈ allGo t l f pre days la → ∃ ps pre', Same t l pre' (dset d ps) ∧ pre'.length = pre.length + f ∧ Fresh l d ps ∧ GoP l (stocksOf t l d) la ps ∧ ds = setAll days ps
  | 0, pre, _, _, days, ds, hS, h => ⟨[], pre, hS, rfl, trivial, trivial, List.mem_singleton.1 h⟩
  | f + 1, pre, d, la, days, ds, hS, h => by
    unfold allGo at h
    obtain ⟨n, hn, h⟩ := List.mem_flatMap.1 h
    obtain ⟨j, hj, h⟩ := List.mem_flatMap.1 h
    rw [List.mem_range] at hn hj
    obtain ⟨y, hy⟩ : ∃ y, (saleOf l n).lo + (j : Int) = y := ⟨_, rfl⟩
    rw [hy] at h
    have hsv := saleOf_valid hv hn
    split at h
    · rename_i hm
      unfold mayR at hm
      rw [Int.toNat_natCast] at hm
      simp only [Bool.and_eq_true, Bool.not_eq_true', decide_eq_true_eq] at hm
      obtain ⟨m1, m2, m3, m4⟩ := hm
      have hb : d.testBit n = false := by rw [hS.bits]; exact m1
      have h2 := hS.st (saleOf l n).src.toNat
      rw [Int.toNat_of_nonneg hsv.1] at h2
      obtain ⟨ps, pre', e0, e1, e2, e3, e4⟩ := all_go hv f _ _ _ _ _ (hS.snoc hv hn hb) h
      rw [stocks_sold (y := y) hn hb] at e3
      exact ⟨(n, y) :: ps, pre', e0, by rw [e1, List.length_append, List.length_singleton]; omega, ⟨hn, hb, e2⟩, ⟨by rw [h2]; exact m4, (inR_iff.1 m2).1, (inR_iff.1 m2).2, m3, e3⟩, e4⟩
    · simp at h
/-- The days of all truths. -/
def allL (t : Int) (l : List Sale) : List (List Int) := allGo t l l.length [] (List.replicate l.length 0) 0
theorem all_iff {o t : Int} {l : List Sale} (hv : Valid o t l) {ds : List Int} : ds ∈ allL t l ↔ ds.length = l.length ∧ ∃ ps, TruP t l ps ∧ ∀ p, p ∈ ps → ds[p.1]? = some p.2 := by
  unfold allL
  constructor
  · intro h
    obtain ⟨ps, pre', e0, e1, e2, e3, rfl⟩ := all_go hv _ _ _ _ _ _ (Same.zero t l) h
    obtain ⟨h1, h2⟩ := fresh_iff.1 e2
    rw [stocks_zero] at e3
    have hperm : (ps.map (·.1)).Perm (List.range l.length) := by
      refine (List.perm_ext_iff_of_nodup h1 List.nodup_range).2 fun k => ?_
      rw [List.mem_range]
      refine ⟨fun h => (h2 k h).1, fun h => ?_⟩
      have hb := cnt_full l.length (by rw [e0.cnt, e1]; simp) k h
      rw [dset_bit] at hb
      simpa using hb
    refine ⟨by rw [setAll_length, List.length_replicate], ps, tru_iff.2 ⟨hperm, e3⟩, fun p hp => setAll_at ps _ h1 (fun k hk => ?_) p hp⟩
    rw [List.length_replicate]
    exact (h2 k hk).1
  · rintro ⟨hl, ps, hp, hd⟩
    have hpi := tru_iff.1 hp
    have hlen : ps.length = l.length := by
      have := hpi.1.length_eq
      simpa using this
    have hnd : (ps.map (·.1)).Nodup := (fresh_iff.1 hp.fresh).1
    have h := go_all hv ps [] 0 0 (List.replicate l.length 0) (Same.zero t l) hp.fresh hp.go
    rw [hlen] at h
    have e : ds = setAll (List.replicate l.length 0) ps := by
      apply List.ext_getElem?
      intro k
      rcases Nat.lt_or_ge k l.length with hk | hk
      · have hm : k ∈ ps.map (·.1) := hpi.1.mem_iff.2 (List.mem_range.2 hk)
        obtain ⟨p, hpm, rfl⟩ := List.mem_map.1 hm
        rw [hd p hpm, setAll_at ps _ hnd (fun k hk => by rw [List.length_replicate]; exact List.mem_range.1 (hpi.1.mem_iff.1 hk)) p hpm]
      · rw [List.getElem?_eq_none (by omega), List.getElem?_eq_none (by rw [setAll_length, List.length_replicate]; omega)]
    rw [e]
    exact h
theorem all_eve {o t : Int} {l : List Sale} (hv : Valid o t l) {ow : Nat} {on y : Int} : EveIn t l ow on y ↔ ∃ ds, ds ∈ allL t l ∧ stockR t l (eveL ds on l.length) ow = y := by
  constructor
  · rintro ⟨ps, hp, he⟩
    have hpi := tru_iff.1 hp
    have hnd : (ps.map (·.1)).Nodup := (fresh_iff.1 hp.fresh).1
    have hat := fun p h => setAll_at ps (List.replicate l.length 0) hnd (fun k hk => by rw [List.length_replicate]; exact List.mem_range.1 (hpi.1.mem_iff.1 hk)) p h
    refine ⟨setAll (List.replicate l.length 0) ps, (all_iff hv).2 ⟨by rw [setAll_length, List.length_replicate], ps, hp, hat⟩, ?_⟩
    rw [evening_tru hv hp hat, eve_of hp]
    exact he
  · rintro ⟨ds, hds, he⟩
    obtain ⟨_, ps, hp, hd⟩ := (all_iff hv).1 hds
    exact ⟨ps, hp, by rw [← he, evening_tru hv hp hd, eve_of hp]⟩
theorem all_fits {o t : Int} {l : List Sale} (hv : Valid o t l) : fitsB t l = true ↔ allL t l ≠ [] := by
  rw [fits_tru hv]
  constructor
  · rintro ⟨ps, hp⟩
    have hpi := tru_iff.1 hp
    have hnd : (ps.map (·.1)).Nodup := (fresh_iff.1 hp.fresh).1
    have hat := fun p h => setAll_at ps (List.replicate l.length 0) hnd (fun k hk => by rw [List.length_replicate]; exact List.mem_range.1 (hpi.1.mem_iff.1 hk)) p h
    exact List.ne_nil_of_mem ((all_iff hv).2 ⟨by rw [setAll_length, List.length_replicate], ps, hp, hat⟩)
  · intro h
    obtain ⟨ds, hds⟩ := List.exists_mem_of_ne_nil _ h
    obtain ⟨_, ps, hp, _⟩ := (all_iff hv).1 hds
    exact ⟨ps, hp⟩
end Go.Proofs.Ytfcnombmphophaa
namespace Go.Proofs.Ytfcnombmphophaa
open Go.RowKit Go.Shelf
end Go.Proofs.Ytfcnombmphophaa
namespace Go.Proofs.Ytfcnombmphophaa
open Go.RowKit Go.Shelf
section
attribute [local irreducible] AnyK StepK
end
end Go.Proofs.Ytfcnombmphophaa
namespace Go.Proofs.Ytfcnombmphophaa
open Go.RowKit Go.Shelf
theorem eql46S {x y : Operand} {a b c d : Int} (h1 : a = c) (h2 : b = d) (w : World) : (do eqGuard .eql 46 x y (.agg #[.int .i64 a, .int .i64 b]) (.agg #[.int .i64 c, .int .i64 d]); binOp .eql 46 (.agg #[.int .i64 a, .int .i64 b]) (.agg #[.int .i64 c, .int .i64 d]) : Sem Value).run Try.prog w = .ok (.bool true) w := by
  subst h1
  subst h2
  exact eql46T _ _ _
section
variable {o t : Int} {A A2 : Option Addr} {l l2 : List Sale} {c c2 : Nat} {n_ on ow : Int} {b3 px B i : Nat} {a1 : Act} {W W1 : World} {Q : Exit → Act → World → Prop}
end
end Go.Proofs.Ytfcnombmphophaa
namespace Go.Proofs.Ytfcnombmphophaa
open Go.RowKit Go.Shelf
def width (l : List Sale) (n : Nat) : Nat := ((saleOf l n).hi + 1 - (saleOf l n).lo).toNat
def prodP (l : List Sale) (pre : List Int) : Nat → Nat
  | 0 => 1
  | i + 1 => prodP l pre i * (if hasI pre i then 1 else width l i)
theorem hasI_snoc (l : List Int) (x n : Int) : hasI (l ++ [x]) n = (hasI l n || x == n) := by simp [hasI]
theorem prodP_far {l : List Sale} {pre : List Int} {n : Nat} : ∀ m, m ≤ n → prodP l (pre ++ [(n : Int)]) m = prodP l pre m
  | 0, _ => rfl
  | m + 1, h => by
    unfold prodP
    rw [prodP_far m (by omega), hasI_snoc]
    have : ((n : Int) == (m : Int)) = false := by simp; omega
    rw [this, Bool.or_false]
theorem prodP_snoc {l : List Sale} {pre : List Int} {n : Nat} (h : hasI pre n = false) : ∀ m, n < m → width l n * prodP l (pre ++ [(n : Int)]) m = prodP l pre m
  | 0, hm => by omega
  | m + 1, hm => by
    unfold prodP
    rw [hasI_snoc]
    rcases Nat.lt_or_ge n m with h1 | h1
    · have : ((n : Int) == (m : Int)) = false := by simp; omega
      rw [this, Bool.or_false, ← prodP_snoc h m h1, Nat.mul_assoc]
    · obtain rfl : n = m := by omega
      rw [prodP_far n (Nat.le_refl _)]
      simp [h, Nat.mul_comm]
theorem prodP_pos {l : List Sale} {pre : List Int} (h : ∀ n, n < l.length → 1 ≤ width l n) : ∀ m, m ≤ l.length → 1 ≤ prodP l pre m
  | 0, _ => Nat.le_refl _
  | m + 1, hm => by
    unfold prodP
    have h1 := prodP_pos (pre := pre) h m (by omega)
    have h2 := h m (by omega)
    split
    · omega
    · exact Nat.mul_pos h1 h2
theorem flat_le {α : Type} {G : Nat → List α} {B : Nat} : ∀ n, (∀ k, k < n → (G k).length ≤ B) → ((List.range n).flatMap G).length ≤ n * B
  | 0, _ => by simp
  | n + 1, h => by
    rw [flat_step, List.length_append]
    have h1 := flat_le n fun k hk => h k (by omega)
    have h2 := h n (by omega)
    rw [Nat.succ_mul]
    omega
theorem allGo_le {t : Int} {l : List Sale} (h : ∀ n, n < l.length → 1 ≤ width l n) : ∀ (f : Nat) (pre days : List Int) (la : Int), (allGo t l f pre days la).length ≤ l.length ^ f * prodP l pre l.length
  | 0, pre, days, la => by
    show 1 ≤ _
    have := prodP_pos (pre := pre) h l.length (Nat.le_refl _)
    simpa using this
  | f + 1, pre, days, la => by
    unfold allGo
    rw [Nat.pow_succ, Nat.mul_comm (l.length ^ f) l.length, Nat.mul_assoc]
    refine flat_le l.length fun k hk => ?_
    cases hh : hasI pre (k : Int) with
    | true =>
      have := flat_le (G := fun j : Nat => if mayR t l pre la k ((saleOf l k).lo + j) then allGo t l f (pre ++ [(k : Int)]) (days.set k ((saleOf l k).lo + j)) ((saleOf l k).lo + j) else []) (B := 0) ((saleOf l k).hi + 1 - (saleOf l k).lo).toNat fun j hj => by
        have : mayR t l pre la k ((saleOf l k).lo + j) = false := by
          unfold mayR
          rw [hh]
          rfl
        simp [this]
      omega
    | false =>
      refine Nat.le_trans (flat_le (B := l.length ^ f * prodP l (pre ++ [(k : Int)]) l.length) _ fun j hj => ?_) ?_
      · split
        · exact allGo_le h f _ _ _
        · simp
      · rw [← prodP_snoc hh l.length hk]
        show width l k * _ ≤ _
        rw [Nat.mul_left_comm]
        exact Nat.le_refl _
/-- Of a batch that is few: not too many. -/
theorem allL_le {o t : Int} {l : List Sale} (hv : Valid o t l) (h5 : l.length ≤ 5) (hp : prodP l [] l.length ≤ 300) : (allL t l).length ≤ 1000000 := by
  have h := allGo_le (t := t) (l := l) (fun n hn => by
    have := saleOf_valid hv hn
    unfold width
    omega) l.length [] (List.replicate l.length 0) 0
  have h2 : l.length ^ l.length ≤ 5 ^ 5 := Nat.le_trans (Nat.pow_le_pow_left h5 _) (Nat.pow_le_pow_right (by omega) h5)
  have h3 := Nat.mul_le_mul h2 hp
  unfold allL
  omega
/-- The least and the greatest, from a start. -/
def minTo (a : Int) (g : Nat → Int) : Nat → Int
  | 0 => a
  | i + 1 => min (minTo a g i) (g i)
def maxTo (a : Int) (g : Nat → Int) : Nat → Int
  | 0 => a
  | i + 1 => max (maxTo a g i) (g i)
theorem minTo_spec (a : Int) (g : Nat → Int) : ∀ n, minTo a g n ≤ a ∧ (∀ i, i < n → minTo a g n ≤ g i) ∧ (minTo a g n = a ∨ ∃ i, i < n ∧ minTo a g n = g i)
  | 0 => ⟨Int.le_refl _, fun i h => by omega, .inl rfl⟩
  | n + 1 => by
    obtain ⟨h1, h2, h3⟩ := minTo_spec a g n
    unfold minTo
    refine ⟨by omega, fun i hi => ?_, ?_⟩
    · rcases Nat.lt_or_ge i n with h | h
      · have := h2 i h
        omega
      · obtain rfl : i = n := by omega
        omega
    · rcases Int.le_total (minTo a g n) (g n) with h | h
      · rw [Int.min_eq_left h]
        exact h3.imp id fun ⟨i, hi, e⟩ => ⟨i, by omega, e⟩
      · rw [Int.min_eq_right h]
        exact .inr ⟨n, by omega, rfl⟩
theorem maxTo_spec (a : Int) (g : Nat → Int) : ∀ n, a ≤ maxTo a g n ∧ (∀ i, i < n → g i ≤ maxTo a g n) ∧ (maxTo a g n = a ∨ ∃ i, i < n ∧ maxTo a g n = g i)
  | 0 => ⟨Int.le_refl _, fun i h => by omega, .inl rfl⟩
  | n + 1 => by
    obtain ⟨h1, h2, h3⟩ := maxTo_spec a g n
    unfold maxTo
    refine ⟨by omega, fun i hi => ?_, ?_⟩
    · rcases Nat.lt_or_ge i n with h | h
      · have := h2 i h
        omega
      · obtain rfl : i = n := by omega
        omega
    · rcases Int.le_total (maxTo a g n) (g n) with h | h
      · rw [Int.max_eq_right h]
        exact .inr ⟨n, by omega, rfl⟩
      · rw [Int.max_eq_left h]
        exact h3.imp id fun ⟨i, hi, e⟩ => ⟨i, by omega, e⟩
/-- They are the ends of what is there. -/
theorem ends_eq {g : Nat → Int} {n : Nat} {a b lo hi : Int} (h1 : ∀ i, i < n → lo ≤ g i ∧ g i ≤ hi) (h2 : ∃ i, i < n ∧ g i = lo) (h3 : ∃ i, i < n ∧ g i = hi) (ha : lo ≤ a) (hb : b ≤ hi) : minTo a g n = lo ∧ maxTo b g n = hi := by
  obtain ⟨i, hi1, ei⟩ := h2
  obtain ⟨j, hj1, ej⟩ := h3
  obtain ⟨m1, m2, m3⟩ := minTo_spec a g n
  obtain ⟨M1, M2, M3⟩ := maxTo_spec b g n
  have := m2 i hi1
  have := M2 j hj1
  constructor
  · rcases m3 with e | ⟨q, hq, e⟩
    · omega
    · have := h1 q hq
      omega
  · rcases M3 with e | ⟨q, hq, e⟩
    · omega
    · have := h1 q hq
      omega
def eveAt (t : Int) (l : List Sale) (ow : Nat) (on : Int) (i : Nat) : Int := stockR t l (eveL ((allL t l)[i]?.getD []) on l.length) ow
end Go.Proofs.Ytfcnombmphophaa
namespace Go.Proofs.Ytfcnombmphophaa
open Go.RowKit Go.Shelf
theorem eve_fair {o t : Int} {l : List Sale} (hv : Valid o t l) {ps : List (Nat × Int)} (hp : TruP t l ps) {on : Int} (h0 : 0 ≤ on) (h1 : on ≤ 100) : Fair o t (stocksOf t l (eveSet ps on)) := by
  obtain ⟨_, e2⟩ := tru_eve hv hp h0 h1
  unfold eveB at e2
  rw [Bool.and_eq_true, decide_eq_true_eq] at e2
  exact fair_early hv (d := eveSet ps on) (by omega)
theorem hold_facts {o t : Int} {l : List Sale} (hv : Valid o t l) {ps : List (Nat × Int)} (hp : TruP t l ps) {on : Int} (h0 : 0 ≤ on) (h1 : on ≤ 100) {ow : Nat} (ho : (ow : Int) < o) :
    0 ≤ (holdsR t l ow on).1 ∧ (holdsR t l ow on).1 ≤ stocksOf t l (eveSet ps on) ow ∧ stocksOf t l (eveSet ps on) ow ≤ (holdsR t l ow on).2 ∧ (holdsR t l ow on).2 ≤ 1000 := by
  have hF : fitsB t l = true := (fits_tru hv).2 ⟨ps, hp⟩
  obtain ⟨a, ⟨qs, b1, b2⟩, rs, c1, c2⟩ := holds_sem hv hF ho h0 h1
  have h2 := (eve_fair hv b1 h0 h1).pos ow
  have h3 := (eve_fair hv c1 h0 h1).le (i := ow) (by omega)
  have h4 := a ps hp
  have h5 := hv.t1
  omega
end Go.Proofs.Ytfcnombmphophaa
namespace Go.Proofs.Ytfcnombmphophaa
open Go.RowKit Go.Shelf
noncomputable def opsTs13 : Array Oper := (Try.f80.body.bind (regionOf 13)).getD #[]
/-- What a call for the truths gives. -/
abbrev LP (W : World) (ys : List (List Int)) : Ending → World → Prop := fun e w' => ∃ v, e = .returned v ∧ LL W v ys w'
section
attribute [local irreducible] AnyK StepK
set_option maxHeartbeats 1000000 in
theorem tailTs {K : Act → World → Prop} {a : Act} {W0 Wt W5 : World} {b3 nl c k p c2 : Nat} {o t dy : Int} {A A2 : Option Addr} {pre nx : List Int} {v vout : Value} {xs ys : List (List Int)} {listed : Array Bool} (hL : listed = #[true, true, true, true, true, true, true, false, true, true, false, false, false]) (hsz : a.tmps.size = 74)
    (x61 : a.eval (.tmp 61) = vout) (x62 : a.eval (.tmp 62) = .agg #[.int .i64 o, .int .i64 t, .slice A nl c]) (x65 : a.eval (.tmp 65) = v) (x67 : a.eval (.tmp 67) = .slice (some ⟨p, 0, none⟩) 1 1) (x69 : a.eval (.tmp 69) = .slice A2 nx.length c2) (x70 : a.eval (.tmp 70) = .int .i64 dy)
    (hol : OL W5 v pre Wt) (hp : Wt.cell? ⟨p, 0, none⟩ = some (.int .i64 k)) (hb3 : b3 < W0.heap.size) (h05 : Below W0.heap.size W0 W5) (hpre : pre.length ≤ 1000) (hR : RCn b3 o t A nl c Wt) (hout : LL W0 vout xs W5) (hlen : xs.length + ys.length ≤ 1099511627776)
    (hrec : ∀ W v, RI W v (pre ++ [(k : Int)]) → Below W5.heap.size W5 W → Calls Try.prog 80 #[.agg #[.int .i64 o, .int .i64 t, .slice A nl c], v, .slice A2 nx.length c2, .int .i64 dy] W (LP W ys))
    (hK : ∀ a' W' v', LL W0 v' (xs ++ ys) W' → a'.tmps.size = 74 → a'.defers = a.defers → a'.eval (.tmp 9) = v' → (∀ e : Nat, e < 61 → e ≠ 9 → a'.eval (.tmp e) = a.eval (.tmp e)) → K a' W') :
    AnyK Try.prog opsTs13 K (KpR (RCn b3 o t A nl c) (fun _ => false)) 4 listed a Wt := by
  subst hL
  have hb35 : b3 < W5.heap.size := by have := h05.size; omega
  refine AnyK.pick1 (i := 7) (by kernel_rfl) ?_
  refine StepK.app1 (i := 7) rfl (by kernel_rfl) hol x65 x67 hp hpre ?_
  intro v' W' ho hkeep
  have hR' : RCn b3 o t A nl c W' := hR.of fun i u h => hkeep _ _ _ hb35 h
  refine ⟨fun _ hr => hr.of fun i u h => hkeep _ _ _ hb35 h, ?_⟩
  refine AnyK.pick1 (i := 10) (by kernel_rfl) ?_
  refine StepK.call (i := 10) (f := 80) (vs := #[.agg #[.int .i64 o, .int .i64 t, .slice A nl c], v', .slice A2 nx.length c2, .int .i64 dy]) rfl (enters_of Try.func80 (by kernel_rfl) rfl) (by simp) (by simp [hsz, x62, x69, x70]) ((hrec W' v' ho.ints ho.low).mono ?_)
  rintro _ W10 ⟨u, rfl, hsub⟩
  have hb10 := hsub.low
  have hk10 : ∀ i u, W'.cell? ⟨b3, i, none⟩ = some u → W10.cell? ⟨b3, i, none⟩ = some u := fun i u h => (hb10.cell (p := ⟨b3, i, none⟩) (by have := ho.low.size; simp only; omega)).trans h
  have hR10 := hR'.of hk10
  refine ⟨_, rfl, fun _ hr => hr.of hk10, ?_⟩
  have h0' : Below W0.heap.size W0 W' := h05.trans (ho.low.mono h05.size)
  have hout10 : LL W0 vout xs W10 := (hout.below ho.low).below hb10
  refine AnyK.pick1 (i := 11) (by kernel_rfl) ?_
  refine StepK.app49 (i := 11) rfl (by kernel_rfl) hout10 (by simp [x61]) (hsub.base h0') (by simp [hsz]) hlen ?_
  intro v11 W11 h11 hkeep11
  have hk11 : ∀ i u, W10.cell? ⟨b3, i, none⟩ = some u → W11.cell? ⟨b3, i, none⟩ = some u := fun i u h => hkeep11 _ _ _ hb3 h
  refine ⟨fun _ hr => hr.of hk11, ?_⟩
  refine AnyK.assign (i := 12) may_o (v := v11) (by simp [hsz]) (hR10.of hk11) ?_
  refine AnyK.done (by kernel_rfl) (hK _ _ v11 h11 ?_ ?_ ?_ ?_)
  · simp only [size_put, hsz]
  · simp only [defers_put]
  · simp [hsz]
  · intro e he he9
    iterate 4 refine (ev_ne (by omega)).trans ?_
    rfl
set_option maxHeartbeats 2000000 in
theorem regionTs13 {F : Fence} {nF : Nat} (hF : WideF F Try.prog) {Q : Exit → Act → World → Prop} {a : Act} {W0 w : World} {b3 nl c k c1 c2 : Nat} {o t dy : Int} {A A1 A2 : Option Addr} {pre nx : List Int} {vout : Value} {xs ys : List (List Int)} (hsz : a.tmps.size = 74)
    (t1 : a.eval (.tmp 1) = .slice A1 pre.length c1) (t4 : a.eval (.tmp 4) = .pointer (some ⟨b3, 0, none⟩)) (t9 : a.eval (.tmp 9) = vout) (t10 : a.eval (.tmp 10) = .int .i64 k) (t11 : a.eval (.tmp 11) = .int .i64 dy) (t12 : a.eval (.tmp 12) = .slice A2 nx.length c2)
    (hR : RCn b3 o t A nl c w) (hord : IntsAt w w.heap.size A1 pre) (hpre : pre.length ≤ 1000) (hb3 : b3 < W0.heap.size) (h0 : Below W0.heap.size W0 w) (hout : LL W0 vout xs w) (hlen : xs.length + ys.length ≤ 1099511627776)
    (hrec : ∀ W v, RI W v (pre ++ [(k : Int)]) → Below w.heap.size w W → Calls Try.prog 80 #[.agg #[.int .i64 o, .int .i64 t, .slice A nl c], v, .slice A2 nx.length c2, .int .i64 dy] W (LP W ys))
    (hK : ∀ a' W' v', LL W0 v' (xs ++ ys) W' → a'.tmps.size = 74 → a'.defers = a.defers → a'.eval (.tmp 9) = v' → (∀ e : Nat, e < 61 → e ≠ 9 → a'.eval (.tmp e) = a.eval (.tmp e)) → Q .normal a' W') :
    (Code.region 13 opsTs13 true).wpIn F nF Try.prog Q a w := by
  have hB : Below w.heap.size w w.drew := (Below.refl _ _).drew
  refine region_K (KpR (RCn b3 o t A nl c) (fun _ => false)) hF (by kernel_rfl) Try.mixed ?_
  change AnyK _ _ _ _ 13 (Array.replicate 13 false) _ _
  have hR5 : RCn b3 o t A nl c w.drew := hR
  have hord5 : IntsAt w.drew w.drew.heap.size A1 pre := (hord.below hB (Nat.le_refl _)).more hB.size
  have hout5 : LL W0 vout xs w.drew := hout.below hB
  have h05 : Below W0.heap.size W0 w.drew := h0.trans (hB.mono h0.size)
  have hrec5 : ∀ W v, RI W v (pre ++ [(k : Int)]) → Below w.drew.heap.size w.drew W → Calls Try.prog 80 #[.agg #[.int .i64 o, .int .i64 t, .slice A nl c], v, .slice A2 nx.length c2, .int .i64 dy] W (LP W ys) := fun W v hv hb => hrec W v hv (hB.trans (hb.mono hB.size))
  clear hR hord hout h0 hrec
  generalize w.drew = W5 at *
  clear hB w
  have hb35 : b3 < W5.heap.size := by have := h05.size; omega
  refine AnyK.move (i := 0) may_o (v := vout) (by simp [t9]) hR5 ?_
  refine AnyK.load (i := 1) may_o (p := ⟨b3, 0, none⟩) (v := .agg #[.int .i64 o, .int .i64 t, .slice A nl c]) (by simp [t4]) (fun w hw => ld24 hw) hR5 ?_
  refine AnyK.move (i := 3) may_o (v := .slice A1 pre.length c1) (by simp [t1]) hR5 ?_
  refine AnyK.move (i := 5) may_o (v := .int .i64 k) (by simp [t10]) hR5 ?_
  refine AnyK.move (i := 8) may_o (v := .slice A2 nx.length c2) (by simp [t12]) hR5 ?_
  refine AnyK.move (i := 9) may_o (v := .int .i64 dy) (by simp [t11]) hR5 ?_
  generalize hA : Act.put _ _ _ = a5
  have z5 : a5.tmps.size = 74 := by rw [← hA]; simp only [size_put, hsz]
  have df5 : a5.defers = a.defers := by rw [← hA]; simp only [defers_put]
  have x61 : a5.eval (.tmp 61) = vout := by rw [← hA]; exact (by simp [hsz])
  have x62 : a5.eval (.tmp 62) = .agg #[.int .i64 o, .int .i64 t, .slice A nl c] := by rw [← hA]; exact (by simp [hsz])
  have x64 : a5.eval (.tmp 64) = .slice A1 pre.length c1 := by rw [← hA]; exact (by simp [hsz])
  have x66 : a5.eval (.tmp 66) = .int .i64 k := by rw [← hA]; exact (by simp [hsz])
  have x69 : a5.eval (.tmp 69) = .slice A2 nx.length c2 := by rw [← hA]; exact (by simp [hsz])
  have x70 : a5.eval (.tmp 70) = .int .i64 dy := by rw [← hA]; exact (by simp [hsz])
  have hrest : ∀ e : Nat, e < 61 → a5.eval (.tmp e) = a.eval (.tmp e) := by
    intro e he
    rw [← hA]
    iterate 6 refine (ev_ne (by omega)).trans ?_
    rfl
  clear hA
  have hfin : ∀ (a6 a' : Act) (W' : World) (v' : Value), a6.defers = a5.defers → (∀ e : Nat, e < 61 → a6.eval (.tmp e) = a5.eval (.tmp e)) → LL W0 v' (xs ++ ys) W' → a'.tmps.size = 74 → a'.defers = a6.defers → a'.eval (.tmp 9) = v' → (∀ e : Nat, e < 61 → e ≠ 9 → a'.eval (.tmp e) = a6.eval (.tmp e)) → Q .normal a' W' := fun a6 a' W' v' h1 h2 h3 h4 h5 h6 h7 =>
    hK a' W' v' h3 h4 (h5.trans (h1.trans df5)) h6 (fun e he he9 => (h7 e he he9).trans ((h2 e he).trans (hrest e he)))
  clear hK
  refine AnyK.pick2 (i := 2) (j := 6) (by kernel_rfl) ?_ ?_
  · refine StepK.build (i := 2) (ps := #[]) rfl (by simp) (bs25_z _) (fun _ hr => hr.of fun i u h => cell_alloc_l _ h) ?_
    have hol8 := ol_nil (Below.refl W5.heap.size W5)
    have hR8 : RCn b3 o t A nl c (W5.alloc (.cells #[] 3)) := hR5.of fun i u h => cell_alloc_l _ h
    have hord8 : IntsAt (W5.alloc (.cells #[] 3)) W5.heap.size A1 pre := hord5.below hol8.low (Nat.le_refl _)
    generalize W5.alloc (.cells #[] 3) = W8 at *
    refine AnyK.pick2 (i := 4) (j := 6) (by kernel_rfl) ?_ ?_
    · refine StepK.cpy (i := 4) (c := c1) rfl (by kernel_rfl) hol8 (by simp [z5]) (by simp [x64]) hord8 hpre ?_
      intro v' W10 ho hkeep _
      have hk10 : ∀ i u, W8.cell? ⟨b3, i, none⟩ = some u → W10.cell? ⟨b3, i, none⟩ = some u := fun i u h => hkeep _ _ _ (by omega) h
      have hR10 := hR8.of hk10
      refine ⟨fun _ hr => hr.of hk10, ?_⟩
      refine AnyK.pick1 (i := 6) (by kernel_rfl) ?_
      refine StepK.build (i := 6) (ps := #[(0, .int .i64 k)]) rfl (by simp [x66]) (bs25_1 _ _) (fun _ hr => hr.of fun i u h => cell_alloc_l _ h) ?_
      refine tailTs (by kernel_rfl) (by simp only [size_put, z5]) (by simp [x61]) (by simp [x62]) (by simp [z5]) (by simp [z5]) (by simp [x69]) (by simp [x70]) (ho.below ((Below.refl _ _).alloc (Nat.le_refl _) (.cells #[.int .i64 k] 3))) (cell_new1 W10 _ _) hb3 h05 hpre (hR10.of fun i u h => cell_alloc_l _ h) hout5 hlen hrec5 (fun a' W' v' h3 h4 h5 h6 h7 => hfin _ a' W' v' (by simp only [defers_put]) ?_ h3 h4 h5 h6 h7)
      intro e he
      iterate 3 refine (ev_ne (by omega)).trans ?_
      rfl
    · refine StepK.build (i := 6) (ps := #[(0, .int .i64 k)]) rfl (by simp [x66]) (bs25_1 _ _) (fun _ hr => hr.of fun i u h => cell_alloc_l _ h) ?_
      have hb12 : Below W8.heap.size W8 (W8.alloc (.cells #[.int .i64 k] 3)) := (Below.refl _ _).alloc (Nat.le_refl _) _
      have hol12 := hol8.below hb12
      have hR12 : RCn b3 o t A nl c (W8.alloc (.cells #[.int .i64 k] 3)) := hR8.of fun i u h => cell_alloc_l _ h
      have hord12 := hord8.below hb12 hol8.low.size
      have hp12 := cell_new1 W8 (.int .i64 k) 3
      have hg8 : W5.heap.size < W8.heap.size := (hol8.own.lt W5.heap.size rfl).2
      generalize W8.alloc (.cells #[.int .i64 k] 3) = W12 at *
      refine AnyK.pick1 (i := 4) (by kernel_rfl) ?_
      refine StepK.cpy (i := 4) (c := c1) rfl (by kernel_rfl) hol12 (by simp [z5]) (by simp [x64]) hord12 hpre ?_
      intro v' W10 ho hkeep _
      have hk10 : ∀ i u, W12.cell? ⟨b3, i, none⟩ = some u → W10.cell? ⟨b3, i, none⟩ = some u := fun i u h => hkeep _ _ _ (by omega) h
      refine ⟨fun _ hr => hr.of hk10, ?_⟩
      refine tailTs (by kernel_rfl) (by simp only [size_put, z5]) (by simp [x61]) (by simp [x62]) (by simp [z5]) (by simp [z5]) (by simp [x69]) (by simp [x70]) ho (hkeep _ _ _ (by omega) hp12) hb3 h05 hpre (hR12.of hk10) hout5 hlen hrec5 (fun a' W' v' h3 h4 h5 h6 h7 => hfin _ a' W' v' (by simp only [defers_put]) ?_ h3 h4 h5 h6 h7)
      intro e he
      iterate 3 refine (ev_ne (by omega)).trans ?_
      rfl
  · refine StepK.build (i := 6) (ps := #[(0, .int .i64 k)]) rfl (by simp [x66]) (bs25_1 _ _) (fun _ hr => hr.of fun i u h => cell_alloc_l _ h) ?_
    have hb12 : Below W5.heap.size W5 (W5.alloc (.cells #[.int .i64 k] 3)) := (Below.refl _ _).alloc (Nat.le_refl _) _
    have hR12 : RCn b3 o t A nl c (W5.alloc (.cells #[.int .i64 k] 3)) := hR5.of fun i u h => cell_alloc_l _ h
    have hord12 := hord5.below hb12 (Nat.le_refl _)
    have hp12 := cell_new1 W5 (.int .i64 k) 3
    have hg12 : W5.heap.size < (W5.alloc (.cells #[.int .i64 k] 3)).heap.size := by simp
    generalize W5.alloc (.cells #[.int .i64 k] 3) = W12 at *
    refine AnyK.pick1 (i := 2) (by kernel_rfl) ?_
    refine StepK.build (i := 2) (ps := #[]) rfl (by simp) (bs25_z _) (fun _ hr => hr.of fun i u h => cell_alloc_l _ h) ?_
    have hol8 := ol_nil hb12
    have hR8 : RCn b3 o t A nl c (W12.alloc (.cells #[] 3)) := hR12.of fun i u h => cell_alloc_l _ h
    have hord8 : IntsAt (W12.alloc (.cells #[] 3)) W5.heap.size A1 pre := hord12.below ((Below.refl W12.heap.size W12).alloc (Nat.le_refl _) (.cells #[] 3)) (by omega)
    have hp8 : (W12.alloc (.cells #[] 3)).cell? ⟨W5.heap.size, 0, none⟩ = some (.int .i64 k) := cell_alloc_l _ hp12
    generalize W12.alloc (.cells #[] 3) = W8 at *
    refine AnyK.pick1 (i := 4) (by kernel_rfl) ?_
    refine StepK.cpy (i := 4) (c := c1) rfl (by kernel_rfl) hol8 (by simp [z5]) (by simp [x64]) hord8 hpre ?_
    intro v' W10 ho hkeep _
    have hk10 : ∀ i u, W8.cell? ⟨b3, i, none⟩ = some u → W10.cell? ⟨b3, i, none⟩ = some u := fun i u h => hkeep _ _ _ (by omega) h
    refine ⟨fun _ hr => hr.of hk10, ?_⟩
    refine tailTs (by kernel_rfl) (by simp only [size_put, z5]) (by simp [x61]) (by simp [x62]) (by simp [z5]) (by simp [z5]) (by simp [x69]) (by simp [x70]) ho (hkeep _ _ _ (by omega) hp8) hb3 h05 hpre (hR8.of hk10) hout5 hlen hrec5 (fun a' W' v' h3 h4 h5 h6 h7 => hfin _ a' W' v' (by simp only [defers_put]) ?_ h3 h4 h5 h6 h7)
    intro e he
    iterate 3 refine (ev_ne (by omega)).trans ?_
    rfl
end
end Go.Proofs.Ytfcnombmphophaa
namespace Go.Proofs.Ytfcnombmphophaa
open Go.RowKit Go.Shelf
noncomputable def opsTs0 : Array Oper := (Try.f80.body.bind (regionOf 0)).getD #[]
noncomputable def opsTs1 : Array Oper := (Try.f80.body.bind (regionOf 1)).getD #[]
noncomputable def opsTs2 : Array Oper := (Try.f80.body.bind (regionOf 2)).getD #[]
noncomputable def opsTs3 : Array Oper := (Try.f80.body.bind (regionOf 3)).getD #[]
noncomputable def opsTs4 : Array Oper := (Try.f80.body.bind (regionOf 4)).getD #[]
noncomputable def opsTs5 : Array Oper := (Try.f80.body.bind (regionOf 5)).getD #[]
noncomputable def opsTs6 : Array Oper := (Try.f80.body.bind (regionOf 6)).getD #[]
noncomputable def opsTs7 : Array Oper := (Try.f80.body.bind (regionOf 7)).getD #[]
noncomputable def opsTs8 : Array Oper := (Try.f80.body.bind (regionOf 8)).getD #[]
noncomputable def opsTs9 : Array Oper := (Try.f80.body.bind (regionOf 9)).getD #[]
noncomputable def opsTs10 : Array Oper := (Try.f80.body.bind (regionOf 10)).getD #[]
noncomputable def opsTs11 : Array Oper := (Try.f80.body.bind (regionOf 11)).getD #[]
noncomputable def opsTs12 : Array Oper := (Try.f80.body.bind (regionOf 12)).getD #[]
noncomputable def opsTs14 : Array Oper := (Try.f80.body.bind (regionOf 14)).getD #[]
noncomputable def ts_i : Code := (.seq (.seq (.region 8 opsTs8 false) (.cond (.tmp 45) .skip (.exit 2))) (.seq (.block 3 (.seq (.region 10 opsTs10 false) (.cond (.tmp 53) (.seq (.region 11 opsTs11 false) (.seq (.region 12 opsTs12 false) (.region 13 opsTs13 true))) .skip))) (.region 9 opsTs9 false)))
noncomputable def ts_l : Code := (.seq (.seq (.region 5 opsTs5 false) (.cond (.tmp 27) .skip (.exit 0))) (.seq (.block 1 (.seq (.region 7 opsTs7 false) (.block 2 (.loop ts_i)))) (.region 6 opsTs6 false)))
noncomputable def ts_e : Code := (.seq (.region 14 opsTs14 false) .ret)
noncomputable def code80 : Code := (.seq (.region 0 opsTs0 false) (.seq (.seq (.region 1 opsTs1 false) (.cond (.tmp 18) (.seq (.region 2 opsTs2 false) .ret) .skip)) (.seq (.region 3 opsTs3 false) (.seq (.seq (.region 4 opsTs4 false) (.block 0 (.loop ts_l))) ts_e))))
theorem body80 : Try.f80.body = some code80 := by kernel_rfl
section
variable {ops : Array Oper} {K : Act → World → Prop} {k i d : Nat} {a : Act} {w : World} {ty : TypeId} {pos : String} {aft : Array Edge}
/-- append of a list to an empty one that is owned. -/
theorem ListK.cpy {s x : Operand} (hi : ops[i]? = some ⟨some d, .call { callee := .builtin .append, args := #[s, x], argTypes := #[25, 25] }, ty, pos, aft, none⟩)
    {W0 : World} {g c B : Nat} {A : Option Addr} {ys : List Int} (hol : OL W0 (.slice (some ⟨g, 0, none⟩) 0 0) [] w) (hs : a.eval s = .slice (some ⟨g, 0, none⟩) 0 0) (hx : a.eval x = .slice A ys.length c) (hy : IntsAt w B A ys) (hl : ys.length ≤ 1000)
    (h : ∀ v' w', OL W0 v' ys w' → ListK Try.prog ops K k (i + 1) (a.put (some d) v') w') : ListK Try.prog ops K (k + 1) i a w := by
  by_cases h0 : ys.length = 0
  · obtain rfl : ys = [] := List.eq_nil_of_length_eq_zero h0
    exact ListK.app25z hi hs hx (by omega) (h _ _ hol)
  · obtain ⟨b, off, hA, hb, _⟩ := hy 0 ys[0] (List.getElem?_eq_getElem (by omega))
    subst hA
    refine ListK.app25 hi hol.own hs ⟨b, off, none⟩ ys.length c (ys.map (Value.int .i64)) hx (by simp) (by omega) ?_ ?_ (by simp; unfold maxLen; omega) (by simp; omega) hol.low.size ?_
    · intro j u hu
      rw [List.getElem?_map, Option.map_eq_some_iff] at hu
      obtain ⟨x, hx, rfl⟩ := hu
      obtain ⟨b', off', e, _, hc⟩ := hy j x hx
      cases e
      simp only [Addr.add]
      split
      · rename_i h0
        subst h0
        exact hc
      · exact hc
    · intro u hu
      obtain ⟨x, _, rfl⟩ := List.mem_map.1 hu
      rfl
    · intro g' cap w' ho hgr _
      simp only [List.map_nil, List.nil_append, List.length_nil, Nat.zero_add] at ho ⊢
      exact h _ w' ⟨hol.low.grown hgr hol.low.size (fun k e => (hol.own.lt k e).1), ho⟩
end
theorem bs49_1 (w : World) (A : Option Addr) (n c : Nat) : (Instr.buildSlice 49 1 #[(0, .slice A n c)]).run Try.prog w = .ok (.slice (some ⟨w.heap.size, 0, none⟩) 1 1) (w.alloc (.cells #[.slice A n c] 25)) := by
  kernel_rfl
theorem OL.at {W0 W : World} {A : Option Addr} {n c : Nat} {xs : List Int} (h : OL W0 (.slice A n c) xs W) : IntsAt W W.heap.size A xs := by
  obtain ⟨A', c', e, _, h'⟩ := h.ints
  cases e
  exact h'
/-- The truths that a sale on a day gives. -/
def dayGo (t : Int) (l : List Sale) (f : Nat) (pre days : List Int) (la : Int) (n : Nat) (d : Int) : List (List Int) := if mayR t l pre la n d then allGo t l f (pre ++ [(n : Int)]) (days.set n d) d else []
/-- The contract. -/
def TsC (o t : Int) (A : Option Addr) (l : List Sale) (c f : Nat) : Prop := ∀ (pre days : List Int) (la : Int) (A1 : Option Addr) (c1 : Nat) (A2 : Option Addr) (c2 : Nat) (W : World), pre.length + f = l.length → (∀ d, d ∈ pre → 0 ≤ d ∧ d < l.length) → days.length = l.length →
  SalesAt W W.heap.size A l → IntsAt W W.heap.size A1 pre → IntsAt W W.heap.size A2 days → (allGo t l f pre days la).length ≤ 1099511627776 →
  Calls Try.prog 80 #[.agg #[.int .i64 o, .int .i64 t, .slice A l.length c], .slice A1 pre.length c1, .slice A2 days.length c2, .int .i64 la] W (LP W (allGo t l f pre days la))
/-- The frame; the memory. -/
def TsF (b3 n1 c1 n2 c2 k : Nat) (A1 A2 : Option Addr) (la : Int) (vo : Value) (a : Act) : Prop := a.tmps.size = 74 ∧ a.defers = [] ∧ a.eval (.tmp 1) = .slice A1 n1 c1 ∧ a.eval (.tmp 2) = .slice A2 n2 c2 ∧ a.eval (.tmp 3) = .int .i64 la ∧ a.eval (.tmp 4) = .pointer (some ⟨b3, 0, none⟩) ∧ a.eval (.tmp 9) = vo ∧ a.eval (.tmp 10) = .int .i64 k
def TsW (b3 c : Nat) (o t : Int) (A A1 A2 : Option Addr) (l : List Sale) (pre days : List Int) (W : World) : Prop := Whole W b3 24 #[.int .i64 o, .int .i64 t, .slice A l.length c] ∧ SalesAt W W.heap.size A l ∧ IntsAt W W.heap.size A1 pre ∧ IntsAt W W.heap.size A2 days
theorem TsW.below {W' W'' : World} {b3 c : Nat} {o t : Int} {A A1 A2 : Option Addr} {l : List Sale} {pre days : List Int} (h : TsW b3 c o t A A1 A2 l pre days W') (hb : Below W'.heap.size W' W'') : TsW b3 c o t A A1 A2 l pre days W'' := by
  obtain ⟨h2, h3, h4, h5⟩ := h
  exact ⟨h2.below hb h2.lt, (h3.below hb (Nat.le_refl _)).more hb.size, (h4.below hb (Nat.le_refl _)).more hb.size, (h5.below hb (Nat.le_refl _)).more hb.size⟩
section
variable {o t la day : Int} {A A1 A2 : Option Addr} {l : List Sale} {pre days : List Int} {c c1 c2 b3 k f : Nat} {vo : Value} {xs : List (List Int)} {a1 : Act} {W1 W2 : World} {Q : Exit → Act → World → Prop}
set_option maxHeartbeats 4000000 in
/-- A sale on a day. -/
theorem ts_body (hl : l.length ≤ 12) (ht0 : 0 ≤ t) (ht : t ≤ 1000) (hm : ∀ s, s ∈ l → 0 ≤ s.many ∧ s.many ≤ 1000) (hk : k < l.length) (hpf : pre.length + (f + 1) = l.length) (hdn : ∀ d, d ∈ pre → 0 ≤ d ∧ d < l.length) (hdl : days.length = l.length) 
    (ih : TsC o t A l c f) (hlen : xs.length + (dayGo t l f pre days la k day).length ≤ 1099511627776)
    (hf : TsF b3 pre.length c1 days.length c2 k A1 A2 la vo a1) (u11 : a1.eval (.tmp 11) = .int .i64 day) (hw1 : TsW b3 c o t A A1 A2 l pre days W1) (hL : LL W1 vo xs W2)
    (hQ : ∀ a' W' vo', TsF b3 pre.length c1 days.length c2 k A1 A2 la vo' a' → a'.eval (.tmp 11) = .int .i64 day → LL W1 vo' (xs ++ dayGo t l f pre days la k day) W' → Q .normal a' W') :
    (Code.seq (.region 10 opsTs10 false) (.cond (.tmp 53) (.seq (.region 11 opsTs11 false) (.seq (.region 12 opsTs12 false) (.region 13 opsTs13 true))) .skip)).wpIn Fence.wide 5 Try.prog Q a1 W2 := by
  obtain ⟨hz_a1, hd_a1, u1, u2, u3, u4, u9, u10⟩ := hf
  obtain ⟨wb, hs, h1, h2⟩ := hw1.below hL.low
  have hmayC : ∀ bb, mayR t l pre la k day = bb → CV W2 52 #[.agg #[.int .i64 o, .int .i64 t, .slice A l.length c], .slice A1 pre.length c1, .int .i64 la, .int .i64 k, .int .i64 day] (.bool bb) := fun bb hbb => cv_may hl rfl (by omega) ht0 ht hm hdn hk hs h1 hbb
  cases hmy : mayR t l pre la (k : Int) day with
  | false =>
    refine wpIn_seq (region_p 6 ?_)
    intro K hK
    refine ListK.load (i := 0) (p := ⟨b3, 0, none⟩) (v := .agg #[.int .i64 o, .int .i64 t, .slice A l.length c]) rfl (by simp [u4]) (ld24 ⟨wb.cell 0, wb.cell 1, wb.cell 2⟩) ?_
    refine ListK.move (i := 1) (v := .slice A1 pre.length c1) rfl (by simp [u1]) ?_
    refine ListK.move (i := 2) (v := .int .i64 la) rfl (by simp [u3]) ?_
    refine ListK.move (i := 3) (v := .int .i64 k) rfl (by simp [u10]) ?_
    refine ListK.move (i := 4) (v := .int .i64 day) rfl (by simp [u11]) ?_
    refine ListK.call (i := 5) (vs := #[.agg #[.int .i64 o, .int .i64 t, .slice A l.length c], .slice A1 pre.length c1, .int .i64 la, .int .i64 k, .int .i64 day]) rfl (enters_of Try.func52 (by kernel_rfl) rfl) (by simp [hz_a1]) (((hmayC _ hmy W2 (Below.refl _ _))).mono ?_)
    rintro _ W3 ⟨_, rfl, rfl, hb3'⟩
    refine ⟨_, rfl, ?_⟩
    refine ListK.done (hK _ _ ?_)
    clear hK K
    refine wpIn_cond (t := false) (by simp [hz_a1]) (wpIn_skip ?_)
    refine hQ _ W3 vo ⟨(by simp only [size_put, hz_a1]), (by simp only [defers_put, hd_a1]), (by simp [u1]), (by simp [u2]), (by simp [u3]), (by simp [u4]), (by simp [u9]), (by simp [u10])⟩ (by simp [u11]) ?_
    have e : dayGo t l f pre days la k day = [] := by
      unfold dayGo
      rw [hmy]
      rfl
    rw [e, List.append_nil]
    exact hL.below hb3'
  | true =>
    have e : dayGo t l f pre days la k day = allGo t l f (pre ++ [(k : Int)]) (days.set k day) day := by
      unfold dayGo
      rw [hmy]
      rfl
    rw [e] at hlen hQ
    refine wpIn_seq (region_p 6 ?_)
    intro K hK
    refine ListK.load (i := 0) (p := ⟨b3, 0, none⟩) (v := .agg #[.int .i64 o, .int .i64 t, .slice A l.length c]) rfl (by simp [u4]) (ld24 ⟨wb.cell 0, wb.cell 1, wb.cell 2⟩) ?_
    refine ListK.move (i := 1) (v := .slice A1 pre.length c1) rfl (by simp [u1]) ?_
    refine ListK.move (i := 2) (v := .int .i64 la) rfl (by simp [u3]) ?_
    refine ListK.move (i := 3) (v := .int .i64 k) rfl (by simp [u10]) ?_
    refine ListK.move (i := 4) (v := .int .i64 day) rfl (by simp [u11]) ?_
    refine ListK.call (i := 5) (vs := #[.agg #[.int .i64 o, .int .i64 t, .slice A l.length c], .slice A1 pre.length c1, .int .i64 la, .int .i64 k, .int .i64 day]) rfl (enters_of Try.func52 (by kernel_rfl) rfl) (by simp [hz_a1]) (((hmayC _ hmy W2 (Below.refl _ _))).mono ?_)
    rintro _ W3 ⟨_, rfl, rfl, hb3'⟩
    refine ⟨_, rfl, ?_⟩
    refine ListK.done (hK _ _ ?_)
    clear hK K
    refine wpIn_cond (t := true) (by simp [hz_a1]) ?_
    generalize hA : Act.put _ _ _ = a2
    have hz_a2 : a2.tmps.size = 74 := by rw [← hA]; simp only [size_put, hz_a1]
    have v1 : a2.eval (.tmp 1) = .slice A1 pre.length c1 := by rw [← hA]; exact (by simp [u1])
    have v2 : a2.eval (.tmp 2) = .slice A2 days.length c2 := by rw [← hA]; exact (by simp [u2])
    have v3 : a2.eval (.tmp 3) = .int .i64 la := by rw [← hA]; exact (by simp [u3])
    have v4 : a2.eval (.tmp 4) = .pointer (some ⟨b3, 0, none⟩) := by rw [← hA]; exact (by simp [u4])
    have v9 : a2.eval (.tmp 9) = vo := by rw [← hA]; exact (by simp [u9])
    have v10 : a2.eval (.tmp 10) = .int .i64 k := by rw [← hA]; exact (by simp [u10])
    have v11 : a2.eval (.tmp 11) = .int .i64 day := by rw [← hA]; exact (by simp [u11])
    have hd_a2 : a2.defers = [] := by rw [← hA]; simp only [defers_put, hd_a1]
    clear hA
    replace hL := hL.below hb3'
    clear wb hs h1 h2 hmayC hb3'
    obtain ⟨wb, hs, h1, h2⟩ := hw1.below hL.low
    have hol := ol_nil (Below.refl W3.heap.size W3)
    have hola : Below W3.heap.size W3 (W3.alloc (.cells #[] 3)) := hol.low
    refine wpIn_seq (region_p 4 ?_)
    intro K hK
    refine ListK.bsl (i := 0) (ps := #[]) (v := .slice (some ⟨W3.heap.size, 0, none⟩) 0 0) rfl (by simp []) (bs25_z _) ?_
    refine ListK.move (i := 1) (v := .slice A2 days.length c2) rfl (by simp [v2]) ?_
    refine ListK.cpy (i := 2) (c := c2) rfl hol (by simp [hz_a2]) (by simp [hz_a2]) (h2.below hola (Nat.le_refl _)) (by omega) ?_
    intro vn W11 ho11
    refine ListK.assign (i := 3) (v := vn) rfl (by simp [hz_a2]) ?_
    refine ListK.done (hK _ _ ?_)
    clear hK K
    generalize hA : Act.put _ _ _ = a3
    have hz_a3 : a3.tmps.size = 74 := by rw [← hA]; simp only [size_put, hz_a2]
    have w1 : a3.eval (.tmp 1) = .slice A1 pre.length c1 := by rw [← hA]; exact (by simp [v1])
    have w2 : a3.eval (.tmp 2) = .slice A2 days.length c2 := by rw [← hA]; exact (by simp [v2])
    have w3 : a3.eval (.tmp 3) = .int .i64 la := by rw [← hA]; exact (by simp [v3])
    have w4 : a3.eval (.tmp 4) = .pointer (some ⟨b3, 0, none⟩) := by rw [← hA]; exact (by simp [v4])
    have w9 : a3.eval (.tmp 9) = vo := by rw [← hA]; exact (by simp [v9])
    have w10 : a3.eval (.tmp 10) = .int .i64 k := by rw [← hA]; exact (by simp [v10])
    have w11 : a3.eval (.tmp 11) = .int .i64 day := by rw [← hA]; exact (by simp [v11])
    have w12 : a3.eval (.tmp 12) = vn := by rw [← hA]; exact (by simp [hz_a2])
    have hd_a3 : a3.defers = [] := by rw [← hA]; simp only [defers_put, hd_a2]
    clear hA
    obtain ⟨g, cap, rfl, hg3, hgl⟩ := ho11.own.form (by omega)
    have hrow := row_of_list ho11.own rfl k (by omega)
    refine wpIn_seq (region_p 5 ?_)
    intro K hK
    refine ListK.move (i := 0) (v := .slice (some ⟨g, 0, none⟩) days.length cap) rfl (by simp [w12]) ?_
    refine ListK.move (i := 1) (v := .int .i64 k) rfl (by simp [w10]) ?_
    refine ListK.move (i := 2) (v := .int .i64 day) rfl (by simp [w11]) ?_
    refine ListK.index (i := 3) (u := .slice (some ⟨g, 0, none⟩) days.length cap) (u' := .int .i64 k) (v := .pointer (some ⟨g, k, none⟩)) rfl (by simp [hz_a3]) (by simp [hz_a3]) (ix25 (by omega) _) ?_
    refine ListK.store (i := 4) (u := .pointer (some ⟨g, k, none⟩)) (u' := .int .i64 day) rfl (by simp [hz_a3]) (by simp [hz_a3]) (st3 hrow.1 hrow.2) ?_
    refine ListK.done (hK _ _ ?_)
    clear hK K
    have ho12 := ho11.set k day rfl
    have hb12 := ho12.low
    generalize W11.setCell ⟨g, k, none⟩ (.int .i64 day) = W12 at *
    generalize hA : Act.put _ _ _ = a4
    have hz_a4 : a4.tmps.size = 74 := by rw [← hA]; simp only [size_put, hz_a3]
    have x1 : a4.eval (.tmp 1) = .slice A1 pre.length c1 := by rw [← hA]; exact (by simp [w1])
    have x2 : a4.eval (.tmp 2) = .slice A2 days.length c2 := by rw [← hA]; exact (by simp [w2])
    have x3 : a4.eval (.tmp 3) = .int .i64 la := by rw [← hA]; exact (by simp [w3])
    have x4 : a4.eval (.tmp 4) = .pointer (some ⟨b3, 0, none⟩) := by rw [← hA]; exact (by simp [w4])
    have x9 : a4.eval (.tmp 9) = vo := by rw [← hA]; exact (by simp [w9])
    have x10 : a4.eval (.tmp 10) = .int .i64 k := by rw [← hA]; exact (by simp [w10])
    have x11 : a4.eval (.tmp 11) = .int .i64 day := by rw [← hA]; exact (by simp [w11])
    have x12 : a4.eval (.tmp 12) = .slice (some ⟨g, 0, none⟩) days.length cap := by rw [← hA]; exact (by simp [w12])
    have hd_a4 : a4.defers = [] := by rw [← hA]; simp only [defers_put, hd_a3]
    clear hA
    replace hL := hL.below hb12
    clear wb hs h1 h2 hol hola ho11 hrow
    obtain ⟨wb, hs, h1, h2⟩ := hw1.below hL.low
    have h3 := ho12.at
    have hpl : (pre ++ [(k : Int)]).length = pre.length + 1 := by simp
    have hdn' : ∀ d, d ∈ pre ++ [(k : Int)] → 0 ≤ d ∧ d < l.length := by
      intro d hd
      rw [List.mem_append, List.mem_singleton] at hd
      rcases hd with hd | rfl
      · exact hdn d hd
      · exact ⟨by omega, by omega⟩
    refine regionTs13 (W0 := W1) (ys := allGo t l f (pre ++ [(k : Int)]) (days.set k day) day) (nx := days.set k day) (wideF_plain _) hz_a4 x1 x4 x9 x10 x11 (by rw [List.length_set]; exact x12) ⟨wb.cell 0, wb.cell 1, wb.cell 2⟩ h1 (by omega) hw1.1.lt hL.low hL hlen ?_ ?_
    · rintro W v ⟨A3, c3, rfl, _, i3⟩ hb
      exact ih (pre ++ [(k : Int)]) (days.set k day) day A3 c3 _ cap W (by omega) hdn' (by rw [List.length_set]; exact hdl) ((hs.below hb (Nat.le_refl _)).more hb.size) i3 ((h3.below hb (Nat.le_refl _)).more hb.size) (by omega)
    · intro a5 W5 v5 hL5 hz5 hd5 y9 hr
      exact hQ a5 W5 v5 ⟨hz5, hd5.trans hd_a4, (hr 1 (by omega) (by omega)).trans x1, (hr 2 (by omega) (by omega)).trans x2, (hr 3 (by omega) (by omega)).trans x3, (hr 4 (by omega) (by omega)).trans x4, y9, (hr 10 (by omega) (by omega)).trans x10⟩ ((hr 11 (by omega) (by omega)).trans x11) hL5
end
end Go.Proofs.Ytfcnombmphophaa
namespace Go.Proofs.Ytfcnombmphophaa
open Go.RowKit Go.Shelf
/-- The truths that a sale gives. -/
def saleGo (t : Int) (l : List Sale) (f : Nat) (pre days : List Int) (la : Int) (n : Nat) : List (List Int) := (List.range ((saleOf l n).hi + 1 - (saleOf l n).lo).toNat).flatMap fun j : Nat => dayGo t l f pre days la n ((saleOf l n).lo + j)
theorem allGo_succ (t : Int) (l : List Sale) (f : Nat) (pre days : List Int) (la : Int) : allGo t l (f + 1) pre days la = (List.range l.length).flatMap (saleGo t l f pre days la) := rfl
section
variable {o t la day : Int} {A A1 A2 : Option Addr} {l : List Sale} {pre days : List Int} {c c1 c2 b3 k f : Nat} {vo : Value} {xs : List (List Int)} {a1 : Act} {W1 W2 : World} {Q : Exit → Act → World → Prop}
theorem ts9 {W : World} (hd : -1000 ≤ day ∧ day ≤ 1000) (hf : TsF b3 pre.length c1 days.length c2 k A1 A2 la vo a1) (u11 : a1.eval (.tmp 11) = .int .i64 day) (hQ : ∀ a', TsF b3 pre.length c1 days.length c2 k A1 A2 la vo a' → a'.eval (.tmp 11) = .int .i64 (day + 1) → Q .normal a' W) :
    (Code.region 9 opsTs9 false).wpIn Fence.wide 5 Try.prog Q a1 W := by
  obtain ⟨hz_a1, hd_a1, u1, u2, u3, u4, u9, u10⟩ := hf
  refine region_p 3 ?_
  intro K hK
  refine ListK.move (i := 0) (v := .int .i64 day) rfl (by simp [u11]) ?_
  refine ListK.bin (i := 1) (u := .int .i64 day) (u' := .int .i64 1) (v := .int .i64 (day + 1)) rfl (by simp [hz_a1]) (by simp) (add3 (by omega) (by omega) _) ?_
  refine ListK.assign (i := 2) (v := .int .i64 (day + 1)) rfl (by simp [hz_a1]) ?_
  skip
  exact ListK.done (hK _ _ (hQ _ ⟨(by simp only [size_put, hz_a1]), (by simp only [defers_put, hd_a1]), (by simp [u1]), (by simp [u2]), (by simp [u3]), (by simp [u4]), (by simp [u9]), (by simp [u10])⟩ (by simp [hz_a1])))
theorem ts6 {W : World} (hk : k < 1000) (hf : TsF b3 pre.length c1 days.length c2 k A1 A2 la vo a1) (hQ : ∀ a', TsF b3 pre.length c1 days.length c2 (k + 1) A1 A2 la vo a' → Q .normal a' W) :
    (Code.region 6 opsTs6 false).wpIn Fence.wide 5 Try.prog Q a1 W := by
  obtain ⟨hz_a1, hd_a1, u1, u2, u3, u4, u9, u10⟩ := hf
  refine region_p 3 ?_
  intro K hK
  refine ListK.move (i := 0) (v := .int .i64 k) rfl (by simp [u10]) ?_
  refine ListK.bin (i := 1) (u := .int .i64 k) (u' := .int .i64 1) (v := .int .i64 (k + 1)) rfl (by simp [hz_a1]) (by simp) (add3 (by omega) (by omega) _) ?_
  refine ListK.assign (i := 2) (v := .int .i64 ((k + 1 : Nat) : Int)) rfl (by simp [hz_a1]) ?_
  skip
  exact ListK.done (hK _ _ (hQ _ ⟨(by simp only [size_put, hz_a1]), (by simp only [defers_put, hd_a1]), (by simp [u1]), (by simp [u2]), (by simp [u3]), (by simp [u4]), (by simp [u9]), (by simp [hz_a1])⟩))
set_option maxHeartbeats 4000000 in
/-- The days of a sale. -/
theorem ts_days (hl : l.length ≤ 12) (ht0 : 0 ≤ t) (ht : t ≤ 1000) (hm : ∀ s, s ∈ l → 0 ≤ s.many ∧ s.many ≤ 1000) (hd : ∀ s, s ∈ l → 0 ≤ s.lo ∧ s.hi ≤ 100) (hk : k < l.length) (hpf : pre.length + (f + 1) = l.length) (hdn : ∀ d, d ∈ pre → 0 ≤ d ∧ d < l.length) (hdl : days.length = l.length)
    (ih : TsC o t A l c f) (hlen : xs.length + (saleGo t l f pre days la k).length ≤ 1099511627776)
    (hf : TsF b3 pre.length c1 days.length c2 k A1 A2 la vo a1) (hw1 : TsW b3 c o t A A1 A2 l pre days W1) (hL : LL W1 vo xs W2)
    (hQ : ∀ a' W' vo', TsF b3 pre.length c1 days.length c2 k A1 A2 la vo' a' → LL W1 vo' (xs ++ saleGo t l f pre days la k) W' → Q .normal a' W') :
    (Code.seq (.region 7 opsTs7 false) (.block 2 (.loop ts_i))).wpIn Fence.wide 5 Try.prog Q a1 W2 := by
  obtain ⟨hz_a1, hd_a1, u1, u2, u3, u4, u9, u10⟩ := hf
  obtain ⟨wb, hs, h1, h2⟩ := hw1.below hL.low
  obtain ⟨s, hgl⟩ : ∃ s, l[k]? = some s := ⟨l[k], List.getElem?_eq_getElem hk⟩
  have hsl := saleOf_eq hgl
  have hsd := hd s (List.mem_of_getElem? hgl)
  obtain ⟨b, off, hA, hbB, s0, s1, s2, s3, s4⟩ := hs k _ hgl
  subst hA
  obtain ⟨D, hD⟩ : ∃ D, (fun j : Nat => dayGo t l f pre days la k (s.lo + j)) = D := ⟨_, rfl⟩
  have hG : saleGo t l f pre days la k = (List.range (s.hi + 1 - s.lo).toNat).flatMap D := by
    unfold saleGo
    rw [hsl, hD]
  rw [hG] at hlen hQ
  obtain ⟨m, hm'⟩ : ∃ m, (s.hi + 1 - s.lo).toNat = m := ⟨_, rfl⟩
  rw [hm'] at hlen hQ
  refine wpIn_seq (region_p 8 ?_)
  intro K hK
  refine ListK.field (i := 0) (u := .pointer (some ⟨b3, 0, none⟩)) (v := .pointer (some ⟨b3, 2, none⟩)) rfl (by simp [u4]) (fa24_2 _) ?_
  refine ListK.load (i := 1) (p := ⟨b3, 2, none⟩) (v := .slice (some ⟨b, off, none⟩) l.length c) rfl (by simp [hz_a1]) (ld22 (wb.cell 2)) ?_
  refine ListK.move (i := 2) (v := .int .i64 k) rfl (by simp [u10]) ?_
  refine ListK.index (i := 3) (u := .slice (some ⟨b, off, none⟩) l.length c) (u' := .int .i64 k) (v := .pointer (some ⟨b, off + k * 5, none⟩)) rfl (by simp [hz_a1]) (by simp [hz_a1]) (ix22 hk _) ?_
  refine ListK.field (i := 4) (u := .pointer (some ⟨b, off + k * 5, none⟩)) (v := .pointer (some ⟨b, off + k * 5 + 3, none⟩)) rfl (by simp [hz_a1]) (fa73_3 _) ?_
  refine ListK.field (i := 5) (u := .pointer (some ⟨b, off + k * 5 + 3, none⟩)) (v := .pointer (some ⟨b, off + k * 5 + 3, none⟩)) rfl (by simp [hz_a1]) (fa71_0 _) ?_
  refine ListK.load (i := 6) (p := ⟨b, off + k * 5 + 3, none⟩) (v := .int .i64 s.lo) rfl (by simp [hz_a1]) (ld3 (s3)) ?_
  refine ListK.assign (i := 7) (v := .int .i64 s.lo) rfl (by simp [hz_a1]) ?_
  refine ListK.done (hK _ _ ?_)
  clear hK K
  refine wpIn_block (wpIn_loop (fun a W' => ∃ (j : Nat) (vo' : Value), j ≤ m ∧ TsF b3 pre.length c1 days.length c2 k A1 A2 la vo' a ∧ a.eval (.tmp 11) = .int .i64 (s.lo + j) ∧ LL W1 vo' (xs ++ (List.range j).flatMap D) W') (fun a _ => m - (intOf (a.eval (.tmp 11)) - s.lo).toNat)
    ⟨0, vo, Nat.zero_le _, ⟨(by simp only [size_put, hz_a1]), (by simp only [defers_put, hd_a1]), (by simp [u1]), (by simp [u2]), (by simp [u3]), (by simp [u4]), (by simp [u9]), (by simp [u10])⟩, (by rw [show s.lo + ((0 : Nat) : Int) = s.lo by omega]; exact (by simp [hz_a1])), by simpa using hL⟩ ?_)
  clear hz_a1 hd_a1 u1 u2 u3 u4 u9 u10 wb hs h1 h2 s0 s1 s2 s3 s4 hL hbB
  rintro b1 W3 ⟨j, vo', hj, hf, u11, hL⟩
  obtain ⟨hz_b1, hd_b1, u1, u2, u3, u4, u9, u10⟩ := id hf
  obtain ⟨wb, hs, h1, h2⟩ := hw1.below hL.low
  obtain ⟨b', off', e, hbB, s0, s1, s2, s3, s4⟩ := hs k _ hgl
  cases e
  unfold ts_i
  refine wpIn_seq (wpIn_seq (region_p 9 ?_))
  intro K hK
  refine ListK.move (i := 0) (v := .int .i64 (s.lo + (j : Int))) rfl (by simp [u11]) ?_
  refine ListK.field (i := 1) (u := .pointer (some ⟨b3, 0, none⟩)) (v := .pointer (some ⟨b3, 2, none⟩)) rfl (by simp [u4]) (fa24_2 _) ?_
  refine ListK.load (i := 2) (p := ⟨b3, 2, none⟩) (v := .slice (some ⟨b, off, none⟩) l.length c) rfl (by simp [hz_b1]) (ld22 (wb.cell 2)) ?_
  refine ListK.move (i := 3) (v := .int .i64 k) rfl (by simp [u10]) ?_
  refine ListK.index (i := 4) (u := .slice (some ⟨b, off, none⟩) l.length c) (u' := .int .i64 k) (v := .pointer (some ⟨b, off + k * 5, none⟩)) rfl (by simp [hz_b1]) (by simp [hz_b1]) (ix22 hk _) ?_
  refine ListK.field (i := 5) (u := .pointer (some ⟨b, off + k * 5, none⟩)) (v := .pointer (some ⟨b, off + k * 5 + 3, none⟩)) rfl (by simp [hz_b1]) (fa73_3 _) ?_
  refine ListK.field (i := 6) (u := .pointer (some ⟨b, off + k * 5 + 3, none⟩)) (v := .pointer (some ⟨b, off + k * 5 + 3 + 1, none⟩)) rfl (by simp [hz_b1]) (fa71_1 _) ?_
  refine ListK.load (i := 7) (p := ⟨b, off + k * 5 + 3 + 1, none⟩) (v := .int .i64 s.hi) rfl (by simp [hz_b1]) (ld3 (s4)) ?_
  refine ListK.bin (i := 8) (u := .int .i64 (s.lo + (j : Int))) (u' := .int .i64 s.hi) (v := .bool (decide ((s.lo + (j : Int)) ≤ s.hi))) rfl (by simp [hz_b1]) (by simp [hz_b1]) (leq3 _) ?_
  refine ListK.done (hK _ _ ?_)
  clear hK K
  by_cases hjm : j < m
  · refine wpIn_cond (t := true) (by simp [hz_b1]; omega) (wpIn_skip ?_)
    have hst : (List.range (j + 1)).flatMap D = (List.range j).flatMap D ++ D j := flat_step D j
    have hDj : D j = dayGo t l f pre days la k (s.lo + j) := by rw [← hD]
    have hfp := flat_pre D hjm
    refine wpIn_seq (wpIn_block ?_)
    refine ts_body (c1 := c1) (c2 := c2) (day := s.lo + j) hl ht0 ht hm hk hpf hdn hdl ih (by rw [← hDj, List.length_append]; omega) ⟨(by simp only [size_put, hz_b1]), (by simp only [defers_put, hd_b1]), (by simp [u1]), (by simp [u2]), (by simp [u3]), (by simp [u4]), (by simp [u9]), (by simp [u10])⟩ (by simp [u11]) hw1 hL (fun a' W' vo2 f2 g2 l2 => ?_)
    refine ts9 (by omega) f2 g2 fun a3 f3 g3 => ?_
    refine ⟨⟨j + 1, vo2, hjm, f3, ?_, ?_⟩, ?_⟩
    · rw [g3]
      congr 1
      omega
    · rw [hst, ← List.append_assoc, hDj]
      exact l2
    · rw [g3, u11]
      simp only [intOf]
      omega
  · refine wpIn_cond (t := false) (by simp [hz_b1]; omega) (wpIn_exit ?_)
    obtain rfl : j = m := by omega
    exact hQ _ W3 vo' ⟨(by simp only [size_put, hz_b1]), (by simp only [defers_put, hd_b1]), (by simp [u1]), (by simp [u2]), (by simp [u3]), (by simp [u4]), (by simp [u9]), (by simp [u10])⟩ hL
end
end Go.Proofs.Ytfcnombmphophaa
namespace Go.Proofs.Ytfcnombmphophaa
open Go.RowKit Go.Shelf
set_option maxHeartbeats 4000000 in
theorem truths_any (o t : Int) (A : Option Addr) (l : List Sale) (c : Nat) (hl : l.length ≤ 12) (ht0 : 0 ≤ t) (ht : t ≤ 1000) (hm : ∀ s, s ∈ l → 0 ≤ s.many ∧ s.many ≤ 1000) (hd : ∀ s, s ∈ l → 0 ≤ s.lo ∧ s.hi ≤ 100) : ∀ f : Nat, TsC o t A l c f := by
  intro f
  induction f with
  | zero =>
    intro pre days la A1 c1 A2 c2 W hf hdn hdl hs h1 h2 hlen
    show Calls _ _ _ _ (LP W [days])
    refine (callsIn_wide (n := 5)).1 (callsIn_of_wp Try.func80 body80 trivial ?_ rfl)
    obtain ⟨a, ha⟩ : ∃ a : Act, a = { tmps := #[.agg #[.int .i64 o, .int .i64 t, .slice A l.length c], .slice A1 pre.length c1, .slice A2 days.length c2, .int .i64 la] ++ Array.replicate (Try.f80.ntmps - (#[.agg #[.int .i64 o, .int .i64 t, .slice A l.length c], .slice A1 pre.length c1, .slice A2 days.length c2, .int .i64 la] : Array Value).size) undef, defers := [] } := ⟨_, rfl⟩
    have hsz : a.tmps.size = 74 := by rw [ha]; simp [Try.ntmps80]
    have t0 : a.eval (.tmp 0) = .agg #[.int .i64 o, .int .i64 t, .slice A l.length c] := by rw [ha]; simp [Act.eval]
    have t1 : a.eval (.tmp 1) = .slice A1 pre.length c1 := by rw [ha]; simp [Act.eval]
    have t2 : a.eval (.tmp 2) = .slice A2 days.length c2 := by rw [ha]; simp [Act.eval]
    have t3 : a.eval (.tmp 3) = .int .i64 la := by rw [ha]; simp [Act.eval]
    have hdf : a.defers = [] := by rw [ha]
    rw [← ha]
    clear ha
    have hret : ∀ (a' : Act) (W' : World) (v : Value) (ys : List (List Int)), a'.defers = [] → a'.eval (.tmp 8) = v → LL W v ys W' → bodyPost Try.prog Try.f80 (LP W ys) .ret a' W' := fun a' W' v ys hd h4 hb =>
      bodyPost_ret (v := v) (res1 Try.results80 h4) hd ⟨v, rfl, hb⟩
    unfold code80
    refine wpIn_seq (region_p 2 ?_)
    intro K hK
    refine ListK.box (i := 0) (u := .agg #[.int .i64 o, .int .i64 t, .slice A l.length c]) rfl (by simp [t0]) (bx24 W _ _ _ _ _) ?_
    refine ListK.assign (i := 1) (v := .slice none 0 0) rfl (by simp) ?_
    refine ListK.done (hK _ _ ?_)
    clear hK K
    have wb := Whole.new W 24 #[.int .i64 o, .int .i64 t, .slice A l.length c]
    have hB1 : Below W.heap.size W (W.alloc (.cells #[.int .i64 o, .int .i64 t, .slice A l.length c] 24)) := (Below.refl _ W).alloc (Nat.le_refl _) _
    generalize hb3 : W.heap.size = b3 at *
    generalize W.alloc (.cells #[.int .i64 o, .int .i64 t, .slice A l.length c] 24) = W1 at *
    have hS1 : b3 ≤ W1.heap.size := by have := hB1.size; omega
    have hw1 : TsW b3 c o t A A1 A2 l pre days W1 := ⟨wb, (hs.below hB1 (Nat.le_refl _)).more hS1, (h1.below hB1 (Nat.le_refl _)).more hS1, (h2.below hB1 (Nat.le_refl _)).more hS1⟩
    generalize hA : Act.put _ _ _ = a1
    have hz_a1 : a1.tmps.size = 74 := by rw [← hA]; simp only [size_put, hsz]
    have u2 : a1.eval (.tmp 2) = .slice A2 days.length c2 := by rw [← hA]; exact (by simp [t2])
    have u1 : a1.eval (.tmp 1) = .slice A1 pre.length c1 := by rw [← hA]; exact (by simp [t1])
    have u4 : a1.eval (.tmp 4) = .pointer (some ⟨b3, 0, none⟩) := by rw [← hA]; exact (by simp [hsz])
    have hd_a1 : a1.defers = [] := by rw [← hA]; simp only [defers_put, hdf]
    clear hA
    refine wpIn_seq (wpIn_seq (region_p 6 ?_))
    intro K hK
    refine ListK.move (i := 0) (v := .slice A1 pre.length c1) rfl (by simp [u1]) ?_
    refine ListK.len (i := 1) (u := .slice A1 pre.length c1) (v := .int .i64 pre.length) rfl (by simp [hz_a1]) (ln25 _ _ _ _ _) rfl ?_
    refine ListK.field (i := 2) (u := .pointer (some ⟨b3, 0, none⟩)) (v := .pointer (some ⟨b3, 2, none⟩)) rfl (by simp [u4]) (fa24_2 _) ?_
    refine ListK.load (i := 3) (p := ⟨b3, 2, none⟩) (v := .slice A l.length c) rfl (by simp [hz_a1]) (ld22 (wb.cell 2)) ?_
    refine ListK.len (i := 4) (u := .slice A l.length c) (v := .int .i64 l.length) rfl (by simp [hz_a1]) (ln22 _ _ _ _ _) rfl ?_
    refine ListK.bin (i := 5) (u := .int .i64 pre.length) (u' := .int .i64 l.length) (v := .bool true) rfl (by simp [hz_a1]) (by simp [hz_a1]) (eql3T (by omega) _) ?_
    refine ListK.done (hK _ _ ?_)
    clear hK K
    refine wpIn_cond (t := true) (by simp [hz_a1]) ?_
    generalize hA : Act.put _ _ _ = a2
    have hz_a2 : a2.tmps.size = 74 := by rw [← hA]; simp only [size_put, hz_a1]
    have v2 : a2.eval (.tmp 2) = .slice A2 days.length c2 := by rw [← hA]; exact (by simp [u2])
    have hd_a2 : a2.defers = [] := by rw [← hA]; simp only [defers_put, hd_a1]
    clear hA
    have hol := ol_nil (Below.refl W1.heap.size W1)
    have hola : Below W1.heap.size W1 (W1.alloc (.cells #[] 3)) := hol.low
    obtain ⟨wb, hs, h1, h2⟩ := hw1
    refine wpIn_seq (region_p 5 ?_)
    intro K hK
    refine ListK.bsl (i := 0) (ps := #[]) (v := .slice (some ⟨W1.heap.size, 0, none⟩) 0 0) rfl (by simp []) (bs25_z _) ?_
    refine ListK.move (i := 1) (v := .slice A2 days.length c2) rfl (by simp [v2]) ?_
    refine ListK.cpy (i := 2) (c := c2) rfl hol (by simp [hz_a2]) (by simp [hz_a2]) (h2.below hola (Nat.le_refl _)) (by omega) ?_
    intro vn W2 ho2
    obtain ⟨A3, c3, rfl, _, _⟩ := ho2.ints
    refine ListK.bsl (i := 3) (ps := #[(0, .slice A3 days.length c3)]) (v := .slice (some ⟨W2.heap.size, 0, none⟩) 1 1) rfl (by simp [hz_a2]) (bs49_1 _ _ _ _) ?_
    refine ListK.assign (i := 4) (v := .slice (some ⟨W2.heap.size, 0, none⟩) 1 1) rfl (by simp [hz_a2]) ?_
    refine ListK.done (hK _ _ (wpIn_ret ?_))
    refine hret _ _ (.slice (some ⟨W2.heap.size, 0, none⟩) 1 1) _ (by simp only [defers_put, hd_a2]) (by simp [hz_a2]) ?_
    exact (LL.one ho2).base (by rw [hb3]; exact hB1)
  | succ f ih =>
    intro pre days la A1 c1 A2 c2 W hf hdn hdl hs h1 h2 hlen
    rw [allGo_succ] at hlen ⊢
    generalize hG : saleGo t l f pre days la = G at *
    refine (callsIn_wide (n := 5)).1 (callsIn_of_wp Try.func80 body80 trivial ?_ rfl)
    obtain ⟨a, ha⟩ : ∃ a : Act, a = { tmps := #[.agg #[.int .i64 o, .int .i64 t, .slice A l.length c], .slice A1 pre.length c1, .slice A2 days.length c2, .int .i64 la] ++ Array.replicate (Try.f80.ntmps - (#[.agg #[.int .i64 o, .int .i64 t, .slice A l.length c], .slice A1 pre.length c1, .slice A2 days.length c2, .int .i64 la] : Array Value).size) undef, defers := [] } := ⟨_, rfl⟩
    have hsz : a.tmps.size = 74 := by rw [ha]; simp [Try.ntmps80]
    have t0 : a.eval (.tmp 0) = .agg #[.int .i64 o, .int .i64 t, .slice A l.length c] := by rw [ha]; simp [Act.eval]
    have t1 : a.eval (.tmp 1) = .slice A1 pre.length c1 := by rw [ha]; simp [Act.eval]
    have t2 : a.eval (.tmp 2) = .slice A2 days.length c2 := by rw [ha]; simp [Act.eval]
    have t3 : a.eval (.tmp 3) = .int .i64 la := by rw [ha]; simp [Act.eval]
    have hdf : a.defers = [] := by rw [ha]
    rw [← ha]
    clear ha
    have hret : ∀ (a' : Act) (W' : World) (v : Value) (ys : List (List Int)), a'.defers = [] → a'.eval (.tmp 8) = v → LL W v ys W' → bodyPost Try.prog Try.f80 (LP W ys) .ret a' W' := fun a' W' v ys hd h4 hb =>
      bodyPost_ret (v := v) (res1 Try.results80 h4) hd ⟨v, rfl, hb⟩
    unfold code80
    refine wpIn_seq (region_p 2 ?_)
    intro K hK
    refine ListK.box (i := 0) (u := .agg #[.int .i64 o, .int .i64 t, .slice A l.length c]) rfl (by simp [t0]) (bx24 W _ _ _ _ _) ?_
    refine ListK.assign (i := 1) (v := .slice none 0 0) rfl (by simp) ?_
    refine ListK.done (hK _ _ ?_)
    clear hK K
    have wb := Whole.new W 24 #[.int .i64 o, .int .i64 t, .slice A l.length c]
    have hB1 : Below W.heap.size W (W.alloc (.cells #[.int .i64 o, .int .i64 t, .slice A l.length c] 24)) := (Below.refl _ W).alloc (Nat.le_refl _) _
    generalize hb3 : W.heap.size = b3 at *
    generalize W.alloc (.cells #[.int .i64 o, .int .i64 t, .slice A l.length c] 24) = W1 at *
    have hS1 : b3 ≤ W1.heap.size := by have := hB1.size; omega
    have hw1 : TsW b3 c o t A A1 A2 l pre days W1 := ⟨wb, (hs.below hB1 (Nat.le_refl _)).more hS1, (h1.below hB1 (Nat.le_refl _)).more hS1, (h2.below hB1 (Nat.le_refl _)).more hS1⟩
    generalize hA : Act.put _ _ _ = a1
    have hz_a1 : a1.tmps.size = 74 := by rw [← hA]; simp only [size_put, hsz]
    have u1 : a1.eval (.tmp 1) = .slice A1 pre.length c1 := by rw [← hA]; exact (by simp [t1])
    have u2 : a1.eval (.tmp 2) = .slice A2 days.length c2 := by rw [← hA]; exact (by simp [t2])
    have u3 : a1.eval (.tmp 3) = .int .i64 la := by rw [← hA]; exact (by simp [t3])
    have u4 : a1.eval (.tmp 4) = .pointer (some ⟨b3, 0, none⟩) := by rw [← hA]; exact (by simp [hsz])
    have hd_a1 : a1.defers = [] := by rw [← hA]; simp only [defers_put, hdf]
    clear hA
    refine wpIn_seq (wpIn_seq (region_p 6 ?_))
    intro K hK
    refine ListK.move (i := 0) (v := .slice A1 pre.length c1) rfl (by simp [u1]) ?_
    refine ListK.len (i := 1) (u := .slice A1 pre.length c1) (v := .int .i64 pre.length) rfl (by simp [hz_a1]) (ln25 _ _ _ _ _) rfl ?_
    refine ListK.field (i := 2) (u := .pointer (some ⟨b3, 0, none⟩)) (v := .pointer (some ⟨b3, 2, none⟩)) rfl (by simp [u4]) (fa24_2 _) ?_
    refine ListK.load (i := 3) (p := ⟨b3, 2, none⟩) (v := .slice A l.length c) rfl (by simp [hz_a1]) (ld22 (wb.cell 2)) ?_
    refine ListK.len (i := 4) (u := .slice A l.length c) (v := .int .i64 l.length) rfl (by simp [hz_a1]) (ln22 _ _ _ _ _) rfl ?_
    refine ListK.bin (i := 5) (u := .int .i64 pre.length) (u' := .int .i64 l.length) (v := .bool false) rfl (by simp [hz_a1]) (by simp [hz_a1]) (eql3F (by omega) _) ?_
    refine ListK.done (hK _ _ ?_)
    clear hK K
    refine wpIn_cond (t := false) (by simp [hz_a1]) (wpIn_skip ?_)
    show (Code.seq _ _).wpIn _ _ _ _ _ _
    generalize hA : Act.put _ _ _ = a2
    have hz_a2 : a2.tmps.size = 74 := by rw [← hA]; simp only [size_put, hz_a1]
    have v1 : a2.eval (.tmp 1) = .slice A1 pre.length c1 := by rw [← hA]; exact (by simp [u1])
    have v2 : a2.eval (.tmp 2) = .slice A2 days.length c2 := by rw [← hA]; exact (by simp [u2])
    have v3 : a2.eval (.tmp 3) = .int .i64 la := by rw [← hA]; exact (by simp [u3])
    have v4 : a2.eval (.tmp 4) = .pointer (some ⟨b3, 0, none⟩) := by rw [← hA]; exact (by simp [u4])
    have hd_a2 : a2.defers = [] := by rw [← hA]; simp only [defers_put, hd_a1]
    clear hA
    refine wpIn_seq (region_p 1 ?_)
    intro K hK
    refine ListK.assign (i := 0) (v := .slice none 0 0) rfl (by simp) ?_
    refine ListK.done (hK _ _ ?_)
    clear hK K
    generalize hA : Act.put _ _ _ = a3
    have hz_a3 : a3.tmps.size = 74 := by rw [← hA]; simp only [size_put, hz_a2]
    have w1 : a3.eval (.tmp 1) = .slice A1 pre.length c1 := by rw [← hA]; exact (by simp [v1])
    have w2 : a3.eval (.tmp 2) = .slice A2 days.length c2 := by rw [← hA]; exact (by simp [v2])
    have w3 : a3.eval (.tmp 3) = .int .i64 la := by rw [← hA]; exact (by simp [v3])
    have w4 : a3.eval (.tmp 4) = .pointer (some ⟨b3, 0, none⟩) := by rw [← hA]; exact (by simp [v4])
    have w9 : a3.eval (.tmp 9) = .slice none 0 0 := by rw [← hA]; exact (by simp [hz_a2])
    have hd_a3 : a3.defers = [] := by rw [← hA]; simp only [defers_put, hd_a2]
    clear hA
    refine wpIn_seq (wpIn_seq (region_p 1 ?_))
    intro K hK
    refine ListK.assign (i := 0) (v := .int .i64 0) rfl (by simp) ?_
    refine ListK.done (hK _ _ ?_)
    clear hK K
    refine wpIn_block (wpIn_loop (fun a W' => ∃ (k : Nat) (vo : Value), k ≤ l.length ∧ TsF b3 pre.length c1 days.length c2 k A1 A2 la vo a ∧ LL W1 vo ((List.range k).flatMap G) W') (fun a _ => l.length - (intOf (a.eval (.tmp 10))).toNat)
      ⟨0, .slice none 0 0, Nat.zero_le _, ⟨(by simp only [size_put, hz_a3]), (by simp only [defers_put, hd_a3]), (by simp [w1]), (by simp [w2]), (by simp [w3]), (by simp [w4]), (by simp [w9]), (by simp [hz_a3])⟩, LL.nil W1⟩ ?_)
    clear hsz t0 t1 t2 t3 hdf hz_a1 u1 u2 u3 u4 hd_a1 hz_a2 v1 v2 v3 v4 hd_a2 hz_a3 w1 w2 w3 w4 w9 hd_a3 a a1 a2 a3 wb
    rintro a1 W2 ⟨k, vo, hk, hf', hL⟩
    obtain ⟨hz_a1, hd_a1, u1, u2, u3, u4, u9, u10⟩ := id hf'
    obtain ⟨wb, _, _, _⟩ := hw1.below hL.low
    unfold ts_l
    refine wpIn_seq (wpIn_seq (region_p 5 ?_))
    intro K hK
    refine ListK.move (i := 0) (v := .int .i64 k) rfl (by simp [u10]) ?_
    refine ListK.field (i := 1) (u := .pointer (some ⟨b3, 0, none⟩)) (v := .pointer (some ⟨b3, 2, none⟩)) rfl (by simp [u4]) (fa24_2 _) ?_
    refine ListK.load (i := 2) (p := ⟨b3, 2, none⟩) (v := .slice A l.length c) rfl (by simp [hz_a1]) (ld22 (wb.cell 2)) ?_
    refine ListK.len (i := 3) (u := .slice A l.length c) (v := .int .i64 l.length) rfl (by simp [hz_a1]) (ln22 _ _ _ _ _) rfl ?_
    refine ListK.bin (i := 4) (u := .int .i64 k) (u' := .int .i64 (l.length : Int)) (v := .bool (decide (k < (l.length : Int)))) rfl (by simp [hz_a1]) (by simp [hz_a1]) (lss3 _) ?_
    refine ListK.done (hK _ _ ?_)
    clear hK K
    by_cases hkl : k < l.length
    · refine wpIn_cond (t := true) (by simp [hz_a1]; omega) (wpIn_skip ?_)
      have hst := flat_step G k
      have hGk : G k = saleGo t l f pre days la k := by rw [← hG]
      have hfp := flat_pre G hkl
      refine wpIn_seq (wpIn_block ?_)
      refine ts_days (c1 := c1) (c2 := c2) hl ht0 ht hm hd hkl hf hdn hdl ih (by rw [← hGk]; omega) ⟨(by simp only [size_put, hz_a1]), (by simp only [defers_put, hd_a1]), (by simp [u1]), (by simp [u2]), (by simp [u3]), (by simp [u4]), (by simp [u9]), (by simp [u10])⟩ hw1 hL (fun a' W' vo2 f2 l2 => ?_)
      refine ts6 (by omega) f2 fun a3 f3 => ?_
      refine ⟨⟨k + 1, vo2, hkl, f3, ?_⟩, ?_⟩
      · rw [hst, hGk]
        exact l2
      · rw [f3.2.2.2.2.2.2.2, u10]
        simp only [intOf]
        omega
    · refine wpIn_cond (t := false) (by simp [hz_a1]; omega) (wpIn_exit ?_)
      obtain rfl : k = l.length := by omega
      generalize hA : Act.put _ _ _ = b1
      have hz_b1 : b1.tmps.size = 74 := by rw [← hA]; simp only [size_put, hz_a1]
      have z9 : b1.eval (.tmp 9) = vo := by rw [← hA]; exact (by simp [u9])
      have hd_b1 : b1.defers = [] := by rw [← hA]; simp only [defers_put, hd_a1]
      clear hA
      show ts_e.wpIn _ _ _ _ _ _
      unfold ts_e
      refine wpIn_seq (region_p 2 ?_)
      intro K hK
      refine ListK.move (i := 0) (v := vo) rfl (by simp [z9]) ?_
      refine ListK.assign (i := 1) (v := vo) rfl (by simp [hz_b1]) ?_
      refine ListK.done (hK _ _ (wpIn_ret ?_))
      exact hret _ _ vo _ (by simp only [defers_put, hd_b1]) (by simp [hz_b1]) (hL.base (by rw [hb3]; exact hB1))
end Go.Proofs.Ytfcnombmphophaa
namespace Go.Proofs.Ytfcnombmphophaa
open Go.RowKit Go.Shelf
theorem mk25n {n : Nat} (h : n ≤ 12) (w : World) : (Instr.makeSlice 25 (.int .i64 n) (.int .i64 n)).run Try.prog w = .ok (.slice (some ⟨w.heap.size, 0, none⟩) n n) (w.alloc (.cells (Array.replicate n (.int .i64 0)) 3)) := by
  have : n = 0 ∨ n = 1 ∨ n = 2 ∨ n = 3 ∨ n = 4 ∨ n = 5 ∨ n = 6 ∨ n = 7 ∨ n = 8 ∨ n = 9 ∨ n = 10 ∨ n = 11 ∨ n = 12 := by omega
  rcases this with rfl | rfl | rfl | rfl | rfl | rfl | rfl | rfl | rfl | rfl | rfl | rfl | rfl <;> (show _ = _; kernel_rfl)
theorem ints_new (w : World) (n : Nat) : IntsAt (w.alloc (.cells (Array.replicate n (.int .i64 0)) 3)) (w.alloc (.cells (Array.replicate n (.int .i64 0)) 3)).heap.size (some ⟨w.heap.size, 0, none⟩) (List.replicate n 0) := by
  intro k x hx
  rw [List.getElem?_replicate] at hx
  split at hx
  · rename_i h
    cases hx
    refine ⟨w.heap.size, 0, rfl, by simp, ?_⟩
    rw [Nat.zero_add]
    refine ((Whole.new w 3 (Array.replicate n (.int .i64 0))).cell k).trans ?_
    simp [h]
  · cases hx
section
variable {ops : Array Oper} {K : Act → World → Prop} {Kp : Nat → World → World → Prop} {fuel i d : Nat} {listed : Array Bool} {a : Act} {w w' : World} {ty : TypeId} {pos : String} {aft : Array Edge}
theorem StepK.mkS {t : TypeId} {x y : Operand} {u u' v : Value} (hi : ops[i]? = some ⟨some d, .makeSlice t x y, ty, pos, aft, none⟩) (hx : a.eval x = u) (hy : a.eval y = u') (hv : (Instr.makeSlice t u u').run Try.prog w = .ok v w') (hk : Kp i w w')
    (h : AnyK Try.prog ops K Kp fuel (listed.setIfInBounds i true) (a.put (some d) v) w') : StepK Try.prog ops K Kp fuel listed a w i := by
  unfold StepK opG
  simp only [hi]
  rw [if_pos (show Region.wanted _ _ = true from rfl)]
  simp only [Oper.wp, execOp, hx, hy]; simp [hv, Oper.upon]; exact ⟨hk, h⟩
end
noncomputable def opsAl0 : Array Oper := (Try.f66.body.bind (regionOf 0)).getD #[]
noncomputable def opsAl1 : Array Oper := (Try.f66.body.bind (regionOf 1)).getD #[]
noncomputable def code66 : Code := .seq (.region 0 opsAl0 false) (.seq (.region 1 opsAl1 true) .ret)
theorem body66 : Try.f66.body = some code66 := by kernel_rfl
section
attribute [local irreducible] AnyK StepK
set_option maxHeartbeats 2000000 in
theorem all_any (o t : Int) (A : Option Addr) (l : List Sale) (c : Nat) (W : World) (hl : l.length ≤ 12) (ht0 : 0 ≤ t) (ht : t ≤ 1000) (hm : ∀ s, s ∈ l → 0 ≤ s.many ∧ s.many ≤ 1000) (hd : ∀ s, s ∈ l → 0 ≤ s.lo ∧ s.hi ≤ 100) (hs : SalesAt W W.heap.size A l) (hlen : (allL t l).length ≤ 1099511627776) :
    Calls Try.prog 66 #[.agg #[.int .i64 o, .int .i64 t, .slice A l.length c]] W (LP W (allL t l)) := by
  refine (callsIn_wide (n := 5)).1 (callsIn_of_wp Try.func66 body66 trivial ?_ rfl)
  obtain ⟨a, ha⟩ : ∃ a : Act, a = { tmps := #[.agg #[.int .i64 o, .int .i64 t, .slice A l.length c]] ++ Array.replicate (Try.f66.ntmps - (#[.agg #[.int .i64 o, .int .i64 t, .slice A l.length c]] : Array Value).size) undef, defers := [] } := ⟨_, rfl⟩
  have hsz : a.tmps.size = 9 := by rw [ha]; simp [Try.ntmps66]
  have t0 : a.eval (.tmp 0) = .agg #[.int .i64 o, .int .i64 t, .slice A l.length c] := by rw [ha]; simp [Act.eval]
  have hdf : a.defers = [] := by rw [ha]
  rw [← ha]
  clear ha
  have hret : ∀ (a' : Act) (W' : World) (v : Value) (ys : List (List Int)), a'.defers = [] → a'.eval (.tmp 2) = v → LL W v ys W' → bodyPost Try.prog Try.f66 (LP W ys) .ret a' W' := fun a' W' v ys hd h4 hb =>
    bodyPost_ret (v := v) (res1 Try.results66 h4) hd ⟨v, rfl, hb⟩
  unfold code66
  refine wpIn_seq (region_p 2 ?_)
  intro K hK
  refine ListK.box (i := 0) (u := .agg #[.int .i64 o, .int .i64 t, .slice A l.length c]) rfl (by simp [t0]) (bx24 W _ _ _ _ _) ?_
  refine ListK.assign (i := 1) (v := .slice none 0 0) rfl (by simp) ?_
  refine ListK.done (hK _ _ ?_)
  clear hK K
  have wb := Whole.new W 24 #[.int .i64 o, .int .i64 t, .slice A l.length c]
  have hB1 : Below W.heap.size W (W.alloc (.cells #[.int .i64 o, .int .i64 t, .slice A l.length c] 24)) := (Below.refl _ W).alloc (Nat.le_refl _) _
  generalize hb3 : W.heap.size = b3 at *
  generalize W.alloc (.cells #[.int .i64 o, .int .i64 t, .slice A l.length c] 24) = W1 at *
  have hS1 : b3 ≤ W1.heap.size := by have := hB1.size; omega
  generalize hA : Act.put _ _ _ = a1
  have hz_a1 : a1.tmps.size = 9 := by rw [← hA]; simp only [size_put, hsz]
  have u1 : a1.eval (.tmp 1) = .pointer (some ⟨b3, 0, none⟩) := by rw [← hA]; exact (by simp [hsz])
  have hd_a1 : a1.defers = [] := by rw [← hA]; simp only [defers_put, hdf]
  clear hA
  refine wpIn_seq (region_K (KpR (RCn b3 o t A l.length c) (fun _ => false)) (wideF_plain _) (by kernel_rfl) Try.mixed ?_)
  change AnyK _ _ _ _ 7 (Array.replicate 7 false) _ _
  have hR : RCn b3 o t A l.length c W1.drew := ⟨wb.cell 0, wb.cell 1, wb.cell 2⟩
  have hB2 : Below b3 W W1.drew := hB1.drew
  have hs2 : SalesAt W1.drew b3 A l := hs.below hB2 (Nat.le_refl _)
  have hb31 : b3 < W1.drew.heap.size := block_lt_of_cell hR.1
  generalize W1.drew = W2 at *
  refine AnyK.load (i := 0) may_o (p := ⟨b3, 0, none⟩) (v := .agg #[.int .i64 o, .int .i64 t, .slice A l.length c]) (by simp [u1]) (fun w hw => ld24 hw) hR ?_
  refine AnyK.field (i := 1) may_o (u := .pointer (some ⟨b3, 0, none⟩)) (v := .pointer (some ⟨b3, 2, none⟩)) (by simp [u1]) (fun w => fa24_2 w) hR ?_
  refine AnyK.load (i := 2) may_o (p := ⟨b3, 2, none⟩) (v := .slice A l.length c) (by simp [hz_a1]) (fun w hw => ld22 hw.2.2) hR ?_
  refine AnyK.len (i := 3) may_o (u := .slice A l.length c) (v := .int .i64 l.length) (by simp [hz_a1]) (ln22 _ _ _ _) rfl hR ?_
  refine AnyK.pick1 (i := 4) (by kernel_rfl) ?_
  refine StepK.mkS (i := 4) (u := .int .i64 l.length) (u' := .int .i64 l.length) rfl (by simp [hz_a1]) (by simp [hz_a1]) (mk25n hl W2) (fun _ hr => hr.of fun i u h => cell_alloc_l _ h) ?_
  have hi := ints_new W2 l.length
  have hB3 : Below b3 W (W2.alloc (.cells (Array.replicate l.length (.int .i64 0)) 3)) := hB2.alloc (by omega) _
  have hR3 : RCn b3 o t A l.length c (W2.alloc (.cells (Array.replicate l.length (.int .i64 0)) 3)) := hR.of fun i u h => cell_alloc_l _ h
  generalize W2.alloc (.cells (Array.replicate l.length (.int .i64 0)) 3) = W3 at *
  have hS3 : b3 ≤ W3.heap.size := by have := hB3.size; omega
  refine AnyK.pick1 (i := 5) (by kernel_rfl) ?_
  have hcall := truths_any o t A l c hl ht0 ht hm hd l.length [] (List.replicate l.length 0) 0 none 0 (some ⟨W2.heap.size, 0, none⟩) l.length W3 (by simp) (by simp) (by simp) ((hs.below hB3 (Nat.le_refl _)).more hS3) (fun k x h => by simp at h) hi hlen
  rw [List.length_replicate] at hcall
  refine StepK.call (i := 5) (f := 80) (vs := #[.agg #[.int .i64 o, .int .i64 t, .slice A l.length c], .slice none 0 0, .slice (some ⟨W2.heap.size, 0, none⟩) l.length l.length, .int .i64 0]) rfl (enters_of Try.func80 (by kernel_rfl) rfl) (by simp) (by simp [hz_a1]) (hcall.mono ?_)
  rintro _ W4 ⟨v, rfl, hL⟩
  have hk4 : ∀ i u, W3.cell? ⟨b3, i, none⟩ = some u → W4.cell? ⟨b3, i, none⟩ = some u := fun i u h => (hL.low.cell (p := ⟨b3, i, none⟩) (by have := block_lt_of_cell hR3.1; exact this)).trans h
  refine ⟨_, rfl, fun _ hr => hr.of hk4, ?_⟩
  refine AnyK.assign (i := 6) may_o (v := v) (by simp [hz_a1]) (hR3.of hk4) ?_
  refine AnyK.done (by kernel_rfl) (wpIn_ret ?_)
  exact hret _ _ v _ (by simp only [defers_put, hd_a1]) (by simp [hz_a1]) (hL.base (by rw [hb3]; exact hB3))
end
end Go.Proofs.Ytfcnombmphophaa
namespace Go.Proofs.Ytfcnombmphophaa
open Go.RowKit Go.Shelf
theorem ln49 (A : Option Addr) (n c : Nat) (ty : TypeId) (w : World) : (builtin .len #[49] ty #[false] #[.slice A n c]).run Try.prog w = .ok (.value (.int .i64 n)) w := by
  go_simp
theorem LL.form {W0 W : World} {v : Value} {xs : List (List Int)} (h : LL W0 v xs W) : ∃ A c, v = .slice A xs.length c := by
  obtain ⟨_, vs, _, h2, _⟩ := h
  rcases h2.2 with ⟨rfl, h0⟩ | ⟨g, cap, cur, rfl, _⟩
  · exact ⟨none, 0, by rw [h0]⟩
  · exact ⟨_, _, rfl⟩
noncomputable def opsTx0 : Array Oper := (Try.f30.body.bind (regionOf 0)).getD #[]
noncomputable def opsTx1 : Array Oper := (Try.f30.body.bind (regionOf 1)).getD #[]
noncomputable def opsTx2 : Array Oper := (Try.f30.body.bind (regionOf 2)).getD #[]
noncomputable def opsTx3 : Array Oper := (Try.f30.body.bind (regionOf 3)).getD #[]
noncomputable def opsTx4 : Array Oper := (Try.f30.body.bind (regionOf 4)).getD #[]
noncomputable def opsTx5 : Array Oper := (Try.f30.body.bind (regionOf 5)).getD #[]
noncomputable def opsTx6 : Array Oper := (Try.f30.body.bind (regionOf 6)).getD #[]
noncomputable def tx_c : Code := (.seq (.region 6 opsTx6 false) .ret)
noncomputable def tx_b : Code := (.seq (.region 3 opsTx3 false) (.seq (.seq (.region 4 opsTx4 false) (.cond (.tmp 13) (.seq (.region 5 opsTx5 false) .ret) .skip)) tx_c))
noncomputable def code30 : Code := (.seq (.region 0 opsTx0 false) (.seq (.seq (.region 1 opsTx1 false) (.cond (.tmp 8) (.seq (.region 2 opsTx2 false) .ret) .skip)) tx_b))
theorem body30 : Try.f30.body = some code30 := by kernel_rfl
/-- What the law's truths gives. -/
def truthsE (t : Int) (l : List Sale) (right : Bool) : Int := if right then (if (allL t l).length = 0 then 9 else 0) else 2
abbrev TxP (W : World) (t : Int) (l : List Sale) (right : Bool) : Ending → World → Prop := fun e w' => ∃ v, e = .returned (.tuple #[v, .int .i64 (truthsE t l right)]) ∧ LL W v (if truthsE t l right = 0 then allL t l else []) w'
set_option maxHeartbeats 2000000 in
theorem truths_law (o t : Int) (A : Option Addr) (l : List Sale) (c : Nat) (right : Bool) (W : World) (hl : l.length ≤ 12) (ht0 : 0 ≤ t) (ht : t ≤ 1000) (hm : ∀ s, s ∈ l → 0 ≤ s.many ∧ s.many ≤ 1000) (hd : ∀ s, s ∈ l → 0 ≤ s.lo ∧ s.hi ≤ 100) (hs : SalesAt W W.heap.size A l) (hlen : (allL t l).length ≤ 1099511627776) :
    Calls Try.prog 30 #[.agg #[.int .i64 o, .int .i64 t, .slice A l.length c], .bool right] W (TxP W t l right) := by
  refine (callsIn_wide (n := 5)).1 (callsIn_of_wp Try.func30 body30 trivial ?_ rfl)
  obtain ⟨a, ha⟩ : ∃ a : Act, a = { tmps := #[.agg #[.int .i64 o, .int .i64 t, .slice A l.length c], .bool right] ++ Array.replicate (Try.f30.ntmps - (#[.agg #[.int .i64 o, .int .i64 t, .slice A l.length c], .bool right] : Array Value).size) undef, defers := [] } := ⟨_, rfl⟩
  have hsz : a.tmps.size = 15 := by rw [ha]; simp [Try.ntmps30]
  have t0 : a.eval (.tmp 0) = .agg #[.int .i64 o, .int .i64 t, .slice A l.length c] := by rw [ha]; simp [Act.eval]
  have t1 : a.eval (.tmp 1) = .bool right := by rw [ha]; simp [Act.eval]
  have hdf : a.defers = [] := by rw [ha]
  rw [← ha]
  clear ha
  have hret : ∀ (a' : Act) (W' : World) (v : Value) (n : Int) (ys : List (List Int)), a'.defers = [] → a'.eval (.tmp 4) = v → a'.eval (.tmp 5) = .int .i64 n → n = truthsE t l right → ys = (if truthsE t l right = 0 then allL t l else []) → LL W v ys W' → bodyPost Try.prog Try.f30 (TxP W t l right) .ret a' W' := fun a' W' v n ys hd h4 h5 hn hy hb =>
    bodyPost_ret (v := .tuple #[v, .int .i64 n]) (res2 Try.results30 h4 h5) hd ⟨v, by rw [hn], by rw [← hy]; exact hb⟩
  unfold code30
  refine wpIn_seq (region_p 3 ?_)
  intro K hK
  refine ListK.box (i := 0) (u := .agg #[.int .i64 o, .int .i64 t, .slice A l.length c]) rfl (by simp [t0]) (bx24 W _ _ _ _ _) ?_
  refine ListK.assign (i := 1) (v := .slice none 0 0) rfl (by simp) ?_
  refine ListK.assign (i := 2) (v := .int .i64 0) rfl (by simp) ?_
  refine ListK.done (hK _ _ ?_)
  clear hK K
  have wb := Whole.new W 24 #[.int .i64 o, .int .i64 t, .slice A l.length c]
  have hB1 : Below W.heap.size W (W.alloc (.cells #[.int .i64 o, .int .i64 t, .slice A l.length c] 24)) := (Below.refl _ W).alloc (Nat.le_refl _) _
  generalize hb3 : W.heap.size = b3 at *
  generalize W.alloc (.cells #[.int .i64 o, .int .i64 t, .slice A l.length c] 24) = W1 at *
  have hS1 : b3 ≤ W1.heap.size := by have := hB1.size; omega
  have hs1 : SalesAt W1 W1.heap.size A l := (hs.below hB1 (Nat.le_refl _)).more hS1
  generalize hA : Act.put _ _ _ = a1
  have hz_a1 : a1.tmps.size = 15 := by rw [← hA]; simp only [size_put, hsz]
  have u1 : a1.eval (.tmp 1) = .bool right := by rw [← hA]; exact (by simp [t1])
  have u2 : a1.eval (.tmp 2) = .pointer (some ⟨b3, 0, none⟩) := by rw [← hA]; exact (by simp [hsz])
  have hd_a1 : a1.defers = [] := by rw [← hA]; simp only [defers_put, hdf]
  clear hA
  cases right with
  | false =>
    refine wpIn_seq (wpIn_seq (region_p 2 ?_))
    intro K hK
    refine ListK.move (i := 0) (v := .bool false) rfl (by simp [u1]) ?_
    refine ListK.un (i := 1) (u := .bool false) (v := .bool true) rfl (by simp [hz_a1]) (not4 _ _) ?_
    refine ListK.done (hK _ _ ?_)
    clear hK K
    refine wpIn_cond (t := true) (by simp [hz_a1]) ?_
    generalize hA : Act.put _ _ _ = a2
    have hz_a2 : a2.tmps.size = 15 := by rw [← hA]; simp only [size_put, hz_a1]
    have v2 : a2.eval (.tmp 2) = .pointer (some ⟨b3, 0, none⟩) := by rw [← hA]; exact (by simp [u2])
    have hd_a2 : a2.defers = [] := by rw [← hA]; simp only [defers_put, hd_a1]
    clear hA
    refine wpIn_seq (region_p 2 ?_)
    intro K hK
    refine ListK.assign (i := 0) (v := .slice none 0 0) rfl (by simp) ?_
    refine ListK.assign (i := 1) (v := .int .i64 2) rfl (by simp) ?_
    refine ListK.done (hK _ _ (wpIn_ret ?_))
    exact hret _ _ (.slice none 0 0) 2 [] (by simp only [defers_put, hd_a2]) (by simp [hz_a2]) (by simp [hz_a2]) rfl (by simp [truthsE]) ((LL.nil W1).base (by rw [hb3]; exact hB1))
  | true =>
    refine wpIn_seq (wpIn_seq (region_p 2 ?_))
    intro K hK
    refine ListK.move (i := 0) (v := .bool true) rfl (by simp [u1]) ?_
    refine ListK.un (i := 1) (u := .bool true) (v := .bool false) rfl (by simp [hz_a1]) (not4 _ _) ?_
    refine ListK.done (hK _ _ ?_)
    clear hK K
    refine wpIn_cond (t := false) (by simp [hz_a1]) (wpIn_skip ?_)
    show tx_b.wpIn _ _ _ _ _ _
    unfold tx_b
    generalize hA : Act.put _ _ _ = a2
    have hz_a2 : a2.tmps.size = 15 := by rw [← hA]; simp only [size_put, hz_a1]
    have v2 : a2.eval (.tmp 2) = .pointer (some ⟨b3, 0, none⟩) := by rw [← hA]; exact (by simp [u2])
    have hd_a2 : a2.defers = [] := by rw [← hA]; simp only [defers_put, hd_a1]
    clear hA
    refine wpIn_seq (region_p 3 ?_)
    intro K hK
    refine ListK.load (i := 0) (p := ⟨b3, 0, none⟩) (v := .agg #[.int .i64 o, .int .i64 t, .slice A l.length c]) rfl (by simp [v2]) (ld24 ⟨wb.cell 0, wb.cell 1, wb.cell 2⟩) ?_
    refine ListK.call (i := 1) (vs := #[.agg #[.int .i64 o, .int .i64 t, .slice A l.length c]]) rfl (enters_of Try.func66 (by kernel_rfl) rfl) (by simp [hz_a2]) (((all_any o t A l c W1 hl ht0 ht hm hd hs1 hlen)).mono ?_)
    rintro _ W3 ⟨vn, rfl, hL⟩
    obtain ⟨A4, c4, rfl⟩ := hL.form
    refine ⟨_, rfl, ?_⟩
    refine ListK.assign (i := 2) (v := .slice A4 (allL t l).length c4) rfl (by simp [hz_a2]) ?_
    refine ListK.done (hK _ _ ?_)
    clear hK K
    have hLW : LL W (.slice A4 (allL t l).length c4) (allL t l) W3 := hL.base (by rw [hb3]; exact hB1)
    generalize hA : Act.put _ _ _ = a3
    have hz_a3 : a3.tmps.size = 15 := by rw [← hA]; simp only [size_put, hz_a2]
    have w6 : a3.eval (.tmp 6) = .slice A4 (allL t l).length c4 := by rw [← hA]; exact (by simp [hz_a2])
    have hd_a3 : a3.defers = [] := by rw [← hA]; simp only [defers_put, hd_a2]
    clear hA
    by_cases h0 : (allL t l).length = 0
    · skip
      refine wpIn_seq (wpIn_seq (region_p 3 ?_))
      intro K hK
      refine ListK.move (i := 0) (v := .slice A4 (allL t l).length c4) rfl (by simp [w6]) ?_
      refine ListK.len (i := 1) (u := .slice A4 (allL t l).length c4) (v := .int .i64 (allL t l).length) rfl (by simp [hz_a3]) (ln49 _ _ _ _ _) rfl ?_
      refine ListK.bin (i := 2) (u := .int .i64 (allL t l).length) (u' := .int .i64 0) (v := .bool true) rfl (by simp [hz_a3]) (by simp) (eql3T (by omega) _) ?_
      refine ListK.done (hK _ _ ?_)
      clear hK K
      refine wpIn_cond (t := true) (by simp [hz_a3]) ?_
      generalize hA : Act.put _ _ _ = a4
      have hz_a4 : a4.tmps.size = 15 := by rw [← hA]; simp only [size_put, hz_a3]
      have x6 : a4.eval (.tmp 6) = .slice A4 (allL t l).length c4 := by rw [← hA]; exact (by simp [w6])
      have hd_a4 : a4.defers = [] := by rw [← hA]; simp only [defers_put, hd_a3]
      clear hA
      refine wpIn_seq (region_p 2 ?_)
      intro K hK
      refine ListK.assign (i := 0) (v := .slice none 0 0) rfl (by simp) ?_
      refine ListK.assign (i := 1) (v := .int .i64 9) rfl (by simp) ?_
      refine ListK.done (hK _ _ (wpIn_ret ?_))
      refine hret _ _ (.slice none 0 0) 9 [] (by simp only [defers_put, hd_a4]) (by simp [hz_a4]) (by simp [hz_a4]) (by simp [truthsE, h0]) (by simp [truthsE, h0]) ?_
      exact ((LL.nil W1).below hL.low).base (by rw [hb3]; exact hB1)
    · skip
      refine wpIn_seq (wpIn_seq (region_p 3 ?_))
      intro K hK
      refine ListK.move (i := 0) (v := .slice A4 (allL t l).length c4) rfl (by simp [w6]) ?_
      refine ListK.len (i := 1) (u := .slice A4 (allL t l).length c4) (v := .int .i64 (allL t l).length) rfl (by simp [hz_a3]) (ln49 _ _ _ _ _) rfl ?_
      refine ListK.bin (i := 2) (u := .int .i64 (allL t l).length) (u' := .int .i64 0) (v := .bool false) rfl (by simp [hz_a3]) (by simp) (eql3F (by omega) _) ?_
      refine ListK.done (hK _ _ ?_)
      clear hK K
      refine wpIn_cond (t := false) (by simp [hz_a3]) (wpIn_skip ?_)
      show tx_c.wpIn _ _ _ _ _ _
      unfold tx_c
      generalize hA : Act.put _ _ _ = a4
      have hz_a4 : a4.tmps.size = 15 := by rw [← hA]; simp only [size_put, hz_a3]
      have x6 : a4.eval (.tmp 6) = .slice A4 (allL t l).length c4 := by rw [← hA]; exact (by simp [w6])
      have hd_a4 : a4.defers = [] := by rw [← hA]; simp only [defers_put, hd_a3]
      clear hA
      refine wpIn_seq (region_p 3 ?_)
      intro K hK
      refine ListK.move (i := 0) (v := .slice A4 (allL t l).length c4) rfl (by simp [x6]) ?_
      refine ListK.assign (i := 1) (v := .slice A4 (allL t l).length c4) rfl (by simp [hz_a4]) ?_
      refine ListK.assign (i := 2) (v := .int .i64 0) rfl (by simp) ?_
      refine ListK.done (hK _ _ (wpIn_ret ?_))
      exact hret _ _ _ 0 _ (by simp only [defers_put, hd_a4]) (by simp [hz_a4]) (by simp [hz_a4]) (by simp [truthsE, h0]) (by simp [truthsE, h0]) hLW
end Go.Proofs.Ytfcnombmphophaa
namespace Go.Proofs.Ytfcnombmphophaa
open Go.RowKit Go.Shelf
section
variable {P : Program} {ops : Array Oper} {K : Act → World → Prop} {Kp : Nat → World → World → Prop} {fuel k : Nat} {listed : Array Bool} {a : Act} {w : World} {i d : Nat} {ty : TypeId} {pos : String} {aft : Array Edge} {gd : Option (Nat × Bool)} {u v x : Value} {y : Nat} {tys : Array TypeId} {bi : Builtin}
theorem AnyK.conv {R : World → Prop} {T : Nat → Bool} {s t : TypeId} {z : Operand} (m : May ops Kp listed R T i ⟨some d, .convert s t z, ty, pos, aft, gd⟩)
    (hz : a.eval z = u) (hv : ∀ w, (convert s t u).run P w = .ok v w) (hS : R w)
    (h : AnyK P ops K Kp fuel (listed.setIfInBounds i true) (a.put (some d) v) w) (hw : Region.wanted ⟨some d, .convert s t z, ty, pos, aft, gd⟩ (yielded ops a.tmps) = true := by rfl) : AnyK P ops K Kp (fuel + 1) listed a w :=
  AnyK.take m (.inl ⟨hw, fun w' _ => by simp [execOp, hz, hv w']⟩) hS h
end
section
attribute [local irreducible] AnyK StepK
end
end Go.Proofs.Ytfcnombmphophaa
namespace Go.Proofs.Ytfcnombmphophaa
open Go.RowKit Go.Shelf
end Go.Proofs.Ytfcnombmphophaa
namespace Go.Proofs.Ytfcnombmphophaa
open Go.RowKit Go.Shelf
end Go.Proofs.Ytfcnombmphophaa
namespace Go.Proofs.Ytfcnombmphophaa
open Go.RowKit Go.Shelf
/-! The fewest sales. -/
end Go.Proofs.Ytfcnombmphophaa
namespace Go.Proofs.Ytfcnombmphophaa
open Go.RowKit Go.Shelf Go.ChangeShapes Go.WideShapes
section
variable {H : Type} {enc : TypeId × Value → H} {W : World} {r : Reach} {b0 : Nat}
theorem c3 : Try.prog.cellsOf 3 = 1 := by kernel_rfl
theorem c22 : Try.prog.cellsOf 22 = 1 := by kernel_rfl
theorem c71 : Try.prog.cellsOf 71 = 2 := by kernel_rfl
theorem c73 : Try.prog.cellsOf 73 = 5 := by kernel_rfl
theorem c24 : Try.prog.cellsOf 24 = 3 := by kernel_rfl
theorem get_int {n : Nat} {cs : List Value} {t i : Nat} {y : Option (DataW H × List MemPlace)} (ht : Try.prog.underlying t = some (.int .i64)) (h : DataW.trod enc Try.prog W 0 (fun _ => true) true n t ((cs.drop i).take 1) = y) (hy : ∃ z, y = some z) : ∃ x : Int, cs[i]? = some (.int .i64 x) := by
  obtain ⟨z, rfl⟩ := hy
  obtain ⟨x, hx, _, _⟩ := DataW.trod_int ht h
  refine ⟨x, ?_⟩
  have h2 : ((cs.drop i).take 1)[0]? = some (.int .i64 x) := by rw [hx]; rfl
  rw [List.getElem?_take, if_pos (by omega), List.getElem?_drop] at h2
  simpa using h2
theorem five {cs : List Value} {a b c d e : Value} (hl : cs.length = 5) (h0 : cs[0]? = some a) (h1 : cs[1]? = some b) (h2 : cs[2]? = some c) (h3 : cs[3]? = some d) (h4 : cs[4]? = some e) : cs = [a, b, c, d, e] := by
  match cs, hl with
  | [_, _, _, _, _], _ =>
    simp at h0 h1 h2 h3 h4
    subst h0 h1 h2 h3 h4
    rfl
theorem at_some {α : Type} {xs : List α} {n i : Nat} (h : xs.length = n) (hi : i < n) : ∃ z, xs[i]? = some z := ⟨_, List.getElem?_eq_getElem (by omega)⟩
set_option maxRecDepth 100000 in
/-- Five cells that read as a sale. -/
theorem open_sale {n : Nat} {cs : List Value} {x : DataW H × List MemPlace} (h : DataW.trod enc Try.prog W 0 (fun _ => true) true n 73 cs = some x) : ∃ s : Sale, cs = saleL s := by
  obtain ⟨xs, m, rfl, rfl, hl, hx, hi⟩ := DataW.trod_struct Try.underlying73 h
  rw [c73] at hl
  have h0 := (show DataW.trod enc Try.prog W 0 (fun _ => true) true m 3 ((cs.drop 0).take (Try.prog.cellsOf 3)) = xs[0]? from hi 0 _ rfl)
  have h1 := (show DataW.trod enc Try.prog W 0 (fun _ => true) true m 3 ((cs.drop 1).take (Try.prog.cellsOf 3)) = xs[1]? from hi 1 _ rfl)
  have h2 := (show DataW.trod enc Try.prog W 0 (fun _ => true) true m 3 ((cs.drop 2).take (Try.prog.cellsOf 3)) = xs[2]? from hi 2 _ rfl)
  have h3 := (show DataW.trod enc Try.prog W 0 (fun _ => true) true m 71 ((cs.drop 3).take (Try.prog.cellsOf 71)) = xs[3]? from hi 3 _ rfl)
  rw [c3] at h0 h1 h2
  rw [c71] at h3
  obtain ⟨a, p0⟩ := get_int Try.underlying3 h0 (at_some hx (by decide))
  obtain ⟨b, p1⟩ := get_int Try.underlying3 h1 (at_some hx (by decide))
  obtain ⟨c, p2⟩ := get_int Try.underlying3 h2 (at_some hx (by decide))
  obtain ⟨z, hz⟩ := at_some (i := 3) hx (by decide)
  rw [hz] at h3
  obtain ⟨ys, m', rfl, rfl, hl', hy, hj⟩ := DataW.trod_struct Try.underlying71 h3
  have k0 := (show DataW.trod enc Try.prog W 0 (fun _ => true) true m' 3 ((((cs.drop 3).take 2).drop 0).take (Try.prog.cellsOf 3)) = ys[0]? from hj 0 _ rfl)
  have k1 := (show DataW.trod enc Try.prog W 0 (fun _ => true) true m' 3 ((((cs.drop 3).take 2).drop 1).take (Try.prog.cellsOf 3)) = ys[1]? from hj 1 _ rfl)
  rw [c3] at k0 k1
  obtain ⟨d, k0⟩ := get_int Try.underlying3 k0 (at_some hy (by decide))
  obtain ⟨e, k1⟩ := get_int Try.underlying3 k1 (at_some hy (by decide))
  rw [List.getElem?_take, if_pos (by omega), List.getElem?_drop] at k0 k1
  exact ⟨⟨a, b, c, d, e⟩, five hl p0 p1 p2 k0 k1⟩
set_option maxRecDepth 100000 in
theorem open_batch {v : Value} {d : DataW H} {ps : List MemPlace} (hval : Value.okWide Try.prog W r b0 24 v) (hd : DataW.Trod enc Try.prog W 0 (fun _ => true) true 24 v d ps) :
    ∃ (o t : Int) (A : Option Addr) (l : List Sale) (c : Nat), v = .agg #[.int .i64 o, .int .i64 t, .slice A l.length c] ∧ SalesAt W W.heap.size A l := by
  unfold Value.okWide at hval
  rw [Try.underlying24] at hval
  obtain ⟨cs, rfl, hsz, _⟩ := hval
  rw [c24] at hsz
  obtain ⟨fuel, hf⟩ := hd
  obtain ⟨xs, m, rfl, _, hl, hx, hi⟩ := DataW.trod_struct Try.underlying24 hf
  have h0 := (show DataW.trod enc Try.prog W 0 (fun _ => true) true m 3 (((Value.agg cs).cells.toList.drop 0).take (Try.prog.cellsOf 3)) = xs[0]? from hi 0 _ rfl)
  have h1 := (show DataW.trod enc Try.prog W 0 (fun _ => true) true m 3 (((Value.agg cs).cells.toList.drop 1).take (Try.prog.cellsOf 3)) = xs[1]? from hi 1 _ rfl)
  have h2 := (show DataW.trod enc Try.prog W 0 (fun _ => true) true m 22 (((Value.agg cs).cells.toList.drop 2).take (Try.prog.cellsOf 22)) = xs[2]? from hi 2 _ rfl)
  rw [c3] at h0 h1
  rw [c22] at h2
  obtain ⟨o, h0⟩ := get_int Try.underlying3 h0 (at_some hx (by decide))
  obtain ⟨t, h1⟩ := get_int Try.underlying3 h1 (at_some hx (by decide))
  obtain ⟨z, hz⟩ := at_some (i := 2) hx (by decide)
  rw [hz] at h2
  have hcs : (Value.agg cs).cells.toList = cs.toList := by rfl
  rw [hcs] at h0 h1 h2
  have key : ∃ (A : Option Addr) (l : List Sale) (c : Nat), (cs.toList.drop 2).take 1 = [.slice A l.length c] ∧ SalesAt W W.heap.size A l := by
    rcases DataW.trod_slice Try.underlying22 h2 with ⟨h3, _⟩ | ⟨a, n, c, elems, rest, k, _, h3, _, _, hle, _, hlen, hel, _, _⟩
    · exact ⟨none, [], 0, h3, fun k x hx => by simp at hx⟩
    · rw [c73] at hel
      have hsale : ∀ i, i < n → ∃ s : Sale, W.cells? 0 (a.add (i * 5)) 5 = some (saleL s) := by
        intro i hi
        have h4 := hel i hi
        obtain ⟨y, hy⟩ := at_some (i := i) hlen hi
        rw [hy, Option.bind_eq_some_iff] at h4
        obtain ⟨cs', h5, h6⟩ := h4
        obtain ⟨s, rfl⟩ := open_sale h6
        exact ⟨s, h5⟩
      obtain ⟨f, hf⟩ : ∃ f : Nat → Sale, ∀ i, i < n → W.cells? 0 (a.add (i * 5)) 5 = some (saleL (f i)) :=
        ⟨fun i => if h : i < n then Classical.choose (hsale i h) else ⟨0, 0, 0, 0, 0⟩, fun i hi => by
          dsimp only
          rw [dif_pos hi]
          exact Classical.choose_spec (hsale i hi)⟩
      refine ⟨some a, (List.range n).map f, c, by rw [h3]; simp, ?_⟩
      intro k s hs
      rw [List.getElem?_map, Option.map_eq_some_iff] at hs
      obtain ⟨k', hk', rfl⟩ := hs
      obtain ⟨hkn, rfl⟩ : k < n ∧ k' = k := by
        have := List.getElem?_eq_some_iff.1 hk'
        obtain ⟨h7, h8⟩ := this
        simp at h7 h8
        exact ⟨h7, h8.symm⟩
      have hcl := (World.cells?_some (hf k' hkn)).2.2
      obtain ⟨b, off, spot⟩ := a
      have hspot : spot = none := by
        have hcl0 := (World.cells?_some (hf 0 (by omega))).2.2 0 (by omega)
        have := World.cell?_spot (w := W) (a := (Addr.add ⟨b, off, spot⟩ (0 * 5)).add 0) (v := .int .i64 (f 0).src) (by rw [hcl0]; rfl)
        simpa [Addr.add] using this
      subst hspot
      have hc : ∀ j, j < 5 → W.cell? ⟨b, off + k' * 5 + j, none⟩ = (saleL (f k'))[j]? := by
        intro j hj
        have := hcl j hj
        rwa [add_plain, add_plain] at this
      have g0 := hc 0 (by omega)
      have g1 := hc 1 (by omega)
      have g2 := hc 2 (by omega)
      have g3 := hc 3 (by omega)
      have g4 := hc 4 (by omega)
      exact ⟨b, off, rfl, block_lt_of_cell (v := .int .i64 (f k').src) g0, g0, g1, g2, g3, g4⟩
  obtain ⟨A, l, c, h3, hs⟩ := key
  refine ⟨o, t, A, l, c, ?_, hs⟩
  have h4 : cs.toList[2]? = some (.slice A l.length c) := by
    have : ((cs.toList.drop 2).take 1)[0]? = some (.slice A l.length c) := by rw [h3]; rfl
    rw [List.getElem?_take, if_pos (by omega), List.getElem?_drop] at this
    simpa using this
  have h5 : cs.toList = [.int .i64 o, .int .i64 t, .slice A l.length c] := by
    have hl3 : cs.toList.length = 3 := by simpa using hsz
    generalize cs.toList = ls at *
    match ls, hl3 with
    | [_, _, _], _ =>
      simp at h0 h1 h4
      subst h0 h1 h4
      rfl
  have : cs = #[.int .i64 o, .int .i64 t, .slice A l.length c] := by
    apply Array.ext'
    rw [h5]
  rw [this]
end
/-- A READING IS CARRIED OVER WHATEVER LIES BEHIND. -/
theorem laidOut : laidOutB Try.prog = true := by kernel_rfl
theorem r24 : Try.prog.readableRec 24 = true := by kernel_rfl
end Go.Proofs.Ytfcnombmphophaa
namespace Go.Proofs.Ytfcnombmphophaa
open Go.RowKit Go.Shelf Go.ChangeShapes Go.WideShapes
section
variable {P : Program} {ops : Array Oper} {K : Act → World → Prop} {Kp : Nat → World → World → Prop} {fuel k : Nat} {listed : Array Bool} {a : Act} {w w' : World} {i d : Nat} {ty : TypeId} {pos : String} {aft : Array Edge} {gd : Option (Nat × Bool)} {u u' v v2 v' : Value} {t : TypeId} {x y : Operand}
end
section
attribute [local irreducible] AnyK StepK
end
end Go.Proofs.Ytfcnombmphophaa
namespace Go.Proofs.Ytfcnombmphophaa
open Go.RowKit Go.Shelf
section
attribute [local irreducible] AnyK StepK
end
end Go.Proofs.Ytfcnombmphophaa
namespace Go.Proofs.Ytfcnombmphophaa
open Go.RowKit Go.Shelf
/-- The memory: the batch and its sales. -/
structure TrK (W : World) (p6 p8 : Nat) (o t : Int) (vs : Value) (l : List Sale) (W' : World) : Prop where
  low : Below W.heap.size W W'
  k6 : Whole W' p6 24 #[.int .i64 0, .int .i64 0, .slice none 0 0]
  k8 : Whole W' p8 24 #[.int .i64 o, .int .i64 t, vs]
  os : W'.ownsRow (p8 + 1) 73 5 vs l.length (salesL l)
  p6W : W.heap.size ≤ p6
  p68 : p6 < p8
section
variable {W W' W'' W2 : World} {p6 p8 : Nat} {o t : Int} {vs vo vd v : Value} {l : List Sale} {n : Nat} {xs : List Value}
theorem TrK.below (h : TrK W p6 p8 o t vs l W') (hb : Below W'.heap.size W' W'') : TrK W p6 p8 o t vs l W'' :=
  ⟨h.low.trans (hb.mono h.low.size), h.k6.below hb h.k6.lt, h.k8.below hb h.k8.lt, h.os.kept (grown_of_below hb) (by cases vs.ownBlock <;> simp), h.p6W, h.p68⟩
end
section
variable {o t dy fr to : Int} {A A1 : Option Addr} {n c c1 p6 p8 i wd k : Nat} {vo vd v : Value} {l : List Sale} {a1 : Act} {W Wr W1 : World} {Q : Exit → Act → World → Prop}
end
end Go.Proofs.Ytfcnombmphophaa
namespace Go.Proofs.Ytfcnombmphophaa
open Go.RowKit Go.Shelf
section
variable {o t dy : Int} {A1 : Option Addr} {c1 p6 p8 i : Nat} {vs vo vd : Value} {l : List Sale} {ds : List Int} {ws : List Nat} {a1 : Act} {W Wb W1 : World} {Q : Exit → Act → World → Prop}
end
end Go.Proofs.Ytfcnombmphophaa
namespace Go.Proofs.Ytfcnombmphophaa
open Go.RowKit Go.Shelf
end Go.Proofs.Ytfcnombmphophaa
namespace Go.Proofs.Ytfcnombmphophaa
open Go.RowKit Go.Shelf
theorem nq3F {x y : Operand} {m n : Int} (h : m = n) (w : World) : (do eqGuard .neq 3 x y (.int .i64 m) (.int .i64 n); binOp .neq 3 (.int .i64 m) (.int .i64 n) : Sem Value).run Try.prog w = .ok (.bool false) w := by
  subst h
  go_simp
section
attribute [local irreducible] AnyK StepK
end
end Go.Proofs.Ytfcnombmphophaa
namespace Go.Proofs.Ytfcnombmphophaa
open Go.RowKit Go.Shelf
theorem mul3 {x y : Operand} {m n : Int} (h0 : -100000 ≤ m * n) (h1 : m * n ≤ 10000000) (w : World) : (do eqGuard .mul 3 x y (.int .i64 m) (.int .i64 n); binOp .mul 3 (.int .i64 m) (.int .i64 n) : Sem Value).run Try.prog w = .ok (.int .i64 (m * n)) w := by
  have := IntWalk.i64_in (m * n) (by omega)
  go_simp
theorem gtrT3 {x y : Operand} {m n : Int} (h : n < m) (w : World) : (do eqGuard .gtr 3 x y (.int .i64 m) (.int .i64 n); binOp .gtr 3 (.int .i64 m) (.int .i64 n) : Sem Value).run Try.prog w = .ok (.bool true) w := by
  go_simp
theorem gtrF3 {x y : Operand} {m n : Int} (h : ¬ n < m) (w : World) : (do eqGuard .gtr 3 x y (.int .i64 m) (.int .i64 n); binOp .gtr 3 (.int .i64 m) (.int .i64 n) : Sem Value).run Try.prog w = .ok (.bool false) w := by
  go_simp
theorem lssT3 {x y : Operand} {m n : Int} (h : m < n) (w : World) : (do eqGuard .lss 3 x y (.int .i64 m) (.int .i64 n); binOp .lss 3 (.int .i64 m) (.int .i64 n) : Sem Value).run Try.prog w = .ok (.bool true) w := by
  go_simp
theorem lssF3 {x y : Operand} {m n : Int} (h : ¬ m < n) (w : World) : (do eqGuard .lss 3 x y (.int .i64 m) (.int .i64 n); binOp .lss 3 (.int .i64 m) (.int .i64 n) : Sem Value).run Try.prog w = .ok (.bool false) w := by
  go_simp
theorem neqT3 {x y : Operand} {m n : Int} (h : m ≠ n) (w : World) : (do eqGuard .neq 3 x y (.int .i64 m) (.int .i64 n); binOp .neq 3 (.int .i64 m) (.int .i64 n) : Sem Value).run Try.prog w = .ok (.bool true) w := by
  rw [neq3]
  simp [h]
section
attribute [local irreducible] AnyK StepK
noncomputable def opsFx9 : Array Oper := (Try.f28.body.bind (regionOf 9)).getD #[]
set_option maxHeartbeats 2000000 in
theorem regionFx9 {F : Fence} {n : Nat} (hF : WideF F Try.prog) {Q : Exit → Act → World → Prop} {a : Act} {w : World} {b4 b nl c off k : Nat} {nn lo hi : Int} (hsz : a.tmps.size = 47)
    (t1 : a.eval (.tmp 1) = .pointer (some ⟨b4, 0, none⟩)) (t3 : a.eval (.tmp 3) = .int .i64 nn) (t4 : a.eval (.tmp 4) = .int .i64 k)
    (m0 : w.cell? ⟨b4, 2, none⟩ = some (.slice (some ⟨b, off, none⟩) nl c)) (m1 : w.cell? ⟨b, off + k * 5 + 3, none⟩ = some (.int .i64 lo)) (m2 : w.cell? ⟨b, off + k * 5 + 3 + 1, none⟩ = some (.int .i64 hi)) (hk : k < nl) (hlo : 0 ≤ lo ∧ lo ≤ 100) (hhi : 0 ≤ hi ∧ hi ≤ 100) (hn : 0 ≤ nn * (hi - lo + 1) ∧ nn * (hi - lo + 1) ≤ 100000)
    (hK : ∀ a' W', Below w.heap.size w W' → a'.tmps.size = 47 → a'.defers = a.defers → a'.eval (.tmp 3) = .int .i64 (nn * (hi - lo + 1)) → (∀ e : Nat, e < 23 → e ≠ 3 → a'.eval (.tmp e) = a.eval (.tmp e)) → Q .normal a' W') :
    (Code.region 9 opsFx9 true).wpIn F n Try.prog Q a w := by
  have hR : (fun w : World => w.cell? ⟨b4, 2, none⟩ = some (.slice (some ⟨b, off, none⟩) nl c) ∧ w.cell? ⟨b, off + k * 5 + 3, none⟩ = some (.int .i64 lo) ∧ w.cell? ⟨b, off + k * 5 + 3 + 1, none⟩ = some (.int .i64 hi)) w.drew := ⟨m0, m1, m2⟩
  have hB : Below w.heap.size w w.drew := (Below.refl _ _).drew
  refine region_K (KpR (fun w => w.cell? ⟨b4, 2, none⟩ = some (.slice (some ⟨b, off, none⟩) nl c) ∧ w.cell? ⟨b, off + k * 5 + 3, none⟩ = some (.int .i64 lo) ∧ w.cell? ⟨b, off + k * 5 + 3 + 1, none⟩ = some (.int .i64 hi)) (fun _ => false)) hF (by kernel_rfl) Try.mixed ?_
  change AnyK _ _ _ _ 19 (Array.replicate 19 false) _ _
  generalize w.drew = W at *
  refine AnyK.move (i := 0) may_o (v := .int .i64 nn) (by simp [t3]) hR ?_
  refine AnyK.field (i := 1) may_o (u := .pointer (some ⟨b4, 0, none⟩)) (v := .pointer (some ⟨b4, 2, none⟩)) (by simp [t1]) (fun w => fa24_2 w) hR ?_
  refine AnyK.load (i := 2) may_o (p := ⟨b4, 2, none⟩) (v := .slice (some ⟨b, off, none⟩) nl c) (by simp [hsz]) (fun w hw => ld22 hw.1) hR ?_
  refine AnyK.move (i := 3) may_o (v := .int .i64 k) (by simp [t4]) hR ?_
  refine AnyK.index (i := 4) may_o (u := .slice (some ⟨b, off, none⟩) nl c) (u' := .int .i64 k) (v := .pointer (some ⟨b, off + k * 5, none⟩)) (by simp [hsz]) (by simp [hsz]) (fun w => ix22 hk w) hR ?_
  refine AnyK.field (i := 5) may_o (u := .pointer (some ⟨b, off + k * 5, none⟩)) (v := .pointer (some ⟨b, off + k * 5 + 3, none⟩)) (by simp [hsz]) (fun w => fa73_3 w) hR ?_
  refine AnyK.field (i := 6) may_o (u := .pointer (some ⟨b, off + k * 5 + 3, none⟩)) (v := .pointer (some ⟨b, off + k * 5 + 3 + 1, none⟩)) (by simp [hsz]) (fun w => fa71_1 w) hR ?_
  refine AnyK.load (i := 7) may_o (p := ⟨b, off + k * 5 + 3 + 1, none⟩) (v := .int .i64 hi) (by simp [hsz]) (fun w hw => ld3 hw.2.2) hR ?_
  refine AnyK.field (i := 8) may_o (u := .pointer (some ⟨b4, 0, none⟩)) (v := .pointer (some ⟨b4, 2, none⟩)) (by simp [t1]) (fun w => fa24_2 w) hR ?_
  refine AnyK.load (i := 9) may_o (p := ⟨b4, 2, none⟩) (v := .slice (some ⟨b, off, none⟩) nl c) (by simp [hsz]) (fun w hw => ld22 hw.1) hR ?_
  refine AnyK.move (i := 10) may_o (v := .int .i64 k) (by simp [t4]) hR ?_
  refine AnyK.index (i := 11) may_o (u := .slice (some ⟨b, off, none⟩) nl c) (u' := .int .i64 k) (v := .pointer (some ⟨b, off + k * 5, none⟩)) (by simp [hsz]) (by simp [hsz]) (fun w => ix22 hk w) hR ?_
  refine AnyK.field (i := 12) may_o (u := .pointer (some ⟨b, off + k * 5, none⟩)) (v := .pointer (some ⟨b, off + k * 5 + 3, none⟩)) (by simp [hsz]) (fun w => fa73_3 w) hR ?_
  refine AnyK.field (i := 13) may_o (u := .pointer (some ⟨b, off + k * 5 + 3, none⟩)) (v := .pointer (some ⟨b, off + k * 5 + 3, none⟩)) (by simp [hsz]) (fun w => fa71_0 w) hR ?_
  refine AnyK.load (i := 14) may_o (p := ⟨b, off + k * 5 + 3, none⟩) (v := .int .i64 lo) (by simp [hsz]) (fun w hw => ld3 hw.2.1) hR ?_
  refine AnyK.bin (i := 15) may_o (u := .int .i64 hi) (u' := .int .i64 lo) (v := .int .i64 (hi - lo)) (by simp [hsz]) (by simp [hsz]) (fun w => sub3 (by omega) (by omega) w) hR ?_
  refine AnyK.bin (i := 16) may_o (u := .int .i64 (hi - lo)) (u' := .int .i64 (1)) (v := .int .i64 (hi - lo + 1)) (by simp [hsz]) (by simp) (fun w => add3 (by omega) (by omega) w) hR ?_
  refine AnyK.bin (i := 17) may_o (u := .int .i64 nn) (u' := .int .i64 (hi - lo + 1)) (v := .int .i64 (nn * (hi - lo + 1))) (by simp [hsz]) (by simp [hsz]) (fun w => mul3 (by omega) (by omega) w) hR ?_
  refine AnyK.assign (i := 18) may_o (v := .int .i64 (nn * (hi - lo + 1))) (by simp [hsz]) hR ?_
  refine AnyK.done (by kernel_rfl) (hK _ _ hB ?_ ?_ ?_ ?_)
  · simp only [size_put, hsz]
  · simp only [defers_put]
  · exact (by simp [hsz])
  · intro e h1 h2
    iterate 19 refine (ev_ne (by omega)).trans ?_
    rfl

end
noncomputable def opsFx0 : Array Oper := (Try.f28.body.bind (regionOf 0)).getD #[]
noncomputable def opsFx1 : Array Oper := (Try.f28.body.bind (regionOf 1)).getD #[]
noncomputable def opsFx2 : Array Oper := (Try.f28.body.bind (regionOf 2)).getD #[]
noncomputable def opsFx3 : Array Oper := (Try.f28.body.bind (regionOf 3)).getD #[]
noncomputable def opsFx4 : Array Oper := (Try.f28.body.bind (regionOf 4)).getD #[]
noncomputable def opsFx5 : Array Oper := (Try.f28.body.bind (regionOf 5)).getD #[]
noncomputable def opsFx6 : Array Oper := (Try.f28.body.bind (regionOf 6)).getD #[]
noncomputable def opsFx7 : Array Oper := (Try.f28.body.bind (regionOf 7)).getD #[]
noncomputable def opsFx8 : Array Oper := (Try.f28.body.bind (regionOf 8)).getD #[]
noncomputable def opsFx10 : Array Oper := (Try.f28.body.bind (regionOf 10)).getD #[]
noncomputable def opsFx11 : Array Oper := (Try.f28.body.bind (regionOf 11)).getD #[]
noncomputable def opsFx12 : Array Oper := (Try.f28.body.bind (regionOf 12)).getD #[]
noncomputable def fx_l : Code := (.seq (.seq (.region 7 opsFx7 false) (.cond (.tmp 20) .skip (.exit 0))) (.seq (.block 1 (.seq (.region 9 opsFx9 true) (.seq (.region 10 opsFx10 false) (.cond (.tmp 42) (.seq (.region 11 opsFx11 false) .ret) .skip)))) (.region 8 opsFx8 false)))
noncomputable def fx_d : Code := (.seq (.region 12 opsFx12 false) .ret)
noncomputable def fx_c : Code := (.seq (.region 5 opsFx5 false) (.seq (.seq (.region 6 opsFx6 false) (.block 0 (.loop fx_l))) fx_d))
noncomputable def fx_b : Code := (.seq (.seq (.region 3 opsFx3 false) (.cond (.tmp 11) (.seq (.region 4 opsFx4 false) .ret) .skip)) fx_c)
noncomputable def code28 : Code := (.seq (.region 0 opsFx0 false) (.seq (.seq (.region 1 opsFx1 false) (.cond (.tmp 8) (.seq (.region 2 opsFx2 false) .ret) .skip)) fx_b))
theorem body28 : Try.f28.body = some code28 := by kernel_rfl
/-- What Few gives. -/
abbrev FwP (W : World) (o t : Int) (l : List Sale) : Ending → World → Prop := fun e w' => ∃ b, e = .returned (.bool b) ∧ Below W.heap.size W w' ∧ (b = true → l.length ≤ 12 ∧ (fault o t l = 0 → l.length ≤ 5 ∧ prodP l [] l.length ≤ 300))
set_option maxHeartbeats 4000000 in
theorem few_any (o t : Int) (A : Option Addr) (l : List Sale) (c : Nat) (W : World) (hs : SalesAt W W.heap.size A l) :
    Calls Try.prog 28 #[.agg #[.int .i64 o, .int .i64 t, .slice A l.length c]] W (FwP W o t l) := by
  refine (callsIn_wide (n := 5)).1 (callsIn_of_wp Try.func28 body28 trivial ?_ rfl)
  obtain ⟨a, ha⟩ : ∃ a : Act, a = { tmps := #[.agg #[.int .i64 o, .int .i64 t, .slice A l.length c]] ++ Array.replicate (Try.f28.ntmps - (#[.agg #[.int .i64 o, .int .i64 t, .slice A l.length c]] : Array Value).size) undef, defers := [] } := ⟨_, rfl⟩
  have hsz : a.tmps.size = 47 := by rw [ha]; simp [Try.ntmps28]
  have t0 : a.eval (.tmp 0) = .agg #[.int .i64 o, .int .i64 t, .slice A l.length c] := by rw [ha]; simp [Act.eval]
  have hdf : a.defers = [] := by rw [ha]
  rw [← ha]
  clear ha
  have hret : ∀ (a' : Act) (W' : World) (b : Bool), a'.defers = [] → a'.eval (.tmp 2) = .bool b → Below W.heap.size W W' → (b = true → l.length ≤ 12 ∧ (fault o t l = 0 → l.length ≤ 5 ∧ prodP l [] l.length ≤ 300)) → bodyPost Try.prog Try.f28 (FwP W o t l) .ret a' W' := fun a' W' b hd h4 hb h5 =>
    bodyPost_ret (v := .bool b) (res1 Try.results28 h4) hd ⟨b, rfl, hb, h5⟩
  unfold code28
  refine wpIn_seq (region_p 2 ?_)
  intro K hK
  refine ListK.box (i := 0) (u := .agg #[.int .i64 o, .int .i64 t, .slice A l.length c]) rfl (by simp [t0]) (bx24 W _ _ _ _ _) ?_
  refine ListK.assign (i := 1) (v := .bool false) rfl (by simp) ?_
  refine ListK.done (hK _ _ ?_)
  clear hK K
  have wb := Whole.new W 24 #[.int .i64 o, .int .i64 t, .slice A l.length c]
  have hB1 : Below W.heap.size W (W.alloc (.cells #[.int .i64 o, .int .i64 t, .slice A l.length c] 24)) := (Below.refl _ W).alloc (Nat.le_refl _) _
  generalize hb3 : W.heap.size = b3 at *
  generalize W.alloc (.cells #[.int .i64 o, .int .i64 t, .slice A l.length c] 24) = W1 at *
  have hS1 : b3 ≤ W1.heap.size := by have := hB1.size; omega
  have hs1 : SalesAt W1 W1.heap.size A l := (hs.below hB1 (Nat.le_refl _)).more hS1
  generalize hA : Act.put _ _ _ = a1
  have hz_a1 : a1.tmps.size = 47 := by rw [← hA]; simp only [size_put, hsz]
  have u1 : a1.eval (.tmp 1) = .pointer (some ⟨b3, 0, none⟩) := by rw [← hA]; exact (by simp [hsz])
  have hd_a1 : a1.defers = [] := by rw [← hA]; simp only [defers_put, hdf]
  clear hA
  by_cases h12 : 12 < l.length
  · skip
    refine wpIn_seq (wpIn_seq (region_p 4 ?_))
    intro K hK
    refine ListK.field (i := 0) (u := .pointer (some ⟨b3, 0, none⟩)) (v := .pointer (some ⟨b3, 2, none⟩)) rfl (by simp [u1]) (fa24_2 _) ?_
    refine ListK.load (i := 1) (p := ⟨b3, 2, none⟩) (v := .slice A l.length c) rfl (by simp [hz_a1]) (ld22 (wb.cell 2)) ?_
    refine ListK.len (i := 2) (u := .slice A l.length c) (v := .int .i64 l.length) rfl (by simp [hz_a1]) (ln22 _ _ _ _ _) rfl ?_
    refine ListK.bin (i := 3) (u := .int .i64 l.length) (u' := .int .i64 12) (v := .bool true) rfl (by simp [hz_a1]) (by simp) (gtrT3 (by omega) _) ?_
    refine ListK.done (hK _ _ ?_)
    clear hK K
    refine wpIn_cond (t := true) (by simp [hz_a1]) ?_
    generalize hA : Act.put _ _ _ = a2
    have hz_a2 : a2.tmps.size = 47 := by rw [← hA]; simp only [size_put, hz_a1]
    have v1 : a2.eval (.tmp 1) = .pointer (some ⟨b3, 0, none⟩) := by rw [← hA]; exact (by simp [u1])
    have hd_a2 : a2.defers = [] := by rw [← hA]; simp only [defers_put, hd_a1]
    clear hA
    refine wpIn_seq (region_p 1 ?_)
    intro K hK
    refine ListK.assign (i := 0) (v := .bool false) rfl (by simp) ?_
    refine ListK.done (hK _ _ (wpIn_ret ?_))
    exact hret _ _ false (by simp only [defers_put, hd_a2]) (by simp [hz_a2]) (hB1) (fun h => by cases h)
  · skip
    refine wpIn_seq (wpIn_seq (region_p 4 ?_))
    intro K hK
    refine ListK.field (i := 0) (u := .pointer (some ⟨b3, 0, none⟩)) (v := .pointer (some ⟨b3, 2, none⟩)) rfl (by simp [u1]) (fa24_2 _) ?_
    refine ListK.load (i := 1) (p := ⟨b3, 2, none⟩) (v := .slice A l.length c) rfl (by simp [hz_a1]) (ld22 (wb.cell 2)) ?_
    refine ListK.len (i := 2) (u := .slice A l.length c) (v := .int .i64 l.length) rfl (by simp [hz_a1]) (ln22 _ _ _ _ _) rfl ?_
    refine ListK.bin (i := 3) (u := .int .i64 l.length) (u' := .int .i64 12) (v := .bool false) rfl (by simp [hz_a1]) (by simp) (gtrF3 (by omega) _) ?_
    refine ListK.done (hK _ _ ?_)
    clear hK K
    refine wpIn_cond (t := false) (by simp [hz_a1]) (wpIn_skip ?_)
    show fx_b.wpIn _ _ _ _ _ _
    unfold fx_b
    generalize hA : Act.put _ _ _ = a2
    have hz_a2 : a2.tmps.size = 47 := by rw [← hA]; simp only [size_put, hz_a1]
    have v1 : a2.eval (.tmp 1) = .pointer (some ⟨b3, 0, none⟩) := by rw [← hA]; exact (by simp [u1])
    have hd_a2 : a2.defers = [] := by rw [← hA]; simp only [defers_put, hd_a1]
    clear hA
    by_cases h0 : fault o t l = 0
    · skip
      refine wpIn_seq (wpIn_seq (region_p 3 ?_))
      intro K hK
      refine ListK.load (i := 0) (p := ⟨b3, 0, none⟩) (v := .agg #[.int .i64 o, .int .i64 t, .slice A l.length c]) rfl (by simp [v1]) (ld24 ⟨wb.cell 0, wb.cell 1, wb.cell 2⟩) ?_
      refine ListK.call (i := 1) (vs := #[.agg #[.int .i64 o, .int .i64 t, .slice A l.length c]]) rfl (enters_of Try.func51 (by kernel_rfl) rfl) (by simp [hz_a2]) (((refFault_any o t A l c W1 (by omega) hs1)).mono ?_)
      rintro _ W3 ⟨rfl, hb1'⟩
      refine ⟨_, rfl, ?_⟩
      refine ListK.bin (i := 2) (u := .int .i64 (fault o t l)) (u' := .int .i64 0) (v := .bool false) rfl (by simp [hz_a2]) (by simp) (nq3F h0 _) ?_
      refine ListK.done (hK _ _ ?_)
      clear hK K
      refine wpIn_cond (t := false) (by simp [hz_a2]) (wpIn_skip ?_)
      show fx_c.wpIn _ _ _ _ _ _
      unfold fx_c
      have hv := valid_of_fault h0
      have hw3 := wb.below hb1' wb.lt
      have hs3 : SalesAt W3 W3.heap.size A l := (hs1.below hb1' (Nat.le_refl _)).more hb1'.size
      have hB3 : Below b3 W W3 := hB1.trans (hb1'.mono hS1)
      generalize hA : Act.put _ _ _ = a3
      have hz_a3 : a3.tmps.size = 47 := by rw [← hA]; simp only [size_put, hz_a2]
      have w1 : a3.eval (.tmp 1) = .pointer (some ⟨b3, 0, none⟩) := by rw [← hA]; exact (by simp [v1])
      have hd_a3 : a3.defers = [] := by rw [← hA]; simp only [defers_put, hd_a2]
      clear hA
      refine wpIn_seq (region_p 1 ?_)
      intro K hK
      refine ListK.assign (i := 0) (v := .int .i64 1) rfl (by simp) ?_
      refine ListK.done (hK _ _ ?_)
      clear hK K
      generalize hA : Act.put _ _ _ = a4
      have hz_a4 : a4.tmps.size = 47 := by rw [← hA]; simp only [size_put, hz_a3]
      have x1 : a4.eval (.tmp 1) = .pointer (some ⟨b3, 0, none⟩) := by rw [← hA]; exact (by simp [w1])
      have x3 : a4.eval (.tmp 3) = .int .i64 1 := by rw [← hA]; exact (by simp [hz_a3])
      have hd_a4 : a4.defers = [] := by rw [← hA]; simp only [defers_put, hd_a3]
      clear hA
      refine wpIn_seq (wpIn_seq (region_p 1 ?_))
      intro K hK
      refine ListK.assign (i := 0) (v := .int .i64 0) rfl (by simp) ?_
      refine ListK.done (hK _ _ ?_)
      clear hK K
      refine wpIn_block (wpIn_loop (fun a W' => ∃ i : Nat, i ≤ l.length ∧ i ≤ 5 ∧ prodP l [] i ≤ 300 ∧ a.tmps.size = 47 ∧ a.defers = [] ∧ a.eval (.tmp 1) = .pointer (some ⟨b3, 0, none⟩) ∧ a.eval (.tmp 3) = .int .i64 (prodP l [] i : Nat) ∧ a.eval (.tmp 4) = .int .i64 i ∧ Below W3.heap.size W3 W') (fun a _ => l.length - (intOf (a.eval (.tmp 4))).toNat)
        ⟨0, Nat.zero_le _, Nat.zero_le _, (by show 1 ≤ 300; omega), (by simp only [size_put, hz_a4]), (by simp only [defers_put, hd_a4]), (by simp [x1]), (by show _ = Value.int .i64 1; exact (by simp [x3])), (by simp [hz_a4]), Below.refl _ _⟩ ?_)
      clear hsz t0 hdf hz_a1 u1 hd_a1 hz_a2 v1 hd_a2 hz_a3 w1 hd_a3 hz_a4 x1 x3 hd_a4 a a1 a2 a3 a4
      rintro b1 W4 ⟨i, hil, hi5, hp, hz_b1, hd_b1, u1, u3, u4, hb4⟩
      have wb4 := hw3.below hb4 hw3.lt
      have hs4 : SalesAt W4 W4.heap.size A l := (hs3.below hb4 (Nat.le_refl _)).more hb4.size
      have hB4 : Below b3 W W4 := hB3.trans (hb4.mono (by have := hB3.size; omega))
      have hout : ∀ (a' : Act), a'.tmps.size = 47 → a'.defers = [] → a'.eval (.tmp 1) = .pointer (some ⟨b3, 0, none⟩) → (l.length ≤ 5 → i = l.length) → fx_d.wpIn Fence.wide 5 Try.prog (bodyPost Try.prog Try.f28 (FwP W o t l)) a' W4 := by
        intro c1' hz_c1' hd_c1' y1 hfin
        unfold fx_d
        refine wpIn_seq (region_p 5 ?_)
        intro K hK
        refine ListK.field (i := 0) (u := .pointer (some ⟨b3, 0, none⟩)) (v := .pointer (some ⟨b3, 2, none⟩)) rfl (by simp [y1]) (fa24_2 _) ?_
        refine ListK.load (i := 1) (p := ⟨b3, 2, none⟩) (v := .slice A l.length c) rfl (by simp [hz_c1']) (ld22 (wb4.cell 2)) ?_
        refine ListK.len (i := 2) (u := .slice A l.length c) (v := .int .i64 l.length) rfl (by simp [hz_c1']) (ln22 _ _ _ _ _) rfl ?_
        refine ListK.bin (i := 3) (u := .int .i64 l.length) (u' := .int .i64 5) (v := .bool (decide ((l.length : Int) ≤ 5))) rfl (by simp [hz_c1']) (by simp) (leq3 _) ?_
        refine ListK.assign (i := 4) (v := .bool (decide ((l.length : Int) ≤ 5))) rfl (by simp [hz_c1']) ?_
        refine ListK.done (hK _ _ (wpIn_ret ?_))
        refine hret _ _ (decide ((l.length : Int) ≤ 5)) (by simp only [defers_put, hd_c1']) (by simp [hz_c1']) (hB4) (fun h => ⟨by omega, fun _ => ?_⟩)
        rw [decide_eq_true_eq] at h
        have := hfin (by omega)
        subst this
        exact ⟨by omega, hp⟩
      unfold fx_l
      by_cases hil2 : i < l.length
      · skip
        have hme : ∀ x : Act, x.eval (.tmp 4) = .int .i64 ((i + 1 : Nat) : Int) → l.length - (intOf (x.eval (.tmp 4))).toNat < l.length - (intOf (b1.eval (.tmp 4))).toNat := by
          intro x e
          rw [e, u4]
          simp only [intOf]
          omega
        by_cases hi52 : i < 5
        · skip
          refine wpIn_seq (wpIn_seq (region_p 9 ?_))
          intro K hK
          refine ListK.move (i := 0) (v := .int .i64 i) rfl (by simp [u4]) ?_
          refine ListK.field (i := 1) (u := .pointer (some ⟨b3, 0, none⟩)) (v := .pointer (some ⟨b3, 2, none⟩)) rfl (by simp [u1]) (fa24_2 _) ?_
          refine ListK.load (i := 2) (p := ⟨b3, 2, none⟩) (v := .slice A l.length c) rfl (by simp [hz_b1]) (ld22 (wb4.cell 2)) ?_
          refine ListK.len (i := 3) (u := .slice A l.length c) (v := .int .i64 l.length) rfl (by simp [hz_b1]) (ln22 _ _ _ _ _) rfl ?_
          refine ListK.bin (i := 4) (u := .int .i64 i) (u' := .int .i64 l.length) (v := .bool true) rfl (by simp [hz_b1]) (by simp [hz_b1]) (lssT3 (by omega) _) ?_
          refine ListK.move (i := 5) (v := .bool true) rfl (by simp [hz_b1]) ?_
          refine ListK.move (i := 6) (v := .int .i64 i) rfl (by simp [u4]) ?_ (hw := wanted_g (e := 17) (b' := true) rfl (by simp [hz_b1]) rfl)
          refine ListK.bin (i := 7) (u := .int .i64 i) (u' := .int .i64 5) (v := .bool true) rfl (by simp [hz_b1]) (by simp) (lssT3 (by omega) _) ?_ (hw := wanted_g (e := 17) (b' := true) rfl (by simp [hz_b1]) rfl)
          refine ListK.pick (i := 8) (b := true) (v := .bool true) rfl (by simp [hz_b1]) (by simp [hz_b1]) ?_
          refine ListK.done (hK _ _ ?_)
          clear hK K
          refine wpIn_cond (t := true) (by simp [hz_b1]) (wpIn_skip ?_)
          generalize hA : Act.put _ _ _ = b2
          have hz_b2 : b2.tmps.size = 47 := by rw [← hA]; simp only [size_put, hz_b1]
          have v1 : b2.eval (.tmp 1) = .pointer (some ⟨b3, 0, none⟩) := by rw [← hA]; exact (by simp [u1])
          have v3 : b2.eval (.tmp 3) = .int .i64 (prodP l [] i : Nat) := by rw [← hA]; exact (by simp [u3])
          have v4 : b2.eval (.tmp 4) = .int .i64 i := by rw [← hA]; exact (by simp [u4])
          have hd_b2 : b2.defers = [] := by rw [← hA]; simp only [defers_put, hd_b1]
          clear hA
          have hgl : l[i]? = some l[i] := List.getElem?_eq_getElem hil2
          have hsl := saleOf_eq hgl
          have hsv := saleOf_valid hv hil2
          rw [hsl] at hsv
          obtain ⟨b, off, hA, hbB, s0, s1, s2, s3, s4⟩ := hs4 i _ hgl
          subst hA
          have hwd : ((width l i : Nat) : Int) = l[i].hi - l[i].lo + 1 := by
            unfold width
            rw [hsl]
            omega
          have hw101 : width l i ≤ 101 := by omega
          have hpm : prodP l [] (i + 1) = prodP l [] i * width l i := by
            rw [prodP]
            simp [hasI]
          have hpl : prodP l [] i * width l i ≤ 300 * 101 := Nat.mul_le_mul hp hw101
          have hpe : ((prodP l [] i : Nat) : Int) * (l[i].hi - l[i].lo + 1) = ((prodP l [] (i + 1) : Nat) : Int) := by
            rw [hpm, Int.natCast_mul, hwd]
          refine wpIn_seq (wpIn_block (wpIn_seq (regionFx9 (wideF_plain _) hz_b2 v1 v3 v4 (wb4.cell 2) s3 s4 hil2 ⟨by omega, by omega⟩ ⟨by omega, by omega⟩ ⟨by rw [hpe]; omega, by rw [hpe]; omega⟩ fun a5 W5 hb5 hz_a5 hd_a5 h53 hr5 => ?_)))
          rw [hpe] at h53
          have y1 := (hr5 1 (by omega) (by omega)).trans v1
          have y4 := (hr5 4 (by omega) (by omega)).trans v4
          have hB5 : Below b3 W W5 := hB4.trans (hb5.mono (by have := hB4.size; omega))
          have hd_a5' : a5.defers = [] := hd_a5.trans hd_b2
          by_cases h300 : 300 < prodP l [] (i + 1)
          · skip
            refine wpIn_seq (region_p 2 ?_)
            intro K hK
            refine ListK.move (i := 0) (v := .int .i64 (prodP l [] (i + 1) : Nat)) rfl (by simp [h53]) ?_
            refine ListK.bin (i := 1) (u := .int .i64 (prodP l [] (i + 1) : Nat)) (u' := .int .i64 300) (v := .bool true) rfl (by simp [hz_a5]) (by simp) (gtrT3 (by omega) _) ?_
            refine ListK.done (hK _ _ ?_)
            clear hK K
            refine wpIn_cond (t := true) (by simp [hz_a5]) ?_
            generalize hA : Act.put _ _ _ = a6
            have hz_a6 : a6.tmps.size = 47 := by rw [← hA]; simp only [size_put, hz_a5]
            have z1 : a6.eval (.tmp 1) = .pointer (some ⟨b3, 0, none⟩) := by rw [← hA]; exact (by simp [y1])
            have hd_a6 : a6.defers = [] := by rw [← hA]; simp only [defers_put, hd_a5']
            clear hA
            refine wpIn_seq (region_p 1 ?_)
            intro K hK
            refine ListK.assign (i := 0) (v := .bool false) rfl (by simp) ?_
            refine ListK.done (hK _ _ (wpIn_ret ?_))
            exact hret _ _ false (by simp only [defers_put, hd_a6]) (by simp [hz_a6]) (hB5) (fun h => by cases h)
          · skip
            refine wpIn_seq (region_p 2 ?_)
            intro K hK
            refine ListK.move (i := 0) (v := .int .i64 (prodP l [] (i + 1) : Nat)) rfl (by simp [h53]) ?_
            refine ListK.bin (i := 1) (u := .int .i64 (prodP l [] (i + 1) : Nat)) (u' := .int .i64 300) (v := .bool false) rfl (by simp [hz_a5]) (by simp) (gtrF3 (by omega) _) ?_
            refine ListK.done (hK _ _ ?_)
            clear hK K
            refine wpIn_cond (t := false) (by simp [hz_a5]) (wpIn_skip ?_)
            generalize hA : Act.put _ _ _ = a6
            have hz_a6 : a6.tmps.size = 47 := by rw [← hA]; simp only [size_put, hz_a5]
            have z1 : a6.eval (.tmp 1) = .pointer (some ⟨b3, 0, none⟩) := by rw [← hA]; exact (by simp [y1])
            have z3 : a6.eval (.tmp 3) = .int .i64 (prodP l [] (i + 1) : Nat) := by rw [← hA]; exact (by simp [h53])
            have z4 : a6.eval (.tmp 4) = .int .i64 i := by rw [← hA]; exact (by simp [y4])
            have hd_a6 : a6.defers = [] := by rw [← hA]; simp only [defers_put, hd_a5']
            clear hA
            refine region_p 3 ?_
            intro K hK
            refine ListK.move (i := 0) (v := .int .i64 i) rfl (by simp [z4]) ?_
            refine ListK.bin (i := 1) (u := .int .i64 i) (u' := .int .i64 1) (v := .int .i64 (i + 1)) rfl (by simp [hz_a6]) (by simp) (add3 (by omega) (by omega) _) ?_
            refine ListK.assign (i := 2) (v := .int .i64 ((i + 1 : Nat) : Int)) rfl (by simp [hz_a6]) ?_
            skip
            exact ListK.done (hK _ _ ⟨⟨i + 1, hil2, hi52, by omega, (by simp only [size_put, hz_a6]), (by simp only [defers_put, hd_a6]), (by simp [z1]), (by simp [z3]), (by simp [hz_a6]), hb4.trans (hb5.mono hb4.size)⟩, hme _ (by simp [hz_a6])⟩)
        · skip
          refine wpIn_seq (wpIn_seq (region_p 9 ?_))
          intro K hK
          refine ListK.move (i := 0) (v := .int .i64 i) rfl (by simp [u4]) ?_
          refine ListK.field (i := 1) (u := .pointer (some ⟨b3, 0, none⟩)) (v := .pointer (some ⟨b3, 2, none⟩)) rfl (by simp [u1]) (fa24_2 _) ?_
          refine ListK.load (i := 2) (p := ⟨b3, 2, none⟩) (v := .slice A l.length c) rfl (by simp [hz_b1]) (ld22 (wb4.cell 2)) ?_
          refine ListK.len (i := 3) (u := .slice A l.length c) (v := .int .i64 l.length) rfl (by simp [hz_b1]) (ln22 _ _ _ _ _) rfl ?_
          refine ListK.bin (i := 4) (u := .int .i64 i) (u' := .int .i64 l.length) (v := .bool true) rfl (by simp [hz_b1]) (by simp [hz_b1]) (lssT3 (by omega) _) ?_
          refine ListK.move (i := 5) (v := .bool true) rfl (by simp [hz_b1]) ?_
          refine ListK.move (i := 6) (v := .int .i64 i) rfl (by simp [u4]) ?_ (hw := wanted_g (e := 17) (b' := true) rfl (by simp [hz_b1]) rfl)
          refine ListK.bin (i := 7) (u := .int .i64 i) (u' := .int .i64 5) (v := .bool false) rfl (by simp [hz_b1]) (by simp) (lssF3 (by omega) _) ?_ (hw := wanted_g (e := 17) (b' := true) rfl (by simp [hz_b1]) rfl)
          refine ListK.pick (i := 8) (b := true) (v := .bool false) rfl (by simp [hz_b1]) (by simp [hz_b1]) ?_
          refine ListK.done (hK _ _ ?_)
          clear hK K
          refine wpIn_cond (t := false) (by simp [hz_b1]) (wpIn_exit ?_)
          exact hout _ (by simp only [size_put, hz_b1]) (by simp only [defers_put, hd_b1]) (by simp [u1]) (by omega)
      · skip
        refine wpIn_seq (wpIn_seq (region_p 9 ?_))
        intro K hK
        refine ListK.move (i := 0) (v := .int .i64 i) rfl (by simp [u4]) ?_
        refine ListK.field (i := 1) (u := .pointer (some ⟨b3, 0, none⟩)) (v := .pointer (some ⟨b3, 2, none⟩)) rfl (by simp [u1]) (fa24_2 _) ?_
        refine ListK.load (i := 2) (p := ⟨b3, 2, none⟩) (v := .slice A l.length c) rfl (by simp [hz_b1]) (ld22 (wb4.cell 2)) ?_
        refine ListK.len (i := 3) (u := .slice A l.length c) (v := .int .i64 l.length) rfl (by simp [hz_b1]) (ln22 _ _ _ _ _) rfl ?_
        refine ListK.bin (i := 4) (u := .int .i64 i) (u' := .int .i64 l.length) (v := .bool false) rfl (by simp [hz_b1]) (by simp [hz_b1]) (lssF3 (by omega) _) ?_
        refine ListK.move (i := 5) (v := .bool false) rfl (by simp [hz_b1]) ?_
        refine ListK.passG (i := 6) (e := 17) (b' := false) rfl rfl (by simp [hz_b1]) rfl ?_
        refine ListK.passG (i := 7) (e := 17) (b' := false) rfl rfl (by simp [hz_b1]) rfl ?_
        refine ListK.pick (i := 8) (b := false) (v := .bool false) rfl (by simp [hz_b1]) (by simp) ?_
        refine ListK.done (hK _ _ ?_)
        clear hK K
        refine wpIn_cond (t := false) (by simp [hz_b1]) (wpIn_exit ?_)
        exact hout _ (by simp only [size_put, hz_b1]) (by simp only [defers_put, hd_b1]) (by simp [u1]) (by omega)
    · skip
      refine wpIn_seq (wpIn_seq (region_p 3 ?_))
      intro K hK
      refine ListK.load (i := 0) (p := ⟨b3, 0, none⟩) (v := .agg #[.int .i64 o, .int .i64 t, .slice A l.length c]) rfl (by simp [v1]) (ld24 ⟨wb.cell 0, wb.cell 1, wb.cell 2⟩) ?_
      refine ListK.call (i := 1) (vs := #[.agg #[.int .i64 o, .int .i64 t, .slice A l.length c]]) rfl (enters_of Try.func51 (by kernel_rfl) rfl) (by simp [hz_a2]) (((refFault_any o t A l c W1 (by omega) hs1)).mono ?_)
      rintro _ W3 ⟨rfl, hb1'⟩
      refine ⟨_, rfl, ?_⟩
      refine ListK.bin (i := 2) (u := .int .i64 (fault o t l)) (u' := .int .i64 0) (v := .bool true) rfl (by simp [hz_a2]) (by simp) (neqT3 h0 _) ?_
      refine ListK.done (hK _ _ ?_)
      clear hK K
      refine wpIn_cond (t := true) (by simp [hz_a2]) ?_
      generalize hA : Act.put _ _ _ = a3
      have hz_a3 : a3.tmps.size = 47 := by rw [← hA]; simp only [size_put, hz_a2]
      have w1 : a3.eval (.tmp 1) = .pointer (some ⟨b3, 0, none⟩) := by rw [← hA]; exact (by simp [v1])
      have hd_a3 : a3.defers = [] := by rw [← hA]; simp only [defers_put, hd_a2]
      clear hA
      refine wpIn_seq (region_p 1 ?_)
      intro K hK
      refine ListK.assign (i := 0) (v := .bool true) rfl (by simp) ?_
      refine ListK.done (hK _ _ (wpIn_ret ?_))
      exact hret _ _ true (by simp only [defers_put, hd_a3]) (by simp [hz_a3]) (hB1.trans (hb1'.mono hS1)) (fun _ => ⟨by omega, fun h => absurd h h0⟩)
end Go.Proofs.Ytfcnombmphophaa
namespace Go.Proofs.Ytfcnombmphophaa
open Go.RowKit Go.Shelf
theorem min3 (m n : Int) (ty : TypeId) (w : World) : (builtin .min #[3, 3] ty #[false, false] #[.int .i64 m, .int .i64 n]).run Try.prog w = .ok (.value (.int .i64 (min m n))) w := by
  go_simp
  split <;> omega
section
variable {P : Program} {ops : Array Oper} {K : Act → World → Prop} {Kp : Nat → World → World → Prop} {fuel : Nat} {listed : Array Bool} {a : Act} {w : World} {i d : Nat} {ty : TypeId} {pos : String} {aft : Array Edge} {gd : Option (Nat × Bool)} {u u2 v : Value} {y z : Nat} {tys : Array TypeId} {bi : Builtin}
end
theorem ix49 {b n c : Nat} {i : Nat} (h : i < n) (w : World) : (Instr.indexAt 49 (.slice (some ⟨b, 0, none⟩) n c) (.int .i64 i)).run Try.prog w = .ok (.pointer (some ⟨b, i, none⟩)) w := by
  go_simp
/-- How a list of lists reads. -/
theorem LL.at {W0 W : World} {v : Value} {xs : List (List Int)} (h : LL W0 v xs W) {i : Nat} {x : List Int} (hx : xs[i]? = some x) : ∃ g c A ca, v = .slice (some ⟨g, 0, none⟩) xs.length c ∧ W.cell? ⟨g, i, none⟩ = some (.slice A x.length ca) ∧ IntsAt W W.heap.size A x := by
  obtain ⟨hlow, vs, h1, h2, h3⟩ := h
  have hi : i < xs.length := (List.getElem?_eq_some_iff.1 hx).1
  obtain ⟨g, c, rfl, _, _⟩ := h2.form (by omega)
  have hvi : vs[i]? = some (vs[i]'(by omega)) := List.getElem?_eq_getElem _
  have hr := h3 i _ x hvi hx
  obtain ⟨A, ca, e, _, hA⟩ := (OL.mk hlow hr : OL W0 _ x W).ints
  refine ⟨g, c, A, ca, rfl, ?_, hA⟩
  have := h2.cells (g := g) rfl i _ hvi
  rw [e] at this
  simp only [Addr.add] at this
  split at this
  · rename_i h0
    subst h0
    simpa using this
  · simpa using this
section
attribute [local irreducible] AnyK StepK
end
end Go.Proofs.Ytfcnombmphophaa
namespace Go.Proofs.Ytfcnombmphophaa
open Go.RowKit Go.Shelf
end Go.Proofs.Ytfcnombmphophaa
namespace Go.Proofs.Ytfcnombmphophaa
open Go.RowKit Go.Shelf
/-- A batch of four owners and ten pieces as a value. -/
def FourW (L : List Sale) (v : Value) (w : World) : Prop := ∃ A c, v = .agg #[.int .i64 4, .int .i64 10, .slice A L.length c] ∧ SalesAt w w.heap.size A L
theorem FourW.st (L : List Sale) : StableW (FourW L) := by
  rintro v w w' ⟨A, c, e, h⟩ hb
  exact ⟨A, c, e, (h.below hb (Nat.le_refl _)).more hb.size⟩
theorem RI.st (xs : List Int) : StableW (fun v w => RI w v xs) := fun _ _ _ h hb => h.below hb
end Go.Proofs.Ytfcnombmphophaa
namespace Go.Proofs.Ytfcnombmphophaa
open Go.RowKit Go.Shelf
set_option maxRecDepth 100000
theorem ListK.bldW {P : Program} {ops : Array Oper} {K : Act → World → Prop} {k i d : Nat} {a : Act} {w : World} {ty : TypeId} {pos : String} {aft : Array Edge} {v : Value} {gd : Option (Nat × Bool)} {t : TypeId} {parts : Array (Nat × Operand)} {ps : Array (Nat × Value)} (hi : ops[i]? = some ⟨some d, .build t parts, ty, pos, aft, gd⟩)
    (hp : parts.map (fun (i, x) => (i, a.eval x)) = ps) (hv : (Instr.build t ps).run P w = .ok v w)
    (h : ListK P ops K k (i + 1) (a.put (some d) v) w) (hw : Region.wanted ⟨some d, .build t parts, ty, pos, aft, gd⟩ (yielded ops a.tmps) = true := by rfl) : ListK P ops K (k + 1) i a w :=
  ListK.valW hi hw (by simp only [execOp, hp]; simp [hv]) h
theorem SalesAt.up {W W' : World} {A : Option Addr} {L : List Sale} (h : SalesAt W W.heap.size A L) (hb : Below W.heap.size W W') : SalesAt W' W'.heap.size A L := (h.below hb (Nat.le_refl _)).more hb.size
end Go.Proofs.Ytfcnombmphophaa
namespace Go.Proofs.Ytfcnombmphophaa
open Go.RowKit Go.Shelf
theorem bd46z (w : World) : (Instr.build 46 #[]).run Try.prog w = .ok (.agg #[.int .i64 0, .int .i64 0]) w := by
  go_simp
theorem tried_truths {o t : Int} {l : List Sale} (hv : Valid o t l) (right : Bool) : triedE o t l right = truthsE t l right := by
  have h := all_fits hv
  unfold truthsE
  cases right with
  | false => simp [triedE, hv.fault]
  | true =>
    rw [triedE_valid hv]
    cases hF : fitsB t l with
    | true =>
      have := h.1 hF
      have h2 : ¬ (allL t l).length = 0 := fun e => this (List.eq_nil_of_length_eq_zero e)
      simp [h2]
    | false =>
      have h2 : (allL t l).length = 0 := by
        rcases Nat.eq_zero_or_pos (allL t l).length with e | e
        · exact e
        · have := h.2 (List.ne_nil_of_length_pos e)
          rw [hF] at this
          cases this
      simp [h2]
section
variable {b3 p1 : Nat} {n x y k : Int} {a1 : Act} {W W2 : World}
end
end Go.Proofs.Ytfcnombmphophaa
namespace Go.Proofs.Ytfcnombmphophaa
open Go.RowKit Go.Shelf Go.ChangeShapes Go.WideShapes
theorem carry_trod {H : Type} {enc : TypeId × Value → H} {W W' : World} {t : TypeId} {v : Value} {d : DataW H} {ps : List MemPlace} (hr : Try.prog.readableRec t = true) (hrow : t < Try.prog.types.size) (hb : Below W.heap.size W W')
    (hd : DataW.Trod enc Try.prog W 0 (fun _ => true) true t v d ps) (hlt : ∀ p ∈ ps, p.block < W.heap.size) : DataW.Trod enc Try.prog W' 0 (fun b => decide (b < W.heap.size)) true t v d ps := by
  obtain ⟨n, h⟩ := hd
  exact ⟨n, DataW.trod_stays (kids_book laidOut hr) (book_sized hr) (fun h => by cases h) ⟨hrow, book_self t⟩ h
    (fun p hp => (hb.frame (fun _ => False)).sameAt (hlt p hp) id (fun b e => by
      have := DataW.trod_good (kids_book laidOut hr) (fun h => by cases h) n t _ _ ⟨hrow, book_self t⟩ h p hp
      subst e
      exact this))
    (fun p hp => by simpa using hlt p hp)⟩
theorem s24 : 24 < Try.prog.types.size := of_decide_eq_true (by kernel_rfl)
end Go.Proofs.Ytfcnombmphophaa
