/- Texts for the laws of package file, part 4: contracts of the program's functions, each for every input that its words name. -/
import Derived.Test.YtmdlmmfbcnkanaaRA3
import Derived.OpenShut
import Derived.ChangeBook
import Derived.ChangeStays
import Derived.Deep.Frames
import Derived.ChangeOld

set_option linter.unusedVariables false
set_option maxRecDepth 10000

namespace Go.Proofs.YtmdlmmfbcnkanaaR
open Go.RowKit Go.Shelf
theorem al29 (w : World) : (Instr.alloc 29 true (.tuple #[])).run Try.prog w = .ok (.pointer (some ⟨w.heap.size, 0, none⟩)) (w.alloc (.cells #[.int .i64 0, .int .i64 0, .slice none 0 0] 29)) := by go_simp
theorem al45 (w : World) : (Instr.alloc 45 true (.tuple #[])).run Try.prog w = .ok (.pointer (some ⟨w.heap.size, 0, none⟩)) (w.alloc (.cells #[.int .i64 0, .int .i64 0] 45)) := by go_simp
theorem bs22_5 (x0 x1 x2 x3 x4 : Int) (w : World) : (Instr.buildSlice 22 5 #[(0, .int .i64 x0), (1, .int .i64 x1), (2, .int .i64 x2), (3, .int .i64 x3), (4, .int .i64 x4)]).run Try.prog w = .ok (.slice (some ⟨w.heap.size, 0, none⟩) 5 5) (w.alloc (.cells #[.int .i64 x0, .int .i64 x1, .int .i64 x2, .int .i64 x3, .int .i64 x4] 3)) := by go_simp
theorem bd29 (x y : Int) (A : Option Addr) (n c : Nat) (w : World) : (Instr.build 29 #[(0, .int .i64 x), (1, .int .i64 y), (2, .slice A n c)]).run Try.prog w = .ok (.agg #[.int .i64 x, .int .i64 y, .slice A n c]) w := by go_simp
theorem st29 {w : World} {b : Nat} {u0 u1 u2 : Value} {x y : Int} {A : Option Addr} {n c : Nat} (h : Whole w b 29 #[u0, u1, u2]) : (Instr.storeAt 29 (.pointer (some ⟨b, 0, none⟩)) (.agg #[.int .i64 x, .int .i64 y, .slice A n c])).run Try.prog w = .ok () (((w.setCell ⟨b, 0, none⟩ (.int .i64 x)).setCell ⟨b, 1, none⟩ (.int .i64 y)).setCell ⟨b, 2, none⟩ (.slice A n c)) := by
  have h0 : w.cell? ⟨b, 0, none⟩ = some u0 := h.cell 0
  have h1 : w.cell? ⟨b, 1, none⟩ = some u1 := h.cell 1
  have h2 : w.cell? ⟨b, 2, none⟩ = some u2 := h.cell 2
  have f0 := h.frozen 0
  have f1 := h.frozen 1
  have f2 := h.frozen 2
  go_simp
theorem st45 {w : World} {b : Nat} {u0 u1 : Value} {x y : Int} (h : Whole w b 45 #[u0, u1]) : (Instr.storeAt 45 (.pointer (some ⟨b, 0, none⟩)) (.agg #[.int .i64 x, .int .i64 y])).run Try.prog w = .ok () ((w.setCell ⟨b, 0, none⟩ (.int .i64 x)).setCell ⟨b, 1, none⟩ (.int .i64 y)) := by
  have h0 : w.cell? ⟨b, 0, none⟩ = some u0 := h.cell 0
  have h1 : w.cell? ⟨b, 1, none⟩ = some u1 := h.cell 1
  have f0 := h.frozen 0
  have f1 := h.frozen 1
  go_simp
theorem ld45 {w : World} {b o : Nat} {u v : Value} (h0 : w.cell? ⟨b, o, none⟩ = some u) (h1 : w.cell? ⟨b, o + 1, none⟩ = some v) : (Instr.loadAt 45 (.pointer (some ⟨b, o, none⟩))).run Try.prog w = .ok (.agg #[u, v]) w := by go_simp
theorem eql45T {x y : Operand} (p q : Int) (w : World) : (do eqGuard .eql 45 x y (.agg #[.int .i64 p, .int .i64 q]) (.agg #[.int .i64 p, .int .i64 q]); binOp .eql 45 (.agg #[.int .i64 p, .int .i64 q]) (.agg #[.int .i64 p, .int .i64 q]) : Sem Value).run Try.prog w = .ok (.bool true) w := by go_simp
theorem eql9T {x y : Operand} (l : List UInt8) (w : World) : (do eqGuard .eql 9 x y (strV l) (strV l); binOp .eql 9 (strV l) (strV l) : Sem Value).run Try.prog w = .ok (.bool true) w := by go_simp
theorem eql27c (n : Int) (x y : Operand) (w : World) : (do eqGuard .eql 27 x y (.int .i64 n) (.int .i64 n); binOp .eql 27 (.int .i64 n) (.int .i64 n) : Sem Value).run Try.prog w = .ok (.bool true) w := eql27T rfl w
theorem res29 {fn : Func} {k b : Nat} {W : World} {a : Act} {x y z : Value} (h : fn.results = #[.cell k 29]) (he : a.eval (.tmp k) = .pointer (some ⟨b, 0, none⟩)) (hw : Whole W b 29 #[x, y, z]) :
    (results fn a.tmps).run Try.prog W = .ok (.agg #[x, y, z]) W := by
  have he' : a.tmps[k]?.getD undef = .pointer (some ⟨b, 0, none⟩) := by simpa [Act.eval] using he
  have h0 : W.cell? ⟨b, 0, none⟩ = some x := hw.cell 0
  have h1 : W.cell? ⟨b, 1, none⟩ = some y := hw.cell 1
  have h2 : W.cell? ⟨b, 2, none⟩ = some z := hw.cell 2
  simp only [results, h]
  simp [he']
  go_simp
theorem res45 {fn : Func} {k b : Nat} {W : World} {a : Act} {x y : Value} (h : fn.results = #[.cell k 45]) (he : a.eval (.tmp k) = .pointer (some ⟨b, 0, none⟩)) (hw : Whole W b 45 #[x, y]) :
    (results fn a.tmps).run Try.prog W = .ok (.agg #[x, y]) W := by
  have he' : a.tmps[k]?.getD undef = .pointer (some ⟨b, 0, none⟩) := by simpa [Act.eval] using he
  have h0 : W.cell? ⟨b, 0, none⟩ = some x := hw.cell 0
  have h1 : W.cell? ⟨b, 1, none⟩ = some y := hw.cell 1
  simp only [results, h]
  simp [he']
  go_simp
noncomputable def opsBw0 : Array Oper := (Try.f28.body.bind (regionOf 0)).getD #[]
noncomputable def opsBw1 : Array Oper := (Try.f28.body.bind (regionOf 1)).getD #[]
noncomputable def code28 : Code := (.seq (.region 0 opsBw0 false) (.seq (.region 1 opsBw1 false) .ret))
theorem body28 : Try.f28.body = some code28 := by kernel_rfl
theorem between_any (x y : Int) (W : World) : Calls Try.prog 28 #[.int .i64 x, .int .i64 y] W (EvP W (.agg #[.int .i64 x, .int .i64 y])) := by
  refine (callsIn_wide (n := 5)).1 (callsIn_of_wp Try.func28 body28 trivial ?_ rfl)
  obtain ⟨a, ha⟩ : ∃ a : Act, a = { tmps := #[.int .i64 x, .int .i64 y] ++ Array.replicate (Try.f28.ntmps - (#[.int .i64 x, .int .i64 y] : Array Value).size) undef, defers := [] } := ⟨_, rfl⟩
  have hsz : a.tmps.size = 8 := by rw [ha]; simp [Try.ntmps28]
  have t0 : a.eval (.tmp 0) = .int .i64 x := by rw [ha]; simp [Act.eval]
  have t1 : a.eval (.tmp 1) = .int .i64 y := by rw [ha]; simp [Act.eval]
  have hd_a : a.defers = [] := by rw [ha]
  rw [← ha]
  clear ha
  unfold code28
  refine wpIn_seq (region_p 1 ?_)
  intro K hK
  refine ListK.alloc (i := 0) rfl (al45 W) ?_
  refine ListK.done (hK _ _ ?_)
  clear hK K
  refine wpIn_seq (region_p 4 ?_)
  intro K hK
  refine ListK.move (i := 0) (v := .int .i64 x) rfl (by simp [t0]) ?_
  refine ListK.move (i := 1) (v := .int .i64 y) rfl (by simp [t1]) ?_
  refine ListK.bld (i := 2) (ps := #[(0, .int .i64 x), (1, .int .i64 y)]) (v := .agg #[.int .i64 x, .int .i64 y]) rfl (by simp [hsz]) (bd45 _ _ _) ?_
  refine ListK.store (i := 3) (u := .pointer (some ⟨W.heap.size, 0, none⟩)) (u' := .agg #[.int .i64 x, .int .i64 y]) rfl (by simp [hsz]) (by simp [hsz]) (st45 (Whole.new W 45 #[.int .i64 0, .int .i64 0])) ?_
  refine ListK.done (hK _ _ (wpIn_ret ?_))
  refine bodyPost_ret (v := .agg #[.int .i64 x, .int .i64 y]) (res45 Try.results28 (by simp [hsz]) (((Whole.new W 45 #[.int .i64 0, .int .i64 0]).set 0 _).set 1 _)) (by simp only [defers_put, hd_a]) ⟨rfl, ?_⟩
  exact (((Below.refl _ W).alloc (Nat.le_refl _) _).setCell (p := ⟨W.heap.size, 0, none⟩) (Nat.le_refl _) _).setCell (p := ⟨W.heap.size, 1, none⟩) (Nat.le_refl _) _
noncomputable def opsFv0 : Array Oper := (Try.f41.body.bind (regionOf 0)).getD #[]
noncomputable def opsFv1 : Array Oper := (Try.f41.body.bind (regionOf 1)).getD #[]
noncomputable def code41 : Code := (.seq (.region 0 opsFv0 false) (.seq (.region 1 opsFv1 false) .ret))
theorem body41 : Try.f41.body = some code41 := by kernel_rfl
theorem five_any (W : World) : Calls Try.prog 41 #[] W fun e w' => ∃ g, e = .returned (serV fiveS (some ⟨g, 0, none⟩) 5) ∧ IntsAt w' w'.heap.size (some ⟨g, 0, none⟩) fiveS.rd ∧ Below W.heap.size W w' := by
  refine (callsIn_wide (n := 5)).1 (callsIn_of_wp Try.func41 body41 trivial ?_ rfl)
  obtain ⟨a, ha⟩ : ∃ a : Act, a = { tmps := #[] ++ Array.replicate (Try.f41.ntmps - (#[] : Array Value).size) undef, defers := [] } := ⟨_, rfl⟩
  have hsz : a.tmps.size = 3 := by rw [ha]; simp [Try.ntmps41]
  have hd_a : a.defers = [] := by rw [ha]
  rw [← ha]
  clear ha
  unfold code41
  refine wpIn_seq (region_p 1 ?_)
  intro K hK
  refine ListK.alloc (i := 0) rfl (al29 W) ?_
  refine ListK.done (hK _ _ ?_)
  clear hK K
  have w0 := Whole.new W 29 #[.int .i64 0, .int .i64 0, .slice none 0 0]
  have hb_b0 : Below W.heap.size W (W.alloc (.cells #[.int .i64 0, .int .i64 0, .slice none 0 0] 29)) := (Below.refl _ W).alloc (Nat.le_refl _) _
  have hB := hb_b0
  generalize hq_b0 : W.heap.size = b0 at *
  generalize W.alloc (.cells #[.int .i64 0, .int .i64 0, .slice none 0 0] 29) = W1 at *
  generalize hA : Act.put _ _ _ = a1
  have hz_a1 : a1.tmps.size = 3 := by rw [← hA]; simp only [size_put, hsz]
  have u0 : a1.eval (.tmp 0) = .pointer (some ⟨b0, 0, none⟩) := by rw [← hA]; exact (by simp [hsz])
  have hd_a1 : a1.defers = [] := by rw [← hA]; simp only [defers_put, hd_a]
  clear hA
  have hb2 : Below W1.heap.size W1 (W1.alloc (.cells #[.int .i64 50, .int .i64 52, .int .i64 49, .int .i64 47, .int .i64 50] 3)) := (Below.refl _ W1).alloc (Nat.le_refl _) _
  have w5 := Whole.new W1 3 #[.int .i64 50, .int .i64 52, .int .i64 49, .int .i64 47, .int .i64 50]
  have hl0 := w0.lt
  replace w0 := w0.below hb2 w0.lt
  refine wpIn_seq (region_p 3 ?_)
  intro K hK
  refine ListK.bsl (i := 0) (ps := #[(0, .int .i64 50), (1, .int .i64 52), (2, .int .i64 49), (3, .int .i64 47), (4, .int .i64 50)]) (v := .slice (some ⟨W1.heap.size, 0, none⟩) 5 5) rfl (by simp) (bs22_5 50 52 49 47 50 W1) ?_
  refine ListK.bld (i := 1) (ps := #[(0, .int .i64 3), (1, .int .i64 4), (2, .slice (some ⟨W1.heap.size, 0, none⟩) 5 5)]) (v := .agg #[.int .i64 3, .int .i64 4, .slice (some ⟨W1.heap.size, 0, none⟩) 5 5]) rfl (by simp [hz_a1]) (bd29 _ _ _ _ _ _) ?_
  refine ListK.store (i := 2) (u := .pointer (some ⟨b0, 0, none⟩)) (u' := .agg #[.int .i64 3, .int .i64 4, .slice (some ⟨W1.heap.size, 0, none⟩) 5 5]) rfl (by simp [u0]) (by simp [hz_a1]) (st29 w0) ?_
  refine ListK.done (hK _ _ (wpIn_ret ?_))
  replace hB := hB.trans (hb2.mono (by have := hB.size; omega))
  generalize W1.heap.size = g at *
  generalize W1.alloc (.cells #[.int .i64 50, .int .i64 52, .int .i64 49, .int .i64 47, .int .i64 50] 3) = W2 at *
  have he3 : Else (fun k => k = b0) W2 (((W2.setCell ⟨b0, 0, none⟩ (.int .i64 3)).setCell ⟨b0, 1, none⟩ (.int .i64 4)).setCell ⟨b0, 2, none⟩ (.slice (some ⟨g, 0, none⟩) 5 5)) := (((Else.refl (fun k => k = b0) W2).setCell (p := ⟨b0, 0, none⟩) (.inl rfl) _).setCell (p := ⟨b0, 1, none⟩) (.inl rfl) _).setCell (p := ⟨b0, 2, none⟩) (.inl rfl) _
  have w53 := he3.whole (show ¬ g = b0 by omega) w5
  refine bodyPost_ret (v := serV fiveS (some ⟨g, 0, none⟩) 5) (res29 Try.results41 (by simp [u0]) (((w0.set 0 _).set 1 _).set 2 _)) (by simp only [defers_put, hd_a1]) ⟨g, rfl, ?_, ?_⟩
  · intro k x hx
    refine ⟨g, 0, rfl, w53.lt, ?_⟩
    rw [Nat.zero_add, w53.cell k]
    have : (fiveS.rd.map (Value.int .i64))[k]? = some (.int .i64 x) := by rw [List.getElem?_map, hx]; rfl
    simpa [fiveS] using this
  · exact hB.trans (he3.below (by have := hB.size; omega) (fun k hk e => by omega))
end Go.Proofs.YtmdlmmfbcnkanaaR
namespace Go.Proofs.YtmdlmmfbcnkanaaR
open Go.RowKit Go.Shelf
theorem AnyK.convR {P : Program} {ops : Array Oper} {K : Act → World → Prop} {Kp : Nat → World → World → Prop} {fuel i d : Nat} {listed : Array Bool} {a : Act} {w : World} {ty : TypeId} {pos : String} {aft : Array Edge} {gd : Option (Nat × Bool)} {u v : Value} {R : World → Prop} {T : Nat → Bool} {s t : TypeId} {z : Operand} (m : May ops Kp listed R T i ⟨some d, .convert s t z, ty, pos, aft, gd⟩)
    (hz : a.eval z = u) (hv : ∀ w, R w → (convert s t u).run P w = .ok v w) (hS : R w)
    (h : AnyK P ops K Kp fuel (listed.setIfInBounds i true) (a.put (some d) v) w) (hw : Region.wanted ⟨some d, .convert s t z, ty, pos, aft, gd⟩ (yielded ops a.tmps) = true := by rfl) : AnyK P ops K Kp (fuel + 1) listed a w :=
  AnyK.take m (.inl ⟨hw, fun w' hw' => by simp [execOp, hz, hv w' hw']⟩) hS h
theorem bs36_7 (a0 a1 a2 a3 a4 a5 a6 : List UInt8) (w : World) : (Instr.buildSlice 36 7 #[(0, strV a0), (1, strV a1), (2, strV a2), (3, strV a3), (4, strV a4), (5, strV a5), (6, strV a6)]).run Try.prog w = .ok (.slice (some ⟨w.heap.size, 0, none⟩) 7 7) (w.alloc (.cells #[strV a0, strV a1, strV a2, strV a3, strV a4, strV a5, strV a6] 9)) := by go_simp
theorem bs36_6 (a0 a1 a2 a3 a4 a5 : List UInt8) (w : World) : (Instr.buildSlice 36 6 #[(0, strV a0), (1, strV a1), (2, strV a2), (3, strV a3), (4, strV a4), (5, strV a5)]).run Try.prog w = .ok (.slice (some ⟨w.heap.size, 0, none⟩) 6 6) (w.alloc (.cells #[strV a0, strV a1, strV a2, strV a3, strV a4, strV a5] 9)) := by go_simp
theorem strs_new {W : World} {L : List (List UInt8)} {cs : Array Value} (hc : cs = (L.map strV).toArray) : StrsAt (W.alloc (.cells cs 9)) (W.alloc (.cells cs 9)).heap.size (some ⟨W.heap.size, 0, none⟩) L := by
  intro k l hk
  refine ⟨_, _, rfl, by simp, ?_⟩
  rw [Nat.zero_add, (Whole.new W 9 cs).cell k, hc]
  simp [hk]
noncomputable def opsAw0 : Array Oper := (Try.f16.body.bind (regionOf 0)).getD #[]
noncomputable def opsAw1 : Array Oper := (Try.f16.body.bind (regionOf 1)).getD #[]
noncomputable def opsAw2 : Array Oper := (Try.f16.body.bind (regionOf 2)).getD #[]
noncomputable def opsAw3 : Array Oper := (Try.f16.body.bind (regionOf 3)).getD #[]
noncomputable def opsAw4 : Array Oper := (Try.f16.body.bind (regionOf 4)).getD #[]
noncomputable def opsAw5 : Array Oper := (Try.f16.body.bind (regionOf 5)).getD #[]
noncomputable def code16 : Code := (.seq (.region 0 opsAw0 false) (.seq (.region 1 opsAw1 false) (.seq (.region 2 opsAw2 false) (.seq (.region 3 opsAw3 false) (.seq (.region 4 opsAw4 false) (.seq (.region 5 opsAw5 true) .ret))))))
theorem body16 : Try.f16.body = some code16 := by kernel_rfl
section
attribute [local irreducible] AnyK StepK
set_option maxRecDepth 20000 in
set_option maxHeartbeats 1000000 in
theorem awake_any (W : World) : Calls Try.prog 16 #[] W (EvP W (.bool true)) := by
  refine (callsIn_wide (n := 5)).1 (callsIn_of_wp Try.func16 body16 trivial ?_ rfl)
  obtain ⟨a, ha⟩ : ∃ a : Act, a = { tmps := #[] ++ Array.replicate (Try.f16.ntmps - (#[] : Array Value).size) undef, defers := [] } := ⟨_, rfl⟩
  have hsz : a.tmps.size = 81 := by rw [ha]; simp [Try.ntmps16]
  have hd_a : a.defers = [] := by rw [ha]
  rw [← ha]
  clear ha
  unfold code16
  refine wpIn_seq (region_p 1 ?_)
  intro K hK
  refine ListK.assign (i := 0) (v := .bool false) rfl (by simp) ?_
  refine ListK.done (hK _ _ ?_)
  clear hK K
  refine wpIn_seq (region_p 7 ?_)
  intro K hK
  refine ListK.call (i := 0) (vs := #[]) rfl (enters_of Try.func41 (by kernel_rfl) rfl) (by simp) ((five_any W).mono ?_)
  rintro _ W1 ⟨g, rfl, hia, hb1⟩
  refine ⟨_, rfl, ?_⟩
  refine ListK.call (i := 1) (vs := #[serV fiveS (some ⟨g, 0, none⟩) 5]) rfl (enters_of Try.func19 (by kernel_rfl) rfl) (by simp [hsz]) ((write_any fiveS (some ⟨g, 0, none⟩) 5 W1 (by simp [fiveS]) hia).mono ?_)
  rintro _ W2 ⟨v, rfl, hob⟩
  rw [five_ok, if_pos rfl, five_file] at hob
  rw [five_ok]
  obtain ⟨A1, c1, rfl, hc1, hy1⟩ := hob.bytes
  have hB2 := hb1.trans (hob.low.mono hb1.size)
  refine ⟨_, rfl, ?_⟩
  refine ListK.move (i := 2) (v := .tuple #[.slice A1 exB.length c1, .int .i64 0]) rfl (by simp [hsz]) ?_
  refine ListK.extract (i := 3) (u := .tuple #[.slice A1 exB.length c1, .int .i64 0]) (v := .slice A1 exB.length c1) rfl (by simp [hsz]) (ex0 _ _ _) ?_
  refine ListK.extract (i := 4) (u := .tuple #[.slice A1 exB.length c1, .int .i64 0]) (v := .int .i64 0) rfl (by simp [hsz]) (ex1 _ _ _) ?_
  refine ListK.assign (i := 5) (v := .slice A1 exB.length c1) rfl (by simp [hsz]) ?_
  refine ListK.assign (i := 6) (v := .int .i64 0) rfl (by simp [hsz]) ?_
  refine ListK.done (hK _ _ ?_)
  clear hK K
  generalize hA : Act.put _ _ _ = a1
  have hz_a1 : a1.tmps.size = 81 := by rw [← hA]; simp only [size_put, hsz]
  have u1 : a1.eval (.tmp 1) = .slice A1 exB.length c1 := by rw [← hA]; exact (by simp [hsz])
  have u2 : a1.eval (.tmp 2) = .int .i64 0 := by rw [← hA]; exact (by simp [hsz])
  have hd_a1 : a1.defers = [] := by rw [← hA]; simp only [defers_put, hd_a]
  clear hA
  have hb3 : Below W2.heap.size W2 (W2.alloc (.cells #[strV [72, 48, 53, 51, 52, 48, 48], strV [82, 48, 48, 53, 48, 56, 51], strV [82, 48, 49, 53, 50, 48, 50], strV [80, 48, 48, 53, 49, 56, 53], strV [82, 48, 51, 52, 55, 51, 53], strV [82, 48, 52, 53, 48, 48, 50], strV [80, 48, 49, 57, 55, 52, 56]] 9)) := (Below.refl _ W2).alloc (Nat.le_refl _) _
  refine wpIn_seq (region_p 8 ?_)
  intro K hK
  refine ListK.bsl (i := 0) (ps := #[(0, strV [72, 48, 53, 51, 52, 48, 48]), (1, strV [82, 48, 48, 53, 48, 56, 51]), (2, strV [82, 48, 49, 53, 50, 48, 50]), (3, strV [80, 48, 48, 53, 49, 56, 53]), (4, strV [82, 48, 51, 52, 55, 51, 53]), (5, strV [82, 48, 52, 53, 48, 48, 50]), (6, strV [80, 48, 49, 57, 55, 52, 56])]) (v := .slice (some ⟨W2.heap.size, 0, none⟩) 7 7) rfl (by simp) (bs36_7 _ _ _ _ _ _ _ W2) ?_
  refine ListK.call (i := 1) (vs := #[.slice (some ⟨W2.heap.size, 0, none⟩) 7 7]) rfl (enters_of Try.func42 (by kernel_rfl) rfl) (by simp [hz_a1]) ((left_any (some ⟨W2.heap.size, 0, none⟩) 7 ex1L (by decide +kernel) (by decide +kernel) _ (strs_new rfl)).mono ?_)
  rintro _ W3 ⟨v3, rfl, hob3⟩
  obtain ⟨A3, c3, rfl, hc3, hy3⟩ := hob3.bytes
  refine ⟨_, rfl, ?_⟩
  refine ListK.call (i := 2) (vs := #[.slice A3 (linesL ex1L).length c3]) rfl (enters_of Try.func25 (by kernel_rfl) rfl) (by simp [hz_a1]) ((mendX_any A3 (linesL ex1L) c3 W3 hc3 (by decide +kernel) hy3).mono ?_)
  rintro e W4 hmp4
  obtain ⟨hb4, A4, n4, c4, rfl, _, h4⟩ := hmp4
  obtain ⟨h, m, g4, f4, hrm4, _, _, rfl, rfl, rfl, hrow4, hv4⟩ := h4 ex1_ok
  have e4 := ex1_at
  rw [hrm4] at e4
  simp only [Option.map_some, Option.some.injEq, Prod.mk.injEq] at e4
  obtain ⟨hm4, hlo4, hhi4⟩ := e4
  rw [ex1_ok, hm4]
  rw [hm4] at hrow4 hv4
  refine ⟨_, rfl, ?_⟩
  refine ListK.move (i := 3) (v := .tuple #[.slice (some ⟨g4, 0, none⟩) 5 5, .int .i64 0]) rfl (by simp [hz_a1]) ?_
  refine ListK.extract (i := 4) (u := .tuple #[.slice (some ⟨g4, 0, none⟩) 5 5, .int .i64 0]) (v := .slice (some ⟨g4, 0, none⟩) 5 5) rfl (by simp [hz_a1]) (ex0 _ _ _) ?_
  refine ListK.extract (i := 5) (u := .tuple #[.slice (some ⟨g4, 0, none⟩) 5 5, .int .i64 0]) (v := .int .i64 0) rfl (by simp [hz_a1]) (ex1 _ _ _) ?_
  refine ListK.assign (i := 6) (v := .slice (some ⟨g4, 0, none⟩) 5 5) rfl (by simp [hz_a1]) ?_
  refine ListK.assign (i := 7) (v := .int .i64 0) rfl (by simp [hz_a1]) ?_
  refine ListK.done (hK _ _ ?_)
  clear hK K
  have hs23 := hb3.size
  have hs34 := hob3.low.size
  have hb24 : Below W2.heap.size W2 W4 := (hb3.trans (hob3.low.mono hs23)).trans (hb4.mono (Nat.le_trans hs23 hs34))
  have hB4 := hB2.trans (hb24.mono hB2.size)
  have x44 := (hrow4 4 (by omega)).1
  have x45 := (hrow4 5 (by omega)).1
  rw [show f4 4 = 49 from (hv4 2 (by omega)).1.trans hlo4] at x44
  rw [show f4 5 = 49 from (hv4 2 (by omega)).2.trans hhi4] at x45
  generalize hA : Act.put _ _ _ = a2
  have hz_a2 : a2.tmps.size = 81 := by rw [← hA]; simp only [size_put, hz_a1]
  have v1 : a2.eval (.tmp 1) = .slice A1 exB.length c1 := by rw [← hA]; exact (by simp [u1])
  have v2 : a2.eval (.tmp 2) = .int .i64 0 := by rw [← hA]; exact (by simp [u2])
  have v3 : a2.eval (.tmp 3) = .slice (some ⟨g4, 0, none⟩) 5 5 := by rw [← hA]; exact (by simp [hz_a1])
  have v4 : a2.eval (.tmp 4) = .int .i64 0 := by rw [← hA]; exact (by simp [hz_a1])
  have hd_a2 : a2.defers = [] := by rw [← hA]; simp only [defers_put, hd_a1]
  clear hA
  have hb5 : Below W4.heap.size W4 (W4.alloc (.cells #[strV [72, 48, 53, 51, 52, 48, 48], strV [82, 48, 48, 53, 48, 56, 51], strV [82, 48, 49, 53, 50, 48, 50], strV [82, 48, 50, 52, 57, 52, 51], strV [80, 48, 48, 53, 49, 56, 53], strV [80, 48, 49, 57, 55, 52, 56]] 9)) := (Below.refl _ W4).alloc (Nat.le_refl _) _
  refine wpIn_seq (region_p 8 ?_)
  intro K hK
  refine ListK.bsl (i := 0) (ps := #[(0, strV [72, 48, 53, 51, 52, 48, 48]), (1, strV [82, 48, 48, 53, 48, 56, 51]), (2, strV [82, 48, 49, 53, 50, 48, 50]), (3, strV [82, 48, 50, 52, 57, 52, 51]), (4, strV [80, 48, 48, 53, 49, 56, 53]), (5, strV [80, 48, 49, 57, 55, 52, 56])]) (v := .slice (some ⟨W4.heap.size, 0, none⟩) 6 6) rfl (by simp) (bs36_6 _ _ _ _ _ _ W4) ?_
  refine ListK.call (i := 1) (vs := #[.slice (some ⟨W4.heap.size, 0, none⟩) 6 6]) rfl (enters_of Try.func42 (by kernel_rfl) rfl) (by simp [hz_a2]) ((left_any (some ⟨W4.heap.size, 0, none⟩) 6 ex2L (by decide +kernel) (by decide +kernel) _ (strs_new rfl)).mono ?_)
  rintro _ W5 ⟨v5, rfl, hob5⟩
  obtain ⟨A5, c5, rfl, hc5, hy5⟩ := hob5.bytes
  refine ⟨_, rfl, ?_⟩
  refine ListK.call (i := 2) (vs := #[.slice A5 (linesL ex2L).length c5]) rfl (enters_of Try.func25 (by kernel_rfl) rfl) (by simp [hz_a2]) ((mendX_any A5 (linesL ex2L) c5 W5 hc5 (by decide +kernel) hy5).mono ?_)
  rintro e W6 hmp6
  obtain ⟨hb6, A6, n6, c6, rfl, _, h6⟩ := hmp6
  obtain ⟨h6_, m6, g6, f6, hrm6, _, _, rfl, rfl, rfl, hrow6, hv6⟩ := h6 ex2_ok
  have e6 := ex2_at
  rw [hrm6] at e6
  simp only [Option.map_some, Option.some.injEq, Prod.mk.injEq] at e6
  obtain ⟨hm6, hl63, hh63, hl64, hh64⟩ := e6
  rw [ex2_ok, hm6]
  rw [hm6] at hrow6 hv6
  refine ⟨_, rfl, ?_⟩
  refine ListK.move (i := 3) (v := .tuple #[.slice (some ⟨g6, 0, none⟩) 5 5, .int .i64 0]) rfl (by simp [hz_a2]) ?_
  refine ListK.extract (i := 4) (u := .tuple #[.slice (some ⟨g6, 0, none⟩) 5 5, .int .i64 0]) (v := .slice (some ⟨g6, 0, none⟩) 5 5) rfl (by simp [hz_a2]) (ex0 _ _ _) ?_
  refine ListK.extract (i := 5) (u := .tuple #[.slice (some ⟨g6, 0, none⟩) 5 5, .int .i64 0]) (v := .int .i64 0) rfl (by simp [hz_a2]) (ex1 _ _ _) ?_
  refine ListK.assign (i := 6) (v := .slice (some ⟨g6, 0, none⟩) 5 5) rfl (by simp [hz_a2]) ?_
  refine ListK.assign (i := 7) (v := .int .i64 0) rfl (by simp [hz_a2]) ?_
  refine ListK.done (hK _ _ ?_)
  clear hK K
  have hs45 := hb5.size
  have hs56 := hob5.low.size
  have hb46 : Below W4.heap.size W4 W6 := (hb5.trans (hob5.low.mono hs45)).trans (hb6.mono (Nat.le_trans hs45 hs56))
  have hB6 := hB4.trans (hb46.mono hB4.size)
  have x66 := (hrow6 6 (by omega)).1
  have x67 := (hrow6 7 (by omega)).1
  have x68 := (hrow6 8 (by omega)).1
  have x69 := (hrow6 9 (by omega)).1
  rw [show f6 6 = 47 from (hv6 3 (by omega)).1.trans hl63] at x66
  rw [show f6 7 = 50 from (hv6 3 (by omega)).2.trans hh63] at x67
  rw [show f6 8 = 47 from (hv6 4 (by omega)).1.trans hl64] at x68
  rw [show f6 9 = 50 from (hv6 4 (by omega)).2.trans hh64] at x69
  have hy6 := (hy1.below hb24 (Nat.le_refl _)).below (hb46.mono hb24.size) (Nat.le_refl _)
  have hs26 : W2.heap.size ≤ W6.heap.size := Nat.le_trans hb24.size hb46.size
  have z44 := (hb46.cell (block_lt_of_cell x44)).trans x44
  have z45 := (hb46.cell (block_lt_of_cell x45)).trans x45
  generalize hA : Act.put _ _ _ = a3
  have hz_a3 : a3.tmps.size = 81 := by rw [← hA]; simp only [size_put, hz_a2]
  have q1 : a3.eval (.tmp 1) = .slice A1 exB.length c1 := by rw [← hA]; exact (by simp [v1])
  have q2 : a3.eval (.tmp 2) = .int .i64 0 := by rw [← hA]; exact (by simp [v2])
  have q3 : a3.eval (.tmp 3) = .slice (some ⟨g4, 0, none⟩) 5 5 := by rw [← hA]; exact (by simp [v3])
  have q4 : a3.eval (.tmp 4) = .int .i64 0 := by rw [← hA]; exact (by simp [v4])
  have q5 : a3.eval (.tmp 5) = .slice (some ⟨g6, 0, none⟩) 5 5 := by rw [← hA]; exact (by simp [hz_a2])
  have q6 : a3.eval (.tmp 6) = .int .i64 0 := by rw [← hA]; exact (by simp [hz_a2])
  have hd_a3 : a3.defers = [] := by rw [← hA]; simp only [defers_put, hd_a2]
  clear hA
  refine wpIn_seq (region_p 7 ?_)
  intro K hK
  refine ListK.move (i := 0) (v := .slice A1 exB.length c1) rfl (by simp [q1]) ?_
  refine ListK.call (i := 1) (vs := #[.slice A1 exB.length c1]) rfl (enters_of Try.func30 (by kernel_rfl) rfl) (by simp [hz_a3]) ((gap_any A1 exB c1 W6 hc1 (by decide +kernel) (hy6.more hs26)).mono ?_)
  rintro _ W7 ⟨rfl, hb7⟩
  rw [exB_gap]
  refine ⟨_, rfl, ?_⟩
  refine ListK.move (i := 2) (v := .tuple #[.int .i64 0, .int .i64 7]) rfl (by simp [hz_a3]) ?_
  refine ListK.extract (i := 3) (u := .tuple #[.int .i64 0, .int .i64 7]) (v := .int .i64 0) rfl (by simp [hz_a3]) (ex0 _ _ _) ?_
  refine ListK.extract (i := 4) (u := .tuple #[.int .i64 0, .int .i64 7]) (v := .int .i64 7) rfl (by simp [hz_a3]) (ex1 _ _ _) ?_
  refine ListK.assign (i := 5) (v := .int .i64 0) rfl (by simp [hz_a3]) ?_
  refine ListK.assign (i := 6) (v := .int .i64 7) rfl (by simp [hz_a3]) ?_
  refine ListK.done (hK _ _ ?_)
  clear hK K
  have hB7 := hB6.trans (hb7.mono hB6.size)
  have hgr : ∀ w w', (fun w : World => (W2.heap.size ≤ w.heap.size ∧ BytesAt w W2.heap.size A1 exB) ∧ (w.cell? ⟨g4, 4, none⟩ = some (.int .i64 49) ∧ w.cell? ⟨g4, 5, none⟩ = some (.int .i64 49)) ∧ (w.cell? ⟨g6, 6, none⟩ = some (.int .i64 47) ∧ w.cell? ⟨g6, 7, none⟩ = some (.int .i64 50)) ∧ (w.cell? ⟨g6, 8, none⟩ = some (.int .i64 47) ∧ w.cell? ⟨g6, 9, none⟩ = some (.int .i64 50)) ∧ Below W.heap.size W w) w → Below w.heap.size w w' → (fun w : World => (W2.heap.size ≤ w.heap.size ∧ BytesAt w W2.heap.size A1 exB) ∧ (w.cell? ⟨g4, 4, none⟩ = some (.int .i64 49) ∧ w.cell? ⟨g4, 5, none⟩ = some (.int .i64 49)) ∧ (w.cell? ⟨g6, 6, none⟩ = some (.int .i64 47) ∧ w.cell? ⟨g6, 7, none⟩ = some (.int .i64 50)) ∧ (w.cell? ⟨g6, 8, none⟩ = some (.int .i64 47) ∧ w.cell? ⟨g6, 9, none⟩ = some (.int .i64 50)) ∧ Below W.heap.size W w) w' := fun w w' h hb =>
    ⟨⟨Nat.le_trans h.1.1 hb.size, h.1.2.below (hb.mono h.1.1) (Nat.le_refl _)⟩, ⟨(hb.cell (block_lt_of_cell h.2.1.1)).trans h.2.1.1, (hb.cell (block_lt_of_cell h.2.1.2)).trans h.2.1.2⟩, ⟨(hb.cell (block_lt_of_cell h.2.2.1.1)).trans h.2.2.1.1, (hb.cell (block_lt_of_cell h.2.2.1.2)).trans h.2.2.1.2⟩, ⟨(hb.cell (block_lt_of_cell h.2.2.2.1.1)).trans h.2.2.2.1.1, (hb.cell (block_lt_of_cell h.2.2.2.1.2)).trans h.2.2.2.1.2⟩, h.2.2.2.2.trans (hb.mono h.2.2.2.2.size)⟩
  have hR6 : (fun w : World => (W2.heap.size ≤ w.heap.size ∧ BytesAt w W2.heap.size A1 exB) ∧ (w.cell? ⟨g4, 4, none⟩ = some (.int .i64 49) ∧ w.cell? ⟨g4, 5, none⟩ = some (.int .i64 49)) ∧ (w.cell? ⟨g6, 6, none⟩ = some (.int .i64 47) ∧ w.cell? ⟨g6, 7, none⟩ = some (.int .i64 50)) ∧ (w.cell? ⟨g6, 8, none⟩ = some (.int .i64 47) ∧ w.cell? ⟨g6, 9, none⟩ = some (.int .i64 50)) ∧ Below W.heap.size W w) W6 := ⟨⟨hs26, hy6⟩, ⟨z44, z45⟩, ⟨x66, x67⟩, ⟨x68, x69⟩, hB6⟩
  have hR7 := hgr _ _ hR6 hb7
  generalize hA : Act.put _ _ _ = a4
  have hz_a4 : a4.tmps.size = 81 := by rw [← hA]; simp only [size_put, hz_a3]
  have r1 : a4.eval (.tmp 1) = .slice A1 exB.length c1 := by rw [← hA]; exact (by simp [q1])
  have r2 : a4.eval (.tmp 2) = .int .i64 0 := by rw [← hA]; exact (by simp [q2])
  have r3 : a4.eval (.tmp 3) = .slice (some ⟨g4, 0, none⟩) 5 5 := by rw [← hA]; exact (by simp [q3])
  have r4 : a4.eval (.tmp 4) = .int .i64 0 := by rw [← hA]; exact (by simp [q4])
  have r5 : a4.eval (.tmp 5) = .slice (some ⟨g6, 0, none⟩) 5 5 := by rw [← hA]; exact (by simp [q5])
  have r6 : a4.eval (.tmp 6) = .int .i64 0 := by rw [← hA]; exact (by simp [q6])
  have r8 : a4.eval (.tmp 8) = .int .i64 7 := by rw [← hA]; exact (by simp [hz_a3])
  have hd_a4 : a4.defers = [] := by rw [← hA]; simp only [defers_put, hd_a3]
  clear hA
  refine wpIn_seq (region_K (KpR (fun w : World => (W2.heap.size ≤ w.heap.size ∧ BytesAt w W2.heap.size A1 exB) ∧ (w.cell? ⟨g4, 4, none⟩ = some (.int .i64 49) ∧ w.cell? ⟨g4, 5, none⟩ = some (.int .i64 49)) ∧ (w.cell? ⟨g6, 6, none⟩ = some (.int .i64 47) ∧ w.cell? ⟨g6, 7, none⟩ = some (.int .i64 50)) ∧ (w.cell? ⟨g6, 8, none⟩ = some (.int .i64 47) ∧ w.cell? ⟨g6, 9, none⟩ = some (.int .i64 50)) ∧ Below W.heap.size W w) (fun _ => false)) (wideF_plain _) (by kernel_rfl) Try.mixed ?_)
  change AnyK _ _ _ _ 51 (Array.replicate 51 false) _ _
  have hR : (fun w : World => (W2.heap.size ≤ w.heap.size ∧ BytesAt w W2.heap.size A1 exB) ∧ (w.cell? ⟨g4, 4, none⟩ = some (.int .i64 49) ∧ w.cell? ⟨g4, 5, none⟩ = some (.int .i64 49)) ∧ (w.cell? ⟨g6, 6, none⟩ = some (.int .i64 47) ∧ w.cell? ⟨g6, 7, none⟩ = some (.int .i64 50)) ∧ (w.cell? ⟨g6, 8, none⟩ = some (.int .i64 47) ∧ w.cell? ⟨g6, 9, none⟩ = some (.int .i64 50)) ∧ Below W.heap.size W w) W7.drew := hgr _ _ hR7 (Below.refl W7.heap.size W7).drew
  refine AnyK.move (i := 0) may_o (v := .int .i64 0) (by simp [r2]) hR ?_
  refine AnyK.bin (i := 1) may_o (u := .int .i64 0) (u' := .int .i64 (0)) (v := .bool true) (by simp [hz_a4]) (by simp) (fun w => eql27c 0 _ _ w) hR ?_
  refine AnyK.move (i := 2) may_o (v := .bool true) (by simp [hz_a4]) hR ?_
  refine AnyK.move (i := 3) may_o (v := .slice A1 exB.length c1) (by simp [r1]) hR (hw := (by exact wanted_g (e := 33) (b' := true) rfl (by simp [hz_a4]) rfl)) ?_
  refine AnyK.convR (i := 4) may_o (u := .slice A1 exB.length c1) (v := strV exB) (by simp [hz_a4]) (fun w hw => cv319 c1 hw.1.2) hR (hw := (by exact wanted_g (e := 33) (b' := true) rfl (by simp [hz_a4]) rfl)) ?_
  refine AnyK.bin (i := 5) may_o (u := strV exB) (u' := strV [72, 48, 53, 51, 52, 48, 48, 10, 82, 48, 48, 53, 48, 56, 51, 10, 82, 48, 49, 53, 50, 48, 50, 10, 82, 48, 50, 52, 57, 52, 51, 10, 80, 48, 48, 53, 49, 56, 53, 10, 82, 48, 51, 52, 55, 51, 53, 10, 82, 48, 52, 53, 48, 48, 50, 10, 80, 48, 49, 57, 55, 52, 56, 10]) (v := .bool true) (by simp [hz_a4]) (by simp) (fun w => eql9T exB w) hR (hw := (by exact wanted_g (e := 33) (b' := true) rfl (by simp [hz_a4]) rfl)) ?_
  refine AnyK.pick (i := 6) may_o (b := true) (v := .bool true) (by simp [hz_a4]) (by simp [hz_a4]) hR ?_
  refine AnyK.move (i := 7) may_o (v := .bool true) (by simp [hz_a4]) hR ?_
  refine AnyK.move (i := 8) may_o (v := .int .i64 0) (by simp [r4]) hR (hw := (by exact wanted_g (e := 38) (b' := true) rfl (by simp [hz_a4]) rfl)) ?_
  refine AnyK.bin (i := 9) may_o (u := .int .i64 0) (u' := .int .i64 (0)) (v := .bool true) (by simp [hz_a4]) (by simp) (fun w => eql27c 0 _ _ w) hR (hw := (by exact wanted_g (e := 38) (b' := true) rfl (by simp [hz_a4]) rfl)) ?_
  refine AnyK.pick (i := 10) may_o (b := true) (v := .bool true) (by simp [hz_a4]) (by simp [hz_a4]) hR ?_
  refine AnyK.move (i := 11) may_o (v := .bool true) (by simp [hz_a4]) hR ?_
  refine AnyK.move (i := 12) may_o (v := .slice (some ⟨g4, 0, none⟩) 5 5) (by simp [r3]) hR (hw := (by exact wanted_g (e := 42) (b' := true) rfl (by simp [hz_a4]) rfl)) ?_
  refine AnyK.len (i := 13) may_o (u := .slice (some ⟨g4, 0, none⟩) 5 5) (v := .int .i64 5) (by simp [hz_a4]) (fun w => ln40 _ _ _ _ w) rfl hR (hw := (by exact wanted_g (e := 42) (b' := true) rfl (by simp [hz_a4]) rfl)) ?_
  refine AnyK.bin (i := 14) may_o (u := .int .i64 5) (u' := .int .i64 (5)) (v := .bool true) (by simp [hz_a4]) (by simp) (fun w => eql3T rfl w) hR (hw := (by exact wanted_g (e := 42) (b' := true) rfl (by simp [hz_a4]) rfl)) ?_
  refine AnyK.pick (i := 15) may_o (b := true) (v := .bool true) (by simp [hz_a4]) (by simp [hz_a4]) hR ?_
  refine AnyK.move (i := 16) may_o (v := .bool true) (by simp [hz_a4]) hR ?_
  refine AnyK.move (i := 17) may_o (v := .slice (some ⟨g4, 0, none⟩) 5 5) (by simp [r3]) hR (hw := (by exact wanted_g (e := 47) (b' := true) rfl (by simp [hz_a4]) rfl)) ?_
  refine AnyK.index (i := 18) may_o (u := .slice (some ⟨g4, 0, none⟩) 5 5) (u' := .int .i64 (2)) (v := .pointer (some ⟨g4, 4, none⟩)) (by simp [hz_a4]) (by simp) (fun w => by have := ix40 (b := g4) (o := 0) (n := 5) (c := 5) (i := 2) (by omega) w; simpa using this) hR (hw := (by exact wanted_g (e := 47) (b' := true) rfl (by simp [hz_a4]) rfl)) ?_
  refine AnyK.load (i := 19) may_o (p := ⟨g4, 4, none⟩) (v := .agg #[.int .i64 49, .int .i64 49]) (by simp [hz_a4]) (fun w hw => ld45 hw.2.1.1 hw.2.1.2) hR (hw := (by exact wanted_g (e := 47) (b' := true) rfl (by simp [hz_a4]) rfl)) ?_
  refine AnyK.pick1 (i := 20) (by kernel_rfl) ?_
  refine StepK.call (i := 20) (f := 28) (vs := #[.int .i64 (49), .int .i64 (49)]) rfl (enters_of Try.func28 (by kernel_rfl) rfl) rfl (by simp) ((between_any 49 49 _).mono ?_) (hw := (by exact wanted_g (e := 47) (b' := true) rfl (by simp [hz_a4]) rfl))
  rintro _ V20 ⟨rfl, hv20⟩
  replace hR : (fun w : World => (W2.heap.size ≤ w.heap.size ∧ BytesAt w W2.heap.size A1 exB) ∧ (w.cell? ⟨g4, 4, none⟩ = some (.int .i64 49) ∧ w.cell? ⟨g4, 5, none⟩ = some (.int .i64 49)) ∧ (w.cell? ⟨g6, 6, none⟩ = some (.int .i64 47) ∧ w.cell? ⟨g6, 7, none⟩ = some (.int .i64 50)) ∧ (w.cell? ⟨g6, 8, none⟩ = some (.int .i64 47) ∧ w.cell? ⟨g6, 9, none⟩ = some (.int .i64 50)) ∧ Below W.heap.size W w) V20 := hgr _ _ hR hv20
  refine ⟨_, rfl, fun _ _ => hR, ?_⟩
  refine AnyK.bin (i := 21) may_o (u := .agg #[.int .i64 49, .int .i64 49]) (u' := .agg #[.int .i64 49, .int .i64 49]) (v := .bool true) (by simp [hz_a4]) (by simp [hz_a4]) (fun w => eql45T 49 49 w) hR (hw := (by exact wanted_g (e := 47) (b' := true) rfl (by simp [hz_a4]) rfl)) ?_
  refine AnyK.pick (i := 22) may_o (b := true) (v := .bool true) (by simp [hz_a4]) (by simp [hz_a4]) hR ?_
  refine AnyK.move (i := 23) may_o (v := .bool true) (by simp [hz_a4]) hR ?_
  refine AnyK.move (i := 24) may_o (v := .int .i64 0) (by simp [r6]) hR (hw := (by exact wanted_g (e := 54) (b' := true) rfl (by simp [hz_a4]) rfl)) ?_
  refine AnyK.bin (i := 25) may_o (u := .int .i64 0) (u' := .int .i64 (0)) (v := .bool true) (by simp [hz_a4]) (by simp) (fun w => eql27c 0 _ _ w) hR (hw := (by exact wanted_g (e := 54) (b' := true) rfl (by simp [hz_a4]) rfl)) ?_
  refine AnyK.pick (i := 26) may_o (b := true) (v := .bool true) (by simp [hz_a4]) (by simp [hz_a4]) hR ?_
  refine AnyK.move (i := 27) may_o (v := .bool true) (by simp [hz_a4]) hR ?_
  refine AnyK.move (i := 28) may_o (v := .slice (some ⟨g6, 0, none⟩) 5 5) (by simp [r5]) hR (hw := (by exact wanted_g (e := 58) (b' := true) rfl (by simp [hz_a4]) rfl)) ?_
  refine AnyK.len (i := 29) may_o (u := .slice (some ⟨g6, 0, none⟩) 5 5) (v := .int .i64 5) (by simp [hz_a4]) (fun w => ln40 _ _ _ _ w) rfl hR (hw := (by exact wanted_g (e := 58) (b' := true) rfl (by simp [hz_a4]) rfl)) ?_
  refine AnyK.bin (i := 30) may_o (u := .int .i64 5) (u' := .int .i64 (5)) (v := .bool true) (by simp [hz_a4]) (by simp) (fun w => eql3T rfl w) hR (hw := (by exact wanted_g (e := 58) (b' := true) rfl (by simp [hz_a4]) rfl)) ?_
  refine AnyK.pick (i := 31) may_o (b := true) (v := .bool true) (by simp [hz_a4]) (by simp [hz_a4]) hR ?_
  refine AnyK.move (i := 32) may_o (v := .bool true) (by simp [hz_a4]) hR ?_
  refine AnyK.move (i := 33) may_o (v := .slice (some ⟨g6, 0, none⟩) 5 5) (by simp [r5]) hR (hw := (by exact wanted_g (e := 63) (b' := true) rfl (by simp [hz_a4]) rfl)) ?_
  refine AnyK.index (i := 34) may_o (u := .slice (some ⟨g6, 0, none⟩) 5 5) (u' := .int .i64 (3)) (v := .pointer (some ⟨g6, 6, none⟩)) (by simp [hz_a4]) (by simp) (fun w => by have := ix40 (b := g6) (o := 0) (n := 5) (c := 5) (i := 3) (by omega) w; simpa using this) hR (hw := (by exact wanted_g (e := 63) (b' := true) rfl (by simp [hz_a4]) rfl)) ?_
  refine AnyK.load (i := 35) may_o (p := ⟨g6, 6, none⟩) (v := .agg #[.int .i64 47, .int .i64 50]) (by simp [hz_a4]) (fun w hw => ld45 hw.2.2.1.1 hw.2.2.1.2) hR (hw := (by exact wanted_g (e := 63) (b' := true) rfl (by simp [hz_a4]) rfl)) ?_
  refine AnyK.pick1 (i := 36) (by kernel_rfl) ?_
  refine StepK.call (i := 36) (f := 28) (vs := #[.int .i64 (47), .int .i64 (50)]) rfl (enters_of Try.func28 (by kernel_rfl) rfl) rfl (by simp) ((between_any 47 50 _).mono ?_) (hw := (by exact wanted_g (e := 63) (b' := true) rfl (by simp [hz_a4]) rfl))
  rintro _ V36 ⟨rfl, hv36⟩
  replace hR : (fun w : World => (W2.heap.size ≤ w.heap.size ∧ BytesAt w W2.heap.size A1 exB) ∧ (w.cell? ⟨g4, 4, none⟩ = some (.int .i64 49) ∧ w.cell? ⟨g4, 5, none⟩ = some (.int .i64 49)) ∧ (w.cell? ⟨g6, 6, none⟩ = some (.int .i64 47) ∧ w.cell? ⟨g6, 7, none⟩ = some (.int .i64 50)) ∧ (w.cell? ⟨g6, 8, none⟩ = some (.int .i64 47) ∧ w.cell? ⟨g6, 9, none⟩ = some (.int .i64 50)) ∧ Below W.heap.size W w) V36 := hgr _ _ hR hv36
  refine ⟨_, rfl, fun _ _ => hR, ?_⟩
  refine AnyK.bin (i := 37) may_o (u := .agg #[.int .i64 47, .int .i64 50]) (u' := .agg #[.int .i64 47, .int .i64 50]) (v := .bool true) (by simp [hz_a4]) (by simp [hz_a4]) (fun w => eql45T 47 50 w) hR (hw := (by exact wanted_g (e := 63) (b' := true) rfl (by simp [hz_a4]) rfl)) ?_
  refine AnyK.pick (i := 38) may_o (b := true) (v := .bool true) (by simp [hz_a4]) (by simp [hz_a4]) hR ?_
  refine AnyK.move (i := 39) may_o (v := .bool true) (by simp [hz_a4]) hR ?_
  refine AnyK.move (i := 40) may_o (v := .slice (some ⟨g6, 0, none⟩) 5 5) (by simp [r5]) hR (hw := (by exact wanted_g (e := 70) (b' := true) rfl (by simp [hz_a4]) rfl)) ?_
  refine AnyK.index (i := 41) may_o (u := .slice (some ⟨g6, 0, none⟩) 5 5) (u' := .int .i64 (4)) (v := .pointer (some ⟨g6, 8, none⟩)) (by simp [hz_a4]) (by simp) (fun w => by have := ix40 (b := g6) (o := 0) (n := 5) (c := 5) (i := 4) (by omega) w; simpa using this) hR (hw := (by exact wanted_g (e := 70) (b' := true) rfl (by simp [hz_a4]) rfl)) ?_
  refine AnyK.load (i := 42) may_o (p := ⟨g6, 8, none⟩) (v := .agg #[.int .i64 47, .int .i64 50]) (by simp [hz_a4]) (fun w hw => ld45 hw.2.2.2.1.1 hw.2.2.2.1.2) hR (hw := (by exact wanted_g (e := 70) (b' := true) rfl (by simp [hz_a4]) rfl)) ?_
  refine AnyK.pick1 (i := 43) (by kernel_rfl) ?_
  refine StepK.call (i := 43) (f := 28) (vs := #[.int .i64 (47), .int .i64 (50)]) rfl (enters_of Try.func28 (by kernel_rfl) rfl) rfl (by simp) ((between_any 47 50 _).mono ?_) (hw := (by exact wanted_g (e := 70) (b' := true) rfl (by simp [hz_a4]) rfl))
  rintro _ V43 ⟨rfl, hv43⟩
  replace hR : (fun w : World => (W2.heap.size ≤ w.heap.size ∧ BytesAt w W2.heap.size A1 exB) ∧ (w.cell? ⟨g4, 4, none⟩ = some (.int .i64 49) ∧ w.cell? ⟨g4, 5, none⟩ = some (.int .i64 49)) ∧ (w.cell? ⟨g6, 6, none⟩ = some (.int .i64 47) ∧ w.cell? ⟨g6, 7, none⟩ = some (.int .i64 50)) ∧ (w.cell? ⟨g6, 8, none⟩ = some (.int .i64 47) ∧ w.cell? ⟨g6, 9, none⟩ = some (.int .i64 50)) ∧ Below W.heap.size W w) V43 := hgr _ _ hR hv43
  refine ⟨_, rfl, fun _ _ => hR, ?_⟩
  refine AnyK.bin (i := 44) may_o (u := .agg #[.int .i64 47, .int .i64 50]) (u' := .agg #[.int .i64 47, .int .i64 50]) (v := .bool true) (by simp [hz_a4]) (by simp [hz_a4]) (fun w => eql45T 47 50 w) hR (hw := (by exact wanted_g (e := 70) (b' := true) rfl (by simp [hz_a4]) rfl)) ?_
  refine AnyK.pick (i := 45) may_o (b := true) (v := .bool true) (by simp [hz_a4]) (by simp [hz_a4]) hR ?_
  refine AnyK.move (i := 46) may_o (v := .bool true) (by simp [hz_a4]) hR ?_
  refine AnyK.move (i := 47) may_o (v := .int .i64 7) (by simp [r8]) hR (hw := (by exact wanted_g (e := 77) (b' := true) rfl (by simp [hz_a4]) rfl)) ?_
  refine AnyK.bin (i := 48) may_o (u := .int .i64 7) (u' := .int .i64 (7)) (v := .bool true) (by simp [hz_a4]) (by simp) (fun w => eql27c 7 _ _ w) hR (hw := (by exact wanted_g (e := 77) (b' := true) rfl (by simp [hz_a4]) rfl)) ?_
  refine AnyK.pick (i := 49) may_o (b := true) (v := .bool true) (by simp [hz_a4]) (by simp [hz_a4]) hR ?_
  refine AnyK.assign (i := 50) may_o (v := .bool true) (by simp [hz_a4]) hR ?_
  refine AnyK.done (by kernel_rfl) ?_
  refine wpIn_ret ?_
  exact bodyPost_ret (v := .bool true) (res1 Try.results16 (by simp [hz_a4])) (by simp only [defers_put, hd_a4]) ⟨rfl, hR.2.2.2.2⟩
end
end Go.Proofs.YtmdlmmfbcnkanaaR
namespace Go.Proofs.YtmdlmmfbcnkanaaR
open Go.RowKit Go.Shelf
theorem cv35 {n : Nat} (b : UInt8) (h : n < 256) (hb : b.toNat = n) (w : World) : (convert 3 5 (.int .i64 (n : Int))).run Try.prog w = .ok (u8V b) w := by
  have h1 : ∀ n : Fin 256, IntKind.u8.wrap (n.1 : Int) = n.1 := by decide +kernel
  have h2 := h1 ⟨n, h⟩
  simp only at h2
  rw [show u8V b = .int .u8 (n : Int) by rw [← hb]]
  go_simp
  first | done | exact h2
theorem bs31_2 (x y : Int) (w : World) : (Instr.buildSlice 31 2 #[(0, .int .u8 x), (1, .int .u8 y)]).run Try.prog w = .ok (.slice (some ⟨w.heap.size, 0, none⟩) 2 2) (w.alloc (.cells #[.int .u8 x, .int .u8 y] 5)) := by go_simp
def twoL (n : Nat) : List UInt8 := [hi2 n, lo2 n]
noncomputable def opsTw0 : Array Oper := (Try.f56.body.bind (regionOf 0)).getD #[]
noncomputable def opsTw1 : Array Oper := (Try.f56.body.bind (regionOf 1)).getD #[]
noncomputable def code56 : Code := (.seq (.region 0 opsTw0 false) (.seq (.region 1 opsTw1 false) .ret))
theorem body56 : Try.f56.body = some code56 := by kernel_rfl
theorem two_any (n : Nat) (hn : n ≤ 99) (W : World) : Calls Try.prog 56 #[.int .i64 (n : Int)] W (EvP W (strV (twoL n))) := by
  refine (callsIn_wide (n := 5)).1 (callsIn_of_wp Try.func56 body56 trivial ?_ rfl)
  obtain ⟨a, ha⟩ : ∃ a : Act, a = { tmps := #[.int .i64 (n : Int)] ++ Array.replicate (Try.f56.ntmps - (#[.int .i64 (n : Int)] : Array Value).size) undef, defers := [] } := ⟨_, rfl⟩
  have hsz : a.tmps.size = 13 := by rw [ha]; simp [Try.ntmps56]
  have t0 : a.eval (.tmp 0) = .int .i64 (n : Int) := by rw [ha]; simp [Act.eval]
  have hd_a : a.defers = [] := by rw [ha]
  rw [← ha]
  clear ha
  unfold code56
  refine wpIn_seq (region_p 1 ?_)
  intro K hK
  refine ListK.assign (i := 0) (v := strV []) rfl (by simp) ?_
  refine ListK.done (hK _ _ ?_)
  clear hK K
  generalize hA : Act.put _ _ _ = a1
  have hz_a1 : a1.tmps.size = 13 := by rw [← hA]; simp only [size_put, hsz]
  have u0 : a1.eval (.tmp 0) = .int .i64 (n : Int) := by rw [← hA]; exact (by simp [t0])
  have hd_a1 : a1.defers = [] := by rw [← hA]; simp only [defers_put, hd_a]
  clear hA
  have hb : BytesAt (W.alloc (.cells #[u8V (hi2 n), u8V (lo2 n)] 5)) (W.alloc (.cells #[u8V (hi2 n), u8V (lo2 n)] 5)).heap.size (some ⟨W.heap.size, 0, none⟩) (twoL n) := by
    intro k x hx
    refine ⟨_, _, rfl, by simp, ?_⟩
    rw [Nat.zero_add, (Whole.new W 5 #[u8V (hi2 n), u8V (lo2 n)]).cell k]
    have : ((twoL n).map u8V)[k]? = some (u8V x) := by rw [List.getElem?_map, hx]; rfl
    simpa [twoL] using this
  refine wpIn_seq (region_p 11 ?_)
  intro K hK
  refine ListK.move (i := 0) (v := .int .i64 (n : Int)) rfl (by simp [u0]) ?_
  refine ListK.bin (i := 1) (u := .int .i64 (n : Int)) (u' := .int .i64 10) (v := .int .i64 ((n / 10 : Nat) : Int)) rfl (by simp [hz_a1]) (by simp) (quo3r (by omega) (by omega) (by omega) rfl _) ?_
  refine ListK.bin (i := 2) (u := .int .i64 48) (u' := .int .i64 ((n / 10 : Nat) : Int)) (v := .int .i64 ((48 + n / 10 : Nat) : Int)) rfl (by simp) (by simp [hz_a1]) (add3e (by omega) (by omega) (by omega) _) ?_
  refine ListK.conv (i := 3) (u := .int .i64 ((48 + n / 10 : Nat) : Int)) (v := u8V (hi2 n)) rfl (by simp [hz_a1]) (cv35 (hi2 n) (by omega) (hi2_nat hn) _) ?_
  refine ListK.move (i := 4) (v := .int .i64 (n : Int)) rfl (by simp [u0]) ?_
  refine ListK.bin (i := 5) (u := .int .i64 (n : Int)) (u' := .int .i64 10) (v := .int .i64 ((n % 10 : Nat) : Int)) rfl (by simp [hz_a1]) (by simp) (rem3r (by omega) (by omega) rfl _) ?_
  refine ListK.bin (i := 6) (u := .int .i64 48) (u' := .int .i64 ((n % 10 : Nat) : Int)) (v := .int .i64 ((48 + n % 10 : Nat) : Int)) rfl (by simp) (by simp [hz_a1]) (add3e (by omega) (by omega) (by omega) _) ?_
  refine ListK.conv (i := 7) (u := .int .i64 ((48 + n % 10 : Nat) : Int)) (v := u8V (lo2 n)) rfl (by simp [hz_a1]) (cv35 (lo2 n) (by omega) (lo2_nat hn) _) ?_
  refine ListK.bsl (i := 8) (ps := #[(0, u8V (hi2 n)), (1, u8V (lo2 n))]) (v := .slice (some ⟨W.heap.size, 0, none⟩) (twoL n).length 2) rfl (by simp [hz_a1]) (bs31_2 _ _ W) ?_
  refine ListK.conv (i := 9) (u := .slice (some ⟨W.heap.size, 0, none⟩) (twoL n).length 2) (v := strV (twoL n)) rfl (by simp [hz_a1]) (cv319 2 hb) ?_
  refine ListK.assign (i := 10) (v := strV (twoL n)) rfl (by simp [hz_a1]) ?_
  refine ListK.done (hK _ _ (wpIn_ret ?_))
  exact bodyPost_ret (v := strV (twoL n)) (res1 Try.results56 (by simp [hz_a1])) (by simp only [defers_put, hd_a1]) ⟨rfl, (Below.refl _ W).alloc (Nat.le_refl _) _⟩
theorem ln9 (l : List UInt8) (t : TypeId) (w : World) : (builtin .len #[9] t #[false] #[strV l]).run Try.prog w = .ok (.value (.int .i64 (l.length : Int))) w := by go_simp
theorem ix9 {l : List UInt8} {k : Nat} {b : UInt8} (h : l[k]? = some b) (w : World) : (Instr.index 9 (strV l) (.int .i64 (k : Int))).run Try.prog w = .ok (u8V b) w := by
  have hk := (List.getElem?_eq_some_iff.1 h).1
  have hb := (List.getElem?_eq_some_iff.1 h).2
  go_simp
  rw [← hb]
  rfl
theorem mul3n {x y : Operand} {m n r : Nat} (hr : m * n = r) (h1 : r ≤ 1000000) (w : World) : (do eqGuard .mul 3 x y (.int .i64 (m : Int)) (.int .i64 (n : Int)); binOp .mul 3 (.int .i64 (m : Int)) (.int .i64 (n : Int)) : Sem Value).run Try.prog w = .ok (.int .i64 (r : Int)) w := by
  have e : (r : Int) = (m : Int) * (n : Int) := by rw [← hr]; push_cast; rfl
  rw [e]
  exact mul3 (by rw [← e]; omega) (by rw [← e]; omega) w
/-- The sum of some bytes, each as often as its place says. -/
def ckS : Nat → List UInt8 → Nat
  | _, [] => 0
  | k, b :: l => (k + 2) * b.toNat + ckS (k + 1) l
noncomputable def opsRck0 : Array Oper := (Try.f57.body.bind (regionOf 0)).getD #[]
noncomputable def opsRck1 : Array Oper := (Try.f57.body.bind (regionOf 1)).getD #[]
noncomputable def opsRck2 : Array Oper := (Try.f57.body.bind (regionOf 2)).getD #[]
noncomputable def opsRck3 : Array Oper := (Try.f57.body.bind (regionOf 3)).getD #[]
noncomputable def opsRck4 : Array Oper := (Try.f57.body.bind (regionOf 4)).getD #[]
noncomputable def opsRck5 : Array Oper := (Try.f57.body.bind (regionOf 5)).getD #[]
noncomputable def opsRck6 : Array Oper := (Try.f57.body.bind (regionOf 6)).getD #[]
noncomputable def code57 : Code := (.seq (.region 0 opsRck0 false) (.seq (.region 1 opsRck1 false) (.seq (.seq (.region 2 opsRck2 false) (.block 0 (.loop (.seq (.seq (.region 3 opsRck3 false) (.cond (.tmp 8) .skip (.exit 0))) (.seq (.block 1 (.region 5 opsRck5 false)) (.region 4 opsRck4 false)))))) (.seq (.region 6 opsRck6 false) .ret))))
theorem body57 : Try.f57.body = some code57 := by kernel_rfl
set_option maxHeartbeats 400000 in
theorem refCheck_any (c0 c1 c2 c3 c4 : UInt8) (W : World) : Calls Try.prog 57 #[strV [c0, c1, c2, c3, c4]] W (EvP W (strV (twoL (chk5 c0 c1 c2 c3 c4)))) := by
  have b0 := c0.toNat_lt
  have b1 := c1.toNat_lt
  have b2 := c2.toNat_lt
  have b3 := c3.toNat_lt
  have b4 := c4.toNat_lt
  have hck := chk5_lt c0 c1 c2 c3 c4
  refine (callsIn_wide (n := 5)).1 (callsIn_of_wp Try.func57 body57 trivial ?_ rfl)
  obtain ⟨a, ha⟩ : ∃ a : Act, a = { tmps := #[strV [c0, c1, c2, c3, c4]] ++ Array.replicate (Try.f57.ntmps - (#[strV [c0, c1, c2, c3, c4]] : Array Value).size) undef, defers := [] } := ⟨_, rfl⟩
  have hsz : a.tmps.size = 23 := by rw [ha]; simp [Try.ntmps57]
  have t0 : a.eval (.tmp 0) = strV [c0, c1, c2, c3, c4] := by rw [ha]; simp [Act.eval]
  have hd_a : a.defers = [] := by rw [ha]
  rw [← ha]
  clear ha
  unfold code57
  refine wpIn_seq (region_p 1 ?_)
  intro K hK
  refine ListK.assign (i := 0) (v := strV []) rfl (by simp) ?_
  refine ListK.done (hK _ _ ?_)
  clear hK K
  refine wpIn_seq (region_p 1 ?_)
  intro K hK
  refine ListK.assign (i := 0) (v := .int .i64 0) rfl (by simp) ?_
  refine ListK.done (hK _ _ ?_)
  clear hK K
  refine wpIn_seq (wpIn_seq (region_p 1 ?_))
  intro K hK
  refine ListK.assign (i := 0) (v := .int .i64 0) rfl (by simp) ?_
  refine ListK.done (hK _ _ ?_)
  clear hK K
  generalize hA : Act.put _ _ _ = a1
  have hz_a1 : a1.tmps.size = 23 := by rw [← hA]; simp only [size_put, hsz]
  have u0 : a1.eval (.tmp 0) = strV [c0, c1, c2, c3, c4] := by rw [← hA]; exact (by simp [t0])
  have u3 : a1.eval (.tmp 3) = .int .i64 0 := by rw [← hA]; exact (by simp [hsz])
  have u4 : a1.eval (.tmp 4) = .int .i64 0 := by rw [← hA]; exact (by simp [hsz])
  have hd_a1 : a1.defers = [] := by rw [← hA]; simp only [defers_put, hd_a]
  clear hA
  refine wpIn_block (wpIn_loop (fun a W' => ∃ k s : Nat, W' = W ∧ a.tmps.size = 23 ∧ a.defers = [] ∧ a.eval (.tmp 0) = strV [c0, c1, c2, c3, c4] ∧ a.eval (.tmp 3) = .int .i64 (s : Int) ∧ a.eval (.tmp 4) = .int .i64 (k : Int) ∧ k ≤ 5 ∧ s ≤ k * 2000 ∧ s + ckS k ([c0, c1, c2, c3, c4].drop k) = ckS 0 [c0, c1, c2, c3, c4]) (fun a _ => 5 - (intOf (a.eval (.tmp 4))).toNat)
    ⟨0, 0, rfl, hz_a1, hd_a1, u0, u3, u4, by omega, by omega, by simp⟩ ?_)
  rintro b1 W1 ⟨k, s, hW1, hz_b1, hd_b1, s0, s3, s4, hk, hs, hck2⟩
  subst hW1
  by_cases hlt : k < 5
  · have hd : decide ((k : Int) < 5) = true := by simp; omega
    refine wpIn_seq (wpIn_seq (region_p 4 ?_))
    intro K hK
    refine ListK.move (i := 0) (v := .int .i64 (k : Int)) rfl (by simp [s4]) ?_
    refine ListK.move (i := 1) (v := strV [c0, c1, c2, c3, c4]) rfl (by simp [s0]) ?_
    refine ListK.len (i := 2) (u := strV [c0, c1, c2, c3, c4]) (v := .int .i64 5) rfl (by simp [hz_b1]) (ln9 _ _ _) rfl ?_
    refine ListK.bin (i := 3) (u := .int .i64 (k : Int)) (u' := .int .i64 5) (v := .bool (decide ((k : Int) < 5))) rfl (by simp [hz_b1]) (by simp [hz_b1]) (lss3 _) ?_
    refine ListK.done (hK _ _ ?_)
    clear hK K
    rw [hd]
    refine wpIn_cond (t := true) (by simp [hz_b1]) (wpIn_skip ?_)
    generalize hA : Act.put _ _ _ = b2
    have hz_b2 : b2.tmps.size = 23 := by rw [← hA]; simp only [size_put, hz_b1]
    have v0 : b2.eval (.tmp 0) = strV [c0, c1, c2, c3, c4] := by rw [← hA]; exact (by simp [s0])
    have v3 : b2.eval (.tmp 3) = .int .i64 (s : Int) := by rw [← hA]; exact (by simp [s3])
    have v4 : b2.eval (.tmp 4) = .int .i64 (k : Int) := by rw [← hA]; exact (by simp [s4])
    have hd_b2 : b2.defers = [] := by rw [← hA]; simp only [defers_put, hd_b1]
    clear hA
    obtain ⟨b, hb⟩ : ∃ b, [c0, c1, c2, c3, c4][k]? = some b := ⟨_, List.getElem?_eq_getElem (by simpa using hlt)⟩
    have hbl := b.toNat_lt
    have hdr : ckS k ([c0, c1, c2, c3, c4].drop k) = (k + 2) * b.toNat + ckS (k + 1) ([c0, c1, c2, c3, c4].drop (k + 1)) := by
      rw [List.drop_eq_getElem_cons (by simpa using hlt), (List.getElem?_eq_some_iff.1 hb).2]
      rfl
    have hml : (k + 2) * b.toNat ≤ 7 * 255 := Nat.mul_le_mul (by omega) (by omega)
    obtain ⟨q, hq⟩ : ∃ q, (k + 2) * b.toNat = q := ⟨_, rfl⟩
    rw [hq] at hdr hml
    refine wpIn_seq (wpIn_block ?_)
    refine region_p 10 ?_
    intro K hK
    refine ListK.move (i := 0) (v := .int .i64 (s : Int)) rfl (by simp [v3]) ?_
    refine ListK.move (i := 1) (v := .int .i64 (k : Int)) rfl (by simp [v4]) ?_
    refine ListK.bin (i := 2) (u := .int .i64 (k : Int)) (u' := .int .i64 2) (v := .int .i64 ((k + 2 : Nat) : Int)) rfl (by simp [hz_b2]) (by simp) (add3e (by omega) (by omega) (by omega) _) ?_
    refine ListK.move (i := 3) (v := strV [c0, c1, c2, c3, c4]) rfl (by simp [v0]) ?_
    refine ListK.move (i := 4) (v := .int .i64 (k : Int)) rfl (by simp [v4]) ?_
    refine ListK.indexV (i := 5) (u := strV [c0, c1, c2, c3, c4]) (u' := .int .i64 (k : Int)) (v := u8V b) rfl (by simp [hz_b2]) (by simp [hz_b2]) (ix9 hb _) ?_
    refine ListK.conv (i := 6) (u := u8V b) (v := .int .i64 (b.toNat : Int)) rfl (by simp [hz_b2]) (cvu8 (by omega) _) ?_
    refine ListK.bin (i := 7) (u := .int .i64 ((k + 2 : Nat) : Int)) (u' := .int .i64 (b.toNat : Int)) (v := .int .i64 (q : Int)) rfl (by simp [hz_b2]) (by simp [hz_b2]) (mul3n hq (by omega) _) ?_
    refine ListK.bin (i := 8) (u := .int .i64 (s : Int)) (u' := .int .i64 (q : Int)) (v := .int .i64 ((s + q : Nat) : Int)) rfl (by simp [hz_b2]) (by simp [hz_b2]) (add3e (by omega) (by omega) (by omega) _) ?_
    refine ListK.assign (i := 9) (v := .int .i64 ((s + q : Nat) : Int)) rfl (by simp [hz_b2]) ?_
    refine ListK.done (hK _ _ ?_)
    clear hK K
    generalize hA : Act.put _ _ _ = b3
    have hz_b3 : b3.tmps.size = 23 := by rw [← hA]; simp only [size_put, hz_b2]
    have q0 : b3.eval (.tmp 0) = strV [c0, c1, c2, c3, c4] := by rw [← hA]; exact (by simp [v0])
    have q3 : b3.eval (.tmp 3) = .int .i64 ((s + q : Nat) : Int) := by rw [← hA]; exact (by simp [hz_b2])
    have q4 : b3.eval (.tmp 4) = .int .i64 (k : Int) := by rw [← hA]; exact (by simp [v4])
    have hd_b3 : b3.defers = [] := by rw [← hA]; simp only [defers_put, hd_b2]
    clear hA
    refine region_p 3 ?_
    intro K hK
    refine ListK.move (i := 0) (v := .int .i64 (k : Int)) rfl (by simp [q4]) ?_
    refine ListK.bin (i := 1) (u := .int .i64 (k : Int)) (u' := .int .i64 1) (v := .int .i64 ((k + 1 : Nat) : Int)) rfl (by simp [hz_b3]) (by simp) (add3 (by omega) (by omega) _) ?_
    refine ListK.assign (i := 2) (v := .int .i64 ((k + 1 : Nat) : Int)) rfl (by simp [hz_b3]) ?_
    refine ListK.done (hK _ _ ?_)
    clear hK K
    refine ⟨⟨k + 1, s + q, rfl, (by simp only [size_put, hz_b3]), (by simp only [defers_put, hd_b3]), (by simp [q0]), (by simp [q3]), (by simp [hz_b3]), by omega, by omega, by omega⟩, ?_⟩
    rw [s4, show (Act.put _ _ _).eval (.tmp 4) = .int .i64 ((k + 1 : Nat) : Int) from (by simp [hz_b3])]
    simp only [intOf]
    omega
  · have hd : decide ((k : Int) < 5) = false := by simp; omega
    refine wpIn_seq (wpIn_seq (region_p 4 ?_))
    intro K hK
    refine ListK.move (i := 0) (v := .int .i64 (k : Int)) rfl (by simp [s4]) ?_
    refine ListK.move (i := 1) (v := strV [c0, c1, c2, c3, c4]) rfl (by simp [s0]) ?_
    refine ListK.len (i := 2) (u := strV [c0, c1, c2, c3, c4]) (v := .int .i64 5) rfl (by simp [hz_b1]) (ln9 _ _ _) rfl ?_
    refine ListK.bin (i := 3) (u := .int .i64 (k : Int)) (u' := .int .i64 5) (v := .bool (decide ((k : Int) < 5))) rfl (by simp [hz_b1]) (by simp [hz_b1]) (lss3 _) ?_
    refine ListK.done (hK _ _ ?_)
    clear hK K
    rw [hd]
    refine wpIn_cond (t := false) (by simp [hz_b1]) (wpIn_exit ?_)
    have hk5 : k = 5 := by omega
    subst hk5
    have hsv : s % 97 = chk5 c0 c1 c2 c3 c4 := by
      have : ckS 5 (([c0, c1, c2, c3, c4] : List UInt8).drop 5) = 0 := rfl
      rw [this] at hck2
      rw [show s = ckS 0 [c0, c1, c2, c3, c4] by omega]
      simp only [ckS, chk5]
      congr 1
      omega
    generalize hA : Act.put _ _ _ = b2
    have hz_b2 : b2.tmps.size = 23 := by rw [← hA]; simp only [size_put, hz_b1]
    have v3 : b2.eval (.tmp 3) = .int .i64 (s : Int) := by rw [← hA]; exact (by simp [s3])
    have hd_b2 : b2.defers = [] := by rw [← hA]; simp only [defers_put, hd_b1]
    clear hA
    refine wpIn_seq (region_p 4 ?_)
    intro K hK
    refine ListK.move (i := 0) (v := .int .i64 (s : Int)) rfl (by simp [v3]) ?_
    refine ListK.bin (i := 1) (u := .int .i64 (s : Int)) (u' := .int .i64 97) (v := .int .i64 ((chk5 c0 c1 c2 c3 c4 : Nat) : Int)) rfl (by simp [hz_b2]) (by simp) (rem3r (by omega) (by omega) (by rw [← hsv]; rfl) _) ?_
    refine ListK.call (i := 2) (vs := #[.int .i64 ((chk5 c0 c1 c2 c3 c4 : Nat) : Int)]) rfl (enters_of Try.func56 (by kernel_rfl) rfl) (by simp [hz_b2]) ((two_any (chk5 c0 c1 c2 c3 c4) (by omega) _).mono ?_)
    rintro _ W2 ⟨rfl, hb2⟩
    refine ⟨_, rfl, ?_⟩
    refine ListK.assign (i := 3) (v := strV (twoL (chk5 c0 c1 c2 c3 c4))) rfl (by simp [hz_b2]) ?_
    refine ListK.done (hK _ _ (wpIn_ret ?_))
    exact bodyPost_ret (v := strV (twoL (chk5 c0 c1 c2 c3 c4))) (res1 Try.results57 (by simp [hz_b2])) (by simp only [defers_put, hd_b2]) ⟨rfl, hb2⟩
noncomputable def opsRcd0 : Array Oper := (Try.f27.body.bind (regionOf 0)).getD #[]
noncomputable def opsRcd1 : Array Oper := (Try.f27.body.bind (regionOf 1)).getD #[]
noncomputable def opsRcd2 : Array Oper := (Try.f27.body.bind (regionOf 2)).getD #[]
noncomputable def code27 : Code := (.seq (.region 0 opsRcd0 false) (.seq (.region 1 opsRcd1 false) (.seq (.region 2 opsRcd2 false) .ret)))
theorem body27 : Try.f27.body = some code27 := by kernel_rfl
theorem refRecord_any (k : UInt8) (a_ b_ : Nat) (ha_ : a_ ≤ 99) (hb_ : b_ ≤ 99) (W : World) : Calls Try.prog 27 #[strV [k], .int .i64 (a_ : Int), .int .i64 (b_ : Int)] W (EvP W (strV (made k a_ b_))) := by
  refine (callsIn_wide (n := 5)).1 (callsIn_of_wp Try.func27 body27 trivial ?_ rfl)
  obtain ⟨a, ha⟩ : ∃ a : Act, a = { tmps := #[strV [k], .int .i64 (a_ : Int), .int .i64 (b_ : Int)] ++ Array.replicate (Try.f27.ntmps - (#[strV [k], .int .i64 (a_ : Int), .int .i64 (b_ : Int)] : Array Value).size) undef, defers := [] } := ⟨_, rfl⟩
  have hsz : a.tmps.size = 19 := by rw [ha]; simp [Try.ntmps27]
  have t0 : a.eval (.tmp 0) = strV [k] := by rw [ha]; simp [Act.eval]
  have t1 : a.eval (.tmp 1) = .int .i64 (a_ : Int) := by rw [ha]; simp [Act.eval]
  have t2 : a.eval (.tmp 2) = .int .i64 (b_ : Int) := by rw [ha]; simp [Act.eval]
  have hd_a : a.defers = [] := by rw [ha]
  rw [← ha]
  clear ha
  unfold code27
  refine wpIn_seq (region_p 1 ?_)
  intro K hK
  refine ListK.assign (i := 0) (v := strV []) rfl (by simp) ?_
  refine ListK.done (hK _ _ ?_)
  clear hK K
  generalize hA : Act.put _ _ _ = a1
  have hz_a1 : a1.tmps.size = 19 := by rw [← hA]; simp only [size_put, hsz]
  have u0 : a1.eval (.tmp 0) = strV [k] := by rw [← hA]; exact (by simp [t0])
  have u1 : a1.eval (.tmp 1) = .int .i64 (a_ : Int) := by rw [← hA]; exact (by simp [t1])
  have u2 : a1.eval (.tmp 2) = .int .i64 (b_ : Int) := by rw [← hA]; exact (by simp [t2])
  have hd_a1 : a1.defers = [] := by rw [← hA]; simp only [defers_put, hd_a]
  clear hA
  have e1 : [k] ++ twoL a_ ++ twoL b_ = [k, hi2 a_, lo2 a_, hi2 b_, lo2 b_] := rfl
  refine wpIn_seq (region_p 8 ?_)
  intro K hK
  refine ListK.move (i := 0) (v := strV [k]) rfl (by simp [u0]) ?_
  refine ListK.move (i := 1) (v := .int .i64 (a_ : Int)) rfl (by simp [u1]) ?_
  refine ListK.call (i := 2) (vs := #[.int .i64 (a_ : Int)]) rfl (enters_of Try.func56 (by kernel_rfl) rfl) (by simp [hz_a1]) ((two_any a_ ha_ W).mono ?_)
  rintro _ W2 ⟨rfl, hb2⟩
  refine ⟨_, rfl, ?_⟩
  refine ListK.bin (i := 3) (u := strV [k]) (u' := strV (twoL a_)) (v := strV ([k] ++ twoL a_)) rfl (by simp [hz_a1]) (by simp [hz_a1]) (add9 _ _ (by simp [twoL]) _) ?_
  refine ListK.move (i := 4) (v := .int .i64 (b_ : Int)) rfl (by simp [u2]) ?_
  refine ListK.call (i := 5) (vs := #[.int .i64 (b_ : Int)]) rfl (enters_of Try.func56 (by kernel_rfl) rfl) (by simp [hz_a1]) ((two_any b_ hb_ W2).mono ?_)
  rintro _ W3 ⟨rfl, hb3⟩
  refine ⟨_, rfl, ?_⟩
  refine ListK.bin (i := 6) (u := strV ([k] ++ twoL a_)) (u' := strV (twoL b_)) (v := strV [k, hi2 a_, lo2 a_, hi2 b_, lo2 b_]) rfl (by simp [hz_a1]) (by simp [hz_a1]) (by rw [← e1]; exact add9 _ _ (by simp [twoL]) _) ?_
  refine ListK.assign (i := 7) (v := strV [k, hi2 a_, lo2 a_, hi2 b_, lo2 b_]) rfl (by simp [hz_a1]) ?_
  refine ListK.done (hK _ _ ?_)
  clear hK K
  have hB3 := hb2.trans (hb3.mono hb2.size)
  generalize hA : Act.put _ _ _ = a2
  have hz_a2 : a2.tmps.size = 19 := by rw [← hA]; simp only [size_put, hz_a1]
  have v7 : a2.eval (.tmp 7) = strV [k, hi2 a_, lo2 a_, hi2 b_, lo2 b_] := by rw [← hA]; exact (by simp [hz_a1])
  have hd_a2 : a2.defers = [] := by rw [← hA]; simp only [defers_put, hd_a1]
  clear hA
  have e2 : [k, hi2 a_, lo2 a_, hi2 b_, lo2 b_] ++ twoL (chk5 k (hi2 a_) (lo2 a_) (hi2 b_) (lo2 b_)) = made k a_ b_ := rfl
  refine wpIn_seq (region_p 5 ?_)
  intro K hK
  refine ListK.move (i := 0) (v := strV [k, hi2 a_, lo2 a_, hi2 b_, lo2 b_]) rfl (by simp [v7]) ?_
  refine ListK.move (i := 1) (v := strV [k, hi2 a_, lo2 a_, hi2 b_, lo2 b_]) rfl (by simp [v7]) ?_
  refine ListK.call (i := 2) (vs := #[strV [k, hi2 a_, lo2 a_, hi2 b_, lo2 b_]]) rfl (enters_of Try.func57 (by kernel_rfl) rfl) (by simp [hz_a2]) ((refCheck_any k (hi2 a_) (lo2 a_) (hi2 b_) (lo2 b_) W3).mono ?_)
  rintro _ W4 ⟨rfl, hb4⟩
  refine ⟨_, rfl, ?_⟩
  refine ListK.bin (i := 3) (u := strV [k, hi2 a_, lo2 a_, hi2 b_, lo2 b_]) (u' := strV (twoL (chk5 k (hi2 a_) (lo2 a_) (hi2 b_) (lo2 b_)))) (v := strV (made k a_ b_)) rfl (by simp [hz_a2]) (by simp [hz_a2]) (by rw [← e2]; exact add9 _ _ (by simp [twoL]) _) ?_
  refine ListK.assign (i := 4) (v := strV (made k a_ b_)) rfl (by simp [hz_a2]) ?_
  refine ListK.done (hK _ _ (wpIn_ret ?_))
  exact bodyPost_ret (v := strV (made k a_ b_)) (res1 Try.results27 (by simp [hz_a2])) (by simp only [defers_put, hd_a2]) ⟨rfl, hB3.trans (hb4.mono hB3.size)⟩
noncomputable def opsRbl0 : Array Oper := (Try.f53.body.bind (regionOf 0)).getD #[]
noncomputable def opsRbl1 : Array Oper := (Try.f53.body.bind (regionOf 1)).getD #[]
noncomputable def code53 : Code := (.seq (.region 0 opsRbl0 false) (.seq (.region 1 opsRbl1 false) .ret))
theorem body53 : Try.f53.body = some code53 := by kernel_rfl
theorem refBlocks_any (n w : Nat) (hn : n ≤ 1000) (hw : 1 ≤ w ∧ w ≤ 1000) (W : World) : Calls Try.prog 53 #[.int .i64 (n : Int), .int .i64 (w : Int)] W (fun e w' => e = .returned (.int .i64 ((n + w - 1) / w : Nat)) ∧ w' = W) := by
  refine (callsIn_wide (n := 5)).1 (callsIn_of_wp Try.func53 body53 trivial ?_ rfl)
  obtain ⟨a, ha⟩ : ∃ a : Act, a = { tmps := #[.int .i64 (n : Int), .int .i64 (w : Int)] ++ Array.replicate (Try.f53.ntmps - (#[.int .i64 (n : Int), .int .i64 (w : Int)] : Array Value).size) undef, defers := [] } := ⟨_, rfl⟩
  have hsz : a.tmps.size = 11 := by rw [ha]; simp [Try.ntmps53]
  have t0 : a.eval (.tmp 0) = .int .i64 (n : Int) := by rw [ha]; simp [Act.eval]
  have t1 : a.eval (.tmp 1) = .int .i64 (w : Int) := by rw [ha]; simp [Act.eval]
  have hd_a : a.defers = [] := by rw [ha]
  rw [← ha]
  clear ha
  unfold code53
  refine wpIn_seq (region_p 1 ?_)
  intro K hK
  refine ListK.assign (i := 0) (v := .int .i64 0) rfl (by simp) ?_
  refine ListK.done (hK _ _ ?_)
  clear hK K
  refine wpIn_seq (region_p 7 ?_)
  intro K hK
  refine ListK.move (i := 0) (v := .int .i64 (n : Int)) rfl (by simp [t0]) ?_
  refine ListK.move (i := 1) (v := .int .i64 (w : Int)) rfl (by simp [t1]) ?_
  refine ListK.bin (i := 2) (u := .int .i64 (n : Int)) (u' := .int .i64 (w : Int)) (v := .int .i64 ((n + w : Nat) : Int)) rfl (by simp [hsz]) (by simp [hsz]) (add3e (by omega) (by omega) (by omega) _) ?_
  refine ListK.bin (i := 3) (u := .int .i64 ((n + w : Nat) : Int)) (u' := .int .i64 1) (v := .int .i64 ((n + w - 1 : Nat) : Int)) rfl (by simp [hsz]) (by simp) (by rw [show ((n + w - 1 : Nat) : Int) = ((n + w : Nat) : Int) - 1 by omega]; exact sub3 (by omega) (by omega) _) ?_
  refine ListK.move (i := 4) (v := .int .i64 (w : Int)) rfl (by simp [t1]) ?_
  refine ListK.bin (i := 5) (u := .int .i64 ((n + w - 1 : Nat) : Int)) (u' := .int .i64 (w : Int)) (v := .int .i64 (((n + w - 1) / w : Nat) : Int)) rfl (by simp [hsz]) (by simp [hsz]) (quo3r (by omega) (by omega) (by omega) rfl _) ?_
  refine ListK.assign (i := 6) (v := .int .i64 (((n + w - 1) / w : Nat) : Int)) rfl (by simp [hsz]) ?_
  refine ListK.done (hK _ _ (wpIn_ret ?_))
  exact bodyPost_ret (v := .int .i64 ((n + w - 1) / w : Nat)) (res1 Try.results53 (by simp [hsz])) (by simp only [defers_put, hd_a]) ⟨rfl, rfl⟩
end Go.Proofs.YtmdlmmfbcnkanaaR
namespace Go.Proofs.YtmdlmmfbcnkanaaR
open Go.RowKit Go.Shelf
set_option maxHeartbeats 400000 in
theorem refIn_any (n lo hi : Int) (w : World) : Calls Try.prog 63 #[.int .i64 n, .int .i64 lo, .int .i64 hi] w fun e w' => e = .returned (.bool (inR n lo hi)) ∧ w = w' := by
  by_cases h1 : lo ≤ n
  · go_enter Try.func63, Try.ntmps63
    go_wp2
    go_ret
    exact ⟨by simp [inR, h1], rfl⟩
  · have hd : decide (lo ≤ n) = false := by simpa using h1
    go_enter Try.func63, Try.ntmps63
    go_wp2
    go_ret
    exact ⟨by simp [inR]; omega, rfl⟩
set_option maxHeartbeats 400000 in
theorem refNear_any (a b st : Int) (w : World) (hs : 0 ≤ st) (hs' : st ≤ 1000) (ha : 0 ≤ a) (ha' : a ≤ 100000) (hb : 0 ≤ b) (hb' : b ≤ 100000) : Calls Try.prog 64 #[.int .i64 a, .int .i64 b, .int .i64 st] w fun e w' => e = .returned (.bool (nearB a b st)) ∧ w = w' := by
  go_enter Try.func64, Try.ntmps64
  go_wp2_with (go_at_call 63; refine (refIn_any _ _ _ _).mono ?_; rintro e w' ⟨rfl, rfl⟩)
  go_ret
  exact ⟨rfl, rfl⟩
noncomputable def opsFt0 : Array Oper := (Try.f35.body.bind (regionOf 0)).getD #[]
noncomputable def opsFt1 : Array Oper := (Try.f35.body.bind (regionOf 1)).getD #[]
noncomputable def opsFt2 : Array Oper := (Try.f35.body.bind (regionOf 2)).getD #[]
noncomputable def opsFt3 : Array Oper := (Try.f35.body.bind (regionOf 3)).getD #[]
noncomputable def opsFt4 : Array Oper := (Try.f35.body.bind (regionOf 4)).getD #[]
noncomputable def opsFt5 : Array Oper := (Try.f35.body.bind (regionOf 5)).getD #[]
noncomputable def opsFt6 : Array Oper := (Try.f35.body.bind (regionOf 6)).getD #[]
noncomputable def opsFt7 : Array Oper := (Try.f35.body.bind (regionOf 7)).getD #[]
noncomputable def opsFt8 : Array Oper := (Try.f35.body.bind (regionOf 8)).getD #[]
noncomputable def opsFt9 : Array Oper := (Try.f35.body.bind (regionOf 9)).getD #[]
noncomputable def opsFt10 : Array Oper := (Try.f35.body.bind (regionOf 10)).getD #[]
noncomputable def ft_l : Code := (.seq (.seq (.region 6 opsFt6 false) (.cond (.tmp 28) .skip (.exit 0))) (.seq (.block 1 (.seq (.region 8 opsFt8 true) (.cond (.tmp 58) (.seq (.region 9 opsFt9 false) .ret) .skip))) (.region 7 opsFt7 false)))
noncomputable def code35 : Code := (.seq (.region 0 opsFt0 false) (.seq (.seq (.region 1 opsFt1 false) (.cond (.tmp 7) (.seq (.region 2 opsFt2 false) .ret) .skip)) (.seq (.seq (.region 3 opsFt3 false) (.cond (.tmp 23) (.seq (.region 4 opsFt4 false) .ret) .skip)) (.seq (.seq (.region 5 opsFt5 false) (.block 0 (.loop ft_l))) (.seq (.region 10 opsFt10 false) .ret)))))
theorem body35 : Try.f35.body = some code35 := by kernel_rfl
section
attribute [local irreducible] AnyK StepK
set_option maxHeartbeats 400000 in
theorem refFault_any (s : Ser) (A : Option Addr) (c : Nat) (W : World) (hl : s.rd.length ≤ 1000000) (hs : IntsAt W W.heap.size A s.rd) : Calls Try.prog 35 #[serV s A c] W (EvP W (.int .i64 (faultS s))) := by
  refine (callsIn_wide (n := 5)).1 (callsIn_of_wp Try.func35 body35 trivial ?_ rfl)
  obtain ⟨a, ha⟩ : ∃ a : Act, a = { tmps := #[serV s A c] ++ Array.replicate (Try.f35.ntmps - (#[serV s A c] : Array Value).size) undef, defers := [] } := ⟨_, rfl⟩
  have hsz : a.tmps.size = 59 := by rw [ha]; simp [Try.ntmps35]
  have t0 : a.eval (.tmp 0) = serV s A c := by rw [ha]; simp [Act.eval]
  have hd_a : a.defers = [] := by rw [ha]
  rw [← ha]
  clear ha
  unfold code35
  have hret : ∀ (a' : Act) (W' : World) (n : Int), n = faultS s → a'.defers = [] → a'.eval (.tmp 2) = .int .i64 n → Below W.heap.size W W' → bodyPost Try.prog Try.f35 (EvP W (.int .i64 (faultS s))) .ret a' W' := fun a' W' n hn hd h4 hb =>
    bodyPost_ret (v := .int .i64 n) (res1 Try.results35 h4) hd ⟨by rw [hn], hb⟩
  refine wpIn_seq (region_p 2 ?_)
  intro K hK
  refine ListK.box (i := 0) (u := serV s A c) rfl (by simp [t0]) (bx24 W _ _ _ _ _) ?_
  refine ListK.assign (i := 1) (v := .int .i64 0) rfl (by simp) ?_
  refine ListK.done (hK _ _ ?_)
  clear hK K
  replace hs : IntsAt (W.alloc (.cells #[.int .i64 s.width, .int .i64 s.step, .slice A s.rd.length c] 24)) W.heap.size A s.rd := hs.below ((Below.refl W.heap.size W).alloc (Nat.le_refl _) _) (Nat.le_refl _)
  have wb := Whole.new W 24 #[.int .i64 s.width, .int .i64 s.step, .slice A s.rd.length c]
  have hb_b3 : Below W.heap.size W (W.alloc (.cells #[.int .i64 s.width, .int .i64 s.step, .slice A s.rd.length c] 24)) := (Below.refl _ W).alloc (Nat.le_refl _) _
  have hB := hb_b3
  generalize hq_b3 : W.heap.size = b3 at *
  generalize W.alloc (.cells #[.int .i64 s.width, .int .i64 s.step, .slice A s.rd.length c] 24) = W1 at *
  generalize hA : Act.put _ _ _ = a1
  have hz_a1 : a1.tmps.size = 59 := by rw [← hA]; simp only [size_put, hsz]
  have u1 : a1.eval (.tmp 1) = .pointer (some ⟨b3, 0, none⟩) := by rw [← hA]; exact (by simp [hsz])
  have hd_a1 : a1.defers = [] := by rw [← hA]; simp only [defers_put, hd_a]
  clear hA
  have hsz1 := hB.size
  by_cases h8 : 40 < s.rd.length
  · skip
    refine wpIn_seq (wpIn_seq (region_p 4 ?_))
    intro K hK
    refine ListK.field (i := 0) (u := .pointer (some ⟨b3, 0, none⟩)) (v := .pointer (some ⟨b3, 2, none⟩)) rfl (by simp [u1]) (fa24_2 _) ?_
    refine ListK.load (i := 1) (p := ⟨b3, 2, none⟩) (v := .slice A s.rd.length c) rfl (by simp [hz_a1]) (ld22 (wb.cell 2)) ?_
    refine ListK.len (i := 2) (u := .slice A s.rd.length c) (v := .int .i64 s.rd.length) rfl (by simp [hz_a1]) (ln22 _ _ _ _ _) rfl ?_
    refine ListK.bin (i := 3) (u := .int .i64 s.rd.length) (u' := .int .i64 40) (v := .bool true) rfl (by simp [hz_a1]) (by simp) (gtrT3 (by omega) _) ?_
    refine ListK.done (hK _ _ ?_)
    clear hK K
    refine wpIn_cond (t := true) (by simp [hz_a1]) ?_
    refine wpIn_seq (region_p 1 ?_)
    intro K hK
    refine ListK.assign (i := 0) (v := .int .i64 3) rfl (by simp) ?_
    refine ListK.done (hK _ _ (wpIn_ret ?_))
    exact hret _ _ 3 (fault_limit h8).symm (by simp only [defers_put, hd_a1]) (by simp [hz_a1]) hB
  · skip
    refine wpIn_seq (wpIn_seq (region_p 4 ?_))
    intro K hK
    refine ListK.field (i := 0) (u := .pointer (some ⟨b3, 0, none⟩)) (v := .pointer (some ⟨b3, 2, none⟩)) rfl (by simp [u1]) (fa24_2 _) ?_
    refine ListK.load (i := 1) (p := ⟨b3, 2, none⟩) (v := .slice A s.rd.length c) rfl (by simp [hz_a1]) (ld22 (wb.cell 2)) ?_
    refine ListK.len (i := 2) (u := .slice A s.rd.length c) (v := .int .i64 s.rd.length) rfl (by simp [hz_a1]) (ln22 _ _ _ _ _) rfl ?_
    refine ListK.bin (i := 3) (u := .int .i64 s.rd.length) (u' := .int .i64 40) (v := .bool false) rfl (by simp [hz_a1]) (by simp) (gtrF3 (by omega) _) ?_
    refine ListK.done (hK _ _ ?_)
    clear hK K
    refine wpIn_cond (t := false) (by simp [hz_a1]) (wpIn_skip ?_)
    generalize hA : Act.put _ _ _ = a2
    have hz_a2 : a2.tmps.size = 59 := by rw [← hA]; simp only [size_put, hz_a1]
    have v1 : a2.eval (.tmp 1) = .pointer (some ⟨b3, 0, none⟩) := by rw [← hA]; exact (by simp [u1])
    have hd_a2 : a2.defers = [] := by rw [← hA]; simp only [defers_put, hd_a1]
    clear hA
    by_cases h0 : s.rd.length = 0
    · have hh : headOk s.rd.length s.width s.step = false := by
        rw [Bool.eq_false_iff]
        intro h
        have := headOk_iff.1 h
        omega
      refine wpIn_seq (wpIn_seq (region_p 16 ?_))
      intro K hK
      refine ListK.field (i := 0) (u := .pointer (some ⟨b3, 0, none⟩)) (v := .pointer (some ⟨b3, 2, none⟩)) rfl (by simp [v1]) (fa24_2 _) ?_
      refine ListK.load (i := 1) (p := ⟨b3, 2, none⟩) (v := .slice A s.rd.length c) rfl (by simp [hz_a2]) (ld22 (wb.cell 2)) ?_
      refine ListK.len (i := 2) (u := .slice A s.rd.length c) (v := .int .i64 s.rd.length) rfl (by simp [hz_a2]) (ln22 _ _ _ _ _) rfl ?_
      refine ListK.bin (i := 3) (u := .int .i64 s.rd.length) (u' := .int .i64 0) (v := .bool true) rfl (by simp [hz_a2]) (by simp) (eql3T (by omega) _) ?_
      refine ListK.move (i := 4) (v := .bool true) rfl (by simp [hz_a2]) ?_
      refine ListK.passG (i := 5) (e := 12) (b' := true) rfl rfl (by simp [hz_a2]) rfl ?_
      refine ListK.passG (i := 6) (e := 12) (b' := true) rfl rfl (by simp [hz_a2]) rfl ?_
      refine ListK.passG (i := 7) (e := 12) (b' := true) rfl rfl (by simp [hz_a2]) rfl ?_
      refine ListK.passG (i := 8) (e := 12) (b' := true) rfl rfl (by simp [hz_a2]) rfl ?_
      refine ListK.pick (i := 9) (b := true) (v := .bool true) rfl (by simp [hz_a2]) (by simp) ?_
      refine ListK.move (i := 10) (v := .bool true) rfl (by simp [hz_a2]) ?_
      refine ListK.passG (i := 11) (e := 18) (b' := true) rfl rfl (by simp [hz_a2]) rfl ?_
      refine ListK.passG (i := 12) (e := 18) (b' := true) rfl rfl (by simp [hz_a2]) rfl ?_
      refine ListK.passG (i := 13) (e := 18) (b' := true) rfl rfl (by simp [hz_a2]) rfl ?_
      refine ListK.passG (i := 14) (e := 18) (b' := true) rfl rfl (by simp [hz_a2]) rfl ?_
      refine ListK.pick (i := 15) (b := true) (v := .bool true) rfl (by simp [hz_a2]) (by simp) ?_
      refine ListK.done (hK _ _ ?_)
      clear hK K
      refine wpIn_cond (t := true) (by simp [hz_a2]) ?_
      refine wpIn_seq (region_p 1 ?_)
      intro K hK
      refine ListK.assign (i := 0) (v := .int .i64 1) rfl (by simp) ?_
      refine ListK.done (hK _ _ (wpIn_ret ?_))
      exact hret _ _ 1 (fault_arg h8 (.inl hh)).symm (by simp only [defers_put, hd_a2]) (by simp [hz_a2]) hB
    · by_cases hw : inR s.width 2 8 = true
      · by_cases hst : inR s.step 1 9 = true
        · have hwi := inR_iff.1 hw
          have hsti := inR_iff.1 hst
          have hh : headOk s.rd.length s.width s.step = true := headOk_iff.2 ⟨⟨by omega, by omega⟩, hwi, hsti⟩
          have hIw := refIn_any s.width 2 8
          rw [hw] at hIw
          have hIs := refIn_any s.step 1 9
          rw [hst] at hIs
          refine wpIn_seq (wpIn_seq (region_p 16 ?_))
          intro K hK
          refine ListK.field (i := 0) (u := .pointer (some ⟨b3, 0, none⟩)) (v := .pointer (some ⟨b3, 2, none⟩)) rfl (by simp [v1]) (fa24_2 _) ?_
          refine ListK.load (i := 1) (p := ⟨b3, 2, none⟩) (v := .slice A s.rd.length c) rfl (by simp [hz_a2]) (ld22 (wb.cell 2)) ?_
          refine ListK.len (i := 2) (u := .slice A s.rd.length c) (v := .int .i64 s.rd.length) rfl (by simp [hz_a2]) (ln22 _ _ _ _ _) rfl ?_
          refine ListK.bin (i := 3) (u := .int .i64 s.rd.length) (u' := .int .i64 0) (v := .bool false) rfl (by simp [hz_a2]) (by simp) (eql3F (by omega) _) ?_
          refine ListK.move (i := 4) (v := .bool false) rfl (by simp [hz_a2]) ?_
          refine ListK.field (i := 5) (u := .pointer (some ⟨b3, 0, none⟩)) (v := .pointer (some ⟨b3, 0, none⟩)) rfl (by simp [v1]) (fa24_0 _) ?_ (hw := wanted_g (e := 12) (b' := false) rfl (by simp [hz_a2]) rfl)
          refine ListK.load (i := 6) (p := ⟨b3, 0, none⟩) (v := .int .i64 s.width) rfl (by simp [hz_a2]) (ld3 (wb.cell 0)) ?_ (hw := wanted_g (e := 12) (b' := false) rfl (by simp [hz_a2]) rfl)
          refine ListK.call (i := 7) (vs := #[.int .i64 s.width, .int .i64 2, .int .i64 8]) rfl (enters_of Try.func63 (by kernel_rfl) rfl) (by simp [hz_a2]) ((hIw W1).mono ?_) (hw := wanted_g (e := 12) (b' := false) rfl (by simp [hz_a2]) rfl)
          rintro _ _ ⟨rfl, rfl⟩
          refine ⟨_, rfl, ?_⟩
          refine ListK.un (i := 8) (u := .bool true) (v := .bool false) rfl (by simp [hz_a2]) (not4 _ _) ?_ (hw := wanted_g (e := 12) (b' := false) rfl (by simp [hz_a2]) rfl)
          refine ListK.pick (i := 9) (b := false) (v := .bool false) rfl (by simp [hz_a2]) (by simp [hz_a2]) ?_
          refine ListK.move (i := 10) (v := .bool false) rfl (by simp [hz_a2]) ?_
          refine ListK.field (i := 11) (u := .pointer (some ⟨b3, 0, none⟩)) (v := .pointer (some ⟨b3, 1, none⟩)) rfl (by simp [v1]) (fa24_1 _) ?_ (hw := wanted_g (e := 18) (b' := false) rfl (by simp [hz_a2]) rfl)
          refine ListK.load (i := 12) (p := ⟨b3, 1, none⟩) (v := .int .i64 s.step) rfl (by simp [hz_a2]) (ld3 (wb.cell 1)) ?_ (hw := wanted_g (e := 18) (b' := false) rfl (by simp [hz_a2]) rfl)
          refine ListK.call (i := 13) (vs := #[.int .i64 s.step, .int .i64 1, .int .i64 9]) rfl (enters_of Try.func63 (by kernel_rfl) rfl) (by simp [hz_a2]) ((hIs W1).mono ?_) (hw := wanted_g (e := 18) (b' := false) rfl (by simp [hz_a2]) rfl)
          rintro _ _ ⟨rfl, rfl⟩
          refine ⟨_, rfl, ?_⟩
          refine ListK.un (i := 14) (u := .bool true) (v := .bool false) rfl (by simp [hz_a2]) (not4 _ _) ?_ (hw := wanted_g (e := 18) (b' := false) rfl (by simp [hz_a2]) rfl)
          refine ListK.pick (i := 15) (b := false) (v := .bool false) rfl (by simp [hz_a2]) (by simp [hz_a2]) ?_
          refine ListK.done (hK _ _ ?_)
          clear hK K
          refine wpIn_cond (t := false) (by simp [hz_a2]) (wpIn_skip ?_)
          generalize hA : Act.put _ _ _ = a3
          have hz_a3 : a3.tmps.size = 59 := by rw [← hA]; simp only [size_put, hz_a2]
          have q1 : a3.eval (.tmp 1) = .pointer (some ⟨b3, 0, none⟩) := by rw [← hA]; exact (by simp [v1])
          have hd_a3 : a3.defers = [] := by rw [← hA]; simp only [defers_put, hd_a2]
          clear hA
          refine wpIn_seq (wpIn_seq (region_p 1 ?_))
          intro K hK
          refine ListK.assign (i := 0) (v := .int .i64 0) rfl (by simp) ?_
          refine ListK.done (hK _ _ ?_)
          clear hK K
          generalize hA : Act.put _ _ _ = a4
          have hz_a4 : a4.tmps.size = 59 := by rw [← hA]; simp only [size_put, hz_a3]
          have r1 : a4.eval (.tmp 1) = .pointer (some ⟨b3, 0, none⟩) := by rw [← hA]; exact (by simp [q1])
          have r3 : a4.eval (.tmp 3) = .int .i64 0 := by rw [← hA]; exact (by simp [hz_a3])
          have hd_a4 : a4.defers = [] := by rw [← hA]; simp only [defers_put, hd_a3]
          clear hA
          refine wpIn_block (wpIn_loop (fun a W' => ∃ q : Nat, q ≤ s.rd.length ∧ (∀ j x, j < q → s.rd[j]? = some x → 0 ≤ x ∧ x ≤ 99) ∧ nearTo s.step s.rd q ∧ Below W1.heap.size W1 W' ∧ a.tmps.size = 59 ∧ a.defers = [] ∧ a.eval (.tmp 1) = ptr b3 ∧ a.eval (.tmp 3) = .int .i64 (q : Int)) (fun a _ => s.rd.length - (intOf (a.eval (.tmp 3))).toNat)
            ⟨0, Nat.zero_le _, fun j x hj => absurd hj (Nat.not_lt_zero _), fun j _ _ hj => by omega, Below.refl _ _, hz_a4, hd_a4, r1, r3⟩ ?_)
          rintro b1 W2 ⟨q, hq, hin, hnr, hb2, hz_b1, hd_b1, s1, s3⟩
          unfold ft_l
          have wb2 := wb.below hb2 wb.lt
          have hB2 := hB.trans (hb2.mono (by omega))
          by_cases hql : q < s.rd.length
          · skip
            refine wpIn_seq (wpIn_seq (region_p 5 ?_))
            intro K hK
            refine ListK.move (i := 0) (v := .int .i64 (q : Int)) rfl (by simp [s3]) ?_
            refine ListK.field (i := 1) (u := .pointer (some ⟨b3, 0, none⟩)) (v := .pointer (some ⟨b3, 2, none⟩)) rfl (by simp [s1]) (fa24_2 _) ?_
            refine ListK.load (i := 2) (p := ⟨b3, 2, none⟩) (v := .slice A s.rd.length c) rfl (by simp [hz_b1]) (ld22 (wb2.cell 2)) ?_
            refine ListK.len (i := 3) (u := .slice A s.rd.length c) (v := .int .i64 s.rd.length) rfl (by simp [hz_b1]) (ln22 _ _ _ _ _) rfl ?_
            refine ListK.bin (i := 4) (u := .int .i64 (q : Int)) (u' := .int .i64 s.rd.length) (v := .bool true) rfl (by simp [hz_b1]) (by simp [hz_b1]) (lssT3 (by omega) _) ?_
            refine ListK.done (hK _ _ ?_)
            clear hK K
            refine wpIn_cond (t := true) (by simp [hz_b1]) (wpIn_skip ?_)
            generalize hA : Act.put _ _ _ = b2
            have hz_b2 : b2.tmps.size = 59 := by rw [← hA]; simp only [size_put, hz_b1]
            have o1 : b2.eval (.tmp 1) = .pointer (some ⟨b3, 0, none⟩) := by rw [← hA]; exact (by simp [s1])
            have o3 : b2.eval (.tmp 3) = .int .i64 (q : Int) := by rw [← hA]; exact (by simp [s3])
            have hd_b2 : b2.defers = [] := by rw [← hA]; simp only [defers_put, hd_b1]
            clear hA
            refine wpIn_seq (wpIn_block ?_)
            have hx := List.getElem?_eq_getElem hql
            obtain ⟨x, hxv⟩ : ∃ x, x = s.rd[q] := ⟨_, rfl⟩
            rw [← hxv] at hx
            have hs2 : IntsAt W2 b3 A s.rd := hs.below hb2 (by omega)
            obtain ⟨gb, off, rfl, hgb, hcx⟩ := hs2 q x hx
            have hsz2 := hb2.size
            have hbd := (Below.refl W2.heap.size W2).drew
            cases hxin : inR x 0 99 with
            | false =>
              have hall : s.rd.all okR = false := List.all_eq_false.2 ⟨x, List.mem_of_getElem? hx, by simpa [okR] using hxin⟩
              refine wpIn_seq (region_K (KpR (fun w : World => Whole w b3 24 #[.int .i64 s.width, .int .i64 s.step, .slice (some ⟨gb, off, none⟩) s.rd.length c] ∧ w.cell? ⟨gb, off + q, none⟩ = some (.int .i64 x)) (fun _ => false)) (wideF_plain _) (by kernel_rfl) Try.mixed ?_)
              change AnyK _ _ _ _ 28 (Array.replicate 28 false) _ _
              have hR : (fun w : World => Whole w b3 24 #[.int .i64 s.width, .int .i64 s.step, .slice (some ⟨gb, off, none⟩) s.rd.length c] ∧ w.cell? ⟨gb, off + q, none⟩ = some (.int .i64 x)) W2.drew := ⟨wb2.below hbd wb2.lt, hcx⟩
              refine AnyK.field (i := 0) may_o (u := .pointer (some ⟨b3, 0, none⟩)) (v := .pointer (some ⟨b3, 2, none⟩)) (by simp [o1]) (fun w => fa24_2 w) hR ?_
              refine AnyK.load (i := 1) may_o (p := ⟨b3, 2, none⟩) (v := .slice (some ⟨gb, off, none⟩) s.rd.length c) (by simp [hz_b2]) (fun w hw => ld22 (hw.1.cell 2)) hR ?_
              refine AnyK.move (i := 2) may_o (v := .int .i64 (q : Int)) (by simp [o3]) hR ?_
              refine AnyK.index (i := 3) may_o (u := .slice (some ⟨gb, off, none⟩) s.rd.length c) (u' := .int .i64 (q : Int)) (v := .pointer (some ⟨gb, off + q, none⟩)) (by simp [hz_b2]) (by simp [hz_b2]) (fun w => ix22 hql w) hR ?_
              refine AnyK.load (i := 4) may_o (p := ⟨gb, off + q, none⟩) (v := .int .i64 x) (by simp [hz_b2]) (fun w hw => ld3 hw.2) hR ?_
              refine AnyK.pick1 (i := 5) (by kernel_rfl) ?_
              have hIx := refIn_any x 0 99 W2.drew
              rw [hxin] at hIx
              refine StepK.call (i := 5) (f := 63) (vs := #[.int .i64 x, .int .i64 0, .int .i64 99]) rfl (enters_of Try.func63 (by kernel_rfl) rfl) rfl (by simp [hz_b2]) (hIx.mono ?_)
              rintro _ _ ⟨rfl, rfl⟩
              refine ⟨_, rfl, fun _ _ => hR, ?_⟩
              refine AnyK.un (i := 6) may_o (u := .bool false) (v := .bool true) (by simp [hz_b2]) (fun w => not4 _ w) hR ?_
              refine AnyK.move (i := 7) may_o (v := .bool true) (by simp [hz_b2]) hR ?_
              refine AnyK.passG (i := 8) may_o (e := 38) (b' := true) rfl (by simp [hz_b2]) rfl hR ?_
              refine AnyK.passG (i := 9) may_o (e := 38) (b' := true) rfl (by simp [hz_b2]) rfl hR ?_
              refine AnyK.passG (i := 10) may_o (e := 38) (b' := true) rfl (by simp [hz_b2]) rfl hR ?_
              refine AnyK.passU (i := 11) may_o (e := 41) rfl (by simp [hz_b2]) hR ?_
              refine AnyK.passU (i := 12) may_o (e := 41) rfl (by simp [hz_b2]) hR ?_
              refine AnyK.passU (i := 13) may_o (e := 41) rfl (by simp [hz_b2]) hR ?_
              refine AnyK.passU (i := 14) may_o (e := 41) rfl (by simp [hz_b2]) hR ?_
              refine AnyK.passU (i := 15) may_o (e := 41) rfl (by simp [hz_b2]) hR ?_
              refine AnyK.passU (i := 16) may_o (e := 41) rfl (by simp [hz_b2]) hR ?_
              refine AnyK.passU (i := 17) may_o (e := 41) rfl (by simp [hz_b2]) hR ?_
              refine AnyK.passU (i := 18) may_o (e := 41) rfl (by simp [hz_b2]) hR ?_
              refine AnyK.passU (i := 19) may_o (e := 41) rfl (by simp [hz_b2]) hR ?_
              refine AnyK.passU (i := 20) may_o (e := 41) rfl (by simp [hz_b2]) hR ?_
              refine AnyK.passU (i := 21) may_o (e := 41) rfl (by simp [hz_b2]) hR ?_
              refine AnyK.passU (i := 22) may_o (e := 41) rfl (by simp [hz_b2]) hR ?_
              refine AnyK.passU (i := 23) may_o (e := 41) rfl (by simp [hz_b2]) hR ?_
              refine AnyK.passU (i := 24) may_o (e := 41) rfl (by simp [hz_b2]) hR ?_
              refine AnyK.passU (i := 25) may_o (e := 41) rfl (by simp [hz_b2]) hR ?_
              refine AnyK.passG (i := 26) may_o (e := 38) (b' := true) rfl (by simp [hz_b2]) rfl hR ?_
              refine AnyK.pick (i := 27) may_o (b := true) (v := .bool true) (by simp [hz_b2]) (by simp) hR ?_
              refine AnyK.done (by kernel_rfl) ?_
              refine wpIn_cond (t := true) (by simp [hz_b2]) ?_
              refine wpIn_seq (region_p 1 ?_)
              intro K hK
              refine ListK.assign (i := 0) (v := .int .i64 1) rfl (by simp) ?_
              refine ListK.done (hK _ _ (wpIn_ret ?_))
              exact hret _ _ 1 (fault_arg h8 (.inr (.inl hall))).symm (by simp only [defers_put, hd_b2]) (by simp [hz_b2]) (hB2.trans (hbd.mono (by omega)))
            | true =>
              have hx99 := inR_iff.1 hxin
              have hin1 : ∀ j y, j < q + 1 → s.rd[j]? = some y → 0 ≤ y ∧ y ≤ 99 := by
                intro j y hj hy
                by_cases e : j = q
                · subst e
                  rw [hx] at hy
                  cases hy
                  exact hx99
                · exact hin j y (by omega) hy
              by_cases hq0 : q = 0
              · skip
                refine wpIn_seq (region_K (KpR (fun w : World => Whole w b3 24 #[.int .i64 s.width, .int .i64 s.step, .slice (some ⟨gb, off, none⟩) s.rd.length c] ∧ w.cell? ⟨gb, off + q, none⟩ = some (.int .i64 x)) (fun _ => false)) (wideF_plain _) (by kernel_rfl) Try.mixed ?_)
                change AnyK _ _ _ _ 28 (Array.replicate 28 false) _ _
                have hR : (fun w : World => Whole w b3 24 #[.int .i64 s.width, .int .i64 s.step, .slice (some ⟨gb, off, none⟩) s.rd.length c] ∧ w.cell? ⟨gb, off + q, none⟩ = some (.int .i64 x)) W2.drew := ⟨wb2.below hbd wb2.lt, hcx⟩
                refine AnyK.field (i := 0) may_o (u := .pointer (some ⟨b3, 0, none⟩)) (v := .pointer (some ⟨b3, 2, none⟩)) (by simp [o1]) (fun w => fa24_2 w) hR ?_
                refine AnyK.load (i := 1) may_o (p := ⟨b3, 2, none⟩) (v := .slice (some ⟨gb, off, none⟩) s.rd.length c) (by simp [hz_b2]) (fun w hw => ld22 (hw.1.cell 2)) hR ?_
                refine AnyK.move (i := 2) may_o (v := .int .i64 (q : Int)) (by simp [o3]) hR ?_
                refine AnyK.index (i := 3) may_o (u := .slice (some ⟨gb, off, none⟩) s.rd.length c) (u' := .int .i64 (q : Int)) (v := .pointer (some ⟨gb, off + q, none⟩)) (by simp [hz_b2]) (by simp [hz_b2]) (fun w => ix22 hql w) hR ?_
                refine AnyK.load (i := 4) may_o (p := ⟨gb, off + q, none⟩) (v := .int .i64 x) (by simp [hz_b2]) (fun w hw => ld3 hw.2) hR ?_
                refine AnyK.pick1 (i := 5) (by kernel_rfl) ?_
                have hIx := refIn_any x 0 99 W2.drew
                rw [hxin] at hIx
                refine StepK.call (i := 5) (f := 63) (vs := #[.int .i64 x, .int .i64 0, .int .i64 99]) rfl (enters_of Try.func63 (by kernel_rfl) rfl) rfl (by simp [hz_b2]) (hIx.mono ?_)
                rintro _ _ ⟨rfl, rfl⟩
                refine ⟨_, rfl, fun _ _ => hR, ?_⟩
                refine AnyK.un (i := 6) may_o (u := .bool true) (v := .bool false) (by simp [hz_b2]) (fun w => not4 _ w) hR ?_
                refine AnyK.move (i := 7) may_o (v := .bool false) (by simp [hz_b2]) hR ?_
                refine AnyK.move (i := 8) may_o (v := .int .i64 (q : Int)) (by simp [o3]) hR (hw := (by exact wanted_g (e := 38) (b' := false) rfl (by simp [hz_b2]) rfl)) ?_
                refine AnyK.bin (i := 9) may_o (u := .int .i64 (q : Int)) (u' := .int .i64 (0)) (v := .bool false) (by simp [hz_b2]) (by simp) (fun w => gtrF3 (by omega) w) hR (hw := (by exact wanted_g (e := 38) (b' := false) rfl (by simp [hz_b2]) rfl)) ?_
                refine AnyK.move (i := 10) may_o (v := .bool false) (by simp [hz_b2]) hR (hw := (by exact wanted_g (e := 38) (b' := false) rfl (by simp [hz_b2]) rfl)) ?_
                refine AnyK.passG (i := 11) may_o (e := 41) (b' := false) rfl (by simp [hz_b2]) rfl hR ?_
                refine AnyK.passG (i := 12) may_o (e := 41) (b' := false) rfl (by simp [hz_b2]) rfl hR ?_
                refine AnyK.passG (i := 13) may_o (e := 41) (b' := false) rfl (by simp [hz_b2]) rfl hR ?_
                refine AnyK.passG (i := 14) may_o (e := 41) (b' := false) rfl (by simp [hz_b2]) rfl hR ?_
                refine AnyK.passG (i := 15) may_o (e := 41) (b' := false) rfl (by simp [hz_b2]) rfl hR ?_
                refine AnyK.passG (i := 16) may_o (e := 41) (b' := false) rfl (by simp [hz_b2]) rfl hR ?_
                refine AnyK.passG (i := 17) may_o (e := 41) (b' := false) rfl (by simp [hz_b2]) rfl hR ?_
                refine AnyK.passG (i := 18) may_o (e := 41) (b' := false) rfl (by simp [hz_b2]) rfl hR ?_
                refine AnyK.passG (i := 19) may_o (e := 41) (b' := false) rfl (by simp [hz_b2]) rfl hR ?_
                refine AnyK.passG (i := 20) may_o (e := 41) (b' := false) rfl (by simp [hz_b2]) rfl hR ?_
                refine AnyK.passG (i := 21) may_o (e := 41) (b' := false) rfl (by simp [hz_b2]) rfl hR ?_
                refine AnyK.passG (i := 22) may_o (e := 41) (b' := false) rfl (by simp [hz_b2]) rfl hR ?_
                refine AnyK.passG (i := 23) may_o (e := 41) (b' := false) rfl (by simp [hz_b2]) rfl hR ?_
                refine AnyK.passG (i := 24) may_o (e := 41) (b' := false) rfl (by simp [hz_b2]) rfl hR ?_
                refine AnyK.passG (i := 25) may_o (e := 41) (b' := false) rfl (by simp [hz_b2]) rfl hR ?_
                refine AnyK.pick (i := 26) may_o (b := false) (v := .bool false) (by simp [hz_b2]) (by simp) hR (hw := (by exact wanted_g (e := 38) (b' := false) rfl (by simp [hz_b2]) rfl)) ?_
                refine AnyK.pick (i := 27) may_o (b := false) (v := .bool false) (by simp [hz_b2]) (by simp [hz_b2]) hR ?_
                refine AnyK.done (by kernel_rfl) ?_
                refine wpIn_cond (t := false) (by simp [hz_b2]) (wpIn_skip ?_)
                generalize hA : Act.put _ _ _ = b4
                have hz_b4 : b4.tmps.size = 59 := by rw [← hA]; simp only [size_put, hz_b2]
                have p1 : b4.eval (.tmp 1) = .pointer (some ⟨b3, 0, none⟩) := by rw [← hA]; exact (by simp [o1])
                have p3 : b4.eval (.tmp 3) = .int .i64 (q : Int) := by rw [← hA]; exact (by simp [o3])
                have hd_b4 : b4.defers = [] := by rw [← hA]; simp only [defers_put, hd_b2]
                clear hA
                refine region_p 3 ?_
                intro K hK
                refine ListK.move (i := 0) (v := .int .i64 (q : Int)) rfl (by simp [p3]) ?_
                refine ListK.bin (i := 1) (u := .int .i64 (q : Int)) (u' := .int .i64 1) (v := .int .i64 ((q + 1 : Nat) : Int)) rfl (by simp [hz_b4]) (by simp) (add3 (by omega) (by omega) _) ?_
                refine ListK.assign (i := 2) (v := .int .i64 ((q + 1 : Nat) : Int)) rfl (by simp [hz_b4]) ?_
                refine ListK.done (hK _ _ ?_)
                clear hK K
                refine ⟨⟨q + 1, by omega, hin1, (fun j a b hj => by omega), (hb2.trans (hbd.mono (by omega))), (by simp only [size_put, hz_b4]), (by simp only [defers_put, hd_b4]), (by simp [p1]), (by simp [hz_b4])⟩, ?_⟩
                rw [s3, show (Act.put _ _ _).eval (.tmp 3) = .int .i64 ((q + 1 : Nat) : Int) from (by simp [hz_b4])]
                simp only [intOf]
                omega
              · obtain ⟨y, hy⟩ : ∃ y, s.rd[q - 1]? = some y := ⟨_, List.getElem?_eq_getElem (by omega)⟩
                have hy99 := hin (q - 1) y (by omega) hy
                obtain ⟨gb', off', hA', hgb', hcy⟩ := hs2 (q - 1) y hy
                cases hA'
                cases hnb : nearB x y s.step with
                | false =>
                  have hnl : nearL s.step s.rd = false := by
                    rw [Bool.eq_false_iff]
                    intro h
                    have h1 := (nearL_iff _ _).1 h (q - 1) y x (by omega) hy (by rw [show q - 1 + 1 = q by omega]; exact hx)
                    rw [hnb] at h1
                    cases h1
                  refine wpIn_seq (region_K (KpR (fun w : World => (Whole w b3 24 #[.int .i64 s.width, .int .i64 s.step, .slice (some ⟨gb, off, none⟩) s.rd.length c] ∧ w.cell? ⟨gb, off + q, none⟩ = some (.int .i64 x)) ∧ w.cell? ⟨gb, off + (q - 1), none⟩ = some (.int .i64 y)) (fun _ => false)) (wideF_plain _) (by kernel_rfl) Try.mixed ?_)
                  change AnyK _ _ _ _ 28 (Array.replicate 28 false) _ _
                  have hR : (fun w : World => (Whole w b3 24 #[.int .i64 s.width, .int .i64 s.step, .slice (some ⟨gb, off, none⟩) s.rd.length c] ∧ w.cell? ⟨gb, off + q, none⟩ = some (.int .i64 x)) ∧ w.cell? ⟨gb, off + (q - 1), none⟩ = some (.int .i64 y)) W2.drew := ⟨⟨wb2.below hbd wb2.lt, hcx⟩, hcy⟩
                  refine AnyK.field (i := 0) may_o (u := .pointer (some ⟨b3, 0, none⟩)) (v := .pointer (some ⟨b3, 2, none⟩)) (by simp [o1]) (fun w => fa24_2 w) hR ?_
                  refine AnyK.load (i := 1) may_o (p := ⟨b3, 2, none⟩) (v := .slice (some ⟨gb, off, none⟩) s.rd.length c) (by simp [hz_b2]) (fun w hw => ld22 (hw.1.1.cell 2)) hR ?_
                  refine AnyK.move (i := 2) may_o (v := .int .i64 (q : Int)) (by simp [o3]) hR ?_
                  refine AnyK.index (i := 3) may_o (u := .slice (some ⟨gb, off, none⟩) s.rd.length c) (u' := .int .i64 (q : Int)) (v := .pointer (some ⟨gb, off + q, none⟩)) (by simp [hz_b2]) (by simp [hz_b2]) (fun w => ix22 hql w) hR ?_
                  refine AnyK.load (i := 4) may_o (p := ⟨gb, off + q, none⟩) (v := .int .i64 x) (by simp [hz_b2]) (fun w hw => ld3 hw.1.2) hR ?_
                  refine AnyK.pick1 (i := 5) (by kernel_rfl) ?_
                  have hIx := refIn_any x 0 99 W2.drew
                  rw [hxin] at hIx
                  refine StepK.call (i := 5) (f := 63) (vs := #[.int .i64 x, .int .i64 0, .int .i64 99]) rfl (enters_of Try.func63 (by kernel_rfl) rfl) rfl (by simp [hz_b2]) (hIx.mono ?_)
                  rintro _ _ ⟨rfl, rfl⟩
                  refine ⟨_, rfl, fun _ _ => hR, ?_⟩
                  refine AnyK.un (i := 6) may_o (u := .bool true) (v := .bool false) (by simp [hz_b2]) (fun w => not4 _ w) hR ?_
                  refine AnyK.move (i := 7) may_o (v := .bool false) (by simp [hz_b2]) hR ?_
                  refine AnyK.move (i := 8) may_o (v := .int .i64 (q : Int)) (by simp [o3]) hR (hw := (by exact wanted_g (e := 38) (b' := false) rfl (by simp [hz_b2]) rfl)) ?_
                  refine AnyK.bin (i := 9) may_o (u := .int .i64 (q : Int)) (u' := .int .i64 (0)) (v := .bool true) (by simp [hz_b2]) (by simp) (fun w => gtrT3 (by omega) w) hR (hw := (by exact wanted_g (e := 38) (b' := false) rfl (by simp [hz_b2]) rfl)) ?_
                  refine AnyK.move (i := 10) may_o (v := .bool true) (by simp [hz_b2]) hR (hw := (by exact wanted_g (e := 38) (b' := false) rfl (by simp [hz_b2]) rfl)) ?_
                  refine AnyK.field (i := 11) may_o (u := .pointer (some ⟨b3, 0, none⟩)) (v := .pointer (some ⟨b3, 2, none⟩)) (by simp [o1]) (fun w => fa24_2 w) hR (hw := (by exact wanted_g (e := 41) (b' := true) rfl (by simp [hz_b2]) rfl)) ?_
                  refine AnyK.load (i := 12) may_o (p := ⟨b3, 2, none⟩) (v := .slice (some ⟨gb, off, none⟩) s.rd.length c) (by simp [hz_b2]) (fun w hw => ld22 (hw.1.1.cell 2)) hR (hw := (by exact wanted_g (e := 41) (b' := true) rfl (by simp [hz_b2]) rfl)) ?_
                  refine AnyK.move (i := 13) may_o (v := .int .i64 (q : Int)) (by simp [o3]) hR (hw := (by exact wanted_g (e := 41) (b' := true) rfl (by simp [hz_b2]) rfl)) ?_
                  refine AnyK.index (i := 14) may_o (u := .slice (some ⟨gb, off, none⟩) s.rd.length c) (u' := .int .i64 (q : Int)) (v := .pointer (some ⟨gb, off + q, none⟩)) (by simp [hz_b2]) (by simp [hz_b2]) (fun w => ix22 hql w) hR (hw := (by exact wanted_g (e := 41) (b' := true) rfl (by simp [hz_b2]) rfl)) ?_
                  refine AnyK.load (i := 15) may_o (p := ⟨gb, off + q, none⟩) (v := .int .i64 x) (by simp [hz_b2]) (fun w hw => ld3 hw.1.2) hR (hw := (by exact wanted_g (e := 41) (b' := true) rfl (by simp [hz_b2]) rfl)) ?_
                  refine AnyK.field (i := 16) may_o (u := .pointer (some ⟨b3, 0, none⟩)) (v := .pointer (some ⟨b3, 2, none⟩)) (by simp [o1]) (fun w => fa24_2 w) hR (hw := (by exact wanted_g (e := 41) (b' := true) rfl (by simp [hz_b2]) rfl)) ?_
                  refine AnyK.load (i := 17) may_o (p := ⟨b3, 2, none⟩) (v := .slice (some ⟨gb, off, none⟩) s.rd.length c) (by simp [hz_b2]) (fun w hw => ld22 (hw.1.1.cell 2)) hR (hw := (by exact wanted_g (e := 41) (b' := true) rfl (by simp [hz_b2]) rfl)) ?_
                  refine AnyK.move (i := 18) may_o (v := .int .i64 (q : Int)) (by simp [o3]) hR (hw := (by exact wanted_g (e := 41) (b' := true) rfl (by simp [hz_b2]) rfl)) ?_
                  refine AnyK.bin (i := 19) may_o (u := .int .i64 (q : Int)) (u' := .int .i64 (1)) (v := .int .i64 ((q - 1 : Nat) : Int)) (by simp [hz_b2]) (by simp) (fun w => by rw [show ((q - 1 : Nat) : Int) = (q : Int) - 1 by omega]; exact sub3 (by omega) (by omega) w) hR (hw := (by exact wanted_g (e := 41) (b' := true) rfl (by simp [hz_b2]) rfl)) ?_
                  refine AnyK.index (i := 20) may_o (u := .slice (some ⟨gb, off, none⟩) s.rd.length c) (u' := .int .i64 ((q - 1 : Nat) : Int)) (v := .pointer (some ⟨gb, off + (q - 1), none⟩)) (by simp [hz_b2]) (by simp [hz_b2]) (fun w => ix22 (show q - 1 < s.rd.length by omega) w) hR (hw := (by exact wanted_g (e := 41) (b' := true) rfl (by simp [hz_b2]) rfl)) ?_
                  refine AnyK.load (i := 21) may_o (p := ⟨gb, off + (q - 1), none⟩) (v := .int .i64 y) (by simp [hz_b2]) (fun w hw => ld3 hw.2) hR (hw := (by exact wanted_g (e := 41) (b' := true) rfl (by simp [hz_b2]) rfl)) ?_
                  refine AnyK.field (i := 22) may_o (u := .pointer (some ⟨b3, 0, none⟩)) (v := .pointer (some ⟨b3, 1, none⟩)) (by simp [o1]) (fun w => fa24_1 w) hR (hw := (by exact wanted_g (e := 41) (b' := true) rfl (by simp [hz_b2]) rfl)) ?_
                  refine AnyK.load (i := 23) may_o (p := ⟨b3, 1, none⟩) (v := .int .i64 s.step) (by simp [hz_b2]) (fun w hw => ld3 (hw.1.1.cell 1)) hR (hw := (by exact wanted_g (e := 41) (b' := true) rfl (by simp [hz_b2]) rfl)) ?_
                  refine AnyK.pick1 (i := 24) (by kernel_rfl) ?_
                  have hNx := refNear_any x y s.step W2.drew (by omega) (by omega) (by omega) (by omega) (by omega) (by omega)
                  rw [hnb] at hNx
                  refine StepK.call (i := 24) (f := 64) (vs := #[.int .i64 x, .int .i64 y, .int .i64 s.step]) rfl (enters_of Try.func64 (by kernel_rfl) rfl) rfl (by simp [hz_b2]) (hNx.mono ?_) (hw := wanted_g (e := 41) (b' := true) rfl (by simp [hz_b2]) rfl)
                  rintro _ _ ⟨rfl, rfl⟩
                  refine ⟨_, rfl, fun _ _ => hR, ?_⟩
                  refine AnyK.un (i := 25) may_o (u := .bool false) (v := .bool true) (by simp [hz_b2]) (fun w => not4 _ w) hR (hw := (by exact wanted_g (e := 41) (b' := true) rfl (by simp [hz_b2]) rfl)) ?_
                  refine AnyK.pick (i := 26) may_o (b := true) (v := .bool true) (by simp [hz_b2]) (by simp [hz_b2]) hR (hw := (by exact wanted_g (e := 38) (b' := false) rfl (by simp [hz_b2]) rfl)) ?_
                  refine AnyK.pick (i := 27) may_o (b := false) (v := .bool true) (by simp [hz_b2]) (by simp [hz_b2]) hR ?_
                  refine AnyK.done (by kernel_rfl) ?_
                  refine wpIn_cond (t := true) (by simp [hz_b2]) ?_
                  refine wpIn_seq (region_p 1 ?_)
                  intro K hK
                  refine ListK.assign (i := 0) (v := .int .i64 1) rfl (by simp) ?_
                  refine ListK.done (hK _ _ (wpIn_ret ?_))
                  exact hret _ _ 1 (fault_arg h8 (.inr (.inr hnl))).symm (by simp only [defers_put, hd_b2]) (by simp [hz_b2]) (hB2.trans (hbd.mono (by omega)))
                | true =>
                  refine wpIn_seq (region_K (KpR (fun w : World => (Whole w b3 24 #[.int .i64 s.width, .int .i64 s.step, .slice (some ⟨gb, off, none⟩) s.rd.length c] ∧ w.cell? ⟨gb, off + q, none⟩ = some (.int .i64 x)) ∧ w.cell? ⟨gb, off + (q - 1), none⟩ = some (.int .i64 y)) (fun _ => false)) (wideF_plain _) (by kernel_rfl) Try.mixed ?_)
                  change AnyK _ _ _ _ 28 (Array.replicate 28 false) _ _
                  have hR : (fun w : World => (Whole w b3 24 #[.int .i64 s.width, .int .i64 s.step, .slice (some ⟨gb, off, none⟩) s.rd.length c] ∧ w.cell? ⟨gb, off + q, none⟩ = some (.int .i64 x)) ∧ w.cell? ⟨gb, off + (q - 1), none⟩ = some (.int .i64 y)) W2.drew := ⟨⟨wb2.below hbd wb2.lt, hcx⟩, hcy⟩
                  refine AnyK.field (i := 0) may_o (u := .pointer (some ⟨b3, 0, none⟩)) (v := .pointer (some ⟨b3, 2, none⟩)) (by simp [o1]) (fun w => fa24_2 w) hR ?_
                  refine AnyK.load (i := 1) may_o (p := ⟨b3, 2, none⟩) (v := .slice (some ⟨gb, off, none⟩) s.rd.length c) (by simp [hz_b2]) (fun w hw => ld22 (hw.1.1.cell 2)) hR ?_
                  refine AnyK.move (i := 2) may_o (v := .int .i64 (q : Int)) (by simp [o3]) hR ?_
                  refine AnyK.index (i := 3) may_o (u := .slice (some ⟨gb, off, none⟩) s.rd.length c) (u' := .int .i64 (q : Int)) (v := .pointer (some ⟨gb, off + q, none⟩)) (by simp [hz_b2]) (by simp [hz_b2]) (fun w => ix22 hql w) hR ?_
                  refine AnyK.load (i := 4) may_o (p := ⟨gb, off + q, none⟩) (v := .int .i64 x) (by simp [hz_b2]) (fun w hw => ld3 hw.1.2) hR ?_
                  refine AnyK.pick1 (i := 5) (by kernel_rfl) ?_
                  have hIx := refIn_any x 0 99 W2.drew
                  rw [hxin] at hIx
                  refine StepK.call (i := 5) (f := 63) (vs := #[.int .i64 x, .int .i64 0, .int .i64 99]) rfl (enters_of Try.func63 (by kernel_rfl) rfl) rfl (by simp [hz_b2]) (hIx.mono ?_)
                  rintro _ _ ⟨rfl, rfl⟩
                  refine ⟨_, rfl, fun _ _ => hR, ?_⟩
                  refine AnyK.un (i := 6) may_o (u := .bool true) (v := .bool false) (by simp [hz_b2]) (fun w => not4 _ w) hR ?_
                  refine AnyK.move (i := 7) may_o (v := .bool false) (by simp [hz_b2]) hR ?_
                  refine AnyK.move (i := 8) may_o (v := .int .i64 (q : Int)) (by simp [o3]) hR (hw := (by exact wanted_g (e := 38) (b' := false) rfl (by simp [hz_b2]) rfl)) ?_
                  refine AnyK.bin (i := 9) may_o (u := .int .i64 (q : Int)) (u' := .int .i64 (0)) (v := .bool true) (by simp [hz_b2]) (by simp) (fun w => gtrT3 (by omega) w) hR (hw := (by exact wanted_g (e := 38) (b' := false) rfl (by simp [hz_b2]) rfl)) ?_
                  refine AnyK.move (i := 10) may_o (v := .bool true) (by simp [hz_b2]) hR (hw := (by exact wanted_g (e := 38) (b' := false) rfl (by simp [hz_b2]) rfl)) ?_
                  refine AnyK.field (i := 11) may_o (u := .pointer (some ⟨b3, 0, none⟩)) (v := .pointer (some ⟨b3, 2, none⟩)) (by simp [o1]) (fun w => fa24_2 w) hR (hw := (by exact wanted_g (e := 41) (b' := true) rfl (by simp [hz_b2]) rfl)) ?_
                  refine AnyK.load (i := 12) may_o (p := ⟨b3, 2, none⟩) (v := .slice (some ⟨gb, off, none⟩) s.rd.length c) (by simp [hz_b2]) (fun w hw => ld22 (hw.1.1.cell 2)) hR (hw := (by exact wanted_g (e := 41) (b' := true) rfl (by simp [hz_b2]) rfl)) ?_
                  refine AnyK.move (i := 13) may_o (v := .int .i64 (q : Int)) (by simp [o3]) hR (hw := (by exact wanted_g (e := 41) (b' := true) rfl (by simp [hz_b2]) rfl)) ?_
                  refine AnyK.index (i := 14) may_o (u := .slice (some ⟨gb, off, none⟩) s.rd.length c) (u' := .int .i64 (q : Int)) (v := .pointer (some ⟨gb, off + q, none⟩)) (by simp [hz_b2]) (by simp [hz_b2]) (fun w => ix22 hql w) hR (hw := (by exact wanted_g (e := 41) (b' := true) rfl (by simp [hz_b2]) rfl)) ?_
                  refine AnyK.load (i := 15) may_o (p := ⟨gb, off + q, none⟩) (v := .int .i64 x) (by simp [hz_b2]) (fun w hw => ld3 hw.1.2) hR (hw := (by exact wanted_g (e := 41) (b' := true) rfl (by simp [hz_b2]) rfl)) ?_
                  refine AnyK.field (i := 16) may_o (u := .pointer (some ⟨b3, 0, none⟩)) (v := .pointer (some ⟨b3, 2, none⟩)) (by simp [o1]) (fun w => fa24_2 w) hR (hw := (by exact wanted_g (e := 41) (b' := true) rfl (by simp [hz_b2]) rfl)) ?_
                  refine AnyK.load (i := 17) may_o (p := ⟨b3, 2, none⟩) (v := .slice (some ⟨gb, off, none⟩) s.rd.length c) (by simp [hz_b2]) (fun w hw => ld22 (hw.1.1.cell 2)) hR (hw := (by exact wanted_g (e := 41) (b' := true) rfl (by simp [hz_b2]) rfl)) ?_
                  refine AnyK.move (i := 18) may_o (v := .int .i64 (q : Int)) (by simp [o3]) hR (hw := (by exact wanted_g (e := 41) (b' := true) rfl (by simp [hz_b2]) rfl)) ?_
                  refine AnyK.bin (i := 19) may_o (u := .int .i64 (q : Int)) (u' := .int .i64 (1)) (v := .int .i64 ((q - 1 : Nat) : Int)) (by simp [hz_b2]) (by simp) (fun w => by rw [show ((q - 1 : Nat) : Int) = (q : Int) - 1 by omega]; exact sub3 (by omega) (by omega) w) hR (hw := (by exact wanted_g (e := 41) (b' := true) rfl (by simp [hz_b2]) rfl)) ?_
                  refine AnyK.index (i := 20) may_o (u := .slice (some ⟨gb, off, none⟩) s.rd.length c) (u' := .int .i64 ((q - 1 : Nat) : Int)) (v := .pointer (some ⟨gb, off + (q - 1), none⟩)) (by simp [hz_b2]) (by simp [hz_b2]) (fun w => ix22 (show q - 1 < s.rd.length by omega) w) hR (hw := (by exact wanted_g (e := 41) (b' := true) rfl (by simp [hz_b2]) rfl)) ?_
                  refine AnyK.load (i := 21) may_o (p := ⟨gb, off + (q - 1), none⟩) (v := .int .i64 y) (by simp [hz_b2]) (fun w hw => ld3 hw.2) hR (hw := (by exact wanted_g (e := 41) (b' := true) rfl (by simp [hz_b2]) rfl)) ?_
                  refine AnyK.field (i := 22) may_o (u := .pointer (some ⟨b3, 0, none⟩)) (v := .pointer (some ⟨b3, 1, none⟩)) (by simp [o1]) (fun w => fa24_1 w) hR (hw := (by exact wanted_g (e := 41) (b' := true) rfl (by simp [hz_b2]) rfl)) ?_
                  refine AnyK.load (i := 23) may_o (p := ⟨b3, 1, none⟩) (v := .int .i64 s.step) (by simp [hz_b2]) (fun w hw => ld3 (hw.1.1.cell 1)) hR (hw := (by exact wanted_g (e := 41) (b' := true) rfl (by simp [hz_b2]) rfl)) ?_
                  refine AnyK.pick1 (i := 24) (by kernel_rfl) ?_
                  have hNx := refNear_any x y s.step W2.drew (by omega) (by omega) (by omega) (by omega) (by omega) (by omega)
                  rw [hnb] at hNx
                  refine StepK.call (i := 24) (f := 64) (vs := #[.int .i64 x, .int .i64 y, .int .i64 s.step]) rfl (enters_of Try.func64 (by kernel_rfl) rfl) rfl (by simp [hz_b2]) (hNx.mono ?_) (hw := wanted_g (e := 41) (b' := true) rfl (by simp [hz_b2]) rfl)
                  rintro _ _ ⟨rfl, rfl⟩
                  refine ⟨_, rfl, fun _ _ => hR, ?_⟩
                  refine AnyK.un (i := 25) may_o (u := .bool true) (v := .bool false) (by simp [hz_b2]) (fun w => not4 _ w) hR (hw := (by exact wanted_g (e := 41) (b' := true) rfl (by simp [hz_b2]) rfl)) ?_
                  refine AnyK.pick (i := 26) may_o (b := true) (v := .bool false) (by simp [hz_b2]) (by simp [hz_b2]) hR (hw := (by exact wanted_g (e := 38) (b' := false) rfl (by simp [hz_b2]) rfl)) ?_
                  refine AnyK.pick (i := 27) may_o (b := false) (v := .bool false) (by simp [hz_b2]) (by simp [hz_b2]) hR ?_
                  refine AnyK.done (by kernel_rfl) ?_
                  refine wpIn_cond (t := false) (by simp [hz_b2]) (wpIn_skip ?_)
                  have hnn : nearTo s.step s.rd (q + 1) := by
                    intro j p r hj hp hr
                    by_cases e : j + 1 = q
                    · have ej : j = q - 1 := by omega
                      rw [ej, hy] at hp
                      rw [e, hx] at hr
                      cases hp
                      cases hr
                      exact hnb
                    · exact hnr j p r (by omega) hp hr
                  generalize hA : Act.put _ _ _ = b4
                  have hz_b4 : b4.tmps.size = 59 := by rw [← hA]; simp only [size_put, hz_b2]
                  have p1 : b4.eval (.tmp 1) = .pointer (some ⟨b3, 0, none⟩) := by rw [← hA]; exact (by simp [o1])
                  have p3 : b4.eval (.tmp 3) = .int .i64 (q : Int) := by rw [← hA]; exact (by simp [o3])
                  have hd_b4 : b4.defers = [] := by rw [← hA]; simp only [defers_put, hd_b2]
                  clear hA
                  refine region_p 3 ?_
                  intro K hK
                  refine ListK.move (i := 0) (v := .int .i64 (q : Int)) rfl (by simp [p3]) ?_
                  refine ListK.bin (i := 1) (u := .int .i64 (q : Int)) (u' := .int .i64 1) (v := .int .i64 ((q + 1 : Nat) : Int)) rfl (by simp [hz_b4]) (by simp) (add3 (by omega) (by omega) _) ?_
                  refine ListK.assign (i := 2) (v := .int .i64 ((q + 1 : Nat) : Int)) rfl (by simp [hz_b4]) ?_
                  refine ListK.done (hK _ _ ?_)
                  clear hK K
                  refine ⟨⟨q + 1, by omega, hin1, hnn, (hb2.trans (hbd.mono (by omega))), (by simp only [size_put, hz_b4]), (by simp only [defers_put, hd_b4]), (by simp [p1]), (by simp [hz_b4])⟩, ?_⟩
                  rw [s3, show (Act.put _ _ _).eval (.tmp 3) = .int .i64 ((q + 1 : Nat) : Int) from (by simp [hz_b4])]
                  simp only [intOf]
                  omega
          · skip
            refine wpIn_seq (wpIn_seq (region_p 5 ?_))
            intro K hK
            refine ListK.move (i := 0) (v := .int .i64 (q : Int)) rfl (by simp [s3]) ?_
            refine ListK.field (i := 1) (u := .pointer (some ⟨b3, 0, none⟩)) (v := .pointer (some ⟨b3, 2, none⟩)) rfl (by simp [s1]) (fa24_2 _) ?_
            refine ListK.load (i := 2) (p := ⟨b3, 2, none⟩) (v := .slice A s.rd.length c) rfl (by simp [hz_b1]) (ld22 (wb2.cell 2)) ?_
            refine ListK.len (i := 3) (u := .slice A s.rd.length c) (v := .int .i64 s.rd.length) rfl (by simp [hz_b1]) (ln22 _ _ _ _ _) rfl ?_
            refine ListK.bin (i := 4) (u := .int .i64 (q : Int)) (u' := .int .i64 s.rd.length) (v := .bool false) rfl (by simp [hz_b1]) (by simp [hz_b1]) (lssF3 (by omega) _) ?_
            refine ListK.done (hK _ _ ?_)
            clear hK K
            refine wpIn_cond (t := false) (by simp [hz_b1]) (wpIn_exit ?_)
            have hqe : q = s.rd.length := by omega
            have hall : s.rd.all okR = true := List.all_eq_true.2 (fun x hx => by
              obtain ⟨j, hj⟩ := List.mem_iff_getElem?.1 hx
              exact inR_iff.2 (hin j x (by rw [hqe]; exact (List.getElem?_eq_some_iff.1 hj).1) hj))
            refine wpIn_seq (region_p 1 ?_)
            intro K hK
            refine ListK.assign (i := 0) (v := .int .i64 0) rfl (by simp) ?_
            refine ListK.done (hK _ _ (wpIn_ret ?_))
            exact hret _ _ 0 (fault_ok h8 hh hall ((nearL_iff _ _).2 (hqe ▸ hnr))).symm (by simp only [defers_put, hd_b1]) (by simp [hz_b1]) hB2
        · have hst' : inR s.step 1 9 = false := by simpa using hst
          have hh : headOk s.rd.length s.width s.step = false := by
            rw [Bool.eq_false_iff]
            intro h
            exact hst (inR_iff.2 (headOk_iff.1 h).2.2)
          have hIw := refIn_any s.width 2 8
          rw [hw] at hIw
          have hIs := refIn_any s.step 1 9
          rw [hst'] at hIs
          refine wpIn_seq (wpIn_seq (region_p 16 ?_))
          intro K hK
          refine ListK.field (i := 0) (u := .pointer (some ⟨b3, 0, none⟩)) (v := .pointer (some ⟨b3, 2, none⟩)) rfl (by simp [v1]) (fa24_2 _) ?_
          refine ListK.load (i := 1) (p := ⟨b3, 2, none⟩) (v := .slice A s.rd.length c) rfl (by simp [hz_a2]) (ld22 (wb.cell 2)) ?_
          refine ListK.len (i := 2) (u := .slice A s.rd.length c) (v := .int .i64 s.rd.length) rfl (by simp [hz_a2]) (ln22 _ _ _ _ _) rfl ?_
          refine ListK.bin (i := 3) (u := .int .i64 s.rd.length) (u' := .int .i64 0) (v := .bool false) rfl (by simp [hz_a2]) (by simp) (eql3F (by omega) _) ?_
          refine ListK.move (i := 4) (v := .bool false) rfl (by simp [hz_a2]) ?_
          refine ListK.field (i := 5) (u := .pointer (some ⟨b3, 0, none⟩)) (v := .pointer (some ⟨b3, 0, none⟩)) rfl (by simp [v1]) (fa24_0 _) ?_ (hw := wanted_g (e := 12) (b' := false) rfl (by simp [hz_a2]) rfl)
          refine ListK.load (i := 6) (p := ⟨b3, 0, none⟩) (v := .int .i64 s.width) rfl (by simp [hz_a2]) (ld3 (wb.cell 0)) ?_ (hw := wanted_g (e := 12) (b' := false) rfl (by simp [hz_a2]) rfl)
          refine ListK.call (i := 7) (vs := #[.int .i64 s.width, .int .i64 2, .int .i64 8]) rfl (enters_of Try.func63 (by kernel_rfl) rfl) (by simp [hz_a2]) ((hIw W1).mono ?_) (hw := wanted_g (e := 12) (b' := false) rfl (by simp [hz_a2]) rfl)
          rintro _ _ ⟨rfl, rfl⟩
          refine ⟨_, rfl, ?_⟩
          refine ListK.un (i := 8) (u := .bool true) (v := .bool false) rfl (by simp [hz_a2]) (not4 _ _) ?_ (hw := wanted_g (e := 12) (b' := false) rfl (by simp [hz_a2]) rfl)
          refine ListK.pick (i := 9) (b := false) (v := .bool false) rfl (by simp [hz_a2]) (by simp [hz_a2]) ?_
          refine ListK.move (i := 10) (v := .bool false) rfl (by simp [hz_a2]) ?_
          refine ListK.field (i := 11) (u := .pointer (some ⟨b3, 0, none⟩)) (v := .pointer (some ⟨b3, 1, none⟩)) rfl (by simp [v1]) (fa24_1 _) ?_ (hw := wanted_g (e := 18) (b' := false) rfl (by simp [hz_a2]) rfl)
          refine ListK.load (i := 12) (p := ⟨b3, 1, none⟩) (v := .int .i64 s.step) rfl (by simp [hz_a2]) (ld3 (wb.cell 1)) ?_ (hw := wanted_g (e := 18) (b' := false) rfl (by simp [hz_a2]) rfl)
          refine ListK.call (i := 13) (vs := #[.int .i64 s.step, .int .i64 1, .int .i64 9]) rfl (enters_of Try.func63 (by kernel_rfl) rfl) (by simp [hz_a2]) ((hIs W1).mono ?_) (hw := wanted_g (e := 18) (b' := false) rfl (by simp [hz_a2]) rfl)
          rintro _ _ ⟨rfl, rfl⟩
          refine ⟨_, rfl, ?_⟩
          refine ListK.un (i := 14) (u := .bool false) (v := .bool true) rfl (by simp [hz_a2]) (not4 _ _) ?_ (hw := wanted_g (e := 18) (b' := false) rfl (by simp [hz_a2]) rfl)
          refine ListK.pick (i := 15) (b := false) (v := .bool true) rfl (by simp [hz_a2]) (by simp [hz_a2]) ?_
          refine ListK.done (hK _ _ ?_)
          clear hK K
          refine wpIn_cond (t := true) (by simp [hz_a2]) ?_
          refine wpIn_seq (region_p 1 ?_)
          intro K hK
          refine ListK.assign (i := 0) (v := .int .i64 1) rfl (by simp) ?_
          refine ListK.done (hK _ _ (wpIn_ret ?_))
          exact hret _ _ 1 (fault_arg h8 (.inl hh)).symm (by simp only [defers_put, hd_a2]) (by simp [hz_a2]) hB
      · have hw' : inR s.width 2 8 = false := by simpa using hw
        have hh : headOk s.rd.length s.width s.step = false := by
          rw [Bool.eq_false_iff]
          intro h
          exact hw (inR_iff.2 (headOk_iff.1 h).2.1)
        have hIw := refIn_any s.width 2 8
        rw [hw'] at hIw
        refine wpIn_seq (wpIn_seq (region_p 16 ?_))
        intro K hK
        refine ListK.field (i := 0) (u := .pointer (some ⟨b3, 0, none⟩)) (v := .pointer (some ⟨b3, 2, none⟩)) rfl (by simp [v1]) (fa24_2 _) ?_
        refine ListK.load (i := 1) (p := ⟨b3, 2, none⟩) (v := .slice A s.rd.length c) rfl (by simp [hz_a2]) (ld22 (wb.cell 2)) ?_
        refine ListK.len (i := 2) (u := .slice A s.rd.length c) (v := .int .i64 s.rd.length) rfl (by simp [hz_a2]) (ln22 _ _ _ _ _) rfl ?_
        refine ListK.bin (i := 3) (u := .int .i64 s.rd.length) (u' := .int .i64 0) (v := .bool false) rfl (by simp [hz_a2]) (by simp) (eql3F (by omega) _) ?_
        refine ListK.move (i := 4) (v := .bool false) rfl (by simp [hz_a2]) ?_
        refine ListK.field (i := 5) (u := .pointer (some ⟨b3, 0, none⟩)) (v := .pointer (some ⟨b3, 0, none⟩)) rfl (by simp [v1]) (fa24_0 _) ?_ (hw := wanted_g (e := 12) (b' := false) rfl (by simp [hz_a2]) rfl)
        refine ListK.load (i := 6) (p := ⟨b3, 0, none⟩) (v := .int .i64 s.width) rfl (by simp [hz_a2]) (ld3 (wb.cell 0)) ?_ (hw := wanted_g (e := 12) (b' := false) rfl (by simp [hz_a2]) rfl)
        refine ListK.call (i := 7) (vs := #[.int .i64 s.width, .int .i64 2, .int .i64 8]) rfl (enters_of Try.func63 (by kernel_rfl) rfl) (by simp [hz_a2]) ((hIw W1).mono ?_) (hw := wanted_g (e := 12) (b' := false) rfl (by simp [hz_a2]) rfl)
        rintro _ _ ⟨rfl, rfl⟩
        refine ⟨_, rfl, ?_⟩
        refine ListK.un (i := 8) (u := .bool false) (v := .bool true) rfl (by simp [hz_a2]) (not4 _ _) ?_ (hw := wanted_g (e := 12) (b' := false) rfl (by simp [hz_a2]) rfl)
        refine ListK.pick (i := 9) (b := false) (v := .bool true) rfl (by simp [hz_a2]) (by simp [hz_a2]) ?_
        refine ListK.move (i := 10) (v := .bool true) rfl (by simp [hz_a2]) ?_
        refine ListK.passG (i := 11) (e := 18) (b' := true) rfl rfl (by simp [hz_a2]) rfl ?_
        refine ListK.passG (i := 12) (e := 18) (b' := true) rfl rfl (by simp [hz_a2]) rfl ?_
        refine ListK.passG (i := 13) (e := 18) (b' := true) rfl rfl (by simp [hz_a2]) rfl ?_
        refine ListK.passG (i := 14) (e := 18) (b' := true) rfl rfl (by simp [hz_a2]) rfl ?_
        refine ListK.pick (i := 15) (b := true) (v := .bool true) rfl (by simp [hz_a2]) (by simp) ?_
        refine ListK.done (hK _ _ ?_)
        clear hK K
        refine wpIn_cond (t := true) (by simp [hz_a2]) ?_
        refine wpIn_seq (region_p 1 ?_)
        intro K hK
        refine ListK.assign (i := 0) (v := .int .i64 1) rfl (by simp) ?_
        refine ListK.done (hK _ _ (wpIn_ret ?_))
        exact hret _ _ 1 (fault_arg h8 (.inl hh)).symm (by simp only [defers_put, hd_a2]) (by simp [hz_a2]) hB
end
end Go.Proofs.YtmdlmmfbcnkanaaR
namespace Go.Proofs.YtmdlmmfbcnkanaaR
open Go.RowKit Go.Shelf
noncomputable def opsRs0 : Array Oper := (Try.f54.body.bind (regionOf 0)).getD #[]
noncomputable def opsRs1 : Array Oper := (Try.f54.body.bind (regionOf 1)).getD #[]
noncomputable def opsRs2 : Array Oper := (Try.f54.body.bind (regionOf 2)).getD #[]
noncomputable def opsRs3 : Array Oper := (Try.f54.body.bind (regionOf 3)).getD #[]
noncomputable def opsRs4 : Array Oper := (Try.f54.body.bind (regionOf 4)).getD #[]
noncomputable def opsRs5 : Array Oper := (Try.f54.body.bind (regionOf 5)).getD #[]
noncomputable def opsRs6 : Array Oper := (Try.f54.body.bind (regionOf 6)).getD #[]
noncomputable def rs_l : Code := (.seq (.seq (.region 3 opsRs3 false) (.cond (.tmp 24) .skip (.exit 0))) (.seq (.block 1 (.region 5 opsRs5 false)) (.region 4 opsRs4 false)))
noncomputable def code54 : Code := (.seq (.region 0 opsRs0 false) (.seq (.region 1 opsRs1 false) (.seq (.seq (.region 2 opsRs2 false) (.block 0 (.loop rs_l))) (.seq (.region 6 opsRs6 false) .ret))))
theorem body54 : Try.f54.body = some code54 := by kernel_rfl
set_option maxHeartbeats 400000 in
theorem refSum_any (s : Ser) (A : Option Addr) (c k : Nat) (W : World) (hl : s.rd.length ≤ 40) (hw1 : 1 ≤ s.width) (hw2 : s.width ≤ 100) (hk : k ≤ 100) (hin : ∀ (j : Nat) (x : Int), s.rd[j]? = some x → 0 ≤ x ∧ x ≤ 99) (hs : IntsAt W W.heap.size A s.rd) :
    Calls Try.prog 54 #[serV s A c, .int .i64 (k : Int)] W (EvP W (.int .i64 (sumB s k))) := by
  obtain ⟨wd, hwd⟩ : ∃ wd : Nat, s.width = wd := ⟨s.width.toNat, by omega⟩
  have hkw : k * wd ≤ 10000 := Nat.le_trans (Nat.mul_le_mul hk (show wd ≤ 100 by omega)) (by omega)
  have hsB : sumB s k = sumR s.rd (k * wd) wd % 100 := by unfold sumB; rw [hwd]; rfl
  have em : (k : Int) * (wd : Int) = ((k * wd : Nat) : Int) := by push_cast; rfl
  have em1 : ((k : Int) + 1) * (wd : Int) = ((k * wd + wd : Nat) : Int) := by rw [Int.add_mul]; push_cast; omega
  rw [hsB]
  unfold serV
  rw [hwd]
  refine (callsIn_wide (n := 5)).1 (callsIn_of_wp Try.func54 body54 trivial ?_ rfl)
  obtain ⟨a, ha⟩ : ∃ a : Act, a = { tmps := #[.agg #[.int .i64 (wd : Int), .int .i64 s.step, .slice A s.rd.length c], .int .i64 (k : Int)] ++ Array.replicate (Try.f54.ntmps - (#[.agg #[.int .i64 (wd : Int), .int .i64 s.step, .slice A s.rd.length c], .int .i64 (k : Int)] : Array Value).size) undef, defers := [] } := ⟨_, rfl⟩
  have hsz : a.tmps.size = 36 := by rw [ha]; simp [Try.ntmps54]
  have t0 : a.eval (.tmp 0) = .agg #[.int .i64 (wd : Int), .int .i64 s.step, .slice A s.rd.length c] := by rw [ha]; simp [Act.eval]
  have t1 : a.eval (.tmp 1) = .int .i64 (k : Int) := by rw [ha]; simp [Act.eval]
  have hd_a : a.defers = [] := by rw [ha]
  rw [← ha]
  clear ha
  unfold code54
  refine wpIn_seq (region_p 2 ?_)
  intro K hK
  refine ListK.box (i := 0) (u := .agg #[.int .i64 (wd : Int), .int .i64 s.step, .slice A s.rd.length c]) rfl (by simp [t0]) (bx24 W _ _ _ _ _) ?_
  refine ListK.assign (i := 1) (v := .int .i64 0) rfl (by simp) ?_
  refine ListK.done (hK _ _ ?_)
  clear hK K
  replace hs : IntsAt (W.alloc (.cells #[.int .i64 (wd : Int), .int .i64 s.step, .slice A s.rd.length c] 24)) W.heap.size A s.rd := hs.below ((Below.refl W.heap.size W).alloc (Nat.le_refl _) _) (Nat.le_refl _)
  have wb := Whole.new W 24 #[.int .i64 (wd : Int), .int .i64 s.step, .slice A s.rd.length c]
  have hb_b3 : Below W.heap.size W (W.alloc (.cells #[.int .i64 (wd : Int), .int .i64 s.step, .slice A s.rd.length c] 24)) := (Below.refl _ W).alloc (Nat.le_refl _) _
  have hB := hb_b3
  generalize hq_b3 : W.heap.size = b3 at *
  generalize W.alloc (.cells #[.int .i64 (wd : Int), .int .i64 s.step, .slice A s.rd.length c] 24) = W1 at *
  have hsz1 := hB.size
  generalize hA : Act.put _ _ _ = a1
  have hz_a1 : a1.tmps.size = 36 := by rw [← hA]; simp only [size_put, hsz]
  have u1 : a1.eval (.tmp 1) = .int .i64 (k : Int) := by rw [← hA]; exact (by simp [t1])
  have u2 : a1.eval (.tmp 2) = .pointer (some ⟨b3, 0, none⟩) := by rw [← hA]; exact (by simp [hsz])
  have hd_a1 : a1.defers = [] := by rw [← hA]; simp only [defers_put, hd_a]
  clear hA
  refine wpIn_seq (region_p 1 ?_)
  intro K hK
  refine ListK.assign (i := 0) (v := .int .i64 0) rfl (by simp) ?_
  refine ListK.done (hK _ _ ?_)
  clear hK K
  generalize hA : Act.put _ _ _ = a2
  have hz_a2 : a2.tmps.size = 36 := by rw [← hA]; simp only [size_put, hz_a1]
  have v1 : a2.eval (.tmp 1) = .int .i64 (k : Int) := by rw [← hA]; exact (by simp [u1])
  have v2 : a2.eval (.tmp 2) = .pointer (some ⟨b3, 0, none⟩) := by rw [← hA]; exact (by simp [u2])
  have v5 : a2.eval (.tmp 5) = .int .i64 0 := by rw [← hA]; exact (by simp [hz_a1])
  have hd_a2 : a2.defers = [] := by rw [← hA]; simp only [defers_put, hd_a1]
  clear hA
  refine wpIn_seq (wpIn_seq (region_p 5 ?_))
  intro K hK
  refine ListK.move (i := 0) (v := .int .i64 (k : Int)) rfl (by simp [v1]) ?_
  refine ListK.field (i := 1) (u := .pointer (some ⟨b3, 0, none⟩)) (v := .pointer (some ⟨b3, 0, none⟩)) rfl (by simp [v2]) (fa24_0 _) ?_
  refine ListK.load (i := 2) (p := ⟨b3, 0, none⟩) (v := .int .i64 (wd : Int)) rfl (by simp [hz_a2]) (ld3 (wb.cell 0)) ?_
  refine ListK.bin (i := 3) (u := .int .i64 (k : Int)) (u' := .int .i64 (wd : Int)) (v := .int .i64 ((k * wd : Nat) : Int)) rfl (by simp [hz_a2]) (by simp [hz_a2]) (by rw [← em]; exact mul3 (by omega) (by omega) _) ?_
  refine ListK.assign (i := 4) (v := .int .i64 ((k * wd : Nat) : Int)) rfl (by simp [hz_a2]) ?_
  refine ListK.done (hK _ _ ?_)
  clear hK K
  generalize hA : Act.put _ _ _ = a3
  have hz_a3 : a3.tmps.size = 36 := by rw [← hA]; simp only [size_put, hz_a2]
  have q1 : a3.eval (.tmp 1) = .int .i64 (k : Int) := by rw [← hA]; exact (by simp [v1])
  have q2 : a3.eval (.tmp 2) = .pointer (some ⟨b3, 0, none⟩) := by rw [← hA]; exact (by simp [v2])
  have q5 : a3.eval (.tmp 5) = .int .i64 0 := by rw [← hA]; exact (by simp [v5])
  have q6 : a3.eval (.tmp 6) = .int .i64 ((k * wd : Nat) : Int) := by rw [← hA]; exact (by simp [hz_a2])
  have hd_a3 : a3.defers = [] := by rw [← hA]; simp only [defers_put, hd_a2]
  clear hA
  refine wpIn_block (wpIn_loop (fun a W' => W' = W1 ∧ ∃ q : Nat, q ≤ wd ∧ (k * wd + q ≤ s.rd.length ∨ q = 0) ∧ a.tmps.size = 36 ∧ a.defers = [] ∧ a.eval (.tmp 1) = .int .i64 (k : Int) ∧ a.eval (.tmp 2) = ptr b3 ∧ a.eval (.tmp 5) = .int .i64 (sumR s.rd (k * wd) q) ∧ a.eval (.tmp 6) = .int .i64 ((k * wd + q : Nat) : Int)) (fun a _ => k * wd + wd - (intOf (a.eval (.tmp 6))).toNat)
    ⟨rfl, 0, by omega, .inr rfl, hz_a3, hd_a3, q1, q2, by rw [sumR_zero]; exact q5, q6⟩ ?_)
  rintro b1 W9 ⟨hW9, q, hq, hq2, hz_b1, hd_b1, r1, r2, r5, r6⟩
  subst hW9
  unfold rs_l
  have hsb := sumR_bound hin (k * wd) q (by omega)
  by_cases hql : k * wd + q < s.rd.length
  · by_cases hqw : q < wd
    · skip
      refine wpIn_seq (wpIn_seq (region_p 14 ?_))
      intro K hK
      refine ListK.move (i := 0) (v := .int .i64 ((k * wd + q : Nat) : Int)) rfl (by simp [r6]) ?_
      refine ListK.field (i := 1) (u := .pointer (some ⟨b3, 0, none⟩)) (v := .pointer (some ⟨b3, 2, none⟩)) rfl (by simp [r2]) (fa24_2 _) ?_
      refine ListK.load (i := 2) (p := ⟨b3, 2, none⟩) (v := .slice A s.rd.length c) rfl (by simp [hz_b1]) (ld22 (wb.cell 2)) ?_
      refine ListK.len (i := 3) (u := .slice A s.rd.length c) (v := .int .i64 s.rd.length) rfl (by simp [hz_b1]) (ln22 _ _ _ _ _) rfl ?_
      refine ListK.bin (i := 4) (u := .int .i64 ((k * wd + q : Nat) : Int)) (u' := .int .i64 s.rd.length) (v := .bool true) rfl (by simp [hz_b1]) (by simp [hz_b1]) (lssT3 (by omega) _) ?_
      refine ListK.move (i := 5) (v := .bool true) rfl (by simp [hz_b1]) ?_
      refine ListK.move (i := 6) (v := .int .i64 ((k * wd + q : Nat) : Int)) rfl (by simp [r6]) ?_ (hw := wanted_g (e := 16) (b' := true) rfl (by simp [hz_b1]) rfl)
      refine ListK.move (i := 7) (v := .int .i64 (k : Int)) rfl (by simp [r1]) ?_ (hw := wanted_g (e := 16) (b' := true) rfl (by simp [hz_b1]) rfl)
      refine ListK.bin (i := 8) (u := .int .i64 (k : Int)) (u' := .int .i64 1) (v := .int .i64 ((k : Int) + 1)) rfl (by simp [hz_b1]) (by simp) (add3 (by omega) (by omega) _) ?_ (hw := wanted_g (e := 16) (b' := true) rfl (by simp [hz_b1]) rfl)
      refine ListK.field (i := 9) (u := .pointer (some ⟨b3, 0, none⟩)) (v := .pointer (some ⟨b3, 0, none⟩)) rfl (by simp [r2]) (fa24_0 _) ?_ (hw := wanted_g (e := 16) (b' := true) rfl (by simp [hz_b1]) rfl)
      refine ListK.load (i := 10) (p := ⟨b3, 0, none⟩) (v := .int .i64 (wd : Int)) rfl (by simp [hz_b1]) (ld3 (wb.cell 0)) ?_ (hw := wanted_g (e := 16) (b' := true) rfl (by simp [hz_b1]) rfl)
      refine ListK.bin (i := 11) (u := .int .i64 ((k : Int) + 1)) (u' := .int .i64 (wd : Int)) (v := .int .i64 ((k * wd + wd : Nat) : Int)) rfl (by simp [hz_b1]) (by simp [hz_b1]) (by rw [← em1]; exact mul3 (by omega) (by omega) _) ?_ (hw := wanted_g (e := 16) (b' := true) rfl (by simp [hz_b1]) rfl)
      refine ListK.bin (i := 12) (u := .int .i64 ((k * wd + q : Nat) : Int)) (u' := .int .i64 ((k * wd + wd : Nat) : Int)) (v := .bool true) rfl (by simp [hz_b1]) (by simp [hz_b1]) (lssT3 (by omega) _) ?_ (hw := wanted_g (e := 16) (b' := true) rfl (by simp [hz_b1]) rfl)
      refine ListK.pick (i := 13) (b := true) (v := .bool true) rfl (by simp [hz_b1]) (by simp [hz_b1]) ?_
      refine ListK.done (hK _ _ ?_)
      clear hK K
      refine wpIn_cond (t := true) (by simp [hz_b1]) (wpIn_skip ?_)
      generalize hA : Act.put _ _ _ = b2
      have hz_b2 : b2.tmps.size = 36 := by rw [← hA]; simp only [size_put, hz_b1]
      have s1 : b2.eval (.tmp 1) = .int .i64 (k : Int) := by rw [← hA]; exact (by simp [r1])
      have s2 : b2.eval (.tmp 2) = .pointer (some ⟨b3, 0, none⟩) := by rw [← hA]; exact (by simp [r2])
      have s5 : b2.eval (.tmp 5) = .int .i64 (sumR s.rd (k * wd) q) := by rw [← hA]; exact (by simp [r5])
      have s6 : b2.eval (.tmp 6) = .int .i64 ((k * wd + q : Nat) : Int) := by rw [← hA]; exact (by simp [r6])
      have hd_b2 : b2.defers = [] := by rw [← hA]; simp only [defers_put, hd_b1]
      clear hA
      have e1 : s.rd[k * wd + q]? = some s.rd[k * wd + q] := List.getElem?_eq_getElem hql
      have i1 := hin _ _ e1
      obtain ⟨gb, off, rfl, hgb, c1⟩ := hs (k * wd + q) _ e1
      refine wpIn_seq (wpIn_block ?_)
      refine region_p 8 ?_
      intro K hK
      refine ListK.move (i := 0) (v := .int .i64 (sumR s.rd (k * wd) q)) rfl (by simp [s5]) ?_
      refine ListK.field (i := 1) (u := .pointer (some ⟨b3, 0, none⟩)) (v := .pointer (some ⟨b3, 2, none⟩)) rfl (by simp [s2]) (fa24_2 _) ?_
      refine ListK.load (i := 2) (p := ⟨b3, 2, none⟩) (v := .slice (some ⟨gb, off, none⟩) s.rd.length c) rfl (by simp [hz_b2]) (ld22 (wb.cell 2)) ?_
      refine ListK.move (i := 3) (v := .int .i64 ((k * wd + q : Nat) : Int)) rfl (by simp [s6]) ?_
      refine ListK.index (i := 4) (u := .slice (some ⟨gb, off, none⟩) s.rd.length c) (u' := .int .i64 ((k * wd + q : Nat) : Int)) (v := .pointer (some ⟨gb, off + (k * wd + q), none⟩)) rfl (by simp [hz_b2]) (by simp [hz_b2]) (ix22 hql _) ?_
      refine ListK.load (i := 5) (p := ⟨gb, off + (k * wd + q), none⟩) (v := .int .i64 s.rd[k * wd + q]) rfl (by simp [hz_b2]) (ld3 (c1)) ?_
      refine ListK.bin (i := 6) (u := .int .i64 (sumR s.rd (k * wd) q)) (u' := .int .i64 s.rd[k * wd + q]) (v := .int .i64 (sumR s.rd (k * wd) (q + 1))) rfl (by simp [hz_b2]) (by simp [hz_b2]) (by rw [sumR_succ hql]; exact add3 (by omega) (by omega) _) ?_
      refine ListK.assign (i := 7) (v := .int .i64 (sumR s.rd (k * wd) (q + 1))) rfl (by simp [hz_b2]) ?_
      refine ListK.done (hK _ _ ?_)
      clear hK K
      generalize hA : Act.put _ _ _ = b3_
      have hz_b3_ : b3_.tmps.size = 36 := by rw [← hA]; simp only [size_put, hz_b2]
      have y1 : b3_.eval (.tmp 1) = .int .i64 (k : Int) := by rw [← hA]; exact (by simp [s1])
      have y2 : b3_.eval (.tmp 2) = .pointer (some ⟨b3, 0, none⟩) := by rw [← hA]; exact (by simp [s2])
      have y5 : b3_.eval (.tmp 5) = .int .i64 (sumR s.rd (k * wd) (q + 1)) := by rw [← hA]; exact (by simp [hz_b2])
      have y6 : b3_.eval (.tmp 6) = .int .i64 ((k * wd + q : Nat) : Int) := by rw [← hA]; exact (by simp [s6])
      have hd_b3_ : b3_.defers = [] := by rw [← hA]; simp only [defers_put, hd_b2]
      clear hA
      refine region_p 3 ?_
      intro K hK
      refine ListK.move (i := 0) (v := .int .i64 ((k * wd + q : Nat) : Int)) rfl (by simp [y6]) ?_
      refine ListK.bin (i := 1) (u := .int .i64 ((k * wd + q : Nat) : Int)) (u' := .int .i64 1) (v := .int .i64 ((k * wd + (q + 1) : Nat) : Int)) rfl (by simp [hz_b3_]) (by simp) (add3 (by omega) (by omega) _) ?_
      refine ListK.assign (i := 2) (v := .int .i64 ((k * wd + (q + 1) : Nat) : Int)) rfl (by simp [hz_b3_]) ?_
      refine ListK.done (hK _ _ ?_)
      clear hK K
      refine ⟨⟨rfl, q + 1, by omega, by omega, (by simp only [size_put, hz_b3_]), (by simp only [defers_put, hd_b3_]), (by simp [y1]), (by simp [y2]), (by simp [y5]), (by simp [hz_b3_])⟩, ?_⟩
      rw [r6, show (Act.put _ _ _).eval (.tmp 6) = .int .i64 ((k * wd + (q + 1) : Nat) : Int) from (by simp [hz_b3_])]
      simp only [intOf]
      omega
    · have hqe : q = wd := by omega
      refine wpIn_seq (wpIn_seq (region_p 14 ?_))
      intro K hK
      refine ListK.move (i := 0) (v := .int .i64 ((k * wd + q : Nat) : Int)) rfl (by simp [r6]) ?_
      refine ListK.field (i := 1) (u := .pointer (some ⟨b3, 0, none⟩)) (v := .pointer (some ⟨b3, 2, none⟩)) rfl (by simp [r2]) (fa24_2 _) ?_
      refine ListK.load (i := 2) (p := ⟨b3, 2, none⟩) (v := .slice A s.rd.length c) rfl (by simp [hz_b1]) (ld22 (wb.cell 2)) ?_
      refine ListK.len (i := 3) (u := .slice A s.rd.length c) (v := .int .i64 s.rd.length) rfl (by simp [hz_b1]) (ln22 _ _ _ _ _) rfl ?_
      refine ListK.bin (i := 4) (u := .int .i64 ((k * wd + q : Nat) : Int)) (u' := .int .i64 s.rd.length) (v := .bool true) rfl (by simp [hz_b1]) (by simp [hz_b1]) (lssT3 (by omega) _) ?_
      refine ListK.move (i := 5) (v := .bool true) rfl (by simp [hz_b1]) ?_
      refine ListK.move (i := 6) (v := .int .i64 ((k * wd + q : Nat) : Int)) rfl (by simp [r6]) ?_ (hw := wanted_g (e := 16) (b' := true) rfl (by simp [hz_b1]) rfl)
      refine ListK.move (i := 7) (v := .int .i64 (k : Int)) rfl (by simp [r1]) ?_ (hw := wanted_g (e := 16) (b' := true) rfl (by simp [hz_b1]) rfl)
      refine ListK.bin (i := 8) (u := .int .i64 (k : Int)) (u' := .int .i64 1) (v := .int .i64 ((k : Int) + 1)) rfl (by simp [hz_b1]) (by simp) (add3 (by omega) (by omega) _) ?_ (hw := wanted_g (e := 16) (b' := true) rfl (by simp [hz_b1]) rfl)
      refine ListK.field (i := 9) (u := .pointer (some ⟨b3, 0, none⟩)) (v := .pointer (some ⟨b3, 0, none⟩)) rfl (by simp [r2]) (fa24_0 _) ?_ (hw := wanted_g (e := 16) (b' := true) rfl (by simp [hz_b1]) rfl)
      refine ListK.load (i := 10) (p := ⟨b3, 0, none⟩) (v := .int .i64 (wd : Int)) rfl (by simp [hz_b1]) (ld3 (wb.cell 0)) ?_ (hw := wanted_g (e := 16) (b' := true) rfl (by simp [hz_b1]) rfl)
      refine ListK.bin (i := 11) (u := .int .i64 ((k : Int) + 1)) (u' := .int .i64 (wd : Int)) (v := .int .i64 ((k * wd + wd : Nat) : Int)) rfl (by simp [hz_b1]) (by simp [hz_b1]) (by rw [← em1]; exact mul3 (by omega) (by omega) _) ?_ (hw := wanted_g (e := 16) (b' := true) rfl (by simp [hz_b1]) rfl)
      refine ListK.bin (i := 12) (u := .int .i64 ((k * wd + q : Nat) : Int)) (u' := .int .i64 ((k * wd + wd : Nat) : Int)) (v := .bool false) rfl (by simp [hz_b1]) (by simp [hz_b1]) (lssF3 (by omega) _) ?_ (hw := wanted_g (e := 16) (b' := true) rfl (by simp [hz_b1]) rfl)
      refine ListK.pick (i := 13) (b := true) (v := .bool false) rfl (by simp [hz_b1]) (by simp [hz_b1]) ?_
      refine ListK.done (hK _ _ ?_)
      clear hK K
      refine wpIn_cond (t := false) (by simp [hz_b1]) (wpIn_exit ?_)
      rw [hqe] at r5 hsb
      generalize hA : Act.put _ _ _ = b2
      have hz_b2 : b2.tmps.size = 36 := by rw [← hA]; simp only [size_put, hz_b1]
      have s5 : b2.eval (.tmp 5) = .int .i64 (sumR s.rd (k * wd) wd) := by rw [← hA]; exact (by simp [r5])
      have hd_b2 : b2.defers = [] := by rw [← hA]; simp only [defers_put, hd_b1]
      clear hA
      refine wpIn_seq (region_p 3 ?_)
      intro K hK
      refine ListK.move (i := 0) (v := .int .i64 (sumR s.rd (k * wd) wd)) rfl (by simp [s5]) ?_
      refine ListK.bin (i := 1) (u := .int .i64 (sumR s.rd (k * wd) wd)) (u' := .int .i64 100) (v := .int .i64 (sumR s.rd (k * wd) wd % 100)) rfl (by simp [hz_b2]) (by simp) (rem3r (by omega) (by omega) rfl _) ?_
      refine ListK.assign (i := 2) (v := .int .i64 (sumR s.rd (k * wd) wd % 100)) rfl (by simp [hz_b2]) ?_
      refine ListK.done (hK _ _ (wpIn_ret ?_))
      exact bodyPost_ret (v := .int .i64 (sumR s.rd (k * wd) wd % 100)) (res1 Try.results54 (by simp [hz_b2])) (by simp only [defers_put, hd_b2]) ⟨rfl, by rw [hq_b3]; exact hB⟩
  · skip
    refine wpIn_seq (wpIn_seq (region_p 14 ?_))
    intro K hK
    refine ListK.move (i := 0) (v := .int .i64 ((k * wd + q : Nat) : Int)) rfl (by simp [r6]) ?_
    refine ListK.field (i := 1) (u := .pointer (some ⟨b3, 0, none⟩)) (v := .pointer (some ⟨b3, 2, none⟩)) rfl (by simp [r2]) (fa24_2 _) ?_
    refine ListK.load (i := 2) (p := ⟨b3, 2, none⟩) (v := .slice A s.rd.length c) rfl (by simp [hz_b1]) (ld22 (wb.cell 2)) ?_
    refine ListK.len (i := 3) (u := .slice A s.rd.length c) (v := .int .i64 s.rd.length) rfl (by simp [hz_b1]) (ln22 _ _ _ _ _) rfl ?_
    refine ListK.bin (i := 4) (u := .int .i64 ((k * wd + q : Nat) : Int)) (u' := .int .i64 s.rd.length) (v := .bool false) rfl (by simp [hz_b1]) (by simp [hz_b1]) (lssF3 (by omega) _) ?_
    refine ListK.move (i := 5) (v := .bool false) rfl (by simp [hz_b1]) ?_
    refine ListK.passG (i := 6) (e := 16) (b' := false) rfl rfl (by simp [hz_b1]) rfl ?_
    refine ListK.passG (i := 7) (e := 16) (b' := false) rfl rfl (by simp [hz_b1]) rfl ?_
    refine ListK.passG (i := 8) (e := 16) (b' := false) rfl rfl (by simp [hz_b1]) rfl ?_
    refine ListK.passG (i := 9) (e := 16) (b' := false) rfl rfl (by simp [hz_b1]) rfl ?_
    refine ListK.passG (i := 10) (e := 16) (b' := false) rfl rfl (by simp [hz_b1]) rfl ?_
    refine ListK.passG (i := 11) (e := 16) (b' := false) rfl rfl (by simp [hz_b1]) rfl ?_
    refine ListK.passG (i := 12) (e := 16) (b' := false) rfl rfl (by simp [hz_b1]) rfl ?_
    refine ListK.pick (i := 13) (b := false) (v := .bool false) rfl (by simp [hz_b1]) (by simp) ?_
    refine ListK.done (hK _ _ ?_)
    clear hK K
    refine wpIn_cond (t := false) (by simp [hz_b1]) (wpIn_exit ?_)
    have hfin : sumR s.rd (k * wd) q = sumR s.rd (k * wd) wd := (sumR_all (by omega) (by omega)).symm
    rw [hfin] at r5 hsb
    generalize hA : Act.put _ _ _ = b2
    have hz_b2 : b2.tmps.size = 36 := by rw [← hA]; simp only [size_put, hz_b1]
    have s5 : b2.eval (.tmp 5) = .int .i64 (sumR s.rd (k * wd) wd) := by rw [← hA]; exact (by simp [r5])
    have hd_b2 : b2.defers = [] := by rw [← hA]; simp only [defers_put, hd_b1]
    clear hA
    refine wpIn_seq (region_p 3 ?_)
    intro K hK
    refine ListK.move (i := 0) (v := .int .i64 (sumR s.rd (k * wd) wd)) rfl (by simp [s5]) ?_
    refine ListK.bin (i := 1) (u := .int .i64 (sumR s.rd (k * wd) wd)) (u' := .int .i64 100) (v := .int .i64 (sumR s.rd (k * wd) wd % 100)) rfl (by simp [hz_b2]) (by simp) (rem3r (by omega) (by omega) rfl _) ?_
    refine ListK.assign (i := 2) (v := .int .i64 (sumR s.rd (k * wd) wd % 100)) rfl (by simp [hz_b2]) ?_
    refine ListK.done (hK _ _ (wpIn_ret ?_))
    exact bodyPost_ret (v := .int .i64 (sumR s.rd (k * wd) wd % 100)) (res1 Try.results54 (by simp [hz_b2])) (by simp only [defers_put, hd_b2]) ⟨rfl, by rw [hq_b3]; exact hB⟩
theorem Try.info9 : (Try.prog.info? 9).map (fun i => (i.zero, i.size, i.bytes)) = some (some (strV []), 1, 16) := by kernel_rfl
theorem Try.und36 : Try.prog.underlying 36 = some (.slice 9) := by kernel_rfl
/-- Strings that a value holds alone. -/
structure OS (W0 : World) (v : Value) (L : List (List UInt8)) (W : World) : Prop where
  low : Below W0.heap.size W0 W
  own : W.ownsRow W0.heap.size 9 1 v L.length (L.map strV)
theorem OS.below {W0 W W' : World} {v : Value} {L : List (List UInt8)} (b : OS W0 v L W) (hb : Below W.heap.size W W') : OS W0 v L W' :=
  ⟨b.low.trans (hb.mono b.low.size), b.own.kept (grown_of_below hb) (by cases v.ownBlock <;> simp)⟩
theorem OS.strs {W0 W : World} {v : Value} {L : List (List UInt8)} (h : OS W0 v L W) : ∃ A c, v = .slice A L.length c ∧ StrsAt W W.heap.size A L := by
  rcases h.own.2 with ⟨h0, h1⟩ | ⟨g, cap, cur, h0, hb, hg, h1, h2, h3, h4⟩
  · have hl : L.length = 0 := h1
    refine ⟨none, 0, by rw [h0, hl], fun k x hx => ?_⟩
    have := (List.getElem?_eq_some_iff.1 hx).1
    omega
  · subst h0
    refine ⟨some ⟨g, 0, none⟩, cap, rfl, fun k x hx => ⟨g, 0, rfl, (Array.getElem?_eq_some_iff.1 hg).1, ?_⟩⟩
    have := h.own.cells (g := g) rfl k (strV x) (by simp [hx])
    rw [addr_add] at this
    exact this
theorem app36_run {W0 W : World} {v : Value} {L : List (List UInt8)} {l : List UInt8} {b c : Nat} {ty : TypeId} (h : OS W0 v L W) (hc : W.cell? ⟨b, 0, none⟩ = some (strV l)) (hL : L.length ≤ 100000) :
    ∃ v' w', (Builtin.append_ #[36, 36] ty #[v, .slice (some ⟨b, 0, none⟩) 1 c]).run Try.prog W = .ok v' w' ∧ OS W0 v' (L ++ [l]) w' := by
  obtain ⟨i0, hi0, hi1, hi2, hi3⟩ := info_parts Try.info9
  obtain ⟨g, cap, w', hr, h2, h3, h4, _⟩ := run_append_lies (P := Try.prog) W 36 ty W0.heap.size 9 i0 (strV []) 1 16 Try.und36 hi0 hi1 hi2 hi3 rfl (by omega) v L.length (L.map strV) h.own ⟨b, 0, none⟩ 1 c [strV l] rfl
    (news1 hc) (fun u hu => by
        simp at hu
        subst hu
        rfl) (by omega) (by unfold maxLen; omega) (by omega) h.low.size W.heap.size rfl
  refine ⟨_, w', hr, h.low.grown h3 h.low.size (fun k e => (h.own.lt k e).1), ?_⟩
  rw [List.length_append, List.map_append]
  exact h2
end Go.Proofs.YtmdlmmfbcnkanaaR
namespace Go.Proofs.YtmdlmmfbcnkanaaR
open Go.RowKit Go.Shelf
/-- The records within a block, ahead of its sum. -/
def recsIn (s : Ser) (b i : Nat) : List (List UInt8) := if i = b * s.width.toNat then recsTo s i else recsTo s (i - 1) ++ [made 82 (i - 1) (s.rd.getD (i - 1) 0).toNat]
section
variable {s : Ser} {wd : Nat}
theorem closes_iff (hw : s.width = wd) (hw1 : 1 ≤ wd) {b i : Nat} (hb : b * wd ≤ i) (hi : i < b * wd + wd) (hl : i < s.rd.length) : closesB s.rd.length s.width i = true ↔ i + 1 = s.rd.length ∨ i + 1 = b * wd + wd := by
  have hm : i % wd = i - b * wd := by
    obtain ⟨d, rfl⟩ : ∃ d, i = b * wd + d := ⟨i - b * wd, by omega⟩
    rw [Nat.mul_comm, Nat.mul_add_mod, Nat.mod_eq_of_lt (by omega)]
    rw [Nat.mul_comm]
    omega
  have e : ((i : Int) % (wd : Int)) = ((i % wd : Nat) : Int) := rfl
  unfold closesB
  rw [hw, e, hm, Bool.or_eq_true, beq_iff_eq, beq_iff_eq]
  omega
theorem div_of {b i : Nat} (hw1 : 1 ≤ wd) (hb : b * wd ≤ i) (hi : i < b * wd + wd) : i / wd = b := by
  obtain ⟨d, rfl⟩ : ∃ d, i = b * wd + d := ⟨i - b * wd, by omega⟩
  rw [Nat.mul_comm, Nat.mul_add_div (by omega), Nat.div_eq_of_lt (by omega)]
  rfl
theorem recsIn_next (hw : s.width = wd) (hw1 : 1 ≤ wd) {b i : Nat} (hb : b * wd ≤ i) (hi : i < b * wd + wd) (hl : i < s.rd.length) : recsIn s b i ++ [made 82 i (s.rd.getD i 0).toNat] = recsIn s b (i + 1) := by
  have hwn : s.width.toNat = wd := by omega
  have h1 : recsIn s b i = recsTo s i := by
    unfold recsIn
    rw [hwn]
    split
    · rfl
    · rename_i hne
      obtain ⟨j, rfl⟩ : ∃ j, i = j + 1 := ⟨i - 1, by omega⟩
      have hcl : closesB s.rd.length s.width j = false := by
        rw [Bool.eq_false_iff]
        intro h
        have := (closes_iff hw hw1 (b := b) (i := j) (by omega) (by omega) (by omega)).1 h
        omega
      conv => rhs; unfold recsTo
      rw [hcl]
      simp
  rw [h1]
  unfold recsIn
  rw [hwn, if_neg (by omega)]
  rfl
theorem recsIn_end (hw : s.width = wd) (hw1 : 1 ≤ wd) {b e : Nat} (hb : b * wd < e) (he : e = s.rd.length ∨ e = b * wd + wd) (he2 : e ≤ b * wd + wd) (hl : e ≤ s.rd.length) : recsIn s b e ++ [made 80 b (sumB s b).toNat] = recsTo s e := by
  have hwn : s.width.toNat = wd := by omega
  obtain ⟨j, rfl⟩ : ∃ j, e = j + 1 := ⟨e - 1, by omega⟩
  have hcl : closesB s.rd.length s.width j = true := (closes_iff hw hw1 (b := b) (i := j) (by omega) (by omega) (by omega)).2 (by omega)
  have hdv : j / s.width.toNat = b := by rw [hwn]; exact div_of hw1 (by omega) (by omega)
  unfold recsIn
  rw [hwn, if_neg (by omega)]
  conv => rhs; unfold recsTo
  rw [hcl, hdv]
  rfl
theorem recsIn_len (s : Ser) (b i : Nat) : (recsIn s b i).length ≤ 2 + 2 * i := by
  unfold recsIn
  split
  · have := recsTo_len s i
    omega
  · rw [List.length_append]
    have := recsTo_len s (i - 1)
    simp
    omega
theorem recsIn_start (hw : s.width = wd) (b : Nat) : recsIn s b (b * wd) = recsTo s (b * wd) := by
  have hwn : s.width.toNat = wd := by omega
  unfold recsIn
  rw [hwn, if_pos rfl]
end
theorem bs36_1 (l : List UInt8) (w : World) : (Instr.buildSlice 36 1 #[(0, strV l)]).run Try.prog w = .ok (.slice (some ⟨w.heap.size, 0, none⟩) 1 1) (w.alloc (.cells #[strV l] 9)) := by go_simp
theorem ListK.app36 {ops : Array Oper} {K : Act → World → Prop} {k i d : Nat} {a : Act} {w w' : World} {ty : TypeId} {pos : String} {aft : Array Edge} {s x : Operand} {v v2 v' : Value} (hi : ops[i]? = some ⟨some d, .call { callee := .builtin .append, args := #[s, x], argTypes := #[36, 36] }, ty, pos, aft, none⟩) (hs : a.eval s = v) (hx : a.eval x = v2)
    (hr : (Builtin.append_ #[36, 36] ty #[v, v2]).run Try.prog w = .ok v' w') (h : ListK Try.prog ops K k (i + 1) (a.put (some d) v') w') : ListK Try.prog ops K (k + 1) i a w := by
  refine ListK.val hi rfl ?_ h
  simp [execOp, resolve, invoke, builtin, hs, hx, hr]
noncomputable def opsRr0 : Array Oper := (Try.f22.body.bind (regionOf 0)).getD #[]
noncomputable def opsRr1 : Array Oper := (Try.f22.body.bind (regionOf 1)).getD #[]
noncomputable def opsRr2 : Array Oper := (Try.f22.body.bind (regionOf 2)).getD #[]
noncomputable def opsRr3 : Array Oper := (Try.f22.body.bind (regionOf 3)).getD #[]
noncomputable def opsRr4 : Array Oper := (Try.f22.body.bind (regionOf 4)).getD #[]
noncomputable def opsRr5 : Array Oper := (Try.f22.body.bind (regionOf 5)).getD #[]
noncomputable def opsRr6 : Array Oper := (Try.f22.body.bind (regionOf 6)).getD #[]
noncomputable def opsRr7 : Array Oper := (Try.f22.body.bind (regionOf 7)).getD #[]
noncomputable def opsRr8 : Array Oper := (Try.f22.body.bind (regionOf 8)).getD #[]
noncomputable def opsRr9 : Array Oper := (Try.f22.body.bind (regionOf 9)).getD #[]
noncomputable def opsRr10 : Array Oper := (Try.f22.body.bind (regionOf 10)).getD #[]
noncomputable def rr_i : Code := (.seq (.seq (.region 6 opsRr6 false) (.cond (.tmp 44) .skip (.exit 2))) (.seq (.block 3 (.region 8 opsRr8 false)) (.region 7 opsRr7 false)))
noncomputable def rr_l : Code := (.seq (.seq (.region 3 opsRr3 false) (.cond (.tmp 24) .skip (.exit 0))) (.seq (.block 1 (.seq (.seq (.region 5 opsRr5 false) (.block 2 (.loop rr_i))) (.region 9 opsRr9 false))) (.region 4 opsRr4 false)))
noncomputable def code22 : Code := (.seq (.region 0 opsRr0 false) (.seq (.region 1 opsRr1 false) (.seq (.seq (.region 2 opsRr2 false) (.block 0 (.loop rr_l))) (.seq (.region 10 opsRr10 false) .ret))))
theorem body22 : Try.f22.body = some code22 := by kernel_rfl
theorem OS.base {W0 W1 W : World} {v : Value} {L : List (List UInt8)} (h : OS W1 v L W) (hb : Below W0.heap.size W0 W1) : OS W0 v L W := ⟨hb.trans (h.low.mono hb.size), ownsRow_base h.own hb.size⟩
theorem os_new {W1 W : World} {l : List UInt8} (hb : Below W1.heap.size W1 W) : OS W1 (.slice (some ⟨W.heap.size, 0, none⟩) 1 1) [l] (W.alloc (.cells #[strV l] 9)) :=
  ⟨hb.trans ((Below.refl W.heap.size W).alloc (Nat.le_refl _) _ |>.mono hb.size), rfl, .inr ⟨W.heap.size, 1, #[strV l], rfl, hb.size, World.alloc_heap_new _ _, Nat.le_refl _, by decide, rfl, rfl⟩⟩
section
variable {s : Ser} {W1 : World} {b3 c wd st b : Nat} {A : Option Addr}
set_option maxHeartbeats 400000 in
theorem rr_i_any {i : Nat} {v : Value} {a : Act} {W2 : World} {Q : Exit → Act → World → Prop} (hl : s.rd.length ≤ 40) (hw : s.width = wd) (hst : s.step = st) (hw1 : 1 ≤ wd) (hw8 : wd ≤ 8) (hin : ∀ (j : Nat) (x : Int), s.rd[j]? = some x → 0 ≤ x ∧ x ≤ 99)
    (wb : Whole W1 b3 24 #[.int .i64 (wd : Int), .int .i64 (st : Int), .slice A s.rd.length c]) (hs : IntsAt W1 W1.heap.size A s.rd) (hb40 : b ≤ 40) (hi : b * wd ≤ i) (hi2 : i ≤ b * wd + wd) (hi3 : i ≤ s.rd.length ∨ i = b * wd) (hbl : b * wd < s.rd.length)
    (hz : a.tmps.size = 66) (hd_a : a.defers = []) (t1 : a.eval (.tmp 1) = ptr b3) (t3 : a.eval (.tmp 3) = v) (t4 : a.eval (.tmp 4) = .int .i64 (b : Int)) (t5 : a.eval (.tmp 5) = .int .i64 (i : Int)) (os : OS W1 v (recsIn s b i) W2)
    (hN : i < s.rd.length → i < b * wd + wd → ∀ a' W' v', a'.tmps.size = 66 → a'.defers = [] → a'.eval (.tmp 1) = ptr b3 → a'.eval (.tmp 3) = v' → a'.eval (.tmp 4) = .int .i64 (b : Int) → a'.eval (.tmp 5) = .int .i64 ((i + 1 : Nat) : Int) → OS W1 v' (recsIn s b (i + 1)) W' → Q .normal a' W')
    (hX : (i = s.rd.length ∨ i = b * wd + wd) → ∀ a', a'.tmps.size = 66 → a'.defers = [] → a'.eval (.tmp 1) = ptr b3 → a'.eval (.tmp 3) = v → a'.eval (.tmp 4) = .int .i64 (b : Int) → Q (.exit 2) a' W2) :
    rr_i.wpIn Fence.wide 5 Try.prog Q a W2 := by
  have em1 : ((b : Int) + 1) * (wd : Int) = ((b * wd + wd : Nat) : Int) := by rw [Int.add_mul]; push_cast; omega
  have wb2 := wb.below os.low wb.lt
  have hs2 := hs.below os.low (Nat.le_refl _)
  unfold rr_i
  by_cases hil : i < s.rd.length
  · by_cases hiw : i < b * wd + wd
    · skip
      refine wpIn_seq (wpIn_seq (region_p 14 ?_))
      intro K hK
      refine ListK.move (i := 0) (v := .int .i64 (i : Int)) rfl (by simp [t5]) ?_
      refine ListK.field (i := 1) (u := .pointer (some ⟨b3, 0, none⟩)) (v := .pointer (some ⟨b3, 2, none⟩)) rfl (by simp [t1]) (fa24_2 _) ?_
      refine ListK.load (i := 2) (p := ⟨b3, 2, none⟩) (v := .slice A s.rd.length c) rfl (by simp [hz]) (ld22 (wb2.cell 2)) ?_
      refine ListK.len (i := 3) (u := .slice A s.rd.length c) (v := .int .i64 s.rd.length) rfl (by simp [hz]) (ln22 _ _ _ _ _) rfl ?_
      refine ListK.bin (i := 4) (u := .int .i64 (i : Int)) (u' := .int .i64 s.rd.length) (v := .bool true) rfl (by simp [hz]) (by simp [hz]) (lssT3 (by omega) _) ?_
      refine ListK.move (i := 5) (v := .bool true) rfl (by simp [hz]) ?_
      refine ListK.move (i := 6) (v := .int .i64 (i : Int)) rfl (by simp [t5]) ?_ (hw := wanted_g (e := 36) (b' := true) rfl (by simp [hz]) rfl)
      refine ListK.move (i := 7) (v := .int .i64 (b : Int)) rfl (by simp [t4]) ?_ (hw := wanted_g (e := 36) (b' := true) rfl (by simp [hz]) rfl)
      refine ListK.bin (i := 8) (u := .int .i64 (b : Int)) (u' := .int .i64 1) (v := .int .i64 ((b : Int) + 1)) rfl (by simp [hz]) (by simp) (add3 (by omega) (by omega) _) ?_ (hw := wanted_g (e := 36) (b' := true) rfl (by simp [hz]) rfl)
      refine ListK.field (i := 9) (u := .pointer (some ⟨b3, 0, none⟩)) (v := .pointer (some ⟨b3, 0, none⟩)) rfl (by simp [t1]) (fa24_0 _) ?_ (hw := wanted_g (e := 36) (b' := true) rfl (by simp [hz]) rfl)
      refine ListK.load (i := 10) (p := ⟨b3, 0, none⟩) (v := .int .i64 (wd : Int)) rfl (by simp [hz]) (ld3 (wb2.cell 0)) ?_ (hw := wanted_g (e := 36) (b' := true) rfl (by simp [hz]) rfl)
      refine ListK.bin (i := 11) (u := .int .i64 ((b : Int) + 1)) (u' := .int .i64 (wd : Int)) (v := .int .i64 ((b * wd + wd : Nat) : Int)) rfl (by simp [hz]) (by simp [hz]) (by rw [← em1]; exact mul3 (by omega) (by omega) _) ?_ (hw := wanted_g (e := 36) (b' := true) rfl (by simp [hz]) rfl)
      refine ListK.bin (i := 12) (u := .int .i64 (i : Int)) (u' := .int .i64 ((b * wd + wd : Nat) : Int)) (v := .bool true) rfl (by simp [hz]) (by simp [hz]) (lssT3 (by omega) _) ?_ (hw := wanted_g (e := 36) (b' := true) rfl (by simp [hz]) rfl)
      refine ListK.pick (i := 13) (b := true) (v := .bool true) rfl (by simp [hz]) (by simp [hz]) ?_
      refine ListK.done (hK _ _ ?_)
      clear hK K
      refine wpIn_cond (t := true) (by simp [hz]) (wpIn_skip ?_)
      generalize hA : Act.put _ _ _ = a1
      have hz_a1 : a1.tmps.size = 66 := by rw [← hA]; simp only [size_put, hz]
      have u1 : a1.eval (.tmp 1) = .pointer (some ⟨b3, 0, none⟩) := by rw [← hA]; exact (by simp [t1])
      have u3 : a1.eval (.tmp 3) = v := by rw [← hA]; exact (by simp [t3])
      have u4 : a1.eval (.tmp 4) = .int .i64 (b : Int) := by rw [← hA]; exact (by simp [t4])
      have u5 : a1.eval (.tmp 5) = .int .i64 (i : Int) := by rw [← hA]; exact (by simp [t5])
      have hd_a1 : a1.defers = [] := by rw [← hA]; simp only [defers_put, hd_a]
      clear hA
      have e1 : s.rd[i]? = some s.rd[i] := List.getElem?_eq_getElem hil
      have i1 := hin _ _ e1
      obtain ⟨x, hx⟩ : ∃ x : Nat, s.rd[i] = (x : Int) := ⟨s.rd[i].toNat, by omega⟩
      have hgd : (s.rd.getD i 0).toNat = x := by
        rw [List.getD_eq_getElem?_getD, e1, hx]
        simp
      obtain ⟨gb, off, rfl, hgb, c1⟩ := hs2 i _ e1
      rw [hx] at c1
      refine wpIn_seq (wpIn_block ?_)
      have hnx := recsIn_next (b := b) hw hw1 hi hiw hil
      rw [hgd] at hnx
      have hlen := recsIn_len s b i
      refine region_p 11 ?_
      intro K hK
      refine ListK.move (i := 0) (v := v) rfl (by simp [u3]) ?_
      refine ListK.move (i := 1) (v := .int .i64 (i : Int)) rfl (by simp [u5]) ?_
      refine ListK.field (i := 2) (u := .pointer (some ⟨b3, 0, none⟩)) (v := .pointer (some ⟨b3, 2, none⟩)) rfl (by simp [u1]) (fa24_2 _) ?_
      refine ListK.load (i := 3) (p := ⟨b3, 2, none⟩) (v := .slice (some ⟨gb, off, none⟩) s.rd.length c) rfl (by simp [hz_a1]) (ld22 (wb2.cell 2)) ?_
      refine ListK.move (i := 4) (v := .int .i64 (i : Int)) rfl (by simp [u5]) ?_
      refine ListK.index (i := 5) (u := .slice (some ⟨gb, off, none⟩) s.rd.length c) (u' := .int .i64 (i : Int)) (v := .pointer (some ⟨gb, off + i, none⟩)) rfl (by simp [hz_a1]) (by simp [hz_a1]) (ix22 hil _) ?_
      refine ListK.load (i := 6) (p := ⟨gb, off + i, none⟩) (v := .int .i64 (x : Int)) rfl (by simp [hz_a1]) (ld3 (c1)) ?_
      refine ListK.call (i := 7) (vs := #[strV [82], .int .i64 (i : Int), .int .i64 (x : Int)]) rfl (enters_of Try.func27 (by kernel_rfl) rfl) (by simp [hz_a1]) ((refRecord_any 82 i x (by omega) (by omega) W2).mono ?_)
      rintro _ W3 ⟨rfl, hb3⟩
      obtain ⟨v4, W4, hap, os4⟩ := app36_run (l := made 82 i x) (b := W3.heap.size) (c := 1) (ty := 36) ((os.below hb3).below ((Below.refl W3.heap.size W3).alloc (Nat.le_refl _) (.cells #[strV (made 82 i x)] 9))) ((Whole.new W3 9 #[strV (made 82 i x)]).cell 0) (by omega)
      refine ⟨_, rfl, ?_⟩
      refine ListK.bsl (i := 8) (ps := #[(0, strV (made 82 i x))]) (v := .slice (some ⟨W3.heap.size, 0, none⟩) 1 1) rfl (by simp [hz_a1]) (bs36_1 _ W3) ?_
      refine ListK.app36 (i := 9) rfl (by simp [hz_a1]) (by simp [hz_a1]) hap ?_
      refine ListK.assign (i := 10) (v := v4) rfl (by simp [hz_a1]) ?_
      refine ListK.done (hK _ _ ?_)
      clear hK K
      rw [hnx] at os4
      generalize hA : Act.put _ _ _ = a2
      have hz_a2 : a2.tmps.size = 66 := by rw [← hA]; simp only [size_put, hz_a1]
      have q1 : a2.eval (.tmp 1) = .pointer (some ⟨b3, 0, none⟩) := by rw [← hA]; exact (by simp [u1])
      have q3 : a2.eval (.tmp 3) = v4 := by rw [← hA]; exact (by simp [hz_a1])
      have q4 : a2.eval (.tmp 4) = .int .i64 (b : Int) := by rw [← hA]; exact (by simp [u4])
      have q5 : a2.eval (.tmp 5) = .int .i64 (i : Int) := by rw [← hA]; exact (by simp [u5])
      have hd_a2 : a2.defers = [] := by rw [← hA]; simp only [defers_put, hd_a1]
      clear hA
      refine region_p 3 ?_
      intro K hK
      refine ListK.move (i := 0) (v := .int .i64 (i : Int)) rfl (by simp [q5]) ?_
      refine ListK.bin (i := 1) (u := .int .i64 (i : Int)) (u' := .int .i64 1) (v := .int .i64 ((i + 1 : Nat) : Int)) rfl (by simp [hz_a2]) (by simp) (add3 (by omega) (by omega) _) ?_
      refine ListK.assign (i := 2) (v := .int .i64 ((i + 1 : Nat) : Int)) rfl (by simp [hz_a2]) ?_
      refine ListK.done (hK _ _ ?_)
      clear hK K
      exact hN hil hiw _ W4 v4 (by simp only [size_put, hz_a2]) (by simp only [defers_put, hd_a2]) (by simp [q1]) (by simp [q3]) (by simp [q4]) (by simp [hz_a2]) os4
    · skip
      refine wpIn_seq (wpIn_seq (region_p 14 ?_))
      intro K hK
      refine ListK.move (i := 0) (v := .int .i64 (i : Int)) rfl (by simp [t5]) ?_
      refine ListK.field (i := 1) (u := .pointer (some ⟨b3, 0, none⟩)) (v := .pointer (some ⟨b3, 2, none⟩)) rfl (by simp [t1]) (fa24_2 _) ?_
      refine ListK.load (i := 2) (p := ⟨b3, 2, none⟩) (v := .slice A s.rd.length c) rfl (by simp [hz]) (ld22 (wb2.cell 2)) ?_
      refine ListK.len (i := 3) (u := .slice A s.rd.length c) (v := .int .i64 s.rd.length) rfl (by simp [hz]) (ln22 _ _ _ _ _) rfl ?_
      refine ListK.bin (i := 4) (u := .int .i64 (i : Int)) (u' := .int .i64 s.rd.length) (v := .bool true) rfl (by simp [hz]) (by simp [hz]) (lssT3 (by omega) _) ?_
      refine ListK.move (i := 5) (v := .bool true) rfl (by simp [hz]) ?_
      refine ListK.move (i := 6) (v := .int .i64 (i : Int)) rfl (by simp [t5]) ?_ (hw := wanted_g (e := 36) (b' := true) rfl (by simp [hz]) rfl)
      refine ListK.move (i := 7) (v := .int .i64 (b : Int)) rfl (by simp [t4]) ?_ (hw := wanted_g (e := 36) (b' := true) rfl (by simp [hz]) rfl)
      refine ListK.bin (i := 8) (u := .int .i64 (b : Int)) (u' := .int .i64 1) (v := .int .i64 ((b : Int) + 1)) rfl (by simp [hz]) (by simp) (add3 (by omega) (by omega) _) ?_ (hw := wanted_g (e := 36) (b' := true) rfl (by simp [hz]) rfl)
      refine ListK.field (i := 9) (u := .pointer (some ⟨b3, 0, none⟩)) (v := .pointer (some ⟨b3, 0, none⟩)) rfl (by simp [t1]) (fa24_0 _) ?_ (hw := wanted_g (e := 36) (b' := true) rfl (by simp [hz]) rfl)
      refine ListK.load (i := 10) (p := ⟨b3, 0, none⟩) (v := .int .i64 (wd : Int)) rfl (by simp [hz]) (ld3 (wb2.cell 0)) ?_ (hw := wanted_g (e := 36) (b' := true) rfl (by simp [hz]) rfl)
      refine ListK.bin (i := 11) (u := .int .i64 ((b : Int) + 1)) (u' := .int .i64 (wd : Int)) (v := .int .i64 ((b * wd + wd : Nat) : Int)) rfl (by simp [hz]) (by simp [hz]) (by rw [← em1]; exact mul3 (by omega) (by omega) _) ?_ (hw := wanted_g (e := 36) (b' := true) rfl (by simp [hz]) rfl)
      refine ListK.bin (i := 12) (u := .int .i64 (i : Int)) (u' := .int .i64 ((b * wd + wd : Nat) : Int)) (v := .bool false) rfl (by simp [hz]) (by simp [hz]) (lssF3 (by omega) _) ?_ (hw := wanted_g (e := 36) (b' := true) rfl (by simp [hz]) rfl)
      refine ListK.pick (i := 13) (b := true) (v := .bool false) rfl (by simp [hz]) (by simp [hz]) ?_
      refine ListK.done (hK _ _ ?_)
      clear hK K
      refine wpIn_cond (t := false) (by simp [hz]) (wpIn_exit ?_)
      exact hX (.inr (by omega)) _ (by simp only [size_put, hz]) (by simp only [defers_put, hd_a]) (by simp [t1]) (by simp [t3]) (by simp [t4])
  · skip
    refine wpIn_seq (wpIn_seq (region_p 14 ?_))
    intro K hK
    refine ListK.move (i := 0) (v := .int .i64 (i : Int)) rfl (by simp [t5]) ?_
    refine ListK.field (i := 1) (u := .pointer (some ⟨b3, 0, none⟩)) (v := .pointer (some ⟨b3, 2, none⟩)) rfl (by simp [t1]) (fa24_2 _) ?_
    refine ListK.load (i := 2) (p := ⟨b3, 2, none⟩) (v := .slice A s.rd.length c) rfl (by simp [hz]) (ld22 (wb2.cell 2)) ?_
    refine ListK.len (i := 3) (u := .slice A s.rd.length c) (v := .int .i64 s.rd.length) rfl (by simp [hz]) (ln22 _ _ _ _ _) rfl ?_
    refine ListK.bin (i := 4) (u := .int .i64 (i : Int)) (u' := .int .i64 s.rd.length) (v := .bool false) rfl (by simp [hz]) (by simp [hz]) (lssF3 (by omega) _) ?_
    refine ListK.move (i := 5) (v := .bool false) rfl (by simp [hz]) ?_
    refine ListK.passG (i := 6) (e := 36) (b' := false) rfl rfl (by simp [hz]) rfl ?_
    refine ListK.passG (i := 7) (e := 36) (b' := false) rfl rfl (by simp [hz]) rfl ?_
    refine ListK.passG (i := 8) (e := 36) (b' := false) rfl rfl (by simp [hz]) rfl ?_
    refine ListK.passG (i := 9) (e := 36) (b' := false) rfl rfl (by simp [hz]) rfl ?_
    refine ListK.passG (i := 10) (e := 36) (b' := false) rfl rfl (by simp [hz]) rfl ?_
    refine ListK.passG (i := 11) (e := 36) (b' := false) rfl rfl (by simp [hz]) rfl ?_
    refine ListK.passG (i := 12) (e := 36) (b' := false) rfl rfl (by simp [hz]) rfl ?_
    refine ListK.pick (i := 13) (b := false) (v := .bool false) rfl (by simp [hz]) (by simp) ?_
    refine ListK.done (hK _ _ ?_)
    clear hK K
    refine wpIn_cond (t := false) (by simp [hz]) (wpIn_exit ?_)
    exact hX (.inl (by omega)) _ (by simp only [size_put, hz]) (by simp only [defers_put, hd_a]) (by simp [t1]) (by simp [t3]) (by simp [t4])
end
end Go.Proofs.YtmdlmmfbcnkanaaR
namespace Go.Proofs.YtmdlmmfbcnkanaaR
open Go.RowKit Go.Shelf
set_option maxHeartbeats 400000 in
theorem refRecords_any (s : Ser) (A : Option Addr) (c : Nat) (W : World) (hf : faultS s = 0) (hs : IntsAt W W.heap.size A s.rd) : Calls Try.prog 22 #[serV s A c] W (fun e w' => ∃ v, e = .returned v ∧ OS W v (fileL s) w') := by
  obtain ⟨hl, hwi, hsi, hin, _⟩ := ser_valid hf
  obtain ⟨wd, hw⟩ : ∃ wd : Nat, s.width = wd := ⟨s.width.toNat, by omega⟩
  obtain ⟨st, hst⟩ : ∃ st : Nat, s.step = st := ⟨s.step.toNat, by omega⟩
  have hwn : s.width.toNat = wd := by omega
  have hsn : s.step.toNat = st := by omega
  unfold serV
  rw [hw, hst]
  refine (callsIn_wide (n := 5)).1 (callsIn_of_wp Try.func22 body22 trivial ?_ rfl)
  obtain ⟨a, ha⟩ : ∃ a : Act, a = { tmps := #[.agg #[.int .i64 (wd : Int), .int .i64 (st : Int), .slice A s.rd.length c]] ++ Array.replicate (Try.f22.ntmps - (#[.agg #[.int .i64 (wd : Int), .int .i64 (st : Int), .slice A s.rd.length c]] : Array Value).size) undef, defers := [] } := ⟨_, rfl⟩
  have hsz : a.tmps.size = 66 := by rw [ha]; simp [Try.ntmps22]
  have t0 : a.eval (.tmp 0) = .agg #[.int .i64 (wd : Int), .int .i64 (st : Int), .slice A s.rd.length c] := by rw [ha]; simp [Act.eval]
  have hd_a : a.defers = [] := by rw [ha]
  rw [← ha]
  clear ha
  unfold code22
  refine wpIn_seq (region_p 2 ?_)
  intro K hK
  refine ListK.box (i := 0) (u := .agg #[.int .i64 (wd : Int), .int .i64 (st : Int), .slice A s.rd.length c]) rfl (by simp [t0]) (bx24 W _ _ _ _ _) ?_
  refine ListK.assign (i := 1) (v := .slice none 0 0) rfl (by simp) ?_
  refine ListK.done (hK _ _ ?_)
  clear hK K
  replace hs : IntsAt (W.alloc (.cells #[.int .i64 (wd : Int), .int .i64 (st : Int), .slice A s.rd.length c] 24)) W.heap.size A s.rd := hs.below ((Below.refl W.heap.size W).alloc (Nat.le_refl _) _) (Nat.le_refl _)
  have wb := Whole.new W 24 #[.int .i64 (wd : Int), .int .i64 (st : Int), .slice A s.rd.length c]
  have hb_b3 : Below W.heap.size W (W.alloc (.cells #[.int .i64 (wd : Int), .int .i64 (st : Int), .slice A s.rd.length c] 24)) := (Below.refl _ W).alloc (Nat.le_refl _) _
  have hB := hb_b3
  generalize hq_b3 : W.heap.size = b3 at *
  generalize W.alloc (.cells #[.int .i64 (wd : Int), .int .i64 (st : Int), .slice A s.rd.length c] 24) = W1 at *
  have hsz1 := hB.size
  replace hs := hs.more (show b3 ≤ W1.heap.size by omega)
  generalize hA : Act.put _ _ _ = a1
  have hz_a1 : a1.tmps.size = 66 := by rw [← hA]; simp only [size_put, hsz]
  have u1 : a1.eval (.tmp 1) = .pointer (some ⟨b3, 0, none⟩) := by rw [← hA]; exact (by simp [hsz])
  have hd_a1 : a1.defers = [] := by rw [← hA]; simp only [defers_put, hd_a]
  clear hA
  have hr0 : recsTo s 0 = [made 72 s.rd.length (10 * wd + st)] := by simp [recsTo, hwn, hsn]
  refine wpIn_seq (region_p 12 ?_)
  intro K hK
  refine ListK.field (i := 0) (u := .pointer (some ⟨b3, 0, none⟩)) (v := .pointer (some ⟨b3, 2, none⟩)) rfl (by simp [u1]) (fa24_2 _) ?_
  refine ListK.load (i := 1) (p := ⟨b3, 2, none⟩) (v := .slice A s.rd.length c) rfl (by simp [hz_a1]) (ld22 (wb.cell 2)) ?_
  refine ListK.len (i := 2) (u := .slice A s.rd.length c) (v := .int .i64 s.rd.length) rfl (by simp [hz_a1]) (ln22 _ _ _ _ _) rfl ?_
  refine ListK.field (i := 3) (u := .pointer (some ⟨b3, 0, none⟩)) (v := .pointer (some ⟨b3, 0, none⟩)) rfl (by simp [u1]) (fa24_0 _) ?_
  refine ListK.load (i := 4) (p := ⟨b3, 0, none⟩) (v := .int .i64 (wd : Int)) rfl (by simp [hz_a1]) (ld3 (wb.cell 0)) ?_
  refine ListK.bin (i := 5) (u := .int .i64 10) (u' := .int .i64 (wd : Int)) (v := .int .i64 ((10 * wd : Nat) : Int)) rfl (by simp) (by simp [hz_a1]) (by rw [show ((10 * wd : Nat) : Int) = 10 * (wd : Int) by omega]; exact mul3 (by omega) (by omega) _) ?_
  refine ListK.field (i := 6) (u := .pointer (some ⟨b3, 0, none⟩)) (v := .pointer (some ⟨b3, 1, none⟩)) rfl (by simp [u1]) (fa24_1 _) ?_
  refine ListK.load (i := 7) (p := ⟨b3, 1, none⟩) (v := .int .i64 (st : Int)) rfl (by simp [hz_a1]) (ld3 (wb.cell 1)) ?_
  refine ListK.bin (i := 8) (u := .int .i64 ((10 * wd : Nat) : Int)) (u' := .int .i64 (st : Int)) (v := .int .i64 ((10 * wd + st : Nat) : Int)) rfl (by simp [hz_a1]) (by simp [hz_a1]) (add3e (by omega) (by omega) (by omega) _) ?_
  refine ListK.call (i := 9) (vs := #[strV [72], .int .i64 s.rd.length, .int .i64 ((10 * wd + st : Nat) : Int)]) rfl (enters_of Try.func27 (by kernel_rfl) rfl) (by simp [hz_a1]) ((refRecord_any 72 s.rd.length (10 * wd + st) (by omega) (by omega) W1).mono ?_)
  rintro _ W2 ⟨rfl, hb2⟩
  refine ⟨_, rfl, ?_⟩
  refine ListK.bsl (i := 10) (ps := #[(0, strV (made 72 s.rd.length (10 * wd + st)))]) (v := .slice (some ⟨W2.heap.size, 0, none⟩) 1 1) rfl (by simp [hz_a1]) (bs36_1 _ W2) ?_
  refine ListK.assign (i := 11) (v := .slice (some ⟨W2.heap.size, 0, none⟩) 1 1) rfl (by simp [hz_a1]) ?_
  refine ListK.done (hK _ _ ?_)
  clear hK K
  have os0 := os_new (l := made 72 s.rd.length (10 * wd + st)) hb2
  rw [← hr0] at os0
  generalize W2.alloc (.cells #[strV (made 72 s.rd.length (10 * wd + st))] 9) = W3 at *
  generalize hA : Act.put _ _ _ = a2
  have hz_a2 : a2.tmps.size = 66 := by rw [← hA]; simp only [size_put, hz_a1]
  have v1 : a2.eval (.tmp 1) = .pointer (some ⟨b3, 0, none⟩) := by rw [← hA]; exact (by simp [u1])
  have v3 : a2.eval (.tmp 3) = .slice (some ⟨W2.heap.size, 0, none⟩) 1 1 := by rw [← hA]; exact (by simp [hz_a1])
  have hd_a2 : a2.defers = [] := by rw [← hA]; simp only [defers_put, hd_a1]
  clear hA
  refine wpIn_seq (wpIn_seq (region_p 1 ?_))
  intro K hK
  refine ListK.assign (i := 0) (v := .int .i64 0) rfl (by simp) ?_
  refine ListK.done (hK _ _ ?_)
  clear hK K
  generalize hA : Act.put _ _ _ = a3
  have hz_a3 : a3.tmps.size = 66 := by rw [← hA]; simp only [size_put, hz_a2]
  have q1 : a3.eval (.tmp 1) = .pointer (some ⟨b3, 0, none⟩) := by rw [← hA]; exact (by simp [v1])
  have q3 : a3.eval (.tmp 3) = .slice (some ⟨W2.heap.size, 0, none⟩) 1 1 := by rw [← hA]; exact (by simp [v3])
  have q4 : a3.eval (.tmp 4) = .int .i64 0 := by rw [← hA]; exact (by simp [hz_a2])
  have hd_a3 : a3.defers = [] := by rw [← hA]; simp only [defers_put, hd_a2]
  clear hA
  refine wpIn_block (wpIn_loop (fun a W' => ∃ (b : Nat) (v : Value), b ≤ (s.rd.length + wd - 1) / wd ∧ a.tmps.size = 66 ∧ a.defers = [] ∧ a.eval (.tmp 1) = ptr b3 ∧ a.eval (.tmp 3) = v ∧ a.eval (.tmp 4) = .int .i64 (b : Int) ∧ OS W1 v (recsTo s (min s.rd.length (b * wd))) W') (fun a _ => (s.rd.length + wd - 1) / wd - (intOf (a.eval (.tmp 4))).toNat)
    ⟨0, _, Nat.zero_le _, hz_a3, hd_a3, q1, q3, q4, by rw [Nat.zero_mul, Nat.min_zero]; exact os0⟩ ?_)
  rintro b1 W4 ⟨b, v, hb, hz_b1, hd_b1, r1, r3, r4, os⟩
  unfold rr_l
  have hq40 : (s.rd.length + wd - 1) / wd ≤ 40 := by
    refine Nat.le_trans (Nat.div_le_div_left (c := 2) (by omega) (by omega)) ?_
    omega
  have hbw : b * wd ≤ 40 * 8 := Nat.mul_le_mul (by omega) (by omega)
  have em : (b : Int) * (wd : Int) = ((b * wd : Nat) : Int) := by push_cast; rfl
  have wb4 := wb.below os.low wb.lt
  by_cases hlt : b < (s.rd.length + wd - 1) / wd
  · have hbl : b * wd < s.rd.length := by
      have := (Nat.le_div_iff_mul_le (by omega)).1 (show b + 1 ≤ (s.rd.length + wd - 1) / wd from hlt)
      rw [Nat.add_mul] at this
      omega
    refine wpIn_seq (wpIn_seq (region_p 8 ?_))
    intro K hK
    refine ListK.move (i := 0) (v := .int .i64 (b : Int)) rfl (by simp [r4]) ?_
    refine ListK.field (i := 1) (u := .pointer (some ⟨b3, 0, none⟩)) (v := .pointer (some ⟨b3, 2, none⟩)) rfl (by simp [r1]) (fa24_2 _) ?_
    refine ListK.load (i := 2) (p := ⟨b3, 2, none⟩) (v := .slice A s.rd.length c) rfl (by simp [hz_b1]) (ld22 (wb4.cell 2)) ?_
    refine ListK.len (i := 3) (u := .slice A s.rd.length c) (v := .int .i64 s.rd.length) rfl (by simp [hz_b1]) (ln22 _ _ _ _ _) rfl ?_
    refine ListK.field (i := 4) (u := .pointer (some ⟨b3, 0, none⟩)) (v := .pointer (some ⟨b3, 0, none⟩)) rfl (by simp [r1]) (fa24_0 _) ?_
    refine ListK.load (i := 5) (p := ⟨b3, 0, none⟩) (v := .int .i64 (wd : Int)) rfl (by simp [hz_b1]) (ld3 (wb4.cell 0)) ?_
    refine ListK.call (i := 6) (vs := #[.int .i64 s.rd.length, .int .i64 (wd : Int)]) rfl (enters_of Try.func53 (by kernel_rfl) rfl) (by simp [hz_b1]) ((refBlocks_any s.rd.length wd (by omega) (by omega) W4).mono ?_)
    rintro _ _ ⟨rfl, hWe⟩
    subst hWe
    refine ⟨_, rfl, ?_⟩
    refine ListK.bin (i := 7) (u := .int .i64 (b : Int)) (u' := .int .i64 (((s.rd.length + wd - 1) / wd : Nat) : Int)) (v := .bool true) rfl (by simp [hz_b1]) (by simp [hz_b1]) (lssT3 (by omega) _) ?_
    refine ListK.done (hK _ _ ?_)
    clear hK K
    refine wpIn_cond (t := true) (by simp [hz_b1]) (wpIn_skip ?_)
    generalize hA : Act.put _ _ _ = b2
    have hz_b2 : b2.tmps.size = 66 := by rw [← hA]; simp only [size_put, hz_b1]
    have o1 : b2.eval (.tmp 1) = .pointer (some ⟨b3, 0, none⟩) := by rw [← hA]; exact (by simp [r1])
    have o3 : b2.eval (.tmp 3) = v := by rw [← hA]; exact (by simp [r3])
    have o4 : b2.eval (.tmp 4) = .int .i64 (b : Int) := by rw [← hA]; exact (by simp [r4])
    have hd_b2 : b2.defers = [] := by rw [← hA]; simp only [defers_put, hd_b1]
    clear hA
    have hmin : min s.rd.length (b * wd) = b * wd := by omega
    rw [hmin, ← recsIn_start hw] at os
    refine wpIn_seq (wpIn_block (wpIn_seq (wpIn_seq ?_)))
    refine region_p 5 ?_
    intro K hK
    refine ListK.move (i := 0) (v := .int .i64 (b : Int)) rfl (by simp [o4]) ?_
    refine ListK.field (i := 1) (u := .pointer (some ⟨b3, 0, none⟩)) (v := .pointer (some ⟨b3, 0, none⟩)) rfl (by simp [o1]) (fa24_0 _) ?_
    refine ListK.load (i := 2) (p := ⟨b3, 0, none⟩) (v := .int .i64 (wd : Int)) rfl (by simp [hz_b2]) (ld3 (wb4.cell 0)) ?_
    refine ListK.bin (i := 3) (u := .int .i64 (b : Int)) (u' := .int .i64 (wd : Int)) (v := .int .i64 ((b * wd : Nat) : Int)) rfl (by simp [hz_b2]) (by simp [hz_b2]) (by rw [← em]; exact mul3 (by omega) (by omega) _) ?_
    refine ListK.assign (i := 4) (v := .int .i64 ((b * wd : Nat) : Int)) rfl (by simp [hz_b2]) ?_
    refine ListK.done (hK _ _ ?_)
    clear hK K
    generalize hA : Act.put _ _ _ = b3_
    have hz_b3_ : b3_.tmps.size = 66 := by rw [← hA]; simp only [size_put, hz_b2]
    have p1 : b3_.eval (.tmp 1) = .pointer (some ⟨b3, 0, none⟩) := by rw [← hA]; exact (by simp [o1])
    have p3 : b3_.eval (.tmp 3) = v := by rw [← hA]; exact (by simp [o3])
    have p4 : b3_.eval (.tmp 4) = .int .i64 (b : Int) := by rw [← hA]; exact (by simp [o4])
    have p5 : b3_.eval (.tmp 5) = .int .i64 ((b * wd : Nat) : Int) := by rw [← hA]; exact (by simp [hz_b2])
    have hd_b3_ : b3_.defers = [] := by rw [← hA]; simp only [defers_put, hd_b2]
    clear hA
    refine wpIn_block (wpIn_loop (fun a W' => ∃ (i : Nat) (v : Value), b * wd ≤ i ∧ i ≤ b * wd + wd ∧ (i ≤ s.rd.length ∨ i = b * wd) ∧ a.tmps.size = 66 ∧ a.defers = [] ∧ a.eval (.tmp 1) = ptr b3 ∧ a.eval (.tmp 3) = v ∧ a.eval (.tmp 4) = .int .i64 (b : Int) ∧ a.eval (.tmp 5) = .int .i64 (i : Int) ∧ OS W1 v (recsIn s b i) W') (fun a _ => b * wd + wd - (intOf (a.eval (.tmp 5))).toNat)
      ⟨b * wd, v, Nat.le_refl _, by omega, .inr rfl, hz_b3_, hd_b3_, p1, p3, p4, p5, os⟩ ?_)
    rintro d1 W5 ⟨i, v5, hi1, hi2, hi3, hz_d1, hd_d1, x1, x3, x4, x5, os5⟩
    refine rr_i_any hl.2 hw hst (by omega) (by omega) hin wb hs (by omega) hi1 hi2 hi3 hbl hz_d1 hd_d1 x1 x3 x4 x5 os5 (fun hil hiw a' W' v' y0 yd y1 y3 y4 y5 os' => ?_) (fun hend a' y0 yd y1 y3 y4 => ?_)
    · refine ⟨⟨i + 1, v', by omega, by omega, .inl (by omega), y0, yd, y1, y3, y4, y5, os'⟩, ?_⟩
      rw [x5, y5]
      simp only [intOf]
      omega
    · show (Code.region 9 opsRr9 false).wpIn _ _ _ _ _ _
      have wb5 := wb.below os5.low wb.lt
      have hs5 := hs.below os5.low (Nat.le_refl _)
      have hil : i ≤ s.rd.length := by omega
      have hie : b * wd < i := by omega
      have hrend := recsIn_end (b := b) hw (by omega) hie hend hi2 hil
      have hsb : 0 ≤ sumB s b ∧ sumB s b ≤ 99 := by unfold sumB; omega
      obtain ⟨sb, hsbe⟩ : ∃ sb : Nat, sumB s b = (sb : Int) := ⟨(sumB s b).toNat, by omega⟩
      rw [hsbe, Int.toNat_natCast] at hrend
      have hsum := refSum_any s A c b W5 hl.2 (by omega) (by omega) (by omega) hin (hs5.more os5.low.size)
      unfold serV at hsum
      rw [hw, hst, hsbe] at hsum
      have hlen := recsIn_len s b i
      refine region_p 9 ?_
      intro K hK
      refine ListK.move (i := 0) (v := v5) rfl (by simp [y3]) ?_
      refine ListK.move (i := 1) (v := .int .i64 (b : Int)) rfl (by simp [y4]) ?_
      refine ListK.load (i := 2) (p := ⟨b3, 0, none⟩) (v := .agg #[.int .i64 (wd : Int), .int .i64 (st : Int), .slice A s.rd.length c]) rfl (by simp [y1]) (ld24 ⟨wb5.cell 0, wb5.cell 1, wb5.cell 2⟩) ?_
      refine ListK.move (i := 3) (v := .int .i64 (b : Int)) rfl (by simp [y4]) ?_
      refine ListK.call (i := 4) (vs := #[.agg #[.int .i64 (wd : Int), .int .i64 (st : Int), .slice A s.rd.length c], .int .i64 (b : Int)]) rfl (enters_of Try.func54 (by kernel_rfl) rfl) (by simp [y0]) ((hsum).mono ?_)
      rintro _ W6 ⟨rfl, hb6⟩
      refine ⟨_, rfl, ?_⟩
      refine ListK.call (i := 5) (vs := #[strV [80], .int .i64 (b : Int), .int .i64 (sb : Int)]) rfl (enters_of Try.func27 (by kernel_rfl) rfl) (by simp [y0]) ((refRecord_any 80 b sb (by omega) (by omega) W6).mono ?_)
      rintro _ W7 ⟨rfl, hb7⟩
      obtain ⟨v8, W8, hap, os8⟩ := app36_run (l := made 80 b sb) (b := W7.heap.size) (c := 1) (ty := 36) (((os5.below hb6).below hb7).below ((Below.refl W7.heap.size W7).alloc (Nat.le_refl _) (.cells #[strV (made 80 b sb)] 9))) ((Whole.new W7 9 #[strV (made 80 b sb)]).cell 0) (by omega)
      refine ⟨_, rfl, ?_⟩
      refine ListK.bsl (i := 6) (ps := #[(0, strV (made 80 b sb))]) (v := .slice (some ⟨W7.heap.size, 0, none⟩) 1 1) rfl (by simp [y0]) (bs36_1 _ W7) ?_
      refine ListK.app36 (i := 7) rfl (by simp [y0]) (by simp [y0]) hap ?_
      refine ListK.assign (i := 8) (v := v8) rfl (by simp [y0]) ?_
      refine ListK.done (hK _ _ ?_)
      clear hK K
      rw [hrend] at os8
      generalize hA : Act.put _ _ _ = a4
      have hz_a4 : a4.tmps.size = 66 := by rw [← hA]; simp only [size_put, y0]
      have z1 : a4.eval (.tmp 1) = ptr b3 := by rw [← hA]; exact (by simp [y1])
      have z3 : a4.eval (.tmp 3) = v8 := by rw [← hA]; exact (by simp [y0])
      have z4 : a4.eval (.tmp 4) = .int .i64 (b : Int) := by rw [← hA]; exact (by simp [y4])
      have hd_a4 : a4.defers = [] := by rw [← hA]; simp only [defers_put, yd]
      clear hA
      refine region_p 3 ?_
      intro K hK
      refine ListK.move (i := 0) (v := .int .i64 (b : Int)) rfl (by simp [z4]) ?_
      refine ListK.bin (i := 1) (u := .int .i64 (b : Int)) (u' := .int .i64 1) (v := .int .i64 ((b + 1 : Nat) : Int)) rfl (by simp [hz_a4]) (by simp) (add3 (by omega) (by omega) _) ?_
      refine ListK.assign (i := 2) (v := .int .i64 ((b + 1 : Nat) : Int)) rfl (by simp [hz_a4]) ?_
      refine ListK.done (hK _ _ ?_)
      clear hK K
      have hm2 : min s.rd.length ((b + 1) * wd) = i := by rw [Nat.add_mul]; omega
      refine ⟨⟨b + 1, v8, by omega, (by simp only [size_put, hz_a4]), (by simp only [defers_put, hd_a4]), (by simp [z1]), (by simp [z3]), (by simp [hz_a4]), by rw [hm2]; exact os8⟩, ?_⟩
      rw [r4, show (Act.put _ _ _).eval (.tmp 4) = .int .i64 ((b + 1 : Nat) : Int) from (by simp [hz_a4])]
      simp only [intOf]
      omega
  · have hbe : b = (s.rd.length + wd - 1) / wd := by omega
    have hbl : s.rd.length ≤ b * wd := by
      rw [← Nat.not_lt]
      intro h
      have : b + 1 ≤ (s.rd.length + wd - 1) / wd := (Nat.le_div_iff_mul_le (by omega)).2 (by rw [Nat.add_mul]; omega)
      omega
    refine wpIn_seq (wpIn_seq (region_p 8 ?_))
    intro K hK
    refine ListK.move (i := 0) (v := .int .i64 (b : Int)) rfl (by simp [r4]) ?_
    refine ListK.field (i := 1) (u := .pointer (some ⟨b3, 0, none⟩)) (v := .pointer (some ⟨b3, 2, none⟩)) rfl (by simp [r1]) (fa24_2 _) ?_
    refine ListK.load (i := 2) (p := ⟨b3, 2, none⟩) (v := .slice A s.rd.length c) rfl (by simp [hz_b1]) (ld22 (wb4.cell 2)) ?_
    refine ListK.len (i := 3) (u := .slice A s.rd.length c) (v := .int .i64 s.rd.length) rfl (by simp [hz_b1]) (ln22 _ _ _ _ _) rfl ?_
    refine ListK.field (i := 4) (u := .pointer (some ⟨b3, 0, none⟩)) (v := .pointer (some ⟨b3, 0, none⟩)) rfl (by simp [r1]) (fa24_0 _) ?_
    refine ListK.load (i := 5) (p := ⟨b3, 0, none⟩) (v := .int .i64 (wd : Int)) rfl (by simp [hz_b1]) (ld3 (wb4.cell 0)) ?_
    refine ListK.call (i := 6) (vs := #[.int .i64 s.rd.length, .int .i64 (wd : Int)]) rfl (enters_of Try.func53 (by kernel_rfl) rfl) (by simp [hz_b1]) ((refBlocks_any s.rd.length wd (by omega) (by omega) W4).mono ?_)
    rintro _ _ ⟨rfl, hWe⟩
    subst hWe
    refine ⟨_, rfl, ?_⟩
    refine ListK.bin (i := 7) (u := .int .i64 (b : Int)) (u' := .int .i64 (((s.rd.length + wd - 1) / wd : Nat) : Int)) (v := .bool false) rfl (by simp [hz_b1]) (by simp [hz_b1]) (lssF3 (by omega) _) ?_
    refine ListK.done (hK _ _ ?_)
    clear hK K
    refine wpIn_cond (t := false) (by simp [hz_b1]) (wpIn_exit ?_)
    have hmin : min s.rd.length (b * wd) = s.rd.length := by omega
    rw [hmin] at os
    generalize hA : Act.put _ _ _ = b2
    have hz_b2 : b2.tmps.size = 66 := by rw [← hA]; simp only [size_put, hz_b1]
    have o3 : b2.eval (.tmp 3) = v := by rw [← hA]; exact (by simp [r3])
    have hd_b2 : b2.defers = [] := by rw [← hA]; simp only [defers_put, hd_b1]
    clear hA
    refine wpIn_seq (region_p 2 ?_)
    intro K hK
    refine ListK.move (i := 0) (v := v) rfl (by simp [o3]) ?_
    refine ListK.assign (i := 1) (v := v) rfl (by simp [hz_b2]) ?_
    refine ListK.done (hK _ _ (wpIn_ret ?_))
    exact bodyPost_ret (v := v) (res1 Try.results22 (by simp [hz_b2])) (by simp only [defers_put, hd_b2]) ⟨v, rfl, os.base (by rw [hq_b3]; exact hB)⟩
end Go.Proofs.YtmdlmmfbcnkanaaR
namespace Go.Proofs.YtmdlmmfbcnkanaaR
open Go.RowKit Go.Shelf
theorem Try.und22 : Try.prog.underlying 22 = some (.slice 3) := by kernel_rfl
theorem app22i_run {W : World} {l : List Int} {A : Option Addr} {c : Nat} {ty : TypeId} (hs : IntsAt W W.heap.size A l) (hl : l.length ≤ 100000) :
    ∃ A' c' w', (Builtin.append_ #[22, 22] ty #[.slice none 0 0, .slice A l.length c]).run Try.prog W = .ok (.slice A' l.length c') w' ∧ Below W.heap.size W w' ∧ ∀ k x, l[k]? = some x → ∃ g, A' = some ⟨g, 0, none⟩ ∧ W.heap.size ≤ g ∧ g < w'.heap.size ∧ w'.cell? ⟨g, k, none⟩ = some (.int .i64 x) := by
  obtain ⟨i0, hi0, hi1, hi2, hi3⟩ := info_parts Try.info3
  by_cases hm : l = []
  · subst hm
    refine ⟨none, 0, W, ?_, Below.refl _ _, fun k x hx => by simp at hx⟩
    cases A <;> simp [Builtin.append_, run_underlying Try.und22, sizeOf, typeInfo, hi0, Builtin.lenOf, Builtin.firstCells, loadCells, loadCellsFrom]
  · have hpos : 0 < l.length := List.length_pos_iff.2 hm
    obtain ⟨b, off, rfl, _, _⟩ := hs 0 l[0] (List.getElem?_eq_getElem hpos)
    obtain ⟨g, cap, w', hr, h2, h3, h4, _⟩ := run_append_lies (P := Try.prog) W 22 ty W.heap.size 3 i0 (.int .i64 0) 1 8 Try.und22 hi0 hi1 hi2 hi3 rfl (by omega) (.slice none 0 0) 0 [] (World.ownsRow_nil _ _ _ _) ⟨b, off, none⟩ l.length c (l.map (Value.int .i64)) (by simp)
      (fun j u hu => by
        simp only [List.getElem?_map, Option.map_eq_some_iff] at hu
        obtain ⟨x, hx, rfl⟩ := hu
        obtain ⟨b', o', e, _, hc⟩ := hs j x hx
        cases e
        rw [addr_add]
        exact hc) (fun u hu => by
          obtain ⟨x, _, rfl⟩ := List.mem_map.1 hu
          rfl) hpos (by unfold maxLen; omega) (by omega) (Nat.le_refl _) W.heap.size rfl
    rw [Nat.zero_add] at hr h2
    refine ⟨some ⟨g, 0, none⟩, cap, w', hr, ⟨h3.os, h3.tape, h3.output, h3.size, fun k hk => h3.block k hk (by simp [Value.ownBlock])⟩, ?_⟩
    intro k x hx
    rcases h2.2 with ⟨h0, _⟩ | ⟨g', cap', cur, h0, hb, hg, _⟩
    · cases h0
    · cases h0
      refine ⟨g, rfl, hb, (Array.getElem?_eq_some_iff.1 hg).1, ?_⟩
      have := h2.cells (g := g) rfl k (.int .i64 x) (by simp [hx])
      rw [addr_add, Nat.zero_add] at this
      exact this
noncomputable def opsSe0 : Array Oper := (Try.f18.body.bind (regionOf 0)).getD #[]
noncomputable def opsSe1 : Array Oper := (Try.f18.body.bind (regionOf 1)).getD #[]
noncomputable def code18 : Code := (.seq (.region 0 opsSe0 false) (.seq (.region 1 opsSe1 true) .ret))
theorem body18 : Try.f18.body = some code18 := by kernel_rfl
section
attribute [local irreducible] AnyK StepK
set_option maxHeartbeats 400000 in
theorem series_any (s : Ser) (A : Option Addr) (c : Nat) (W : World) (hl : s.rd.length ≤ 100000) (hs : IntsAt W W.heap.size A s.rd) : Calls Try.prog 18 #[serV s A c] W fun e w' => ∃ A' c', e = .returned (serV s A' c') ∧ IntsAt w' w'.heap.size A' s.rd ∧ Below W.heap.size W w' := by
  refine (callsIn_wide (n := 5)).1 (callsIn_of_wp Try.func18 body18 trivial ?_ rfl)
  obtain ⟨a, ha⟩ : ∃ a : Act, a = { tmps := #[serV s A c] ++ Array.replicate (Try.f18.ntmps - (#[serV s A c] : Array Value).size) undef, defers := [] } := ⟨_, rfl⟩
  have hsz : a.tmps.size = 11 := by rw [ha]; simp [Try.ntmps18]
  have t0 : a.eval (.tmp 0) = serV s A c := by rw [ha]; simp [Act.eval]
  have hd_a : a.defers = [] := by rw [ha]
  rw [← ha]
  clear ha
  unfold code18
  refine wpIn_seq (region_p 2 ?_)
  intro K hK
  refine ListK.box (i := 0) (u := serV s A c) rfl (by simp [t0]) (bx24 W _ _ _ _ _) ?_
  refine ListK.alloc (i := 1) rfl (al29 _) ?_
  refine ListK.done (hK _ _ ?_)
  clear hK K
  replace hs : IntsAt (W.alloc (.cells #[.int .i64 s.width, .int .i64 s.step, .slice A s.rd.length c] 24)) W.heap.size A s.rd := hs.below ((Below.refl W.heap.size W).alloc (Nat.le_refl _) _) (Nat.le_refl _)
  have w1 := Whole.new W 24 #[.int .i64 s.width, .int .i64 s.step, .slice A s.rd.length c]
  have hb_b1 : Below W.heap.size W (W.alloc (.cells #[.int .i64 s.width, .int .i64 s.step, .slice A s.rd.length c] 24)) := (Below.refl _ W).alloc (Nat.le_refl _) _
  have hB := hb_b1
  generalize hq_b1 : W.heap.size = b1 at *
  generalize W.alloc (.cells #[.int .i64 s.width, .int .i64 s.step, .slice A s.rd.length c] 24) = W1 at *
  have hsz1 := hB.size
  replace hs : IntsAt (W1.alloc (.cells #[.int .i64 0, .int .i64 0, .slice none 0 0] 29)) b1 A s.rd := hs.below ((Below.refl W1.heap.size W1).alloc (Nat.le_refl _) _) (by omega)
  have w2 := Whole.new W1 29 #[.int .i64 0, .int .i64 0, .slice none 0 0]
  have hb_b2 : Below W1.heap.size W1 (W1.alloc (.cells #[.int .i64 0, .int .i64 0, .slice none 0 0] 29)) := (Below.refl _ W1).alloc (Nat.le_refl _) _
  replace hB := hB.trans (hb_b2.mono (by have := hB.size; omega))
  have hl_b1_b2 : b1 < W1.heap.size := w1.lt
  replace w1 := w1.below hb_b2 w1.lt
  generalize hq_b2 : W1.heap.size = b2 at *
  generalize W1.alloc (.cells #[.int .i64 0, .int .i64 0, .slice none 0 0] 29) = W2 at *
  have hn_b1_b2 : b1 ≠ b2 := by omega
  have hsz2 := hB.size
  generalize hA : Act.put _ _ _ = a1
  have hz_a1 : a1.tmps.size = 11 := by rw [← hA]; simp only [size_put, hsz]
  have u1 : a1.eval (.tmp 1) = .pointer (some ⟨b1, 0, none⟩) := by rw [← hA]; exact (by simp [hsz])
  have u2 : a1.eval (.tmp 2) = .pointer (some ⟨b2, 0, none⟩) := by rw [← hA]; exact (by simp [hsz])
  have hd_a1 : a1.defers = [] := by rw [← hA]; simp only [defers_put, hd_a]
  clear hA
  have hbd := (Below.refl W2.heap.size W2).drew
  obtain ⟨A', c', W3, hap, hb3, hs3⟩ := app22i_run (A := A) (c := c) (ty := 22) ((hs.below hbd (by omega)).more (show b1 ≤ W2.drew.heap.size by show b1 ≤ W2.heap.size; omega)) hl
  have hb3' : Below W2.heap.size W2 W3 := hbd.trans hb3
  have w23 := w2.below hb3' w2.lt
  have w13 := w1.below hb3' w1.lt
  refine wpIn_seq (region_K (KpR (fun w : World => Whole w b1 24 #[.int .i64 s.width, .int .i64 s.step, .slice A s.rd.length c]) (fun j => j == 8)) (wideF_plain _) (by kernel_rfl) Try.mixed ?_)
  change AnyK _ _ _ _ 9 (Array.replicate 9 false) _ _
  have hR : (fun w : World => Whole w b1 24 #[.int .i64 s.width, .int .i64 s.step, .slice A s.rd.length c]) W2.drew := w1.below hbd w1.lt
  refine AnyK.field (i := 0) may_o (u := .pointer (some ⟨b1, 0, none⟩)) (v := .pointer (some ⟨b1, 0, none⟩)) (by simp [u1]) (fun w => fa24_0 w) hR ?_
  refine AnyK.load (i := 1) may_o (p := ⟨b1, 0, none⟩) (v := .int .i64 s.width) (by simp [hz_a1]) (fun w hw => ld3 (hw.cell 0)) hR ?_
  refine AnyK.field (i := 2) may_o (u := .pointer (some ⟨b1, 0, none⟩)) (v := .pointer (some ⟨b1, 1, none⟩)) (by simp [u1]) (fun w => fa24_1 w) hR ?_
  refine AnyK.load (i := 3) may_o (p := ⟨b1, 1, none⟩) (v := .int .i64 s.step) (by simp [hz_a1]) (fun w hw => ld3 (hw.cell 1)) hR ?_
  refine AnyK.field (i := 4) may_o (u := .pointer (some ⟨b1, 0, none⟩)) (v := .pointer (some ⟨b1, 2, none⟩)) (by simp [u1]) (fun w => fa24_2 w) hR ?_
  refine AnyK.load (i := 5) may_o (p := ⟨b1, 2, none⟩) (v := .slice A s.rd.length c) (by simp [hz_a1]) (fun w hw => ld22 (hw.cell 2)) hR ?_
  refine AnyK.pick1 (i := 6) (by kernel_rfl) ?_
  replace hR : (fun w : World => Whole w b1 24 #[.int .i64 s.width, .int .i64 s.step, .slice A s.rd.length c]) W3 := w13
  refine StepK.app22r (i := 6) rfl (by simp) (by simp [hz_a1]) hap (fun _ _ => hR) ?_
  refine AnyK.bld (i := 7) may_o (ps := #[(0, .int .i64 s.width), (1, .int .i64 s.step), (2, .slice A' s.rd.length c')]) (v := serV s A' c') (by simp [hz_a1]) (bd29 _ _ _ _ _) hR ?_
  refine AnyK.pick1 (i := 8) (by kernel_rfl) ?_
  refine StepK.store (i := 8) (u := ptr b2) (u' := serV s A' c') rfl (by simp [u2]) (by simp [hz_a1]) (st29 w23) (fun h _ => absurd h (by decide)) ?_
  refine AnyK.done (by kernel_rfl) ?_
  refine wpIn_ret ?_
  have he4 : Else (fun k => k = b2) W3 (((W3.setCell ⟨b2, 0, none⟩ (.int .i64 s.width)).setCell ⟨b2, 1, none⟩ (.int .i64 s.step)).setCell ⟨b2, 2, none⟩ (.slice A' s.rd.length c')) := (((Else.refl (fun k => k = b2) W3).setCell (p := ⟨b2, 0, none⟩) (.inl rfl) _).setCell (p := ⟨b2, 1, none⟩) (.inl rfl) _).setCell (p := ⟨b2, 2, none⟩) (.inl rfl) _
  refine bodyPost_ret (v := serV s A' c') (res29 Try.results18 (by simp [u2]) (((w23.set 0 _).set 1 _).set 2 _)) (by simp only [defers_put, hd_a1]) ⟨A', c', rfl, ?_, ?_⟩
  · intro k x hx
    obtain ⟨g, hA, hg1, hg2, hc⟩ := hs3 k x hx
    have hgb : ¬ g = b2 := by have : W2.heap.size ≤ g := hg1; have := w2.lt; omega
    exact ⟨g, 0, hA, Nat.lt_of_lt_of_le hg2 he4.size, by rw [Nat.zero_add]; exact he4.cell (p := ⟨g, k, none⟩) hgb hc⟩
  · exact (hB.trans (hb3'.mono (by omega))).trans (he4.below (by have := hb3'.size; omega) (fun k hk e => by omega))
end
end Go.Proofs.YtmdlmmfbcnkanaaR
namespace Go.Proofs.YtmdlmmfbcnkanaaR
open Go.RowKit Go.Shelf Go.ChangeShapes Go.WideShapes
section
variable {H : Type} {enc : TypeId × Value → H} {W : World} {r : Reach} {b0 : Nat}
theorem Try.un3 : Try.prog.underlying 3 = some (.int .i64) := by kernel_rfl
theorem cl3 : Try.prog.cellsOf 3 = 1 := by kernel_rfl
theorem cl22 : Try.prog.cellsOf 22 = 1 := by kernel_rfl
theorem cl24 : Try.prog.cellsOf 24 = 3 := by kernel_rfl
set_option maxRecDepth 100000 in
theorem open_series {v : Value} {d : DataW H} {ps : List MemPlace} (hval : Value.okWide Try.prog W r b0 24 v) (hd : DataW.Trod enc Try.prog W 0 (fun _ => true) true 24 v d ps) :
    ∃ (s : Ser) (A : Option Addr) (c : Nat), v = serV s A c ∧ IntsAt W W.heap.size A s.rd := by
  unfold Value.okWide at hval
  rw [show Try.prog.underlying 24 = some (.struct #[{ name := "Width", type := 3, offset := 0, embedded := false, tag := "", pkgPath := "", byteOffset := 0 }, { name := "Step", type := 3, offset := 1, embedded := false, tag := "", pkgPath := "", byteOffset := 8 }, { name := "Readings", type := 22, offset := 2, embedded := false, tag := "", pkgPath := "", byteOffset := 16 }]) by kernel_rfl] at hval
  obtain ⟨cs, rfl, hsz, _⟩ := hval
  rw [cl24] at hsz
  obtain ⟨fuel, hf⟩ := hd
  obtain ⟨xs, m, rfl, _, hl, hx, hi⟩ := DataW.trod_struct (show Try.prog.underlying 24 = some (.struct #[{ name := "Width", type := 3, offset := 0, embedded := false, tag := "", pkgPath := "", byteOffset := 0 }, { name := "Step", type := 3, offset := 1, embedded := false, tag := "", pkgPath := "", byteOffset := 8 }, { name := "Readings", type := 22, offset := 2, embedded := false, tag := "", pkgPath := "", byteOffset := 16 }]) by kernel_rfl) hf
  have h0 := (show DataW.trod enc Try.prog W 0 (fun _ => true) true m 3 (((Value.agg cs).cells.toList.drop 0).take (Try.prog.cellsOf 3)) = xs[0]? from hi 0 _ rfl)
  have h1 := (show DataW.trod enc Try.prog W 0 (fun _ => true) true m 3 (((Value.agg cs).cells.toList.drop 1).take (Try.prog.cellsOf 3)) = xs[1]? from hi 1 _ rfl)
  have h2 := (show DataW.trod enc Try.prog W 0 (fun _ => true) true m 22 (((Value.agg cs).cells.toList.drop 2).take (Try.prog.cellsOf 22)) = xs[2]? from hi 2 _ rfl)
  rw [cl3] at h0 h1
  rw [cl22] at h2
  obtain ⟨o, h0⟩ := get_int Try.un3 h0 (at_some hx (by decide))
  obtain ⟨t, h1⟩ := get_int Try.un3 h1 (at_some hx (by decide))
  obtain ⟨z, hz⟩ := at_some (i := 2) hx (by decide)
  rw [hz] at h2
  have hcs : (Value.agg cs).cells.toList = cs.toList := by rfl
  rw [hcs] at h0 h1 h2
  have key : ∃ (A : Option Addr) (l : List Int) (c : Nat), (cs.toList.drop 2).take 1 = [.slice A l.length c] ∧ IntsAt W W.heap.size A l := by
    rcases open_ints Try.und22 Try.un3 cl3 h2 with ⟨h3, _⟩ | ⟨a', n', c', zs, h3, _, hle, _, hall, _, hcell, _⟩
    · exact ⟨none, [], 0, by simpa using h3, fun k x hx => by simp at hx⟩
    · simp at hall
      refine ⟨some a', zs.take n', c', by rw [h3, List.length_take]; congr 2; omega, ?_⟩
      intro k x hx
      rw [List.getElem?_take] at hx
      split at hx
      · have hk : k < zs.length := (List.getElem?_eq_some_iff.1 hx).1
        obtain ⟨b, off, rfl, hc⟩ := ints_at hcell (by omega)
        have h1 := hc k hk
        have h2 : zs.getD k 0 = x := by simp [List.getD, hx]
        rw [h2] at h1
        exact ⟨b, off, rfl, block_lt_of_cell h1, h1⟩
      · cases hx
  obtain ⟨A, l, c, h3, hs⟩ := key
  refine ⟨⟨o, t, l⟩, A, c, ?_, hs⟩
  have h4 : cs.toList[2]? = some (.slice A l.length c) := by
    have : ((cs.toList.drop 2).take 1)[0]? = some (.slice A l.length c) := by rw [h3]; rfl
    rw [List.getElem?_take, if_pos (by omega), List.getElem?_drop] at this
    simpa using this
  have h5 : cs.toList = [.int .i64 o, .int .i64 t, .slice A l.length c] := by
    have hl3 : cs.toList.length = 3 := by simpa using hsz
    generalize cs.toList = ls at *
    match ls, hl3 with
    | [_, _, _], _ =>
      simp at h0 h1 h4
      subst h0 h1 h4
      rfl
  have : cs = #[.int .i64 o, .int .i64 t, .slice A l.length c] := by
    apply Array.ext'
    rw [h5]
  rw [this]
end
theorem s24 : 24 < Try.prog.types.size := of_decide_eq_true (by kernel_rfl)
theorem carry_trod {H : Type} {enc : TypeId × Value → H} {W W' : World} {t : TypeId} {v : Value} {d : DataW H} {ps : List MemPlace} (hr : Try.prog.readableRec t = true) (hrow : t < Try.prog.types.size) (hb : Below W.heap.size W W')
    (hd : DataW.Trod enc Try.prog W 0 (fun _ => true) true t v d ps) (hlt : ∀ p ∈ ps, p.block < W.heap.size) : DataW.Trod enc Try.prog W' 0 (fun b => decide (b < W.heap.size)) true t v d ps := by
  obtain ⟨n, h⟩ := hd
  exact ⟨n, DataW.trod_stays (kids_book laidOut hr) (book_sized hr) (fun h => by cases h) ⟨hrow, book_self t⟩ h
    (fun p hp => (hb.frame (fun _ => False)).sameAt (hlt p hp) id (fun b e => by
      have := DataW.trod_good (kids_book laidOut hr) (fun h => by cases h) n t _ _ ⟨hrow, book_self t⟩ h p hp
      subst e
      exact this))
    (fun p hp => by simpa using hlt p hp)⟩
end Go.Proofs.YtmdlmmfbcnkanaaR
