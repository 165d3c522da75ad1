/- Texts for the laws of package recall, part 2: contracts of the program's functions, each for every input that its words name. -/
import Derived.Test.YtfcnombmphophaaK1
import Derived.Laws.EntriesVeiled
import Derived.Scope

set_option linter.unusedVariables false
set_option maxRecDepth 10000

namespace Go.Proofs.Ytfcnombmphophaa
open Go.RowKit Go.Shelf
theorem eqlT {x y : Operand} {m n : Int} (h : m = n) (w : World) : (do eqGuard .eql 3 x y (.int .i64 m) (.int .i64 n); binOp .eql 3 (.int .i64 m) (.int .i64 n) : Sem Value).run Try.prog w = .ok (.bool true) w := by
  rw [eql3 w]
  simp [h]
theorem eqlF {x y : Operand} {m n : Int} (h : m ≠ n) (w : World) : (do eqGuard .eql 3 x y (.int .i64 m) (.int .i64 n); binOp .eql 3 (.int .i64 m) (.int .i64 n) : Sem Value).run Try.prog w = .ok (.bool false) w := by
  rw [eql3 w]
  simp [h]
theorem has_at {d n : Nat} {w : World} {b : Bool} (hd : d < 65536) (hn : n < 64) (hb : d.testBit n = b) : Calls Try.prog 74 #[.int .i64 d, .int .i64 n] w fun e w' => e = .returned (.bool b) ∧ w = w' := by
  rw [← hb]
  exact has_any d n w hd hn
set_option maxHeartbeats 400000 in
theorem low_any (x y : Int) (w : World) : Calls Try.prog 77 #[.agg #[.int .i64 x, .int .i64 y]] w fun e w' => e = .returned (.int .i64 x) ∧ Below w.heap.size w w' := by
  go_enter Try.func77, Try.ntmps77
  go_wp2
  go_ret
  exact ⟨rfl, (Below.refl _ _).alloc (Nat.le_refl _) _⟩
set_option maxHeartbeats 400000 in
theorem high_any (x y : Int) (w : World) : Calls Try.prog 78 #[.agg #[.int .i64 x, .int .i64 y]] w fun e w' => e = .returned (.int .i64 y) ∧ Below w.heap.size w w' := by
  go_enter Try.func78, Try.ntmps78
  go_wp2
  go_ret
  exact ⟨rfl, (Below.refl _ _).alloc (Nat.le_refl _) _⟩
attribute [local irreducible] AnyK StepK

noncomputable def opsS1a : Array Oper := (Try.f64.body.bind (regionOf 1)).getD #[]
set_option maxHeartbeats 2000000 in
theorem regionS1a {F : Fence} {n : Nat} (hF : WideF F Try.prog) {Q : Exit → Act → World → Prop} {a : Act} {w : World} {kb ge N ce b m c off d k : Nat} {e src many : Int} (hsz : a.tmps.size = 98)
    (t0 : a.eval (.tmp 0) = .pointer (some ⟨kb, 0, none⟩)) (t1 : a.eval (.tmp 1) = .int .i64 d) (t2 : a.eval (.tmp 2) = .int .i64 k)
    (m0 : w.cell? ⟨kb, 3, none⟩ = some (.slice (some ⟨ge, 0, none⟩) N ce)) (m1 : w.cell? ⟨ge, d, none⟩ = some (.int .i64 e)) (m2 : w.cell? ⟨kb, 2, none⟩ = some (.slice (some ⟨b, off, none⟩) m c)) (m3 : w.cell? ⟨b, off + k * 5, none⟩ = some (.int .i64 src)) (m4 : w.cell? ⟨b, off + k * 5 + 2, none⟩ = some (.int .i64 many)) (hd : d < N) (hk : k < m) (hd6 : d < 65536) (hk6 : k < 64) (htb : d.testBit k = true) 
    (hK : ∀ a' W', Below w.heap.size w W' → a'.tmps.size = 98 → a'.defers = a.defers → a'.eval (.tmp 49) = .bool true → (∀ e : Nat, e < 12 ∨ 50 ≤ e → a'.eval (.tmp e) = a.eval (.tmp e)) → Q .normal a' W') :
    (Code.region 1 opsS1a true).wpIn F n Try.prog Q a w := by
  have hR : (fun w : World => w.cell? ⟨kb, 3, none⟩ = some (.slice (some ⟨ge, 0, none⟩) N ce) ∧ w.cell? ⟨ge, d, none⟩ = some (.int .i64 e) ∧ w.cell? ⟨kb, 2, none⟩ = some (.slice (some ⟨b, off, none⟩) m c) ∧ w.cell? ⟨b, off + k * 5, none⟩ = some (.int .i64 src) ∧ w.cell? ⟨b, off + k * 5 + 2, none⟩ = some (.int .i64 many)) w.drew := ⟨m0, m1, m2, m3, m4⟩
  have hB : Below w.heap.size w w.drew := (Below.refl _ _).drew
  refine region_K (KpR (fun w => w.cell? ⟨kb, 3, none⟩ = some (.slice (some ⟨ge, 0, none⟩) N ce) ∧ w.cell? ⟨ge, d, none⟩ = some (.int .i64 e) ∧ w.cell? ⟨kb, 2, none⟩ = some (.slice (some ⟨b, off, none⟩) m c) ∧ w.cell? ⟨b, off + k * 5, none⟩ = some (.int .i64 src) ∧ w.cell? ⟨b, off + k * 5 + 2, none⟩ = some (.int .i64 many)) (fun _ => false)) hF (by kernel_rfl) Try.mixed ?_
  change AnyK _ _ _ _ 38 (Array.replicate 38 false) _ _
  generalize w.drew = W at *
  refine AnyK.move (i := 0) may_o (v := .int .i64 d) (by simp [t1]) hR ?_
  refine AnyK.move (i := 1) may_o (v := .int .i64 k) (by simp [t2]) hR ?_
  refine AnyK.pick1 (i := 2) (by kernel_rfl) ?_
  refine StepK.call (i := 2) (f := 74) (vs := #[.int .i64 d, .int .i64 k]) rfl (enters_of Try.func74 (by kernel_rfl) rfl) (by simp) (by simp [hsz]) ((has_at hd6 hk6 htb).mono ?_)
  rintro _ _ ⟨rfl, rfl⟩
  refine ⟨_, rfl, fun _ h => h, ?_⟩
  refine AnyK.move (i := 3) may_o (v := .bool true) (by simp [hsz]) hR ?_
  refine AnyK.passG (i := 4) may_o (e := 15) (b' := true) rfl (by simp [hsz]) rfl hR ?_
  refine AnyK.passG (i := 5) may_o (e := 15) (b' := true) rfl (by simp [hsz]) rfl hR ?_
  refine AnyK.passG (i := 6) may_o (e := 15) (b' := true) rfl (by simp [hsz]) rfl hR ?_
  refine AnyK.passG (i := 7) may_o (e := 15) (b' := true) rfl (by simp [hsz]) rfl hR ?_
  refine AnyK.passG (i := 8) may_o (e := 15) (b' := true) rfl (by simp [hsz]) rfl hR ?_
  refine AnyK.passG (i := 9) may_o (e := 15) (b' := true) rfl (by simp [hsz]) rfl hR ?_
  refine AnyK.passG (i := 10) may_o (e := 15) (b' := true) rfl (by simp [hsz]) rfl hR ?_
  refine AnyK.passG (i := 11) may_o (e := 15) (b' := true) rfl (by simp [hsz]) rfl hR ?_
  refine AnyK.pick (i := 12) may_o (b := true) (v := .bool true) (by simp [hsz]) (by simp) hR ?_
  refine AnyK.move (i := 13) may_o (v := .bool true) (by simp [hsz]) hR ?_
  refine AnyK.passG (i := 14) may_o (e := 25) (b' := true) rfl (by simp [hsz]) rfl hR ?_
  refine AnyK.passG (i := 15) may_o (e := 25) (b' := true) rfl (by simp [hsz]) rfl hR ?_
  refine AnyK.passG (i := 16) may_o (e := 25) (b' := true) rfl (by simp [hsz]) rfl hR ?_
  refine AnyK.passG (i := 17) may_o (e := 25) (b' := true) rfl (by simp [hsz]) rfl hR ?_
  refine AnyK.passG (i := 18) may_o (e := 25) (b' := true) rfl (by simp [hsz]) rfl hR ?_
  refine AnyK.passG (i := 19) may_o (e := 25) (b' := true) rfl (by simp [hsz]) rfl hR ?_
  refine AnyK.passG (i := 20) may_o (e := 25) (b' := true) rfl (by simp [hsz]) rfl hR ?_
  refine AnyK.passG (i := 21) may_o (e := 25) (b' := true) rfl (by simp [hsz]) rfl hR ?_
  refine AnyK.passG (i := 22) may_o (e := 25) (b' := true) rfl (by simp [hsz]) rfl hR ?_
  refine AnyK.passG (i := 23) may_o (e := 25) (b' := true) rfl (by simp [hsz]) rfl hR ?_
  refine AnyK.passG (i := 24) may_o (e := 25) (b' := true) rfl (by simp [hsz]) rfl hR ?_
  refine AnyK.passG (i := 25) may_o (e := 25) (b' := true) rfl (by simp [hsz]) rfl hR ?_
  refine AnyK.passG (i := 26) may_o (e := 25) (b' := true) rfl (by simp [hsz]) rfl hR ?_
  refine AnyK.passG (i := 27) may_o (e := 25) (b' := true) rfl (by simp [hsz]) rfl hR ?_
  refine AnyK.passG (i := 28) may_o (e := 25) (b' := true) rfl (by simp [hsz]) rfl hR ?_
  refine AnyK.passG (i := 29) may_o (e := 25) (b' := true) rfl (by simp [hsz]) rfl hR ?_
  refine AnyK.passG (i := 30) may_o (e := 25) (b' := true) rfl (by simp [hsz]) rfl hR ?_
  refine AnyK.passG (i := 31) may_o (e := 25) (b' := true) rfl (by simp [hsz]) rfl hR ?_
  refine AnyK.passG (i := 32) may_o (e := 25) (b' := true) rfl (by simp [hsz]) rfl hR ?_
  refine AnyK.passG (i := 33) may_o (e := 25) (b' := true) rfl (by simp [hsz]) rfl hR ?_
  refine AnyK.passG (i := 34) may_o (e := 25) (b' := true) rfl (by simp [hsz]) rfl hR ?_
  refine AnyK.passG (i := 35) may_o (e := 25) (b' := true) rfl (by simp [hsz]) rfl hR ?_
  refine AnyK.passG (i := 36) may_o (e := 25) (b' := true) rfl (by simp [hsz]) rfl hR ?_
  refine AnyK.pick (i := 37) may_o (b := true) (v := .bool true) (by simp [hsz]) (by simp) hR ?_
  refine AnyK.done (by kernel_rfl) (hK _ _ hB ?_ ?_ ?_ ?_)
  · simp only [size_put, hsz]
  · simp only [defers_put]
  · exact (by simp [hsz])
  · intro e he
    iterate 38 refine (ev_ne (by omega)).trans ?_
    rfl

noncomputable def opsS1b : Array Oper := (Try.f64.body.bind (regionOf 1)).getD #[]
set_option maxHeartbeats 2000000 in
theorem regionS1b {F : Fence} {n : Nat} (hF : WideF F Try.prog) {Q : Exit → Act → World → Prop} {a : Act} {w : World} {kb ge N ce b m c off d k : Nat} {e src many : Int} (hsz : a.tmps.size = 98)
    (t0 : a.eval (.tmp 0) = .pointer (some ⟨kb, 0, none⟩)) (t1 : a.eval (.tmp 1) = .int .i64 d) (t2 : a.eval (.tmp 2) = .int .i64 k)
    (m0 : w.cell? ⟨kb, 3, none⟩ = some (.slice (some ⟨ge, 0, none⟩) N ce)) (m1 : w.cell? ⟨ge, d, none⟩ = some (.int .i64 e)) (m2 : w.cell? ⟨kb, 2, none⟩ = some (.slice (some ⟨b, off, none⟩) m c)) (m3 : w.cell? ⟨b, off + k * 5, none⟩ = some (.int .i64 src)) (m4 : w.cell? ⟨b, off + k * 5 + 2, none⟩ = some (.int .i64 many)) (hd : d < N) (hk : k < m) (hd6 : d < 65536) (hk6 : k < 64) (htb : d.testBit k = false) (he : e = 101)
    (hK : ∀ a' W', Below w.heap.size w W' → a'.tmps.size = 98 → a'.defers = a.defers → a'.eval (.tmp 49) = .bool true → (∀ e : Nat, e < 12 ∨ 50 ≤ e → a'.eval (.tmp e) = a.eval (.tmp e)) → Q .normal a' W') :
    (Code.region 1 opsS1b true).wpIn F n Try.prog Q a w := by
  have hR : (fun w : World => w.cell? ⟨kb, 3, none⟩ = some (.slice (some ⟨ge, 0, none⟩) N ce) ∧ w.cell? ⟨ge, d, none⟩ = some (.int .i64 e) ∧ w.cell? ⟨kb, 2, none⟩ = some (.slice (some ⟨b, off, none⟩) m c) ∧ w.cell? ⟨b, off + k * 5, none⟩ = some (.int .i64 src) ∧ w.cell? ⟨b, off + k * 5 + 2, none⟩ = some (.int .i64 many)) w.drew := ⟨m0, m1, m2, m3, m4⟩
  have hB : Below w.heap.size w w.drew := (Below.refl _ _).drew
  refine region_K (KpR (fun w => w.cell? ⟨kb, 3, none⟩ = some (.slice (some ⟨ge, 0, none⟩) N ce) ∧ w.cell? ⟨ge, d, none⟩ = some (.int .i64 e) ∧ w.cell? ⟨kb, 2, none⟩ = some (.slice (some ⟨b, off, none⟩) m c) ∧ w.cell? ⟨b, off + k * 5, none⟩ = some (.int .i64 src) ∧ w.cell? ⟨b, off + k * 5 + 2, none⟩ = some (.int .i64 many)) (fun _ => false)) hF (by kernel_rfl) Try.mixed ?_
  change AnyK _ _ _ _ 38 (Array.replicate 38 false) _ _
  generalize w.drew = W at *
  refine AnyK.move (i := 0) may_o (v := .int .i64 d) (by simp [t1]) hR ?_
  refine AnyK.move (i := 1) may_o (v := .int .i64 k) (by simp [t2]) hR ?_
  refine AnyK.pick1 (i := 2) (by kernel_rfl) ?_
  refine StepK.call (i := 2) (f := 74) (vs := #[.int .i64 d, .int .i64 k]) rfl (enters_of Try.func74 (by kernel_rfl) rfl) (by simp) (by simp [hsz]) ((has_at hd6 hk6 htb).mono ?_)
  rintro _ _ ⟨rfl, rfl⟩
  refine ⟨_, rfl, fun _ h => h, ?_⟩
  refine AnyK.move (i := 3) may_o (v := .bool false) (by simp [hsz]) hR ?_
  refine AnyK.move (i := 4) may_o (v := .pointer (some ⟨kb, 0, none⟩)) (by simp [t0]) hR (hw := (by exact wanted_g (e := 15) (b' := false) rfl (by simp [hsz]) rfl)) ?_
  refine AnyK.nilCheck (i := 5) may_o (p := ⟨kb, 0, none⟩) (by simp [hsz]) hR (hw := (by exact wanted_g (e := 15) (b' := false) rfl (by simp [hsz]) rfl)) ?_
  refine AnyK.field (i := 6) may_o (u := .pointer (some ⟨kb, 0, none⟩)) (v := .pointer (some ⟨kb, 3, none⟩)) (by simp [hsz]) (fun w => fa114_1 w) hR (hw := (by exact wanted_g (e := 15) (b' := false) rfl (by simp [hsz]) rfl)) ?_
  refine AnyK.load (i := 7) may_o (p := ⟨kb, 3, none⟩) (v := .slice (some ⟨ge, 0, none⟩) N ce) (by simp [hsz]) (fun w hw => ld25 hw.1) hR (hw := (by exact wanted_g (e := 15) (b' := false) rfl (by simp [hsz]) rfl)) ?_
  refine AnyK.move (i := 8) may_o (v := .int .i64 d) (by simp [t1]) hR (hw := (by exact wanted_g (e := 15) (b' := false) rfl (by simp [hsz]) rfl)) ?_
  refine AnyK.index (i := 9) may_o (u := .slice (some ⟨ge, 0, none⟩) N ce) (u' := .int .i64 d) (v := .pointer (some ⟨ge, d, none⟩)) (by simp [hsz]) (by simp [hsz]) (fun w => ix25 hd w) hR (hw := (by exact wanted_g (e := 15) (b' := false) rfl (by simp [hsz]) rfl)) ?_
  refine AnyK.load (i := 10) may_o (p := ⟨ge, d, none⟩) (v := .int .i64 e) (by simp [hsz]) (fun w hw => ld3 hw.2.1) hR (hw := (by exact wanted_g (e := 15) (b' := false) rfl (by simp [hsz]) rfl)) ?_
  refine AnyK.bin (i := 11) may_o (u := .int .i64 e) (u' := .int .i64 (101)) (v := .bool true) (by simp [hsz]) (by simp) (fun w => eqlT he w) hR (hw := (by exact wanted_g (e := 15) (b' := false) rfl (by simp [hsz]) rfl)) ?_
  refine AnyK.pick (i := 12) may_o (b := false) (v := .bool true) (by simp [hsz]) (by simp [hsz]) hR ?_
  refine AnyK.move (i := 13) may_o (v := .bool true) (by simp [hsz]) hR ?_
  refine AnyK.passG (i := 14) may_o (e := 25) (b' := true) rfl (by simp [hsz]) rfl hR ?_
  refine AnyK.passG (i := 15) may_o (e := 25) (b' := true) rfl (by simp [hsz]) rfl hR ?_
  refine AnyK.passG (i := 16) may_o (e := 25) (b' := true) rfl (by simp [hsz]) rfl hR ?_
  refine AnyK.passG (i := 17) may_o (e := 25) (b' := true) rfl (by simp [hsz]) rfl hR ?_
  refine AnyK.passG (i := 18) may_o (e := 25) (b' := true) rfl (by simp [hsz]) rfl hR ?_
  refine AnyK.passG (i := 19) may_o (e := 25) (b' := true) rfl (by simp [hsz]) rfl hR ?_
  refine AnyK.passG (i := 20) may_o (e := 25) (b' := true) rfl (by simp [hsz]) rfl hR ?_
  refine AnyK.passG (i := 21) may_o (e := 25) (b' := true) rfl (by simp [hsz]) rfl hR ?_
  refine AnyK.passG (i := 22) may_o (e := 25) (b' := true) rfl (by simp [hsz]) rfl hR ?_
  refine AnyK.passG (i := 23) may_o (e := 25) (b' := true) rfl (by simp [hsz]) rfl hR ?_
  refine AnyK.passG (i := 24) may_o (e := 25) (b' := true) rfl (by simp [hsz]) rfl hR ?_
  refine AnyK.passG (i := 25) may_o (e := 25) (b' := true) rfl (by simp [hsz]) rfl hR ?_
  refine AnyK.passG (i := 26) may_o (e := 25) (b' := true) rfl (by simp [hsz]) rfl hR ?_
  refine AnyK.passG (i := 27) may_o (e := 25) (b' := true) rfl (by simp [hsz]) rfl hR ?_
  refine AnyK.passG (i := 28) may_o (e := 25) (b' := true) rfl (by simp [hsz]) rfl hR ?_
  refine AnyK.passG (i := 29) may_o (e := 25) (b' := true) rfl (by simp [hsz]) rfl hR ?_
  refine AnyK.passG (i := 30) may_o (e := 25) (b' := true) rfl (by simp [hsz]) rfl hR ?_
  refine AnyK.passG (i := 31) may_o (e := 25) (b' := true) rfl (by simp [hsz]) rfl hR ?_
  refine AnyK.passG (i := 32) may_o (e := 25) (b' := true) rfl (by simp [hsz]) rfl hR ?_
  refine AnyK.passG (i := 33) may_o (e := 25) (b' := true) rfl (by simp [hsz]) rfl hR ?_
  refine AnyK.passG (i := 34) may_o (e := 25) (b' := true) rfl (by simp [hsz]) rfl hR ?_
  refine AnyK.passG (i := 35) may_o (e := 25) (b' := true) rfl (by simp [hsz]) rfl hR ?_
  refine AnyK.passG (i := 36) may_o (e := 25) (b' := true) rfl (by simp [hsz]) rfl hR ?_
  refine AnyK.pick (i := 37) may_o (b := true) (v := .bool true) (by simp [hsz]) (by simp) hR ?_
  refine AnyK.done (by kernel_rfl) (hK _ _ hB ?_ ?_ ?_ ?_)
  · simp only [size_put, hsz]
  · simp only [defers_put]
  · exact (by simp [hsz])
  · intro e he
    iterate 38 refine (ev_ne (by omega)).trans ?_
    rfl

noncomputable def opsS1c : Array Oper := (Try.f64.body.bind (regionOf 1)).getD #[]
set_option maxHeartbeats 2000000 in
theorem regionS1c {F : Fence} {n : Nat} (hF : WideF F Try.prog) {Q : Exit → Act → World → Prop} {a : Act} {w : World} {kb ge N ce b m c off d k : Nat} {e src many : Int} (hsz : a.tmps.size = 98)
    (t0 : a.eval (.tmp 0) = .pointer (some ⟨kb, 0, none⟩)) (t1 : a.eval (.tmp 1) = .int .i64 d) (t2 : a.eval (.tmp 2) = .int .i64 k)
    (m0 : w.cell? ⟨kb, 3, none⟩ = some (.slice (some ⟨ge, 0, none⟩) N ce)) (m1 : w.cell? ⟨ge, d, none⟩ = some (.int .i64 e)) (m2 : w.cell? ⟨kb, 2, none⟩ = some (.slice (some ⟨b, off, none⟩) m c)) (m3 : w.cell? ⟨b, off + k * 5, none⟩ = some (.int .i64 src)) (m4 : w.cell? ⟨b, off + k * 5 + 2, none⟩ = some (.int .i64 many)) (hd : d < N) (hk : k < m) (hd6 : d < 65536) (hk6 : k < 64) (htb : d.testBit k = false) (he : e ≠ 101) {st : Nat → Int} (hs0 : 0 ≤ src) (hs6 : src < 6) (hst : ∀ W, Below w.heap.size w W → Calls Try.prog 73 #[.pointer (some ⟨kb, 0, none⟩), .int .i64 d] W fun e w' => e = .returned (.agg (stk st)) ∧ Below W.heap.size W w')
    (hK : ∀ a' W', Below w.heap.size w W' → a'.tmps.size = 98 → a'.defers = a.defers → a'.eval (.tmp 49) = .bool (decide (st src.toNat < many)) → (∀ e : Nat, e < 12 ∨ 50 ≤ e → a'.eval (.tmp e) = a.eval (.tmp e)) → Q .normal a' W') :
    (Code.region 1 opsS1c true).wpIn F n Try.prog Q a w := by
  have hR : (fun w : World => w.cell? ⟨kb, 3, none⟩ = some (.slice (some ⟨ge, 0, none⟩) N ce) ∧ w.cell? ⟨ge, d, none⟩ = some (.int .i64 e) ∧ w.cell? ⟨kb, 2, none⟩ = some (.slice (some ⟨b, off, none⟩) m c) ∧ w.cell? ⟨b, off + k * 5, none⟩ = some (.int .i64 src) ∧ w.cell? ⟨b, off + k * 5 + 2, none⟩ = some (.int .i64 many)) w.drew := ⟨m0, m1, m2, m3, m4⟩
  have hB : Below w.heap.size w w.drew := (Below.refl _ _).drew
  refine region_K (KpR (fun w => w.cell? ⟨kb, 3, none⟩ = some (.slice (some ⟨ge, 0, none⟩) N ce) ∧ w.cell? ⟨ge, d, none⟩ = some (.int .i64 e) ∧ w.cell? ⟨kb, 2, none⟩ = some (.slice (some ⟨b, off, none⟩) m c) ∧ w.cell? ⟨b, off + k * 5, none⟩ = some (.int .i64 src) ∧ w.cell? ⟨b, off + k * 5 + 2, none⟩ = some (.int .i64 many)) (fun _ => false)) hF (by kernel_rfl) Try.mixed ?_
  change AnyK _ _ _ _ 38 (Array.replicate 38 false) _ _
  generalize w.drew = W at *
  refine AnyK.move (i := 0) may_o (v := .int .i64 d) (by simp [t1]) hR ?_
  refine AnyK.move (i := 1) may_o (v := .int .i64 k) (by simp [t2]) hR ?_
  refine AnyK.pick1 (i := 2) (by kernel_rfl) ?_
  refine StepK.call (i := 2) (f := 74) (vs := #[.int .i64 d, .int .i64 k]) rfl (enters_of Try.func74 (by kernel_rfl) rfl) (by simp) (by simp [hsz]) ((has_at hd6 hk6 htb).mono ?_)
  rintro _ _ ⟨rfl, rfl⟩
  refine ⟨_, rfl, fun _ h => h, ?_⟩
  refine AnyK.move (i := 3) may_o (v := .bool false) (by simp [hsz]) hR ?_
  refine AnyK.move (i := 4) may_o (v := .pointer (some ⟨kb, 0, none⟩)) (by simp [t0]) hR (hw := (by exact wanted_g (e := 15) (b' := false) rfl (by simp [hsz]) rfl)) ?_
  refine AnyK.nilCheck (i := 5) may_o (p := ⟨kb, 0, none⟩) (by simp [hsz]) hR (hw := (by exact wanted_g (e := 15) (b' := false) rfl (by simp [hsz]) rfl)) ?_
  refine AnyK.field (i := 6) may_o (u := .pointer (some ⟨kb, 0, none⟩)) (v := .pointer (some ⟨kb, 3, none⟩)) (by simp [hsz]) (fun w => fa114_1 w) hR (hw := (by exact wanted_g (e := 15) (b' := false) rfl (by simp [hsz]) rfl)) ?_
  refine AnyK.load (i := 7) may_o (p := ⟨kb, 3, none⟩) (v := .slice (some ⟨ge, 0, none⟩) N ce) (by simp [hsz]) (fun w hw => ld25 hw.1) hR (hw := (by exact wanted_g (e := 15) (b' := false) rfl (by simp [hsz]) rfl)) ?_
  refine AnyK.move (i := 8) may_o (v := .int .i64 d) (by simp [t1]) hR (hw := (by exact wanted_g (e := 15) (b' := false) rfl (by simp [hsz]) rfl)) ?_
  refine AnyK.index (i := 9) may_o (u := .slice (some ⟨ge, 0, none⟩) N ce) (u' := .int .i64 d) (v := .pointer (some ⟨ge, d, none⟩)) (by simp [hsz]) (by simp [hsz]) (fun w => ix25 hd w) hR (hw := (by exact wanted_g (e := 15) (b' := false) rfl (by simp [hsz]) rfl)) ?_
  refine AnyK.load (i := 10) may_o (p := ⟨ge, d, none⟩) (v := .int .i64 e) (by simp [hsz]) (fun w hw => ld3 hw.2.1) hR (hw := (by exact wanted_g (e := 15) (b' := false) rfl (by simp [hsz]) rfl)) ?_
  refine AnyK.bin (i := 11) may_o (u := .int .i64 e) (u' := .int .i64 (101)) (v := .bool false) (by simp [hsz]) (by simp) (fun w => eqlF he w) hR (hw := (by exact wanted_g (e := 15) (b' := false) rfl (by simp [hsz]) rfl)) ?_
  refine AnyK.pick (i := 12) may_o (b := false) (v := .bool false) (by simp [hsz]) (by simp [hsz]) hR ?_
  refine AnyK.move (i := 13) may_o (v := .bool false) (by simp [hsz]) hR ?_
  refine AnyK.move (i := 14) may_o (v := .pointer (some ⟨kb, 0, none⟩)) (by simp [t0]) hR (hw := (by exact wanted_g (e := 25) (b' := false) rfl (by simp [hsz]) rfl)) ?_
  refine AnyK.move (i := 15) may_o (v := .int .i64 d) (by simp [t1]) hR (hw := (by exact wanted_g (e := 25) (b' := false) rfl (by simp [hsz]) rfl)) ?_
  refine AnyK.move (i := 17) may_o (v := .pointer (some ⟨kb, 0, none⟩)) (by simp [t0]) hR (hw := (by exact wanted_g (e := 25) (b' := false) rfl (by simp [hsz]) rfl)) ?_
  refine AnyK.nilCheck (i := 18) may_o (p := ⟨kb, 0, none⟩) (by simp [hsz]) hR (hw := (by exact wanted_g (e := 25) (b' := false) rfl (by simp [hsz]) rfl)) ?_
  refine AnyK.field (i := 19) may_o (u := .pointer (some ⟨kb, 0, none⟩)) (v := .pointer (some ⟨kb, 0, none⟩)) (by simp [hsz]) (fun w => fa114_0 w) hR (hw := (by exact wanted_g (e := 25) (b' := false) rfl (by simp [hsz]) rfl)) ?_
  refine AnyK.field (i := 20) may_o (u := .pointer (some ⟨kb, 0, none⟩)) (v := .pointer (some ⟨kb, 2, none⟩)) (by simp [hsz]) (fun w => fa31_2 w) hR (hw := (by exact wanted_g (e := 25) (b' := false) rfl (by simp [hsz]) rfl)) ?_
  refine AnyK.load (i := 21) may_o (p := ⟨kb, 2, none⟩) (v := .slice (some ⟨b, off, none⟩) m c) (by simp [hsz]) (fun w hw => ld29 hw.2.2.1) hR (hw := (by exact wanted_g (e := 25) (b' := false) rfl (by simp [hsz]) rfl)) ?_
  refine AnyK.move (i := 22) may_o (v := .int .i64 k) (by simp [t2]) hR (hw := (by exact wanted_g (e := 25) (b' := false) rfl (by simp [hsz]) rfl)) ?_
  refine AnyK.index (i := 23) may_o (u := .slice (some ⟨b, off, none⟩) m c) (u' := .int .i64 k) (v := .pointer (some ⟨b, off + k * 5, none⟩)) (by simp [hsz]) (by simp [hsz]) (fun w => ix29 hk w) hR (hw := (by exact wanted_g (e := 25) (b' := false) rfl (by simp [hsz]) rfl)) ?_
  refine AnyK.field (i := 24) may_o (u := .pointer (some ⟨b, off + k * 5, none⟩)) (v := .pointer (some ⟨b, off + k * 5, none⟩)) (by simp [hsz]) (fun w => fa61_0 w) hR (hw := (by exact wanted_g (e := 25) (b' := false) rfl (by simp [hsz]) rfl)) ?_
  refine AnyK.load (i := 25) may_o (p := ⟨b, off + k * 5, none⟩) (v := .int .i64 src) (by simp [hsz]) (fun w hw => ld3 hw.2.2.2.1) hR (hw := (by exact wanted_g (e := 25) (b' := false) rfl (by simp [hsz]) rfl)) ?_
  refine AnyK.move (i := 27) may_o (v := .pointer (some ⟨kb, 0, none⟩)) (by simp [t0]) hR (hw := (by exact wanted_g (e := 25) (b' := false) rfl (by simp [hsz]) rfl)) ?_
  refine AnyK.nilCheck (i := 28) may_o (p := ⟨kb, 0, none⟩) (by simp [hsz]) hR (hw := (by exact wanted_g (e := 25) (b' := false) rfl (by simp [hsz]) rfl)) ?_
  refine AnyK.field (i := 29) may_o (u := .pointer (some ⟨kb, 0, none⟩)) (v := .pointer (some ⟨kb, 0, none⟩)) (by simp [hsz]) (fun w => fa114_0 w) hR (hw := (by exact wanted_g (e := 25) (b' := false) rfl (by simp [hsz]) rfl)) ?_
  refine AnyK.field (i := 30) may_o (u := .pointer (some ⟨kb, 0, none⟩)) (v := .pointer (some ⟨kb, 2, none⟩)) (by simp [hsz]) (fun w => fa31_2 w) hR (hw := (by exact wanted_g (e := 25) (b' := false) rfl (by simp [hsz]) rfl)) ?_
  refine AnyK.load (i := 31) may_o (p := ⟨kb, 2, none⟩) (v := .slice (some ⟨b, off, none⟩) m c) (by simp [hsz]) (fun w hw => ld29 hw.2.2.1) hR (hw := (by exact wanted_g (e := 25) (b' := false) rfl (by simp [hsz]) rfl)) ?_
  refine AnyK.move (i := 32) may_o (v := .int .i64 k) (by simp [t2]) hR (hw := (by exact wanted_g (e := 25) (b' := false) rfl (by simp [hsz]) rfl)) ?_
  refine AnyK.index (i := 33) may_o (u := .slice (some ⟨b, off, none⟩) m c) (u' := .int .i64 k) (v := .pointer (some ⟨b, off + k * 5, none⟩)) (by simp [hsz]) (by simp [hsz]) (fun w => ix29 hk w) hR (hw := (by exact wanted_g (e := 25) (b' := false) rfl (by simp [hsz]) rfl)) ?_
  refine AnyK.field (i := 34) may_o (u := .pointer (some ⟨b, off + k * 5, none⟩)) (v := .pointer (some ⟨b, off + k * 5 + 2, none⟩)) (by simp [hsz]) (fun w => fa61_2 w) hR (hw := (by exact wanted_g (e := 25) (b' := false) rfl (by simp [hsz]) rfl)) ?_
  refine AnyK.load (i := 35) may_o (p := ⟨b, off + k * 5 + 2, none⟩) (v := .int .i64 many) (by simp [hsz]) (fun w hw => ld3 hw.2.2.2.2) hR (hw := (by exact wanted_g (e := 25) (b' := false) rfl (by simp [hsz]) rfl)) ?_
  refine AnyK.pick1 (i := 16) (by kernel_rfl) ?_
  refine StepK.call (i := 16) (f := 73) (vs := #[.pointer (some ⟨kb, 0, none⟩), .int .i64 d]) rfl (enters_of Try.func73 (by kernel_rfl) rfl) (by simp) (by simp [hsz]) ((hst W hB).mono ?_) (hw := (by exact wanted_g (e := 25) (b' := false) rfl (by simp [hsz]) rfl))
  rintro _ W16 ⟨rfl, hb16⟩
  refine ⟨_, rfl, (fun _ hw => ⟨(hb16.cell (block_lt_of_cell hw.1)).trans hw.1, (hb16.cell (block_lt_of_cell hw.2.1)).trans hw.2.1, (hb16.cell (block_lt_of_cell hw.2.2.1)).trans hw.2.2.1, (hb16.cell (block_lt_of_cell hw.2.2.2.1)).trans hw.2.2.2.1, (hb16.cell (block_lt_of_cell hw.2.2.2.2)).trans hw.2.2.2.2⟩), ?_⟩
  replace hR : (fun w : World => w.cell? ⟨kb, 3, none⟩ = some (.slice (some ⟨ge, 0, none⟩) N ce) ∧ w.cell? ⟨ge, d, none⟩ = some (.int .i64 e) ∧ w.cell? ⟨kb, 2, none⟩ = some (.slice (some ⟨b, off, none⟩) m c) ∧ w.cell? ⟨b, off + k * 5, none⟩ = some (.int .i64 src) ∧ w.cell? ⟨b, off + k * 5 + 2, none⟩ = some (.int .i64 many)) W16 := ⟨(hb16.cell (block_lt_of_cell hR.1)).trans hR.1, (hb16.cell (block_lt_of_cell hR.2.1)).trans hR.2.1, (hb16.cell (block_lt_of_cell hR.2.2.1)).trans hR.2.2.1, (hb16.cell (block_lt_of_cell hR.2.2.2.1)).trans hR.2.2.2.1, (hb16.cell (block_lt_of_cell hR.2.2.2.2)).trans hR.2.2.2.2⟩
  replace hB := hB.trans (hb16.mono hB.size)
  clear hb16 W
  obtain ⟨W, rfl⟩ : ∃ W, W = W16 := ⟨_, rfl⟩
  refine AnyK.indexV (i := 26) may_o (u := .agg (stk st)) (u' := .int .i64 src) (v := .int .i64 (st src.toNat)) (by simp [hsz]) (by simp [hsz]) (fun w => ix84 hs0 hs6 w) hR (hw := (by exact wanted_g (e := 25) (b' := false) rfl (by simp [hsz]) rfl)) ?_
  refine AnyK.bin (i := 36) may_o (u := .int .i64 (st src.toNat)) (u' := .int .i64 many) (v := .bool (decide (st src.toNat < many))) (by simp [hsz]) (by simp [hsz]) (fun w => lss3 w) hR (hw := (by exact wanted_g (e := 25) (b' := false) rfl (by simp [hsz]) rfl)) ?_
  refine AnyK.pick (i := 37) may_o (b := false) (v := .bool (decide (st src.toNat < many))) (by simp [hsz]) (by simp [hsz]) hR ?_
  refine AnyK.done (by kernel_rfl) (hK _ _ hB ?_ ?_ ?_ ?_)
  · simp only [size_put, hsz]
  · simp only [defers_put]
  · exact (by simp [hsz])
  · intro e he
    iterate 38 refine (ev_ne (by omega)).trans ?_
    rfl

noncomputable def opsS5 : Array Oper := (Try.f64.body.bind (regionOf 5)).getD #[]
set_option maxHeartbeats 2000000 in
theorem regionS5 {F : Fence} {n : Nat} (hF : WideF F Try.prog) {Q : Exit → Act → World → Prop} {a : Act} {w : World} {kb ge gl N ce cl d k b8 b9 b10 : Nat} {e f lo hi : Int} (hsz : a.tmps.size = 98)
    (t0 : a.eval (.tmp 0) = .pointer (some ⟨kb, 0, none⟩)) (t1 : a.eval (.tmp 1) = .int .i64 d) (t2 : a.eval (.tmp 2) = .int .i64 k) (t8 : a.eval (.tmp 8) = .pointer (some ⟨b8, 0, none⟩)) (t9 : a.eval (.tmp 9) = .pointer (some ⟨b9, 0, none⟩)) (t10 : a.eval (.tmp 10) = .pointer (some ⟨b10, 0, none⟩))
    (m0 : w.cell? ⟨kb, 3, none⟩ = some (.slice (some ⟨ge, 0, none⟩) N ce)) (m1 : w.cell? ⟨ge, d, none⟩ = some (.int .i64 e)) (m2 : w.cell? ⟨b8, 0, none⟩ = some (.func (.func 77) #[] #[])) (m3 : w.cell? ⟨b10, 0, none⟩ = some (.int .i64 lo)) (m4 : w.cell? ⟨b10, 1, none⟩ = some (.int .i64 hi)) (m5 : w.cell? ⟨kb, 4, none⟩ = some (.slice (some ⟨gl, 0, none⟩) N cl)) (m6 : w.cell? ⟨gl, (d ||| 2 ^ k), none⟩ = some (.int .i64 f)) (m7 : w.cell? ⟨b9, 0, none⟩ = some (.func (.func 78) #[] #[])) (hd : d < N) (hto : d ||| 2 ^ k < N) (hd6 : d < 65536) (hk : k < 16)
    (hK : ∀ a' W' p, Below w.heap.size w W' → Two W' p (max e lo) (min f hi) → w.heap.size ≤ p → a'.tmps.size = 98 → a'.defers = a.defers → a'.eval (.tmp 11) = .pointer (some ⟨p, 0, none⟩) → (∀ e : Nat, e ≠ 11 ∧ (e < 62 ∨ 92 ≤ e) → a'.eval (.tmp e) = a.eval (.tmp e)) → Q .normal a' W') :
    (Code.region 5 opsS5 true).wpIn F n Try.prog Q a w := by
  have hR : (fun w : World => w.cell? ⟨kb, 3, none⟩ = some (.slice (some ⟨ge, 0, none⟩) N ce) ∧ w.cell? ⟨ge, d, none⟩ = some (.int .i64 e) ∧ w.cell? ⟨b8, 0, none⟩ = some (.func (.func 77) #[] #[]) ∧ w.cell? ⟨b10, 0, none⟩ = some (.int .i64 lo) ∧ w.cell? ⟨b10, 1, none⟩ = some (.int .i64 hi) ∧ w.cell? ⟨kb, 4, none⟩ = some (.slice (some ⟨gl, 0, none⟩) N cl) ∧ w.cell? ⟨gl, (d ||| 2 ^ k), none⟩ = some (.int .i64 f) ∧ w.cell? ⟨b9, 0, none⟩ = some (.func (.func 78) #[] #[])) w.drew := ⟨m0, m1, m2, m3, m4, m5, m6, m7⟩
  have hB : Below w.heap.size w w.drew := (Below.refl _ _).drew
  refine region_K (KpR (fun w => w.cell? ⟨kb, 3, none⟩ = some (.slice (some ⟨ge, 0, none⟩) N ce) ∧ w.cell? ⟨ge, d, none⟩ = some (.int .i64 e) ∧ w.cell? ⟨b8, 0, none⟩ = some (.func (.func 77) #[] #[]) ∧ w.cell? ⟨b10, 0, none⟩ = some (.int .i64 lo) ∧ w.cell? ⟨b10, 1, none⟩ = some (.int .i64 hi) ∧ w.cell? ⟨kb, 4, none⟩ = some (.slice (some ⟨gl, 0, none⟩) N cl) ∧ w.cell? ⟨gl, (d ||| 2 ^ k), none⟩ = some (.int .i64 f) ∧ w.cell? ⟨b9, 0, none⟩ = some (.func (.func 78) #[] #[])) (fun j => j == 31)) hF (by kernel_rfl) Try.mixed ?_
  change AnyK _ _ _ _ 32 (Array.replicate 32 false) _ _
  generalize w.drew = W at *
  refine AnyK.move (i := 0) may_o (v := .pointer (some ⟨kb, 0, none⟩)) (by simp [t0]) hR ?_
  refine AnyK.nilCheck (i := 1) may_o (p := ⟨kb, 0, none⟩) (by simp [hsz]) hR ?_
  refine AnyK.field (i := 2) may_o (u := .pointer (some ⟨kb, 0, none⟩)) (v := .pointer (some ⟨kb, 3, none⟩)) (by simp [hsz]) (fun w => fa114_1 w) hR ?_
  refine AnyK.load (i := 3) may_o (p := ⟨kb, 3, none⟩) (v := .slice (some ⟨ge, 0, none⟩) N ce) (by simp [hsz]) (fun w hw => ld25 hw.1) hR ?_
  refine AnyK.move (i := 4) may_o (v := .int .i64 d) (by simp [t1]) hR ?_
  refine AnyK.index (i := 5) may_o (u := .slice (some ⟨ge, 0, none⟩) N ce) (u' := .int .i64 d) (v := .pointer (some ⟨ge, d, none⟩)) (by simp [hsz]) (by simp [hsz]) (fun w => ix25 hd w) hR ?_
  refine AnyK.load (i := 6) may_o (p := ⟨ge, d, none⟩) (v := .int .i64 e) (by simp [hsz]) (fun w hw => ld3 hw.2.1) hR ?_
  refine AnyK.field (i := 7) may_o (u := .pointer (some ⟨b8, 0, none⟩)) (v := .pointer (some ⟨b8, 0, none⟩)) (by simp [t8]) (fun w => fa122_0 w) hR ?_
  refine AnyK.load (i := 8) may_o (p := ⟨b8, 0, none⟩) (v := .func (.func 77) #[] #[]) (by simp [hsz]) (fun w hw => ld119 hw.2.2.1) hR ?_
  refine AnyK.load (i := 9) may_o (p := ⟨b10, 0, none⟩) (v := .agg #[.int .i64 lo, .int .i64 hi]) (by simp [t10]) (fun w hw => ld46 ⟨hw.2.2.2.1, hw.2.2.2.2.1⟩) hR ?_
  refine AnyK.move (i := 13) may_o (v := .pointer (some ⟨kb, 0, none⟩)) (by simp [t0]) hR ?_
  refine AnyK.nilCheck (i := 14) may_o (p := ⟨kb, 0, none⟩) (by simp [hsz]) hR ?_
  refine AnyK.field (i := 15) may_o (u := .pointer (some ⟨kb, 0, none⟩)) (v := .pointer (some ⟨kb, 4, none⟩)) (by simp [hsz]) (fun w => fa114_2 w) hR ?_
  refine AnyK.load (i := 16) may_o (p := ⟨kb, 4, none⟩) (v := .slice (some ⟨gl, 0, none⟩) N cl) (by simp [hsz]) (fun w hw => ld25 hw.2.2.2.2.2.1) hR ?_
  refine AnyK.move (i := 17) may_o (v := .int .i64 d) (by simp [t1]) hR ?_
  refine AnyK.move (i := 18) may_o (v := .int .i64 k) (by simp [t2]) hR ?_
  refine AnyK.bin (i := 19) may_o (u := .int .i64 (1)) (u' := .int .i64 k) (v := .int .i64 ((2 ^ k : Nat) : Int)) (by simp) (by simp [hsz]) (fun w => sh94 hk w) hR ?_
  refine AnyK.bin (i := 20) may_o (u := .int .i64 d) (u' := .int .i64 ((2 ^ k : Nat) : Int)) (v := .int .i64 ((d ||| 2 ^ k : Nat) : Int)) (by simp [hsz]) (by simp [hsz]) (fun w => or94 hd6 (by have := Nat.pow_lt_pow_right (a := 2) (by omega) hk; omega) w) hR ?_
  refine AnyK.index (i := 21) may_o (u := .slice (some ⟨gl, 0, none⟩) N cl) (u' := .int .i64 ((d ||| 2 ^ k : Nat) : Int)) (v := .pointer (some ⟨gl, (d ||| 2 ^ k), none⟩)) (by simp [hsz]) (by simp [hsz]) (fun w => ix25 hto w) hR ?_
  refine AnyK.load (i := 22) may_o (p := ⟨gl, (d ||| 2 ^ k), none⟩) (v := .int .i64 f) (by simp [hsz]) (fun w hw => ld3 hw.2.2.2.2.2.2.1) hR ?_
  refine AnyK.field (i := 23) may_o (u := .pointer (some ⟨b9, 0, none⟩)) (v := .pointer (some ⟨b9, 0, none⟩)) (by simp [t9]) (fun w => fa122_0 w) hR ?_
  refine AnyK.load (i := 24) may_o (p := ⟨b9, 0, none⟩) (v := .func (.func 78) #[] #[]) (by simp [hsz]) (fun w hw => ld119 hw.2.2.2.2.2.2.2) hR ?_
  refine AnyK.load (i := 25) may_o (p := ⟨b10, 0, none⟩) (v := .agg #[.int .i64 lo, .int .i64 hi]) (by simp [t10]) (fun w hw => ld46 ⟨hw.2.2.2.1, hw.2.2.2.2.1⟩) hR ?_
  refine AnyK.pick2 (i := 10) (j := 30) (by kernel_rfl) ?_ ?_
  · refine StepK.call (i := 10) (f := 77) (vs := #[.agg #[.int .i64 lo, .int .i64 hi]]) rfl (enters_of Try.func77 (by kernel_rfl) rfl) (by simp [hsz]) (by simp [hsz]) ((low_any lo hi _).mono ?_)
    rintro _ W10 ⟨rfl, hb10⟩
    refine ⟨_, rfl, (fun _ hw => ⟨(hb10.cell (block_lt_of_cell hw.1)).trans hw.1, (hb10.cell (block_lt_of_cell hw.2.1)).trans hw.2.1, (hb10.cell (block_lt_of_cell hw.2.2.1)).trans hw.2.2.1, (hb10.cell (block_lt_of_cell hw.2.2.2.1)).trans hw.2.2.2.1, (hb10.cell (block_lt_of_cell hw.2.2.2.2.1)).trans hw.2.2.2.2.1, (hb10.cell (block_lt_of_cell hw.2.2.2.2.2.1)).trans hw.2.2.2.2.2.1, (hb10.cell (block_lt_of_cell hw.2.2.2.2.2.2.1)).trans hw.2.2.2.2.2.2.1, (hb10.cell (block_lt_of_cell hw.2.2.2.2.2.2.2)).trans hw.2.2.2.2.2.2.2⟩), ?_⟩
    replace hR : (fun w : World => w.cell? ⟨kb, 3, none⟩ = some (.slice (some ⟨ge, 0, none⟩) N ce) ∧ w.cell? ⟨ge, d, none⟩ = some (.int .i64 e) ∧ w.cell? ⟨b8, 0, none⟩ = some (.func (.func 77) #[] #[]) ∧ w.cell? ⟨b10, 0, none⟩ = some (.int .i64 lo) ∧ w.cell? ⟨b10, 1, none⟩ = some (.int .i64 hi) ∧ w.cell? ⟨kb, 4, none⟩ = some (.slice (some ⟨gl, 0, none⟩) N cl) ∧ w.cell? ⟨gl, (d ||| 2 ^ k), none⟩ = some (.int .i64 f) ∧ w.cell? ⟨b9, 0, none⟩ = some (.func (.func 78) #[] #[])) W10 := ⟨(hb10.cell (block_lt_of_cell hR.1)).trans hR.1, (hb10.cell (block_lt_of_cell hR.2.1)).trans hR.2.1, (hb10.cell (block_lt_of_cell hR.2.2.1)).trans hR.2.2.1, (hb10.cell (block_lt_of_cell hR.2.2.2.1)).trans hR.2.2.2.1, (hb10.cell (block_lt_of_cell hR.2.2.2.2.1)).trans hR.2.2.2.2.1, (hb10.cell (block_lt_of_cell hR.2.2.2.2.2.1)).trans hR.2.2.2.2.2.1, (hb10.cell (block_lt_of_cell hR.2.2.2.2.2.2.1)).trans hR.2.2.2.2.2.2.1, (hb10.cell (block_lt_of_cell hR.2.2.2.2.2.2.2)).trans hR.2.2.2.2.2.2.2⟩
    replace hB := hB.trans (hb10.mono hB.size)
    clear hb10 W
    obtain ⟨W, rfl⟩ : ∃ W, W = W10 := ⟨_, rfl⟩
    refine AnyK.pick2 (i := 11) (j := 30) (by kernel_rfl) ?_ ?_
    · refine StepK.build (i := 11) (ps := #[(0, .int .i64 e), (1, .int .i64 lo)]) rfl (by simp [hsz]) (bs25_2 _ _ _) (fun _ hw => ⟨cell_alloc_l _ hw.1, cell_alloc_l _ hw.2.1, cell_alloc_l _ hw.2.2.1, cell_alloc_l _ hw.2.2.2.1, cell_alloc_l _ hw.2.2.2.2.1, cell_alloc_l _ hw.2.2.2.2.2.1, cell_alloc_l _ hw.2.2.2.2.2.2.1, cell_alloc_l _ hw.2.2.2.2.2.2.2⟩) ?_
      have n11 := cell_new2 W (.int .i64 e) (.int .i64 lo) 3
      replace hR : (fun w : World => w.cell? ⟨kb, 3, none⟩ = some (.slice (some ⟨ge, 0, none⟩) N ce) ∧ w.cell? ⟨ge, d, none⟩ = some (.int .i64 e) ∧ w.cell? ⟨b8, 0, none⟩ = some (.func (.func 77) #[] #[]) ∧ w.cell? ⟨b10, 0, none⟩ = some (.int .i64 lo) ∧ w.cell? ⟨b10, 1, none⟩ = some (.int .i64 hi) ∧ w.cell? ⟨kb, 4, none⟩ = some (.slice (some ⟨gl, 0, none⟩) N cl) ∧ w.cell? ⟨gl, (d ||| 2 ^ k), none⟩ = some (.int .i64 f) ∧ w.cell? ⟨b9, 0, none⟩ = some (.func (.func 78) #[] #[])) (W.alloc (.cells #[.int .i64 e, .int .i64 lo] 3)) := ⟨cell_alloc_l _ hR.1, cell_alloc_l _ hR.2.1, cell_alloc_l _ hR.2.2.1, cell_alloc_l _ hR.2.2.2.1, cell_alloc_l _ hR.2.2.2.2.1, cell_alloc_l _ hR.2.2.2.2.2.1, cell_alloc_l _ hR.2.2.2.2.2.2.1, cell_alloc_l _ hR.2.2.2.2.2.2.2⟩
      replace hB := hB.alloc hB.size (.cells #[.int .i64 e, .int .i64 lo] 3)
      generalize hp11 : W.heap.size = p11 at *
      generalize W.alloc (.cells #[.int .i64 e, .int .i64 lo] 3) = W11 at *
      clear hp11 W
      obtain ⟨W, rfl⟩ : ∃ W, W = W11 := ⟨_, rfl⟩
      refine AnyK.pick2 (i := 12) (j := 30) (by kernel_rfl) ?_ ?_
      · refine StepK.call (i := 12) (f := 57) (vs := #[.slice (some ⟨p11, 0, none⟩) 2 2]) rfl (enters_of Try.func57 (by kernel_rfl) rfl) rfl (by simp [hsz]) ((greatest_two _ 0 2 _ _ _ n11.1 n11.2).mono ?_)
        rintro _ _ ⟨rfl, rfl⟩
        refine ⟨_, rfl, fun _ h => h, ?_⟩
        clear n11
        refine AnyK.pick2 (i := 26) (j := 30) (by kernel_rfl) ?_ ?_
        · refine StepK.call (i := 26) (f := 78) (vs := #[.agg #[.int .i64 lo, .int .i64 hi]]) rfl (enters_of Try.func78 (by kernel_rfl) rfl) (by simp [hsz]) (by simp [hsz]) ((high_any lo hi _).mono ?_)
          rintro _ W26 ⟨rfl, hb26⟩
          refine ⟨_, rfl, (fun _ hw => ⟨(hb26.cell (block_lt_of_cell hw.1)).trans hw.1, (hb26.cell (block_lt_of_cell hw.2.1)).trans hw.2.1, (hb26.cell (block_lt_of_cell hw.2.2.1)).trans hw.2.2.1, (hb26.cell (block_lt_of_cell hw.2.2.2.1)).trans hw.2.2.2.1, (hb26.cell (block_lt_of_cell hw.2.2.2.2.1)).trans hw.2.2.2.2.1, (hb26.cell (block_lt_of_cell hw.2.2.2.2.2.1)).trans hw.2.2.2.2.2.1, (hb26.cell (block_lt_of_cell hw.2.2.2.2.2.2.1)).trans hw.2.2.2.2.2.2.1, (hb26.cell (block_lt_of_cell hw.2.2.2.2.2.2.2)).trans hw.2.2.2.2.2.2.2⟩), ?_⟩
          replace hR : (fun w : World => w.cell? ⟨kb, 3, none⟩ = some (.slice (some ⟨ge, 0, none⟩) N ce) ∧ w.cell? ⟨ge, d, none⟩ = some (.int .i64 e) ∧ w.cell? ⟨b8, 0, none⟩ = some (.func (.func 77) #[] #[]) ∧ w.cell? ⟨b10, 0, none⟩ = some (.int .i64 lo) ∧ w.cell? ⟨b10, 1, none⟩ = some (.int .i64 hi) ∧ w.cell? ⟨kb, 4, none⟩ = some (.slice (some ⟨gl, 0, none⟩) N cl) ∧ w.cell? ⟨gl, (d ||| 2 ^ k), none⟩ = some (.int .i64 f) ∧ w.cell? ⟨b9, 0, none⟩ = some (.func (.func 78) #[] #[])) W26 := ⟨(hb26.cell (block_lt_of_cell hR.1)).trans hR.1, (hb26.cell (block_lt_of_cell hR.2.1)).trans hR.2.1, (hb26.cell (block_lt_of_cell hR.2.2.1)).trans hR.2.2.1, (hb26.cell (block_lt_of_cell hR.2.2.2.1)).trans hR.2.2.2.1, (hb26.cell (block_lt_of_cell hR.2.2.2.2.1)).trans hR.2.2.2.2.1, (hb26.cell (block_lt_of_cell hR.2.2.2.2.2.1)).trans hR.2.2.2.2.2.1, (hb26.cell (block_lt_of_cell hR.2.2.2.2.2.2.1)).trans hR.2.2.2.2.2.2.1, (hb26.cell (block_lt_of_cell hR.2.2.2.2.2.2.2)).trans hR.2.2.2.2.2.2.2⟩
          replace hB := hB.trans (hb26.mono hB.size)
          clear hb26 W
          obtain ⟨W, rfl⟩ : ∃ W, W = W26 := ⟨_, rfl⟩
          refine AnyK.pick2 (i := 27) (j := 30) (by kernel_rfl) ?_ ?_
          · refine StepK.build (i := 27) (ps := #[(0, .int .i64 f), (1, .int .i64 hi)]) rfl (by simp [hsz]) (bs25_2 _ _ _) (fun _ hw => ⟨cell_alloc_l _ hw.1, cell_alloc_l _ hw.2.1, cell_alloc_l _ hw.2.2.1, cell_alloc_l _ hw.2.2.2.1, cell_alloc_l _ hw.2.2.2.2.1, cell_alloc_l _ hw.2.2.2.2.2.1, cell_alloc_l _ hw.2.2.2.2.2.2.1, cell_alloc_l _ hw.2.2.2.2.2.2.2⟩) ?_
            have n27 := cell_new2 W (.int .i64 f) (.int .i64 hi) 3
            replace hR : (fun w : World => w.cell? ⟨kb, 3, none⟩ = some (.slice (some ⟨ge, 0, none⟩) N ce) ∧ w.cell? ⟨ge, d, none⟩ = some (.int .i64 e) ∧ w.cell? ⟨b8, 0, none⟩ = some (.func (.func 77) #[] #[]) ∧ w.cell? ⟨b10, 0, none⟩ = some (.int .i64 lo) ∧ w.cell? ⟨b10, 1, none⟩ = some (.int .i64 hi) ∧ w.cell? ⟨kb, 4, none⟩ = some (.slice (some ⟨gl, 0, none⟩) N cl) ∧ w.cell? ⟨gl, (d ||| 2 ^ k), none⟩ = some (.int .i64 f) ∧ w.cell? ⟨b9, 0, none⟩ = some (.func (.func 78) #[] #[])) (W.alloc (.cells #[.int .i64 f, .int .i64 hi] 3)) := ⟨cell_alloc_l _ hR.1, cell_alloc_l _ hR.2.1, cell_alloc_l _ hR.2.2.1, cell_alloc_l _ hR.2.2.2.1, cell_alloc_l _ hR.2.2.2.2.1, cell_alloc_l _ hR.2.2.2.2.2.1, cell_alloc_l _ hR.2.2.2.2.2.2.1, cell_alloc_l _ hR.2.2.2.2.2.2.2⟩
            replace hB := hB.alloc hB.size (.cells #[.int .i64 f, .int .i64 hi] 3)
            generalize hp27 : W.heap.size = p27 at *
            generalize W.alloc (.cells #[.int .i64 f, .int .i64 hi] 3) = W27 at *
            clear hp27 W
            obtain ⟨W, rfl⟩ : ∃ W, W = W27 := ⟨_, rfl⟩
            refine AnyK.pick2 (i := 28) (j := 30) (by kernel_rfl) ?_ ?_
            · refine StepK.call (i := 28) (f := 65) (vs := #[.slice (some ⟨p27, 0, none⟩) 2 2]) rfl (enters_of Try.func65 (by kernel_rfl) rfl) rfl (by simp [hsz]) ((least_two _ 0 2 _ _ _ n27.1 n27.2).mono ?_)
              rintro _ _ ⟨rfl, rfl⟩
              refine ⟨_, rfl, fun _ h => h, ?_⟩
              clear n27
              refine AnyK.bld (i := 29) may_o (ps := #[(0, .int .i64 (max e lo)), (1, .int .i64 (min f hi))]) (v := .agg #[.int .i64 (max e lo), .int .i64 (min f hi)]) (by simp [hsz]) (fun w => bd46 _ _ w) hR ?_
              refine AnyK.pick1 (i := 30) (by kernel_rfl) ?_
              refine StepK.alloc (i := 30) rfl (al46 _) (fun _ hw => ⟨cell_alloc_l _ hw.1, cell_alloc_l _ hw.2.1, cell_alloc_l _ hw.2.2.1, cell_alloc_l _ hw.2.2.2.1, cell_alloc_l _ hw.2.2.2.2.1, cell_alloc_l _ hw.2.2.2.2.2.1, cell_alloc_l _ hw.2.2.2.2.2.2.1, cell_alloc_l _ hw.2.2.2.2.2.2.2⟩) ?_
              have tw := Two.new W 0 0
              have hpw : w.heap.size ≤ W.heap.size := hB.size
              replace hR : (fun w : World => w.cell? ⟨kb, 3, none⟩ = some (.slice (some ⟨ge, 0, none⟩) N ce) ∧ w.cell? ⟨ge, d, none⟩ = some (.int .i64 e) ∧ w.cell? ⟨b8, 0, none⟩ = some (.func (.func 77) #[] #[]) ∧ w.cell? ⟨b10, 0, none⟩ = some (.int .i64 lo) ∧ w.cell? ⟨b10, 1, none⟩ = some (.int .i64 hi) ∧ w.cell? ⟨kb, 4, none⟩ = some (.slice (some ⟨gl, 0, none⟩) N cl) ∧ w.cell? ⟨gl, (d ||| 2 ^ k), none⟩ = some (.int .i64 f) ∧ w.cell? ⟨b9, 0, none⟩ = some (.func (.func 78) #[] #[])) (W.alloc (.cells #[.int .i64 0, .int .i64 0] 46)) := ⟨cell_alloc_l _ hR.1, cell_alloc_l _ hR.2.1, cell_alloc_l _ hR.2.2.1, cell_alloc_l _ hR.2.2.2.1, cell_alloc_l _ hR.2.2.2.2.1, cell_alloc_l _ hR.2.2.2.2.2.1, cell_alloc_l _ hR.2.2.2.2.2.2.1, cell_alloc_l _ hR.2.2.2.2.2.2.2⟩
              replace hB := hB.alloc hB.size (.cells #[.int .i64 0, .int .i64 0] 46)
              generalize hp30 : W.heap.size = p30 at *
              generalize W.alloc (.cells #[.int .i64 0, .int .i64 0] 46) = W30 at *
              clear hp30 W
              obtain ⟨W, rfl⟩ : ∃ W, W = W30 := ⟨_, rfl⟩
              refine AnyK.pick1 (i := 31) (by kernel_rfl) ?_
              refine StepK.store (i := 31) (u := .pointer (some ⟨p30, 0, none⟩)) (u' := .agg #[.int .i64 (max e lo), .int .i64 (min f hi)]) rfl (by simp [hsz]) (by simp [hsz]) (st46 tw.c0 tw.c1 tw.f0 tw.f1) (fun h => by cases h) ?_
              refine AnyK.done (by kernel_rfl) (hK _ _ _ (below_put2 hB hpw _ _) (tw.put _ _) hpw ?_ ?_ ?_ ?_)
              · simp only [size_put, hsz]
              · simp only [defers_put]
              · exact (by simp [hsz])
              · intro e he
                iterate 31 refine (ev_ne (by omega)).trans ?_
                rfl
            · refine StepK.alloc (i := 30) rfl (al46 _) (fun _ hw => ⟨cell_alloc_l _ hw.1, cell_alloc_l _ hw.2.1, cell_alloc_l _ hw.2.2.1, cell_alloc_l _ hw.2.2.2.1, cell_alloc_l _ hw.2.2.2.2.1, cell_alloc_l _ hw.2.2.2.2.2.1, cell_alloc_l _ hw.2.2.2.2.2.2.1, cell_alloc_l _ hw.2.2.2.2.2.2.2⟩) ?_
              replace n27 := And.intro (cell_alloc_l (.cells #[.int .i64 0, .int .i64 0] 46) n27.1) (cell_alloc_l (.cells #[.int .i64 0, .int .i64 0] 46) n27.2)
              have tw := Two.new W 0 0
              have hpw : w.heap.size ≤ W.heap.size := hB.size
              replace hR : (fun w : World => w.cell? ⟨kb, 3, none⟩ = some (.slice (some ⟨ge, 0, none⟩) N ce) ∧ w.cell? ⟨ge, d, none⟩ = some (.int .i64 e) ∧ w.cell? ⟨b8, 0, none⟩ = some (.func (.func 77) #[] #[]) ∧ w.cell? ⟨b10, 0, none⟩ = some (.int .i64 lo) ∧ w.cell? ⟨b10, 1, none⟩ = some (.int .i64 hi) ∧ w.cell? ⟨kb, 4, none⟩ = some (.slice (some ⟨gl, 0, none⟩) N cl) ∧ w.cell? ⟨gl, (d ||| 2 ^ k), none⟩ = some (.int .i64 f) ∧ w.cell? ⟨b9, 0, none⟩ = some (.func (.func 78) #[] #[])) (W.alloc (.cells #[.int .i64 0, .int .i64 0] 46)) := ⟨cell_alloc_l _ hR.1, cell_alloc_l _ hR.2.1, cell_alloc_l _ hR.2.2.1, cell_alloc_l _ hR.2.2.2.1, cell_alloc_l _ hR.2.2.2.2.1, cell_alloc_l _ hR.2.2.2.2.2.1, cell_alloc_l _ hR.2.2.2.2.2.2.1, cell_alloc_l _ hR.2.2.2.2.2.2.2⟩
              replace hB := hB.alloc hB.size (.cells #[.int .i64 0, .int .i64 0] 46)
              generalize hp30 : W.heap.size = p30 at *
              generalize W.alloc (.cells #[.int .i64 0, .int .i64 0] 46) = W30 at *
              clear hp30 W
              obtain ⟨W, rfl⟩ : ∃ W, W = W30 := ⟨_, rfl⟩
              refine AnyK.pick1 (i := 28) (by kernel_rfl) ?_
              refine StepK.call (i := 28) (f := 65) (vs := #[.slice (some ⟨p27, 0, none⟩) 2 2]) rfl (enters_of Try.func65 (by kernel_rfl) rfl) rfl (by simp [hsz]) ((least_two _ 0 2 _ _ _ n27.1 n27.2).mono ?_)
              rintro _ _ ⟨rfl, rfl⟩
              refine ⟨_, rfl, fun _ h => h, ?_⟩
              clear n27
              refine AnyK.bld (i := 29) may_o (ps := #[(0, .int .i64 (max e lo)), (1, .int .i64 (min f hi))]) (v := .agg #[.int .i64 (max e lo), .int .i64 (min f hi)]) (by simp [hsz]) (fun w => bd46 _ _ w) hR ?_
              refine AnyK.pick1 (i := 31) (by kernel_rfl) ?_
              refine StepK.store (i := 31) (u := .pointer (some ⟨p30, 0, none⟩)) (u' := .agg #[.int .i64 (max e lo), .int .i64 (min f hi)]) rfl (by simp [hsz]) (by simp [hsz]) (st46 tw.c0 tw.c1 tw.f0 tw.f1) (fun h => by cases h) ?_
              refine AnyK.done (by kernel_rfl) (hK _ _ _ (below_put2 hB hpw _ _) (tw.put _ _) hpw ?_ ?_ ?_ ?_)
              · simp only [size_put, hsz]
              · simp only [defers_put]
              · exact (by simp [hsz])
              · intro e he
                iterate 31 refine (ev_ne (by omega)).trans ?_
                rfl
          · refine StepK.alloc (i := 30) rfl (al46 _) (fun _ hw => ⟨cell_alloc_l _ hw.1, cell_alloc_l _ hw.2.1, cell_alloc_l _ hw.2.2.1, cell_alloc_l _ hw.2.2.2.1, cell_alloc_l _ hw.2.2.2.2.1, cell_alloc_l _ hw.2.2.2.2.2.1, cell_alloc_l _ hw.2.2.2.2.2.2.1, cell_alloc_l _ hw.2.2.2.2.2.2.2⟩) ?_
            have tw := Two.new W 0 0
            have hpw : w.heap.size ≤ W.heap.size := hB.size
            replace hR : (fun w : World => w.cell? ⟨kb, 3, none⟩ = some (.slice (some ⟨ge, 0, none⟩) N ce) ∧ w.cell? ⟨ge, d, none⟩ = some (.int .i64 e) ∧ w.cell? ⟨b8, 0, none⟩ = some (.func (.func 77) #[] #[]) ∧ w.cell? ⟨b10, 0, none⟩ = some (.int .i64 lo) ∧ w.cell? ⟨b10, 1, none⟩ = some (.int .i64 hi) ∧ w.cell? ⟨kb, 4, none⟩ = some (.slice (some ⟨gl, 0, none⟩) N cl) ∧ w.cell? ⟨gl, (d ||| 2 ^ k), none⟩ = some (.int .i64 f) ∧ w.cell? ⟨b9, 0, none⟩ = some (.func (.func 78) #[] #[])) (W.alloc (.cells #[.int .i64 0, .int .i64 0] 46)) := ⟨cell_alloc_l _ hR.1, cell_alloc_l _ hR.2.1, cell_alloc_l _ hR.2.2.1, cell_alloc_l _ hR.2.2.2.1, cell_alloc_l _ hR.2.2.2.2.1, cell_alloc_l _ hR.2.2.2.2.2.1, cell_alloc_l _ hR.2.2.2.2.2.2.1, cell_alloc_l _ hR.2.2.2.2.2.2.2⟩
            replace hB := hB.alloc hB.size (.cells #[.int .i64 0, .int .i64 0] 46)
            generalize hp30 : W.heap.size = p30 at *
            generalize W.alloc (.cells #[.int .i64 0, .int .i64 0] 46) = W30 at *
            clear hp30 W
            obtain ⟨W, rfl⟩ : ∃ W, W = W30 := ⟨_, rfl⟩
            refine AnyK.pick1 (i := 27) (by kernel_rfl) ?_
            refine StepK.build (i := 27) (ps := #[(0, .int .i64 f), (1, .int .i64 hi)]) rfl (by simp [hsz]) (bs25_2 _ _ _) (fun _ hw => ⟨cell_alloc_l _ hw.1, cell_alloc_l _ hw.2.1, cell_alloc_l _ hw.2.2.1, cell_alloc_l _ hw.2.2.2.1, cell_alloc_l _ hw.2.2.2.2.1, cell_alloc_l _ hw.2.2.2.2.2.1, cell_alloc_l _ hw.2.2.2.2.2.2.1, cell_alloc_l _ hw.2.2.2.2.2.2.2⟩) ?_
            replace tw := tw.below ((Below.refl _ W).alloc (Nat.le_refl _) (.cells #[.int .i64 f, .int .i64 hi] 3))
            have n27 := cell_new2 W (.int .i64 f) (.int .i64 hi) 3
            replace hR : (fun w : World => w.cell? ⟨kb, 3, none⟩ = some (.slice (some ⟨ge, 0, none⟩) N ce) ∧ w.cell? ⟨ge, d, none⟩ = some (.int .i64 e) ∧ w.cell? ⟨b8, 0, none⟩ = some (.func (.func 77) #[] #[]) ∧ w.cell? ⟨b10, 0, none⟩ = some (.int .i64 lo) ∧ w.cell? ⟨b10, 1, none⟩ = some (.int .i64 hi) ∧ w.cell? ⟨kb, 4, none⟩ = some (.slice (some ⟨gl, 0, none⟩) N cl) ∧ w.cell? ⟨gl, (d ||| 2 ^ k), none⟩ = some (.int .i64 f) ∧ w.cell? ⟨b9, 0, none⟩ = some (.func (.func 78) #[] #[])) (W.alloc (.cells #[.int .i64 f, .int .i64 hi] 3)) := ⟨cell_alloc_l _ hR.1, cell_alloc_l _ hR.2.1, cell_alloc_l _ hR.2.2.1, cell_alloc_l _ hR.2.2.2.1, cell_alloc_l _ hR.2.2.2.2.1, cell_alloc_l _ hR.2.2.2.2.2.1, cell_alloc_l _ hR.2.2.2.2.2.2.1, cell_alloc_l _ hR.2.2.2.2.2.2.2⟩
            replace hB := hB.alloc hB.size (.cells #[.int .i64 f, .int .i64 hi] 3)
            generalize hp27 : W.heap.size = p27 at *
            generalize W.alloc (.cells #[.int .i64 f, .int .i64 hi] 3) = W27 at *
            clear hp27 W
            obtain ⟨W, rfl⟩ : ∃ W, W = W27 := ⟨_, rfl⟩
            refine AnyK.pick1 (i := 28) (by kernel_rfl) ?_
            refine StepK.call (i := 28) (f := 65) (vs := #[.slice (some ⟨p27, 0, none⟩) 2 2]) rfl (enters_of Try.func65 (by kernel_rfl) rfl) rfl (by simp [hsz]) ((least_two _ 0 2 _ _ _ n27.1 n27.2).mono ?_)
            rintro _ _ ⟨rfl, rfl⟩
            refine ⟨_, rfl, fun _ h => h, ?_⟩
            clear n27
            refine AnyK.bld (i := 29) may_o (ps := #[(0, .int .i64 (max e lo)), (1, .int .i64 (min f hi))]) (v := .agg #[.int .i64 (max e lo), .int .i64 (min f hi)]) (by simp [hsz]) (fun w => bd46 _ _ w) hR ?_
            refine AnyK.pick1 (i := 31) (by kernel_rfl) ?_
            refine StepK.store (i := 31) (u := .pointer (some ⟨p30, 0, none⟩)) (u' := .agg #[.int .i64 (max e lo), .int .i64 (min f hi)]) rfl (by simp [hsz]) (by simp [hsz]) (st46 tw.c0 tw.c1 tw.f0 tw.f1) (fun h => by cases h) ?_
            refine AnyK.done (by kernel_rfl) (hK _ _ _ (below_put2 hB hpw _ _) (tw.put _ _) hpw ?_ ?_ ?_ ?_)
            · simp only [size_put, hsz]
            · simp only [defers_put]
            · exact (by simp [hsz])
            · intro e he
              iterate 31 refine (ev_ne (by omega)).trans ?_
              rfl
        · refine StepK.alloc (i := 30) rfl (al46 _) (fun _ hw => ⟨cell_alloc_l _ hw.1, cell_alloc_l _ hw.2.1, cell_alloc_l _ hw.2.2.1, cell_alloc_l _ hw.2.2.2.1, cell_alloc_l _ hw.2.2.2.2.1, cell_alloc_l _ hw.2.2.2.2.2.1, cell_alloc_l _ hw.2.2.2.2.2.2.1, cell_alloc_l _ hw.2.2.2.2.2.2.2⟩) ?_
          have tw := Two.new W 0 0
          have hpw : w.heap.size ≤ W.heap.size := hB.size
          replace hR : (fun w : World => w.cell? ⟨kb, 3, none⟩ = some (.slice (some ⟨ge, 0, none⟩) N ce) ∧ w.cell? ⟨ge, d, none⟩ = some (.int .i64 e) ∧ w.cell? ⟨b8, 0, none⟩ = some (.func (.func 77) #[] #[]) ∧ w.cell? ⟨b10, 0, none⟩ = some (.int .i64 lo) ∧ w.cell? ⟨b10, 1, none⟩ = some (.int .i64 hi) ∧ w.cell? ⟨kb, 4, none⟩ = some (.slice (some ⟨gl, 0, none⟩) N cl) ∧ w.cell? ⟨gl, (d ||| 2 ^ k), none⟩ = some (.int .i64 f) ∧ w.cell? ⟨b9, 0, none⟩ = some (.func (.func 78) #[] #[])) (W.alloc (.cells #[.int .i64 0, .int .i64 0] 46)) := ⟨cell_alloc_l _ hR.1, cell_alloc_l _ hR.2.1, cell_alloc_l _ hR.2.2.1, cell_alloc_l _ hR.2.2.2.1, cell_alloc_l _ hR.2.2.2.2.1, cell_alloc_l _ hR.2.2.2.2.2.1, cell_alloc_l _ hR.2.2.2.2.2.2.1, cell_alloc_l _ hR.2.2.2.2.2.2.2⟩
          replace hB := hB.alloc hB.size (.cells #[.int .i64 0, .int .i64 0] 46)
          generalize hp30 : W.heap.size = p30 at *
          generalize W.alloc (.cells #[.int .i64 0, .int .i64 0] 46) = W30 at *
          clear hp30 W
          obtain ⟨W, rfl⟩ : ∃ W, W = W30 := ⟨_, rfl⟩
          refine AnyK.pick1 (i := 26) (by kernel_rfl) ?_
          refine StepK.call (i := 26) (f := 78) (vs := #[.agg #[.int .i64 lo, .int .i64 hi]]) rfl (enters_of Try.func78 (by kernel_rfl) rfl) (by simp [hsz]) (by simp [hsz]) ((high_any lo hi _).mono ?_)
          rintro _ W26 ⟨rfl, hb26⟩
          refine ⟨_, rfl, (fun _ hw => ⟨(hb26.cell (block_lt_of_cell hw.1)).trans hw.1, (hb26.cell (block_lt_of_cell hw.2.1)).trans hw.2.1, (hb26.cell (block_lt_of_cell hw.2.2.1)).trans hw.2.2.1, (hb26.cell (block_lt_of_cell hw.2.2.2.1)).trans hw.2.2.2.1, (hb26.cell (block_lt_of_cell hw.2.2.2.2.1)).trans hw.2.2.2.2.1, (hb26.cell (block_lt_of_cell hw.2.2.2.2.2.1)).trans hw.2.2.2.2.2.1, (hb26.cell (block_lt_of_cell hw.2.2.2.2.2.2.1)).trans hw.2.2.2.2.2.2.1, (hb26.cell (block_lt_of_cell hw.2.2.2.2.2.2.2)).trans hw.2.2.2.2.2.2.2⟩), ?_⟩
          replace hR : (fun w : World => w.cell? ⟨kb, 3, none⟩ = some (.slice (some ⟨ge, 0, none⟩) N ce) ∧ w.cell? ⟨ge, d, none⟩ = some (.int .i64 e) ∧ w.cell? ⟨b8, 0, none⟩ = some (.func (.func 77) #[] #[]) ∧ w.cell? ⟨b10, 0, none⟩ = some (.int .i64 lo) ∧ w.cell? ⟨b10, 1, none⟩ = some (.int .i64 hi) ∧ w.cell? ⟨kb, 4, none⟩ = some (.slice (some ⟨gl, 0, none⟩) N cl) ∧ w.cell? ⟨gl, (d ||| 2 ^ k), none⟩ = some (.int .i64 f) ∧ w.cell? ⟨b9, 0, none⟩ = some (.func (.func 78) #[] #[])) W26 := ⟨(hb26.cell (block_lt_of_cell hR.1)).trans hR.1, (hb26.cell (block_lt_of_cell hR.2.1)).trans hR.2.1, (hb26.cell (block_lt_of_cell hR.2.2.1)).trans hR.2.2.1, (hb26.cell (block_lt_of_cell hR.2.2.2.1)).trans hR.2.2.2.1, (hb26.cell (block_lt_of_cell hR.2.2.2.2.1)).trans hR.2.2.2.2.1, (hb26.cell (block_lt_of_cell hR.2.2.2.2.2.1)).trans hR.2.2.2.2.2.1, (hb26.cell (block_lt_of_cell hR.2.2.2.2.2.2.1)).trans hR.2.2.2.2.2.2.1, (hb26.cell (block_lt_of_cell hR.2.2.2.2.2.2.2)).trans hR.2.2.2.2.2.2.2⟩
          replace tw := tw.below hb26
          replace hB := hB.trans (hb26.mono hB.size)
          clear hb26 W
          obtain ⟨W, rfl⟩ : ∃ W, W = W26 := ⟨_, rfl⟩
          refine AnyK.pick1 (i := 27) (by kernel_rfl) ?_
          refine StepK.build (i := 27) (ps := #[(0, .int .i64 f), (1, .int .i64 hi)]) rfl (by simp [hsz]) (bs25_2 _ _ _) (fun _ hw => ⟨cell_alloc_l _ hw.1, cell_alloc_l _ hw.2.1, cell_alloc_l _ hw.2.2.1, cell_alloc_l _ hw.2.2.2.1, cell_alloc_l _ hw.2.2.2.2.1, cell_alloc_l _ hw.2.2.2.2.2.1, cell_alloc_l _ hw.2.2.2.2.2.2.1, cell_alloc_l _ hw.2.2.2.2.2.2.2⟩) ?_
          replace tw := tw.below ((Below.refl _ W).alloc (Nat.le_refl _) (.cells #[.int .i64 f, .int .i64 hi] 3))
          have n27 := cell_new2 W (.int .i64 f) (.int .i64 hi) 3
          replace hR : (fun w : World => w.cell? ⟨kb, 3, none⟩ = some (.slice (some ⟨ge, 0, none⟩) N ce) ∧ w.cell? ⟨ge, d, none⟩ = some (.int .i64 e) ∧ w.cell? ⟨b8, 0, none⟩ = some (.func (.func 77) #[] #[]) ∧ w.cell? ⟨b10, 0, none⟩ = some (.int .i64 lo) ∧ w.cell? ⟨b10, 1, none⟩ = some (.int .i64 hi) ∧ w.cell? ⟨kb, 4, none⟩ = some (.slice (some ⟨gl, 0, none⟩) N cl) ∧ w.cell? ⟨gl, (d ||| 2 ^ k), none⟩ = some (.int .i64 f) ∧ w.cell? ⟨b9, 0, none⟩ = some (.func (.func 78) #[] #[])) (W.alloc (.cells #[.int .i64 f, .int .i64 hi] 3)) := ⟨cell_alloc_l _ hR.1, cell_alloc_l _ hR.2.1, cell_alloc_l _ hR.2.2.1, cell_alloc_l _ hR.2.2.2.1, cell_alloc_l _ hR.2.2.2.2.1, cell_alloc_l _ hR.2.2.2.2.2.1, cell_alloc_l _ hR.2.2.2.2.2.2.1, cell_alloc_l _ hR.2.2.2.2.2.2.2⟩
          replace hB := hB.alloc hB.size (.cells #[.int .i64 f, .int .i64 hi] 3)
          generalize hp27 : W.heap.size = p27 at *
          generalize W.alloc (.cells #[.int .i64 f, .int .i64 hi] 3) = W27 at *
          clear hp27 W
          obtain ⟨W, rfl⟩ : ∃ W, W = W27 := ⟨_, rfl⟩
          refine AnyK.pick1 (i := 28) (by kernel_rfl) ?_
          refine StepK.call (i := 28) (f := 65) (vs := #[.slice (some ⟨p27, 0, none⟩) 2 2]) rfl (enters_of Try.func65 (by kernel_rfl) rfl) rfl (by simp [hsz]) ((least_two _ 0 2 _ _ _ n27.1 n27.2).mono ?_)
          rintro _ _ ⟨rfl, rfl⟩
          refine ⟨_, rfl, fun _ h => h, ?_⟩
          clear n27
          refine AnyK.bld (i := 29) may_o (ps := #[(0, .int .i64 (max e lo)), (1, .int .i64 (min f hi))]) (v := .agg #[.int .i64 (max e lo), .int .i64 (min f hi)]) (by simp [hsz]) (fun w => bd46 _ _ w) hR ?_
          refine AnyK.pick1 (i := 31) (by kernel_rfl) ?_
          refine StepK.store (i := 31) (u := .pointer (some ⟨p30, 0, none⟩)) (u' := .agg #[.int .i64 (max e lo), .int .i64 (min f hi)]) rfl (by simp [hsz]) (by simp [hsz]) (st46 tw.c0 tw.c1 tw.f0 tw.f1) (fun h => by cases h) ?_
          refine AnyK.done (by kernel_rfl) (hK _ _ _ (below_put2 hB hpw _ _) (tw.put _ _) hpw ?_ ?_ ?_ ?_)
          · simp only [size_put, hsz]
          · simp only [defers_put]
          · exact (by simp [hsz])
          · intro e he
            iterate 31 refine (ev_ne (by omega)).trans ?_
            rfl
      · refine StepK.alloc (i := 30) rfl (al46 _) (fun _ hw => ⟨cell_alloc_l _ hw.1, cell_alloc_l _ hw.2.1, cell_alloc_l _ hw.2.2.1, cell_alloc_l _ hw.2.2.2.1, cell_alloc_l _ hw.2.2.2.2.1, cell_alloc_l _ hw.2.2.2.2.2.1, cell_alloc_l _ hw.2.2.2.2.2.2.1, cell_alloc_l _ hw.2.2.2.2.2.2.2⟩) ?_
        replace n11 := And.intro (cell_alloc_l (.cells #[.int .i64 0, .int .i64 0] 46) n11.1) (cell_alloc_l (.cells #[.int .i64 0, .int .i64 0] 46) n11.2)
        have tw := Two.new W 0 0
        have hpw : w.heap.size ≤ W.heap.size := hB.size
        replace hR : (fun w : World => w.cell? ⟨kb, 3, none⟩ = some (.slice (some ⟨ge, 0, none⟩) N ce) ∧ w.cell? ⟨ge, d, none⟩ = some (.int .i64 e) ∧ w.cell? ⟨b8, 0, none⟩ = some (.func (.func 77) #[] #[]) ∧ w.cell? ⟨b10, 0, none⟩ = some (.int .i64 lo) ∧ w.cell? ⟨b10, 1, none⟩ = some (.int .i64 hi) ∧ w.cell? ⟨kb, 4, none⟩ = some (.slice (some ⟨gl, 0, none⟩) N cl) ∧ w.cell? ⟨gl, (d ||| 2 ^ k), none⟩ = some (.int .i64 f) ∧ w.cell? ⟨b9, 0, none⟩ = some (.func (.func 78) #[] #[])) (W.alloc (.cells #[.int .i64 0, .int .i64 0] 46)) := ⟨cell_alloc_l _ hR.1, cell_alloc_l _ hR.2.1, cell_alloc_l _ hR.2.2.1, cell_alloc_l _ hR.2.2.2.1, cell_alloc_l _ hR.2.2.2.2.1, cell_alloc_l _ hR.2.2.2.2.2.1, cell_alloc_l _ hR.2.2.2.2.2.2.1, cell_alloc_l _ hR.2.2.2.2.2.2.2⟩
        replace hB := hB.alloc hB.size (.cells #[.int .i64 0, .int .i64 0] 46)
        generalize hp30 : W.heap.size = p30 at *
        generalize W.alloc (.cells #[.int .i64 0, .int .i64 0] 46) = W30 at *
        clear hp30 W
        obtain ⟨W, rfl⟩ : ∃ W, W = W30 := ⟨_, rfl⟩
        refine AnyK.pick1 (i := 12) (by kernel_rfl) ?_
        refine StepK.call (i := 12) (f := 57) (vs := #[.slice (some ⟨p11, 0, none⟩) 2 2]) rfl (enters_of Try.func57 (by kernel_rfl) rfl) rfl (by simp [hsz]) ((greatest_two _ 0 2 _ _ _ n11.1 n11.2).mono ?_)
        rintro _ _ ⟨rfl, rfl⟩
        refine ⟨_, rfl, fun _ h => h, ?_⟩
        clear n11
        refine AnyK.pick1 (i := 26) (by kernel_rfl) ?_
        refine StepK.call (i := 26) (f := 78) (vs := #[.agg #[.int .i64 lo, .int .i64 hi]]) rfl (enters_of Try.func78 (by kernel_rfl) rfl) (by simp [hsz]) (by simp [hsz]) ((high_any lo hi _).mono ?_)
        rintro _ W26 ⟨rfl, hb26⟩
        refine ⟨_, rfl, (fun _ hw => ⟨(hb26.cell (block_lt_of_cell hw.1)).trans hw.1, (hb26.cell (block_lt_of_cell hw.2.1)).trans hw.2.1, (hb26.cell (block_lt_of_cell hw.2.2.1)).trans hw.2.2.1, (hb26.cell (block_lt_of_cell hw.2.2.2.1)).trans hw.2.2.2.1, (hb26.cell (block_lt_of_cell hw.2.2.2.2.1)).trans hw.2.2.2.2.1, (hb26.cell (block_lt_of_cell hw.2.2.2.2.2.1)).trans hw.2.2.2.2.2.1, (hb26.cell (block_lt_of_cell hw.2.2.2.2.2.2.1)).trans hw.2.2.2.2.2.2.1, (hb26.cell (block_lt_of_cell hw.2.2.2.2.2.2.2)).trans hw.2.2.2.2.2.2.2⟩), ?_⟩
        replace hR : (fun w : World => w.cell? ⟨kb, 3, none⟩ = some (.slice (some ⟨ge, 0, none⟩) N ce) ∧ w.cell? ⟨ge, d, none⟩ = some (.int .i64 e) ∧ w.cell? ⟨b8, 0, none⟩ = some (.func (.func 77) #[] #[]) ∧ w.cell? ⟨b10, 0, none⟩ = some (.int .i64 lo) ∧ w.cell? ⟨b10, 1, none⟩ = some (.int .i64 hi) ∧ w.cell? ⟨kb, 4, none⟩ = some (.slice (some ⟨gl, 0, none⟩) N cl) ∧ w.cell? ⟨gl, (d ||| 2 ^ k), none⟩ = some (.int .i64 f) ∧ w.cell? ⟨b9, 0, none⟩ = some (.func (.func 78) #[] #[])) W26 := ⟨(hb26.cell (block_lt_of_cell hR.1)).trans hR.1, (hb26.cell (block_lt_of_cell hR.2.1)).trans hR.2.1, (hb26.cell (block_lt_of_cell hR.2.2.1)).trans hR.2.2.1, (hb26.cell (block_lt_of_cell hR.2.2.2.1)).trans hR.2.2.2.1, (hb26.cell (block_lt_of_cell hR.2.2.2.2.1)).trans hR.2.2.2.2.1, (hb26.cell (block_lt_of_cell hR.2.2.2.2.2.1)).trans hR.2.2.2.2.2.1, (hb26.cell (block_lt_of_cell hR.2.2.2.2.2.2.1)).trans hR.2.2.2.2.2.2.1, (hb26.cell (block_lt_of_cell hR.2.2.2.2.2.2.2)).trans hR.2.2.2.2.2.2.2⟩
        replace tw := tw.below hb26
        replace hB := hB.trans (hb26.mono hB.size)
        clear hb26 W
        obtain ⟨W, rfl⟩ : ∃ W, W = W26 := ⟨_, rfl⟩
        refine AnyK.pick1 (i := 27) (by kernel_rfl) ?_
        refine StepK.build (i := 27) (ps := #[(0, .int .i64 f), (1, .int .i64 hi)]) rfl (by simp [hsz]) (bs25_2 _ _ _) (fun _ hw => ⟨cell_alloc_l _ hw.1, cell_alloc_l _ hw.2.1, cell_alloc_l _ hw.2.2.1, cell_alloc_l _ hw.2.2.2.1, cell_alloc_l _ hw.2.2.2.2.1, cell_alloc_l _ hw.2.2.2.2.2.1, cell_alloc_l _ hw.2.2.2.2.2.2.1, cell_alloc_l _ hw.2.2.2.2.2.2.2⟩) ?_
        replace tw := tw.below ((Below.refl _ W).alloc (Nat.le_refl _) (.cells #[.int .i64 f, .int .i64 hi] 3))
        have n27 := cell_new2 W (.int .i64 f) (.int .i64 hi) 3
        replace hR : (fun w : World => w.cell? ⟨kb, 3, none⟩ = some (.slice (some ⟨ge, 0, none⟩) N ce) ∧ w.cell? ⟨ge, d, none⟩ = some (.int .i64 e) ∧ w.cell? ⟨b8, 0, none⟩ = some (.func (.func 77) #[] #[]) ∧ w.cell? ⟨b10, 0, none⟩ = some (.int .i64 lo) ∧ w.cell? ⟨b10, 1, none⟩ = some (.int .i64 hi) ∧ w.cell? ⟨kb, 4, none⟩ = some (.slice (some ⟨gl, 0, none⟩) N cl) ∧ w.cell? ⟨gl, (d ||| 2 ^ k), none⟩ = some (.int .i64 f) ∧ w.cell? ⟨b9, 0, none⟩ = some (.func (.func 78) #[] #[])) (W.alloc (.cells #[.int .i64 f, .int .i64 hi] 3)) := ⟨cell_alloc_l _ hR.1, cell_alloc_l _ hR.2.1, cell_alloc_l _ hR.2.2.1, cell_alloc_l _ hR.2.2.2.1, cell_alloc_l _ hR.2.2.2.2.1, cell_alloc_l _ hR.2.2.2.2.2.1, cell_alloc_l _ hR.2.2.2.2.2.2.1, cell_alloc_l _ hR.2.2.2.2.2.2.2⟩
        replace hB := hB.alloc hB.size (.cells #[.int .i64 f, .int .i64 hi] 3)
        generalize hp27 : W.heap.size = p27 at *
        generalize W.alloc (.cells #[.int .i64 f, .int .i64 hi] 3) = W27 at *
        clear hp27 W
        obtain ⟨W, rfl⟩ : ∃ W, W = W27 := ⟨_, rfl⟩
        refine AnyK.pick1 (i := 28) (by kernel_rfl) ?_
        refine StepK.call (i := 28) (f := 65) (vs := #[.slice (some ⟨p27, 0, none⟩) 2 2]) rfl (enters_of Try.func65 (by kernel_rfl) rfl) rfl (by simp [hsz]) ((least_two _ 0 2 _ _ _ n27.1 n27.2).mono ?_)
        rintro _ _ ⟨rfl, rfl⟩
        refine ⟨_, rfl, fun _ h => h, ?_⟩
        clear n27
        refine AnyK.bld (i := 29) may_o (ps := #[(0, .int .i64 (max e lo)), (1, .int .i64 (min f hi))]) (v := .agg #[.int .i64 (max e lo), .int .i64 (min f hi)]) (by simp [hsz]) (fun w => bd46 _ _ w) hR ?_
        refine AnyK.pick1 (i := 31) (by kernel_rfl) ?_
        refine StepK.store (i := 31) (u := .pointer (some ⟨p30, 0, none⟩)) (u' := .agg #[.int .i64 (max e lo), .int .i64 (min f hi)]) rfl (by simp [hsz]) (by simp [hsz]) (st46 tw.c0 tw.c1 tw.f0 tw.f1) (fun h => by cases h) ?_
        refine AnyK.done (by kernel_rfl) (hK _ _ _ (below_put2 hB hpw _ _) (tw.put _ _) hpw ?_ ?_ ?_ ?_)
        · simp only [size_put, hsz]
        · simp only [defers_put]
        · exact (by simp [hsz])
        · intro e he
          iterate 31 refine (ev_ne (by omega)).trans ?_
          rfl
    · refine StepK.alloc (i := 30) rfl (al46 _) (fun _ hw => ⟨cell_alloc_l _ hw.1, cell_alloc_l _ hw.2.1, cell_alloc_l _ hw.2.2.1, cell_alloc_l _ hw.2.2.2.1, cell_alloc_l _ hw.2.2.2.2.1, cell_alloc_l _ hw.2.2.2.2.2.1, cell_alloc_l _ hw.2.2.2.2.2.2.1, cell_alloc_l _ hw.2.2.2.2.2.2.2⟩) ?_
      have tw := Two.new W 0 0
      have hpw : w.heap.size ≤ W.heap.size := hB.size
      replace hR : (fun w : World => w.cell? ⟨kb, 3, none⟩ = some (.slice (some ⟨ge, 0, none⟩) N ce) ∧ w.cell? ⟨ge, d, none⟩ = some (.int .i64 e) ∧ w.cell? ⟨b8, 0, none⟩ = some (.func (.func 77) #[] #[]) ∧ w.cell? ⟨b10, 0, none⟩ = some (.int .i64 lo) ∧ w.cell? ⟨b10, 1, none⟩ = some (.int .i64 hi) ∧ w.cell? ⟨kb, 4, none⟩ = some (.slice (some ⟨gl, 0, none⟩) N cl) ∧ w.cell? ⟨gl, (d ||| 2 ^ k), none⟩ = some (.int .i64 f) ∧ w.cell? ⟨b9, 0, none⟩ = some (.func (.func 78) #[] #[])) (W.alloc (.cells #[.int .i64 0, .int .i64 0] 46)) := ⟨cell_alloc_l _ hR.1, cell_alloc_l _ hR.2.1, cell_alloc_l _ hR.2.2.1, cell_alloc_l _ hR.2.2.2.1, cell_alloc_l _ hR.2.2.2.2.1, cell_alloc_l _ hR.2.2.2.2.2.1, cell_alloc_l _ hR.2.2.2.2.2.2.1, cell_alloc_l _ hR.2.2.2.2.2.2.2⟩
      replace hB := hB.alloc hB.size (.cells #[.int .i64 0, .int .i64 0] 46)
      generalize hp30 : W.heap.size = p30 at *
      generalize W.alloc (.cells #[.int .i64 0, .int .i64 0] 46) = W30 at *
      clear hp30 W
      obtain ⟨W, rfl⟩ : ∃ W, W = W30 := ⟨_, rfl⟩
      refine AnyK.pick1 (i := 11) (by kernel_rfl) ?_
      refine StepK.build (i := 11) (ps := #[(0, .int .i64 e), (1, .int .i64 lo)]) rfl (by simp [hsz]) (bs25_2 _ _ _) (fun _ hw => ⟨cell_alloc_l _ hw.1, cell_alloc_l _ hw.2.1, cell_alloc_l _ hw.2.2.1, cell_alloc_l _ hw.2.2.2.1, cell_alloc_l _ hw.2.2.2.2.1, cell_alloc_l _ hw.2.2.2.2.2.1, cell_alloc_l _ hw.2.2.2.2.2.2.1, cell_alloc_l _ hw.2.2.2.2.2.2.2⟩) ?_
      replace tw := tw.below ((Below.refl _ W).alloc (Nat.le_refl _) (.cells #[.int .i64 e, .int .i64 lo] 3))
      have n11 := cell_new2 W (.int .i64 e) (.int .i64 lo) 3
      replace hR : (fun w : World => w.cell? ⟨kb, 3, none⟩ = some (.slice (some ⟨ge, 0, none⟩) N ce) ∧ w.cell? ⟨ge, d, none⟩ = some (.int .i64 e) ∧ w.cell? ⟨b8, 0, none⟩ = some (.func (.func 77) #[] #[]) ∧ w.cell? ⟨b10, 0, none⟩ = some (.int .i64 lo) ∧ w.cell? ⟨b10, 1, none⟩ = some (.int .i64 hi) ∧ w.cell? ⟨kb, 4, none⟩ = some (.slice (some ⟨gl, 0, none⟩) N cl) ∧ w.cell? ⟨gl, (d ||| 2 ^ k), none⟩ = some (.int .i64 f) ∧ w.cell? ⟨b9, 0, none⟩ = some (.func (.func 78) #[] #[])) (W.alloc (.cells #[.int .i64 e, .int .i64 lo] 3)) := ⟨cell_alloc_l _ hR.1, cell_alloc_l _ hR.2.1, cell_alloc_l _ hR.2.2.1, cell_alloc_l _ hR.2.2.2.1, cell_alloc_l _ hR.2.2.2.2.1, cell_alloc_l _ hR.2.2.2.2.2.1, cell_alloc_l _ hR.2.2.2.2.2.2.1, cell_alloc_l _ hR.2.2.2.2.2.2.2⟩
      replace hB := hB.alloc hB.size (.cells #[.int .i64 e, .int .i64 lo] 3)
      generalize hp11 : W.heap.size = p11 at *
      generalize W.alloc (.cells #[.int .i64 e, .int .i64 lo] 3) = W11 at *
      clear hp11 W
      obtain ⟨W, rfl⟩ : ∃ W, W = W11 := ⟨_, rfl⟩
      refine AnyK.pick1 (i := 12) (by kernel_rfl) ?_
      refine StepK.call (i := 12) (f := 57) (vs := #[.slice (some ⟨p11, 0, none⟩) 2 2]) rfl (enters_of Try.func57 (by kernel_rfl) rfl) rfl (by simp [hsz]) ((greatest_two _ 0 2 _ _ _ n11.1 n11.2).mono ?_)
      rintro _ _ ⟨rfl, rfl⟩
      refine ⟨_, rfl, fun _ h => h, ?_⟩
      clear n11
      refine AnyK.pick1 (i := 26) (by kernel_rfl) ?_
      refine StepK.call (i := 26) (f := 78) (vs := #[.agg #[.int .i64 lo, .int .i64 hi]]) rfl (enters_of Try.func78 (by kernel_rfl) rfl) (by simp [hsz]) (by simp [hsz]) ((high_any lo hi _).mono ?_)
      rintro _ W26 ⟨rfl, hb26⟩
      refine ⟨_, rfl, (fun _ hw => ⟨(hb26.cell (block_lt_of_cell hw.1)).trans hw.1, (hb26.cell (block_lt_of_cell hw.2.1)).trans hw.2.1, (hb26.cell (block_lt_of_cell hw.2.2.1)).trans hw.2.2.1, (hb26.cell (block_lt_of_cell hw.2.2.2.1)).trans hw.2.2.2.1, (hb26.cell (block_lt_of_cell hw.2.2.2.2.1)).trans hw.2.2.2.2.1, (hb26.cell (block_lt_of_cell hw.2.2.2.2.2.1)).trans hw.2.2.2.2.2.1, (hb26.cell (block_lt_of_cell hw.2.2.2.2.2.2.1)).trans hw.2.2.2.2.2.2.1, (hb26.cell (block_lt_of_cell hw.2.2.2.2.2.2.2)).trans hw.2.2.2.2.2.2.2⟩), ?_⟩
      replace hR : (fun w : World => w.cell? ⟨kb, 3, none⟩ = some (.slice (some ⟨ge, 0, none⟩) N ce) ∧ w.cell? ⟨ge, d, none⟩ = some (.int .i64 e) ∧ w.cell? ⟨b8, 0, none⟩ = some (.func (.func 77) #[] #[]) ∧ w.cell? ⟨b10, 0, none⟩ = some (.int .i64 lo) ∧ w.cell? ⟨b10, 1, none⟩ = some (.int .i64 hi) ∧ w.cell? ⟨kb, 4, none⟩ = some (.slice (some ⟨gl, 0, none⟩) N cl) ∧ w.cell? ⟨gl, (d ||| 2 ^ k), none⟩ = some (.int .i64 f) ∧ w.cell? ⟨b9, 0, none⟩ = some (.func (.func 78) #[] #[])) W26 := ⟨(hb26.cell (block_lt_of_cell hR.1)).trans hR.1, (hb26.cell (block_lt_of_cell hR.2.1)).trans hR.2.1, (hb26.cell (block_lt_of_cell hR.2.2.1)).trans hR.2.2.1, (hb26.cell (block_lt_of_cell hR.2.2.2.1)).trans hR.2.2.2.1, (hb26.cell (block_lt_of_cell hR.2.2.2.2.1)).trans hR.2.2.2.2.1, (hb26.cell (block_lt_of_cell hR.2.2.2.2.2.1)).trans hR.2.2.2.2.2.1, (hb26.cell (block_lt_of_cell hR.2.2.2.2.2.2.1)).trans hR.2.2.2.2.2.2.1, (hb26.cell (block_lt_of_cell hR.2.2.2.2.2.2.2)).trans hR.2.2.2.2.2.2.2⟩
      replace tw := tw.below hb26
      replace hB := hB.trans (hb26.mono hB.size)
      clear hb26 W
      obtain ⟨W, rfl⟩ : ∃ W, W = W26 := ⟨_, rfl⟩
      refine AnyK.pick1 (i := 27) (by kernel_rfl) ?_
      refine StepK.build (i := 27) (ps := #[(0, .int .i64 f), (1, .int .i64 hi)]) rfl (by simp [hsz]) (bs25_2 _ _ _) (fun _ hw => ⟨cell_alloc_l _ hw.1, cell_alloc_l _ hw.2.1, cell_alloc_l _ hw.2.2.1, cell_alloc_l _ hw.2.2.2.1, cell_alloc_l _ hw.2.2.2.2.1, cell_alloc_l _ hw.2.2.2.2.2.1, cell_alloc_l _ hw.2.2.2.2.2.2.1, cell_alloc_l _ hw.2.2.2.2.2.2.2⟩) ?_
      replace tw := tw.below ((Below.refl _ W).alloc (Nat.le_refl _) (.cells #[.int .i64 f, .int .i64 hi] 3))
      have n27 := cell_new2 W (.int .i64 f) (.int .i64 hi) 3
      replace hR : (fun w : World => w.cell? ⟨kb, 3, none⟩ = some (.slice (some ⟨ge, 0, none⟩) N ce) ∧ w.cell? ⟨ge, d, none⟩ = some (.int .i64 e) ∧ w.cell? ⟨b8, 0, none⟩ = some (.func (.func 77) #[] #[]) ∧ w.cell? ⟨b10, 0, none⟩ = some (.int .i64 lo) ∧ w.cell? ⟨b10, 1, none⟩ = some (.int .i64 hi) ∧ w.cell? ⟨kb, 4, none⟩ = some (.slice (some ⟨gl, 0, none⟩) N cl) ∧ w.cell? ⟨gl, (d ||| 2 ^ k), none⟩ = some (.int .i64 f) ∧ w.cell? ⟨b9, 0, none⟩ = some (.func (.func 78) #[] #[])) (W.alloc (.cells #[.int .i64 f, .int .i64 hi] 3)) := ⟨cell_alloc_l _ hR.1, cell_alloc_l _ hR.2.1, cell_alloc_l _ hR.2.2.1, cell_alloc_l _ hR.2.2.2.1, cell_alloc_l _ hR.2.2.2.2.1, cell_alloc_l _ hR.2.2.2.2.2.1, cell_alloc_l _ hR.2.2.2.2.2.2.1, cell_alloc_l _ hR.2.2.2.2.2.2.2⟩
      replace hB := hB.alloc hB.size (.cells #[.int .i64 f, .int .i64 hi] 3)
      generalize hp27 : W.heap.size = p27 at *
      generalize W.alloc (.cells #[.int .i64 f, .int .i64 hi] 3) = W27 at *
      clear hp27 W
      obtain ⟨W, rfl⟩ : ∃ W, W = W27 := ⟨_, rfl⟩
      refine AnyK.pick1 (i := 28) (by kernel_rfl) ?_
      refine StepK.call (i := 28) (f := 65) (vs := #[.slice (some ⟨p27, 0, none⟩) 2 2]) rfl (enters_of Try.func65 (by kernel_rfl) rfl) rfl (by simp [hsz]) ((least_two _ 0 2 _ _ _ n27.1 n27.2).mono ?_)
      rintro _ _ ⟨rfl, rfl⟩
      refine ⟨_, rfl, fun _ h => h, ?_⟩
      clear n27
      refine AnyK.bld (i := 29) may_o (ps := #[(0, .int .i64 (max e lo)), (1, .int .i64 (min f hi))]) (v := .agg #[.int .i64 (max e lo), .int .i64 (min f hi)]) (by simp [hsz]) (fun w => bd46 _ _ w) hR ?_
      refine AnyK.pick1 (i := 31) (by kernel_rfl) ?_
      refine StepK.store (i := 31) (u := .pointer (some ⟨p30, 0, none⟩)) (u' := .agg #[.int .i64 (max e lo), .int .i64 (min f hi)]) rfl (by simp [hsz]) (by simp [hsz]) (st46 tw.c0 tw.c1 tw.f0 tw.f1) (fun h => by cases h) ?_
      refine AnyK.done (by kernel_rfl) (hK _ _ _ (below_put2 hB hpw _ _) (tw.put _ _) hpw ?_ ?_ ?_ ?_)
      · simp only [size_put, hsz]
      · simp only [defers_put]
      · exact (by simp [hsz])
      · intro e he
        iterate 31 refine (ev_ne (by omega)).trans ?_
        rfl
  · refine StepK.alloc (i := 30) rfl (al46 _) (fun _ hw => ⟨cell_alloc_l _ hw.1, cell_alloc_l _ hw.2.1, cell_alloc_l _ hw.2.2.1, cell_alloc_l _ hw.2.2.2.1, cell_alloc_l _ hw.2.2.2.2.1, cell_alloc_l _ hw.2.2.2.2.2.1, cell_alloc_l _ hw.2.2.2.2.2.2.1, cell_alloc_l _ hw.2.2.2.2.2.2.2⟩) ?_
    have tw := Two.new W 0 0
    have hpw : w.heap.size ≤ W.heap.size := hB.size
    replace hR : (fun w : World => w.cell? ⟨kb, 3, none⟩ = some (.slice (some ⟨ge, 0, none⟩) N ce) ∧ w.cell? ⟨ge, d, none⟩ = some (.int .i64 e) ∧ w.cell? ⟨b8, 0, none⟩ = some (.func (.func 77) #[] #[]) ∧ w.cell? ⟨b10, 0, none⟩ = some (.int .i64 lo) ∧ w.cell? ⟨b10, 1, none⟩ = some (.int .i64 hi) ∧ w.cell? ⟨kb, 4, none⟩ = some (.slice (some ⟨gl, 0, none⟩) N cl) ∧ w.cell? ⟨gl, (d ||| 2 ^ k), none⟩ = some (.int .i64 f) ∧ w.cell? ⟨b9, 0, none⟩ = some (.func (.func 78) #[] #[])) (W.alloc (.cells #[.int .i64 0, .int .i64 0] 46)) := ⟨cell_alloc_l _ hR.1, cell_alloc_l _ hR.2.1, cell_alloc_l _ hR.2.2.1, cell_alloc_l _ hR.2.2.2.1, cell_alloc_l _ hR.2.2.2.2.1, cell_alloc_l _ hR.2.2.2.2.2.1, cell_alloc_l _ hR.2.2.2.2.2.2.1, cell_alloc_l _ hR.2.2.2.2.2.2.2⟩
    replace hB := hB.alloc hB.size (.cells #[.int .i64 0, .int .i64 0] 46)
    generalize hp30 : W.heap.size = p30 at *
    generalize W.alloc (.cells #[.int .i64 0, .int .i64 0] 46) = W30 at *
    clear hp30 W
    obtain ⟨W, rfl⟩ : ∃ W, W = W30 := ⟨_, rfl⟩
    refine AnyK.pick1 (i := 10) (by kernel_rfl) ?_
    refine StepK.call (i := 10) (f := 77) (vs := #[.agg #[.int .i64 lo, .int .i64 hi]]) rfl (enters_of Try.func77 (by kernel_rfl) rfl) (by simp [hsz]) (by simp [hsz]) ((low_any lo hi _).mono ?_)
    rintro _ W10 ⟨rfl, hb10⟩
    refine ⟨_, rfl, (fun _ hw => ⟨(hb10.cell (block_lt_of_cell hw.1)).trans hw.1, (hb10.cell (block_lt_of_cell hw.2.1)).trans hw.2.1, (hb10.cell (block_lt_of_cell hw.2.2.1)).trans hw.2.2.1, (hb10.cell (block_lt_of_cell hw.2.2.2.1)).trans hw.2.2.2.1, (hb10.cell (block_lt_of_cell hw.2.2.2.2.1)).trans hw.2.2.2.2.1, (hb10.cell (block_lt_of_cell hw.2.2.2.2.2.1)).trans hw.2.2.2.2.2.1, (hb10.cell (block_lt_of_cell hw.2.2.2.2.2.2.1)).trans hw.2.2.2.2.2.2.1, (hb10.cell (block_lt_of_cell hw.2.2.2.2.2.2.2)).trans hw.2.2.2.2.2.2.2⟩), ?_⟩
    replace hR : (fun w : World => w.cell? ⟨kb, 3, none⟩ = some (.slice (some ⟨ge, 0, none⟩) N ce) ∧ w.cell? ⟨ge, d, none⟩ = some (.int .i64 e) ∧ w.cell? ⟨b8, 0, none⟩ = some (.func (.func 77) #[] #[]) ∧ w.cell? ⟨b10, 0, none⟩ = some (.int .i64 lo) ∧ w.cell? ⟨b10, 1, none⟩ = some (.int .i64 hi) ∧ w.cell? ⟨kb, 4, none⟩ = some (.slice (some ⟨gl, 0, none⟩) N cl) ∧ w.cell? ⟨gl, (d ||| 2 ^ k), none⟩ = some (.int .i64 f) ∧ w.cell? ⟨b9, 0, none⟩ = some (.func (.func 78) #[] #[])) W10 := ⟨(hb10.cell (block_lt_of_cell hR.1)).trans hR.1, (hb10.cell (block_lt_of_cell hR.2.1)).trans hR.2.1, (hb10.cell (block_lt_of_cell hR.2.2.1)).trans hR.2.2.1, (hb10.cell (block_lt_of_cell hR.2.2.2.1)).trans hR.2.2.2.1, (hb10.cell (block_lt_of_cell hR.2.2.2.2.1)).trans hR.2.2.2.2.1, (hb10.cell (block_lt_of_cell hR.2.2.2.2.2.1)).trans hR.2.2.2.2.2.1, (hb10.cell (block_lt_of_cell hR.2.2.2.2.2.2.1)).trans hR.2.2.2.2.2.2.1, (hb10.cell (block_lt_of_cell hR.2.2.2.2.2.2.2)).trans hR.2.2.2.2.2.2.2⟩
    replace tw := tw.below hb10
    replace hB := hB.trans (hb10.mono hB.size)
    clear hb10 W
    obtain ⟨W, rfl⟩ : ∃ W, W = W10 := ⟨_, rfl⟩
    refine AnyK.pick1 (i := 11) (by kernel_rfl) ?_
    refine StepK.build (i := 11) (ps := #[(0, .int .i64 e), (1, .int .i64 lo)]) rfl (by simp [hsz]) (bs25_2 _ _ _) (fun _ hw => ⟨cell_alloc_l _ hw.1, cell_alloc_l _ hw.2.1, cell_alloc_l _ hw.2.2.1, cell_alloc_l _ hw.2.2.2.1, cell_alloc_l _ hw.2.2.2.2.1, cell_alloc_l _ hw.2.2.2.2.2.1, cell_alloc_l _ hw.2.2.2.2.2.2.1, cell_alloc_l _ hw.2.2.2.2.2.2.2⟩) ?_
    replace tw := tw.below ((Below.refl _ W).alloc (Nat.le_refl _) (.cells #[.int .i64 e, .int .i64 lo] 3))
    have n11 := cell_new2 W (.int .i64 e) (.int .i64 lo) 3
    replace hR : (fun w : World => w.cell? ⟨kb, 3, none⟩ = some (.slice (some ⟨ge, 0, none⟩) N ce) ∧ w.cell? ⟨ge, d, none⟩ = some (.int .i64 e) ∧ w.cell? ⟨b8, 0, none⟩ = some (.func (.func 77) #[] #[]) ∧ w.cell? ⟨b10, 0, none⟩ = some (.int .i64 lo) ∧ w.cell? ⟨b10, 1, none⟩ = some (.int .i64 hi) ∧ w.cell? ⟨kb, 4, none⟩ = some (.slice (some ⟨gl, 0, none⟩) N cl) ∧ w.cell? ⟨gl, (d ||| 2 ^ k), none⟩ = some (.int .i64 f) ∧ w.cell? ⟨b9, 0, none⟩ = some (.func (.func 78) #[] #[])) (W.alloc (.cells #[.int .i64 e, .int .i64 lo] 3)) := ⟨cell_alloc_l _ hR.1, cell_alloc_l _ hR.2.1, cell_alloc_l _ hR.2.2.1, cell_alloc_l _ hR.2.2.2.1, cell_alloc_l _ hR.2.2.2.2.1, cell_alloc_l _ hR.2.2.2.2.2.1, cell_alloc_l _ hR.2.2.2.2.2.2.1, cell_alloc_l _ hR.2.2.2.2.2.2.2⟩
    replace hB := hB.alloc hB.size (.cells #[.int .i64 e, .int .i64 lo] 3)
    generalize hp11 : W.heap.size = p11 at *
    generalize W.alloc (.cells #[.int .i64 e, .int .i64 lo] 3) = W11 at *
    clear hp11 W
    obtain ⟨W, rfl⟩ : ∃ W, W = W11 := ⟨_, rfl⟩
    refine AnyK.pick1 (i := 12) (by kernel_rfl) ?_
    refine StepK.call (i := 12) (f := 57) (vs := #[.slice (some ⟨p11, 0, none⟩) 2 2]) rfl (enters_of Try.func57 (by kernel_rfl) rfl) rfl (by simp [hsz]) ((greatest_two _ 0 2 _ _ _ n11.1 n11.2).mono ?_)
    rintro _ _ ⟨rfl, rfl⟩
    refine ⟨_, rfl, fun _ h => h, ?_⟩
    clear n11
    refine AnyK.pick1 (i := 26) (by kernel_rfl) ?_
    refine StepK.call (i := 26) (f := 78) (vs := #[.agg #[.int .i64 lo, .int .i64 hi]]) rfl (enters_of Try.func78 (by kernel_rfl) rfl) (by simp [hsz]) (by simp [hsz]) ((high_any lo hi _).mono ?_)
    rintro _ W26 ⟨rfl, hb26⟩
    refine ⟨_, rfl, (fun _ hw => ⟨(hb26.cell (block_lt_of_cell hw.1)).trans hw.1, (hb26.cell (block_lt_of_cell hw.2.1)).trans hw.2.1, (hb26.cell (block_lt_of_cell hw.2.2.1)).trans hw.2.2.1, (hb26.cell (block_lt_of_cell hw.2.2.2.1)).trans hw.2.2.2.1, (hb26.cell (block_lt_of_cell hw.2.2.2.2.1)).trans hw.2.2.2.2.1, (hb26.cell (block_lt_of_cell hw.2.2.2.2.2.1)).trans hw.2.2.2.2.2.1, (hb26.cell (block_lt_of_cell hw.2.2.2.2.2.2.1)).trans hw.2.2.2.2.2.2.1, (hb26.cell (block_lt_of_cell hw.2.2.2.2.2.2.2)).trans hw.2.2.2.2.2.2.2⟩), ?_⟩
    replace hR : (fun w : World => w.cell? ⟨kb, 3, none⟩ = some (.slice (some ⟨ge, 0, none⟩) N ce) ∧ w.cell? ⟨ge, d, none⟩ = some (.int .i64 e) ∧ w.cell? ⟨b8, 0, none⟩ = some (.func (.func 77) #[] #[]) ∧ w.cell? ⟨b10, 0, none⟩ = some (.int .i64 lo) ∧ w.cell? ⟨b10, 1, none⟩ = some (.int .i64 hi) ∧ w.cell? ⟨kb, 4, none⟩ = some (.slice (some ⟨gl, 0, none⟩) N cl) ∧ w.cell? ⟨gl, (d ||| 2 ^ k), none⟩ = some (.int .i64 f) ∧ w.cell? ⟨b9, 0, none⟩ = some (.func (.func 78) #[] #[])) W26 := ⟨(hb26.cell (block_lt_of_cell hR.1)).trans hR.1, (hb26.cell (block_lt_of_cell hR.2.1)).trans hR.2.1, (hb26.cell (block_lt_of_cell hR.2.2.1)).trans hR.2.2.1, (hb26.cell (block_lt_of_cell hR.2.2.2.1)).trans hR.2.2.2.1, (hb26.cell (block_lt_of_cell hR.2.2.2.2.1)).trans hR.2.2.2.2.1, (hb26.cell (block_lt_of_cell hR.2.2.2.2.2.1)).trans hR.2.2.2.2.2.1, (hb26.cell (block_lt_of_cell hR.2.2.2.2.2.2.1)).trans hR.2.2.2.2.2.2.1, (hb26.cell (block_lt_of_cell hR.2.2.2.2.2.2.2)).trans hR.2.2.2.2.2.2.2⟩
    replace tw := tw.below hb26
    replace hB := hB.trans (hb26.mono hB.size)
    clear hb26 W
    obtain ⟨W, rfl⟩ : ∃ W, W = W26 := ⟨_, rfl⟩
    refine AnyK.pick1 (i := 27) (by kernel_rfl) ?_
    refine StepK.build (i := 27) (ps := #[(0, .int .i64 f), (1, .int .i64 hi)]) rfl (by simp [hsz]) (bs25_2 _ _ _) (fun _ hw => ⟨cell_alloc_l _ hw.1, cell_alloc_l _ hw.2.1, cell_alloc_l _ hw.2.2.1, cell_alloc_l _ hw.2.2.2.1, cell_alloc_l _ hw.2.2.2.2.1, cell_alloc_l _ hw.2.2.2.2.2.1, cell_alloc_l _ hw.2.2.2.2.2.2.1, cell_alloc_l _ hw.2.2.2.2.2.2.2⟩) ?_
    replace tw := tw.below ((Below.refl _ W).alloc (Nat.le_refl _) (.cells #[.int .i64 f, .int .i64 hi] 3))
    have n27 := cell_new2 W (.int .i64 f) (.int .i64 hi) 3
    replace hR : (fun w : World => w.cell? ⟨kb, 3, none⟩ = some (.slice (some ⟨ge, 0, none⟩) N ce) ∧ w.cell? ⟨ge, d, none⟩ = some (.int .i64 e) ∧ w.cell? ⟨b8, 0, none⟩ = some (.func (.func 77) #[] #[]) ∧ w.cell? ⟨b10, 0, none⟩ = some (.int .i64 lo) ∧ w.cell? ⟨b10, 1, none⟩ = some (.int .i64 hi) ∧ w.cell? ⟨kb, 4, none⟩ = some (.slice (some ⟨gl, 0, none⟩) N cl) ∧ w.cell? ⟨gl, (d ||| 2 ^ k), none⟩ = some (.int .i64 f) ∧ w.cell? ⟨b9, 0, none⟩ = some (.func (.func 78) #[] #[])) (W.alloc (.cells #[.int .i64 f, .int .i64 hi] 3)) := ⟨cell_alloc_l _ hR.1, cell_alloc_l _ hR.2.1, cell_alloc_l _ hR.2.2.1, cell_alloc_l _ hR.2.2.2.1, cell_alloc_l _ hR.2.2.2.2.1, cell_alloc_l _ hR.2.2.2.2.2.1, cell_alloc_l _ hR.2.2.2.2.2.2.1, cell_alloc_l _ hR.2.2.2.2.2.2.2⟩
    replace hB := hB.alloc hB.size (.cells #[.int .i64 f, .int .i64 hi] 3)
    generalize hp27 : W.heap.size = p27 at *
    generalize W.alloc (.cells #[.int .i64 f, .int .i64 hi] 3) = W27 at *
    clear hp27 W
    obtain ⟨W, rfl⟩ : ∃ W, W = W27 := ⟨_, rfl⟩
    refine AnyK.pick1 (i := 28) (by kernel_rfl) ?_
    refine StepK.call (i := 28) (f := 65) (vs := #[.slice (some ⟨p27, 0, none⟩) 2 2]) rfl (enters_of Try.func65 (by kernel_rfl) rfl) rfl (by simp [hsz]) ((least_two _ 0 2 _ _ _ n27.1 n27.2).mono ?_)
    rintro _ _ ⟨rfl, rfl⟩
    refine ⟨_, rfl, fun _ h => h, ?_⟩
    clear n27
    refine AnyK.bld (i := 29) may_o (ps := #[(0, .int .i64 (max e lo)), (1, .int .i64 (min f hi))]) (v := .agg #[.int .i64 (max e lo), .int .i64 (min f hi)]) (by simp [hsz]) (fun w => bd46 _ _ w) hR ?_
    refine AnyK.pick1 (i := 31) (by kernel_rfl) ?_
    refine StepK.store (i := 31) (u := .pointer (some ⟨p30, 0, none⟩)) (u' := .agg #[.int .i64 (max e lo), .int .i64 (min f hi)]) rfl (by simp [hsz]) (by simp [hsz]) (st46 tw.c0 tw.c1 tw.f0 tw.f1) (fun h => by cases h) ?_
    refine AnyK.done (by kernel_rfl) (hK _ _ _ (below_put2 hB hpw _ _) (tw.put _ _) hpw ?_ ?_ ?_ ?_)
    · simp only [size_put, hsz]
    · simp only [defers_put]
    · exact (by simp [hsz])
    · intro e he
      iterate 31 refine (ev_ne (by omega)).trans ?_
      rfl

noncomputable def opsS6 : Array Oper := (Try.f64.body.bind (regionOf 6)).getD #[]
set_option maxHeartbeats 2000000 in
theorem regionS6 {F : Fence} {n : Nat} (hF : WideF F Try.prog) {Q : Exit → Act → World → Prop} {a : Act} {w : World} {b6 p : Nat} {x y : Int} (hsz : a.tmps.size = 98)
    (t6 : a.eval (.tmp 6) = .pointer (some ⟨b6, 0, none⟩)) (t11 : a.eval (.tmp 11) = .pointer (some ⟨p, 0, none⟩))
    (m0 : w.cell? ⟨p, 0, none⟩ = some (.int .i64 x)) (m1 : w.cell? ⟨p, 1, none⟩ = some (.int .i64 y)) (hr : Two w b6 0 0) (hne : p ≠ b6)
    (hK : ∀ a' W', Below w.heap.size w W' → a'.tmps.size = 98 → a'.defers = a.defers → a'.eval (.tmp 6) = .pointer (some ⟨b6, 0, none⟩) → a'.eval (.tmp 7) = .bool (decide (x ≤ y)) → Q .normal a' (put2 W' b6 x y)) :
    (Code.region 6 opsS6 true).wpIn F n Try.prog Q a w := by
  have hR : (fun w : World => w.cell? ⟨p, 0, none⟩ = some (.int .i64 x) ∧ w.cell? ⟨p, 1, none⟩ = some (.int .i64 y)) w.drew := ⟨m0, m1⟩
  have hB : Below w.heap.size w w.drew := (Below.refl _ _).drew
  refine region_K (KpR (fun w => w.cell? ⟨p, 0, none⟩ = some (.int .i64 x) ∧ w.cell? ⟨p, 1, none⟩ = some (.int .i64 y)) (fun _ => false)) hF (by kernel_rfl) Try.mixed ?_
  change AnyK _ _ _ _ 8 (Array.replicate 8 false) _ _
  generalize w.drew = W at *
  refine AnyK.load (i := 0) may_o (p := ⟨p, 0, none⟩) (v := .agg #[.int .i64 x, .int .i64 y]) (by simp [t11]) (fun w hw => ld46 ⟨hw.1, hw.2⟩) hR ?_
  refine AnyK.field (i := 1) may_o (u := .pointer (some ⟨p, 0, none⟩)) (v := .pointer (some ⟨p, 0, none⟩)) (by simp [t11]) (fun w => fa46_0 w) hR ?_
  refine AnyK.load (i := 2) may_o (p := ⟨p, 0, none⟩) (v := .int .i64 x) (by simp [hsz]) (fun w hw => ld3 hw.1) hR ?_
  refine AnyK.field (i := 3) may_o (u := .pointer (some ⟨p, 0, none⟩)) (v := .pointer (some ⟨p, 1, none⟩)) (by simp [t11]) (fun w => fa46_1 w) hR ?_
  refine AnyK.load (i := 4) may_o (p := ⟨p, 1, none⟩) (v := .int .i64 y) (by simp [hsz]) (fun w hw => ld3 hw.2) hR ?_
  refine AnyK.bin (i := 5) may_o (u := .int .i64 x) (u' := .int .i64 y) (v := .bool (decide (x ≤ y))) (by simp [hsz]) (by simp [hsz]) (fun w => leq3 w) hR ?_
  refine AnyK.pick1 (i := 6) (by kernel_rfl) ?_
  refine StepK.store (i := 6) (u := .pointer (some ⟨b6, 0, none⟩)) (u' := .agg #[.int .i64 x, .int .i64 y]) rfl (by simp [t6]) (by simp [hsz]) (st46 ((hB.cell (p := ⟨b6, 0, none⟩) hr.lt).trans hr.c0) ((hB.cell (p := ⟨b6, 1, none⟩) hr.lt).trans hr.c1) ((hB.frozen (p := ⟨b6, 0, none⟩) hr.lt).trans hr.f0) ((hB.frozen (p := ⟨b6, 1, none⟩) hr.lt).trans hr.f1)) (fun _ hw => ⟨by rw [cell_set_far (by simpa using hne), cell_set_far (by simpa using hne)]; exact hw.1, by rw [cell_set_far (by simpa using hne), cell_set_far (by simpa using hne)]; exact hw.2⟩) ?_
  have hR1 := hR
  replace hR : (fun w : World => w.cell? ⟨p, 0, none⟩ = some (.int .i64 x) ∧ w.cell? ⟨p, 1, none⟩ = some (.int .i64 y)) ((W.setCell ⟨b6, 0, none⟩ (.int .i64 x)).setCell ⟨b6, 1, none⟩ (.int .i64 y)) := ⟨by rw [cell_set_far (by simpa using hne), cell_set_far (by simpa using hne)]; exact hR1.1, by rw [cell_set_far (by simpa using hne), cell_set_far (by simpa using hne)]; exact hR1.2⟩
  refine AnyK.assign (i := 7) may_o (v := .bool (decide (x ≤ y))) (by simp [hsz]) hR ?_
  refine AnyK.done (by kernel_rfl) (hK _ _ hB ?_ ?_ ?_ ?_)
  · simp only [size_put, hsz]
  · simp only [defers_put]
  · exact (by simp [t6])
  · exact (by simp [hsz])
end Go.Proofs.Ytfcnombmphophaa
namespace Go.Proofs.Ytfcnombmphophaa
open Go.RowKit Go.Shelf

/-- Can sale k be next, just the sales of d being done; and are those of d done at all? -/
def spanB (t : Int) (l : List Sale) (d k : Nat) : Bool := !d.testBit k && (early t l d != 101 && decide ((saleOf l k).many ≤ stocksOf t l d (saleOf l k).src.toNat))
def spanR (t : Int) (l : List Sale) (d k : Nat) : Int × Int := if spanB t l d k = true then (max (early t l d) (saleOf l k).lo, min (late t l (d ||| 2 ^ k)) (saleOf l k).hi) else (0, 0)
def spanIs (t : Int) (l : List Sale) (d k : Nat) : Bool := spanB t l d k && decide ((spanR t l d k).1 ≤ (spanR t l d k).2)

noncomputable def opsS0 : Array Oper := (Try.f64.body.bind (regionOf 0)).getD #[]
noncomputable def opsS2 : Array Oper := (Try.f64.body.bind (regionOf 2)).getD #[]
noncomputable def opsS3 : Array Oper := (Try.f64.body.bind (regionOf 3)).getD #[]
noncomputable def opsS4 : Array Oper := (Try.f64.body.bind (regionOf 4)).getD #[]
noncomputable def restS : Code := .seq (.region 3 opsS3 false) (.seq (.region 4 opsS4 false) (.seq (.region 5 opsS5 true) (.seq (.region 6 opsS6 true) .ret)))
noncomputable def code64 : Code := .seq (.region 0 opsS0 false) (.seq (.seq (.region 1 opsS1a true) (.cond (.tmp 49) (.seq (.region 2 opsS2 false) .ret) .skip)) restS)
theorem body64 : Try.f64.body = some code64 := by kernel_rfl

theorem al122 (w : World) : (Instr.alloc 122 true (.tuple #[])).run Try.prog w = .ok (.pointer (some ⟨w.heap.size, 0, none⟩)) (w.alloc (.cells #[.nilFunc] 122)) := by
  go_simp
theorem bd122 (f : Nat) (w : World) : (Instr.build 122 #[(0, .func (.func f) #[] #[])]).run Try.prog w = .ok (.agg #[.func (.func f) #[] #[]]) w := by
  go_simp
theorem st122 {w : World} {b f : Nat} {u : Value} (h0 : w.cell? ⟨b, 0, none⟩ = some u) (f0 : w.frozen? ⟨b, 0, none⟩ = false) : (Instr.storeAt 122 (.pointer (some ⟨b, 0, none⟩)) (.agg #[.func (.func f) #[] #[]])).run Try.prog w = .ok () (w.setCell ⟨b, 0, none⟩ (.func (.func f) #[] #[])) := by
  go_simp
theorem ld46o {w : World} {b o : Nat} {u v : Value} (h0 : w.cell? ⟨b, o, none⟩ = some u) (h1 : w.cell? ⟨b, o + 1, none⟩ = some v) : (Instr.loadAt 46 (.pointer (some ⟨b, o, none⟩))).run Try.prog w = .ok (.agg #[u, v]) w := by
  go_simp
theorem res46b {fn : Func} {k j b : Nat} {W : World} {a : Act} {x y z : Value} (h : fn.results = #[.cell k 46, .tmp j]) (he : a.eval (.tmp k) = .pointer (some ⟨b, 0, none⟩)) (hj : a.eval (.tmp j) = z) (hc : W.cell? ⟨b, 0, none⟩ = some x ∧ W.cell? ⟨b, 1, none⟩ = some y) :
    (results fn a.tmps).run Try.prog W = .ok (.tuple #[.agg #[x, y], z]) W := by
  have he' : a.tmps[k]?.getD undef = .pointer (some ⟨b, 0, none⟩) := by simpa [Act.eval] using he
  have hj' : a.tmps[j]?.getD undef = z := by simpa [Act.eval] using hj
  obtain ⟨h0, h1⟩ := hc
  simp only [results, h]
  simp [he', hj']
  go_simp

theorem sale_cells {W : World} {B k : Nat} {A : Option Addr} {l : List Sale} (hs : SalesAt W B A l) (hk : k < l.length) : ∃ b off, A = some ⟨b, off, none⟩ ∧ b < B ∧ SaleAt W b off k (saleOf l k) := by
  have h := List.getElem?_eq_getElem hk
  obtain ⟨b, off, h1, h2, h3⟩ := hs k _ h
  exact ⟨b, off, h1, h2, by rw [saleOf_eq h]; exact h3⟩

/-- The frame of span behind its first regions. -/
structure FrS (a : Act) (kb d k r : Nat) : Prop where
  sz : a.tmps.size = 98
  df : a.defers = []
  t0 : a.eval (.tmp 0) = .pointer (some ⟨kb, 0, none⟩)
  t1 : a.eval (.tmp 1) = .int .i64 d
  t2 : a.eval (.tmp 2) = .int .i64 k
  t6 : a.eval (.tmp 6) = .pointer (some ⟨r, 0, none⟩)
  t7 : a.eval (.tmp 7) = .bool false

set_option maxHeartbeats 1000000 in
/-- span, where the sale can be next. -/
theorem span_rest {n : Nat} {R : Ending → World → Prop} {a : Act} {W : World} {B kb ge gl ce cl d k r : Nat} {o t : Int} {A : Option Addr} {l : List Sale} {c : Nat} (hv : Valid o t l) (hb : BookAt W B kb ge gl ce cl o t A l c) (hd : d < 2 ^ l.length) (hk : k < l.length) (fr : FrS a kb d k r) (hr : Two W r 0 0)
    (hR : ∀ W', Below W.heap.size W W' → R (.returned (.tuple #[.agg #[.int .i64 (max (early t l d) (saleOf l k).lo), .int .i64 (min (late t l (d ||| 2 ^ k)) (saleOf l k).hi)], .bool (decide (max (early t l d) (saleOf l k).lo ≤ min (late t l (d ||| 2 ^ k)) (saleOf l k).hi))])) (put2 W' r (max (early t l d) (saleOf l k).lo) (min (late t l (d ||| 2 ^ k)) (saleOf l k).hi))) :
    restS.wpIn Fence.wide n Try.prog (bodyPost Try.prog Try.f64 R) a W := by
  obtain ⟨hsz, hdf, t0, t1, t2, t6, t7⟩ := fr
  have hd6 := lt_65536 hv.len hd
  have hto := or_lt hd hk
  have hk16 : k < 16 := by have := hv.len; omega
  obtain ⟨b, off, hA, hbB, s0, s1, s2, s3, s4⟩ := sale_cells hb.ba.sales hk
  have hbl : b < W.heap.size := by have := hb.le; omega
  unfold restS
  refine wpIn_seq (region_p 6 ?_)
  intro K hK
  refine ListK.bld (i := 0) (ps := #[(0, .func (.func 77) #[] #[])]) (v := .agg #[.func (.func 77) #[] #[]]) rfl (by simp) (bd122 _ _) ?_
  refine ListK.bld (i := 1) (ps := #[(0, .func (.func 78) #[] #[])]) (v := .agg #[.func (.func 78) #[] #[]]) rfl (by simp) (bd122 _ _) ?_
  refine ListK.alloc (i := 2) rfl (al122 W) ?_
  refine ListK.alloc (i := 3) rfl (al122 _) ?_
  have w8 := (Whole.new W 122 #[.nilFunc]).alloc (.cells #[.nilFunc] 122)
  have w9 := Whole.new (W.alloc (.cells #[.nilFunc] 122)) 122 #[.nilFunc]
  have hB1 : Below W.heap.size W ((W.alloc (.cells #[.nilFunc] 122)).alloc (.cells #[.nilFunc] 122)) := ((Below.refl _ W).alloc (Nat.le_refl _) _).alloc (by simp) _
  rw [World.size_alloc] at w9
  generalize hW1 : (W.alloc (.cells #[.nilFunc] 122)).alloc (.cells #[.nilFunc] 122) = W1 at *
  rw [World.size_alloc]
  clear hW1
  refine ListK.store (i := 4) (u := .pointer (some ⟨W.heap.size, 0, none⟩)) (u' := .agg #[.func (.func 77) #[] #[]]) rfl (by simp [hsz]) (by simp [hsz]) (st122 (w8.cell 0) (w8.frozen 0)) ?_
  replace w9 := w9.far (p := ⟨W.heap.size, 0, none⟩) (by simp) (.func (.func 77) #[] #[])
  replace w8 : Whole (W1.setCell ⟨W.heap.size, 0, none⟩ (.func (.func 77) #[] #[])) W.heap.size 122 #[.func (.func 77) #[] #[]] := w8.set 0 _
  replace hB1 := hB1.setCell (p := ⟨W.heap.size, 0, none⟩) (Nat.le_refl _) (.func (.func 77) #[] #[])
  generalize W1.setCell ⟨W.heap.size, 0, none⟩ (.func (.func 77) #[] #[]) = W2 at *
  refine ListK.store (i := 5) (u := .pointer (some ⟨W.heap.size + 1, 0, none⟩)) (u' := .agg #[.func (.func 78) #[] #[]]) rfl (by simp [hsz]) (by simp [hsz]) (st122 (w9.cell 0) (w9.frozen 0)) ?_
  replace w8 := w8.far (p := ⟨W.heap.size + 1, 0, none⟩) (by simp) (.func (.func 78) #[] #[])
  replace w9 : Whole (W2.setCell ⟨W.heap.size + 1, 0, none⟩ (.func (.func 78) #[] #[])) (W.heap.size + 1) 122 #[.func (.func 78) #[] #[]] := w9.set 0 _
  replace hB1 := hB1.setCell (p := ⟨W.heap.size + 1, 0, none⟩) (by simp) (.func (.func 78) #[] #[])
  generalize W2.setCell ⟨W.heap.size + 1, 0, none⟩ (.func (.func 78) #[] #[]) = W3 at *
  refine ListK.done (hK _ _ ?_)
  clear hK K
  generalize hA1 : Act.put _ _ _ = a1
  have hz1 : a1.tmps.size = 98 := by rw [← hA1]; simp only [size_put, hsz]
  have u0 : a1.eval (.tmp 0) = .pointer (some ⟨kb, 0, none⟩) := by rw [← hA1]; exact (by simp [t0])
  have u1 : a1.eval (.tmp 1) = .int .i64 d := by rw [← hA1]; exact (by simp [t1])
  have u2 : a1.eval (.tmp 2) = .int .i64 k := by rw [← hA1]; exact (by simp [t2])
  have u6 : a1.eval (.tmp 6) = .pointer (some ⟨r, 0, none⟩) := by rw [← hA1]; exact (by simp [t6])
  have u8 : a1.eval (.tmp 8) = .pointer (some ⟨W.heap.size, 0, none⟩) := by rw [← hA1]; exact (by simp [hsz])
  have u9 : a1.eval (.tmp 9) = .pointer (some ⟨W.heap.size + 1, 0, none⟩) := by rw [← hA1]; exact (by simp [hsz])
  have hd1 : a1.defers = [] := by rw [← hA1]; simp only [defers_put, hdf]
  clear hA1
  have hb3 := hb.keep hB1
  have cl3 : ∀ i, W3.cell? ⟨b, i, none⟩ = W.cell? ⟨b, i, none⟩ := fun i => hB1.cell (p := ⟨b, i, none⟩) hbl
  subst hA
  refine wpIn_seq (region_p 11 ?_)
  intro K hK
  refine ListK.move (i := 0) (v := .pointer (some ⟨kb, 0, none⟩)) rfl u0 ?_
  refine ListK.nilCheck (i := 1) (p := ⟨kb, 0, none⟩) rfl (by simp [hz1]) ?_
  refine ListK.field (i := 2) (u := .pointer (some ⟨kb, 0, none⟩)) (v := .pointer (some ⟨kb, 0, none⟩)) rfl (by simp [hz1]) (fa114_0 _) ?_
  refine ListK.field (i := 3) (u := .pointer (some ⟨kb, 0, none⟩)) (v := .pointer (some ⟨kb, 2, none⟩)) rfl (by simp [hz1]) (fa31_2 _) ?_
  refine ListK.load (i := 4) (p := ⟨kb, 2, none⟩) (v := .slice (some ⟨b, off, none⟩) l.length c) rfl (by simp [hz1]) (ld29 hb3.ba.c2) ?_
  refine ListK.move (i := 5) (v := .int .i64 k) rfl (by simp [u2]) ?_
  refine ListK.index (i := 6) (u := .slice (some ⟨b, off, none⟩) l.length c) (u' := .int .i64 k) (v := .pointer (some ⟨b, off + k * 5, none⟩)) rfl (by simp [hz1]) (by simp [hz1]) (ix29 hk _) ?_
  refine ListK.field (i := 7) (u := .pointer (some ⟨b, off + k * 5, none⟩)) (v := .pointer (some ⟨b, off + k * 5 + 3, none⟩)) rfl (by simp [hz1]) (fa61_3 _) ?_
  refine ListK.load (i := 8) (p := ⟨b, off + k * 5 + 3, none⟩) (v := .agg #[.int .i64 (saleOf l k).lo, .int .i64 (saleOf l k).hi]) rfl (by simp [hz1]) (ld46o ((cl3 _).trans s3) ((cl3 _).trans s4)) ?_
  refine ListK.alloc (i := 9) rfl (al46 W3) ?_
  have tw := Two.new W3 0 0
  refine ListK.store (i := 10) (u := .pointer (some ⟨W3.heap.size, 0, none⟩)) (u' := .agg #[.int .i64 (saleOf l k).lo, .int .i64 (saleOf l k).hi]) rfl (by simp [hz1]) (by simp [hz1]) (st46 tw.c0 tw.c1 tw.f0 tw.f1) ?_
  refine ListK.done (hK _ _ ?_)
  clear hK K
  rw [← show put2 (W3.alloc (.cells #[.int .i64 0, .int .i64 0] 46)) W3.heap.size (saleOf l k).lo (saleOf l k).hi = ((W3.alloc (.cells #[.int .i64 0, .int .i64 0] 46)).setCell ⟨W3.heap.size, 0, none⟩ (.int .i64 (saleOf l k).lo)).setCell ⟨W3.heap.size, 1, none⟩ (.int .i64 (saleOf l k).hi) from rfl]
  have hbl4 : Below W3.heap.size W3 (put2 (W3.alloc (.cells #[.int .i64 0, .int .i64 0] 46)) W3.heap.size (saleOf l k).lo (saleOf l k).hi) := below_put2 ((Below.refl _ W3).alloc (Nat.le_refl _) _) (Nat.le_refl _) _ _
  have tw4 := tw.put (saleOf l k).lo (saleOf l k).hi
  have w8' := w8.below hbl4 w8.lt
  have w9' := w9.below hbl4 w9.lt
  have hb4 := hb3.keep hbl4
  have hB4 : Below W.heap.size W _ := hB1.trans (hbl4.mono hB1.size)
  have hb10 : W.heap.size < W3.heap.size := w8.lt
  generalize put2 (W3.alloc (.cells #[.int .i64 0, .int .i64 0] 46)) W3.heap.size (saleOf l k).lo (saleOf l k).hi = W4 at *
  generalize W3.heap.size = b10 at *
  generalize hA1 : Act.put _ _ _ = a2
  have hz2 : a2.tmps.size = 98 := by rw [← hA1]; simp only [size_put, hz1]
  have v0 : a2.eval (.tmp 0) = .pointer (some ⟨kb, 0, none⟩) := by rw [← hA1]; exact (by simp [u0])
  have v1 : a2.eval (.tmp 1) = .int .i64 d := by rw [← hA1]; exact (by simp [u1])
  have v2 : a2.eval (.tmp 2) = .int .i64 k := by rw [← hA1]; exact (by simp [u2])
  have v6 : a2.eval (.tmp 6) = .pointer (some ⟨r, 0, none⟩) := by rw [← hA1]; exact (by simp [u6])
  have v8 : a2.eval (.tmp 8) = .pointer (some ⟨W.heap.size, 0, none⟩) := by rw [← hA1]; exact (by simp [u8])
  have v9 : a2.eval (.tmp 9) = .pointer (some ⟨W.heap.size + 1, 0, none⟩) := by rw [← hA1]; exact (by simp [u9])
  have v10 : a2.eval (.tmp 10) = .pointer (some ⟨b10, 0, none⟩) := by rw [← hA1]; exact (by simp [hz1])
  have hd2 : a2.defers = [] := by rw [← hA1]; simp only [defers_put, hd1]
  clear hA1
  refine wpIn_seq (regionS5 (kb := kb) (ge := ge) (gl := gl) (N := 2 ^ l.length) (ce := ce) (cl := cl) (d := d) (k := k) (wideF_plain _) hz2 v0 v1 v2 v8 v9 v10 hb4.c3 (hb4.e d hd) (w8'.cell 0) tw4.c0 tw4.c1 hb4.c4 (hb4.f _ hto) (w9'.cell 0) hd hto hd6 hk16 ?_)
  intro a3 W5 p hbl5 tw5 hp5 hz3 hd3 x11 hx3
  have hr5 := hr.below (hB4.trans (hbl5.mono hB4.size))
  have x6 : a3.eval (.tmp 6) = .pointer (some ⟨r, 0, none⟩) := (hx3 6 (by omega)).trans v6
  have hrlt := hr.lt
  refine wpIn_seq (regionS6 (b6 := r) (p := p) (wideF_plain _) hz3 x6 x11 tw5.c0 tw5.c1 hr5 (by have := hB4.size; omega) ?_)
  intro a4 W6 hbl6 hz4 hd4 y6 y7
  have hr6 := (hr5.below hbl6).put (max (early t l d) (saleOf l k).lo) (min (late t l (d ||| 2 ^ k)) (saleOf l k).hi)
  refine wpIn_ret (bodyPost_ret (res46b Try.results64 y6 y7 ⟨hr6.c0, hr6.c1⟩) (by rw [hd4, hd3, hd2]) (hR W6 ?_))
  have h5 : Below W.heap.size W W5 := hB4.trans (hbl5.mono hB4.size)
  exact h5.trans (hbl6.mono h5.size)

set_option maxHeartbeats 1000000 in
theorem span_any (W : World) (B kb ge gl ce cl : Nat) (o t : Int) (A : Option Addr) (l : List Sale) (c d k : Nat) (hv : Valid o t l) (hd : d < 2 ^ l.length) (hk : k < l.length) (hb : BookAt W B kb ge gl ce cl o t A l c) :
    Calls Try.prog 64 #[.pointer (some ⟨kb, 0, none⟩), .int .i64 d, .int .i64 k] W fun e w' => e = .returned (.tuple #[.agg #[.int .i64 (spanR t l d k).1, .int .i64 (spanR t l d k).2], .bool (spanIs t l d k)]) ∧ Below W.heap.size W w' := by
  have hd6 := lt_65536 hv.len hd
  have hk64 : k < 64 := by have := hv.len; omega
  obtain ⟨b, off, hA, hbB, s0, s1, s2, s3, s4⟩ := sale_cells hb.ba.sales hk
  have hbl : b < W.heap.size := by have := hb.le; omega
  have hsv := hv.at_ (List.getElem?_eq_getElem hk)
  rw [← saleOf_eq (List.getElem?_eq_getElem hk)] at hsv
  have ho6 := hv.o6
  refine (callsIn_wide (n := 5)).1 (callsIn_of_wp Try.func64 body64 trivial ?_ rfl)
  obtain ⟨a, ha⟩ : ∃ a : Act, a = { tmps := #[.pointer (some ⟨kb, 0, none⟩), .int .i64 d, .int .i64 k] ++ Array.replicate (Try.f64.ntmps - (#[.pointer (some ⟨kb, 0, none⟩), .int .i64 d, .int .i64 k] : Array Value).size) undef, defers := [] } := ⟨_, rfl⟩
  have hsz : a.tmps.size = 98 := by rw [ha]; simp [Try.ntmps64]
  have t0 : a.eval (.tmp 0) = .pointer (some ⟨kb, 0, none⟩) := by rw [ha]; simp [Act.eval]
  have t1 : a.eval (.tmp 1) = .int .i64 d := by rw [ha]; simp [Act.eval]
  have t2 : a.eval (.tmp 2) = .int .i64 k := by rw [ha]; simp [Act.eval]
  have hdf : a.defers = [] := by rw [ha]
  rw [← ha]
  clear ha
  unfold code64
  refine wpIn_seq (region_p 2 ?_)
  intro K hK
  refine ListK.alloc (i := 0) rfl (al46 W) ?_
  refine ListK.assign (i := 1) (v := .bool false) rfl rfl ?_
  refine ListK.done (hK _ _ ?_)
  clear hK K
  have hr := Two.new W 0 0
  have hB1 : Below W.heap.size W _ := (Below.refl _ W).alloc (Nat.le_refl _) (.cells #[.int .i64 0, .int .i64 0] 46)
  have hb1 := hb.keep hB1
  have cl1 : ∀ i, (W.alloc (.cells #[.int .i64 0, .int .i64 0] 46)).cell? ⟨b, i, none⟩ = W.cell? ⟨b, i, none⟩ := fun i => hB1.cell (p := ⟨b, i, none⟩) hbl
  generalize W.alloc (.cells #[.int .i64 0, .int .i64 0] 46) = W1 at *
  generalize hA1 : Act.put _ _ _ = a1
  have hz1 : a1.tmps.size = 98 := by rw [← hA1]; simp only [size_put, hsz]
  have u0 : a1.eval (.tmp 0) = .pointer (some ⟨kb, 0, none⟩) := by rw [← hA1]; exact (by simp [t0])
  have u1 : a1.eval (.tmp 1) = .int .i64 d := by rw [← hA1]; exact (by simp [t1])
  have u2 : a1.eval (.tmp 2) = .int .i64 k := by rw [← hA1]; exact (by simp [t2])
  have u6 : a1.eval (.tmp 6) = .pointer (some ⟨W.heap.size, 0, none⟩) := by rw [← hA1]; exact (by simp [hsz])
  have u7 : a1.eval (.tmp 7) = .bool false := by rw [← hA1]; exact (by simp [hsz])
  have hd1 : a1.defers = [] := by rw [← hA1]; simp only [defers_put, hdf]
  clear hA1
  -- where it cannot
  have hno : spanB t l d k = false → ∀ (a' : Act) (W' : World), Below W1.heap.size W1 W' → a'.tmps.size = 98 → a'.defers = a1.defers → a'.eval (.tmp 49) = .bool true → (∀ e : Nat, e < 12 ∨ 50 ≤ e → a'.eval (.tmp e) = a1.eval (.tmp e)) →
      (Code.cond (.tmp 49) (.seq (.region 2 opsS2 false) .ret) .skip).wpIn Fence.wide 5 Try.prog (Exit.then (restS.wpIn Fence.wide 5 Try.prog (bodyPost Try.prog Try.f64 fun e w' => e = .returned (.tuple #[.agg #[.int .i64 (spanR t l d k).1, .int .i64 (spanR t l d k).2], .bool (spanIs t l d k)]) ∧ Below W.heap.size W w')) (bodyPost Try.prog Try.f64 fun e w' => e = .returned (.tuple #[.agg #[.int .i64 (spanR t l d k).1, .int .i64 (spanR t l d k).2], .bool (spanIs t l d k)]) ∧ Below W.heap.size W w')) a' W' := by
    intro hf a' W' hbl2 hz hdd x49 hx
    have hr2 := hr.below hbl2
    have x6 := (hx 6 (by omega)).trans u6
    have x7 := (hx 7 (by omega)).trans u7
    refine wpIn_cond (t := true) x49 ?_
    refine wpIn_seq (region_p 3 ?_)
    intro K hK
    refine ListK.bld (i := 0) (ps := #[]) (v := .agg #[.int .i64 0, .int .i64 0]) rfl (by simp) (bd46_0 _) ?_
    refine ListK.store (i := 1) (u := .pointer (some ⟨W.heap.size, 0, none⟩)) (u' := .agg #[.int .i64 0, .int .i64 0]) rfl (by simp [x6]) (by simp [hz]) (st46 hr2.c0 hr2.c1 hr2.f0 hr2.f1) ?_
    refine ListK.assign (i := 2) (v := .bool false) rfl rfl ?_
    have hr3 := hr2.put 0 0
    refine ListK.done (hK _ _ (wpIn_ret ?_))
    show bodyPost Try.prog Try.f64 (fun e w' => e = .returned (.tuple #[.agg #[.int .i64 (spanR t l d k).1, .int .i64 (spanR t l d k).2], .bool (spanIs t l d k)]) ∧ Below W.heap.size W w') Exit.ret _ (put2 W' W.heap.size 0 0)
    refine bodyPost_ret (res46b (b := W.heap.size) (z := .bool false) Try.results64 (by simp [x6]) (by simp [hz]) ⟨hr3.c0, hr3.c1⟩) (by simp only [defers_put, hdd, hd1]) ⟨?_, below_put2 (hB1.trans (hbl2.mono hB1.size)) (Nat.le_refl _) _ _⟩
    simp [spanR, spanIs, hf]
  subst hA
  by_cases htb : d.testBit k = true
  · exact wpIn_seq (wpIn_seq (regionS1a (off := off) (wideF_plain _) hz1 u0 u1 u2 hb1.c3 (hb1.e d hd) hb1.ba.c2 ((cl1 _).trans s0) ((cl1 _).trans s2) hd hk hd6 hk64 htb (hno (by simp [spanB, htb]))))
  · have htb' : d.testBit k = false := by simpa using htb
    by_cases he : early t l d = 101
    · exact wpIn_seq (wpIn_seq (regionS1b (off := off) (wideF_plain _) hz1 u0 u1 u2 hb1.c3 (hb1.e d hd) hb1.ba.c2 ((cl1 _).trans s0) ((cl1 _).trans s2) hd hk hd6 hk64 htb' he (hno (by simp [spanB, he]))))
    · refine wpIn_seq (wpIn_seq (regionS1c (off := off) (st := stocksOf t l d) (wideF_plain _) hz1 u0 u1 u2 hb1.c3 (hb1.e d hd) hb1.ba.c2 ((cl1 _).trans s0) ((cl1 _).trans s2) hd hk hd6 hk64 htb' he (by omega) (by omega) ?_ ?_))
      · intro W' hbw
        have hb2 := hb1.keep hbw
        exact stocks_any kb B o t _ l c d W' hv hb2.ba hb2.le hb2.lt hd6
      · intro a' W' hbl2 hz hdd x49 hx
        by_cases hst : stocksOf t l d (saleOf l k).src.toNat < (saleOf l k).many
        · exact hno (by simp [spanB]; intros; omega) a' W' hbl2 hz hdd (by rw [x49]; simp [hst]) hx
        · have hB : spanB t l d k = true := by simp [spanB, htb', he]; omega
          refine wpIn_cond (t := false) (by rw [x49]; simp [hst]) (wpIn_skip ?_)
          refine span_rest hv (hb1.keep hbl2) hd hk ⟨hz, hdd.trans hd1, (hx 0 (by omega)).trans u0, (hx 1 (by omega)).trans u1, (hx 2 (by omega)).trans u2, (hx 6 (by omega)).trans u6, (hx 7 (by omega)).trans u7⟩ (hr.below hbl2) ?_
          intro W5 hbl5
          have h2 : Below W.heap.size W W' := hB1.trans (hbl2.mono hB1.size)
          refine ⟨?_, below_put2 (h2.trans (hbl5.mono h2.size)) (Nat.le_refl _) _ _⟩
          simp only [spanR, spanIs, hB, if_true, Bool.true_and]
end Go.Proofs.Ytfcnombmphophaa
namespace Go.Proofs.Ytfcnombmphophaa
open Go.RowKit Go.Shelf
theorem sub3w {x y : Operand} {m n : Int} (w : World) : (do eqGuard .sub 3 x y (.int .i64 m) (.int .i64 n); binOp .sub 3 (.int .i64 m) (.int .i64 n) : Sem Value).run Try.prog w = .ok (.int .i64 (IntKind.i64.wrap (m - n))) w := by
  go_simp
theorem fa31_0 {b o : Nat} (w : World) : (Instr.fieldAt 31 (.pointer (some ⟨b, o, none⟩)) 0).run Try.prog w = .ok (.pointer (some ⟨b, o, none⟩)) w := by
  go_simp
theorem within_at {n lo hi : Int} {w : World} {b : Bool} (h : inR n lo hi = b) : Calls Try.prog 47 #[.int .i64 n, .int .i64 lo, .int .i64 hi] w fun e w' => e = .returned (.bool b) ∧ w = w' := by
  rw [← h]
  exact within_any n lo hi w
attribute [local irreducible] AnyK StepK

noncomputable def opsW1 : Array Oper := (Try.f29.body.bind (regionOf 1)).getD #[]
set_option maxHeartbeats 2000000 in
theorem regionW1 {F : Fence} {n : Nat} (hF : WideF F Try.prog) {Q : Exit → Act → World → Prop} {a : Act} {w : World} {b2 m c : Nat} {o t E : Int} {A : Option Addr} {X : Value → World → Prop} {sale : Int} (hsz : a.tmps.size = 57)
    (t1 : a.eval (.tmp 1) = .int .i64 sale) (t2 : a.eval (.tmp 2) = .pointer (some ⟨b2, 0, none⟩))
    (m0 : w.cell? ⟨b2, 0, none⟩ = some (.int .i64 o)) (m1 : w.cell? ⟨b2, 1, none⟩ = some (.int .i64 t)) (m2 : w.cell? ⟨b2, 2, none⟩ = some (.slice A m c)) (hm : m ≤ 1000000) (hc : ∀ W, Below w.heap.size w W → Calls Try.prog 53 #[.agg #[.int .i64 o, .int .i64 t, .slice A m c], .bool (inR sale 0 ((m : Int) - 1))] W fun e w' => ∃ p, e = .returned (.tuple #[p, .int .i64 E]) ∧ X p w' ∧ Below W.heap.size W w')
    (hK : ∀ a' W' p, X p W' → Below w.heap.size w W' → a'.tmps.size = 57 → a'.defers = a.defers → a'.eval (.tmp 6) = p → a'.eval (.tmp 7) = .int .i64 E → (∀ e : Nat, e < 6 ∨ (7 < e ∧ e < 12) ∨ 23 ≤ e → a'.eval (.tmp e) = a.eval (.tmp e)) → Q .normal a' W') :
    (Code.region 1 opsW1 true).wpIn F n Try.prog Q a w := by
  have hR : (fun w : World => w.cell? ⟨b2, 0, none⟩ = some (.int .i64 o) ∧ w.cell? ⟨b2, 1, none⟩ = some (.int .i64 t) ∧ w.cell? ⟨b2, 2, none⟩ = some (.slice A m c)) w.drew := ⟨m0, m1, m2⟩
  have hB : Below w.heap.size w w.drew := (Below.refl _ _).drew
  refine region_K (KpR (fun w => w.cell? ⟨b2, 0, none⟩ = some (.int .i64 o) ∧ w.cell? ⟨b2, 1, none⟩ = some (.int .i64 t) ∧ w.cell? ⟨b2, 2, none⟩ = some (.slice A m c)) (fun _ => false)) hF (by kernel_rfl) Try.mixed ?_
  change AnyK _ _ _ _ 13 (Array.replicate 13 false) _ _
  generalize w.drew = W at *
  refine AnyK.load (i := 0) may_o (p := ⟨b2, 0, none⟩) (v := .agg #[.int .i64 o, .int .i64 t, .slice A m c]) (by simp [t2]) (fun w hw => ld31' ⟨hw.1, hw.2.1, hw.2.2⟩) hR ?_
  refine AnyK.move (i := 1) may_o (v := .int .i64 sale) (by simp [t1]) hR ?_
  refine AnyK.field (i := 2) may_o (u := .pointer (some ⟨b2, 0, none⟩)) (v := .pointer (some ⟨b2, 2, none⟩)) (by simp [t2]) (fun w => fa31_2 w) hR ?_
  refine AnyK.load (i := 3) may_o (p := ⟨b2, 2, none⟩) (v := .slice A m c) (by simp [hsz]) (fun w hw => ld29 hw.2.2) hR ?_
  refine AnyK.len (i := 4) may_o (u := .slice A m c) (v := .int .i64 m) (by simp [hsz]) (fun w => ln29 A m c _ w) rfl hR ?_
  refine AnyK.bin (i := 5) may_o (u := .int .i64 m) (u' := .int .i64 (1)) (v := .int .i64 ((m : Int) - 1)) (by simp [hsz]) (by simp) (fun w => sub3 (by omega) (by omega) w) hR ?_
  refine AnyK.pick1 (i := 6) (by kernel_rfl) ?_
  refine StepK.call (i := 6) (f := 47) (vs := #[.int .i64 sale, .int .i64 (0), .int .i64 ((m : Int) - 1)]) rfl (enters_of Try.func47 (by kernel_rfl) rfl) (by simp) (by simp [hsz]) ((within_any sale 0 ((m : Int) - 1) _).mono ?_)
  rintro _ _ ⟨rfl, rfl⟩
  refine ⟨_, rfl, fun _ h => h, ?_⟩
  refine AnyK.pick1 (i := 7) (by kernel_rfl) ?_
  refine StepK.call (i := 7) (f := 53) (vs := #[.agg #[.int .i64 o, .int .i64 t, .slice A m c], .bool (inR sale 0 ((m : Int) - 1))]) rfl (enters_of Try.func53 (by kernel_rfl) rfl) (by simp) (by simp [hsz]) ((hc W hB).mono ?_)
  rintro _ W7 ⟨p, rfl, hx, hb7⟩
  refine ⟨_, rfl, (fun _ hw => ⟨(hb7.cell (block_lt_of_cell hw.1)).trans hw.1, (hb7.cell (block_lt_of_cell hw.2.1)).trans hw.2.1, (hb7.cell (block_lt_of_cell hw.2.2)).trans hw.2.2⟩), ?_⟩
  replace hR : (fun w : World => w.cell? ⟨b2, 0, none⟩ = some (.int .i64 o) ∧ w.cell? ⟨b2, 1, none⟩ = some (.int .i64 t) ∧ w.cell? ⟨b2, 2, none⟩ = some (.slice A m c)) W7 := ⟨(hb7.cell (block_lt_of_cell hR.1)).trans hR.1, (hb7.cell (block_lt_of_cell hR.2.1)).trans hR.2.1, (hb7.cell (block_lt_of_cell hR.2.2)).trans hR.2.2⟩
  replace hB := hB.trans (hb7.mono hB.size)
  clear hb7 W
  obtain ⟨W, rfl⟩ : ∃ W, W = W7 := ⟨_, rfl⟩
  refine AnyK.move (i := 8) may_o (v := .tuple #[p, .int .i64 E]) (by simp [hsz]) hR ?_
  refine AnyK.extract (i := 9) may_o (u := .tuple #[p, .int .i64 E]) (v := p) (by simp [hsz]) (fun w => ex0 _ _ w) hR ?_
  refine AnyK.extract (i := 10) may_o (u := .tuple #[p, .int .i64 E]) (v := .int .i64 E) (by simp [hsz]) (fun w => ex1 _ _ w) hR ?_
  refine AnyK.assign (i := 11) may_o (v := p) (by simp [hsz]) hR ?_
  refine AnyK.assign (i := 12) may_o (v := .int .i64 E) (by simp [hsz]) hR ?_
  refine AnyK.done (by kernel_rfl) (hK _ _ p hx hB ?_ ?_ ?_ ?_ ?_)
  · simp only [size_put, hsz]
  · simp only [defers_put]
  · exact (by simp [hsz])
  · exact (by simp [hsz])
  · intro e he
    iterate 13 refine (ev_ne (by omega)).trans ?_
    rfl

noncomputable def opsW10 : Array Oper := (Try.f29.body.bind (regionOf 10)).getD #[]
set_option maxHeartbeats 2000000 in
theorem regionW10 {F : Fence} {n : Nat} (hF : WideF F Try.prog) {Q : Exit → Act → World → Prop} {a : Act} {w : World} {bo br : Nat} {lo hi x y : Int} (hsz : a.tmps.size = 57)
    (t8 : a.eval (.tmp 8) = .pointer (some ⟨bo, 0, none⟩)) (t10 : a.eval (.tmp 10) = .pointer (some ⟨br, 0, none⟩))
    (m0 : w.cell? ⟨bo, 0, none⟩ = some (.int .i64 lo)) (m1 : w.cell? ⟨bo, 1, none⟩ = some (.int .i64 hi)) (m2 : w.cell? ⟨br, 0, none⟩ = some (.int .i64 x)) (m3 : w.cell? ⟨br, 1, none⟩ = some (.int .i64 y)) (f0 : w.frozen? ⟨bo, 0, none⟩ = false) (f1 : w.frozen? ⟨bo, 1, none⟩ = false)
    (hK : ∀ a' W', Below w.heap.size w W' → a'.tmps.size = 57 → a'.defers = a.defers → (∀ e : Nat, e < 42 ∨ 55 ≤ e → a'.eval (.tmp e) = a.eval (.tmp e)) → Q .normal a' (put2 W' bo (min lo x) (max hi y))) :
    (Code.region 10 opsW10 true).wpIn F n Try.prog Q a w := by
  have hlo := block_lt_of_cell m0
  have hR : (fun w : World => w.cell? ⟨bo, 0, none⟩ = some (.int .i64 lo) ∧ w.cell? ⟨bo, 1, none⟩ = some (.int .i64 hi) ∧ w.cell? ⟨br, 0, none⟩ = some (.int .i64 x) ∧ w.cell? ⟨br, 1, none⟩ = some (.int .i64 y)) w.drew := ⟨m0, m1, m2, m3⟩
  have hB : Below w.heap.size w w.drew := (Below.refl _ _).drew
  refine region_K (KpR (fun w => w.cell? ⟨bo, 0, none⟩ = some (.int .i64 lo) ∧ w.cell? ⟨bo, 1, none⟩ = some (.int .i64 hi) ∧ w.cell? ⟨br, 0, none⟩ = some (.int .i64 x) ∧ w.cell? ⟨br, 1, none⟩ = some (.int .i64 y)) (fun j => j == 13)) hF (by kernel_rfl) Try.mixed ?_
  change AnyK _ _ _ _ 14 (Array.replicate 14 false) _ _
  generalize w.drew = W at *
  refine AnyK.field (i := 0) may_o (u := .pointer (some ⟨bo, 0, none⟩)) (v := .pointer (some ⟨bo, 0, none⟩)) (by simp [t8]) (fun w => fa46_0 w) hR ?_
  refine AnyK.load (i := 1) may_o (p := ⟨bo, 0, none⟩) (v := .int .i64 lo) (by simp [hsz]) (fun w hw => ld3 hw.1) hR ?_
  refine AnyK.field (i := 2) may_o (u := .pointer (some ⟨br, 0, none⟩)) (v := .pointer (some ⟨br, 0, none⟩)) (by simp [t10]) (fun w => fa46_0 w) hR ?_
  refine AnyK.load (i := 3) may_o (p := ⟨br, 0, none⟩) (v := .int .i64 x) (by simp [hsz]) (fun w hw => ld3 hw.2.2.1) hR ?_
  refine AnyK.field (i := 6) may_o (u := .pointer (some ⟨bo, 0, none⟩)) (v := .pointer (some ⟨bo, 1, none⟩)) (by simp [t8]) (fun w => fa46_1 w) hR ?_
  refine AnyK.load (i := 7) may_o (p := ⟨bo, 1, none⟩) (v := .int .i64 hi) (by simp [hsz]) (fun w hw => ld3 hw.2.1) hR ?_
  refine AnyK.field (i := 8) may_o (u := .pointer (some ⟨br, 0, none⟩)) (v := .pointer (some ⟨br, 1, none⟩)) (by simp [t10]) (fun w => fa46_1 w) hR ?_
  refine AnyK.load (i := 9) may_o (p := ⟨br, 1, none⟩) (v := .int .i64 y) (by simp [hsz]) (fun w hw => ld3 hw.2.2.2) hR ?_
  refine AnyK.pick2 (i := 4) (j := 10) (by kernel_rfl) ?_ ?_
  · refine StepK.build (i := 4) (ps := #[(0, .int .i64 lo), (1, .int .i64 x)]) rfl (by simp [hsz]) (bs25_2 _ _ _) (fun _ hw => ⟨cell_alloc_l _ hw.1, cell_alloc_l _ hw.2.1, cell_alloc_l _ hw.2.2.1, cell_alloc_l _ hw.2.2.2⟩) ?_
    have n4 := cell_new2 W (.int .i64 lo) (.int .i64 x) 3
    replace hR : (fun w : World => w.cell? ⟨bo, 0, none⟩ = some (.int .i64 lo) ∧ w.cell? ⟨bo, 1, none⟩ = some (.int .i64 hi) ∧ w.cell? ⟨br, 0, none⟩ = some (.int .i64 x) ∧ w.cell? ⟨br, 1, none⟩ = some (.int .i64 y)) (W.alloc (.cells #[.int .i64 lo, .int .i64 x] 3)) := ⟨cell_alloc_l _ hR.1, cell_alloc_l _ hR.2.1, cell_alloc_l _ hR.2.2.1, cell_alloc_l _ hR.2.2.2⟩
    replace hB := hB.alloc hB.size (.cells #[.int .i64 lo, .int .i64 x] 3)
    generalize hp4 : W.heap.size = p4 at *
    generalize W.alloc (.cells #[.int .i64 lo, .int .i64 x] 3) = W4 at *
    clear hp4 W
    obtain ⟨W, rfl⟩ : ∃ W, W = W4 := ⟨_, rfl⟩
    refine AnyK.pick2 (i := 5) (j := 10) (by kernel_rfl) ?_ ?_
    · refine StepK.call (i := 5) (f := 65) (vs := #[.slice (some ⟨p4, 0, none⟩) 2 2]) rfl (enters_of Try.func65 (by kernel_rfl) rfl) rfl (by simp [hsz]) ((least_two _ 0 2 _ _ _ n4.1 n4.2).mono ?_)
      rintro _ _ ⟨rfl, rfl⟩
      refine ⟨_, rfl, fun _ h => h, ?_⟩
      clear n4
      refine AnyK.pick1 (i := 10) (by kernel_rfl) ?_
      refine StepK.build (i := 10) (ps := #[(0, .int .i64 hi), (1, .int .i64 y)]) rfl (by simp [hsz]) (bs25_2 _ _ _) (fun _ hw => ⟨cell_alloc_l _ hw.1, cell_alloc_l _ hw.2.1, cell_alloc_l _ hw.2.2.1, cell_alloc_l _ hw.2.2.2⟩) ?_
      have n10 := cell_new2 W (.int .i64 hi) (.int .i64 y) 3
      replace hR : (fun w : World => w.cell? ⟨bo, 0, none⟩ = some (.int .i64 lo) ∧ w.cell? ⟨bo, 1, none⟩ = some (.int .i64 hi) ∧ w.cell? ⟨br, 0, none⟩ = some (.int .i64 x) ∧ w.cell? ⟨br, 1, none⟩ = some (.int .i64 y)) (W.alloc (.cells #[.int .i64 hi, .int .i64 y] 3)) := ⟨cell_alloc_l _ hR.1, cell_alloc_l _ hR.2.1, cell_alloc_l _ hR.2.2.1, cell_alloc_l _ hR.2.2.2⟩
      replace hB := hB.alloc hB.size (.cells #[.int .i64 hi, .int .i64 y] 3)
      generalize hp10 : W.heap.size = p10 at *
      generalize W.alloc (.cells #[.int .i64 hi, .int .i64 y] 3) = W10 at *
      clear hp10 W
      obtain ⟨W, rfl⟩ : ∃ W, W = W10 := ⟨_, rfl⟩
      refine AnyK.pick1 (i := 11) (by kernel_rfl) ?_
      refine StepK.call (i := 11) (f := 57) (vs := #[.slice (some ⟨p10, 0, none⟩) 2 2]) rfl (enters_of Try.func57 (by kernel_rfl) rfl) rfl (by simp [hsz]) ((greatest_two _ 0 2 _ _ _ n10.1 n10.2).mono ?_)
      rintro _ _ ⟨rfl, rfl⟩
      refine ⟨_, rfl, fun _ h => h, ?_⟩
      clear n10
      refine AnyK.bld (i := 12) may_o (ps := #[(0, .int .i64 (min lo x)), (1, .int .i64 (max hi y))]) (v := .agg #[.int .i64 (min lo x), .int .i64 (max hi y)]) (by simp [hsz]) (fun w => bd46 _ _ w) hR ?_
      refine AnyK.pick1 (i := 13) (by kernel_rfl) ?_
      refine StepK.store (i := 13) (u := .pointer (some ⟨bo, 0, none⟩)) (u' := .agg #[.int .i64 (min lo x), .int .i64 (max hi y)]) rfl (by simp [t8]) (by simp [hsz]) (st46 hR.1 hR.2.1 ((hB.frozen (p := ⟨bo, 0, none⟩) hlo).trans f0) ((hB.frozen (p := ⟨bo, 1, none⟩) hlo).trans f1)) (fun h => by cases h) ?_
      refine AnyK.done (by kernel_rfl) (hK _ _ hB ?_ ?_ ?_)
      · simp only [size_put, hsz]
      · simp only [defers_put]
      · intro e he
        iterate 13 refine (ev_ne (by omega)).trans ?_
        rfl
    · refine StepK.build (i := 10) (ps := #[(0, .int .i64 hi), (1, .int .i64 y)]) rfl (by simp [hsz]) (bs25_2 _ _ _) (fun _ hw => ⟨cell_alloc_l _ hw.1, cell_alloc_l _ hw.2.1, cell_alloc_l _ hw.2.2.1, cell_alloc_l _ hw.2.2.2⟩) ?_
      replace n4 := And.intro (cell_alloc_l (.cells #[.int .i64 hi, .int .i64 y] 3) n4.1) (cell_alloc_l (.cells #[.int .i64 hi, .int .i64 y] 3) n4.2)
      have n10 := cell_new2 W (.int .i64 hi) (.int .i64 y) 3
      replace hR : (fun w : World => w.cell? ⟨bo, 0, none⟩ = some (.int .i64 lo) ∧ w.cell? ⟨bo, 1, none⟩ = some (.int .i64 hi) ∧ w.cell? ⟨br, 0, none⟩ = some (.int .i64 x) ∧ w.cell? ⟨br, 1, none⟩ = some (.int .i64 y)) (W.alloc (.cells #[.int .i64 hi, .int .i64 y] 3)) := ⟨cell_alloc_l _ hR.1, cell_alloc_l _ hR.2.1, cell_alloc_l _ hR.2.2.1, cell_alloc_l _ hR.2.2.2⟩
      replace hB := hB.alloc hB.size (.cells #[.int .i64 hi, .int .i64 y] 3)
      generalize hp10 : W.heap.size = p10 at *
      generalize W.alloc (.cells #[.int .i64 hi, .int .i64 y] 3) = W10 at *
      clear hp10 W
      obtain ⟨W, rfl⟩ : ∃ W, W = W10 := ⟨_, rfl⟩
      refine AnyK.pick1 (i := 5) (by kernel_rfl) ?_
      refine StepK.call (i := 5) (f := 65) (vs := #[.slice (some ⟨p4, 0, none⟩) 2 2]) rfl (enters_of Try.func65 (by kernel_rfl) rfl) rfl (by simp [hsz]) ((least_two _ 0 2 _ _ _ n4.1 n4.2).mono ?_)
      rintro _ _ ⟨rfl, rfl⟩
      refine ⟨_, rfl, fun _ h => h, ?_⟩
      clear n4
      refine AnyK.pick1 (i := 11) (by kernel_rfl) ?_
      refine StepK.call (i := 11) (f := 57) (vs := #[.slice (some ⟨p10, 0, none⟩) 2 2]) rfl (enters_of Try.func57 (by kernel_rfl) rfl) rfl (by simp [hsz]) ((greatest_two _ 0 2 _ _ _ n10.1 n10.2).mono ?_)
      rintro _ _ ⟨rfl, rfl⟩
      refine ⟨_, rfl, fun _ h => h, ?_⟩
      clear n10
      refine AnyK.bld (i := 12) may_o (ps := #[(0, .int .i64 (min lo x)), (1, .int .i64 (max hi y))]) (v := .agg #[.int .i64 (min lo x), .int .i64 (max hi y)]) (by simp [hsz]) (fun w => bd46 _ _ w) hR ?_
      refine AnyK.pick1 (i := 13) (by kernel_rfl) ?_
      refine StepK.store (i := 13) (u := .pointer (some ⟨bo, 0, none⟩)) (u' := .agg #[.int .i64 (min lo x), .int .i64 (max hi y)]) rfl (by simp [t8]) (by simp [hsz]) (st46 hR.1 hR.2.1 ((hB.frozen (p := ⟨bo, 0, none⟩) hlo).trans f0) ((hB.frozen (p := ⟨bo, 1, none⟩) hlo).trans f1)) (fun h => by cases h) ?_
      refine AnyK.done (by kernel_rfl) (hK _ _ hB ?_ ?_ ?_)
      · simp only [size_put, hsz]
      · simp only [defers_put]
      · intro e he
        iterate 13 refine (ev_ne (by omega)).trans ?_
        rfl
  · refine StepK.build (i := 10) (ps := #[(0, .int .i64 hi), (1, .int .i64 y)]) rfl (by simp [hsz]) (bs25_2 _ _ _) (fun _ hw => ⟨cell_alloc_l _ hw.1, cell_alloc_l _ hw.2.1, cell_alloc_l _ hw.2.2.1, cell_alloc_l _ hw.2.2.2⟩) ?_
    have n10 := cell_new2 W (.int .i64 hi) (.int .i64 y) 3
    replace hR : (fun w : World => w.cell? ⟨bo, 0, none⟩ = some (.int .i64 lo) ∧ w.cell? ⟨bo, 1, none⟩ = some (.int .i64 hi) ∧ w.cell? ⟨br, 0, none⟩ = some (.int .i64 x) ∧ w.cell? ⟨br, 1, none⟩ = some (.int .i64 y)) (W.alloc (.cells #[.int .i64 hi, .int .i64 y] 3)) := ⟨cell_alloc_l _ hR.1, cell_alloc_l _ hR.2.1, cell_alloc_l _ hR.2.2.1, cell_alloc_l _ hR.2.2.2⟩
    replace hB := hB.alloc hB.size (.cells #[.int .i64 hi, .int .i64 y] 3)
    generalize hp10 : W.heap.size = p10 at *
    generalize W.alloc (.cells #[.int .i64 hi, .int .i64 y] 3) = W10 at *
    clear hp10 W
    obtain ⟨W, rfl⟩ : ∃ W, W = W10 := ⟨_, rfl⟩
    refine AnyK.pick1 (i := 4) (by kernel_rfl) ?_
    refine StepK.build (i := 4) (ps := #[(0, .int .i64 lo), (1, .int .i64 x)]) rfl (by simp [hsz]) (bs25_2 _ _ _) (fun _ hw => ⟨cell_alloc_l _ hw.1, cell_alloc_l _ hw.2.1, cell_alloc_l _ hw.2.2.1, cell_alloc_l _ hw.2.2.2⟩) ?_
    replace n10 := And.intro (cell_alloc_l (.cells #[.int .i64 lo, .int .i64 x] 3) n10.1) (cell_alloc_l (.cells #[.int .i64 lo, .int .i64 x] 3) n10.2)
    have n4 := cell_new2 W (.int .i64 lo) (.int .i64 x) 3
    replace hR : (fun w : World => w.cell? ⟨bo, 0, none⟩ = some (.int .i64 lo) ∧ w.cell? ⟨bo, 1, none⟩ = some (.int .i64 hi) ∧ w.cell? ⟨br, 0, none⟩ = some (.int .i64 x) ∧ w.cell? ⟨br, 1, none⟩ = some (.int .i64 y)) (W.alloc (.cells #[.int .i64 lo, .int .i64 x] 3)) := ⟨cell_alloc_l _ hR.1, cell_alloc_l _ hR.2.1, cell_alloc_l _ hR.2.2.1, cell_alloc_l _ hR.2.2.2⟩
    replace hB := hB.alloc hB.size (.cells #[.int .i64 lo, .int .i64 x] 3)
    generalize hp4 : W.heap.size = p4 at *
    generalize W.alloc (.cells #[.int .i64 lo, .int .i64 x] 3) = W4 at *
    clear hp4 W
    obtain ⟨W, rfl⟩ : ∃ W, W = W4 := ⟨_, rfl⟩
    refine AnyK.pick1 (i := 5) (by kernel_rfl) ?_
    refine StepK.call (i := 5) (f := 65) (vs := #[.slice (some ⟨p4, 0, none⟩) 2 2]) rfl (enters_of Try.func65 (by kernel_rfl) rfl) rfl (by simp [hsz]) ((least_two _ 0 2 _ _ _ n4.1 n4.2).mono ?_)
    rintro _ _ ⟨rfl, rfl⟩
    refine ⟨_, rfl, fun _ h => h, ?_⟩
    clear n4
    refine AnyK.pick1 (i := 11) (by kernel_rfl) ?_
    refine StepK.call (i := 11) (f := 57) (vs := #[.slice (some ⟨p10, 0, none⟩) 2 2]) rfl (enters_of Try.func57 (by kernel_rfl) rfl) rfl (by simp [hsz]) ((greatest_two _ 0 2 _ _ _ n10.1 n10.2).mono ?_)
    rintro _ _ ⟨rfl, rfl⟩
    refine ⟨_, rfl, fun _ h => h, ?_⟩
    clear n10
    refine AnyK.bld (i := 12) may_o (ps := #[(0, .int .i64 (min lo x)), (1, .int .i64 (max hi y))]) (v := .agg #[.int .i64 (min lo x), .int .i64 (max hi y)]) (by simp [hsz]) (fun w => bd46 _ _ w) hR ?_
    refine AnyK.pick1 (i := 13) (by kernel_rfl) ?_
    refine StepK.store (i := 13) (u := .pointer (some ⟨bo, 0, none⟩)) (u' := .agg #[.int .i64 (min lo x), .int .i64 (max hi y)]) rfl (by simp [t8]) (by simp [hsz]) (st46 hR.1 hR.2.1 ((hB.frozen (p := ⟨bo, 0, none⟩) hlo).trans f0) ((hB.frozen (p := ⟨bo, 1, none⟩) hlo).trans f1)) (fun h => by cases h) ?_
    refine AnyK.done (by kernel_rfl) (hK _ _ hB ?_ ?_ ?_)
    · simp only [size_put, hsz]
    · simp only [defers_put]
    · intro e he
      iterate 13 refine (ev_ne (by omega)).trans ?_
      rfl

noncomputable def opsD1a : Array Oper := (Try.f32.body.bind (regionOf 1)).getD #[]
set_option maxHeartbeats 2000000 in
theorem regionD1a {F : Fence} {n : Nat} (hF : WideF F Try.prog) {Q : Exit → Act → World → Prop} {a : Act} {w : World} {b2 m c : Nat} {o t E : Int} {A : Option Addr} {X : Value → World → Prop} {owner day : Int} (hsz : a.tmps.size = 32)
    (t1 : a.eval (.tmp 1) = .int .i64 owner) (t2 : a.eval (.tmp 2) = .int .i64 day) (t3 : a.eval (.tmp 3) = .pointer (some ⟨b2, 0, none⟩))
    (m0 : w.cell? ⟨b2, 0, none⟩ = some (.int .i64 o)) (m1 : w.cell? ⟨b2, 1, none⟩ = some (.int .i64 t)) (m2 : w.cell? ⟨b2, 2, none⟩ = some (.slice A m c)) (hin : inR owner 0 (IntKind.i64.wrap (o - 1)) = false) (hc : ∀ W, Below w.heap.size w W → Calls Try.prog 53 #[.agg #[.int .i64 o, .int .i64 t, .slice A m c], .bool false] W fun e w' => ∃ p, e = .returned (.tuple #[p, .int .i64 E]) ∧ X p w' ∧ Below W.heap.size W w')
    (hK : ∀ a' W' p, X p W' → Below w.heap.size w W' → a'.tmps.size = 32 → a'.defers = a.defers → a'.eval (.tmp 8) = p → a'.eval (.tmp 9) = .int .i64 E → (∀ e : Nat, e < 8 ∨ 24 ≤ e → a'.eval (.tmp e) = a.eval (.tmp e)) → Q .normal a' W') :
    (Code.region 1 opsD1a true).wpIn F n Try.prog Q a w := by
  have hR : (fun w : World => w.cell? ⟨b2, 0, none⟩ = some (.int .i64 o) ∧ w.cell? ⟨b2, 1, none⟩ = some (.int .i64 t) ∧ w.cell? ⟨b2, 2, none⟩ = some (.slice A m c)) w.drew := ⟨m0, m1, m2⟩
  have hB : Below w.heap.size w w.drew := (Below.refl _ _).drew
  refine region_K (KpR (fun w => w.cell? ⟨b2, 0, none⟩ = some (.int .i64 o) ∧ w.cell? ⟨b2, 1, none⟩ = some (.int .i64 t) ∧ w.cell? ⟨b2, 2, none⟩ = some (.slice A m c)) (fun _ => false)) hF (by kernel_rfl) Try.mixed ?_
  change AnyK _ _ _ _ 16 (Array.replicate 16 false) _ _
  generalize w.drew = W at *
  refine AnyK.load (i := 0) may_o (p := ⟨b2, 0, none⟩) (v := .agg #[.int .i64 o, .int .i64 t, .slice A m c]) (by simp [t3]) (fun w hw => ld31' ⟨hw.1, hw.2.1, hw.2.2⟩) hR ?_
  refine AnyK.move (i := 1) may_o (v := .int .i64 owner) (by simp [t1]) hR ?_
  refine AnyK.field (i := 2) may_o (u := .pointer (some ⟨b2, 0, none⟩)) (v := .pointer (some ⟨b2, 0, none⟩)) (by simp [t3]) (fun w => fa31_0 w) hR ?_
  refine AnyK.load (i := 3) may_o (p := ⟨b2, 0, none⟩) (v := .int .i64 o) (by simp [hsz]) (fun w hw => ld3 hw.1) hR ?_
  refine AnyK.bin (i := 4) may_o (u := .int .i64 o) (u' := .int .i64 (1)) (v := .int .i64 (IntKind.i64.wrap (o - 1))) (by simp [hsz]) (by simp) (fun w => sub3w w) hR ?_
  refine AnyK.pick1 (i := 5) (by kernel_rfl) ?_
  refine StepK.call (i := 5) (f := 47) (vs := #[.int .i64 owner, .int .i64 (0), .int .i64 (IntKind.i64.wrap (o - 1))]) rfl (enters_of Try.func47 (by kernel_rfl) rfl) (by simp) (by simp [hsz]) ((within_at hin).mono ?_)
  rintro _ _ ⟨rfl, rfl⟩
  refine ⟨_, rfl, fun _ h => h, ?_⟩
  refine AnyK.move (i := 6) may_o (v := .bool false) (by simp [hsz]) hR ?_
  refine AnyK.passG (i := 7) may_o (e := 17) (b' := false) rfl (by simp [hsz]) rfl hR ?_
  refine AnyK.passG (i := 8) may_o (e := 17) (b' := false) rfl (by simp [hsz]) rfl hR ?_
  refine AnyK.pick (i := 9) may_o (b := false) (v := .bool false) (by simp [hsz]) (by simp) hR ?_
  refine AnyK.pick1 (i := 10) (by kernel_rfl) ?_
  refine StepK.call (i := 10) (f := 53) (vs := #[.agg #[.int .i64 o, .int .i64 t, .slice A m c], .bool false]) rfl (enters_of Try.func53 (by kernel_rfl) rfl) (by simp) (by simp [hsz]) ((hc W hB).mono ?_)
  rintro _ W10 ⟨p, rfl, hx, hb10⟩
  refine ⟨_, rfl, (fun _ hw => ⟨(hb10.cell (block_lt_of_cell hw.1)).trans hw.1, (hb10.cell (block_lt_of_cell hw.2.1)).trans hw.2.1, (hb10.cell (block_lt_of_cell hw.2.2)).trans hw.2.2⟩), ?_⟩
  replace hR : (fun w : World => w.cell? ⟨b2, 0, none⟩ = some (.int .i64 o) ∧ w.cell? ⟨b2, 1, none⟩ = some (.int .i64 t) ∧ w.cell? ⟨b2, 2, none⟩ = some (.slice A m c)) W10 := ⟨(hb10.cell (block_lt_of_cell hR.1)).trans hR.1, (hb10.cell (block_lt_of_cell hR.2.1)).trans hR.2.1, (hb10.cell (block_lt_of_cell hR.2.2)).trans hR.2.2⟩
  replace hB := hB.trans (hb10.mono hB.size)
  clear hb10 W
  obtain ⟨W, rfl⟩ : ∃ W, W = W10 := ⟨_, rfl⟩
  refine AnyK.move (i := 11) may_o (v := .tuple #[p, .int .i64 E]) (by simp [hsz]) hR ?_
  refine AnyK.extract (i := 12) may_o (u := .tuple #[p, .int .i64 E]) (v := p) (by simp [hsz]) (fun w => ex0 _ _ w) hR ?_
  refine AnyK.extract (i := 13) may_o (u := .tuple #[p, .int .i64 E]) (v := .int .i64 E) (by simp [hsz]) (fun w => ex1 _ _ w) hR ?_
  refine AnyK.assign (i := 14) may_o (v := p) (by simp [hsz]) hR ?_
  refine AnyK.assign (i := 15) may_o (v := .int .i64 E) (by simp [hsz]) hR ?_
  refine AnyK.done (by kernel_rfl) (hK _ _ p hx hB ?_ ?_ ?_ ?_ ?_)
  · simp only [size_put, hsz]
  · simp only [defers_put]
  · exact (by simp [hsz])
  · exact (by simp [hsz])
  · intro e he
    iterate 16 refine (ev_ne (by omega)).trans ?_
    rfl

noncomputable def opsD1b : Array Oper := (Try.f32.body.bind (regionOf 1)).getD #[]
set_option maxHeartbeats 2000000 in
theorem regionD1b {F : Fence} {n : Nat} (hF : WideF F Try.prog) {Q : Exit → Act → World → Prop} {a : Act} {w : World} {b2 m c : Nat} {o t E : Int} {A : Option Addr} {X : Value → World → Prop} {owner day : Int} (hsz : a.tmps.size = 32)
    (t1 : a.eval (.tmp 1) = .int .i64 owner) (t2 : a.eval (.tmp 2) = .int .i64 day) (t3 : a.eval (.tmp 3) = .pointer (some ⟨b2, 0, none⟩))
    (m0 : w.cell? ⟨b2, 0, none⟩ = some (.int .i64 o)) (m1 : w.cell? ⟨b2, 1, none⟩ = some (.int .i64 t)) (m2 : w.cell? ⟨b2, 2, none⟩ = some (.slice A m c)) (hin : inR owner 0 (IntKind.i64.wrap (o - 1)) = true) (hc : ∀ W, Below w.heap.size w W → Calls Try.prog 53 #[.agg #[.int .i64 o, .int .i64 t, .slice A m c], .bool (inR day 0 100)] W fun e w' => ∃ p, e = .returned (.tuple #[p, .int .i64 E]) ∧ X p w' ∧ Below W.heap.size W w')
    (hK : ∀ a' W' p, X p W' → Below w.heap.size w W' → a'.tmps.size = 32 → a'.defers = a.defers → a'.eval (.tmp 8) = p → a'.eval (.tmp 9) = .int .i64 E → (∀ e : Nat, e < 8 ∨ 24 ≤ e → a'.eval (.tmp e) = a.eval (.tmp e)) → Q .normal a' W') :
    (Code.region 1 opsD1b true).wpIn F n Try.prog Q a w := by
  have hR : (fun w : World => w.cell? ⟨b2, 0, none⟩ = some (.int .i64 o) ∧ w.cell? ⟨b2, 1, none⟩ = some (.int .i64 t) ∧ w.cell? ⟨b2, 2, none⟩ = some (.slice A m c)) w.drew := ⟨m0, m1, m2⟩
  have hB : Below w.heap.size w w.drew := (Below.refl _ _).drew
  refine region_K (KpR (fun w => w.cell? ⟨b2, 0, none⟩ = some (.int .i64 o) ∧ w.cell? ⟨b2, 1, none⟩ = some (.int .i64 t) ∧ w.cell? ⟨b2, 2, none⟩ = some (.slice A m c)) (fun _ => false)) hF (by kernel_rfl) Try.mixed ?_
  change AnyK _ _ _ _ 16 (Array.replicate 16 false) _ _
  generalize w.drew = W at *
  refine AnyK.load (i := 0) may_o (p := ⟨b2, 0, none⟩) (v := .agg #[.int .i64 o, .int .i64 t, .slice A m c]) (by simp [t3]) (fun w hw => ld31' ⟨hw.1, hw.2.1, hw.2.2⟩) hR ?_
  refine AnyK.move (i := 1) may_o (v := .int .i64 owner) (by simp [t1]) hR ?_
  refine AnyK.field (i := 2) may_o (u := .pointer (some ⟨b2, 0, none⟩)) (v := .pointer (some ⟨b2, 0, none⟩)) (by simp [t3]) (fun w => fa31_0 w) hR ?_
  refine AnyK.load (i := 3) may_o (p := ⟨b2, 0, none⟩) (v := .int .i64 o) (by simp [hsz]) (fun w hw => ld3 hw.1) hR ?_
  refine AnyK.bin (i := 4) may_o (u := .int .i64 o) (u' := .int .i64 (1)) (v := .int .i64 (IntKind.i64.wrap (o - 1))) (by simp [hsz]) (by simp) (fun w => sub3w w) hR ?_
  refine AnyK.pick1 (i := 5) (by kernel_rfl) ?_
  refine StepK.call (i := 5) (f := 47) (vs := #[.int .i64 owner, .int .i64 (0), .int .i64 (IntKind.i64.wrap (o - 1))]) rfl (enters_of Try.func47 (by kernel_rfl) rfl) (by simp) (by simp [hsz]) ((within_at hin).mono ?_)
  rintro _ _ ⟨rfl, rfl⟩
  refine ⟨_, rfl, fun _ h => h, ?_⟩
  refine AnyK.move (i := 6) may_o (v := .bool true) (by simp [hsz]) hR ?_
  refine AnyK.move (i := 7) may_o (v := .int .i64 day) (by simp [t2]) hR (hw := (by exact wanted_g (e := 17) (b' := true) rfl (by simp [hsz]) rfl)) ?_
  refine AnyK.pick1 (i := 8) (by kernel_rfl) ?_
  refine StepK.call (i := 8) (f := 67) (vs := #[.int .i64 day]) rfl (enters_of Try.func67 (by kernel_rfl) rfl) (by simp) (by simp [hsz]) ((day_any day _).mono ?_) (hw := (by exact wanted_g (e := 17) (b' := true) rfl (by simp [hsz]) rfl))
  rintro _ _ ⟨rfl, rfl⟩
  refine ⟨_, rfl, fun _ h => h, ?_⟩
  refine AnyK.pick (i := 9) may_o (b := true) (v := .bool (inR day 0 100)) (by simp [hsz]) (by simp [hsz]) hR ?_
  refine AnyK.pick1 (i := 10) (by kernel_rfl) ?_
  refine StepK.call (i := 10) (f := 53) (vs := #[.agg #[.int .i64 o, .int .i64 t, .slice A m c], .bool (inR day 0 100)]) rfl (enters_of Try.func53 (by kernel_rfl) rfl) (by simp) (by simp [hsz]) ((hc W hB).mono ?_)
  rintro _ W10 ⟨p, rfl, hx, hb10⟩
  refine ⟨_, rfl, (fun _ hw => ⟨(hb10.cell (block_lt_of_cell hw.1)).trans hw.1, (hb10.cell (block_lt_of_cell hw.2.1)).trans hw.2.1, (hb10.cell (block_lt_of_cell hw.2.2)).trans hw.2.2⟩), ?_⟩
  replace hR : (fun w : World => w.cell? ⟨b2, 0, none⟩ = some (.int .i64 o) ∧ w.cell? ⟨b2, 1, none⟩ = some (.int .i64 t) ∧ w.cell? ⟨b2, 2, none⟩ = some (.slice A m c)) W10 := ⟨(hb10.cell (block_lt_of_cell hR.1)).trans hR.1, (hb10.cell (block_lt_of_cell hR.2.1)).trans hR.2.1, (hb10.cell (block_lt_of_cell hR.2.2)).trans hR.2.2⟩
  replace hB := hB.trans (hb10.mono hB.size)
  clear hb10 W
  obtain ⟨W, rfl⟩ : ∃ W, W = W10 := ⟨_, rfl⟩
  refine AnyK.move (i := 11) may_o (v := .tuple #[p, .int .i64 E]) (by simp [hsz]) hR ?_
  refine AnyK.extract (i := 12) may_o (u := .tuple #[p, .int .i64 E]) (v := p) (by simp [hsz]) (fun w => ex0 _ _ w) hR ?_
  refine AnyK.extract (i := 13) may_o (u := .tuple #[p, .int .i64 E]) (v := .int .i64 E) (by simp [hsz]) (fun w => ex1 _ _ w) hR ?_
  refine AnyK.assign (i := 14) may_o (v := p) (by simp [hsz]) hR ?_
  refine AnyK.assign (i := 15) may_o (v := .int .i64 E) (by simp [hsz]) hR ?_
  refine AnyK.done (by kernel_rfl) (hK _ _ p hx hB ?_ ?_ ?_ ?_ ?_)
  · simp only [size_put, hsz]
  · simp only [defers_put]
  · exact (by simp [hsz])
  · exact (by simp [hsz])
  · intro e he
    iterate 16 refine (ev_ne (by omega)).trans ?_
    rfl

noncomputable def opsE1 : Array Oper := (Try.f33.body.bind (regionOf 1)).getD #[]
set_option maxHeartbeats 2000000 in
theorem regionE1 {F : Fence} {n : Nat} (hF : WideF F Try.prog) {Q : Exit → Act → World → Prop} {a : Act} {w : World} {b2 m c : Nat} {o t E : Int} {A : Option Addr} {X : Value → World → Prop} {day : Int} (hsz : a.tmps.size = 46)
    (t1 : a.eval (.tmp 1) = .int .i64 day) (t2 : a.eval (.tmp 2) = .pointer (some ⟨b2, 0, none⟩))
    (m0 : w.cell? ⟨b2, 0, none⟩ = some (.int .i64 o)) (m1 : w.cell? ⟨b2, 1, none⟩ = some (.int .i64 t)) (m2 : w.cell? ⟨b2, 2, none⟩ = some (.slice A m c)) (hc : ∀ W, Below w.heap.size w W → Calls Try.prog 53 #[.agg #[.int .i64 o, .int .i64 t, .slice A m c], .bool (inR day 0 100)] W fun e w' => ∃ p, e = .returned (.tuple #[p, .int .i64 E]) ∧ X p w' ∧ Below W.heap.size W w')
    (hK : ∀ a' W' p, X p W' → Below w.heap.size w W' → a'.tmps.size = 46 → a'.defers = a.defers → a'.eval (.tmp 7) = p → a'.eval (.tmp 6) = .int .i64 E → (∀ e : Nat, e < 6 ∨ (7 < e ∧ e < 10) ∨ 17 ≤ e → a'.eval (.tmp e) = a.eval (.tmp e)) → Q .normal a' W') :
    (Code.region 1 opsE1 true).wpIn F n Try.prog Q a w := by
  have hR : (fun w : World => w.cell? ⟨b2, 0, none⟩ = some (.int .i64 o) ∧ w.cell? ⟨b2, 1, none⟩ = some (.int .i64 t) ∧ w.cell? ⟨b2, 2, none⟩ = some (.slice A m c)) w.drew := ⟨m0, m1, m2⟩
  have hB : Below w.heap.size w w.drew := (Below.refl _ _).drew
  refine region_K (KpR (fun w => w.cell? ⟨b2, 0, none⟩ = some (.int .i64 o) ∧ w.cell? ⟨b2, 1, none⟩ = some (.int .i64 t) ∧ w.cell? ⟨b2, 2, none⟩ = some (.slice A m c)) (fun _ => false)) hF (by kernel_rfl) Try.mixed ?_
  change AnyK _ _ _ _ 9 (Array.replicate 9 false) _ _
  generalize w.drew = W at *
  refine AnyK.load (i := 0) may_o (p := ⟨b2, 0, none⟩) (v := .agg #[.int .i64 o, .int .i64 t, .slice A m c]) (by simp [t2]) (fun w hw => ld31' ⟨hw.1, hw.2.1, hw.2.2⟩) hR ?_
  refine AnyK.move (i := 1) may_o (v := .int .i64 day) (by simp [t1]) hR ?_
  refine AnyK.pick1 (i := 2) (by kernel_rfl) ?_
  refine StepK.call (i := 2) (f := 67) (vs := #[.int .i64 day]) rfl (enters_of Try.func67 (by kernel_rfl) rfl) (by simp) (by simp [hsz]) ((day_any day _).mono ?_)
  rintro _ _ ⟨rfl, rfl⟩
  refine ⟨_, rfl, fun _ h => h, ?_⟩
  refine AnyK.pick1 (i := 3) (by kernel_rfl) ?_
  refine StepK.call (i := 3) (f := 53) (vs := #[.agg #[.int .i64 o, .int .i64 t, .slice A m c], .bool (inR day 0 100)]) rfl (enters_of Try.func53 (by kernel_rfl) rfl) (by simp) (by simp [hsz]) ((hc W hB).mono ?_)
  rintro _ W3 ⟨p, rfl, hx, hb3⟩
  refine ⟨_, rfl, (fun _ hw => ⟨(hb3.cell (block_lt_of_cell hw.1)).trans hw.1, (hb3.cell (block_lt_of_cell hw.2.1)).trans hw.2.1, (hb3.cell (block_lt_of_cell hw.2.2)).trans hw.2.2⟩), ?_⟩
  replace hR : (fun w : World => w.cell? ⟨b2, 0, none⟩ = some (.int .i64 o) ∧ w.cell? ⟨b2, 1, none⟩ = some (.int .i64 t) ∧ w.cell? ⟨b2, 2, none⟩ = some (.slice A m c)) W3 := ⟨(hb3.cell (block_lt_of_cell hR.1)).trans hR.1, (hb3.cell (block_lt_of_cell hR.2.1)).trans hR.2.1, (hb3.cell (block_lt_of_cell hR.2.2)).trans hR.2.2⟩
  replace hB := hB.trans (hb3.mono hB.size)
  clear hb3 W
  obtain ⟨W, rfl⟩ : ∃ W, W = W3 := ⟨_, rfl⟩
  refine AnyK.move (i := 4) may_o (v := .tuple #[p, .int .i64 E]) (by simp [hsz]) hR ?_
  refine AnyK.extract (i := 5) may_o (u := .tuple #[p, .int .i64 E]) (v := p) (by simp [hsz]) (fun w => ex0 _ _ w) hR ?_
  refine AnyK.extract (i := 6) may_o (u := .tuple #[p, .int .i64 E]) (v := .int .i64 E) (by simp [hsz]) (fun w => ex1 _ _ w) hR ?_
  refine AnyK.assign (i := 7) may_o (v := p) (by simp [hsz]) hR ?_
  refine AnyK.assign (i := 8) may_o (v := .int .i64 E) (by simp [hsz]) hR ?_
  refine AnyK.done (by kernel_rfl) (hK _ _ p hx hB ?_ ?_ ?_ ?_ ?_)
  · simp only [size_put, hsz]
  · simp only [defers_put]
  · exact (by simp [hsz])
  · exact (by simp [hsz])
  · intro e he
    iterate 9 refine (ev_ne (by omega)).trans ?_
    rfl
end Go.Proofs.Ytfcnombmphophaa
namespace Go.Proofs.Ytfcnombmphophaa
open Go.RowKit Go.Shelf

/-- What tried hands back beside the error. -/
def Tr (o t : Int) (A : Option Addr) (l : List Sale) (c : Nat) (right : Bool) (p : Value) (W : World) : Prop :=
  triedE o t l right = 0 → ∃ B kb ge gl ce cl, p = .pointer (some ⟨kb, 0, none⟩) ∧ BookAt W B kb ge gl ce cl o t A l c
theorem triedE_zero {o t : Int} {l : List Sale} {right : Bool} (h : triedE o t l right = 0) : fault o t l = 0 ∧ right = true ∧ fitsB t l = true := by
  unfold triedE at h
  split at h
  · omega
  · split at h
    · omega
    · split at h
      · omega
      · rename_i h1 h2 h3
        exact ⟨by omega, by simpa using h2, by simpa using h3⟩
theorem tried_gen {o t : Int} {A : Option Addr} {l : List Sale} {c : Nat} (right : Bool) {w : World} (hl : l.length ≤ 1000000) (hs : SalesAt w w.heap.size A l) :
    Calls Try.prog 53 #[.agg #[.int .i64 o, .int .i64 t, .slice A l.length c], .bool right] w
      fun e w' => ∃ p, e = .returned (.tuple #[p, .int .i64 (triedE o t l right)]) ∧ Tr o t A l c right p w' ∧ Below w.heap.size w w' := by
  by_cases h : triedE o t l right = 0
  · obtain ⟨h0, rfl, hf⟩ := triedE_zero h
    refine (tried_ok o t A l c w hs h0 hf).mono ?_
    rintro e w' ⟨B, kb, ge, gl, ce, cl, rfl, hb, hbl⟩
    exact ⟨_, by rw [h], fun _ => ⟨B, kb, ge, gl, ce, cl, rfl, hb⟩, hbl⟩
  · refine (tried_err o t A l c right w hl hs h).mono ?_
    rintro e w' ⟨rfl, hbl⟩
    exact ⟨_, rfl, fun h' => absurd h' h, hbl⟩

/-- On which days a sale can be, by the sets below k. -/
def whenTo (t : Int) (l : List Sale) (k : Nat) : Nat → Int × Int
  | 0 => (101, -1)
  | d + 1 => if spanIs t l d k = true then (min (whenTo t l k d).1 (spanR t l d k).1, max (whenTo t l k d).2 (spanR t l d k).2) else whenTo t l k d
def whenR (t : Int) (l : List Sale) (k : Nat) : Int × Int := whenTo t l k (2 ^ l.length)
def whenE (o t : Int) (l : List Sale) (sale : Int) : Int := triedE o t l (inR sale 0 ((l.length : Int) - 1))
def whenV (o t : Int) (l : List Sale) (sale : Int) : Int × Int := if whenE o t l sale = 0 then whenR t l sale.toNat else (0, 0)

noncomputable def opsW0 : Array Oper := (Try.f29.body.bind (regionOf 0)).getD #[]
noncomputable def opsW2 : Array Oper := (Try.f29.body.bind (regionOf 2)).getD #[]
noncomputable def opsW3 : Array Oper := (Try.f29.body.bind (regionOf 3)).getD #[]
noncomputable def opsW4 : Array Oper := (Try.f29.body.bind (regionOf 4)).getD #[]
noncomputable def opsW5 : Array Oper := (Try.f29.body.bind (regionOf 5)).getD #[]
noncomputable def opsW6 : Array Oper := (Try.f29.body.bind (regionOf 6)).getD #[]
noncomputable def opsW7 : Array Oper := (Try.f29.body.bind (regionOf 7)).getD #[]
noncomputable def opsW8 : Array Oper := (Try.f29.body.bind (regionOf 8)).getD #[]
noncomputable def opsW9 : Array Oper := (Try.f29.body.bind (regionOf 9)).getD #[]
noncomputable def opsW11 : Array Oper := (Try.f29.body.bind (regionOf 11)).getD #[]
noncomputable def opsW12 : Array Oper := (Try.f29.body.bind (regionOf 12)).getD #[]
noncomputable def roundW : Code := .seq (.region 6 opsW6 false) (.seq (.cond (.tmp 32) .skip (.exit 0)) (.seq (.block 1 (.seq (.region 7 opsW7 false) (.seq (.region 8 opsW8 false) (.seq (.region 9 opsW9 false) (.cond (.tmp 41) (.region 10 opsW10 true) .skip))))) (.region 11 opsW11 false)))
noncomputable def lastW : Code := .seq (.region 12 opsW12 false) .ret
noncomputable def code29 : Code := .seq (.region 0 opsW0 false) (.seq (.region 1 opsW1 true) (.seq (.seq (.region 2 opsW2 false) (.cond (.tmp 24) (.seq (.region 3 opsW3 false) .ret) .skip)) (.seq (.region 4 opsW4 false) (.seq (.seq (.region 5 opsW5 false) (.block 0 (.loop roundW))) lastW))))
theorem body29 : Try.f29.body = some code29 := by kernel_rfl

theorem neq27 {x y : Operand} {m n : Int} (w : World) : (do eqGuard .neq 27 x y (.int .i64 m) (.int .i64 n); binOp .neq 27 (.int .i64 m) (.int .i64 n) : Sem Value).run Try.prog w = .ok (.bool (m != n)) w := by
  go_simp
theorem ListK.extract {P : Program} {ops : Array Oper} {K : Act → World → Prop} {k i d : Nat} {a : Act} {w : World} {ty : TypeId} {pos : String} {aft : Array Edge} {v : Value} {x : Operand} {m : Nat} {u : Value} (hi : ops[i]? = some ⟨some d, .extract x m, ty, pos, aft, none⟩) (hx : a.eval x = u) (hv : (Instr.extract u m).run P w = .ok v w)
    (h : ListK P ops K k (i + 1) (a.put (some d) v) w) : ListK P ops K (k + 1) i a w := ListK.val hi rfl (by simp [execOp, hx, hv]) h

/-- The post of When. -/
abbrev WP (W : World) (o t : Int) (l : List Sale) (sale : Int) : Ending → World → Prop := fun e w' => e = .returned (.tuple #[.agg #[.int .i64 (whenV o t l sale).1, .int .i64 (whenV o t l sale).2], .int .i64 (whenE o t l sale)]) ∧ Below W.heap.size W w'

/-- The frame of When in its loop. -/
structure FrW (a : Act) (kb k r bo N d : Nat) : Prop where
  sz : a.tmps.size = 57
  df : a.defers = []
  t1 : a.eval (.tmp 1) = .int .i64 k
  t4 : a.eval (.tmp 4) = .pointer (some ⟨r, 0, none⟩)
  t6 : a.eval (.tmp 6) = .pointer (some ⟨kb, 0, none⟩)
  t8 : a.eval (.tmp 8) = .pointer (some ⟨bo, 0, none⟩)
  t30 : a.eval (.tmp 30) = .int .i64 N
  t31 : a.eval (.tmp 31) = .int .i64 d
theorem FrW.of {a a' : Act} {kb k r bo N d : Nat} (f : FrW a kb k r bo N d) (h1 : a'.tmps.size = 57) (h2 : a'.defers = a.defers) (h3 : ∀ e : Nat, (e = 1 ∨ e = 4 ∨ e = 6 ∨ e = 8 ∨ e = 30 ∨ e = 31) → a'.eval (.tmp e) = a.eval (.tmp e)) : FrW a' kb k r bo N d :=
  ⟨h1, h2.trans f.df, (h3 1 (by omega)).trans f.t1, (h3 4 (by omega)).trans f.t4, (h3 6 (by omega)).trans f.t6, (h3 8 (by omega)).trans f.t8, (h3 30 (by omega)).trans f.t30, (h3 31 (by omega)).trans f.t31⟩

set_option maxHeartbeats 1000000 in
theorem when_loop {Q : Exit → Act → World → Prop} {a : Act} {W0 W : World} {B kb ge gl ce cl k r bo N : Nat} {o t : Int} {A : Option Addr} {l : List Sale} {c : Nat} (hv : Valid o t l) (hb : BookAt W0 B kb ge gl ce cl o t A l c) (hk : k < l.length) (hN : N = 2 ^ l.length) (fr : FrW a kb k r bo N 0)
    (hr : Two W r 0 0) (hq : Two W bo 101 (-1)) (hne : r < bo) (hbl : Below W0.heap.size W0 W) (h0 : W0.heap.size ≤ bo)
    (hQ : ∀ a' W', FrW a' kb k r bo N N → Two W' r 0 0 → Two W' bo (whenR t l k).1 (whenR t l k).2 → Below W0.heap.size W0 W' → Q .normal a' W') :
    (Code.block 0 (.loop roundW)).wpIn Fence.wide 5 Try.prog Q a W := by
  have hp8 : N ≤ 256 := by rw [hN]; exact pow_le hv.len
  refine wpIn_block (wpIn_loop (fun a W => ∃ d : Nat, d ≤ N ∧ FrW a kb k r bo N d ∧ Two W r 0 0 ∧ Two W bo (whenTo t l k d).1 (whenTo t l k d).2 ∧ Below W0.heap.size W0 W) (fun a _ => N - (intOf (a.eval (.tmp 31))).toNat) ⟨0, Nat.zero_le _, fr, hr, hq, hbl⟩ ?_)
  clear fr hr hq hbl a W
  rintro a W ⟨d, hdN, fr, hr, hq, hbl⟩
  refine wpIn_seq (region_p 1 ?_)
  intro K hK
  refine ListK.bin (i := 0) (u := .int .i64 d) (u' := .int .i64 N) rfl fr.t31 fr.t30 (lss94 _) ?_
  refine ListK.done (hK _ _ ?_)
  clear hK K
  have hsz := fr.sz
  by_cases hlt : d < N
  · refine wpIn_seq (wpIn_cond (t := true) (by simp [hsz]; omega) (wpIn_skip ?_))
    have hend : ∀ (a' : Act) (W' : World), FrW a' kb k r bo N d → Two W' r 0 0 → Two W' bo (whenTo t l k (d + 1)).1 (whenTo t l k (d + 1)).2 → Below W0.heap.size W0 W' →
        (Code.region 11 opsW11 false).wpIn Fence.wide 5 Try.prog (Exit.then (fun a' W' => (∃ d : Nat, d ≤ N ∧ FrW a' kb k r bo N d ∧ Two W' r 0 0 ∧ Two W' bo (whenTo t l k d).1 (whenTo t l k d).2 ∧ Below W0.heap.size W0 W') ∧ N - (intOf (a'.eval (.tmp 31))).toNat < N - (intOf (a.eval (.tmp 31))).toNat) (Exit.inBlock 0 Q)) a' W' := by
      intro a' W' f h1 h2 h4
      have hz := f.sz
      have hmu : ∀ b : Act, b.eval (.tmp 31) = .int .i64 ((d + 1 : Nat) : Int) → N - (intOf (b.eval (.tmp 31))).toNat < N - (intOf (a.eval (.tmp 31))).toNat := by
        intro b e
        rw [e, fr.t31]
        simp only [intOf]
        omega
      refine region_p 2 ?_
      intro K hK
      refine ListK.bin (i := 0) (u := .int .i64 d) (u' := .int .i64 1) rfl f.t31 rfl (add94 (by omega) (by omega) _) ?_
      refine ListK.move (i := 1) (v := .int .i64 ((d + 1 : Nat) : Int)) rfl (by simp [hz]) ?_
      exact ListK.done (hK _ _ ⟨⟨d + 1, by omega, ⟨by simp only [size_put, hz], by simp only [defers_put, f.df], (by simp [f.t1]), (by simp [f.t4]), (by simp [f.t6]), (by simp [f.t8]), (by simp [f.t30]), (by simp [hz])⟩, h1, h2, h4⟩, hmu _ (by simp [hz])⟩)
    have hdl : d < 2 ^ l.length := by rw [← hN]; exact hlt
    have hb2 := hb.keep hbl
    refine wpIn_seq (wpIn_block (wpIn_seq (region_p 2 ?_)))
    intro K hK
    refine ListK.move (i := 0) (v := .int .i64 d) rfl (by simp [fr.t31]) ?_
    refine ListK.assign (i := 1) (v := .int .i64 d) rfl (by simp [hsz]) ?_
    refine ListK.done (hK _ _ ?_)
    clear hK K
    refine wpIn_seq (region_p 10 ?_)
    intro K hK
    refine ListK.move (i := 0) (v := .pointer (some ⟨kb, 0, none⟩)) rfl (by simp [fr.t6]) ?_
    refine ListK.move (i := 1) (v := .int .i64 d) rfl (by simp [hsz]) ?_
    refine ListK.move (i := 2) (v := .int .i64 k) rfl (by simp [fr.t1]) ?_
    refine ListK.call (i := 3) (vs := #[.pointer (some ⟨kb, 0, none⟩), .int .i64 d, .int .i64 k]) rfl (enters_of Try.func64 (by kernel_rfl) rfl) (by simp [hsz]) ((span_any W B kb ge gl ce cl o t A l c d k hv hdl hk hb2).mono ?_)
    rintro _ W1 ⟨rfl, hb1⟩
    refine ⟨_, rfl, ?_⟩
    refine ListK.move (i := 4) (v := .tuple #[.agg #[.int .i64 (spanR t l d k).1, .int .i64 (spanR t l d k).2], .bool (spanIs t l d k)]) rfl (by simp [hsz]) ?_
    refine ListK.extract (i := 5) (u := .tuple #[.agg #[.int .i64 (spanR t l d k).1, .int .i64 (spanR t l d k).2], .bool (spanIs t l d k)]) (v := .agg #[.int .i64 (spanR t l d k).1, .int .i64 (spanR t l d k).2]) rfl (by simp [hsz]) (ex0 _ _ _) ?_
    refine ListK.extract (i := 6) (u := .tuple #[.agg #[.int .i64 (spanR t l d k).1, .int .i64 (spanR t l d k).2], .bool (spanIs t l d k)]) (v := .bool (spanIs t l d k)) rfl (by simp [hsz]) (ex1 _ _ _) ?_
    refine ListK.alloc (i := 7) rfl (al46 W1) ?_
    have tw := Two.new W1 0 0
    refine ListK.store (i := 8) (u := .pointer (some ⟨W1.heap.size, 0, none⟩)) (u' := .agg #[.int .i64 (spanR t l d k).1, .int .i64 (spanR t l d k).2]) rfl (by simp [hsz]) (by simp [hsz]) (st46 tw.c0 tw.c1 tw.f0 tw.f1) ?_
    refine ListK.assign (i := 9) (v := .bool (spanIs t l d k)) rfl (by simp [hsz]) ?_
    refine ListK.done (hK _ _ ?_)
    clear hK K
    rw [← show put2 (W1.alloc (.cells #[.int .i64 0, .int .i64 0] 46)) W1.heap.size (spanR t l d k).1 (spanR t l d k).2 = ((W1.alloc (.cells #[.int .i64 0, .int .i64 0] 46)).setCell ⟨W1.heap.size, 0, none⟩ (.int .i64 (spanR t l d k).1)).setCell ⟨W1.heap.size, 1, none⟩ (.int .i64 (spanR t l d k).2) from rfl]
    have tw2 := tw.put (spanR t l d k).1 (spanR t l d k).2
    have hbl2 : Below W1.heap.size W1 (put2 (W1.alloc (.cells #[.int .i64 0, .int .i64 0] 46)) W1.heap.size (spanR t l d k).1 (spanR t l d k).2) := below_put2 ((Below.refl _ W1).alloc (Nat.le_refl _) _) (Nat.le_refl _) _ _
    have hr2 := (hr.below hb1).below hbl2
    have hq2 := (hq.below hb1).below hbl2
    have hB2 : Below W0.heap.size W0 (put2 (W1.alloc (.cells #[.int .i64 0, .int .i64 0] 46)) W1.heap.size (spanR t l d k).1 (spanR t l d k).2) := by
      have h1 : Below W0.heap.size W0 W1 := hbl.trans (hb1.mono hbl.size)
      exact h1.trans (hbl2.mono h1.size)
    generalize put2 (W1.alloc (.cells #[.int .i64 0, .int .i64 0] 46)) W1.heap.size (spanR t l d k).1 (spanR t l d k).2 = W2 at *
    generalize W1.heap.size = br at *
    refine wpIn_seq (region_p 1 ?_)
    intro K hK
    refine ListK.move (i := 0) (v := .bool (spanIs t l d k)) rfl (by simp [hsz]) ?_
    refine ListK.done (hK _ _ ?_)
    clear hK K
    cases hsp : spanIs t l d k with
    | false =>
      refine wpIn_cond (t := false) (by simp [hsz]) (wpIn_skip ?_)
      have hst : whenTo t l k (d + 1) = whenTo t l k d := by simp [whenTo, hsp]
      refine hend _ _ (fr.of (by simp only [size_put, hsz]) (by simp only [defers_put]) ?_) hr2 (by rw [hst]; exact hq2) hB2
      rintro e (rfl | rfl | rfl | rfl | rfl | rfl) <;> simp
    | true =>
      refine wpIn_cond (t := true) (by simp [hsz]) ?_
      have hst : whenTo t l k (d + 1) = (min (whenTo t l k d).1 (spanR t l d k).1, max (whenTo t l k d).2 (spanR t l d k).2) := by simp [whenTo, hsp]
      refine regionW10 (bo := bo) (br := br) (x := (spanR t l d k).1) (y := (spanR t l d k).2) (wideF_plain _) (by simp only [size_put, hsz]) (by simp [fr.t8]) (by simp [hsz]) hq2.c0 hq2.c1 tw2.c0 tw2.c1 hq2.f0 hq2.f1 ?_
      intro a4 W4 hb4 hz4 hd4 he4
      have hr4 := hr2.below hb4
      have hq4 := hq2.below hb4
      refine hend _ _ (fr.of hz4 (by rw [hd4]; simp only [defers_put]) ?_) (hr4.far (by omega) _ _) (by rw [hst]; exact hq4.put _ _) (below_put2 (hB2.trans (hb4.mono hB2.size)) h0 _ _)
      intro e he
      rw [he4 e (by omega)]
      rcases he with rfl | rfl | rfl | rfl | rfl | rfl <;> simp
  · obtain rfl : d = N := by omega
    refine wpIn_seq (wpIn_cond (t := false) (by simp [hsz]) (wpIn_exit ?_))
    refine hQ _ _ (fr.of (by simp only [size_put, hsz]) (by simp only [defers_put]) ?_) hr (by rw [whenR, ← hN]; exact hq) hbl
    rintro e (rfl | rfl | rfl | rfl | rfl | rfl) <;> simp

set_option maxHeartbeats 1000000 in
theorem when_any (o t : Int) (A : Option Addr) (l : List Sale) (c : Nat) (sale : Int) (W : World) (hl : l.length ≤ 1000000) (hs : SalesAt W W.heap.size A l) :
    Calls Try.prog 29 #[.agg #[.int .i64 o, .int .i64 t, .slice A l.length c], .int .i64 sale] W (WP W o t l sale) := by
  refine (callsIn_wide (n := 5)).1 (callsIn_of_wp Try.func29 body29 trivial ?_ rfl)
  obtain ⟨a, ha⟩ : ∃ a : Act, a = { tmps := #[.agg #[.int .i64 o, .int .i64 t, .slice A l.length c], .int .i64 sale] ++ Array.replicate (Try.f29.ntmps - (#[.agg #[.int .i64 o, .int .i64 t, .slice A l.length c], .int .i64 sale] : Array Value).size) undef, defers := [] } := ⟨_, rfl⟩
  have hsz : a.tmps.size = 57 := by rw [ha]; simp [Try.ntmps29]
  have t0 : a.eval (.tmp 0) = .agg #[.int .i64 o, .int .i64 t, .slice A l.length c] := by rw [ha]; simp [Act.eval]
  have t1 : a.eval (.tmp 1) = .int .i64 sale := by rw [ha]; simp [Act.eval]
  have hdf : a.defers = [] := by rw [ha]
  rw [← ha]
  clear ha
  unfold code29
  refine wpIn_seq (region_p 3 ?_)
  intro K hK
  refine ListK.box (i := 0) (u := .agg #[.int .i64 o, .int .i64 t, .slice A l.length c]) rfl t0 (bx31 W _ _ _ _ _) ?_
  refine ListK.alloc (i := 1) rfl (al46 _) ?_
  refine ListK.assign (i := 2) (v := .int .i64 0) rfl rfl ?_
  refine ListK.done (hK _ _ ?_)
  clear hK K
  have wb := (Whole.new W 31 #[.int .i64 o, .int .i64 t, .slice A l.length c]).alloc (.cells #[.int .i64 0, .int .i64 0] 46)
  have hr := Two.new (W.alloc (.cells #[.int .i64 o, .int .i64 t, .slice A l.length c] 31)) 0 0
  have hB1 : Below W.heap.size W ((W.alloc (.cells #[.int .i64 o, .int .i64 t, .slice A l.length c] 31)).alloc (.cells #[.int .i64 0, .int .i64 0] 46)) := ((Below.refl _ W).alloc (Nat.le_refl _) _).alloc (by simp) _
  rw [World.size_alloc] at hr ⊢
  generalize (W.alloc (.cells #[.int .i64 o, .int .i64 t, .slice A l.length c] 31)).alloc (.cells #[.int .i64 0, .int .i64 0] 46) = W1 at *
  generalize hA1 : Act.put _ _ _ = a1
  have hz1 : a1.tmps.size = 57 := by rw [← hA1]; simp only [size_put, hsz]
  have u1 : a1.eval (.tmp 1) = .int .i64 sale := by rw [← hA1]; exact (by simp [t1])
  have u2 : a1.eval (.tmp 2) = .pointer (some ⟨W.heap.size, 0, none⟩) := by rw [← hA1]; exact (by simp [hsz])
  have u4 : a1.eval (.tmp 4) = .pointer (some ⟨W.heap.size + 1, 0, none⟩) := by rw [← hA1]; exact (by simp [hsz])
  have hd1 : a1.defers = [] := by rw [← hA1]; simp only [defers_put, hdf]
  clear hA1
  refine wpIn_seq (regionW1 (b2 := W.heap.size) (m := l.length) (E := whenE o t l sale) (X := Tr o t A l c (inR sale 0 ((l.length : Int) - 1))) (wideF_plain _) hz1 u1 u2 (wb.cell 0) (wb.cell 1) (wb.cell 2) hl ?_ ?_)
  · intro W' hW'
    exact tried_gen _ hl ((hs.below (hB1.trans (hW'.mono hB1.size)) (Nat.le_refl _)).more (Nat.le_trans hB1.size hW'.size))
  intro a2 W2 p hX hbl2 hz2 hd2 v6 v7 he2
  have v4 := (he2 4 (by omega)).trans u4
  have v1 := (he2 1 (by omega)).trans u1
  have hr2 := hr.below hbl2
  have hB2 : Below W.heap.size W W2 := hB1.trans (hbl2.mono hB1.size)
  refine wpIn_seq (wpIn_seq (region_p 2 ?_))
  intro K hK
  refine ListK.move (i := 0) (v := .int .i64 (whenE o t l sale)) rfl v7 ?_
  refine ListK.bin (i := 1) (u := .int .i64 (whenE o t l sale)) (u' := .int .i64 0) rfl (by simp [hz2]) rfl (neq27 _) ?_
  refine ListK.done (hK _ _ ?_)
  clear hK K
  by_cases hE : whenE o t l sale = 0
  · refine wpIn_cond (t := false) (by simp [hz2, hE]) (wpIn_skip ?_)
    obtain ⟨h0, hin, hf⟩ := triedE_zero hE
    have hv := valid_of_fault h0
    obtain ⟨B, kb, ge, gl, ce, cl, rfl, hb⟩ := hX hE
    rw [inR_iff] at hin
    obtain ⟨k, rfl⟩ : ∃ k : Nat, sale = k := ⟨sale.toNat, by omega⟩
    have hk : k < l.length := by omega
    refine wpIn_seq (region_p 3 ?_)
    intro K hK
    refine ListK.bld (i := 0) (ps := #[(0, .int .i64 101), (1, .int .i64 (-1))]) (v := .agg #[.int .i64 101, .int .i64 (-1)]) rfl (by simp) (bd46 _ _ _) ?_
    refine ListK.alloc (i := 1) rfl (al46 W2) ?_
    have hq0 := Two.new W2 0 0
    refine ListK.store (i := 2) (u := .pointer (some ⟨W2.heap.size, 0, none⟩)) (u' := .agg #[.int .i64 101, .int .i64 (-1)]) rfl (by simp [hz2]) (by simp [hz2]) (st46 hq0.c0 hq0.c1 hq0.f0 hq0.f1) ?_
    refine ListK.done (hK _ _ ?_)
    clear hK K
    rw [← show put2 (W2.alloc (.cells #[.int .i64 0, .int .i64 0] 46)) W2.heap.size 101 (-1) = ((W2.alloc (.cells #[.int .i64 0, .int .i64 0] 46)).setCell ⟨W2.heap.size, 0, none⟩ (.int .i64 101)).setCell ⟨W2.heap.size, 1, none⟩ (.int .i64 (-1)) from rfl]
    have hq := hq0.put 101 (-1)
    have hbl3 : Below W2.heap.size W2 (put2 (W2.alloc (.cells #[.int .i64 0, .int .i64 0] 46)) W2.heap.size 101 (-1)) := below_put2 ((Below.refl _ W2).alloc (Nat.le_refl _) _) (Nat.le_refl _) _ _
    have hr3 := hr2.below hbl3
    have hrlt := hr2.lt
    have hb3 := hb.keep hbl3
    have hB3 : Below W.heap.size W _ := hB2.trans (hbl3.mono hB2.size)
    generalize put2 (W2.alloc (.cells #[.int .i64 0, .int .i64 0] 46)) W2.heap.size 101 (-1) = W3 at *
    obtain ⟨bo, hbo⟩ : ∃ bo, bo = W2.heap.size := ⟨_, rfl⟩
    rw [← hbo] at hq hrlt ⊢
    obtain ⟨N, hN⟩ : ∃ N, N = 2 ^ l.length := ⟨_, rfl⟩
    have hp8 : N ≤ 256 := by rw [hN]; exact pow_le hv.len
    have hp1 : 1 ≤ N := by rw [hN]; exact pow_pos' _
    refine wpIn_seq (wpIn_seq (region_p 4 ?_))
    intro K hK
    refine ListK.move (i := 0) (v := .pointer (some ⟨kb, 0, none⟩)) rfl (by simp [v6]) ?_
    refine ListK.call (i := 1) (vs := #[.pointer (some ⟨kb, 0, none⟩)]) rfl (enters_of Try.func55 (by kernel_rfl) rfl) (by simp [hz2]) ((whole_nat (N := N) hv.len hN hb3.ba).mono ?_)
    rintro _ _ ⟨rfl, rfl⟩
    refine ⟨_, rfl, ?_⟩
    refine ListK.bin (i := 2) (u := .int .i64 ((N - 1 : Nat) : Int)) (u' := .int .i64 1) rfl (by simp [hz2]) rfl (add94 (by omega) (by omega) _) ?_
    refine ListK.move (i := 3) (v := .int .i64 0) rfl rfl ?_
    refine ListK.done (hK _ _ ?_)
    clear hK K
    rw [show ((N - 1 : Nat) : Int) + 1 = (N : Int) by omega]
    refine when_loop (W0 := W2) (r := W.heap.size + 1) (bo := bo) hv hb hk hN ⟨by simp only [size_put, hz2], by simp only [defers_put, hd2, hd1], (by simp [v1]), (by simp [v4]), (by simp [v6]), (by simp [hz2]), (by simp [hz2]), (by simp [hz2])⟩ hr3 hq hrlt hbl3 (by omega) ?_
    intro a4 W4 fr hr4 hq4 hbl4
    have hz4 := fr.sz
    have hWV : whenV o t l k = whenR t l k := by simp [whenV, hE]
    unfold lastW
    refine wpIn_seq (region_p 3 ?_)
    intro K hK
    refine ListK.load (i := 0) (p := ⟨bo, 0, none⟩) (v := .agg #[.int .i64 (whenR t l k).1, .int .i64 (whenR t l k).2]) rfl fr.t8 (ld46 ⟨hq4.c0, hq4.c1⟩) ?_
    refine ListK.store (i := 1) (u := .pointer (some ⟨W.heap.size + 1, 0, none⟩)) (u' := .agg #[.int .i64 (whenR t l k).1, .int .i64 (whenR t l k).2]) rfl (by simp [fr.t4]) (by simp [hz4]) (st46 hr4.c0 hr4.c1 hr4.f0 hr4.f1) ?_
    refine ListK.assign (i := 2) (v := .int .i64 0) rfl rfl ?_
    have hr5 := hr4.put (whenR t l k).1 (whenR t l k).2
    refine ListK.done (hK _ _ (wpIn_ret ?_))
    show bodyPost Try.prog Try.f29 (WP W o t l k) Exit.ret _ (put2 W4 (W.heap.size + 1) (whenR t l k).1 (whenR t l k).2)
    have hB4 : Below W.heap.size W W4 := hB2.trans (hbl4.mono hB2.size)
    refine bodyPost_ret (res46b (b := W.heap.size + 1) (z := .int .i64 0) Try.results29 (by simp [fr.t4]) (by simp [hz4]) ⟨hr5.c0, hr5.c1⟩) (by simp only [defers_put, fr.df]) ⟨?_, below_put2 hB4 (by omega) _ _⟩
    rw [hWV, hE]
  · refine wpIn_cond (t := true) (by simp [hz2, hE]) ?_
    have hWV : whenV o t l sale = (0, 0) := by simp [whenV, hE]
    refine wpIn_seq (region_p 4 ?_)
    intro K hK
    refine ListK.bld (i := 0) (ps := #[]) (v := .agg #[.int .i64 0, .int .i64 0]) rfl (by simp) (bd46_0 _) ?_
    refine ListK.move (i := 1) (v := .int .i64 (whenE o t l sale)) rfl (by simp [v7]) ?_
    refine ListK.store (i := 2) (u := .pointer (some ⟨W.heap.size + 1, 0, none⟩)) (u' := .agg #[.int .i64 0, .int .i64 0]) rfl (by simp [v4]) (by simp [hz2]) (st46 hr2.c0 hr2.c1 hr2.f0 hr2.f1) ?_
    refine ListK.assign (i := 3) (v := .int .i64 (whenE o t l sale)) rfl (by simp [hz2]) ?_
    have hr3 := hr2.put 0 0
    refine ListK.done (hK _ _ (wpIn_ret ?_))
    show bodyPost Try.prog Try.f29 (WP W o t l sale) Exit.ret _ (put2 W2 (W.heap.size + 1) 0 0)
    refine bodyPost_ret (res46b (b := W.heap.size + 1) (z := .int .i64 (whenE o t l sale)) Try.results29 (by simp [v4]) (by simp [hz2]) ⟨hr3.c0, hr3.c1⟩) (by simp only [defers_put, hd2, hd1]) ⟨?_, below_put2 hB2 (by omega) _ _⟩
    rw [hWV]
end Go.Proofs.Ytfcnombmphophaa
namespace Go.Proofs.Ytfcnombmphophaa
open Go.RowKit Go.Shelf

/-- Are an owner and a day right? -/
def holdsOk (o : Int) (owner day : Int) : Bool := inR owner 0 (IntKind.i64.wrap (o - 1)) && inR day 0 100
def holdsE (o t : Int) (l : List Sale) (owner day : Int) : Int := triedE o t l (holdsOk o owner day)
def holdsV (o t : Int) (l : List Sale) (owner day : Int) : Int × Int := if holdsE o t l owner day = 0 then holdsR t l owner.toNat day else (0, 0)

noncomputable def opsD0 : Array Oper := (Try.f32.body.bind (regionOf 0)).getD #[]
noncomputable def opsD2 : Array Oper := (Try.f32.body.bind (regionOf 2)).getD #[]
noncomputable def opsD3 : Array Oper := (Try.f32.body.bind (regionOf 3)).getD #[]
noncomputable def opsD4 : Array Oper := (Try.f32.body.bind (regionOf 4)).getD #[]
noncomputable def restD : Code := .seq (.seq (.region 2 opsD2 false) (.cond (.tmp 25) (.seq (.region 3 opsD3 false) .ret) .skip)) (.seq (.region 4 opsD4 false) .ret)
noncomputable def code32 : Code := .seq (.region 0 opsD0 false) (.seq (.region 1 opsD1a true) restD)
theorem body32 : Try.f32.body = some code32 := by kernel_rfl

abbrev DP (W : World) (o t : Int) (l : List Sale) (owner day : Int) : Ending → World → Prop := fun e w' => e = .returned (.tuple #[.agg #[.int .i64 (holdsV o t l owner day).1, .int .i64 (holdsV o t l owner day).2], .int .i64 (holdsE o t l owner day)]) ∧ Below W.heap.size W w'

set_option maxHeartbeats 1000000 in
theorem holds_api (o t : Int) (A : Option Addr) (l : List Sale) (c : Nat) (owner day : Int) (W : World) (hl : l.length ≤ 1000000) (hs : SalesAt W W.heap.size A l) :
    Calls Try.prog 32 #[.agg #[.int .i64 o, .int .i64 t, .slice A l.length c], .int .i64 owner, .int .i64 day] W (DP W o t l owner day) := by
  refine (callsIn_wide (n := 5)).1 (callsIn_of_wp Try.func32 body32 trivial ?_ rfl)
  obtain ⟨a, ha⟩ : ∃ a : Act, a = { tmps := #[.agg #[.int .i64 o, .int .i64 t, .slice A l.length c], .int .i64 owner, .int .i64 day] ++ Array.replicate (Try.f32.ntmps - (#[.agg #[.int .i64 o, .int .i64 t, .slice A l.length c], .int .i64 owner, .int .i64 day] : Array Value).size) undef, defers := [] } := ⟨_, rfl⟩
  have hsz : a.tmps.size = 32 := by rw [ha]; simp [Try.ntmps32]
  have t0 : a.eval (.tmp 0) = .agg #[.int .i64 o, .int .i64 t, .slice A l.length c] := by rw [ha]; simp [Act.eval]
  have t1 : a.eval (.tmp 1) = .int .i64 owner := by rw [ha]; simp [Act.eval]
  have t2 : a.eval (.tmp 2) = .int .i64 day := by rw [ha]; simp [Act.eval]
  have hdf : a.defers = [] := by rw [ha]
  rw [← ha]
  clear ha
  unfold code32
  refine wpIn_seq (region_p 3 ?_)
  intro K hK
  refine ListK.box (i := 0) (u := .agg #[.int .i64 o, .int .i64 t, .slice A l.length c]) rfl t0 (bx31 W _ _ _ _ _) ?_
  refine ListK.alloc (i := 1) rfl (al46 _) ?_
  refine ListK.assign (i := 2) (v := .int .i64 0) rfl rfl ?_
  refine ListK.done (hK _ _ ?_)
  clear hK K
  have wb := (Whole.new W 31 #[.int .i64 o, .int .i64 t, .slice A l.length c]).alloc (.cells #[.int .i64 0, .int .i64 0] 46)
  have hr := Two.new (W.alloc (.cells #[.int .i64 o, .int .i64 t, .slice A l.length c] 31)) 0 0
  have hB1 : Below W.heap.size W ((W.alloc (.cells #[.int .i64 o, .int .i64 t, .slice A l.length c] 31)).alloc (.cells #[.int .i64 0, .int .i64 0] 46)) := ((Below.refl _ W).alloc (Nat.le_refl _) _).alloc (by simp) _
  rw [World.size_alloc] at hr ⊢
  generalize (W.alloc (.cells #[.int .i64 o, .int .i64 t, .slice A l.length c] 31)).alloc (.cells #[.int .i64 0, .int .i64 0] 46) = W1 at *
  generalize hA1 : Act.put _ _ _ = a1
  have hz1 : a1.tmps.size = 32 := by rw [← hA1]; simp only [size_put, hsz]
  have u1 : a1.eval (.tmp 1) = .int .i64 owner := by rw [← hA1]; exact (by simp [t1])
  have u2 : a1.eval (.tmp 2) = .int .i64 day := by rw [← hA1]; exact (by simp [t2])
  have u3 : a1.eval (.tmp 3) = .pointer (some ⟨W.heap.size, 0, none⟩) := by rw [← hA1]; exact (by simp [hsz])
  have u6 : a1.eval (.tmp 6) = .pointer (some ⟨W.heap.size + 1, 0, none⟩) := by rw [← hA1]; exact (by simp [hsz])
  have hd1 : a1.defers = [] := by rw [← hA1]; simp only [defers_put, hdf]
  clear hA1
  have hgo : ∀ (a2 : Act) (W2 : World) (p : Value), Tr o t A l c (holdsOk o owner day) p W2 → Below W1.heap.size W1 W2 → a2.tmps.size = 32 → a2.defers = a1.defers → a2.eval (.tmp 8) = p → a2.eval (.tmp 9) = .int .i64 (holdsE o t l owner day) → (∀ e : Nat, e < 8 ∨ 24 ≤ e → a2.eval (.tmp e) = a1.eval (.tmp e)) →
      restD.wpIn Fence.wide 5 Try.prog (bodyPost Try.prog Try.f32 (DP W o t l owner day)) a2 W2 := by
    intro a2 W2 p hX hbl2 hz2 hd2 v8 v9 he2
    have v6 := (he2 6 (by omega)).trans u6
    have v1 := (he2 1 (by omega)).trans u1
    have v2 := (he2 2 (by omega)).trans u2
    have hr2 := hr.below hbl2
    have hB2 : Below W.heap.size W W2 := hB1.trans (hbl2.mono hB1.size)
    unfold restD
    refine wpIn_seq (wpIn_seq (region_p 2 ?_))
    intro K hK
    refine ListK.move (i := 0) (v := .int .i64 (holdsE o t l owner day)) rfl v9 ?_
    refine ListK.bin (i := 1) (u := .int .i64 (holdsE o t l owner day)) (u' := .int .i64 0) rfl (by simp [hz2]) rfl (neq27 _) ?_
    refine ListK.done (hK _ _ ?_)
    clear hK K
    by_cases hE : holdsE o t l owner day = 0
    · refine wpIn_cond (t := false) (by simp [hz2, hE]) (wpIn_skip ?_)
      obtain ⟨h0, hin, hf⟩ := triedE_zero hE
      have hv := valid_of_fault h0
      have ho1 := hv.o1
      have ho6 := hv.o6
      obtain ⟨B, kb, ge, gl, ce, cl, rfl, hb⟩ := hX hE
      simp only [holdsOk, Bool.and_eq_true, inR_iff] at hin
      rw [IntWalk.i64_in (o - 1) (by omega)] at hin
      obtain ⟨k, rfl⟩ : ∃ k : Nat, owner = k := ⟨owner.toNat, by omega⟩
      have hWV : holdsV o t l k day = holdsR t l k day := by simp [holdsV, hE]
      refine wpIn_seq (region_p 6 ?_)
      intro K hK
      refine ListK.move (i := 0) (v := .pointer (some ⟨kb, 0, none⟩)) rfl (by simp [v8]) ?_
      refine ListK.move (i := 1) (v := .int .i64 k) rfl (by simp [v1]) ?_
      refine ListK.move (i := 2) (v := .int .i64 day) rfl (by simp [v2]) ?_
      refine ListK.call (i := 3) (vs := #[.pointer (some ⟨kb, 0, none⟩), .int .i64 k, .int .i64 day]) rfl (enters_of Try.func68 (by kernel_rfl) rfl) (by simp [hz2]) ((holds_any W2 B kb ge gl ce cl o t A l c k day hv (by omega) hb).mono ?_)
      rintro _ W3 ⟨rfl, hb3⟩
      refine ⟨_, rfl, ?_⟩
      have hr3 := hr2.below hb3
      refine ListK.store (i := 4) (u := .pointer (some ⟨W.heap.size + 1, 0, none⟩)) (u' := .agg #[.int .i64 (holdsR t l k day).1, .int .i64 (holdsR t l k day).2]) rfl (by simp [v6]) (by simp [hz2]) (st46 hr3.c0 hr3.c1 hr3.f0 hr3.f1) ?_
      refine ListK.assign (i := 5) (v := .int .i64 0) rfl rfl ?_
      have hr5 := hr3.put (holdsR t l k day).1 (holdsR t l k day).2
      refine ListK.done (hK _ _ (wpIn_ret ?_))
      show bodyPost Try.prog Try.f32 (DP W o t l k day) Exit.ret _ (put2 W3 (W.heap.size + 1) (holdsR t l k day).1 (holdsR t l k day).2)
      refine bodyPost_ret (res46b (b := W.heap.size + 1) (z := .int .i64 0) Try.results32 (by simp [v6]) (by simp [hz2]) ⟨hr5.c0, hr5.c1⟩) (by simp only [defers_put, hd2, hd1]) ⟨?_, below_put2 (hB2.trans (hb3.mono hB2.size)) (by omega) _ _⟩
      rw [hWV, hE]
    · refine wpIn_cond (t := true) (by simp [hz2, hE]) ?_
      have hWV : holdsV o t l owner day = (0, 0) := by simp [holdsV, hE]
      refine wpIn_seq (region_p 4 ?_)
      intro K hK
      refine ListK.bld (i := 0) (ps := #[]) (v := .agg #[.int .i64 0, .int .i64 0]) rfl (by simp) (bd46_0 _) ?_
      refine ListK.move (i := 1) (v := .int .i64 (holdsE o t l owner day)) rfl (by simp [v9]) ?_
      refine ListK.store (i := 2) (u := .pointer (some ⟨W.heap.size + 1, 0, none⟩)) (u' := .agg #[.int .i64 0, .int .i64 0]) rfl (by simp [v6]) (by simp [hz2]) (st46 hr2.c0 hr2.c1 hr2.f0 hr2.f1) ?_
      refine ListK.assign (i := 3) (v := .int .i64 (holdsE o t l owner day)) rfl (by simp [hz2]) ?_
      have hr3 := hr2.put 0 0
      refine ListK.done (hK _ _ (wpIn_ret ?_))
      show bodyPost Try.prog Try.f32 (DP W o t l owner day) Exit.ret _ (put2 W2 (W.heap.size + 1) 0 0)
      refine bodyPost_ret (res46b (b := W.heap.size + 1) (z := .int .i64 (holdsE o t l owner day)) Try.results32 (by simp [v6]) (by simp [hz2]) ⟨hr3.c0, hr3.c1⟩) (by simp only [defers_put, hd2, hd1]) ⟨?_, below_put2 hB2 (by omega) _ _⟩
      rw [hWV]
  have hsl : ∀ W', Below W1.heap.size W1 W' → SalesAt W' W'.heap.size A l := fun W' hW' => (hs.below (hB1.trans (hW'.mono hB1.size)) (Nat.le_refl _)).more (Nat.le_trans hB1.size hW'.size)
  cases hin : inR owner 0 (IntKind.i64.wrap (o - 1)) with
  | false =>
    have hok : holdsOk o owner day = false := by simp [holdsOk, hin]
    refine wpIn_seq (regionD1a (b2 := W.heap.size) (m := l.length) (E := holdsE o t l owner day) (X := Tr o t A l c (holdsOk o owner day)) (wideF_plain _) hz1 u1 u2 u3 (wb.cell 0) (wb.cell 1) (wb.cell 2) hin ?_ hgo)
    intro W' hW'
    have := tried_gen (o := o) (t := t) (c := c) (holdsOk o owner day) hl (hsl W' hW')
    rw [hok] at this ⊢
    rw [holdsE, hok]
    exact this
  | true =>
    have hok : holdsOk o owner day = inR day 0 100 := by simp [holdsOk, hin]
    refine wpIn_seq (regionD1b (b2 := W.heap.size) (m := l.length) (E := holdsE o t l owner day) (X := Tr o t A l c (holdsOk o owner day)) (wideF_plain _) hz1 u1 u2 u3 (wb.cell 0) (wb.cell 1) (wb.cell 2) hin ?_ hgo)
    intro W' hW'
    have := tried_gen (o := o) (t := t) (c := c) (holdsOk o owner day) hl (hsl W' hW')
    rw [hok] at this ⊢
    rw [holdsE, hok]
    exact this
end Go.Proofs.Ytfcnombmphophaa
namespace Go.Proofs.Ytfcnombmphophaa
open Go.RowKit Go.Shelf

section
variable {ops : Array Oper} {K : Act → World → Prop} {k i d : Nat} {a : Act} {w : World} {ty : TypeId} {pos : String} {aft : Array Edge}
theorem ListK.append {s x : Operand} (hi : ops[i]? = some ⟨some d, .call { callee := .builtin .append, args := #[s, x], argTypes := #[25, 25] }, ty, pos, aft, none⟩)
    {base n : Nat} {v : Value} {xs : List Value} (hown : w.ownsRow base 3 1 v n xs) (hs : a.eval s = v) (ad : Addr) (c : Nat) (news : List Value) (hx : a.eval x = .slice (some ad) 1 c) (hl : news.length = 1)
    (hnews : ∀ j u, news[j]? = some u → w.cell? (ad.add j) = some u) (h1 : ∀ u ∈ news, u.oneCell' = true) (h63 : n + 1 ≤ maxLen) (hbytes : (n + 1) * 8 ≤ 140737488355328) (hbase : base ≤ w.heap.size)
    (h : ∀ g cap w', w'.ownsRow base 3 1 (.slice (some ⟨g, 0, none⟩) (n + 1) cap) (n + 1) (xs ++ news) → w.grownBy w' v.ownBlock → (v.ownBlock = some g ∨ g = w.heap.size) → ListK Try.prog ops K k (i + 1) (a.put (some d) (.slice (some ⟨g, 0, none⟩) (n + 1) cap)) w') :
    ListK Try.prog ops K (k + 1) i a w := by
  obtain ⟨i0, hi0, hi1, hi2, hi3⟩ := info_parts Try.info3
  obtain ⟨g, cap, w', hr, h2, h3, h4, h5⟩ := run_append_lies (P := Try.prog) w 25 ty base 3 i0 (.int .i64 0) 1 8 Try.underlying25 hi0 hi1 hi2 hi3 rfl (by omega) v n xs hown ad 1 c news (by simpa using hl) hnews h1 (by omega) h63 hbytes hbase w.heap.size rfl
  refine ListK.val hi rfl ?_ (h g cap w' h2 h3 h4)
  simp [execOp, resolve, invoke, builtin, hs, hx, hr]
theorem ListK.buildS {P : Program} {t : TypeId} {m : Nat} {parts : Array (Nat × Operand)} {ps : Array (Nat × Value)} {v : Value} {w' : World} (hi : ops[i]? = some ⟨some d, .buildSlice t m parts, ty, pos, aft, none⟩) (hp : parts.map (fun (i, x) => (i, a.eval x)) = ps)
    (hv : (Instr.buildSlice t m ps).run P w = .ok v w') (h : ListK P ops K k (i + 1) (a.put (some d) v) w') : ListK P ops K (k + 1) i a w := ListK.val hi rfl (by simp only [execOp, hp]; simp [hv]) h
end

/-- Two lists of numbers that are owned. -/
structure RM (W0 : World) (ve vs : Value) (xe xs : List Int) (W : World) : Prop where
  low : Below W0.heap.size W0 W
  oe : W.ownsRow W0.heap.size 3 1 ve xe.length (xe.map (Value.int .i64))
  os : W.ownsRow W0.heap.size 3 1 vs xs.length (xs.map (Value.int .i64))
  ne : ve.ownBlock = none ∨ ve.ownBlock ≠ vs.ownBlock
section
variable {W0 W W' : World} {ve vs : Value} {xe xs : List Int}
theorem RM.ne' (b : RM W0 ve vs xe xs W) : vs.ownBlock = none ∨ vs.ownBlock ≠ ve.ownBlock := by
  rcases b.ne with h | h
  · cases hvl : vs.ownBlock with
    | none => exact .inl rfl
    | some g => exact .inr (by rw [h]; simp)
  · exact .inr (Ne.symm h)
theorem RM.below (b : RM W0 ve vs xe xs W) (hb : Below W.heap.size W W') : RM W0 ve vs xe xs W' :=
  ⟨b.low.trans (hb.mono b.low.size), b.oe.kept (grown_of_below hb) (by cases ve.ownBlock <;> simp), b.os.kept (grown_of_below hb) (by cases vs.ownBlock <;> simp), b.ne⟩
theorem RM.appE (b : RM W0 ve vs xe xs W) {g cap : Nat} {x : Int} (hown : W'.ownsRow W0.heap.size 3 1 (.slice (some ⟨g, 0, none⟩) (xe.length + 1) cap) (xe.length + 1) (xe.map (Value.int .i64) ++ [.int .i64 x])) (hgr : W.grownBy W' ve.ownBlock) (hat : ve.ownBlock = some g ∨ g = W.heap.size) :
    RM W0 (.slice (some ⟨g, 0, none⟩) (xe.length + 1) cap) vs (xe ++ [x]) xs W' := by
  refine ⟨b.low.grown hgr b.low.size (fun k e => (b.oe.lt k e).1), by simpa using hown, b.os.kept hgr b.ne', .inr ?_⟩
  intro e
  have e' : vs.ownBlock = some g := by rw [← e]; rfl
  rcases hat with hat | hat
  · rcases b.ne with h1 | h1
    · rw [h1] at hat; cases hat
    · exact h1 (hat.trans e'.symm)
  · have := (b.os.lt g e').2
    omega
theorem RM.appS (b : RM W0 ve vs xe xs W) {g cap : Nat} {x : Int} (hown : W'.ownsRow W0.heap.size 3 1 (.slice (some ⟨g, 0, none⟩) (xs.length + 1) cap) (xs.length + 1) (xs.map (Value.int .i64) ++ [.int .i64 x])) (hgr : W.grownBy W' vs.ownBlock) (hat : vs.ownBlock = some g ∨ g = W.heap.size) :
    RM W0 ve (.slice (some ⟨g, 0, none⟩) (xs.length + 1) cap) xe (xs ++ [x]) W' := by
  refine ⟨b.low.grown hgr b.low.size (fun k e => (b.os.lt k e).1), b.oe.kept hgr b.ne, by simpa using hown, ?_⟩
  by_cases hv : ve.ownBlock = none
  · exact .inl hv
  · refine .inr fun e => ?_
    have e' : ve.ownBlock = some g := e
    rcases hat with hat | hat
    · rcases b.ne with h1 | h1
      · exact hv h1
      · exact h1 (e'.trans hat.symm)
    · have := (b.oe.lt g e').2
      omega
end

/-- The owners that can have pieces; those that surely have some. -/
def canTo (t : Int) (l : List Sale) (day : Int) : Nat → List Int
  | 0 => []
  | n + 1 => if 0 < (holdsR t l n day).2 then canTo t l day n ++ [(n : Int)] else canTo t l day n
def sureTo (t : Int) (l : List Sale) (day : Int) : Nat → List Int
  | 0 => []
  | n + 1 => if 0 < (holdsR t l n day).1 then sureTo t l day n ++ [(n : Int)] else sureTo t l day n
theorem canTo_length (t : Int) (l : List Sale) (day : Int) (n : Nat) : (canTo t l day n).length ≤ n := by
  induction n with
  | zero => simp [canTo]
  | succ n ih =>
    unfold canTo
    split
    · simp; omega
    · omega
theorem sureTo_length (t : Int) (l : List Sale) (day : Int) (n : Nat) : (sureTo t l day n).length ≤ n := by
  induction n with
  | zero => simp [sureTo]
  | succ n ih =>
    unfold sureTo
    split
    · simp; omega
    · omega
def reachE (o t : Int) (l : List Sale) (day : Int) : Int := triedE o t l (inR day 0 100)
def reachC (o t : Int) (l : List Sale) (day : Int) : List Int := if reachE o t l day = 0 then canTo t l day o.toNat else []
def reachS (o t : Int) (l : List Sale) (day : Int) : List Int := if reachE o t l day = 0 then sureTo t l day o.toNat else []

noncomputable def opsE0 : Array Oper := (Try.f33.body.bind (regionOf 0)).getD #[]
noncomputable def opsE2 : Array Oper := (Try.f33.body.bind (regionOf 2)).getD #[]
noncomputable def opsE3 : Array Oper := (Try.f33.body.bind (regionOf 3)).getD #[]
noncomputable def opsE4 : Array Oper := (Try.f33.body.bind (regionOf 4)).getD #[]
noncomputable def opsE5 : Array Oper := (Try.f33.body.bind (regionOf 5)).getD #[]
noncomputable def opsE6 : Array Oper := (Try.f33.body.bind (regionOf 6)).getD #[]
noncomputable def opsE7 : Array Oper := (Try.f33.body.bind (regionOf 7)).getD #[]
noncomputable def opsE8 : Array Oper := (Try.f33.body.bind (regionOf 8)).getD #[]
noncomputable def opsE9 : Array Oper := (Try.f33.body.bind (regionOf 9)).getD #[]
noncomputable def opsE10 : Array Oper := (Try.f33.body.bind (regionOf 10)).getD #[]
noncomputable def opsE11 : Array Oper := (Try.f33.body.bind (regionOf 11)).getD #[]
noncomputable def opsE12 : Array Oper := (Try.f33.body.bind (regionOf 12)).getD #[]
noncomputable def opsE13 : Array Oper := (Try.f33.body.bind (regionOf 13)).getD #[]
noncomputable def sureCode : Code := .seq (.region 10 opsE10 false) (.cond (.tmp 38) (.region 11 opsE11 false) .skip)
noncomputable def roundE : Code := .seq (.region 5 opsE5 false) (.seq (.cond (.tmp 23) .skip (.exit 0)) (.seq (.block 1 (.seq (.region 6 opsE6 false) (.seq (.region 7 opsE7 false) (.seq (.seq (.region 8 opsE8 false) (.cond (.tmp 31) (.region 9 opsE9 false) .skip)) sureCode)))) (.region 12 opsE12 false)))
noncomputable def code33 : Code := .seq (.region 0 opsE0 false) (.seq (.region 1 opsE1 true) (.seq (.seq (.region 2 opsE2 false) (.cond (.tmp 18) (.seq (.region 3 opsE3 false) .ret) .skip)) (.seq (.seq (.region 4 opsE4 false) (.block 0 (.loop roundE))) (.seq (.region 13 opsE13 false) .ret))))
theorem body33 : Try.f33.body = some code33 := by kernel_rfl
theorem gtr3 {x y : Operand} {m n : Int} (w : World) : (do eqGuard .gtr 3 x y (.int .i64 m) (.int .i64 n); binOp .gtr 3 (.int .i64 m) (.int .i64 n) : Sem Value).run Try.prog w = .ok (.bool (decide (n < m))) w := by
  go_simp
theorem add3 {x y : Operand} {m n : Int} (h0 : -100000 ≤ m + n) (h1 : m + n ≤ 10000000) (w : World) : (do eqGuard .add 3 x y (.int .i64 m) (.int .i64 n); binOp .add 3 (.int .i64 m) (.int .i64 n) : Sem Value).run Try.prog w = .ok (.int .i64 (m + n)) w := by
  have := IntWalk.i64_in (m + n) (by omega)
  go_simp

abbrev EP (W : World) (o t : Int) (l : List Sale) (day : Int) : Ending → World → Prop := fun e w' => ∃ ve vs, e = .returned (.tuple #[ve, vs, .int .i64 (reachE o t l day)]) ∧ RM W ve vs (reachC o t l day) (reachS o t l day) w'

/-- The frame of Reach in its loop. -/
structure FrE (a : Act) (kb : Nat) (day : Int) (O n : Nat) (ve vs : Value) : Prop where
  sz : a.tmps.size = 46
  df : a.defers = []
  t1 : a.eval (.tmp 1) = .int .i64 day
  t4 : a.eval (.tmp 4) = ve
  t5 : a.eval (.tmp 5) = vs
  t7 : a.eval (.tmp 7) = .pointer (some ⟨kb, 0, none⟩)
  t21 : a.eval (.tmp 21) = .int .i64 O
  t22 : a.eval (.tmp 22) = .int .i64 n
theorem FrE.of {a a' : Act} {kb : Nat} {day : Int} {O n : Nat} {ve vs : Value} (f : FrE a kb day O n ve vs) (h1 : a'.tmps.size = 46) (h2 : a'.defers = a.defers) (h3 : ∀ e : Nat, (e = 1 ∨ e = 4 ∨ e = 5 ∨ e = 7 ∨ e = 21 ∨ e = 22) → a'.eval (.tmp e) = a.eval (.tmp e)) : FrE a' kb day O n ve vs :=
  ⟨h1, h2.trans f.df, (h3 1 (by omega)).trans f.t1, (h3 4 (by omega)).trans f.t4, (h3 5 (by omega)).trans f.t5, (h3 7 (by omega)).trans f.t7, (h3 21 (by omega)).trans f.t21, (h3 22 (by omega)).trans f.t22⟩

set_option maxHeartbeats 1000000 in
/-- The second half of a round: the owner that surely has pieces. -/
theorem sure_wp {Q : Exit → Act → World → Prop} {a : Act} {W0 W : World} {kb O n br : Nat} {day lo hi : Int} {ve vs : Value} {xe xs : List Int} (fr : FrE a kb day O n ve vs) (t8 : a.eval (.tmp 8) = .int .i64 n) (t9 : a.eval (.tmp 9) = .pointer (some ⟨br, 0, none⟩)) (hw : Two W br lo hi) (hm : RM W0 ve vs xe xs W) (hx : xs.length < 1000)
    (hQ : ∀ a' vs' W', FrE a' kb day O n ve vs' → RM W0 ve vs' xe (if 0 < lo then xs ++ [(n : Int)] else xs) W' → Q .normal a' W') : sureCode.wpIn Fence.wide 5 Try.prog Q a W := by
  have hsz := fr.sz
  unfold sureCode
  refine wpIn_seq (region_p 3 ?_)
  intro K hK
  refine ListK.field (i := 0) (u := .pointer (some ⟨br, 0, none⟩)) (v := .pointer (some ⟨br, 0, none⟩)) rfl t9 (fa46_0 _) ?_
  refine ListK.load (i := 1) (p := ⟨br, 0, none⟩) (v := .int .i64 lo) rfl (by simp [hsz]) (ld3 hw.c0) ?_
  refine ListK.bin (i := 2) (u := .int .i64 lo) (u' := .int .i64 0) rfl (by simp [hsz]) rfl (gtr3 _) ?_
  refine ListK.done (hK _ _ ?_)
  clear hK K
  by_cases hp : 0 < lo
  · refine wpIn_cond (t := true) (by simp [hsz, hp]) ?_
    rw [if_pos hp] at hQ
    refine region_p 5 ?_
    intro K hK
    refine ListK.move (i := 0) (v := vs) rfl (by simp [fr.t5]) ?_
    refine ListK.move (i := 1) (v := .int .i64 n) rfl (by simp [t8]) ?_
    refine ListK.buildS (i := 2) (ps := #[(0, .int .i64 n)]) rfl (by simp [hsz]) (bs25_1 _ _) ?_
    have hm1 := hm.below ((Below.refl _ W).alloc (Nat.le_refl _) (.cells #[.int .i64 n] 3))
    refine ListK.append (i := 3) rfl hm1.os (by simp [hsz]) ⟨W.heap.size, 0, none⟩ 1 [.int .i64 n] (by simp [hsz]) rfl (news1 (cell_new1 W _ _)) (by simp [Value.oneCell']) (by unfold maxLen; omega) (by omega) hm1.low.size ?_
    intro g cap W2 hown hgr hat
    refine ListK.assign (i := 4) (v := .slice (some ⟨g, 0, none⟩) (xs.length + 1) cap) rfl (by simp [hsz]) ?_
    refine ListK.done (hK _ _ (hQ _ _ _ ?_ (hm1.appS hown hgr hat)))
    exact ⟨by simp only [size_put, hsz], by simp only [defers_put, fr.df], (by simp [fr.t1]), (by simp [fr.t4]), (by simp [hsz]), (by simp [fr.t7]), (by simp [fr.t21]), (by simp [fr.t22])⟩
  · refine wpIn_cond (t := false) (by simp [hsz]; omega) (wpIn_skip ?_)
    rw [if_neg hp] at hQ
    refine hQ _ _ _ (fr.of (by simp only [size_put, hsz]) (by simp only [defers_put]) ?_) hm
    rintro e (rfl | rfl | rfl | rfl | rfl | rfl) <;> simp

set_option maxHeartbeats 1000000 in
theorem reach_loop {Q : Exit → Act → World → Prop} {a : Act} {W0 W : World} {B kb ge gl ce cl O : Nat} {day : Int} {o t : Int} {A : Option Addr} {l : List Sale} {c : Nat} (hv : Valid o t l) (hO : o = O) (hb0 : BookAt W0 B kb ge gl ce cl o t A l c) (fr : FrE a kb day O 0 (.slice none 0 0) (.slice none 0 0)) (hm : RM W0 (.slice none 0 0) (.slice none 0 0) [] [] W)
    (hQ : ∀ a' W' ve vs, FrE a' kb day O O ve vs → RM W0 ve vs (canTo t l day O) (sureTo t l day O) W' → Q .normal a' W') :
    (Code.block 0 (.loop roundE)).wpIn Fence.wide 5 Try.prog Q a W := by
  have ho6 := hv.o6
  refine wpIn_block (wpIn_loop (fun a W' => ∃ (n : Nat) (ve vs : Value), n ≤ O ∧ FrE a kb day O n ve vs ∧ RM W0 ve vs (canTo t l day n) (sureTo t l day n) W') (fun a _ => O - (intOf (a.eval (.tmp 22))).toNat) ⟨0, _, _, Nat.zero_le _, fr, hm⟩ ?_)
  clear fr hm a W
  rintro a W ⟨n, ve, vs, hnO, fr, hm⟩
  have hb := hb0.keep hm.low
  have hsz := fr.sz
  refine wpIn_seq (region_p 1 ?_)
  intro K hK
  refine ListK.bin (i := 0) (u := .int .i64 n) (u' := .int .i64 O) rfl fr.t22 fr.t21 (lss3 _) ?_
  refine ListK.done (hK _ _ ?_)
  clear hK K
  by_cases hlt : n < O
  · refine wpIn_seq (wpIn_cond (t := true) (by simp [hsz]; omega) (wpIn_skip ?_))
    refine wpIn_seq (wpIn_block (wpIn_seq (region_p 2 ?_)))
    intro K hK
    refine ListK.move (i := 0) (v := .int .i64 n) rfl (by simp [fr.t22]) ?_
    refine ListK.assign (i := 1) (v := .int .i64 n) rfl (by simp [hsz]) ?_
    refine ListK.done (hK _ _ ?_)
    clear hK K
    refine wpIn_seq (region_p 6 ?_)
    intro K hK
    refine ListK.move (i := 0) (v := .pointer (some ⟨kb, 0, none⟩)) rfl (by simp [fr.t7]) ?_
    refine ListK.move (i := 1) (v := .int .i64 n) rfl (by simp [hsz]) ?_
    refine ListK.move (i := 2) (v := .int .i64 day) rfl (by simp [fr.t1]) ?_
    refine ListK.call (i := 3) (vs := #[.pointer (some ⟨kb, 0, none⟩), .int .i64 n, .int .i64 day]) rfl (enters_of Try.func68 (by kernel_rfl) rfl) (by simp [hsz]) ((holds_any W B kb ge gl ce cl o t A l c n day hv (by omega) hb).mono ?_)
    rintro _ W1 ⟨rfl, hb1⟩
    refine ⟨_, rfl, ?_⟩
    refine ListK.alloc (i := 4) rfl (al46 W1) ?_
    have tw := Two.new W1 0 0
    refine ListK.store (i := 5) (u := .pointer (some ⟨W1.heap.size, 0, none⟩)) (u' := .agg #[.int .i64 (holdsR t l n day).1, .int .i64 (holdsR t l n day).2]) rfl (by simp [hsz]) (by simp [hsz]) (st46 tw.c0 tw.c1 tw.f0 tw.f1) ?_
    refine ListK.done (hK _ _ ?_)
    clear hK K
    rw [← show put2 (W1.alloc (.cells #[.int .i64 0, .int .i64 0] 46)) W1.heap.size (holdsR t l n day).1 (holdsR t l n day).2 = ((W1.alloc (.cells #[.int .i64 0, .int .i64 0] 46)).setCell ⟨W1.heap.size, 0, none⟩ (.int .i64 (holdsR t l n day).1)).setCell ⟨W1.heap.size, 1, none⟩ (.int .i64 (holdsR t l n day).2) from rfl]
    have tw2 := tw.put (holdsR t l n day).1 (holdsR t l n day).2
    have hbl2 : Below W1.heap.size W1 (put2 (W1.alloc (.cells #[.int .i64 0, .int .i64 0] 46)) W1.heap.size (holdsR t l n day).1 (holdsR t l n day).2) := below_put2 ((Below.refl _ W1).alloc (Nat.le_refl _) _) (Nat.le_refl _) _ _
    have hm2 := (hm.below hb1).below hbl2
    have hbrn : ∀ v, (∀ g, ve.ownBlock = some g → g < W1.heap.size) → v = W1.heap.size → some v ≠ ve.ownBlock := fun v h e e2 => by subst e; have := h _ e2.symm; omega
    have hbr0 := hbrn _ (fun g hg => ((hm.below hb1).oe.lt g hg).2) rfl
    clear hbrn
    generalize put2 (W1.alloc (.cells #[.int .i64 0, .int .i64 0] 46)) W1.heap.size (holdsR t l n day).1 (holdsR t l n day).2 = W2 at *
    generalize W1.heap.size = br at *
    generalize hA1 : Act.put _ _ _ = a1
    have hz1 : a1.tmps.size = 46 := by rw [← hA1]; simp only [size_put, hsz]
    have fr1 : FrE a1 kb day O n ve vs := by
      refine fr.of hz1 (by rw [← hA1]; simp only [defers_put]) ?_
      rw [← hA1]
      rintro e (rfl | rfl | rfl | rfl | rfl | rfl) <;> simp
    have u8 : a1.eval (.tmp 8) = .int .i64 n := by rw [← hA1]; exact (by simp [hsz])
    have u9 : a1.eval (.tmp 9) = .pointer (some ⟨br, 0, none⟩) := by rw [← hA1]; exact (by simp [hsz])
    clear hA1
    have hcl := canTo_length t l day n
    have hsl := sureTo_length t l day n
    have hend : ∀ (a' : Act) (ve' vs' : Value) (W' : World), FrE a' kb day O n ve' vs' → RM W0 ve' vs' (canTo t l day (n + 1)) (sureTo t l day (n + 1)) W' →
        (Code.region 12 opsE12 false).wpIn Fence.wide 5 Try.prog (Exit.then (fun a' W' => (∃ (n : Nat) (ve vs : Value), n ≤ O ∧ FrE a' kb day O n ve vs ∧ RM W0 ve vs (canTo t l day n) (sureTo t l day n) W') ∧ O - (intOf (a'.eval (.tmp 22))).toNat < O - (intOf (a.eval (.tmp 22))).toNat) (Exit.inBlock 0 Q)) a' W' := by
      intro a' ve' vs' W' f h1
      have hz := f.sz
      have hmu : ∀ b : Act, b.eval (.tmp 22) = .int .i64 ((n + 1 : Nat) : Int) → O - (intOf (b.eval (.tmp 22))).toNat < O - (intOf (a.eval (.tmp 22))).toNat := by
        intro b e
        rw [e, fr.t22]
        simp only [intOf]
        omega
      refine region_p 2 ?_
      intro K hK
      refine ListK.bin (i := 0) (u := .int .i64 n) (u' := .int .i64 1) rfl f.t22 rfl (add3 (by omega) (by omega) _) ?_
      refine ListK.move (i := 1) (v := .int .i64 ((n + 1 : Nat) : Int)) rfl (by simp [hz]) ?_
      exact ListK.done (hK _ _ ⟨⟨n + 1, ve', vs', by omega, ⟨by simp only [size_put, hz], by simp only [defers_put, f.df], (by simp [f.t1]), (by simp [f.t4]), (by simp [f.t5]), (by simp [f.t7]), (by simp [f.t21]), (by simp [hz])⟩, h1⟩, hmu _ (by simp [hz])⟩)
    refine wpIn_seq (wpIn_seq (region_p 3 ?_))
    intro K hK
    refine ListK.field (i := 0) (u := .pointer (some ⟨br, 0, none⟩)) (v := .pointer (some ⟨br, 1, none⟩)) rfl u9 (fa46_1 _) ?_
    refine ListK.load (i := 1) (p := ⟨br, 1, none⟩) (v := .int .i64 (holdsR t l n day).2) rfl (by simp [hz1]) (ld3 tw2.c1) ?_
    refine ListK.bin (i := 2) (u := .int .i64 (holdsR t l n day).2) (u' := .int .i64 0) rfl (by simp [hz1]) rfl (gtr3 _) ?_
    refine ListK.done (hK _ _ ?_)
    clear hK K
    have hs1 : sureTo t l day (n + 1) = if 0 < (holdsR t l n day).1 then sureTo t l day n ++ [(n : Int)] else sureTo t l day n := rfl
    by_cases hp : 0 < (holdsR t l n day).2
    · have hc1 : canTo t l day (n + 1) = canTo t l day n ++ [(n : Int)] := by simp [canTo, hp]
      refine wpIn_cond (t := true) (by simp [hz1, hp]) ?_
      refine region_p 5 ?_
      intro K hK
      refine ListK.move (i := 0) (v := ve) rfl (by simp [fr1.t4]) ?_
      refine ListK.move (i := 1) (v := .int .i64 n) rfl (by simp [u8]) ?_
      refine ListK.buildS (i := 2) (ps := #[(0, .int .i64 n)]) rfl (by simp [hz1]) (bs25_1 _ _) ?_
      have hm3 := hm2.below ((Below.refl _ W2).alloc (Nat.le_refl _) (.cells #[.int .i64 n] 3))
      have tw3 := tw2.below ((Below.refl _ W2).alloc (Nat.le_refl _) (.cells #[.int .i64 n] 3))
      have hn3 := cell_new1 W2 (.int .i64 n) 3
      have hfar : br < W2.heap.size := tw2.lt
      generalize W2.alloc (.cells #[.int .i64 n] 3) = W3 at *
      refine ListK.append (i := 3) rfl hm3.oe (by simp [hz1]) ⟨W2.heap.size, 0, none⟩ 1 [.int .i64 n] (by simp [hz1]) rfl (news1 hn3) (by simp [Value.oneCell']) (by unfold maxLen; omega) (by omega) hm3.low.size ?_
      intro g cap W4 hown hgr hat
      refine ListK.assign (i := 4) (v := .slice (some ⟨g, 0, none⟩) ((canTo t l day n).length + 1) cap) rfl (by simp [hz1]) ?_
      refine ListK.done (hK _ _ ?_)
      clear hK K
      have hm4 := hm3.appE hown hgr hat
      refine sure_wp (kb := kb) (day := day) (O := O) (ve := .slice (some ⟨g, 0, none⟩) ((canTo t l day n).length + 1) cap) (vs := vs) (br := br) (lo := (holdsR t l n day).1) (hi := (holdsR t l n day).2) (n := n) ⟨by simp only [size_put, hz1], by simp only [defers_put, fr1.df], (by simp [fr1.t1]), (by simp [hz1]), (by simp [fr1.t5]), (by simp [fr1.t7]), (by simp [fr1.t21]), (by simp [fr1.t22])⟩ (by simp [u8]) (by simp [u9]) ?_ hm4 (by omega) ?_
      · have hne : some br ≠ ve.ownBlock := hbr0
        exact ⟨hgr.cell tw3.c0 hne, hgr.cell tw3.c1 hne, (hgr.frozen_far ⟨br, 0, none⟩ tw3.lt hne).trans tw3.f0, (hgr.frozen_far ⟨br, 1, none⟩ tw3.lt hne).trans tw3.f1⟩
      · intro a5 vs5 W5 fr5 hm5
        refine hend _ _ _ _ fr5 ?_
        rw [hc1, hs1]
        exact hm5
    · have hc1 : canTo t l day (n + 1) = canTo t l day n := by simp [canTo, hp]
      refine wpIn_cond (t := false) (by simp [hz1]; omega) (wpIn_skip ?_)
      refine sure_wp (kb := kb) (day := day) (O := O) (br := br) (lo := (holdsR t l n day).1) (hi := (holdsR t l n day).2) (n := n) (ve := ve) (vs := vs) ⟨by simp only [size_put, hz1], by simp only [defers_put, fr1.df], (by simp [fr1.t1]), (by simp [fr1.t4]), (by simp [fr1.t5]), (by simp [fr1.t7]), (by simp [fr1.t21]), (by simp [fr1.t22])⟩ (by simp [u8]) (by simp [u9]) tw2 hm2 (by omega) ?_
      intro a5 vs5 W5 fr5 hm5
      refine hend _ _ _ _ fr5 ?_
      rw [hc1, hs1]
      exact hm5
  · obtain rfl : n = O := by omega
    refine wpIn_seq (wpIn_cond (t := false) (by simp [hsz]) (wpIn_exit ?_))
    refine hQ _ _ _ _ (fr.of (by simp only [size_put, hsz]) (by simp only [defers_put]) ?_) hm
    rintro e (rfl | rfl | rfl | rfl | rfl | rfl) <;> simp

theorem res3 {fn : Func} {i j k : Nat} {W : World} {a : Act} {x y z : Value} (h : fn.results = #[.tmp i, .tmp j, .tmp k]) (hi : a.eval (.tmp i) = x) (hj : a.eval (.tmp j) = y) (hk : a.eval (.tmp k) = z) :
    (results fn a.tmps).run Try.prog W = .ok (.tuple #[x, y, z]) W := by
  have e1 : a.tmps[i]?.getD undef = x := by simpa [Act.eval] using hi
  have e2 : a.tmps[j]?.getD undef = y := by simpa [Act.eval] using hj
  have e3 : a.tmps[k]?.getD undef = z := by simpa [Act.eval] using hk
  simp [results, h, e1, e2, e3]
theorem ownsRow_base {W : World} {b b' : Nat} {e : TypeId} {s n : Nat} {v : Value} {xs : List Value} (h : W.ownsRow b e s v n xs) (hb : b' ≤ b) : W.ownsRow b' e s v n xs := by
  refine ⟨h.1, ?_⟩
  rcases h.2 with h1 | ⟨g, cap, cur, h1, h2, h3⟩
  · exact .inl h1
  · exact .inr ⟨g, cap, cur, h1, by omega, h3⟩
theorem RM.base {W0 W1 W : World} {ve vs : Value} {xe xs : List Int} (h : RM W1 ve vs xe xs W) (hb : Below W0.heap.size W0 W1) : RM W0 ve vs xe xs W :=
  ⟨hb.trans (h.low.mono hb.size), ownsRow_base h.oe hb.size, ownsRow_base h.os hb.size, h.ne⟩

set_option maxHeartbeats 1000000 in
theorem reach_any (o t : Int) (A : Option Addr) (l : List Sale) (c : Nat) (day : Int) (W : World) (hl : l.length ≤ 1000000) (hs : SalesAt W W.heap.size A l) :
    Calls Try.prog 33 #[.agg #[.int .i64 o, .int .i64 t, .slice A l.length c], .int .i64 day] W (EP W o t l day) := by
  refine (callsIn_wide (n := 5)).1 (callsIn_of_wp Try.func33 body33 trivial ?_ rfl)
  obtain ⟨a, ha⟩ : ∃ a : Act, a = { tmps := #[.agg #[.int .i64 o, .int .i64 t, .slice A l.length c], .int .i64 day] ++ Array.replicate (Try.f33.ntmps - (#[.agg #[.int .i64 o, .int .i64 t, .slice A l.length c], .int .i64 day] : Array Value).size) undef, defers := [] } := ⟨_, rfl⟩
  have hsz : a.tmps.size = 46 := by rw [ha]; simp [Try.ntmps33]
  have t0 : a.eval (.tmp 0) = .agg #[.int .i64 o, .int .i64 t, .slice A l.length c] := by rw [ha]; simp [Act.eval]
  have t1 : a.eval (.tmp 1) = .int .i64 day := by rw [ha]; simp [Act.eval]
  have hdf : a.defers = [] := by rw [ha]
  rw [← ha]
  clear ha
  unfold code33
  refine wpIn_seq (region_p 4 ?_)
  intro K hK
  refine ListK.box (i := 0) (u := .agg #[.int .i64 o, .int .i64 t, .slice A l.length c]) rfl t0 (bx31 W _ _ _ _ _) ?_
  refine ListK.assign (i := 1) (v := .slice none 0 0) rfl rfl ?_
  refine ListK.assign (i := 2) (v := .slice none 0 0) rfl rfl ?_
  refine ListK.assign (i := 3) (v := .int .i64 0) rfl rfl ?_
  refine ListK.done (hK _ _ ?_)
  clear hK K
  have wb := Whole.new W 31 #[.int .i64 o, .int .i64 t, .slice A l.length c]
  have hB1 : Below W.heap.size W (W.alloc (.cells #[.int .i64 o, .int .i64 t, .slice A l.length c] 31)) := (Below.refl _ W).alloc (Nat.le_refl _) _
  generalize W.alloc (.cells #[.int .i64 o, .int .i64 t, .slice A l.length c] 31) = W1 at *
  generalize hA1 : Act.put _ _ _ = a1
  have hz1 : a1.tmps.size = 46 := by rw [← hA1]; simp only [size_put, hsz]
  have u1 : a1.eval (.tmp 1) = .int .i64 day := by rw [← hA1]; exact (by simp [t1])
  have u2 : a1.eval (.tmp 2) = .pointer (some ⟨W.heap.size, 0, none⟩) := by rw [← hA1]; exact (by simp [hsz])
  have u4 : a1.eval (.tmp 4) = .slice none 0 0 := by rw [← hA1]; exact (by simp [hsz])
  have u5 : a1.eval (.tmp 5) = .slice none 0 0 := by rw [← hA1]; exact (by simp [hsz])
  have hd1 : a1.defers = [] := by rw [← hA1]; simp only [defers_put, hdf]
  clear hA1
  refine wpIn_seq (regionE1 (b2 := W.heap.size) (m := l.length) (E := reachE o t l day) (X := Tr o t A l c (inR day 0 100)) (wideF_plain _) hz1 u1 u2 (wb.cell 0) (wb.cell 1) (wb.cell 2) ?_ ?_)
  · intro W' hW'
    exact tried_gen _ hl ((hs.below (hB1.trans (hW'.mono hB1.size)) (Nat.le_refl _)).more (Nat.le_trans hB1.size hW'.size))
  intro a2 W2 p hX hbl2 hz2 hd2 v7 v6 he2
  have v1 := (he2 1 (by omega)).trans u1
  have v2 := (he2 2 (by omega)).trans u2
  have v4 := (he2 4 (by omega)).trans u4
  have v5 := (he2 5 (by omega)).trans u5
  have wb2 := wb.below hbl2 wb.lt
  have hB2 : Below W.heap.size W W2 := hB1.trans (hbl2.mono hB1.size)
  refine wpIn_seq (wpIn_seq (region_p 2 ?_))
  intro K hK
  refine ListK.move (i := 0) (v := .int .i64 (reachE o t l day)) rfl v6 ?_
  refine ListK.bin (i := 1) (u := .int .i64 (reachE o t l day)) (u' := .int .i64 0) rfl (by simp [hz2]) rfl (neq27 _) ?_
  refine ListK.done (hK _ _ ?_)
  clear hK K
  by_cases hE : reachE o t l day = 0
  · refine wpIn_cond (t := false) (by simp [hz2, hE]) (wpIn_skip ?_)
    obtain ⟨h0, hin, hf⟩ := triedE_zero hE
    have hv := valid_of_fault h0
    have ho1 := hv.o1
    obtain ⟨B, kb, ge, gl, ce, cl, rfl, hb⟩ := hX hE
    obtain ⟨O, rfl⟩ : ∃ O : Nat, o = O := ⟨o.toNat, by omega⟩
    have hC : reachC O t l day = canTo t l day O := by simp [reachC, hE]
    have hS : reachS O t l day = sureTo t l day O := by simp [reachS, hE]
    refine wpIn_seq (wpIn_seq (region_p 3 ?_))
    intro K hK
    refine ListK.field (i := 0) (u := .pointer (some ⟨W.heap.size, 0, none⟩)) (v := .pointer (some ⟨W.heap.size, 0, none⟩)) rfl (by simp [v2]) (fa31_0 _) ?_
    refine ListK.load (i := 1) (p := ⟨W.heap.size, 0, none⟩) (v := .int .i64 O) rfl (by simp [hz2]) (ld3 (wb2.cell 0)) ?_
    refine ListK.move (i := 2) (v := .int .i64 0) rfl rfl ?_
    refine ListK.done (hK _ _ ?_)
    clear hK K
    refine reach_loop (W0 := W2) (kb := kb) (day := day) (O := O) hv rfl hb ⟨by simp only [size_put, hz2], by simp only [defers_put, hd2, hd1], (by simp [v1]), (by simp [v4]), (by simp [v5]), (by simp [v7]), (by simp [hz2]), (by simp [hz2])⟩ ⟨Below.refl _ _, World.ownsRow_nil _ _ _ _, World.ownsRow_nil _ _ _ _, .inl rfl⟩ ?_
    intro a4 W4 ve vs fr hm
    have hz4 := fr.sz
    refine wpIn_seq (region_p 5 ?_)
    intro K hK
    refine ListK.move (i := 0) (v := ve) rfl fr.t4 ?_
    refine ListK.move (i := 1) (v := vs) rfl (by simp [fr.t5]) ?_
    refine ListK.assign (i := 2) (v := ve) rfl (by simp [hz4]) ?_
    refine ListK.assign (i := 3) (v := vs) rfl (by simp [hz4]) ?_
    refine ListK.assign (i := 4) (v := .int .i64 0) rfl rfl ?_
    refine ListK.done (hK _ _ (wpIn_ret ?_))
    show bodyPost Try.prog Try.f33 (EP W O t l day) Exit.ret _ _
    refine bodyPost_ret (v := .tuple #[ve, vs, .int .i64 0]) (res3 Try.results33 (by simp [hz4]) (by simp [hz4]) (by simp [hz4])) (by simp only [defers_put, fr.df]) ⟨ve, vs, by rw [hE], ?_⟩
    rw [hC, hS]
    exact hm.base hB2
  · refine wpIn_cond (t := true) (by simp [hz2, hE]) ?_
    have hC : reachC o t l day = [] := by simp [reachC, hE]
    have hS : reachS o t l day = [] := by simp [reachS, hE]
    refine wpIn_seq (region_p 4 ?_)
    intro K hK
    refine ListK.move (i := 0) (v := .int .i64 (reachE o t l day)) rfl (by simp [v6]) ?_
    refine ListK.assign (i := 1) (v := .slice none 0 0) rfl rfl ?_
    refine ListK.assign (i := 2) (v := .slice none 0 0) rfl rfl ?_
    refine ListK.assign (i := 3) (v := .int .i64 (reachE o t l day)) rfl (by simp [hz2]) ?_
    refine ListK.done (hK _ _ (wpIn_ret ?_))
    show bodyPost Try.prog Try.f33 (EP W o t l day) Exit.ret _ _
    refine bodyPost_ret (v := .tuple #[.slice none 0 0, .slice none 0 0, .int .i64 (reachE o t l day)]) (res3 Try.results33 (by simp [hz2]) (by simp [hz2]) (by simp [hz2])) (by simp only [defers_put, hd2, hd1]) ⟨_, _, rfl, ?_⟩
    rw [hC, hS]
    exact ⟨hB2, World.ownsRow_nil _ _ _ _, World.ownsRow_nil _ _ _ _, .inl rfl⟩
end Go.Proofs.Ytfcnombmphophaa
namespace Go.Proofs.Ytfcnombmphophaa
open Go.RowKit Go.Shelf

/-- A list of numbers that is owned. -/
structure OL (W0 : World) (v : Value) (xs : List Int) (W : World) : Prop where
  low : Below W0.heap.size W0 W
  own : W.ownsRow W0.heap.size 3 1 v xs.length (xs.map (Value.int .i64))
theorem OL.below {W0 W W' : World} {v : Value} {xs : List Int} (b : OL W0 v xs W) (hb : Below W.heap.size W W') : OL W0 v xs W' :=
  ⟨b.low.trans (hb.mono b.low.size), b.own.kept (grown_of_below hb) (by cases v.ownBlock <;> simp)⟩
theorem OL.app {W0 W W' : World} {v : Value} {xs : List Int} (b : OL W0 v xs W) {g cap : Nat} {x : Int} (hown : W'.ownsRow W0.heap.size 3 1 (.slice (some ⟨g, 0, none⟩) (xs.length + 1) cap) (xs.length + 1) (xs.map (Value.int .i64) ++ [.int .i64 x])) (hgr : W.grownBy W' v.ownBlock) :
    OL W0 (.slice (some ⟨g, 0, none⟩) (xs.length + 1) cap) (xs ++ [x]) W' :=
  ⟨b.low.grown hgr b.low.size (fun k e => (b.own.lt k e).1), by simpa using hown⟩
theorem OL.base {W0 W1 W : World} {v : Value} {xs : List Int} (h : OL W1 v xs W) (hb : Below W0.heap.size W0 W1) : OL W0 v xs W := ⟨hb.trans (h.low.mono hb.size), ownsRow_base h.own hb.size⟩
/-- How it reads. -/
theorem OL.ints {W0 W : World} {v : Value} {xs : List Int} (h : OL W0 v xs W) : ∃ A c, v = .slice A xs.length c ∧ xs.length ≤ c ∧ IntsAt W W.heap.size A xs := by
  rcases h.own.2 with ⟨rfl, h0⟩ | ⟨g, cap, cur, rfl, hb, hg, hc, _⟩
  · refine ⟨none, 0, by rw [h0], by omega, fun k x hx => ?_⟩
    have : xs = [] := List.eq_nil_of_length_eq_zero h0
    subst this
    simp at hx
  · refine ⟨_, cap, rfl, hc, fun k x hx => ⟨g, 0, rfl, (Array.getElem?_eq_some_iff.1 hg).1, ?_⟩⟩
    have := h.own.cells (g := g) rfl k (.int .i64 x) (by rw [List.getElem?_map, hx]; rfl)
    simp only [Addr.add] at this
    split at this
    · rename_i h0
      subst h0
      simpa using this
    · simpa using this

/-- The numbers of the sales of d that are below n, rising. -/
def listTo (d : Nat) : Nat → List Int
  | 0 => []
  | n + 1 => if d.testBit n = true then listTo d n ++ [(n : Int)] else listTo d n
theorem listTo_length (d n : Nat) : (listTo d n).length ≤ n := by
  induction n with
  | zero => simp [listTo]
  | succ n ih =>
    unfold listTo
    split
    · simp; omega
    · omega

noncomputable def opsL0 : Array Oper := (Try.f59.body.bind (regionOf 0)).getD #[]
noncomputable def opsL1 : Array Oper := (Try.f59.body.bind (regionOf 1)).getD #[]
noncomputable def opsL2 : Array Oper := (Try.f59.body.bind (regionOf 2)).getD #[]
noncomputable def opsL3 : Array Oper := (Try.f59.body.bind (regionOf 3)).getD #[]
noncomputable def opsL4 : Array Oper := (Try.f59.body.bind (regionOf 4)).getD #[]
noncomputable def opsL5 : Array Oper := (Try.f59.body.bind (regionOf 5)).getD #[]
noncomputable def opsL6 : Array Oper := (Try.f59.body.bind (regionOf 6)).getD #[]
noncomputable def opsL7 : Array Oper := (Try.f59.body.bind (regionOf 7)).getD #[]
noncomputable def roundL : Code := .seq (.region 2 opsL2 false) (.seq (.cond (.tmp 5) .skip (.exit 0)) (.seq (.block 1 (.seq (.region 3 opsL3 false) (.seq (.region 4 opsL4 false) (.cond (.tmp 9) (.region 5 opsL5 false) .skip)))) (.region 6 opsL6 false)))
noncomputable def code59 : Code := .seq (.region 0 opsL0 false) (.seq (.seq (.region 1 opsL1 false) (.block 0 (.loop roundL))) (.seq (.region 7 opsL7 false) .ret))
theorem body59 : Try.f59.body = some code59 := by kernel_rfl
theorem res1 {fn : Func} {i : Nat} {W : World} {a : Act} {x : Value} (h : fn.results = #[.tmp i]) (hi : a.eval (.tmp i) = x) : (results fn a.tmps).run Try.prog W = .ok x W := by
  rw [results_tmp h]
  exact congrArg (fun v => Result.ok v W) hi

set_option maxHeartbeats 1000000 in
theorem list_any (d : Nat) (W : World) (hd : d < 65536) : Calls Try.prog 59 #[.int .i64 d] W fun e w' => ∃ v, e = .returned v ∧ OL W v (listTo d 8) w' := by
  refine (callsIn_wide (n := 5)).1 (callsIn_of_wp Try.func59 body59 trivial ?_ rfl)
  obtain ⟨a, ha⟩ : ∃ a : Act, a = { tmps := #[.int .i64 d] ++ Array.replicate (Try.f59.ntmps - (#[.int .i64 d] : Array Value).size) undef, defers := [] } := ⟨_, rfl⟩
  have hsz : a.tmps.size = 16 := by rw [ha]; simp [Try.ntmps59]
  have t0 : a.eval (.tmp 0) = .int .i64 d := by rw [ha]; simp [Act.eval]
  have hdf : a.defers = [] := by rw [ha]
  rw [← ha]
  clear ha
  unfold code59
  refine wpIn_seq (region_p 1 ?_)
  intro K hK
  refine ListK.assign (i := 0) (v := .slice none 0 0) rfl rfl ?_
  refine ListK.done (hK _ _ ?_)
  clear hK K
  refine wpIn_seq (wpIn_seq (region_p 1 ?_))
  intro K hK
  refine ListK.move (i := 0) (v := .int .i64 ((0 : Nat) : Int)) rfl rfl ?_
  refine ListK.done (hK _ _ ?_)
  clear hK K
  refine wpIn_block (wpIn_loop (fun a W' => ∃ (n : Nat) (v : Value), n ≤ 8 ∧ a.tmps.size = 16 ∧ a.defers = [] ∧ a.eval (.tmp 0) = .int .i64 d ∧ a.eval (.tmp 2) = v ∧ a.eval (.tmp 4) = .int .i64 n ∧ OL W v (listTo d n) W') (fun a _ => 8 - (intOf (a.eval (.tmp 4))).toNat)
    ⟨0, .slice none 0 0, by omega, by simp only [size_put, hsz], by simp only [defers_put, hdf], (by simp [t0]), (by simp [hsz]), (by simp [hsz]), ⟨Below.refl _ _, World.ownsRow_nil _ _ _ _⟩⟩ ?_)
  clear hsz t0 hdf a
  rintro a W' ⟨n, v, hn8, hsz, hdf, t0, t2, t4, hol⟩
  refine wpIn_seq (region_p 1 ?_)
  intro K hK
  refine ListK.bin (i := 0) (u := .int .i64 n) (u' := .int .i64 8) rfl t4 rfl (lss3 _) ?_
  refine ListK.done (hK _ _ ?_)
  clear hK K
  by_cases hlt : n < 8
  · refine wpIn_seq (wpIn_cond (t := true) (by simp [hsz]; omega) (wpIn_skip ?_))
    have hend : ∀ (a' : Act) (v' : Value) (W2 : World), a'.tmps.size = 16 → a'.defers = [] → a'.eval (.tmp 0) = .int .i64 d → a'.eval (.tmp 2) = v' → a'.eval (.tmp 4) = .int .i64 n → OL W v' (listTo d (n + 1)) W2 →
        (Code.region 6 opsL6 false).wpIn Fence.wide 5 Try.prog (Exit.then (fun a' W' => (∃ (n : Nat) (v : Value), n ≤ 8 ∧ a'.tmps.size = 16 ∧ a'.defers = [] ∧ a'.eval (.tmp 0) = .int .i64 d ∧ a'.eval (.tmp 2) = v ∧ a'.eval (.tmp 4) = .int .i64 n ∧ OL W v (listTo d n) W') ∧ 8 - (intOf (a'.eval (.tmp 4))).toNat < 8 - (intOf (a.eval (.tmp 4))).toNat) (Exit.inBlock 0 (Exit.then (Code.wpIn Fence.wide 5 Try.prog ((Code.region 7 opsL7 false).seq Code.ret) (bodyPost Try.prog Try.f59 fun e w' => ∃ v, e = .returned v ∧ OL W v (listTo d 8) w')) (bodyPost Try.prog Try.f59 fun e w' => ∃ v, e = .returned v ∧ OL W v (listTo d 8) w')))) a' W2 := by
      intro a' v' W2 hz h1 x0 x2 x4 h2
      have hmu : ∀ b : Act, b.eval (.tmp 4) = .int .i64 ((n + 1 : Nat) : Int) → 8 - (intOf (b.eval (.tmp 4))).toNat < 8 - (intOf (a.eval (.tmp 4))).toNat := by
        intro b e
        rw [e, t4]
        simp only [intOf]
        omega
      refine region_p 2 ?_
      intro K hK
      refine ListK.bin (i := 0) (u := .int .i64 n) (u' := .int .i64 1) rfl x4 rfl (add3 (by omega) (by omega) _) ?_
      refine ListK.move (i := 1) (v := .int .i64 ((n + 1 : Nat) : Int)) rfl (by simp [hz]) ?_
      exact ListK.done (hK _ _ ⟨⟨n + 1, v', by omega, by simp only [size_put, hz], by simp only [defers_put, h1], (by simp [x0]), (by simp [x2]), (by simp [hz]), h2⟩, hmu _ (by simp [hz])⟩)
    refine wpIn_seq (wpIn_block (wpIn_seq (region_p 2 ?_)))
    intro K hK
    refine ListK.move (i := 0) (v := .int .i64 n) rfl (by simp [t4]) ?_
    refine ListK.assign (i := 1) (v := .int .i64 n) rfl (by simp [hsz]) ?_
    refine ListK.done (hK _ _ ?_)
    clear hK K
    refine wpIn_seq (region_p 3 ?_)
    intro K hK
    refine ListK.move (i := 0) (v := .int .i64 d) rfl (by simp [t0]) ?_
    refine ListK.move (i := 1) (v := .int .i64 n) rfl (by simp [hsz]) ?_
    refine ListK.call (i := 2) (vs := #[.int .i64 d, .int .i64 n]) rfl (enters_of Try.func74 (by kernel_rfl) rfl) (by simp [hsz]) ((has_any d n _ hd (by omega)).mono ?_)
    rintro _ _ ⟨rfl, rfl⟩
    refine ⟨_, rfl, ListK.done (hK _ _ ?_)⟩
    clear hK K
    have hll := listTo_length d n
    cases hb : d.testBit n with
    | false =>
      refine wpIn_cond (t := false) (by simp [hsz]) (wpIn_skip ?_)
      refine hend _ v _ (by simp only [size_put, hsz]) (by simp only [defers_put, hdf]) (by simp [t0]) (by simp [t2]) (by simp [t4]) ?_
      rw [show listTo d (n + 1) = listTo d n by simp [listTo, hb]]
      exact hol
    | true =>
      refine wpIn_cond (t := true) (by simp [hsz]) ?_
      refine region_p 5 ?_
      intro K hK
      refine ListK.move (i := 0) (v := v) rfl (by simp [t2]) ?_
      refine ListK.move (i := 1) (v := .int .i64 n) rfl (by simp [hsz]) ?_
      refine ListK.buildS (i := 2) (ps := #[(0, .int .i64 n)]) rfl (by simp [hsz]) (bs25_1 _ _) ?_
      have hol1 := hol.below ((Below.refl _ W').alloc (Nat.le_refl _) (.cells #[.int .i64 n] 3))
      refine ListK.append (i := 3) rfl hol1.own (by simp [hsz]) ⟨W'.heap.size, 0, none⟩ 1 [.int .i64 n] (by simp [hsz]) rfl (news1 (cell_new1 W' _ _)) (by simp [Value.oneCell']) (by unfold maxLen; omega) (by omega) hol1.low.size ?_
      intro g cap W2 hown hgr hat
      refine ListK.assign (i := 4) (v := .slice (some ⟨g, 0, none⟩) ((listTo d n).length + 1) cap) rfl (by simp [hsz]) ?_
      refine ListK.done (hK _ _ ?_)
      refine hend _ (.slice (some ⟨g, 0, none⟩) ((listTo d n).length + 1) cap) _ (by simp only [size_put, hsz]) (by simp only [defers_put, hdf]) (by simp [t0]) (by simp [hsz]) (by simp [t4]) ?_
      rw [show listTo d (n + 1) = listTo d n ++ [(n : Int)] by simp [listTo, hb]]
      exact hol1.app hown hgr
  · obtain rfl : n = 8 := by omega
    refine wpIn_seq (wpIn_cond (t := false) (by simp [hsz]) (wpIn_exit ?_))
    refine wpIn_seq (region_p 2 ?_)
    intro K hK
    refine ListK.move (i := 0) (v := v) rfl (by simp [t2]) ?_
    refine ListK.assign (i := 1) (v := v) rfl (by simp [hsz]) ?_
    refine ListK.done (hK _ _ (wpIn_ret ?_))
    show bodyPost Try.prog Try.f59 (fun e w' => ∃ v, e = .returned v ∧ OL W v (listTo d 8) w') Exit.ret _ _
    exact bodyPost_ret (v := v) (res1 Try.results59 (by simp [hsz])) (by simp only [defers_put, hdf]) ⟨v, rfl, hol⟩
end Go.Proofs.Ytfcnombmphophaa
namespace Go.Proofs.Ytfcnombmphophaa
open Go.RowKit Go.Shelf

theorem Try.info61 : (Try.prog.info? 61).map (fun i => (i.zero, i.size, i.bytes)) = some (some (.agg #[.int .i64 0, .int .i64 0, .int .i64 0, .int .i64 0, .int .i64 0]), 5, 40) := by kernel_rfl
/-- The cells of a sale. -/
def saleL (s : Sale) : List Value := [.int .i64 s.src, .int .i64 s.dst, .int .i64 s.many, .int .i64 s.lo, .int .i64 s.hi]
def salesL (l : List Sale) : List Value := l.flatMap saleL
theorem salesL_app (l : List Sale) (s : Sale) : salesL (l ++ [s]) = salesL l ++ saleL s := by simp [salesL]
theorem salesL_at : ∀ (l : List Sale) (k : Nat) (s : Sale), l[k]? = some s → ∀ j, j < 5 → (salesL l)[k * 5 + j]? = (saleL s)[j]?
  | [], k, s, h, _, _ => by simp at h
  | x :: l, 0, s, h, j, hj => by
    simp at h
    subst h
    show (saleL x ++ salesL l)[0 * 5 + j]? = _
    rw [List.getElem?_append_left (by simp [saleL]; omega)]
    simp
  | x :: l, k + 1, s, h, j, hj => by
    have := salesL_at l k s (by simpa using h) j hj
    show (saleL x ++ salesL l)[(k + 1) * 5 + j]? = _
    rw [List.getElem?_append_right (by simp [saleL]; omega)]
    rw [show (k + 1) * 5 + j - (saleL x).length = k * 5 + j by simp [saleL]; omega]
    exact this
/-- A list of sales that is owned reads as it should. -/
theorem sales_of_owns {W : World} {base : Nat} {v : Value} {xs : List Sale} (h : W.ownsRow base 61 5 v xs.length (salesL xs)) : ∃ A c, v = .slice A xs.length c ∧ SalesAt W W.heap.size A xs := by
  rcases h.2 with ⟨rfl, h0⟩ | ⟨g, cap, cur, rfl, hb, hg, hc, _⟩
  · refine ⟨none, 0, by rw [h0], fun k x hx => ?_⟩
    have : xs = [] := List.eq_nil_of_length_eq_zero h0
    subst this
    simp at hx
  · refine ⟨_, cap, rfl, fun k s hs => ⟨g, 0, rfl, (Array.getElem?_eq_some_iff.1 hg).1, ?_⟩⟩
    have hcell : ∀ j u, (salesL xs)[j]? = some u → W.cell? ⟨g, j, none⟩ = some u := by
      intro j u hu
      have := h.cells (g := g) rfl j u hu
      simp only [Addr.add] at this
      split at this
      · rename_i h0
        subst h0
        simpa using this
      · simpa using this
    have hat := salesL_at xs k s hs
    refine ⟨?_, ?_, ?_, ?_, ?_⟩
    · exact (congrArg (fun q => W.cell? ⟨g, q, none⟩) (by omega)).trans (hcell (k * 5 + 0) _ (hat 0 (by omega)))
    · exact (congrArg (fun q => W.cell? ⟨g, q, none⟩) (by omega)).trans (hcell (k * 5 + 1) _ (hat 1 (by omega)))
    · exact (congrArg (fun q => W.cell? ⟨g, q, none⟩) (by omega)).trans (hcell (k * 5 + 2) _ (hat 2 (by omega)))
    · exact (congrArg (fun q => W.cell? ⟨g, q, none⟩) (by omega)).trans (hcell (k * 5 + 3) _ (hat 3 (by omega)))
    · exact (congrArg (fun q => W.cell? ⟨g, q, none⟩) (by omega)).trans (hcell (k * 5 + 4) _ (hat 4 (by omega)))

/-- The sales but for those of d. -/
def withoutTo (l : List Sale) (d : Nat) : Nat → List Sale
  | 0 => []
  | k + 1 => if d.testBit k = true then withoutTo l d k else withoutTo l d k ++ [saleOf l k]
def withoutL (l : List Sale) (d : Nat) : List Sale := withoutTo l d l.length
theorem withoutTo_length (l : List Sale) (d n : Nat) : (withoutTo l d n).length ≤ n := by
  induction n with
  | zero => simp [withoutTo]
  | succ n ih =>
    unfold withoutTo
    split
    · omega
    · simp; omega

section
variable {ops : Array Oper} {K : Act → World → Prop} {k i d : Nat} {a : Act} {w : World} {ty : TypeId} {pos : String} {aft : Array Edge}
theorem ListK.append61 {s x : Operand} (hi : ops[i]? = some ⟨some d, .call { callee := .builtin .append, args := #[s, x], argTypes := #[29, 29] }, ty, pos, aft, none⟩)
    {base n : Nat} {v : Value} {xs : List Value} (hown : w.ownsRow base 61 5 v n xs) (hs : a.eval s = v) (ad : Addr) (c : Nat) (news : List Value) (hx : a.eval x = .slice (some ad) 1 c) (hl : news.length = 5)
    (hnews : ∀ j u, news[j]? = some u → w.cell? (ad.add j) = some u) (h1 : ∀ u ∈ news, u.oneCell' = true) (h63 : n + 1 ≤ maxLen) (hbytes : (n + 1) * 40 ≤ 140737488355328) (hbase : base ≤ w.heap.size)
    (h : ∀ g cap w', w'.ownsRow base 61 5 (.slice (some ⟨g, 0, none⟩) (n + 1) cap) (n + 1) (xs ++ news) → w.grownBy w' v.ownBlock → (v.ownBlock = some g ∨ g = w.heap.size) → ListK Try.prog ops K k (i + 1) (a.put (some d) (.slice (some ⟨g, 0, none⟩) (n + 1) cap)) w') :
    ListK Try.prog ops K (k + 1) i a w := by
  obtain ⟨i0, hi0, hi1, hi2, hi3⟩ := info_parts Try.info61
  obtain ⟨g, cap, w', hr, h2, h3, h4, h5⟩ := run_append_lies (P := Try.prog) w 29 ty base 61 i0 _ 5 40 Try.underlying29 hi0 hi1 hi2 hi3 rfl (by omega) v n xs hown ad 1 c news (by simpa using hl) hnews h1 (by omega) h63 hbytes hbase w.heap.size rfl
  refine ListK.val hi rfl ?_ (h g cap w' h2 h3 h4)
  simp [execOp, resolve, invoke, builtin, hs, hx, hr]
theorem ListK.len {x : Operand} {tys : Array TypeId} {u v : Value} (hi : ops[i]? = some ⟨some d, .call { callee := .builtin .len, args := #[x], argTypes := tys }, ty, pos, aft, none⟩) (hx : a.eval x = u) (hv : (builtin .len tys ty #[false] #[u]).run Try.prog w = .ok (.value v) w) (hc : (match x with | .const _ => true | _ => false) = false)
    (h : ListK Try.prog ops K k (i + 1) (a.put (some d) v) w) : ListK Try.prog ops K (k + 1) i a w :=
  ListK.val hi rfl (by cases x <;> simp_all [execOp, resolve, invoke]) h
theorem ListK.un {b : UnOp} {t : TypeId} {x : Operand} {u v : Value} {gd : Option (Nat × Bool)} (hi : ops[i]? = some ⟨some d, .unOp b t x, ty, pos, aft, gd⟩) (hx : a.eval x = u) (hv : (Op.unary b u).run Try.prog w = .ok v w)
    (h : ListK Try.prog ops K k (i + 1) (a.put (some d) v) w) (hw : Region.wanted ⟨some d, .unOp b t x, ty, pos, aft, gd⟩ (yielded ops a.tmps) = true := by rfl) : ListK Try.prog ops K (k + 1) i a w :=
  ListK.valW hi hw (by simp [execOp, hx, hv]) h
end
theorem not4 (b : Bool) (w : World) : (Op.unary .not (.bool b)).run Try.prog w = .ok (.bool !b) w := by
  go_simp
theorem al31 (w : World) : (Instr.alloc 31 true (.tuple #[])).run Try.prog w = .ok (.pointer (some ⟨w.heap.size, 0, none⟩)) (w.alloc (.cells #[.int .i64 0, .int .i64 0, .slice none 0 0] 31)) := by
  go_simp
theorem fa31_1 {b o : Nat} (w : World) : (Instr.fieldAt 31 (.pointer (some ⟨b, o, none⟩)) 1).run Try.prog w = .ok (.pointer (some ⟨b, o + 1, none⟩)) w := by
  go_simp
theorem bd31 (x y : Int) (w : World) : (Instr.build 31 #[(0, .int .i64 x), (1, .int .i64 y)]).run Try.prog w = .ok (.agg #[.int .i64 x, .int .i64 y, .slice none 0 0]) w := by
  go_simp
theorem st31n (w : World) (x y : Int) (A : Option Addr) (n c : Nat) : (Instr.storeAt 31 (.pointer (some ⟨w.heap.size, 0, none⟩)) (.agg #[.int .i64 x, .int .i64 y, .slice A n c])).run Try.prog (w.alloc (.cells #[.int .i64 0, .int .i64 0, .slice none 0 0] 31)) = .ok () (w.alloc (.cells #[.int .i64 x, .int .i64 y, .slice A n c] 31)) := by
  go_simp
theorem st31 {w : World} {b : Nat} {u1 u2 u3 : Value} {x y : Int} {A : Option Addr} {n c : Nat} (h0 : w.cell? ⟨b, 0, none⟩ = some u1) (h1 : w.cell? ⟨b, 1, none⟩ = some u2) (h2 : w.cell? ⟨b, 2, none⟩ = some u3) (f0 : w.frozen? ⟨b, 0, none⟩ = false) (f1 : w.frozen? ⟨b, 1, none⟩ = false) (f2 : w.frozen? ⟨b, 2, none⟩ = false) :
    (Instr.storeAt 31 (.pointer (some ⟨b, 0, none⟩)) (.agg #[.int .i64 x, .int .i64 y, .slice A n c])).run Try.prog w = .ok () (((w.setCell ⟨b, 0, none⟩ (.int .i64 x)).setCell ⟨b, 1, none⟩ (.int .i64 y)).setCell ⟨b, 2, none⟩ (.slice A n c)) := by
  go_simp
theorem ld61 {w : World} {b o : Nat} {s : Sale} (h0 : w.cell? ⟨b, o, none⟩ = some (.int .i64 s.src)) (h1 : w.cell? ⟨b, o + 1, none⟩ = some (.int .i64 s.dst)) (h2 : w.cell? ⟨b, o + 2, none⟩ = some (.int .i64 s.many)) (h3 : w.cell? ⟨b, o + 3, none⟩ = some (.int .i64 s.lo)) (h4 : w.cell? ⟨b, o + 4, none⟩ = some (.int .i64 s.hi)) :
    (Instr.loadAt 61 (.pointer (some ⟨b, o, none⟩))).run Try.prog w = .ok (saleV s) w := by
  go_simp
theorem bs29_1 (s : Sale) (w : World) : (Instr.buildSlice 29 1 #[(0, saleV s)]).run Try.prog w = .ok (.slice (some ⟨w.heap.size, 0, none⟩) 1 1) (w.alloc (.cells (saleC s) 61)) := by
  go_simp
theorem st29 {w : World} {p : Addr} {v : Value} {A : Option Addr} {n c : Nat} (h : w.cell? p = some v) (hf : w.frozen? p = false) : (Instr.storeAt 29 (.pointer (some p)) (.slice A n c)).run Try.prog w = .ok () (w.setCell p (.slice A n c)) := by
  go_simp
theorem res31 {fn : Func} {k b : Nat} {W : World} {a : Act} {x y z : Value} (h : fn.results = #[.cell k 31]) (he : a.eval (.tmp k) = .pointer (some ⟨b, 0, none⟩)) (h0 : W.cell? ⟨b, 0, none⟩ = some x) (h1 : W.cell? ⟨b, 1, none⟩ = some y) (h2 : W.cell? ⟨b, 2, none⟩ = some z) :
    (results fn a.tmps).run Try.prog W = .ok (.agg #[x, y, z]) W := by
  have he' : a.tmps[k]?.getD undef = .pointer (some ⟨b, 0, none⟩) := by simpa [Act.eval] using he
  simp only [results, h]
  simp [he']
  go_simp
end Go.Proofs.Ytfcnombmphophaa
namespace Go.Proofs.Ytfcnombmphophaa
open Go.RowKit Go.Shelf

noncomputable def opsO0 : Array Oper := (Try.f60.body.bind (regionOf 0)).getD #[]
noncomputable def opsO1 : Array Oper := (Try.f60.body.bind (regionOf 1)).getD #[]
noncomputable def opsO2 : Array Oper := (Try.f60.body.bind (regionOf 2)).getD #[]
noncomputable def opsO3 : Array Oper := (Try.f60.body.bind (regionOf 3)).getD #[]
noncomputable def opsO4 : Array Oper := (Try.f60.body.bind (regionOf 4)).getD #[]
noncomputable def opsO5 : Array Oper := (Try.f60.body.bind (regionOf 5)).getD #[]
noncomputable def opsO6 : Array Oper := (Try.f60.body.bind (regionOf 6)).getD #[]
noncomputable def opsO7 : Array Oper := (Try.f60.body.bind (regionOf 7)).getD #[]
noncomputable def opsO8 : Array Oper := (Try.f60.body.bind (regionOf 8)).getD #[]
noncomputable def roundO : Code := .seq (.region 3 opsO3 false) (.seq (.cond (.tmp 17) .skip (.exit 0)) (.seq (.block 1 (.seq (.region 4 opsO4 false) (.seq (.region 5 opsO5 false) (.cond (.tmp 24) (.region 6 opsO6 false) .skip)))) (.region 7 opsO7 false)))
noncomputable def lastO : Code := .seq (.region 8 opsO8 false) .ret
noncomputable def code60 : Code := .seq (.region 0 opsO0 false) (.seq (.region 1 opsO1 false) (.seq (.seq (.region 2 opsO2 false) (.block 0 (.loop roundO))) lastO))
theorem body60 : Try.f60.body = some code60 := by kernel_rfl

/-- The memory of without: the batch at block h, the result at h + 1, what is made at h + 2; a list of sales that is owned. -/
structure WM (w : World) (h : Nat) (o t : Int) (A : Option Addr) (n c : Nat) (v : Value) (xs : List Sale) (W : World) : Prop where
  kb : Whole W h 31 #[.int .i64 o, .int .i64 t, .slice A n c]
  kr : Whole W (h + 1) 31 #[.int .i64 0, .int .i64 0, .slice none 0 0]
  kx : Whole W (h + 2) 31 #[.int .i64 o, .int .i64 t, v]
  low : Below h w W
  own : W.ownsRow (h + 3) 61 5 v xs.length (salesL xs)
section
variable {w W W' : World} {h : Nat} {o t : Int} {A : Option Addr} {n c : Nat} {v : Value} {xs : List Sale}
theorem WM.base (b : WM w h o t A n c v xs W) : h + 3 ≤ W.heap.size := b.kx.lt
theorem WM.below (b : WM w h o t A n c v xs W) (hb : Below W.heap.size W W') : WM w h o t A n c v xs W' :=
  ⟨b.kb.below hb b.kb.lt, b.kr.below hb b.kr.lt, b.kx.below hb b.kx.lt, b.low.trans (hb.mono (by have := b.base; omega)), b.own.kept (grown_of_below hb) (by cases v.ownBlock <;> simp)⟩
theorem WM.far (b : WM w h o t A n c v xs W) {g : Nat} (hg : g < h + 3) : some g ≠ v.ownBlock := fun e => by have := (b.own.lt g e.symm).1; omega
/-- The list has grown, and is kept. -/
theorem WM.put (b : WM w h o t A n c v xs W) {g cap : Nat} {s : Sale} (hown : W'.ownsRow (h + 3) 61 5 (.slice (some ⟨g, 0, none⟩) (xs.length + 1) cap) (xs.length + 1) (salesL xs ++ saleL s)) (hgr : W.grownBy W' v.ownBlock) :
    WM w h o t A n c (.slice (some ⟨g, 0, none⟩) (xs.length + 1) cap) (xs ++ [s]) (W'.setCell ⟨h + 2, 2, none⟩ (.slice (some ⟨g, 0, none⟩) (xs.length + 1) cap)) := by
  have k0 : Whole W' h 31 _ := (hgr.block _ b.kb.lt (b.far (by omega))).trans b.kb
  have k1 : Whole W' (h + 1) 31 _ := (hgr.block _ b.kr.lt (b.far (by omega))).trans b.kr
  have k2 : Whole W' (h + 2) 31 _ := (hgr.block _ b.kx.lt (b.far (by omega))).trans b.kx
  have hlo : Below h w W' := b.low.grown hgr (by have := b.base; omega) (fun k e => by have := (b.own.lt k e).1; omega)
  refine ⟨k0.far (by simp) _, k1.far (by simp) _, k2.set 2 _, hlo.setCell (p := ⟨h + 2, 2, none⟩) (by simp) _, ?_⟩
  rw [salesL_app]
  refine World.ownsRow.kept ?_ (grown_set W' ⟨h + 2, 2, none⟩ _) (.inr ?_)
  · simpa using hown
  · intro e
    have hg : g = h + 2 := by simpa [Value.ownBlock] using e
    have := (hown.lt g rfl).1
    omega
end

structure FrO (a : Act) (h d n i : Nat) (A : Option Addr) (c : Nat) : Prop where
  sz : a.tmps.size = 33
  df : a.defers = []
  t1 : a.eval (.tmp 1) = .int .i64 d
  t4 : a.eval (.tmp 4) = .pointer (some ⟨h + 1, 0, none⟩)
  t5 : a.eval (.tmp 5) = .pointer (some ⟨h + 2, 0, none⟩)
  t14 : a.eval (.tmp 14) = .slice A n c
  t15 : a.eval (.tmp 15) = .int .i64 n
  t16 : a.eval (.tmp 16) = .int .i64 i
theorem FrO.of {a a' : Act} {h d n i : Nat} {A : Option Addr} {c : Nat} (f : FrO a h d n i A c) (h1 : a'.tmps.size = 33) (h2 : a'.defers = a.defers) (h3 : ∀ e : Nat, (e = 1 ∨ e = 4 ∨ e = 5 ∨ e = 14 ∨ e = 15 ∨ e = 16) → a'.eval (.tmp e) = a.eval (.tmp e)) : FrO a' h d n i A c :=
  ⟨h1, h2.trans f.df, (h3 1 (by omega)).trans f.t1, (h3 4 (by omega)).trans f.t4, (h3 5 (by omega)).trans f.t5, (h3 14 (by omega)).trans f.t14, (h3 15 (by omega)).trans f.t15, (h3 16 (by omega)).trans f.t16⟩

theorem news5 {W : World} (s : Sale) (t : TypeId) : ∀ j u, (saleL s)[j]? = some u → (W.alloc (.cells (saleC s) t)).cell? ((⟨W.heap.size, 0, none⟩ : Addr).add j) = some u := by
  intro j u hu
  have := (Whole.new W t (saleC s)).cell j
  simp only [Addr.add]
  split
  · rename_i h0
    subst h0
    rw [this]
    simpa [saleL] using hu
  · simp only [Nat.zero_add]
    rw [this]
    simpa [saleL] using hu

set_option maxHeartbeats 1000000 in
theorem without_loop {Q : Exit → Act → World → Prop} {a : Act} {w W : World} {h d c : Nat} {o t : Int} {A : Option Addr} {l : List Sale} (hd : d < 65536) (hl : l.length ≤ 60) (hs : SalesAt w h A l) (fr : FrO a h d l.length 0 A c) (hm : WM w h o t A l.length c (.slice none 0 0) [] W)
    (hQ : ∀ a' W' v, FrO a' h d l.length l.length A c → WM w h o t A l.length c v (withoutL l d) W' → Q .normal a' W') : (Code.block 0 (.loop roundO)).wpIn Fence.wide 5 Try.prog Q a W := by
  refine wpIn_block (wpIn_loop (fun a W' => ∃ (i : Nat) (v : Value), i ≤ l.length ∧ FrO a h d l.length i A c ∧ WM w h o t A l.length c v (withoutTo l d i) W') (fun a _ => l.length - (intOf (a.eval (.tmp 16))).toNat) ⟨0, _, Nat.zero_le _, fr, hm⟩ ?_)
  clear fr hm a W
  rintro a W ⟨i, v, hi, fr, hm⟩
  have hsz := fr.sz
  refine wpIn_seq (region_p 1 ?_)
  intro K hK
  refine ListK.bin (i := 0) (u := .int .i64 i) (u' := .int .i64 l.length) rfl fr.t16 fr.t15 (lss3 _) ?_
  refine ListK.done (hK _ _ ?_)
  clear hK K
  by_cases hlt : i < l.length
  · refine wpIn_seq (wpIn_cond (t := true) (by simp [hsz]; omega) (wpIn_skip ?_))
    have hend : ∀ (a' : Act) (v' : Value) (W' : World), FrO a' h d l.length i A c → WM w h o t A l.length c v' (withoutTo l d (i + 1)) W' →
        (Code.region 7 opsO7 false).wpIn Fence.wide 5 Try.prog (Exit.then (fun a' W' => (∃ (i : Nat) (v : Value), i ≤ l.length ∧ FrO a' h d l.length i A c ∧ WM w h o t A l.length c v (withoutTo l d i) W') ∧ l.length - (intOf (a'.eval (.tmp 16))).toNat < l.length - (intOf (a.eval (.tmp 16))).toNat) (Exit.inBlock 0 Q)) a' W' := by
      intro a' v' W' f h1
      have hz := f.sz
      have hmu : ∀ b : Act, b.eval (.tmp 16) = .int .i64 ((i + 1 : Nat) : Int) → l.length - (intOf (b.eval (.tmp 16))).toNat < l.length - (intOf (a.eval (.tmp 16))).toNat := by
        intro b e
        rw [e, fr.t16]
        simp only [intOf]
        omega
      refine region_p 2 ?_
      intro K hK
      refine ListK.bin (i := 0) (u := .int .i64 i) (u' := .int .i64 1) rfl f.t16 rfl (add3 (by omega) (by omega) _) ?_
      refine ListK.move (i := 1) (v := .int .i64 ((i + 1 : Nat) : Int)) rfl (by simp [hz]) ?_
      exact ListK.done (hK _ _ ⟨⟨i + 1, v', by omega, ⟨by simp only [size_put, hz], by simp only [defers_put, f.df], (by simp [f.t1]), (by simp [f.t4]), (by simp [f.t5]), (by simp [f.t14]), (by simp [f.t15]), (by simp [hz])⟩, h1⟩, hmu _ (by simp [hz])⟩)
    obtain ⟨b, off, hA, hbB, s0, s1, s2, s3, s4⟩ := sale_cells (hs.below hm.low (Nat.le_refl _)) hlt
    subst hA
    refine wpIn_seq (wpIn_block (wpIn_seq (region_p 6 ?_)))
    intro K hK
    refine ListK.move (i := 0) (v := .int .i64 i) rfl (by simp [fr.t16]) ?_
    refine ListK.index (i := 1) (u := .slice (some ⟨b, off, none⟩) l.length c) (u' := .int .i64 i) (v := .pointer (some ⟨b, off + i * 5, none⟩)) rfl (by simp [fr.t14]) (by simp [fr.t16]) (ix29 hlt _) ?_
    refine ListK.load (i := 2) (p := ⟨b, off + i * 5, none⟩) (v := saleV (saleOf l i)) rfl (by simp [hsz]) (ld61 s0 s1 s2 s3 s4) ?_
    refine ListK.alloc (i := 3) rfl (al61 W) ?_
    refine ListK.assign (i := 4) (v := .int .i64 i) rfl (by simp [hsz]) ?_
    refine ListK.store (i := 5) (u := .pointer (some ⟨W.heap.size, 0, none⟩)) (u' := saleV (saleOf l i)) rfl (by simp [hsz]) (by simp [hsz]) (sa61 W _ _ _ _ _) ?_
    refine ListK.done (hK _ _ ?_)
    clear hK K
    have hwx := Whole.new W 61 (saleC (saleOf l i))
    have hm1 := hm.below ((Below.refl _ W).alloc (Nat.le_refl _) (.cells (saleC (saleOf l i)) 61))
    generalize W.alloc (.cells (saleC (saleOf l i)) 61) = W1 at *
    generalize W.heap.size = bx at *
    refine wpIn_seq (region_p 4 ?_)
    intro K hK
    refine ListK.move (i := 0) (v := .int .i64 d) rfl (by simp [fr.t1]) ?_
    refine ListK.move (i := 1) (v := .int .i64 i) rfl (by simp [hsz]) ?_
    refine ListK.call (i := 2) (vs := #[.int .i64 d, .int .i64 i]) rfl (enters_of Try.func74 (by kernel_rfl) rfl) (by simp [hsz]) ((has_any d i _ hd (by omega)).mono ?_)
    rintro _ _ ⟨rfl, rfl⟩
    refine ⟨_, rfl, ?_⟩
    refine ListK.un (i := 3) (u := .bool (d.testBit i)) (v := .bool (!d.testBit i)) rfl (by simp [hsz]) (not4 _ _) ?_
    refine ListK.done (hK _ _ ?_)
    clear hK K
    have hll := withoutTo_length l d i
    cases hb : d.testBit i with
    | true =>
      refine wpIn_cond (t := false) (by simp [hsz]) (wpIn_skip ?_)
      refine hend _ v _ (fr.of (by simp only [size_put, hsz]) (by simp only [defers_put]) ?_) ?_
      · rintro e (rfl | rfl | rfl | rfl | rfl | rfl) <;> simp
      · rw [show withoutTo l d (i + 1) = withoutTo l d i by simp [withoutTo, hb]]
        exact hm1
    | false =>
      refine wpIn_cond (t := true) (by simp [hsz]) ?_
      refine region_p 7 ?_
      intro K hK
      refine ListK.field (i := 0) (u := .pointer (some ⟨h + 2, 0, none⟩)) (v := .pointer (some ⟨h + 2, 2, none⟩)) rfl (by simp [fr.t5]) (fa31_2 _) ?_
      refine ListK.load (i := 1) (p := ⟨h + 2, 2, none⟩) (v := v) rfl (by simp [hsz]) (ld29 (hm1.kx.cell 2)) ?_
      refine ListK.load (i := 2) (p := ⟨bx, 0, none⟩) (v := saleV (saleOf l i)) rfl (by simp [hsz]) (ld61 (hwx.cell 0) (hwx.cell 1) (hwx.cell 2) (hwx.cell 3) (hwx.cell 4)) ?_
      refine ListK.buildS (i := 3) (ps := #[(0, saleV (saleOf l i))]) rfl (by simp [hsz]) (bs29_1 _ _) ?_
      have hm2 := hm1.below ((Below.refl _ W1).alloc (Nat.le_refl _) (.cells (saleC (saleOf l i)) 61))
      have hnw := news5 (W := W1) (saleOf l i) 61
      generalize W1.alloc (.cells (saleC (saleOf l i)) 61) = W2 at *
      refine ListK.append61 (i := 4) rfl hm2.own (by simp [hsz]) ⟨W1.heap.size, 0, none⟩ 1 (saleL (saleOf l i)) (by simp [hsz]) rfl hnw (by simp [saleL, Value.oneCell']) (by unfold maxLen; omega) (by omega) hm2.base ?_
      intro g cap W3 hown hgr hat
      have hm3 := hm2.put hown hgr
      have hc2 : W3.cell? ⟨h + 2, 2, none⟩ = some v := (hgr.cell (hm2.kx.cell 2) (hm2.far (by simp)))
      have hf2 : W3.frozen? ⟨h + 2, 2, none⟩ = false := (hgr.frozen_far ⟨h + 2, 2, none⟩ hm2.kx.lt (hm2.far (by simp))).trans (hm2.kx.frozen 2)
      refine ListK.field (i := 5) (u := .pointer (some ⟨h + 2, 0, none⟩)) (v := .pointer (some ⟨h + 2, 2, none⟩)) rfl (by simp [fr.t5]) (fa31_2 _) ?_
      refine ListK.store (i := 6) (u := .pointer (some ⟨h + 2, 2, none⟩)) (u' := .slice (some ⟨g, 0, none⟩) ((withoutTo l d i).length + 1) cap) rfl (by simp [hsz]) (by simp [hsz]) (st29 hc2 hf2) ?_
      refine ListK.done (hK _ _ ?_)
      refine hend _ (.slice (some ⟨g, 0, none⟩) ((withoutTo l d i).length + 1) cap) _ (fr.of (by simp only [size_put, hsz]) (by simp only [defers_put]) ?_) ?_
      · rintro e (rfl | rfl | rfl | rfl | rfl | rfl) <;> simp
      · rw [show withoutTo l d (i + 1) = withoutTo l d i ++ [saleOf l i] by simp [withoutTo, hb]]
        exact hm3
  · obtain rfl : i = l.length := by omega
    refine wpIn_seq (wpIn_cond (t := false) (by simp [hsz]) (wpIn_exit ?_))
    refine hQ _ _ v (fr.of (by simp only [size_put, hsz]) (by simp only [defers_put]) ?_) hm
    rintro e (rfl | rfl | rfl | rfl | rfl | rfl) <;> simp

set_option maxHeartbeats 1000000 in
theorem without_any (o t : Int) (A : Option Addr) (l : List Sale) (c d : Nat) (w : World) (hd : d < 65536) (hl : l.length ≤ 60) (hs : SalesAt w w.heap.size A l) :
    Calls Try.prog 60 #[.agg #[.int .i64 o, .int .i64 t, .slice A l.length c], .int .i64 d] w
      fun e w' => ∃ A' c', e = .returned (.agg #[.int .i64 o, .int .i64 t, .slice A' (withoutL l d).length c']) ∧ SalesAt w' w'.heap.size A' (withoutL l d) ∧ Below w.heap.size w w' := by
  obtain ⟨h, hh⟩ : ∃ h, h = w.heap.size := ⟨_, rfl⟩
  refine (callsIn_wide (n := 5)).1 (callsIn_of_wp Try.func60 body60 trivial ?_ rfl)
  obtain ⟨a, ha⟩ : ∃ a : Act, a = { tmps := #[.agg #[.int .i64 o, .int .i64 t, .slice A l.length c], .int .i64 d] ++ Array.replicate (Try.f60.ntmps - (#[.agg #[.int .i64 o, .int .i64 t, .slice A l.length c], .int .i64 d] : Array Value).size) undef, defers := [] } := ⟨_, rfl⟩
  have hsz : a.tmps.size = 33 := by rw [ha]; simp [Try.ntmps60]
  have t0 : a.eval (.tmp 0) = .agg #[.int .i64 o, .int .i64 t, .slice A l.length c] := by rw [ha]; simp [Act.eval]
  have t1 : a.eval (.tmp 1) = .int .i64 d := by rw [ha]; simp [Act.eval]
  have hdf : a.defers = [] := by rw [ha]
  rw [← ha]
  clear ha
  unfold code60
  refine wpIn_seq (region_p 2 ?_)
  intro K hK
  refine ListK.box (i := 0) (u := .agg #[.int .i64 o, .int .i64 t, .slice A l.length c]) rfl t0 (bx31 w _ _ _ _ _) ?_
  refine ListK.alloc (i := 1) rfl (al31 _) ?_
  refine ListK.done (hK _ _ ?_)
  clear hK K
  have wb := (Whole.new w 31 #[.int .i64 o, .int .i64 t, .slice A l.length c]).alloc (.cells #[.int .i64 0, .int .i64 0, .slice none 0 0] 31)
  have wr := Whole.new (w.alloc (.cells #[.int .i64 o, .int .i64 t, .slice A l.length c] 31)) 31 #[.int .i64 0, .int .i64 0, .slice none 0 0]
  have hB1 : Below w.heap.size w ((w.alloc (.cells #[.int .i64 o, .int .i64 t, .slice A l.length c] 31)).alloc (.cells #[.int .i64 0, .int .i64 0, .slice none 0 0] 31)) := ((Below.refl _ w).alloc (Nat.le_refl _) _).alloc (by simp) _
  have hz1 : ((w.alloc (.cells #[.int .i64 o, .int .i64 t, .slice A l.length c] 31)).alloc (.cells #[.int .i64 0, .int .i64 0, .slice none 0 0] 31)).heap.size = h + 2 := by simp [hh]
  rw [World.size_alloc] at wr ⊢
  generalize (w.alloc (.cells #[.int .i64 o, .int .i64 t, .slice A l.length c] 31)).alloc (.cells #[.int .i64 0, .int .i64 0, .slice none 0 0] 31) = W1 at *
  rw [← hh] at wb wr hB1 hs ⊢
  refine wpIn_seq (region_p 7 ?_)
  intro K hK
  refine ListK.field (i := 0) (u := .pointer (some ⟨h, 0, none⟩)) (v := .pointer (some ⟨h, 0, none⟩)) rfl (by simp [hsz]) (fa31_0 _) ?_
  refine ListK.load (i := 1) (p := ⟨h, 0, none⟩) (v := .int .i64 o) rfl (by simp [hsz]) (ld3 (wb.cell 0)) ?_
  refine ListK.field (i := 2) (u := .pointer (some ⟨h, 0, none⟩)) (v := .pointer (some ⟨h, 1, none⟩)) rfl (by simp [hsz]) (fa31_1 _) ?_
  refine ListK.load (i := 3) (p := ⟨h, 1, none⟩) (v := .int .i64 t) rfl (by simp [hsz]) (ld3 (wb.cell 1)) ?_
  refine ListK.bld (i := 4) (ps := #[(0, .int .i64 o), (1, .int .i64 t)]) (v := .agg #[.int .i64 o, .int .i64 t, .slice none 0 0]) rfl (by simp [hsz]) (bd31 _ _ _) ?_
  refine ListK.alloc (i := 5) rfl (al31 W1) ?_
  refine ListK.store (i := 6) (u := .pointer (some ⟨W1.heap.size, 0, none⟩)) (u' := .agg #[.int .i64 o, .int .i64 t, .slice none 0 0]) rfl (by simp [hsz]) (by simp [hsz]) (st31n W1 _ _ _ _ _) ?_
  refine ListK.done (hK _ _ ?_)
  clear hK K
  have hm : WM w h o t A l.length c (.slice none 0 0) [] (W1.alloc (.cells #[.int .i64 o, .int .i64 t, .slice none 0 0] 31)) := by
    refine ⟨wb.alloc _, wr.alloc _, ?_, hB1.alloc (by omega) _, World.ownsRow_nil _ _ _ _⟩
    have := Whole.new W1 31 #[.int .i64 o, .int .i64 t, .slice none 0 0]
    rwa [hz1] at this
  generalize W1.alloc (.cells #[.int .i64 o, .int .i64 t, .slice none 0 0] 31) = W2 at *
  rw [hz1]
  refine wpIn_seq (wpIn_seq (region_p 4 ?_))
  intro K hK
  refine ListK.field (i := 0) (u := .pointer (some ⟨h, 0, none⟩)) (v := .pointer (some ⟨h, 2, none⟩)) rfl (by simp [hsz]) (fa31_2 _) ?_
  refine ListK.load (i := 1) (p := ⟨h, 2, none⟩) (v := .slice A l.length c) rfl (by simp [hsz]) (ld29 (hm.kb.cell 2)) ?_
  refine ListK.len (i := 2) (u := .slice A l.length c) (v := .int .i64 l.length) rfl (by simp [hsz]) (ln29 _ _ _ _ _) rfl ?_
  refine ListK.move (i := 3) (v := .int .i64 0) rfl rfl ?_
  refine ListK.done (hK _ _ ?_)
  clear hK K
  refine without_loop (h := h) (d := d) (c := c) (A := A) hd hl hs ⟨by simp only [size_put, hsz], by simp only [defers_put, hdf], (by simp [t1]), (by simp [hsz]), (by simp [hsz]), (by simp [hsz]), (by simp [hsz]), (by simp [hsz])⟩ hm ?_
  intro a4 W4 v fr hm4
  have hz4 := fr.sz
  obtain ⟨A', c', rfl, hs4⟩ := sales_of_owns hm4.own
  unfold lastO
  refine wpIn_seq (region_p 2 ?_)
  intro K hK
  refine ListK.load (i := 0) (p := ⟨h + 2, 0, none⟩) (v := .agg #[.int .i64 o, .int .i64 t, .slice A' (withoutL l d).length c']) rfl fr.t5 (ld31' ⟨hm4.kx.cell 0, hm4.kx.cell 1, hm4.kx.cell 2⟩) ?_
  refine ListK.store (i := 1) (u := .pointer (some ⟨h + 1, 0, none⟩)) (u' := .agg #[.int .i64 o, .int .i64 t, .slice A' (withoutL l d).length c']) rfl (by simp [fr.t4]) (by simp [hz4]) (st31 (hm4.kr.cell 0) (hm4.kr.cell 1) (hm4.kr.cell 2) (hm4.kr.frozen 0) (hm4.kr.frozen 1) (hm4.kr.frozen 2)) ?_
  refine ListK.done (hK _ _ (wpIn_ret ?_))
  have k3 := ((hm4.kr.set 0 (.int .i64 o)).set 1 (.int .i64 t)).set 2 (.slice A' (withoutL l d).length c')
  refine bodyPost_ret (res31 (b := h + 1) Try.results60 (by simp [fr.t4]) (k3.cell 0) (k3.cell 1) (k3.cell 2)) (by simp only [defers_put, fr.df]) ⟨A', c', rfl, ?_, ?_⟩
  · have hne : ∀ k s, (withoutL l d)[k]? = some s → ∃ b off, A' = some ⟨b, off, none⟩ ∧ b < W4.heap.size ∧ b ≠ h + 1 ∧ SaleAt W4 b off k s := by
      intro k s hks
      obtain ⟨b, off, e1, e2, e3⟩ := hs4 k s hks
      refine ⟨b, off, e1, e2, ?_, e3⟩
      rcases hm4.own.2 with ⟨e4, _⟩ | ⟨g, cap, cur, e4, e5, _⟩
      · rw [e1] at e4; cases e4
      · rw [e1] at e4; cases e4; omega
    intro k s hks
    obtain ⟨b, off, e1, e2, e3, e4⟩ := hne k s hks
    refine ⟨b, off, e1, by simpa [World.setCell] using e2, e4.keep fun i => ?_⟩
    rw [cell_set_far (by simpa using e3), cell_set_far (by simpa using e3), cell_set_far (by simpa using e3)]
  · exact ((hm4.low.setCell (p := ⟨h + 1, 0, none⟩) (by simp) _).setCell (p := ⟨h + 1, 1, none⟩) (by simp) _).setCell (p := ⟨h + 1, 2, none⟩) (by simp) _
end Go.Proofs.Ytfcnombmphophaa
namespace Go.Proofs.Ytfcnombmphophaa
open Go.RowKit Go.Shelf

def cmpI (x y : Int) : Int := if x < y then -1 else if y < x then 1 else 0
def cmpL : List Int → List Int → Int
  | [], [] => 0
  | [], _ :: _ => -1
  | _ :: _, [] => 1
  | x :: xs, y :: ys => if cmpI x y ≠ 0 then cmpI x y else cmpL xs ys

set_option maxHeartbeats 400000 in
theorem isNaN_any (x : Int) (w : World) : Calls Try.prog 83 #[.int .i64 x] w fun e w' => e = .returned (.bool false) ∧ w = w' := by
  go_enter Try.func83, Try.ntmps83
  go_wp2
  go_ret
  exact ⟨by simp, rfl⟩
set_option maxHeartbeats 400000 in
theorem cmp_any (x y : Int) (w : World) : Calls Try.prog 76 #[.int .i64 x, .int .i64 y] w fun e w' => e = .returned (.int .i64 (cmpI x y)) ∧ w = w' := by
  by_cases h1 : x < y
  · go_enter Try.func76, Try.ntmps76
    go_wp2_with (go_at_call 83; refine (isNaN_any _ _).mono ?_; rintro e w' ⟨rfl, rfl⟩)
    go_ret
    exact ⟨by simp [cmpI, h1], rfl⟩
  · by_cases h2 : y < x
    · go_enter Try.func76, Try.ntmps76
      go_wp2_with (go_at_call 83; refine (isNaN_any _ _).mono ?_; rintro e w' ⟨rfl, rfl⟩)
      go_ret
      exact ⟨by simp [cmpI, h1, h2], rfl⟩
    · go_enter Try.func76, Try.ntmps76
      go_wp2_with (go_at_call 83; refine (isNaN_any _ _).mono ?_; rintro e w' ⟨rfl, rfl⟩)
      go_ret
      exact ⟨by rw [cmpI, if_neg (by omega), if_neg (by omega)]; rfl, rfl⟩

theorem cmpL_step {xs ys : List Int} {k : Nat} (h1 : k < xs.length) (h2 : k < ys.length) : cmpL (xs.drop k) (ys.drop k) = if cmpI xs[k] ys[k] ≠ 0 then cmpI xs[k] ys[k] else cmpL (xs.drop (k + 1)) (ys.drop (k + 1)) := by
  rw [List.drop_eq_getElem_cons h1, List.drop_eq_getElem_cons h2]
  rfl
theorem cmpL_gt {xs ys : List Int} {k : Nat} (h1 : k < xs.length) (h2 : ys.length ≤ k) : cmpL (xs.drop k) (ys.drop k) = 1 := by
  rw [List.drop_eq_getElem_cons h1, List.drop_eq_nil_of_le h2]
  rfl
theorem cmpL_end {xs ys : List Int} {k : Nat} (h1 : xs.length ≤ k) (hk : k ≤ ys.length) : cmpL (xs.drop k) (ys.drop k) = if k < ys.length then -1 else 0 := by
  rw [List.drop_eq_nil_of_le h1]
  by_cases h : k < ys.length
  · rw [List.drop_eq_getElem_cons h, if_pos h]
    rfl
  · rw [List.drop_eq_nil_of_le (by omega), if_neg h]
    rfl

set_option maxHeartbeats 1000000 in
theorem compare_any (A A' : Option Addr) (c c' : Nat) (xs ys : List Int) (w : World) (hx : xs.length ≤ 1000) (hy : ys.length ≤ 1000) (h1 : IntsAt w w.heap.size A xs) (h2 : IntsAt w w.heap.size A' ys) :
    Calls Try.prog 63 #[.slice A xs.length c, .slice A' ys.length c'] w fun e w' => e = .returned (.int .i64 (cmpL xs ys)) ∧ w = w' := by
  have H1 := Lib.hid h1
  have H2 := Lib.hid h2
  clear h1 h2
  have HD : Hid (cmpL xs ys = cmpL (xs.drop 0) (ys.drop 0)) := Lib.hid (by simp)
  go_enter Try.func63, Try.ntmps63
  go_wp2
  go_loop [11] (fun i => ∃ k : Nat, k ≤ xs.length ∧ k ≤ ys.length ∧ i = .int .i64 k ∧ Hid (cmpL xs ys = cmpL (xs.drop k) (ys.drop k))) (fun i => xs.length - (intOf i).toNat)
  case atStart => exact ⟨0, Nat.zero_le _, Nat.zero_le _, rfl, HD⟩
  case round =>
    obtain ⟨k, hk, hk', rfl, HK⟩ := hrel
    clear HD
    by_cases hlt : k < xs.length
    · obtain ⟨b, off, rfl, hbB, hc⟩ := H1.out k xs[k] (List.getElem?_eq_getElem hlt)
      by_cases hlt' : k < ys.length
      · obtain ⟨b', off', rfl, hbB', hc'⟩ := H2.out k ys[k] (List.getElem?_eq_getElem hlt')
        have HS := Lib.hid (cmpL_step hlt hlt')
        have hge : decide (ys.length ≤ k) = false := by simp; omega
        go_wp2_with fail
        refine (cmp_any _ _ _).mono ?_
        rintro e w1 ⟨rfl, rfl⟩
        by_cases h0 : cmpI xs[k] ys[k] = 0
        · have hne : (cmpI xs[k] ys[k] != 0) = false := by simp [h0]
          have HE : Hid (cmpL xs ys = cmpL (xs.drop (k + 1)) (ys.drop (k + 1))) := Lib.hid (by rw [HK.out, HS.out, if_neg (by simp [h0])])
          clear h0
          go_wp2_with fail
          go_round
          case rel => exact ⟨k + 1, by omega, by omega, by go_num, HE⟩
          case measure => simp [intOf]; omega
        · have hne : (cmpI xs[k] ys[k] != 0) = true := by simp [h0]
          have HE : Hid (cmpL xs ys = cmpI xs[k] ys[k]) := Lib.hid (by rw [HK.out, HS.out, if_pos (by simp [h0])])
          clear h0
          go_wp2_with fail
          go_ret
          exact ⟨by rw [HE.out]; rfl, rfl⟩
      · have hge : decide (ys.length ≤ k) = true := by simp; omega
        have HE : Hid (cmpL xs ys = 1) := Lib.hid (by rw [HK.out, cmpL_gt hlt (by omega)])
        go_wp2_with fail
        go_ret
        exact ⟨by rw [HE.out]; rfl, rfl⟩
    · obtain rfl : k = xs.length := by omega
      have HS := Lib.hid (cmpL_end (Nat.le_refl xs.length) hk')
      by_cases hl : xs.length < ys.length
      · have HE : Hid (cmpL xs ys = -1) := Lib.hid (by rw [HK.out, HS.out, if_pos hl])
        go_wp2_with fail
        go_ret
        exact ⟨by rw [HE.out]; rfl, rfl⟩
      · have HE : Hid (cmpL xs ys = 0) := Lib.hid (by rw [HK.out, HS.out, if_neg hl])
        go_wp2_with fail
        go_ret
        exact ⟨by rw [HE.out]; rfl, rfl⟩
end Go.Proofs.Ytfcnombmphophaa
namespace Go.Proofs.Ytfcnombmphophaa
open Go.RowKit Go.Shelf

/-- A value reads as a list of numbers. -/
def RI (W : World) (v : Value) (xs : List Int) : Prop := ∃ A c, v = .slice A xs.length c ∧ xs.length ≤ c ∧ IntsAt W W.heap.size A xs
theorem RI.below {W W' : World} {v : Value} {xs : List Int} (h : RI W v xs) (hb : Below W.heap.size W W') : RI W' v xs := by
  obtain ⟨A, c, h1, h2, h3⟩ := h
  exact ⟨A, c, h1, h2, (h3.below hb (Nat.le_refl _)).more hb.size⟩
theorem RI.nil (W : World) : RI W (.slice none 0 0) [] := ⟨none, 0, rfl, by simp, fun k x hx => by simp at hx⟩

theorem valid_sub {o t : Int} {l l' : List Sale} (h : Valid o t l) (hl : l'.length ≤ l.length) (hs : ∀ s, s ∈ l' → s ∈ l) : Valid o t l' :=
  ⟨h.o1, h.o6, h.t0, h.t1, Nat.le_trans hl h.len, fun s hm => h.ok s (hs s hm)⟩
theorem withoutTo_mem (l : List Sale) (d : Nat) : ∀ n, n ≤ l.length → ∀ s, s ∈ withoutTo l d n → s ∈ l
  | 0, _, s, hs => by simp [withoutTo] at hs
  | n + 1, hn, s, hs => by
    unfold withoutTo at hs
    split at hs
    · exact withoutTo_mem l d n (by omega) s hs
    · rw [List.mem_append] at hs
      rcases hs with hs | hs
      · exact withoutTo_mem l d n (by omega) s hs
      · simp at hs
        subst hs
        have := List.getElem?_eq_getElem (l := l) (i := n) (by omega)
        rw [saleOf_eq this]
        exact List.getElem_mem _
theorem valid_without {o t : Int} {l : List Sale} (h : Valid o t l) (d : Nat) : Valid o t (withoutL l d) :=
  valid_sub h (withoutTo_length l d l.length) (withoutTo_mem l d l.length (Nat.le_refl _))

/-- One set is tried: it has so many sales, and the batch without them does not contradict itself. -/
def blameOk (t : Int) (l : List Sale) (many d : Nat) : Bool := decide ((listTo d 8).length = many) && fitsB t (withoutL l d)
def blameStep (t : Int) (l : List Sale) (many : Nat) (acc : List Int × Bool) (d : Nat) : List Int × Bool :=
  if blameOk t l many d = true then (if acc.2 = false ∨ cmpL (listTo d 8) acc.1 < 0 then (listTo d 8, true) else acc) else acc
def blameIn (t : Int) (l : List Sale) (many : Nat) : Nat → List Int × Bool
  | 0 => ([], false)
  | d + 1 => blameStep t l many (blameIn t l many d) d
def blameGo (t : Int) (l : List Sale) : Nat → Nat → List Int
  | 0, _ => []
  | f + 1, m => if (blameIn t l m (2 ^ l.length)).2 = true then (blameIn t l m (2 ^ l.length)).1 else blameGo t l f (m + 1)
def blameL (t : Int) (l : List Sale) : List Int := blameGo t l (l.length + 1) 0
theorem blameIn_nil {t : Int} {l : List Sale} {many : Nat} : ∀ d, (blameIn t l many d).2 = false → (blameIn t l many d).1 = []
  | 0, _ => rfl
  | d + 1, h => by
    unfold blameIn blameStep at h ⊢
    split
    · rename_i h1
      rw [if_pos h1] at h
      split
      · rename_i h2
        rw [if_pos h2] at h
        cases h
      · rename_i h2
        rw [if_neg h2] at h
        exact blameIn_nil d h
    · rename_i h1
      rw [if_neg h1] at h
      exact blameIn_nil d h
theorem blameIn_len {t : Int} {l : List Sale} {many : Nat} : ∀ d, (blameIn t l many d).1.length ≤ 8
  | 0 => by simp [blameIn]
  | d + 1 => by
    unfold blameIn blameStep
    split
    · split
      · exact listTo_length d 8
      · exact blameIn_len d
    · exact blameIn_len d

noncomputable def opsB (k : Nat) : Array Oper := (Try.f24.body.bind (regionOf k)).getD #[]
noncomputable def tryB : Code := .seq (.region 11 (opsB 11) false) (.seq (.region 12 (opsB 12) false) (.seq (.seq (.region 13 (opsB 13) false) (.cond (.tmp 42) (.exit 3) .skip)) (.seq (.region 14 (opsB 14) false) (.cond (.tmp 50) (.region 15 (opsB 15) false) .skip))))
noncomputable def round2B : Code := .seq (.region 10 (opsB 10) false) (.seq (.cond (.tmp 27) .skip (.exit 2)) (.seq (.block 3 tryB) (.region 16 (opsB 16) false)))
noncomputable def round1B : Code := .seq (.region 6 (opsB 6) false) (.seq (.cond (.tmp 20) .skip (.exit 0)) (.seq (.block 1 (.seq (.region 7 (opsB 7) false) (.seq (.region 8 (opsB 8) false) (.seq (.seq (.region 9 (opsB 9) false) (.block 2 (.loop round2B))) (.seq (.region 17 (opsB 17) false) (.cond (.tmp 53) (.exit 0) .skip)))))) (.region 18 (opsB 18) false)))
noncomputable def code24 : Code := .seq (.region 0 (opsB 0) false) (.scope (.seq (.seq (.region 1 (opsB 1) false) (.seq (.region 2 (opsB 2) false) (.cond (.tmp 13) (.seq (.region 3 (opsB 3) false) .ret) .skip))) (.seq (.region 4 (opsB 4) false) (.seq (.label 0) (.seq (.seq (.region 5 (opsB 5) false) (.block 0 (.loop round1B))) (.seq (.region 19 (opsB 19) false) .ret))))))
theorem body24 : Try.f24.body = some code24 := by kernel_rfl
end Go.Proofs.Ytfcnombmphophaa
namespace Go.Proofs.Ytfcnombmphophaa
open Go.RowKit Go.Shelf

section
variable {ops : Array Oper} {K : Act → World → Prop} {k i j d : Nat} {a : Act} {w : World} {ty : TypeId} {pos : String} {aft : Array Edge}
theorem ListK.passG {P : Program} {op : Op} {b b' : Bool} {e : Nat} (hi : ops[i]? = some ⟨some d, op, ty, pos, aft, some (j, b)⟩) (hj : (ops[j]?).bind (·.dst) = some e) (he : a.eval (.tmp e) = .bool b') (hb : (b' == b) = false)
    (h : ListK P ops K k (i + 1) (a.put (some d) undef) w) : ListK P ops K (k + 1) i a w := ListK.passW hi (wanted_g hj he hb) h
theorem ListK.pick {P : Program} {c x y : Operand} {b : Bool} {v : Value} (hi : ops[i]? = some ⟨some d, .pick c x y, ty, pos, aft, none⟩) (hc : a.eval c = .bool b) (hx : (if b then a.eval x else a.eval y) = v)
    (h : ListK P ops K k (i + 1) (a.put (some d) v) w) : ListK P ops K (k + 1) i a w :=
  ListK.valW hi rfl (by simp [execOp, hc, asBool]; cases b <;> simpa using hx) h
end
theorem ln25 (A : Option Addr) (n c : Nat) (ty : TypeId) (w : World) : (builtin .len #[25] ty #[false] #[.slice A n c]).run Try.prog w = .ok (.value (.int .i64 n)) w := by
  go_simp
theorem neq3 {x y : Operand} {m n : Int} (w : World) : (do eqGuard .neq 3 x y (.int .i64 m) (.int .i64 n); binOp .neq 3 (.int .i64 m) (.int .i64 n) : Sem Value).run Try.prog w = .ok (.bool (m != n)) w := by
  go_simp

structure FrB (a : Act) (b1 many n N d : Nat) (best : Value) (found : Bool) : Prop where
  sz : a.tmps.size = 56
  df : a.defers = []
  t1 : a.eval (.tmp 1) = .pointer (some ⟨b1, 0, none⟩)
  t5 : a.eval (.tmp 5) = best
  t6 : a.eval (.tmp 6) = .int .i64 many
  t7 : a.eval (.tmp 7) = .bool found
  t18 : a.eval (.tmp 18) = .int .i64 ((n + 1 : Nat) : Int)
  t19 : a.eval (.tmp 19) = .int .i64 many
  t25 : a.eval (.tmp 25) = .int .i64 N
  t26 : a.eval (.tmp 26) = .int .i64 d
theorem FrB.of {a a' : Act} {b1 many n N d : Nat} {best : Value} {found : Bool} (f : FrB a b1 many n N d best found) (h1 : a'.tmps.size = 56) (h2 : a'.defers = a.defers) (h3 : ∀ e : Nat, (e = 1 ∨ e = 5 ∨ e = 6 ∨ e = 7 ∨ e = 18 ∨ e = 19 ∨ e = 25 ∨ e = 26) → a'.eval (.tmp e) = a.eval (.tmp e)) : FrB a' b1 many n N d best found :=
  ⟨h1, h2.trans f.df, (h3 1 (by omega)).trans f.t1, (h3 5 (by omega)).trans f.t5, (h3 6 (by omega)).trans f.t6, (h3 7 (by omega)).trans f.t7, (h3 18 (by omega)).trans f.t18, (h3 19 (by omega)).trans f.t19, (h3 25 (by omega)).trans f.t25, (h3 26 (by omega)).trans f.t26⟩

set_option maxHeartbeats 1000000 in
theorem tryB_wp {Q : Exit → Act → World → Prop} {a : Act} {w W : World} {b1 many N d c : Nat} {o t : Int} {A : Option Addr} {l : List Sale} {best : Value} {acc : List Int × Bool} (hv : Valid o t l) (hs : SalesAt w w.heap.size A l) (hd : d < 2 ^ l.length) (hacc : acc.1.length ≤ 8)
    (fr : FrB a b1 many l.length N d best acc.2) (hlow : Below w.heap.size w W) (wb : Whole W b1 31 #[.int .i64 o, .int .i64 t, .slice A l.length c]) (hr : RI W best acc.1)
    (hQ : ∀ a' W' best', FrB a' b1 many l.length N d best' (blameStep t l many acc d).2 → Below W.heap.size W W' → RI W' best' (blameStep t l many acc d).1 → Q .normal a' W') :
    (Code.block 3 tryB).wpIn Fence.wide 5 Try.prog Q a W := by
  have hsz := fr.sz
  have hd6 := lt_65536 hv.len hd
  unfold tryB
  refine wpIn_block (wpIn_seq (region_p 2 ?_))
  intro K hK
  refine ListK.move (i := 0) (v := .int .i64 d) rfl fr.t26 ?_
  refine ListK.assign (i := 1) (v := .int .i64 d) rfl (by simp [hsz]) ?_
  refine ListK.done (hK _ _ ?_)
  clear hK K
  refine wpIn_seq (region_p 3 ?_)
  intro K hK
  refine ListK.move (i := 0) (v := .int .i64 d) rfl (by simp [hsz]) ?_
  refine ListK.call (i := 1) (vs := #[.int .i64 d]) rfl (enters_of Try.func59 (by kernel_rfl) rfl) (by simp [hsz]) ((list_any d W hd6).mono ?_)
  rintro _ W1 ⟨v, rfl, hol⟩
  refine ⟨_, rfl, ?_⟩
  refine ListK.assign (i := 2) (v := v) rfl (by simp [hsz]) ?_
  refine ListK.done (hK _ _ ?_)
  clear hK K
  have hb1 := hol.low
  have hri1 : RI W1 v (listTo d 8) := hol.ints
  have hr1 := hr.below hb1
  have wb1 := wb.below hb1 wb.lt
  have hlow1 : Below w.heap.size w W1 := hlow.trans (hb1.mono hlow.size)
  have hll := listTo_length d 8
  generalize hA1 : Act.put _ _ _ = a1
  have hz1 : a1.tmps.size = 56 := by rw [← hA1]; simp only [size_put, hsz]
  have fr1 : FrB a1 b1 many l.length N d best acc.2 := by
    refine fr.of hz1 (by rw [← hA1]; simp only [defers_put]) ?_
    rw [← hA1]
    rintro e (rfl | rfl | rfl | rfl | rfl | rfl | rfl | rfl) <;> simp
  have u8 : a1.eval (.tmp 8) = .int .i64 d := by rw [← hA1]; exact (by simp [hsz])
  have u9 : a1.eval (.tmp 9) = v := by rw [← hA1]; exact (by simp [hsz])
  clear hA1
  obtain ⟨Av, cv, hve, hvc, hvi⟩ := hri1
  subst hve
  by_cases hlen : (listTo d 8).length = many
  · have hne : (((listTo d 8).length : Int) != (many : Int)) = false := by simp; omega
    refine wpIn_seq (wpIn_seq (region_p 12 ?_))
    intro K hK
    refine ListK.move (i := 0) (v := .slice Av (listTo d 8).length cv) rfl u9 ?_
    refine ListK.len (i := 1) (u := .slice Av (listTo d 8).length cv) (v := .int .i64 (listTo d 8).length) rfl (by simp [hz1]) (ln25 _ _ _ _ _) rfl ?_
    refine ListK.move (i := 2) (v := .int .i64 many) rfl (by simp [fr1.t6]) ?_
    refine ListK.bin (i := 3) (u := .int .i64 (listTo d 8).length) (u' := .int .i64 many) (v := .bool false) rfl (by simp [hz1]) (by simp [hz1]) (by rw [neq3, hne]) ?_
    refine ListK.move (i := 4) (v := .bool false) rfl (by simp [hz1]) ?_
    refine ListK.load (i := 5) (p := ⟨b1, 0, none⟩) (v := .agg #[.int .i64 o, .int .i64 t, .slice A l.length c]) rfl (by simp [fr1.t1]) (ld31' ⟨wb1.cell 0, wb1.cell 1, wb1.cell 2⟩) ?_ (hw := by exact wanted_g (e := 35) (b' := false) rfl (by simp [hz1]) rfl)
    refine ListK.move (i := 6) (v := .int .i64 d) rfl (by simp [u8]) ?_ (hw := by exact wanted_g (e := 35) (b' := false) rfl (by simp [hz1]) rfl)
    refine ListK.call (i := 7) (vs := #[.agg #[.int .i64 o, .int .i64 t, .slice A l.length c], .int .i64 d]) rfl (enters_of Try.func60 (by kernel_rfl) rfl) (by simp [hz1]) ((without_any o t A l c d W1 hd6 (by have := hv.len; omega) ((hs.below hlow1 (Nat.le_refl _)).more hlow1.size)).mono ?_) (hw := by exact wanted_g (e := 35) (b' := false) rfl (by simp [hz1]) rfl)
    rintro _ W2 ⟨A2, c2, rfl, hs2, hb2⟩
    refine ⟨_, rfl, ?_⟩
    have hv2 := valid_without hv d
    refine ListK.call (i := 8) (vs := #[.agg #[.int .i64 o, .int .i64 t, .slice A2 (withoutL l d).length c2]]) rfl (enters_of Try.func61 (by kernel_rfl) rfl) (by simp [hz1]) ((book_bk o t A2 (withoutL l d) c2 W2 hv2 hs2).mono ?_) (hw := by exact wanted_g (e := 35) (b' := false) rfl (by simp [hz1]) rfl)
    rintro _ W3 ⟨rfl, ge, gl, ce, cl, hbk⟩
    refine ⟨_, rfl, ?_⟩
    have hb3 := hbk.low
    refine ListK.call (i := 9) (vs := #[.pointer (some ⟨W2.heap.size + 1, 0, none⟩)]) rfl (enters_of Try.func62 (by kernel_rfl) rfl) (by simp [hz1]) ((fits_any W3 _ _ ge gl ce cl o t A2 (withoutL l d) c2 hv2.len (hbk.at_ hs2)).mono ?_) (hw := by exact wanted_g (e := 35) (b' := false) rfl (by simp [hz1]) rfl)
    rintro _ W4 ⟨rfl, hb4⟩
    refine ⟨_, rfl, ?_⟩
    refine ListK.un (i := 10) (u := .bool (fitsB t (withoutL l d))) (v := .bool (!fitsB t (withoutL l d))) rfl (by simp [hz1]) (not4 _ _) ?_ (hw := by exact wanted_g (e := 35) (b' := false) rfl (by simp [hz1]) rfl)
    refine ListK.pick (i := 11) (b := false) (v := .bool (!fitsB t (withoutL l d))) rfl (by simp [hz1]) (by simp [hz1]) ?_
    refine ListK.done (hK _ _ ?_)
    clear hK K
    have hbl4 : Below W1.heap.size W1 W4 := (hb2.trans (hb3.mono hb2.size)).trans (hb4.mono (Nat.le_trans hb2.size hb3.size))
    have hW4 : Below W.heap.size W W4 := hb1.trans (hbl4.mono hb1.size)
    have hr4 := hr1.below hbl4
    have hvi4 := (hvi.below hbl4 (Nat.le_refl _)).more hbl4.size
    clear hbk hb2 hb3 hb4 hs2
    generalize hA1 : Act.put _ _ _ = a2
    have hz2 : a2.tmps.size = 56 := by rw [← hA1]; simp only [size_put, hz1]
    have fr2 : FrB a2 b1 many l.length N d best acc.2 := by
      refine fr1.of hz2 (by rw [← hA1]; simp only [defers_put]) ?_
      rw [← hA1]
      rintro e (rfl | rfl | rfl | rfl | rfl | rfl | rfl | rfl) <;> simp
    have x9 : a2.eval (.tmp 9) = .slice Av (listTo d 8).length cv := by rw [← hA1]; exact (by simp [u9])
    have x42 : a2.eval (.tmp 42) = .bool (!fitsB t (withoutL l d)) := by rw [← hA1]; exact (by simp [hz1])
    clear hA1
    cases hf : fitsB t (withoutL l d) with
    | false =>
      refine wpIn_cond (t := true) (by rw [x42, hf]; rfl) (wpIn_exit ?_)
      have hst : blameStep t l many acc d = acc := by simp [blameStep, blameOk, hf]
      rw [hst] at hQ
      exact hQ _ _ best fr2 hW4 hr4
    | true =>
      refine wpIn_cond (t := false) (by rw [x42, hf]; rfl) (wpIn_skip ?_)
      have hok : blameOk t l many d = true := by simp [blameOk, hf, hlen]
      -- take the new list
      have htake : (acc.2 = false ∨ cmpL (listTo d 8) acc.1 < 0) → ∀ (a3 : Act), FrB a3 b1 many l.length N d best acc.2 → a3.eval (.tmp 9) = .slice Av (listTo d 8).length cv → a3.eval (.tmp 50) = .bool true →
          (Code.cond (.tmp 50) (.region 15 (opsB 15) false) .skip).wpIn Fence.wide 5 Try.prog (Exit.inBlock 3 Q) a3 W4 := by
        intro hcond a3 fr3 y9 y50
        have hst : blameStep t l many acc d = (listTo d 8, true) := by simp only [blameStep, hok, if_true]; rw [if_pos hcond]
        rw [hst] at hQ
        have hz3 := fr3.sz
        refine wpIn_cond (t := true) y50 (region_p 3 ?_)
        intro K hK
        refine ListK.move (i := 0) (v := .slice Av (listTo d 8).length cv) rfl y9 ?_
        refine ListK.assign (i := 1) (v := .slice Av (listTo d 8).length cv) rfl (by simp [hz3]) ?_
        refine ListK.assign (i := 2) (v := .bool true) rfl rfl ?_
        refine ListK.done (hK _ _ (hQ _ _ (.slice Av (listTo d 8).length cv) ⟨by simp only [size_put, hz3], by simp only [defers_put, fr3.df], (by simp [fr3.t1]), (by simp [hz3]), (by simp [fr3.t6]), (by simp [hz3]), (by simp [fr3.t18]), (by simp [fr3.t19]), (by simp [fr3.t25]), (by simp [fr3.t26])⟩ hW4 ⟨Av, cv, rfl, hvc, hvi4⟩))
      refine wpIn_seq (region_p 8 ?_)
      intro K hK
      cases hfd : acc.2 with
      | false =>
        refine ListK.move (i := 0) (v := .bool false) rfl (by rw [fr2.t7, hfd]) ?_
        refine ListK.un (i := 1) (u := .bool false) (v := .bool true) rfl (by simp [hz2]) (not4 _ _) ?_
        refine ListK.move (i := 2) (v := .bool true) rfl (by simp [hz2]) ?_
        refine ListK.passG (i := 3) (e := 45) (b' := true) rfl rfl (by simp [hz2]) rfl ?_
        refine ListK.passG (i := 4) (e := 45) (b' := true) rfl rfl (by simp [hz2]) rfl ?_
        refine ListK.passG (i := 5) (e := 45) (b' := true) rfl rfl (by simp [hz2]) rfl ?_
        refine ListK.passG (i := 6) (e := 45) (b' := true) rfl rfl (by simp [hz2]) rfl ?_
        refine ListK.pick (i := 7) (b := true) (v := .bool true) rfl (by simp [hz2]) (by simp) ?_
        refine ListK.done (hK _ _ (htake (.inl hfd) _ (fr2.of (by simp only [size_put, hz2]) (by simp only [defers_put]) ?_) (by simp [x9]) (by simp [hz2])))
        rintro e (rfl | rfl | rfl | rfl | rfl | rfl | rfl | rfl) <;> simp
      | true =>
        obtain ⟨Ab, cb, hbe, hbc, hbi⟩ := hr4
        have t5' := fr2.t5
        rw [hbe] at t5'
        refine ListK.move (i := 0) (v := .bool true) rfl (by rw [fr2.t7, hfd]) ?_
        refine ListK.un (i := 1) (u := .bool true) (v := .bool false) rfl (by simp [hz2]) (not4 _ _) ?_
        refine ListK.move (i := 2) (v := .bool false) rfl (by simp [hz2]) ?_
        refine ListK.move (i := 3) (v := .slice Av (listTo d 8).length cv) rfl (by simp [x9]) ?_ (hw := by exact wanted_g (e := 45) (b' := false) rfl (by simp [hz2]) rfl)
        refine ListK.move (i := 4) (v := .slice Ab acc.1.length cb) rfl (by simp [t5']) ?_ (hw := by exact wanted_g (e := 45) (b' := false) rfl (by simp [hz2]) rfl)
        refine ListK.call (i := 5) (vs := #[.slice Av (listTo d 8).length cv, .slice Ab acc.1.length cb]) rfl (enters_of Try.func63 (by kernel_rfl) rfl) (by simp [hz2]) ((compare_any Av Ab cv cb (listTo d 8) acc.1 W4 (by omega) (by omega) hvi4 hbi).mono ?_) (hw := by exact wanted_g (e := 45) (b' := false) rfl (by simp [hz2]) rfl)
        rintro _ _ ⟨rfl, rfl⟩
        refine ⟨_, rfl, ?_⟩
        refine ListK.bin (i := 6) (u := .int .i64 (cmpL (listTo d 8) acc.1)) (u' := .int .i64 0) rfl (by simp [hz2]) rfl (lss3 _) ?_ (hw := by exact wanted_g (e := 45) (b' := false) rfl (by simp [hz2]) rfl)
        refine ListK.pick (i := 7) (b := false) (v := .bool (decide (cmpL (listTo d 8) acc.1 < 0))) rfl (by simp [hz2]) (by simp [hz2]) ?_
        refine ListK.done (hK _ _ ?_)
        by_cases hc : cmpL (listTo d 8) acc.1 < 0
        · refine htake (.inr hc) _ (fr2.of (by simp only [size_put, hz2]) (by simp only [defers_put]) ?_) (by simp [x9]) (by simp [hz2, hc])
          rintro e (rfl | rfl | rfl | rfl | rfl | rfl | rfl | rfl) <;> simp
        · have hst : blameStep t l many acc d = acc := by simp only [blameStep, hok, if_true]; rw [if_neg (by rw [hfd]; simp; omega)]
          rw [hst] at hQ
          refine wpIn_cond (t := false) (by simp [hz2, hc]) (wpIn_skip (hQ _ _ best (fr2.of (by simp only [size_put, hz2]) (by simp only [defers_put]) ?_) hW4 ⟨Ab, cb, hbe, hbc, hbi⟩))
          rintro e (rfl | rfl | rfl | rfl | rfl | rfl | rfl | rfl) <;> simp
  · have hne : (((listTo d 8).length : Int) != (many : Int)) = true := by simp; omega
    have hst : blameStep t l many acc d = acc := by simp [blameStep, blameOk, hlen]
    rw [hst] at hQ
    refine wpIn_seq (wpIn_seq (region_p 12 ?_))
    intro K hK
    refine ListK.move (i := 0) (v := .slice Av (listTo d 8).length cv) rfl u9 ?_
    refine ListK.len (i := 1) (u := .slice Av (listTo d 8).length cv) (v := .int .i64 (listTo d 8).length) rfl (by simp [hz1]) (ln25 _ _ _ _ _) rfl ?_
    refine ListK.move (i := 2) (v := .int .i64 many) rfl (by simp [fr1.t6]) ?_
    refine ListK.bin (i := 3) (u := .int .i64 (listTo d 8).length) (u' := .int .i64 many) (v := .bool true) rfl (by simp [hz1]) (by simp [hz1]) (by rw [neq3, hne]) ?_
    refine ListK.move (i := 4) (v := .bool true) rfl (by simp [hz1]) ?_
    refine ListK.passG (i := 5) (e := 35) (b' := true) rfl rfl (by simp [hz1]) rfl ?_
    refine ListK.passG (i := 6) (e := 35) (b' := true) rfl rfl (by simp [hz1]) rfl ?_
    refine ListK.passG (i := 7) (e := 35) (b' := true) rfl rfl (by simp [hz1]) rfl ?_
    refine ListK.passG (i := 8) (e := 35) (b' := true) rfl rfl (by simp [hz1]) rfl ?_
    refine ListK.passG (i := 9) (e := 35) (b' := true) rfl rfl (by simp [hz1]) rfl ?_
    refine ListK.passG (i := 10) (e := 35) (b' := true) rfl rfl (by simp [hz1]) rfl ?_
    refine ListK.pick (i := 11) (b := true) (v := .bool true) rfl (by simp [hz1]) (by simp) ?_
    refine ListK.done (hK _ _ ?_)
    refine wpIn_cond (t := true) (by simp [hz1]) (wpIn_exit (hQ _ _ best (fr1.of (by simp only [size_put, hz1]) (by simp only [defers_put]) ?_) hb1 hr1))
    rintro e (rfl | rfl | rfl | rfl | rfl | rfl | rfl | rfl) <;> simp
end Go.Proofs.Ytfcnombmphophaa
namespace Go.Proofs.Ytfcnombmphophaa
open Go.RowKit Go.Shelf

set_option maxHeartbeats 1000000 in
theorem blame_in {Q : Exit → Act → World → Prop} {a : Act} {w W : World} {b1 many N c : Nat} {o t : Int} {A : Option Addr} {l : List Sale} {best : Value} (hv : Valid o t l) (hs : SalesAt w w.heap.size A l) (hN : N = 2 ^ l.length)
    (fr : FrB a b1 many l.length N 0 best false) (hlow : Below w.heap.size w W) (wb : Whole W b1 31 #[.int .i64 o, .int .i64 t, .slice A l.length c]) (hr : RI W best [])
    (hQ : ∀ a' W' best', FrB a' b1 many l.length N N best' (blameIn t l many N).2 → Below W.heap.size W W' → RI W' best' (blameIn t l many N).1 → Q .normal a' W') :
    (Code.block 2 (.loop round2B)).wpIn Fence.wide 5 Try.prog Q a W := by
  have hp8 : N ≤ 256 := by rw [hN]; exact pow_le hv.len
  refine wpIn_block (wpIn_loop (fun a W' => ∃ (d : Nat) (best : Value), d ≤ N ∧ FrB a b1 many l.length N d best (blameIn t l many d).2 ∧ Below W.heap.size W W' ∧ RI W' best (blameIn t l many d).1) (fun a _ => N - (intOf (a.eval (.tmp 26))).toNat) ⟨0, best, Nat.zero_le _, fr, Below.refl _ _, hr⟩ ?_)
  clear fr hr best a
  rintro a W1 ⟨d, best, hdN, fr, hb, hr⟩
  have hsz := fr.sz
  refine wpIn_seq (region_p 1 ?_)
  intro K hK
  refine ListK.bin (i := 0) (u := .int .i64 d) (u' := .int .i64 N) rfl fr.t26 fr.t25 (lss94 _) ?_
  refine ListK.done (hK _ _ ?_)
  clear hK K
  by_cases hlt : d < N
  · refine wpIn_seq (wpIn_cond (t := true) (by simp [hsz]; omega) (wpIn_skip ?_))
    refine wpIn_seq (tryB_wp (acc := blameIn t l many d) hv hs (by rw [← hN]; exact hlt) (blameIn_len d) (fr.of (by simp only [size_put, hsz]) (by simp only [defers_put]) ?_) (hlow.trans (hb.mono hlow.size)) (wb.below hb wb.lt) hr ?_)
    · rintro e (rfl | rfl | rfl | rfl | rfl | rfl | rfl | rfl) <;> simp
    intro a2 W2 best2 fr2 hb2 hr2
    have hz2 := fr2.sz
    have t7' : a2.eval (.tmp 7) = .bool (blameIn t l many (d + 1)).2 := fr2.t7
    have hmu : ∀ b : Act, b.eval (.tmp 26) = .int .i64 ((d + 1 : Nat) : Int) → N - (intOf (b.eval (.tmp 26))).toNat < N - (intOf (a.eval (.tmp 26))).toNat := by
      intro b e
      rw [e, fr.t26]
      simp only [intOf]
      omega
    refine region_p 2 ?_
    intro K hK
    refine ListK.bin (i := 0) (u := .int .i64 d) (u' := .int .i64 1) rfl fr2.t26 rfl (add94 (by omega) (by omega) _) ?_
    refine ListK.move (i := 1) (v := .int .i64 ((d + 1 : Nat) : Int)) rfl (by simp [hz2]) ?_
    exact ListK.done (hK _ _ ⟨⟨d + 1, best2, by omega, ⟨by simp only [size_put, hz2], by simp only [defers_put, fr2.df], (by simp [fr2.t1]), (by simp [fr2.t5]), (by simp [fr2.t6]), (by simp [t7']), (by simp [fr2.t18]), (by simp [fr2.t19]), (by simp [fr2.t25]), (by simp [hz2])⟩, hb.trans (hb2.mono hb.size), hr2⟩, hmu _ (by simp [hz2])⟩)
  · obtain rfl : d = N := by omega
    refine wpIn_seq (wpIn_cond (t := false) (by simp [hsz]) (wpIn_exit ?_))
    refine hQ _ _ best (fr.of (by simp only [size_put, hsz]) (by simp only [defers_put]) ?_) hb hr
    rintro e (rfl | rfl | rfl | rfl | rfl | rfl | rfl | rfl) <;> simp

/-- The frame of Blame in its outer loop. -/
structure FrC (a : Act) (b1 m n : Nat) (best : Value) : Prop where
  sz : a.tmps.size = 56
  df : a.defers = []
  t1 : a.eval (.tmp 1) = .pointer (some ⟨b1, 0, none⟩)
  t5 : a.eval (.tmp 5) = best
  t18 : a.eval (.tmp 18) = .int .i64 ((n + 1 : Nat) : Int)
  t19 : a.eval (.tmp 19) = .int .i64 m

set_option maxHeartbeats 1000000 in
theorem blame_out {Q : Exit → Act → World → Prop} {a : Act} {w W : World} {b1 c : Nat} {o t : Int} {A : Option Addr} {l : List Sale} (hv : Valid o t l) (hs : SalesAt w w.heap.size A l)
    (fr : FrC a b1 0 l.length (.slice none 0 0)) (hlow : Below w.heap.size w W) (wb : Whole W b1 31 #[.int .i64 o, .int .i64 t, .slice A l.length c])
    (hQ : ∀ a' W' best, a'.tmps.size = 56 → a'.defers = [] → a'.eval (.tmp 5) = best → Below W.heap.size W W' → RI W' best (blameL t l) → Q .normal a' W') :
    (Code.block 0 (.loop round1B)).wpIn Fence.wide 5 Try.prog Q a W := by
  have hl8 := hv.len
  refine wpIn_block (wpIn_loop (fun a W' => ∃ (m : Nat) (best : Value), m ≤ l.length + 1 ∧ FrC a b1 m l.length best ∧ Below W.heap.size W W' ∧ RI W' best [] ∧ blameL t l = blameGo t l (l.length + 1 - m) m) (fun a _ => l.length + 1 - (intOf (a.eval (.tmp 19))).toNat) ⟨0, _, Nat.zero_le _, fr, Below.refl _ _, RI.nil _, rfl⟩ ?_)
  clear fr a
  rintro a W1 ⟨m, best, hm, fr, hb, hr, hgo⟩
  have hsz := fr.sz
  refine wpIn_seq (region_p 1 ?_)
  intro K hK
  refine ListK.bin (i := 0) (u := .int .i64 m) (u' := .int .i64 ((l.length + 1 : Nat) : Int)) rfl fr.t19 fr.t18 (lss3 _) ?_
  refine ListK.done (hK _ _ ?_)
  clear hK K
  by_cases hlt : m < l.length + 1
  · refine wpIn_seq (wpIn_cond (t := true) (by simp [hsz]; omega) (wpIn_skip ?_))
    have hlow1 : Below w.heap.size w W1 := hlow.trans (hb.mono hlow.size)
    have wb1 := wb.below hb wb.lt
    obtain ⟨N, hN⟩ : ∃ N, N = 2 ^ l.length := ⟨_, rfl⟩
    refine wpIn_seq (wpIn_block (wpIn_seq (region_p 2 ?_)))
    intro K hK
    refine ListK.move (i := 0) (v := .int .i64 m) rfl (by simp [fr.t19]) ?_
    refine ListK.assign (i := 1) (v := .int .i64 m) rfl (by simp [hsz]) ?_
    refine ListK.done (hK _ _ ?_)
    clear hK K
    refine wpIn_seq (region_p 1 ?_)
    intro K hK
    refine ListK.assign (i := 0) (v := .bool false) rfl rfl ?_
    refine ListK.done (hK _ _ ?_)
    clear hK K
    refine wpIn_seq (wpIn_seq (region_p 5 ?_))
    intro K hK
    refine ListK.field (i := 0) (u := .pointer (some ⟨b1, 0, none⟩)) (v := .pointer (some ⟨b1, 2, none⟩)) rfl (by simp [fr.t1]) (fa31_2 _) ?_
    refine ListK.load (i := 1) (p := ⟨b1, 2, none⟩) (v := .slice A l.length c) rfl (by simp [hsz]) (ld29 (wb1.cell 2)) ?_
    refine ListK.len (i := 2) (u := .slice A l.length c) (v := .int .i64 l.length) rfl (by simp [hsz]) (ln29 _ _ _ _ _) rfl ?_
    refine ListK.bin (i := 3) (u := .int .i64 1) (u' := .int .i64 l.length) (v := .int .i64 ((2 ^ l.length : Nat) : Int)) rfl rfl (by simp [hsz]) (sh94 (by omega) _) ?_
    refine ListK.move (i := 4) (v := .int .i64 0) rfl rfl ?_
    refine ListK.done (hK _ _ ?_)
    clear hK K
    rw [← hN]
    refine blame_in (many := m) (N := N) (best := best) hv hs hN ⟨by simp only [size_put, hsz], by simp only [defers_put, fr.df], (by simp [fr.t1]), (by simp [fr.t5]), (by simp [hsz]), (by simp [hsz]), (by simp [fr.t18]), (by simp [fr.t19]), (by simp [hsz]), (by simp [hsz])⟩ hlow1 wb1 hr ?_
    intro a2 W2 best2 fr2 hb2 hr2
    have hz2 := fr2.sz
    have hgo2 : blameL t l = if (blameIn t l m N).2 = true then (blameIn t l m N).1 else blameGo t l (l.length + 1 - (m + 1)) (m + 1) := by
      rw [hgo, show l.length + 1 - m = (l.length + 1 - (m + 1)) + 1 by omega, blameGo, ← hN]
    refine wpIn_seq (region_p 1 ?_)
    intro K hK
    refine ListK.move (i := 0) (v := .bool (blameIn t l m N).2) rfl fr2.t7 ?_
    refine ListK.done (hK _ _ ?_)
    clear hK K
    have hW2 : Below W.heap.size W W2 := hb.trans (hb2.mono hb.size)
    cases hfd : (blameIn t l m N).2 with
    | true =>
      refine wpIn_cond (t := true) (by simp [hz2]) (wpIn_exit ?_)
      rw [hfd, if_pos rfl] at hgo2
      refine hQ _ _ best2 (by simp only [size_put, hz2]) (by simp only [defers_put, fr2.df]) (by simp [fr2.t5]) hW2 ?_
      rw [hgo2]
      exact hr2
    | false =>
      refine wpIn_cond (t := false) (by simp [hz2]) (wpIn_skip ?_)
      rw [hfd, if_neg (by simp)] at hgo2
      rw [blameIn_nil N hfd] at hr2
      have hmu : ∀ b : Act, b.eval (.tmp 19) = .int .i64 ((m + 1 : Nat) : Int) → l.length + 1 - (intOf (b.eval (.tmp 19))).toNat < l.length + 1 - (intOf (a.eval (.tmp 19))).toNat := by
        intro b e
        rw [e, fr.t19]
        simp only [intOf]
        omega
      refine region_p 2 ?_
      intro K hK
      refine ListK.bin (i := 0) (u := .int .i64 m) (u' := .int .i64 1) rfl (by simp [fr2.t19]) rfl (add3 (by omega) (by omega) _) ?_
      refine ListK.move (i := 1) (v := .int .i64 ((m + 1 : Nat) : Int)) rfl (by simp [hz2]) ?_
      exact ListK.done (hK _ _ ⟨⟨m + 1, best2, by omega, ⟨by simp only [size_put, hz2], by simp only [defers_put, fr2.df], (by simp [fr2.t1]), (by simp [fr2.t5]), (by simp [fr2.t18]), (by simp [hz2])⟩, hW2, hr2, hgo2⟩, hmu _ (by simp [hz2])⟩)
  · obtain rfl : m = l.length + 1 := by omega
    refine wpIn_seq (wpIn_cond (t := false) (by simp [hsz]) (wpIn_exit ?_))
    refine hQ _ _ best (by simp only [size_put, hsz]) (by simp only [defers_put, fr.df]) (by simp [fr.t5]) hb ?_
    rw [hgo, Nat.sub_self]
    exact hr

def blameV (o t : Int) (l : List Sale) : List Int := if fault o t l = 0 then blameL t l else []
theorem res2 {fn : Func} {i j : Nat} {W : World} {a : Act} {x y : Value} (h : fn.results = #[.tmp i, .tmp j]) (hi : a.eval (.tmp i) = x) (hj : a.eval (.tmp j) = y) :
    (results fn a.tmps).run Try.prog W = .ok (.tuple #[x, y]) W := by
  have e1 : a.tmps[i]?.getD undef = x := by simpa [Act.eval] using hi
  have e2 : a.tmps[j]?.getD undef = y := by simpa [Act.eval] using hj
  simp [results, h, e1, e2]

abbrev BP (W : World) (o t : Int) (l : List Sale) : Ending → World → Prop := fun e w' => ∃ v, e = .returned (.tuple #[v, .int .i64 (fault o t l)]) ∧ RI w' v (blameV o t l) ∧ Below W.heap.size W w'

set_option maxHeartbeats 1000000 in
theorem blame_any (o t : Int) (A : Option Addr) (l : List Sale) (c : Nat) (W : World) (hl : l.length ≤ 1000000) (hs : SalesAt W W.heap.size A l) :
    Calls Try.prog 24 #[.agg #[.int .i64 o, .int .i64 t, .slice A l.length c]] W (BP W o t l) := by
  refine (callsIn_wide (n := 5)).1 (callsIn_of_wp Try.func24 body24 trivial ?_ rfl)
  obtain ⟨a, ha⟩ : ∃ a : Act, a = { tmps := #[.agg #[.int .i64 o, .int .i64 t, .slice A l.length c]] ++ Array.replicate (Try.f24.ntmps - (#[.agg #[.int .i64 o, .int .i64 t, .slice A l.length c]] : Array Value).size) undef, defers := [] } := ⟨_, rfl⟩
  have hsz : a.tmps.size = 56 := by rw [ha]; simp [Try.ntmps24]
  have t0 : a.eval (.tmp 0) = .agg #[.int .i64 o, .int .i64 t, .slice A l.length c] := by rw [ha]; simp [Act.eval]
  have hdf : a.defers = [] := by rw [ha]
  rw [← ha]
  clear ha
  unfold code24
  refine wpIn_seq (region_p 3 ?_)
  intro K hK
  refine ListK.box (i := 0) (u := .agg #[.int .i64 o, .int .i64 t, .slice A l.length c]) rfl t0 (bx31 W _ _ _ _ _) ?_
  refine ListK.assign (i := 1) (v := .slice none 0 0) rfl rfl ?_
  refine ListK.assign (i := 2) (v := .int .i64 0) rfl rfl ?_
  refine ListK.done (hK _ _ ?_)
  clear hK K
  have wb := Whole.new W 31 #[.int .i64 o, .int .i64 t, .slice A l.length c]
  have hB1 : Below W.heap.size W (W.alloc (.cells #[.int .i64 o, .int .i64 t, .slice A l.length c] 31)) := (Below.refl _ W).alloc (Nat.le_refl _) _
  generalize W.alloc (.cells #[.int .i64 o, .int .i64 t, .slice A l.length c] 31) = W1 at *
  refine wpIn_wide.2 (wp_scope_straight ((wpIn_wide (n := 5)).1 ?_))
  refine wpIn_mono (Q := bodyPost Try.prog Try.f24 (BP W o t l)) ?_ (fun e a w h => by cases e <;> first | exact h | exact h.elim)
  refine wpIn_seq (wpIn_seq (region_p 3 ?_))
  intro K hK
  refine ListK.load (i := 0) (p := ⟨W.heap.size, 0, none⟩) (v := .agg #[.int .i64 o, .int .i64 t, .slice A l.length c]) rfl (by simp [hsz]) (ld31' ⟨wb.cell 0, wb.cell 1, wb.cell 2⟩) ?_
  refine ListK.call (i := 1) (vs := #[.agg #[.int .i64 o, .int .i64 t, .slice A l.length c]]) rfl (enters_of Try.func17 (by kernel_rfl) rfl) (by simp [hsz]) ((checkBatch_any o t A l c W1 hl ((hs.below hB1 (Nat.le_refl _)).more hB1.size)).mono ?_)
  rintro _ W2 ⟨rfl, hb2⟩
  refine ⟨_, rfl, ?_⟩
  refine ListK.assign (i := 2) (v := .int .i64 (fault o t l)) rfl (by simp [hsz]) ?_
  refine ListK.done (hK _ _ ?_)
  clear hK K
  have wb2 := wb.below hb2 wb.lt
  have hB2 : Below W.heap.size W W2 := hB1.trans (hb2.mono hB1.size)
  refine wpIn_seq (region_p 2 ?_)
  intro K hK
  refine ListK.move (i := 0) (v := .int .i64 (fault o t l)) rfl (by simp [hsz]) ?_
  refine ListK.bin (i := 1) (u := .int .i64 (fault o t l)) (u' := .int .i64 0) rfl (by simp [hsz]) rfl (neq27 _) ?_
  refine ListK.done (hK _ _ ?_)
  clear hK K
  by_cases h0 : fault o t l = 0
  · refine wpIn_cond (t := false) (by simp [hsz, h0]) (wpIn_skip ?_)
    have hv := valid_of_fault h0
    have hl8 := hv.len
    have hV : blameV o t l = blameL t l := by simp [blameV, h0]
    refine wpIn_seq (region_p 1 ?_)
    intro K hK
    refine ListK.assign (i := 0) (v := .slice none 0 0) rfl rfl ?_
    refine ListK.done (hK _ _ ?_)
    clear hK K
    refine wpIn_seq (wpIn_label ?_)
    refine wpIn_seq (wpIn_seq (region_p 5 ?_))
    intro K hK
    refine ListK.field (i := 0) (u := .pointer (some ⟨W.heap.size, 0, none⟩)) (v := .pointer (some ⟨W.heap.size, 2, none⟩)) rfl (by simp [hsz]) (fa31_2 _) ?_
    refine ListK.load (i := 1) (p := ⟨W.heap.size, 2, none⟩) (v := .slice A l.length c) rfl (by simp [hsz]) (ld29 (wb2.cell 2)) ?_
    refine ListK.len (i := 2) (u := .slice A l.length c) (v := .int .i64 l.length) rfl (by simp [hsz]) (ln29 _ _ _ _ _) rfl ?_
    refine ListK.bin (i := 3) (u := .int .i64 l.length) (u' := .int .i64 1) (v := .int .i64 ((l.length + 1 : Nat) : Int)) rfl (by simp [hsz]) rfl (add3 (by omega) (by omega) _) ?_
    refine ListK.move (i := 4) (v := .int .i64 0) rfl rfl ?_
    refine ListK.done (hK _ _ ?_)
    clear hK K
    refine blame_out (b1 := W.heap.size) (c := c) hv hs ⟨by simp only [size_put, hsz], by simp only [defers_put, hdf], (by simp [hsz]), (by simp [hsz]), (by simp [hsz]), (by simp [hsz])⟩ hB2 wb2 ?_
    intro a3 W3 best hz3 hd3 v5 hb3 hr3
    refine wpIn_seq (region_p 3 ?_)
    intro K hK
    refine ListK.move (i := 0) (v := best) rfl v5 ?_
    refine ListK.assign (i := 1) (v := best) rfl (by simp [hz3]) ?_
    refine ListK.assign (i := 2) (v := .int .i64 0) rfl rfl ?_
    refine ListK.done (hK _ _ (wpIn_ret ?_))
    show bodyPost Try.prog Try.f24 (BP W o t l) Exit.ret _ _
    refine bodyPost_ret (v := .tuple #[best, .int .i64 0]) (res2 Try.results24 (by simp [hz3]) (by simp [hz3])) (by simp only [defers_put, hd3]) ⟨best, by rw [h0], by rw [hV]; exact hr3, hB2.trans (hb3.mono hB2.size)⟩
  · refine wpIn_cond (t := true) (by simp [hsz, h0]) ?_
    have hV : blameV o t l = [] := by simp [blameV, h0]
    refine wpIn_seq (region_p 3 ?_)
    intro K hK
    refine ListK.move (i := 0) (v := .int .i64 (fault o t l)) rfl (by simp [hsz]) ?_
    refine ListK.assign (i := 1) (v := .slice none 0 0) rfl rfl ?_
    refine ListK.assign (i := 2) (v := .int .i64 (fault o t l)) rfl (by simp [hsz]) ?_
    refine ListK.done (hK _ _ (wpIn_ret ?_))
    show bodyPost Try.prog Try.f24 (BP W o t l) Exit.ret _ _
    exact bodyPost_ret (v := .tuple #[.slice none 0 0, .int .i64 (fault o t l)]) (res2 Try.results24 (by simp [hsz]) (by simp [hsz])) (by simp only [defers_put, hdf]) ⟨_, rfl, by rw [hV]; exact RI.nil _, hB2⟩
end Go.Proofs.Ytfcnombmphophaa
