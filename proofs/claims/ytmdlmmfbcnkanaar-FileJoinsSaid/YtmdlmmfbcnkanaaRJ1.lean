/- Texts for a law of package file, behind the shared ones, part 1: the law's own contracts and plain words. -/
import Derived.Test.YtmdlmmfbcnkanaaRA4
import Derived.Shelf.SlSortCmp.WholeK

set_option linter.unusedVariables false
set_option maxRecDepth 10000

namespace Go.Proofs.YtmdlmmfbcnkanaaR
open Go.RowKit Go.Shelf
theorem ListK.pickW {P : Program} {ops : Array Oper} {K : Act → World → Prop} {k i d : Nat} {a : Act} {w : World} {ty : TypeId} {pos : String} {aft : Array Edge} {gd : Option (Nat × Bool)} {c x y : Operand} {b : Bool} {v : Value} (hi : ops[i]? = some ⟨some d, .pick c x y, ty, pos, aft, gd⟩) (hc : a.eval c = .bool b) (hx : (if b then a.eval x else a.eval y) = v)
    (h : ListK P ops K k (i + 1) (a.put (some d) v) w) (hw : Region.wanted ⟨some d, .pick c x y, ty, pos, aft, gd⟩ (yielded ops a.tmps) = true := by rfl) : ListK P ops K (k + 1) i a w :=
  ListK.valW hi hw (by simp [execOp, hc, asBool]; cases b <;> simpa using hx) h
/-- A slice of words. -/
def WordsAt (w : World) (B : Nat) (A : Option Addr) (l : List Nat) : Prop := ∀ (k x : Nat), l[k]? = some x → x < 65536 ∧ ∃ b off, A = some ⟨b, off, none⟩ ∧ b < B ∧ w.cell? ⟨b, off + k, none⟩ = some (.int .u16 x)
theorem eql3 {x y : Operand} {m n : Int} (w : World) : (do eqGuard .eql 3 x y (.int .i64 m) (.int .i64 n); binOp .eql 3 (.int .i64 m) (.int .i64 n) : Sem Value).run Try.prog w = .ok (.bool (m == n)) w := by
  go_simp
theorem eqlT {x y : Operand} {m n : Int} (h : m = n) (w : World) : (do eqGuard .eql 3 x y (.int .i64 m) (.int .i64 n); binOp .eql 3 (.int .i64 m) (.int .i64 n) : Sem Value).run Try.prog w = .ok (.bool true) w := by
  rw [eql3 w]
  simp [h]
theorem eqlF {x y : Operand} {m n : Int} (h : m ≠ n) (w : World) : (do eqGuard .eql 3 x y (.int .i64 m) (.int .i64 n); binOp .eql 3 (.int .i64 m) (.int .i64 n) : Sem Value).run Try.prog w = .ok (.bool false) w := by
  rw [eql3 w]
  simp [h]
theorem neqT {x y : Operand} {m n : Int} (h : m ≠ n) (w : World) : (do eqGuard .neq 3 x y (.int .i64 m) (.int .i64 n); binOp .neq 3 (.int .i64 m) (.int .i64 n) : Sem Value).run Try.prog w = .ok (.bool true) w := by
  rw [neq3 w]
  simp [h]
theorem geqT {x y : Operand} {m n : Int} (h : n ≤ m) (w : World) : (do eqGuard .geq 3 x y (.int .i64 m) (.int .i64 n); binOp .geq 3 (.int .i64 m) (.int .i64 n) : Sem Value).run Try.prog w = .ok (.bool true) w := by
  go_simp
theorem geqF {x y : Operand} {m n : Int} (h : ¬ n ≤ m) (w : World) : (do eqGuard .geq 3 x y (.int .i64 m) (.int .i64 n); binOp .geq 3 (.int .i64 m) (.int .i64 n) : Sem Value).run Try.prog w = .ok (.bool false) w := by
  go_simp
section
variable {κ : Type} [DecidableEq κ]
theorem getK_mem {k : κ} {v : Value} : ∀ {l : List (κ × Value)}, getK l k = some v → (k, v) ∈ l
  | [], h => by simp [getK_nil] at h
  | p :: l, h => by
    rw [getK_cons] at h
    split at h
    · rename_i e
      cases h
      simp [e]
    · exact List.mem_cons_of_mem _ (getK_mem h)
end
section
variable {W0 : World} {b2 b3 b4 ba M : Nat} {Ds : List Nat} {m : List (List UInt8)}
theorem dig_nat {b : UInt8} (h : isDig b = true) : (dig b : Nat) = b.toNat - 48 ∧ dig b ≤ 9 := by
  simp [isDig] at h
  have : dig b = b.toNat - 48 := by
    unfold dig
    rw [UInt8.toNat_sub_of_le _ _ (by rw [UInt8.le_iff_toNat_le]; exact h.1)]
    rfl
  omega
end
end Go.Proofs.YtmdlmmfbcnkanaaR
namespace Go.Proofs.YtmdlmmfbcnkanaaR
open Go.RowKit Go.Shelf
section
attribute [local irreducible] AnyK StepK
end
end Go.Proofs.YtmdlmmfbcnkanaaR
namespace Go.Proofs.YtmdlmmfbcnkanaaR
open Go.Shelf
def srtF : Nat → Nat
  | 6 => 72
  | 15 => 93
  | 14 => 92
  | 28 => 112
  | 29 => 113
  | 20 => 104
  | 21 => 105
  | 22 => 106
  | 23 => 107
  | 24 => 108
  | 25 => 109
  | 26 => 110
  | 27 => 111
  | 46 => 117
  | 47 => 118
  | 48 => 119
  | 49 => 120
  | 50 => 121
  | 57 => 124
  | n => n
def srtT : Nat → Nat
  | 22 => 108
  | 24 => 83
  | 25 => 119
  | 3 => 3
  | 39 => 132
  | 0 => 0
  | 53 => 156
  | 55 => 158
  | 4 => 4
  | 46 => 149
  | 45 => 148
  | 50 => 153
  | 5 => 5
  | 9 => 9
  | 66 => 163
  | 70 => 167
  | 76 => 173
  | 77 => 142
  | n => n
def srtR : Ren := ⟨srtF, srtT, fun n => n⟩
theorem srt : SlLaysF0.n6 Try.prog srtR where
  mixed := by kernel_rfl
  f6 := ⟨Try.f72.name, by kernel_rfl, Try.func72.trans (by kernel_rfl)⟩
  f14 := ⟨Try.f92.name, by kernel_rfl, Try.func92.trans (by kernel_rfl)⟩
  f15 := Try.func93.trans (by kernel_rfl)
  f20 := ⟨Try.f104.name, by kernel_rfl, Try.func104.trans (by kernel_rfl)⟩
  f21 := ⟨Try.f105.name, by kernel_rfl, Try.func105.trans (by kernel_rfl)⟩
  f22 := ⟨Try.f106.name, by kernel_rfl, Try.func106.trans (by kernel_rfl)⟩
  f23 := ⟨Try.f107.name, by kernel_rfl, Try.func107.trans (by kernel_rfl)⟩
  f24 := ⟨Try.f108.name, by kernel_rfl, Try.func108.trans (by kernel_rfl)⟩
  f25 := ⟨Try.f109.name, by kernel_rfl, Try.func109.trans (by kernel_rfl)⟩
  f26 := ⟨Try.f110.name, by kernel_rfl, Try.func110.trans (by kernel_rfl)⟩
  f27 := ⟨Try.f111.name, by kernel_rfl, Try.func111.trans (by kernel_rfl)⟩
  f28 := Try.func112.trans (by kernel_rfl)
  f29 := Try.func113.trans (by kernel_rfl)
  f46 := ⟨Try.f117.name, by kernel_rfl, Try.func117.trans (by kernel_rfl)⟩
  f47 := Try.func118.trans (by kernel_rfl)
  f48 := Try.func119.trans (by kernel_rfl)
  f49 := ⟨Try.f120.name, by kernel_rfl, Try.func120.trans (by kernel_rfl)⟩
  f50 := ⟨Try.f121.name, by kernel_rfl, Try.func121.trans (by kernel_rfl)⟩
  f57 := ⟨Try.f124.name, by kernel_rfl, Try.func124.trans (by kernel_rfl)⟩
  t0 := by kernel_rfl
  a0 := fun w => by kernel_rfl
  z0 := fun w => by kernel_rfl
  v0 := fun w => by kernel_rfl
  t3 := by kernel_rfl
  a3 := fun w => by kernel_rfl
  z3 := fun w => by kernel_rfl
  v3 := fun w => by kernel_rfl
  t4 := by kernel_rfl
  a4 := fun w => by kernel_rfl
  z4 := fun w => by kernel_rfl
  v4 := fun w => by kernel_rfl
  t5 := by kernel_rfl
  a5 := fun w => by kernel_rfl
  z5 := fun w => by kernel_rfl
  v5 := fun w => by kernel_rfl
  t9 := by kernel_rfl
  a9 := fun w => by kernel_rfl
  z9 := fun w => by kernel_rfl
  v9 := fun w => by kernel_rfl
  t22 := by kernel_rfl
  a22 := fun w => by kernel_rfl
  z22 := fun w => by kernel_rfl
  v22 := fun w => by kernel_rfl
  t25 := by kernel_rfl
  a25 := fun w => by kernel_rfl
  z25 := fun w => by kernel_rfl
  v25 := fun w => by kernel_rfl
  t39 := by kernel_rfl
  a39 := fun w => by kernel_rfl
  z39 := fun w => by kernel_rfl
  v39 := fun w => by kernel_rfl
  t45 := by kernel_rfl
  a45 := fun w => by kernel_rfl
  z45 := fun w => by kernel_rfl
  v45 := fun w => by kernel_rfl
  t46 := by kernel_rfl
  a46 := fun w => by kernel_rfl
  z46 := fun w => by kernel_rfl
  v46 := fun w => by kernel_rfl
  t50 := by kernel_rfl
  a50 := fun w => by kernel_rfl
  z50 := fun w => by kernel_rfl
  v50 := fun w => by kernel_rfl
  t53 := by kernel_rfl
  a53 := fun w => by kernel_rfl
  z53 := fun w => by kernel_rfl
  v53 := fun w => by kernel_rfl
  t55 := by kernel_rfl
  a55 := fun w => by kernel_rfl
  z55 := fun w => by kernel_rfl
  v55 := fun w => by kernel_rfl
  t66 := by kernel_rfl
  a66 := fun w => by kernel_rfl
  z66 := fun w => by kernel_rfl
  v66 := fun w => by kernel_rfl
  t70 := by kernel_rfl
  a70 := fun w => by kernel_rfl
  z70 := fun w => by kernel_rfl
  v70 := fun w => by kernel_rfl
  t76 := by kernel_rfl
  a76 := fun w => by kernel_rfl
  z76 := fun w => by kernel_rfl
  v76 := fun w => by kernel_rfl
  t77 := by kernel_rfl
  a77 := fun w => by kernel_rfl
  z77 := fun w => by kernel_rfl
  v77 := fun w => by kernel_rfl
end Go.Proofs.YtmdlmmfbcnkanaaR
namespace Go.Proofs.YtmdlmmfbcnkanaaR
open Go.RowKit Go.Shelf Go.Sort
/-- A world that has grown, and was drawn from: nothing else. -/
def Grew (W W' : World) : Prop := ∃ q os, W' = grow (W.drewN q) os
theorem Grew.refl (W : World) : Grew W W := ⟨0, #[], by simp [grow, World.drewN]⟩
theorem grow_drewN (W : World) (q : Nat) (os : Array Obj) : (grow W os).drewN q = grow (W.drewN q) os := rfl
theorem drewN_drewN (W : World) (p q : Nat) : (W.drewN p).drewN q = W.drewN (p + q) := by simp [World.drewN, Nat.add_assoc]
theorem Grew.trans {a b c : World} (h : Grew a b) (k : Grew b c) : Grew a c := by
  obtain ⟨q, os, rfl⟩ := h
  obtain ⟨q', os', rfl⟩ := k
  exact ⟨q + q', os ++ os', by rw [grow_drewN, drewN_drewN, grow_grow]⟩
theorem Grew.alloc {a b : World} (h : Grew a b) (o : Obj) : Grew a (b.alloc o) := h.trans ⟨0, #[o], by rw [alloc_eq_grow]; rfl⟩
theorem Grew.drew {a b : World} (h : Grew a b) : Grew a b.drew := h.trans ⟨1, #[], by rw [grow_empty]; rfl⟩
theorem Grew.below {a b : World} (h : Grew a b) : Below a.heap.size a b := by
  obtain ⟨q, os, rfl⟩ := h
  refine ⟨rfl, rfl, rfl, ?_, fun k hk => ?_⟩
  · show a.heap.size ≤ (a.heap ++ os).size
    simp
  · show (a.heap ++ os)[k]? = a.heap[k]?
    exact Array.getElem?_append_left hk
section
variable (c0 c1 c2 c3 c4 c5 c6 : UInt8) (w : World)
set_option maxHeartbeats 1000000 in
theorem number1G : Calls Try.prog 59 #[rV c0 c1 c2 c3 c4 c5 c6, .int .i64 1] w fun e w' => e = .returned (.int .i64 (num2 c1 c2)) ∧ Grew w w' := by
  have d1 := dig_wrap c1
  have d2 := dig_wrap c2
  have l1 := dig_lt c1
  have l2 := dig_lt c2
  have hb : Grew w (w.alloc (.cells (r7 c0 c1 c2 c3 c4 c5 c6) 83)).drew := ((Grew.refl _).alloc _).drew
  have HB := Lib.hid hb
  clear hb
  go_enter Try.func59, Try.ntmps59
  go_wp2
  go_region
  all_goals
    go_wp2
    go_ret
    exact ⟨by simp [num2], HB.out⟩
end
set_option maxHeartbeats 400000 in
theorem kindsG (w : World) : Calls Try.prog 70 #[] w fun e w' => e = .returned (.slice (some ⟨w.heap.size, 0, none⟩) 3 3) ∧ Whole w' w.heap.size 113 kindC ∧ Grew w w' := by
  go_enter Try.func70, Try.ntmps70
  go_wp2_with fail
  go_ret
  exact ⟨rfl, Whole.new _ _ _, (Grew.refl _).alloc _⟩
set_option maxHeartbeats 400000 in
theorem isKindG (rb : Nat) (L : Int) (fv : Value) (c0 : UInt8) (w : World) (hr : w.cell? ⟨rb, 0, none⟩ = some (u8V c0)) :
    Calls Try.prog 71 #[.agg #[.int .u8 L, fv], .pointer (some ⟨rb, 0, none⟩)] w fun e w' => e = .returned (.bool (L == (c0.toNat : Int))) ∧ Grew w w' := by
  have hlt : rb < w.heap.size := by have := block_lt_of_cell hr; exact this
  go_enter Try.func71, Try.ntmps71
  go_wp2_with fail
  go_ret
  exact ⟨rfl, (Grew.refl _).alloc _⟩
set_option maxHeartbeats 1000000 in
theorem kindAtG (rb kb : Nat) (c0 : UInt8) (w : World) (hr : w.cell? ⟨rb, 0, none⟩ = some (u8V c0)) (hk : Whole w kb 113 kindC) :
    Calls Try.prog 69 #[.slice (some ⟨kb, 0, none⟩) 3 3, .func (.func 71) #[] #[.pointer (some ⟨rb, 0, none⟩)]] w fun e w' => e = .returned (.int .i64 (kindIx c0)) ∧ Grew w w' := by
  have Hr := Lib.hid hr
  have Hk := Lib.hid hk
  have hlr : rb < w.heap.size := by have := block_lt_of_cell hr; exact this
  have hlk := hk.lt
  clear hr hk
  go_enter Try.func69, Try.ntmps69
  go_wp2
  go_loopw [8] (fun i wr => Grew w wr ∧ (i = .int .i64 0 ∨ (i = .int .i64 1 ∧ c0 ≠ 72) ∨ (i = .int .i64 2 ∧ c0 ≠ 72 ∧ c0 ≠ 82) ∨ (i = .int .i64 3 ∧ c0 ≠ 72 ∧ c0 ≠ 82 ∧ c0 ≠ 80))) (fun i _ => (3 - intOf i).toNat)
  case atStart => exact ⟨Grew.refl _, .inl rfl⟩
  case round =>
    obtain ⟨hg, hrel⟩ := hrel
    have hb := hg.below
    have hr' := (hb.cell (p := ⟨rb, 0, none⟩) hlr).trans Hr.out
    have hk' := Hk.out.below hb hlk
    have k0 : wr.cell? ⟨kb, 0, none⟩ = some (.int .u8 72) := hk'.cell 0
    have k1 : wr.cell? ⟨kb, 1, none⟩ = some (.func (.func 90) #[] #[]) := hk'.cell 1
    have k2 : wr.cell? ⟨kb, 2, none⟩ = some (.int .u8 82) := hk'.cell 2
    have k3 : wr.cell? ⟨kb, 3, none⟩ = some (.func (.func 91) #[] #[]) := hk'.cell 3
    have k4 : wr.cell? ⟨kb, 4, none⟩ = some (.int .u8 80) := hk'.cell 4
    have k5 : wr.cell? ⟨kb, 5, none⟩ = some (.func (.func 91) #[] #[]) := hk'.cell 5
    have HB := Lib.hid hg
    have HR := Lib.hid hr'
    clear hb hk' hr' hg
    rcases hrel with rfl | ⟨rfl, h1⟩ | ⟨rfl, h1, h2⟩ | ⟨rfl, h1, h2, h3⟩
    · go_wp2_with fail
      refine (isKindG rb 72 _ c0 _ HR.out).mono ?_
      rintro e w1 ⟨rfl, hb1⟩
      by_cases h : c0 = 72
      · subst h
        rw [show ((72 : Int) == ((72 : UInt8).toNat : Int)) = true from rfl]
        go_wp2_with fail
        go_ret
        exact ⟨rfl, HB.out.trans hb1⟩
      · rw [show ((72 : Int) == (c0.toNat : Int)) = false from u8_ne (n := 72) (by omega) h]
        go_wp2_with fail
        go_roundw
        case rel => exact ⟨HB.out.trans hb1, .inr (.inl ⟨rfl, h⟩)⟩
        case measure => simp [intOf]
    · go_wp2_with fail
      refine (isKindG rb 82 _ c0 _ HR.out).mono ?_
      rintro e w1 ⟨rfl, hb1⟩
      by_cases h : c0 = 82
      · subst h
        rw [show ((82 : Int) == ((82 : UInt8).toNat : Int)) = true from rfl]
        go_wp2_with fail
        go_ret
        exact ⟨rfl, HB.out.trans hb1⟩
      · rw [show ((82 : Int) == (c0.toNat : Int)) = false from u8_ne (n := 82) (by omega) h]
        go_wp2_with fail
        go_roundw
        case rel => exact ⟨HB.out.trans hb1, .inr (.inr (.inl ⟨rfl, h1, h⟩))⟩
        case measure => simp [intOf]
    · go_wp2_with fail
      refine (isKindG rb 80 _ c0 _ HR.out).mono ?_
      rintro e w1 ⟨rfl, hb1⟩
      by_cases h : c0 = 80
      · subst h
        rw [show ((80 : Int) == ((80 : UInt8).toNat : Int)) = true from rfl]
        go_wp2_with fail
        go_ret
        exact ⟨rfl, HB.out.trans hb1⟩
      · rw [show ((80 : Int) == (c0.toNat : Int)) = false from u8_ne (n := 80) (by omega) h]
        go_wp2_with fail
        go_roundw
        case rel => exact ⟨HB.out.trans hb1, .inr (.inr (.inr ⟨rfl, h1, h2, h⟩))⟩
        case measure => simp [intOf]
    · have hF : kindIx c0 = -1 := by simp [kindIx, h1, h2, h3]
      go_wp2_with fail
      go_ret
      exact ⟨by rw [hF]; rfl, HB.out⟩
theorem isNaN_any (m : Int) (w : World) : Calls Try.prog 94 #[.int .i64 m] w fun e w' => e = .returned (.bool false) ∧ w = w' := by
  go_enter Try.func94, Try.ntmps94
  go_wp2
  go_ret
  exact ⟨rfl, rfl⟩
set_option maxHeartbeats 400000 in
theorem compare_any (m n : Int) (w : World) : Calls Try.prog 75 #[.int .i64 m, .int .i64 n] w fun e w' => e = .returned (.int .i64 (Lib.compareInt m n)) ∧ w = w' := by
  by_cases h1 : m < n
  · have hd : decide (m < n) = true := decide_eq_true h1
    have e1 : Lib.compareInt m n = -1 := by unfold Lib.compareInt; rw [if_pos h1]
    rw [e1]
    go_enter Try.func75, Try.ntmps75
    go_wp2_with (go_at_call 94; refine (isNaN_any _ _).mono ?_; rintro e w' ⟨rfl, rfl⟩)
    go_ret
    exact ⟨rfl, rfl⟩
  · have hd : decide (m < n) = false := decide_eq_false h1
    by_cases h2 : n < m
    · have hd2 : decide (n < m) = true := decide_eq_true h2
      have e1 : Lib.compareInt m n = 1 := by unfold Lib.compareInt; rw [if_neg h1, if_pos h2]
      rw [e1]
      go_enter Try.func75, Try.ntmps75
      go_wp2_with (go_at_call 94; refine (isNaN_any _ _).mono ?_; rintro e w' ⟨rfl, rfl⟩)
      go_ret
      exact ⟨rfl, rfl⟩
    · have hd2 : decide (n < m) = false := decide_eq_false h2
      have e1 : Lib.compareInt m n = 0 := by unfold Lib.compareInt; rw [if_neg h1, if_neg h2]
      rw [e1]
      go_enter Try.func75, Try.ntmps75
      go_wp2_with (go_at_call 94; refine (isNaN_any _ _).mono ?_; rintro e w' ⟨rfl, rfl⟩)
      go_ret
      exact ⟨rfl, rfl⟩
end Go.Proofs.YtmdlmmfbcnkanaaR
namespace Go.Proofs.YtmdlmmfbcnkanaaR
open Go.RowKit Go.Shelf Go.Sort
noncomputable def opsOrd0 : Array Oper := (Try.f68.body.bind (regionOf 0)).getD #[]
noncomputable def opsOrd1 : Array Oper := (Try.f68.body.bind (regionOf 1)).getD #[]
noncomputable def code68 : Code := (.seq (.region 0 opsOrd0 false) (.seq (.region 1 opsOrd1 false) .ret))
theorem body68 : Try.f68.body = some code68 := by kernel_rfl
set_option maxHeartbeats 400000 in
theorem orderG (c0 c1 c2 c3 c4 c5 c6 : UInt8) (W : World) : Calls Try.prog 68 #[rV c0 c1 c2 c3 c4 c5 c6] W fun e w' => e = .returned (.int .i64 (kindIx c0)) ∧ Grew W w' := by
  refine (callsIn_wide (n := 5)).1 (callsIn_of_wp Try.func68 body68 trivial ?_ rfl)
  obtain ⟨a, ha⟩ : ∃ a : Act, a = { tmps := #[rV c0 c1 c2 c3 c4 c5 c6] ++ Array.replicate (Try.f68.ntmps - (#[rV c0 c1 c2 c3 c4 c5 c6] : Array Value).size) undef, defers := [] } := ⟨_, rfl⟩
  have hsz : a.tmps.size = 6 := by rw [ha]; simp [Try.ntmps68]
  have t0 : a.eval (.tmp 0) = rV c0 c1 c2 c3 c4 c5 c6 := by rw [ha]; simp [Act.eval]
  have hd_a : a.defers = [] := by rw [ha]
  rw [← ha]
  clear ha
  unfold code68
  refine wpIn_seq (region_p 2 ?_)
  intro K hK
  refine ListK.box (i := 0) (u := rV c0 c1 c2 c3 c4 c5 c6) rfl (by simp [t0]) (bx83 _ _ _ _ _ _ _ W) ?_
  refine ListK.assign (i := 1) (v := .int .i64 0) rfl (by simp) ?_
  refine ListK.done (hK _ _ ?_)
  clear hK K
  have hg1 : Grew W (W.alloc (.cells (r7 c0 c1 c2 c3 c4 c5 c6) 83)) := (Grew.refl _).alloc _
  have wb := Whole.new W 83 (r7 c0 c1 c2 c3 c4 c5 c6)
  generalize W.heap.size = rb at *
  generalize W.alloc (.cells (r7 c0 c1 c2 c3 c4 c5 c6) 83) = W1 at *
  generalize hA : Act.put _ _ _ = a1
  have hz_a1 : a1.tmps.size = 6 := by rw [← hA]; simp only [size_put, hsz]
  have u1 : a1.eval (.tmp 1) = .pointer (some ⟨rb, 0, none⟩) := by rw [← hA]; exact (by simp [hsz])
  have hd_a1 : a1.defers = [] := by rw [← hA]; simp only [defers_put, hd_a]
  clear hA
  refine wpIn_seq (region_p 4 ?_)
  intro K hK
  refine ListK.call (i := 0) (vs := #[]) rfl (enters_of Try.func70 (by kernel_rfl) rfl) (by simp) ((kindsG W1).mono ?_)
  rintro _ W2 ⟨rfl, hw2, hg2⟩
  have hc2 := (wb.below hg2.below wb.lt).cell 0
  refine ⟨_, rfl, ?_⟩
  refine ListK.mkF (i := 1) (vs := #[.pointer (some ⟨rb, 0, none⟩)]) rfl (by simp [u1]) ?_
  refine ListK.call (i := 2) (vs := #[.slice (some ⟨W1.heap.size, 0, none⟩) 3 3, .func (.func 71) #[] #[.pointer (some ⟨rb, 0, none⟩)]]) rfl (enters_of Try.func69 (by kernel_rfl) rfl) (by simp [hz_a1]) ((kindAtG rb W1.heap.size c0 W2 hc2 hw2).mono ?_)
  rintro _ W3 ⟨rfl, hg3⟩
  refine ⟨_, rfl, ?_⟩
  refine ListK.assign (i := 3) (v := .int .i64 (kindIx c0)) rfl (by simp [hz_a1]) ?_
  refine ListK.done (hK _ _ (wpIn_ret ?_))
  exact bodyPost_ret (v := .int .i64 (kindIx c0)) (res1 Try.results68 (by simp [hz_a1])) (by simp only [defers_put, hd_a1]) ⟨rfl, (hg1.trans hg2).trans hg3⟩
/-- The first number that is not 0. -/
def orL : List Int → Int
  | [] => 0
  | x :: l => if x = 0 then orL l else x
theorem orL_at : ∀ {l : List Int} {i : Nat} {z : Int}, (∀ (j : Nat) (y : Int), j < i → l[j]? = some y → y = 0) → l[i]? = some z → z ≠ 0 → orL l = z
  | [], i, z, _, h, _ => by simp at h
  | x :: l, 0, z, _, h, hz => by
    simp only [List.getElem?_cons_zero, Option.some.injEq] at h
    subst h
    rw [orL, if_neg hz]
  | x :: l, i + 1, z, hno, h, hz => by
    have hx : x = 0 := hno 0 x (by omega) rfl
    rw [orL, if_pos hx]
    exact orL_at (l := l) (i := i) (fun j y hj hy => hno (j + 1) y (by omega) (by simpa using hy)) (by simpa using h) hz
theorem orL_none : ∀ {l : List Int}, (∀ (j : Nat) (y : Int), l[j]? = some y → y = 0) → orL l = 0
  | [], _ => rfl
  | x :: l, hno => by
    have hx : x = 0 := hno 0 x rfl
    rw [orL, if_pos hx]
    exact orL_none (fun j y hy => hno (j + 1) y (by simpa using hy))
theorem ix22z {b n c : Nat} {i : Nat} (h : i < n) (w : World) : (Instr.indexAt 22 (.slice (some ⟨b, 0, none⟩) n c) (.int .i64 i)).run Try.prog w = .ok (.pointer (some ⟨b, i, none⟩)) w := by
  have := ix22 (b := b) (o := 0) (c := c) h w
  rwa [Nat.zero_add] at this
abbrev SameP (W : World) (v : Value) : Ending → World → Prop := fun e w' => e = .returned v ∧ w' = W
noncomputable def opsOr0 : Array Oper := (Try.f74.body.bind (regionOf 0)).getD #[]
noncomputable def opsOr1 : Array Oper := (Try.f74.body.bind (regionOf 1)).getD #[]
noncomputable def opsOr2 : Array Oper := (Try.f74.body.bind (regionOf 2)).getD #[]
noncomputable def opsOr3 : Array Oper := (Try.f74.body.bind (regionOf 3)).getD #[]
noncomputable def opsOr4 : Array Oper := (Try.f74.body.bind (regionOf 4)).getD #[]
noncomputable def opsOr5 : Array Oper := (Try.f74.body.bind (regionOf 5)).getD #[]
noncomputable def opsOr6 : Array Oper := (Try.f74.body.bind (regionOf 6)).getD #[]
noncomputable def opsOr7 : Array Oper := (Try.f74.body.bind (regionOf 7)).getD #[]
noncomputable def opsOr8 : Array Oper := (Try.f74.body.bind (regionOf 8)).getD #[]
noncomputable def or_l : Code := (.seq (.region 3 opsOr3 false) (.seq (.cond (.tmp 9) .skip (.exit 0)) (.seq (.block 1 (.seq (.region 4 opsOr4 false) (.seq (.region 5 opsOr5 false) (.cond (.tmp 14) (.seq (.region 6 opsOr6 false) .ret) .skip)))) (.region 7 opsOr7 false))))
noncomputable def code74 : Code := (.seq (.region 0 opsOr0 false) (.seq (.region 1 opsOr1 false) (.seq (.seq (.region 2 opsOr2 false) (.block 0 (.loop or_l))) (.seq (.region 8 opsOr8 false) .ret))))
theorem body74 : Try.f74.body = some code74 := by kernel_rfl
set_option maxHeartbeats 400000 in
theorem or_any (g c : Nat) (l : List Int) (W : World) (hl : l.length ≤ 1000) (hc : ∀ (i : Nat) (z : Int), l[i]? = some z → W.cell? ⟨g, i, none⟩ = some (.int .i64 z)) : Calls Try.prog 74 #[.slice (some ⟨g, 0, none⟩) l.length c] W (SameP W (.int .i64 (orL l))) := by
  refine (callsIn_wide (n := 5)).1 (callsIn_of_wp Try.func74 body74 trivial ?_ rfl)
  obtain ⟨a, ha⟩ : ∃ a : Act, a = { tmps := #[.slice (some ⟨g, 0, none⟩) l.length c] ++ Array.replicate (Try.f74.ntmps - (#[.slice (some ⟨g, 0, none⟩) l.length c] : Array Value).size) undef, defers := [] } := ⟨_, rfl⟩
  have hsz : a.tmps.size = 18 := by rw [ha]; simp [Try.ntmps74]
  have t0 : a.eval (.tmp 0) = .slice (some ⟨g, 0, none⟩) l.length c := by rw [ha]; simp [Act.eval]
  have hd_a : a.defers = [] := by rw [ha]
  rw [← ha]
  clear ha
  unfold code74
  refine wpIn_seq (region_p 1 ?_)
  intro K hK
  refine ListK.assign (i := 0) (v := .int .i64 0) rfl (by simp) ?_
  refine ListK.done (hK _ _ ?_)
  clear hK K
  refine wpIn_seq (region_p 1 ?_)
  intro K hK
  refine ListK.assign (i := 0) (v := .int .i64 0) rfl (by simp) ?_
  refine ListK.done (hK _ _ ?_)
  clear hK K
  refine wpIn_seq (wpIn_seq (region_p 3 ?_))
  intro K hK
  refine ListK.move (i := 0) (v := .slice (some ⟨g, 0, none⟩) l.length c) rfl (by simp [t0]) ?_
  refine ListK.len (i := 1) (u := .slice (some ⟨g, 0, none⟩) l.length c) (v := .int .i64 l.length) rfl (by simp [hsz]) (ln22 _ _ _ _ _) rfl ?_
  refine ListK.move (i := 2) (v := .int .i64 0) rfl (by simp) ?_
  refine ListK.done (hK _ _ ?_)
  clear hK K
  generalize hA : Act.put _ _ _ = a1
  have hz_a1 : a1.tmps.size = 18 := by rw [← hA]; simp only [size_put, hsz]
  have u3 : a1.eval (.tmp 3) = .int .i64 0 := by rw [← hA]; exact (by simp [hsz])
  have u6 : a1.eval (.tmp 6) = .slice (some ⟨g, 0, none⟩) l.length c := by rw [← hA]; exact (by simp [hsz])
  have u7 : a1.eval (.tmp 7) = .int .i64 l.length := by rw [← hA]; exact (by simp [hsz])
  have u8 : a1.eval (.tmp 8) = .int .i64 0 := by rw [← hA]; exact (by simp [hsz])
  have hd_a1 : a1.defers = [] := by rw [← hA]; simp only [defers_put, hd_a]
  clear hA
  refine wpIn_block (wpIn_loop (fun a W' => ∃ i : Nat, W' = W ∧ i ≤ l.length ∧ (∀ (j : Nat) (y : Int), j < i → l[j]? = some y → y = 0) ∧ a.tmps.size = 18 ∧ a.defers = [] ∧ a.eval (.tmp 3) = .int .i64 0 ∧ a.eval (.tmp 6) = .slice (some ⟨g, 0, none⟩) l.length c ∧ a.eval (.tmp 7) = .int .i64 (l.length : Int) ∧ a.eval (.tmp 8) = .int .i64 (i : Int)) (fun a _ => l.length - (intOf (a.eval (.tmp 8))).toNat)
    ⟨0, rfl, Nat.zero_le _, fun j y h => by omega, hz_a1, hd_a1, u3, u6, u7, u8⟩ ?_)
  rintro b1 W1 ⟨i, hW, hi, hno, hz_b1, hd_b1, s3, s6, s7, s8⟩
  subst hW
  unfold or_l
  by_cases hlt : i < l.length
  · have hx := List.getElem?_eq_getElem hlt
    have hcx := hc i _ hx
    obtain ⟨z, hze⟩ : ∃ z, l[i] = z := ⟨_, rfl⟩
    rw [hze] at hx hcx
    refine wpIn_seq (region_p 1 ?_)
    intro K hK
    refine ListK.bin (i := 0) (u := .int .i64 (i : Int)) (u' := .int .i64 (l.length : Int)) (v := .bool true) rfl (by simp [s8]) (by simp [s7]) (lssT3 (by omega) _) ?_
    refine ListK.done (hK _ _ ?_)
    clear hK K
    refine wpIn_seq (wpIn_cond (t := true) (by simp [hz_b1]) (wpIn_skip ?_))
    generalize hA : Act.put _ _ _ = b2
    have hz_b2 : b2.tmps.size = 18 := by rw [← hA]; simp only [size_put, hz_b1]
    have o3 : b2.eval (.tmp 3) = .int .i64 0 := by rw [← hA]; exact (by simp [s3])
    have o6 : b2.eval (.tmp 6) = .slice (some ⟨g, 0, none⟩) l.length c := by rw [← hA]; exact (by simp [s6])
    have o7 : b2.eval (.tmp 7) = .int .i64 (l.length : Int) := by rw [← hA]; exact (by simp [s7])
    have o8 : b2.eval (.tmp 8) = .int .i64 (i : Int) := by rw [← hA]; exact (by simp [s8])
    have hd_b2 : b2.defers = [] := by rw [← hA]; simp only [defers_put, hd_b1]
    clear hA
    refine wpIn_seq (wpIn_block ?_)
    refine wpIn_seq (region_p 3 ?_)
    intro K hK
    refine ListK.index (i := 0) (u := .slice (some ⟨g, 0, none⟩) l.length c) (u' := .int .i64 (i : Int)) (v := .pointer (some ⟨g, i, none⟩)) rfl (by simp [o6]) (by simp [o8]) (ix22z hlt _) ?_
    refine ListK.load (i := 1) (p := ⟨g, i, none⟩) (v := .int .i64 z) rfl (by simp [hz_b2]) (ld3 (hcx)) ?_
    refine ListK.assign (i := 2) (v := .int .i64 z) rfl (by simp [hz_b2]) ?_
    refine ListK.done (hK _ _ ?_)
    clear hK K
    generalize hA : Act.put _ _ _ = b3
    have hz_b3 : b3.tmps.size = 18 := by rw [← hA]; simp only [size_put, hz_b2]
    have q3 : b3.eval (.tmp 3) = .int .i64 0 := by rw [← hA]; exact (by simp [o3])
    have q5 : b3.eval (.tmp 5) = .int .i64 z := by rw [← hA]; exact (by simp [hz_b2])
    have q6 : b3.eval (.tmp 6) = .slice (some ⟨g, 0, none⟩) l.length c := by rw [← hA]; exact (by simp [o6])
    have q7 : b3.eval (.tmp 7) = .int .i64 (l.length : Int) := by rw [← hA]; exact (by simp [o7])
    have q8 : b3.eval (.tmp 8) = .int .i64 (i : Int) := by rw [← hA]; exact (by simp [o8])
    have hd_b3 : b3.defers = [] := by rw [← hA]; simp only [defers_put, hd_b2]
    clear hA
    by_cases hz0 : z = 0
    · skip
      refine wpIn_seq (region_p 3 ?_)
      intro K hK
      refine ListK.move (i := 0) (v := .int .i64 z) rfl (by simp [q5]) ?_
      refine ListK.move (i := 1) (v := .int .i64 0) rfl (by simp [q3]) ?_
      refine ListK.bin (i := 2) (u := .int .i64 z) (u' := .int .i64 0) (v := .bool false) rfl (by simp [hz_b3]) (by simp [hz_b3]) (neqF hz0 _) ?_
      refine ListK.done (hK _ _ ?_)
      clear hK K
      refine wpIn_cond (t := false) (by simp [hz_b3]) (wpIn_skip ?_)
      show (Code.wpIn _ _ _ (Code.region _ _ _) _ _ _)
      refine region_p 2 ?_
      intro K hK
      refine ListK.bin (i := 0) (u := .int .i64 (i : Int)) (u' := .int .i64 1) (v := .int .i64 ((i + 1 : Nat) : Int)) rfl (by simp [q8]) (by simp) (add3 (by omega) (by omega) _) ?_
      refine ListK.move (i := 1) (v := .int .i64 ((i + 1 : Nat) : Int)) rfl (by simp [hz_b3]) ?_
      refine ListK.done (hK _ _ ?_)
      clear hK K
      refine ⟨⟨i + 1, rfl, by omega, fun j y hj hy => ?_, (by simp only [size_put, hz_b3]), (by simp only [defers_put, hd_b3]), (by simp [q3]), (by simp [q6]), (by simp [q7]), (by simp [hz_b3])⟩, ?_⟩
      · by_cases hji : j = i
        · subst hji
          rw [hx] at hy
          cases hy
          exact hz0
        · exact hno j y (by omega) hy
      · rw [s8, show (Act.put _ _ _).eval (.tmp 8) = .int .i64 ((i + 1 : Nat) : Int) from (by simp [hz_b3])]
        simp only [intOf]
        omega
    · have hv := orL_at hno hx hz0
      refine wpIn_seq (region_p 3 ?_)
      intro K hK
      refine ListK.move (i := 0) (v := .int .i64 z) rfl (by simp [q5]) ?_
      refine ListK.move (i := 1) (v := .int .i64 0) rfl (by simp [q3]) ?_
      refine ListK.bin (i := 2) (u := .int .i64 z) (u' := .int .i64 0) (v := .bool true) rfl (by simp [hz_b3]) (by simp [hz_b3]) (neqT hz0 _) ?_
      refine ListK.done (hK _ _ ?_)
      clear hK K
      refine wpIn_cond (t := true) (by simp [hz_b3]) ?_
      refine wpIn_seq (region_p 2 ?_)
      intro K hK
      refine ListK.move (i := 0) (v := .int .i64 z) rfl (by simp [q5]) ?_
      refine ListK.assign (i := 1) (v := .int .i64 z) rfl (by simp [hz_b3]) ?_
      refine ListK.done (hK _ _ (wpIn_ret ?_))
      exact bodyPost_ret (v := .int .i64 (orL l)) (res1 Try.results74 (by rw [hv]; exact (by simp [hz_b3]))) (by simp only [defers_put, hd_b3]) ⟨rfl, rfl⟩
  · have hv : orL l = 0 := orL_none fun j y hy => hno j y (by have := (List.getElem?_eq_some_iff.1 hy).1; omega) hy
    refine wpIn_seq (region_p 1 ?_)
    intro K hK
    refine ListK.bin (i := 0) (u := .int .i64 (i : Int)) (u' := .int .i64 (l.length : Int)) (v := .bool false) rfl (by simp [s8]) (by simp [s7]) (lssF3 (by omega) _) ?_
    refine ListK.done (hK _ _ ?_)
    clear hK K
    refine wpIn_seq (wpIn_cond (t := false) (by simp [hz_b1]) (wpIn_exit ?_))
    show (Code.wpIn _ _ _ (Code.seq _ _) _ _ _)
    refine wpIn_seq (region_p 2 ?_)
    intro K hK
    refine ListK.move (i := 0) (v := .int .i64 0) rfl (by simp [s3]) ?_
    refine ListK.assign (i := 1) (v := .int .i64 0) rfl (by simp [hz_b1]) ?_
    refine ListK.done (hK _ _ (wpIn_ret ?_))
    exact bodyPost_ret (v := .int .i64 (orL l)) (res1 Try.results74 (by rw [hv]; exact (by simp [hz_b1]))) (by simp only [defers_put, hd_b1]) ⟨rfl, rfl⟩
theorem ld116 {w : World} {p : Addr} {v : Value} (h : w.cell? p = some v) : (Instr.loadAt 116 (.pointer (some p))).run Try.prog w = .ok v w := by go_simp
noncomputable def opsCmp0 : Array Oper := (Try.f73.body.bind (regionOf 0)).getD #[]
noncomputable def opsCmp1 : Array Oper := (Try.f73.body.bind (regionOf 1)).getD #[]
noncomputable def code73 : Code := (.seq (.region 0 opsCmp0 false) (.seq (.region 1 opsCmp1 true) .ret))
theorem body73 : Try.f73.body = some code73 := by kernel_rfl
/-- How two records are compared. -/
def cmpR (k n k' n' : Int) : Int := orL [Lib.compareInt k k', Lib.compareInt n n']
section
attribute [local irreducible] AnyK StepK
set_option maxHeartbeats 800000 in
theorem cmpG (c0 c1 c2 c3 c4 c5 c6 e0 e1 e2 e3 e4 e5 e6 : UInt8) (bo : Nat) (W : World) (ho : W.cell? ⟨bo, 0, none⟩ = some (.func (.func 68) #[] #[])) :
    Calls Try.prog 73 #[rV c0 c1 c2 c3 c4 c5 c6, rV e0 e1 e2 e3 e4 e5 e6, ptr bo] W fun e w' => e = .returned (.int .i64 (cmpR (kindIx c0) (num2 c1 c2) (kindIx e0) (num2 e1 e2))) ∧ Grew W w' := by
  have hbo : bo < W.heap.size := by have := block_lt_of_cell ho; exact this
  refine (callsIn_wide (n := 5)).1 (callsIn_of_wp Try.func73 body73 trivial ?_ rfl)
  obtain ⟨a, ha⟩ : ∃ a : Act, a = { tmps := #[rV c0 c1 c2 c3 c4 c5 c6, rV e0 e1 e2 e3 e4 e5 e6, ptr bo] ++ Array.replicate (Try.f73.ntmps - (#[rV c0 c1 c2 c3 c4 c5 c6, rV e0 e1 e2 e3 e4 e5 e6, ptr bo] : Array Value).size) undef, defers := [] } := ⟨_, rfl⟩
  have hsz : a.tmps.size = 20 := by rw [ha]; simp [Try.ntmps73]
  have t0 : a.eval (.tmp 0) = rV c0 c1 c2 c3 c4 c5 c6 := by rw [ha]; simp [Act.eval]
  have t1 : a.eval (.tmp 1) = rV e0 e1 e2 e3 e4 e5 e6 := by rw [ha]; simp [Act.eval]
  have t2 : a.eval (.tmp 2) = ptr bo := by rw [ha]; simp [Act.eval]
  have hd_a : a.defers = [] := by rw [ha]
  rw [← ha]
  clear ha
  unfold code73
  refine wpIn_seq (region_p 3 ?_)
  intro K hK
  refine ListK.box (i := 0) (u := rV c0 c1 c2 c3 c4 c5 c6) rfl (by simp [t0]) (bx83 _ _ _ _ _ _ _ W) ?_
  refine ListK.box (i := 1) (u := rV e0 e1 e2 e3 e4 e5 e6) rfl (by simp [t1]) (bx83 _ _ _ _ _ _ _ (W.alloc (.cells (r7 c0 c1 c2 c3 c4 c5 c6) 83))) ?_
  refine ListK.assign (i := 2) (v := .int .i64 0) rfl (by simp) ?_
  refine ListK.done (hK _ _ ?_)
  clear hK K
  have hg1 : Grew W (W.alloc (.cells (r7 c0 c1 c2 c3 c4 c5 c6) 83)) := (Grew.refl _).alloc _
  have w3 := Whole.new W 83 (r7 c0 c1 c2 c3 c4 c5 c6)
  have ho1 := (hg1.below.cell (p := ⟨bo, 0, none⟩) hbo).trans ho
  have hz1 := hg1.below.size
  generalize W.heap.size = b3 at w3 ⊢
  generalize W.alloc (.cells (r7 c0 c1 c2 c3 c4 c5 c6) 83) = W1 at *
  have hg2 : Grew W1 (W1.alloc (.cells (r7 e0 e1 e2 e3 e4 e5 e6) 83)) := (Grew.refl _).alloc _
  have w4 := Whole.new W1 83 (r7 e0 e1 e2 e3 e4 e5 e6)
  have ho2 := (hg2.below.cell (p := ⟨bo, 0, none⟩) (show bo < W1.heap.size by omega)).trans ho1
  replace w3 := w3.below hg2.below w3.lt
  have hG2 := hg1.trans hg2
  generalize W1.heap.size = b4 at w4 ⊢
  generalize W1.alloc (.cells (r7 e0 e1 e2 e3 e4 e5 e6) 83) = W2 at *
  generalize hA : Act.put _ _ _ = a1
  have hz_a1 : a1.tmps.size = 20 := by rw [← hA]; simp only [size_put, hsz]
  have u2 : a1.eval (.tmp 2) = .pointer (some ⟨bo, 0, none⟩) := by rw [← hA]; exact (by simp [t2])
  have u3 : a1.eval (.tmp 3) = .pointer (some ⟨b3, 0, none⟩) := by rw [← hA]; exact (by simp [hsz])
  have u4 : a1.eval (.tmp 4) = .pointer (some ⟨b4, 0, none⟩) := by rw [← hA]; exact (by simp [hsz])
  have hd_a1 : a1.defers = [] := by rw [← hA]; simp only [defers_put, hd_a]
  clear hA
  have hgr : ∀ w w', (fun w : World => (Whole w b3 83 (r7 c0 c1 c2 c3 c4 c5 c6) ∧ Whole w b4 83 (r7 e0 e1 e2 e3 e4 e5 e6)) ∧ w.cell? ⟨bo, 0, none⟩ = some (.func (.func 68) #[] #[]) ∧ Grew W2 w) w → Grew w w' → (fun w : World => (Whole w b3 83 (r7 c0 c1 c2 c3 c4 c5 c6) ∧ Whole w b4 83 (r7 e0 e1 e2 e3 e4 e5 e6)) ∧ w.cell? ⟨bo, 0, none⟩ = some (.func (.func 68) #[] #[]) ∧ Grew W2 w) w' := fun w w' h hg => ⟨⟨h.1.1.below hg.below h.1.1.lt, h.1.2.below hg.below h.1.2.lt⟩, (hg.below.cell (p := ⟨bo, 0, none⟩) (show bo < w.heap.size by have := block_lt_of_cell h.2.1; exact this)).trans h.2.1, h.2.2.trans hg⟩
  have hR0 : (fun w : World => (Whole w b3 83 (r7 c0 c1 c2 c3 c4 c5 c6) ∧ Whole w b4 83 (r7 e0 e1 e2 e3 e4 e5 e6)) ∧ w.cell? ⟨bo, 0, none⟩ = some (.func (.func 68) #[] #[]) ∧ Grew W2 w) W2.drew := hgr W2 _ ⟨⟨w3, w4⟩, ho2, Grew.refl _⟩ ((Grew.refl _).drew)
  refine wpIn_seq (region_K (KpR (fun w : World => (Whole w b3 83 (r7 c0 c1 c2 c3 c4 c5 c6) ∧ Whole w b4 83 (r7 e0 e1 e2 e3 e4 e5 e6)) ∧ w.cell? ⟨bo, 0, none⟩ = some (.func (.func 68) #[] #[]) ∧ Grew W2 w) (fun _ => false)) (wideF_plain _) (by kernel_rfl) Try.mixed ?_)
  change AnyK _ _ _ _ 15 (Array.replicate 15 false) _ _
  have hR : (fun w : World => (Whole w b3 83 (r7 c0 c1 c2 c3 c4 c5 c6) ∧ Whole w b4 83 (r7 e0 e1 e2 e3 e4 e5 e6)) ∧ w.cell? ⟨bo, 0, none⟩ = some (.func (.func 68) #[] #[]) ∧ Grew W2 w) W2.drew := hR0
  refine AnyK.load (i := 0) may_o (p := ⟨bo, 0, none⟩) (v := .func (.func 68) #[] #[]) (by simp [u2]) (fun w hw => ld116 hw.2.1) hR ?_
  refine AnyK.load (i := 1) may_o (p := ⟨b3, 0, none⟩) (v := rV c0 c1 c2 c3 c4 c5 c6) (by simp [u3]) (fun w hw => ld83 hw.1.1) hR ?_
  refine AnyK.load (i := 3) may_o (p := ⟨bo, 0, none⟩) (v := .func (.func 68) #[] #[]) (by simp [u2]) (fun w hw => ld116 hw.2.1) hR ?_
  refine AnyK.load (i := 4) may_o (p := ⟨b4, 0, none⟩) (v := rV e0 e1 e2 e3 e4 e5 e6) (by simp [u4]) (fun w hw => ld83 hw.1.2) hR ?_
  refine AnyK.load (i := 7) may_o (p := ⟨b3, 0, none⟩) (v := rV c0 c1 c2 c3 c4 c5 c6) (by simp [u3]) (fun w hw => ld83 hw.1.1) hR ?_
  refine AnyK.load (i := 9) may_o (p := ⟨b4, 0, none⟩) (v := rV e0 e1 e2 e3 e4 e5 e6) (by simp [u4]) (fun w hw => ld83 hw.1.2) hR ?_
  refine AnyK.pick1 (i := 2) (by kernel_rfl) ?_
  refine StepK.call (i := 2) (f := 68) (vs := #[rV c0 c1 c2 c3 c4 c5 c6]) rfl (enters_of Try.func68 (by kernel_rfl) rfl) (by simp [hz_a1]) (by simp [hz_a1]) ((orderG c0 c1 c2 c3 c4 c5 c6 _).mono ?_)
  rintro _ V2 ⟨rfl, g2⟩
  replace hR : (fun w : World => (Whole w b3 83 (r7 c0 c1 c2 c3 c4 c5 c6) ∧ Whole w b4 83 (r7 e0 e1 e2 e3 e4 e5 e6)) ∧ w.cell? ⟨bo, 0, none⟩ = some (.func (.func 68) #[] #[]) ∧ Grew W2 w) V2 := hgr _ _ hR g2
  refine ⟨_, rfl, fun _ _ => hR, ?_⟩
  refine AnyK.pick1 (i := 5) (by kernel_rfl) ?_
  refine StepK.call (i := 5) (f := 68) (vs := #[rV e0 e1 e2 e3 e4 e5 e6]) rfl (enters_of Try.func68 (by kernel_rfl) rfl) (by simp [hz_a1]) (by simp [hz_a1]) ((orderG e0 e1 e2 e3 e4 e5 e6 _).mono ?_)
  rintro _ V5 ⟨rfl, g5⟩
  replace hR : (fun w : World => (Whole w b3 83 (r7 c0 c1 c2 c3 c4 c5 c6) ∧ Whole w b4 83 (r7 e0 e1 e2 e3 e4 e5 e6)) ∧ w.cell? ⟨bo, 0, none⟩ = some (.func (.func 68) #[] #[]) ∧ Grew W2 w) V5 := hgr _ _ hR g5
  refine ⟨_, rfl, fun _ _ => hR, ?_⟩
  refine AnyK.pick1 (i := 6) (by kernel_rfl) ?_
  refine StepK.call (i := 6) (f := 75) (vs := #[.int .i64 (kindIx c0), .int .i64 (kindIx e0)]) rfl (enters_of Try.func75 (by kernel_rfl) rfl) rfl (by simp [hz_a1]) ((compare_any (kindIx c0) (kindIx e0) _).mono ?_)
  rintro _ V6 ⟨rfl, h6⟩
  subst h6
  refine ⟨_, rfl, fun _ _ => hR, ?_⟩
  refine AnyK.pick1 (i := 8) (by kernel_rfl) ?_
  refine StepK.call (i := 8) (f := 59) (vs := #[rV c0 c1 c2 c3 c4 c5 c6, .int .i64 (1)]) rfl (enters_of Try.func59 (by kernel_rfl) rfl) rfl (by simp [hz_a1]) ((number1G c0 c1 c2 c3 c4 c5 c6 _).mono ?_)
  rintro _ V8 ⟨rfl, g8⟩
  replace hR : (fun w : World => (Whole w b3 83 (r7 c0 c1 c2 c3 c4 c5 c6) ∧ Whole w b4 83 (r7 e0 e1 e2 e3 e4 e5 e6)) ∧ w.cell? ⟨bo, 0, none⟩ = some (.func (.func 68) #[] #[]) ∧ Grew W2 w) V8 := hgr _ _ hR g8
  refine ⟨_, rfl, fun _ _ => hR, ?_⟩
  refine AnyK.pick1 (i := 10) (by kernel_rfl) ?_
  refine StepK.call (i := 10) (f := 59) (vs := #[rV e0 e1 e2 e3 e4 e5 e6, .int .i64 (1)]) rfl (enters_of Try.func59 (by kernel_rfl) rfl) rfl (by simp [hz_a1]) ((number1G e0 e1 e2 e3 e4 e5 e6 _).mono ?_)
  rintro _ V10 ⟨rfl, g10⟩
  replace hR : (fun w : World => (Whole w b3 83 (r7 c0 c1 c2 c3 c4 c5 c6) ∧ Whole w b4 83 (r7 e0 e1 e2 e3 e4 e5 e6)) ∧ w.cell? ⟨bo, 0, none⟩ = some (.func (.func 68) #[] #[]) ∧ Grew W2 w) V10 := hgr _ _ hR g10
  refine ⟨_, rfl, fun _ _ => hR, ?_⟩
  refine AnyK.pick1 (i := 11) (by kernel_rfl) ?_
  refine StepK.call (i := 11) (f := 75) (vs := #[.int .i64 (num2 c1 c2 : Int), .int .i64 (num2 e1 e2 : Int)]) rfl (enters_of Try.func75 (by kernel_rfl) rfl) rfl (by simp [hz_a1]) ((compare_any (num2 c1 c2 : Int) (num2 e1 e2 : Int) _).mono ?_)
  rintro _ V11 ⟨rfl, h11⟩
  subst h11
  refine ⟨_, rfl, fun _ _ => hR, ?_⟩
  refine AnyK.pick1 (i := 12) (by kernel_rfl) ?_
  have hcl : ∀ w : World, ∀ (i : Nat) (z : Int), [(Lib.compareInt (kindIx c0) (kindIx e0)), (Lib.compareInt (num2 c1 c2 : Int) (num2 e1 e2 : Int))][i]? = some z → (w.alloc (.cells #[.int .i64 (Lib.compareInt (kindIx c0) (kindIx e0)), .int .i64 (Lib.compareInt (num2 c1 c2 : Int) (num2 e1 e2 : Int))] 3)).cell? ⟨w.heap.size, i, none⟩ = some (.int .i64 z) := fun w i z hz => by
    rw [(Whole.new w 3 #[.int .i64 (Lib.compareInt (kindIx c0) (kindIx e0)), .int .i64 (Lib.compareInt (num2 c1 c2 : Int) (num2 e1 e2 : Int))]).cell i]
    rcases i with _ | _ | i
    · cases hz; rfl
    · cases hz; rfl
    · simp at hz
  refine StepK.build (i := 12) (ps := #[(0, .int .i64 (Lib.compareInt (kindIx c0) (kindIx e0))), (1, .int .i64 (Lib.compareInt (num2 c1 c2 : Int) (num2 e1 e2 : Int)))]) rfl (by simp [hz_a1]) (bs22_2 _ _ _) (fun _ h => hgr _ _ h ((Grew.refl _).alloc _)) ?_
  replace hR := hgr _ _ hR ((Grew.refl _).alloc (.cells #[.int .i64 (Lib.compareInt (kindIx c0) (kindIx e0)), .int .i64 (Lib.compareInt (num2 c1 c2 : Int) (num2 e1 e2 : Int))] 3))
  refine AnyK.pick1 (i := 13) (by kernel_rfl) ?_
  refine StepK.call (i := 13) (f := 74) (vs := #[.slice (some ⟨_, 0, none⟩) 2 2]) rfl (enters_of Try.func74 (by kernel_rfl) rfl) rfl (by simp [hz_a1]) ((or_any _ 2 [(Lib.compareInt (kindIx c0) (kindIx e0)), (Lib.compareInt (num2 c1 c2 : Int) (num2 e1 e2 : Int))] _ (by simp) (hcl _)).mono ?_)
  rintro _ V13 ⟨rfl, h13⟩
  subst h13
  refine ⟨_, rfl, fun _ _ => hR, ?_⟩
  refine AnyK.assign (i := 14) may_o (v := .int .i64 (orL [(Lib.compareInt (kindIx c0) (kindIx e0)), (Lib.compareInt (num2 c1 c2 : Int) (num2 e1 e2 : Int))])) (by simp [hz_a1]) hR ?_
  refine AnyK.done (by kernel_rfl) ?_
  refine wpIn_ret ?_
  exact bodyPost_ret (v := .int .i64 (cmpR (kindIx c0) (num2 c1 c2) (kindIx e0) (num2 e1 e2))) (res1 Try.results73 (by unfold cmpR; exact (by simp [hz_a1]))) (by simp only [defers_put, hd_a1]) ⟨rfl, hG2.trans hR.2.2⟩
end
end Go.Proofs.YtmdlmmfbcnkanaaR
namespace Go.Proofs.YtmdlmmfbcnkanaaR
open Go.RowKit Go.Shelf
/-- Records as keys. -/
abbrev K7 := UInt8 × UInt8 × UInt8 × UInt8 × UInt8 × UInt8 × UInt8
noncomputable instance k7dec : DecidableEq K7 := fun a b => Classical.propDecidable (a = b)
abbrev kv7 (k : K7) : Value := rV k.1 k.2.1 k.2.2.1 k.2.2.2.1 k.2.2.2.2.1 k.2.2.2.2.2.1 k.2.2.2.2.2.2
def k7 : List UInt8 → K7
  | [a, b, c, d, e, f, g] => (a, b, c, d, e, f, g)
  | _ => (0, 0, 0, 0, 0, 0, 0)
theorem kl102 : KeyLaw (κ := K7) 102 83 4 kv7 where
  und := fun w => by kernel_rfl
  chk := fun b k w => by kernel_rfl
  slow := ⟨_, und83, fun k k' => sameNow_agg _ _ _⟩
  eq := fun k k' w => by
    obtain ⟨a, b, c, d, e, f, g⟩ := k
    obtain ⟨a', b', c', d', e', f', g'⟩ := k'
    show (Op.equalIn 10000 83 (rV a b c d e f g) (rV a' b' c' d' e' f' g')).run Try.prog w = _
    rw [eq83]
    congr 1
    refine decide_eq_decide.2 ?_
    simp
  stays := fun k w => stays_agg _ w (by simp)
theorem k7_inj {r r' : List UInt8} (h : r.length = 7) (h' : r'.length = 7) (e : k7 r = k7 r') : r = r' := by
  obtain ⟨a, b, c, d, e1, f, g, rfl⟩ := len7 h
  obtain ⟨a', b', c', d', e', f', g', rfl⟩ := len7 h'
  simpa [k7] using e
/-- What has been counted: good pieces, bad ones, doubles; and the good ones, without doubles. -/
structure Ct where
  ng : Nat
  nb : Nat
  nd : Nat
  sn : List (List UInt8)
def seenM (l : List (List UInt8)) : List (K7 × Value) := l.map fun r => (k7 r, .bool true)
theorem getK_seen {l : List (List UInt8)} (h7 : ∀ r, r ∈ l → r.length = 7) {p : List UInt8} (hp : p.length = 7) : (getK (seenM l) (k7 p)).getD (.bool false) = .bool (decide (p ∈ l)) := by
  induction l with
  | nil => rfl
  | cons r l ih =>
    have h1 := ih (fun x hx => h7 x (List.mem_cons_of_mem _ hx))
    show (getK ((k7 r, .bool true) :: seenM l) (k7 p)).getD (.bool false) = _
    rw [getK_cons]
    by_cases e : p = r
    · subst e
      simp
    · have e2 : k7 p ≠ k7 r := fun h => e (k7_inj hp (h7 r List.mem_cons_self) h)
      rw [if_neg e2, h1]
      simp [e]
theorem putK_seen {l : List (List UInt8)} (h7 : ∀ r, r ∈ l → r.length = 7) {p : List UInt8} (hp : p.length = 7) : putK (seenM l) (k7 p) (.bool true) = seenM (if p ∈ l then l else l ++ [p]) := by
  have h := getK_seen h7 hp
  by_cases e : p ∈ l
  · rw [if_pos e]
    refine putK_same ?_
    rw [decide_eq_true e] at h
    cases hg : getK (seenM l) (k7 p) with
    | none => rw [hg] at h; cases h
    | some v => rw [hg] at h; exact congrArg some h
  · rw [if_neg e]
    have hn : getK (seenM l) (k7 p) = none := by
      cases hg : getK (seenM l) (k7 p) with
      | none => rfl
      | some v =>
        rw [hg, decide_eq_false e] at h
        have hm := getK_mem hg
        unfold seenM at hm
        obtain ⟨r, _, hr⟩ := List.mem_map.1 hm
        have hv := congrArg Prod.snd hr
        simp only at hv
        subst hv
        cases h
    rw [putK_new hn]
    simp [seenM]
abbrev c62 (x y z : Nat) : Array Value := #[.int .i64 (x : Int), .int .i64 (y : Int), .int .i64 (z : Int)]
/-- What holds between two pieces. -/
structure CtI (W0 : World) (b2 b4 M b5 : Nat) (x : Ct) (W : World) : Prop where
  low : Below W0.heap.size W0 W
  ord : W0.heap.size ≤ b2 ∧ b2 < b4 ∧ b4 < M ∧ M < b5
  w2 : Whole W b2 62 #[.int .i64 0, .int .i64 0, .int .i64 0]
  w4 : Whole W b4 62 (c62 x.ng x.nb x.nd)
  w5 : Whole W b5 102 #[.map (some M)]
  mp : MapAt kv7 W M (seenM x.sn)
  gd : ∀ r, r ∈ x.sn → isGood r = true
section
variable {W0 W W' : World} {b2 b4 M b5 : Nat} {x : Ct}
theorem CtI.else {X : Nat → Prop} (i : CtI W0 b2 b4 M b5 x W) (he : Else X W W') (hX : ∀ k, k ≤ b5 → ¬ X k) : CtI W0 b2 b4 M b5 x W' := by
  obtain ⟨o1, o2, o3, o4⟩ := i.ord
  exact ⟨i.low.trans (he.below i.low.size (fun k hk => hX k (by omega))), i.ord, he.whole (hX _ (by omega)) i.w2, he.whole (hX _ (by omega)) i.w4, he.whole (hX _ (by omega)) i.w5, i.mp.keep (he.block M i.mp.lt (hX _ (by omega))), i.gd⟩
theorem CtI.below (i : CtI W0 b2 b4 M b5 x W) (hb : Below W.heap.size W W') : CtI W0 b2 b4 M b5 x W' := i.else (Else.of_below (fun _ => False) hb) (fun _ _ h => h)
theorem CtI.lt (i : CtI W0 b2 b4 M b5 x W) : b5 < W.heap.size := i.w5.lt
/-- A number is changed. -/
theorem CtI.set (i : CtI W0 b2 b4 M b5 x W) {j : Nat} {v : Value} {y : Ct} (hw : ∀ W', Whole W' b4 62 ((c62 x.ng x.nb x.nd).setIfInBounds j v) → Whole W' b4 62 (c62 y.ng y.nb y.nd)) (hs : y.sn = x.sn) : CtI W0 b2 b4 M b5 y (W.setCell ⟨b4, j, none⟩ v) ∧ Else (fun k => k = b4) W (W.setCell ⟨b4, j, none⟩ v) := by
  obtain ⟨o1, o2, o3, o4⟩ := i.ord
  have he : Else (fun k => k = b4) W (W.setCell ⟨b4, j, none⟩ v) := (Else.refl (fun k => k = b4) W).setCell (p := ⟨b4, j, none⟩) (.inl rfl) _
  refine ⟨⟨i.low.trans (he.below i.low.size (fun k hk => by omega)), i.ord, he.whole (by omega) i.w2, hw _ (i.w4.set j v), he.whole (by omega) i.w5, ?_, fun r hr => i.gd r (hs ▸ hr)⟩, he⟩
  rw [hs]
  exact i.mp.keep (he.block M i.mp.lt (by omega))
/-- A record is seen. -/
theorem CtI.put (i : CtI W0 b2 b4 M b5 x W) {p : List UInt8} (hg : isGood p = true) :
    ∃ W', (Instr.mapUpdate 102 (.map (some M)) (kv7 (k7 p)) (.bool true)).run Try.prog W = .ok () W' ∧ CtI W0 b2 b4 M b5 ⟨x.ng, x.nb, x.nd, if p ∈ x.sn then x.sn else x.sn ++ [p]⟩ W' ∧ Else (fun k => k = M) W W' := by
  obtain ⟨o1, o2, o3, o4⟩ := i.ord
  obtain ⟨o, h3, h4⟩ := i.mp.put kl102 (k7 p) (.bool true)
  rw [putK_seen (fun r hr => good_seven (i.gd r hr)) (good_seven hg)] at h4
  have he : Else (fun k => k = M) W (W.putObj M o) := ⟨⟨rfl, rfl, rfl, by simp [World.putObj], fun k hk => by omega⟩, fun k _ hx => World.putObj_heap_other hx⟩
  refine ⟨_, h3, ⟨i.low.trans (he.below i.low.size (fun k hk => by omega)), i.ord, he.whole (by omega) i.w2, he.whole (by omega) i.w4, he.whole (by omega) i.w5, h4, ?_⟩, he⟩
  intro r hr
  split at hr
  · exact i.gd r hr
  · rcases List.mem_append.1 hr with hr | hr
    · exact i.gd r hr
    · simp at hr
      rw [hr]
      exact hg
end
section
variable {W0 : World} {b2 b4 M b5 : Nat} {x : Ct}
end
end Go.Proofs.YtmdlmmfbcnkanaaR
namespace Go.Proofs.YtmdlmmfbcnkanaaR
open Go.RowKit Go.Shelf Go.Sort

def un7 (k : K7) : List UInt8 := [k.1, k.2.1, k.2.2.1, k.2.2.2.1, k.2.2.2.2.1, k.2.2.2.2.2.1, k.2.2.2.2.2.2]
def enc7 (k : K7) : List Value := [u8V k.1, u8V k.2.1, u8V k.2.2.1, u8V k.2.2.2.1, u8V k.2.2.2.2.1, u8V k.2.2.2.2.2.1, u8V k.2.2.2.2.2.2]
theorem enc7_un (k : K7) : enc7 k = (un7 k).map u8V := rfl
theorem un7_k7 {r : List UInt8} (h : r.length = 7) : un7 (k7 r) = r := by
  obtain ⟨a, b, c, d, e, f, g, rfl⟩ := len7 h
  rfl
/-- The place of a record in a file. -/
def rankL : List UInt8 → Int
  | a :: b :: c :: _ => kindIx a * 10000 + num2 b c
  | _ => 0
def cf7 (x y : K7) : Int := cmpR (kindIx x.1) (num2 x.2.1 x.2.2.1) (kindIx y.1) (num2 y.2.1 y.2.2.1)
theorem num2_le (a b : UInt8) : num2 a b ≤ 2805 := by
  have h1 := dig_lt a
  have h2 := dig_lt b
  unfold num2
  omega
theorem lt7 (x y : K7) : ltOf cf7 x y = decide (rankL (un7 x) < rankL (un7 y)) := by
  have h1 := num2_le x.2.1 x.2.2.1
  have h2 := num2_le y.2.1 y.2.2.1
  show decide (cmpR (kindIx x.1) (num2 x.2.1 x.2.2.1) (kindIx y.1) (num2 y.2.1 y.2.2.1) < 0) = decide (kindIx x.1 * 10000 + (num2 x.2.1 x.2.2.1 : Int) < kindIx y.1 * 10000 + (num2 y.2.1 y.2.2.1 : Int))
  generalize kindIx x.1 = k
  generalize kindIx y.1 = k'
  generalize num2 x.2.1 x.2.2.1 = n at *
  generalize num2 y.2.1 y.2.2.1 = n' at *
  refine decide_eq_decide.2 ?_
  unfold cmpR Lib.compareInt
  simp only [orL]
  by_cases a1 : k < k'
  · rw [if_pos a1, if_neg (by decide)]
    omega
  · rw [if_neg a1]
    by_cases a2 : k > k'
    · rw [if_pos a2, if_neg (by decide)]
      omega
    · rw [if_neg a2, if_pos rfl]
      by_cases b1 : (n : Int) < n'
      · rw [if_pos b1, if_neg (by decide)]
        omega
      · rw [if_neg b1]
        by_cases b2 : (n : Int) > n'
        · rw [if_pos b2, if_neg (by decide)]
          omega
        · rw [if_neg b2, if_pos rfl]
          omega
theorem swo7 : SWO (ltOf cf7) where
  irrefl x := by rw [lt7]; simp
  trans x y z h1 h2 := by rw [lt7] at *; simp at *; omega
  ntrans x y z h1 h2 := by rw [lt7] at *; simp at *; omega
theorem agg83 : ∀ w, (isAgg (srtR.t 24)).run Try.prog w = .ok true w := fun w => by kernel_rfl
theorem siz83 : ∀ w, (Go.sizeOf (srtR.t 24)).run Try.prog w = .ok 7 w := fun w => by kernel_rfl
theorem cmpLays7 {bo blk off size : Nat} {w : World} (hb : bo ≠ blk) (ho : w.cell? ⟨bo, 0, none⟩ = some (.func (.func 68) #[] #[])) : CmpLays Try.prog 73 #[ptr bo] enc7 7 cf7 blk off size w := by
  intro m os dk hs x y
  have hlt : bo < w.heap.size := by have := block_lt_of_cell ho; exact this
  refine cmpG x.1 x.2.1 x.2.2.1 x.2.2.2.1 x.2.2.2.2.1 x.2.2.2.2.2.1 x.2.2.2.2.2.2 y.1 y.2.1 y.2.2.1 y.2.2.2.1 y.2.2.2.2.1 y.2.2.2.2.2.1 y.2.2.2.2.2.2 bo _ ?_
  have hp : (putRowK enc7 7 (Go.Sort.ahead w m) blk off dk).cell? ⟨bo, 0, none⟩ = some (.func (.func 68) #[] #[]) := (cell?_putRowK_other enc7 7 (Go.Sort.ahead w m) blk off dk ⟨bo, 0, none⟩ hb).trans ho
  have hl2 : bo < (putRowK enc7 7 (Go.Sort.ahead w m) blk off dk).heap.size := by have := block_lt_of_cell hp; exact this
  exact ((Grew.below ⟨0, os, rfl⟩ : Go.RowKit.Below _ (putRowK enc7 7 (Go.Sort.ahead w m) blk off dk) (sortWorldK enc7 7 w blk off m dk os)).cell (p := ⟨bo, 0, none⟩) hl2).trans hp
theorem sortW_below {B blk off n : Nat} {w : World} {d : Array K7} {os : Array Obj} (hB : B ≤ blk) (hw : B ≤ w.heap.size) : Go.RowKit.Below B w (sortWorldK enc7 7 w blk off n d os) := by
  have h1 : Go.RowKit.Below B w (putRowK enc7 7 (Go.Sort.ahead w n) blk off d) := by
    refine ⟨rfl, rfl, rfl, ?_, fun k hk => ?_⟩
    · show w.heap.size ≤ (w.heap.modify blk _).size
      simp
    · show (w.heap.modify blk _)[k]? = w.heap[k]?
      rw [Array.getElem?_modify, if_neg (by omega)]
  refine h1.trans ((Grew.below ⟨0, os, rfl⟩ : Go.RowKit.Below _ (putRowK enc7 7 (Go.Sort.ahead w n) blk off d) _).mono ?_)
  have := h1.size
  omega
/-- Records, one behind the other. -/
theorem flat_at : ∀ (l : List K7) (j : Nat), j < l.length * 7 → (l.flatMap enc7)[j]? = some ((enc7 l[j / 7]!)[j % 7]!)
  | [], j, h => by simp at h
  | k :: l, j, h => by
    rw [List.flatMap_cons]
    by_cases hj : j < 7
    · rw [List.getElem?_append_left (by simpa [enc7] using hj), Nat.div_eq_of_lt hj, Nat.mod_eq_of_lt hj]
      rw [List.getElem?_eq_getElem (by simpa [enc7] using hj)]
      simp [enc7, hj]
    · rw [List.getElem?_append_right (by simp [enc7]; omega)]
      have h7 : (enc7 k).length = 7 := rfl
      rw [h7, flat_at l (j - 7) (by simp only [List.length_cons] at h; omega)]
      have e1 : j / 7 = (j - 7) / 7 + 1 := by omega
      have e2 : j % 7 = (j - 7) % 7 := by omega
      rw [e1, e2]
      simp
/-- A row of records that a function has laid, behind block B. -/
structure OR (B : Nat) (W0 : World) (v : Value) (l : List K7) (W : World) : Prop where
  low : Go.RowKit.Below W0.heap.size W0 W
  b0 : W0.heap.size ≤ B
  b1 : B ≤ W.heap.size
  own : W.ownsRow B 83 7 v l.length (l.flatMap enc7)
theorem OR.nil {B : Nat} {W0 W : World} (low : Go.RowKit.Below W0.heap.size W0 W) (b0 : W0.heap.size ≤ B) (b1 : B ≤ W.heap.size) : OR B W0 (.slice none 0 0) [] W := ⟨low, b0, b1, World.ownsRow_nil _ _ _ _⟩
theorem OR.below {B : Nat} {W0 W W' : World} {v : Value} {xs : List K7} (b : OR B W0 v xs W) (hb : Go.RowKit.Below W.heap.size W W') : OR B W0 v xs W' :=
  ⟨b.low.trans (hb.mono b.low.size), b.b0, Nat.le_trans b.b1 hb.size, b.own.kept (grown_of_below hb) (by cases v.ownBlock <;> simp)⟩
theorem OR.else {B r : Nat} {W0 W W' : World} {v : Value} {xs : List K7} (b : OR B W0 v xs W) (he : Else (fun k => k = r) W W') (hr : r < B) (hr0 : W0.heap.size ≤ r) : OR B W0 v xs W' := by
  refine ⟨b.low.trans (he.below b.low.size (fun k hk => by omega)), b.b0, Nat.le_trans b.b1 he.size, b.own.1, ?_⟩
  rcases b.own.2 with h | ⟨g, cap, cur, h0, hge, hg, h1, h2, h3, h4⟩
  · exact .inl h
  · exact .inr ⟨g, cap, cur, h0, hge, (he.block g (Array.getElem?_eq_some_iff.1 hg).1 (fun e => by omega)).trans hg, h1, h2, h3, h4⟩
theorem info83 : (Try.prog.info? 83).map (fun i => (i.zero, i.size, i.bytes)) = some (some (.agg z7), 7, 7) := by kernel_rfl
theorem und108 : Try.prog.underlying 108 = some (.slice 83) := by kernel_rfl
theorem app108_run {B : Nat} {W0 W : World} {v : Value} {xs : List K7} {k : K7} {b c : Nat} {ty : TypeId} (h : OR B W0 v xs W) (hw : Whole W b 83 (enc7 k).toArray) (hx : xs.length ≤ 100000) :
    ∃ v' w', (Builtin.append_ #[108, 108] ty #[v, .slice (some ⟨b, 0, none⟩) 1 c]).run Try.prog W = .ok v' w' ∧ OR B W0 v' (xs ++ [k]) w' ∧ Go.RowKit.Below B W w' := by
  obtain ⟨i0, hi0, hi1, hi2, hi3⟩ := info_parts info83
  obtain ⟨g, cap, w', hr, h2, h3, h4, _⟩ := run_append_lies (P := Try.prog) W 108 ty B 83 i0 (.agg z7) 7 7 und108 hi0 hi1 hi2 hi3 rfl (by omega) v xs.length (xs.flatMap enc7) h.own ⟨b, 0, none⟩ 1 c (enc7 k) rfl
    (fun j u hu => by
      have hc := (hw.cell j).trans (show (enc7 k).toArray[j]? = some u by simpa using hu)
      simp only [Addr.add]
      split
      · rename_i h0
        subst h0
        exact hc
      · simpa using hc) (fun u hu => by
        simp only [enc7, List.mem_cons, List.not_mem_nil, or_false] at hu
        rcases hu with rfl | rfl | rfl | rfl | rfl | rfl | rfl <;> rfl) (by omega) (by unfold maxLen; omega) (by omega) h.b1 W.heap.size rfl
  have hbl : Go.RowKit.Below B W w' := (Below.refl B W).grown h3 h.b1 (fun k e => (h.own.lt k e).1)
  refine ⟨_, w', hr, ⟨h.low.grown h3 h.low.size (fun k e => Nat.le_trans h.b0 (h.own.lt k e).1), h.b0, Nat.le_trans h.b1 hbl.size, ?_⟩, hbl⟩
  rw [List.length_append, List.flatMap_append]
  simpa using h2
theorem ListK.app108 {ops : Array Oper} {K : Act → World → Prop} {k i d : Nat} {a : Act} {w w' : World} {ty : TypeId} {pos : String} {aft : Array Edge} {s x : Operand} {v v2 v' : Value} (hi : ops[i]? = some ⟨some d, .call { callee := .builtin .append, args := #[s, x], argTypes := #[108, 108] }, ty, pos, aft, none⟩) (hs : a.eval s = v) (hx : a.eval x = v2)
    (hr : (Builtin.append_ #[108, 108] ty #[v, v2]).run Try.prog w = .ok v' w') (h : ListK Try.prog ops K k (i + 1) (a.put (some d) v') w') : ListK Try.prog ops K (k + 1) i a w := by
  refine ListK.val hi rfl ?_ h
  simp [execOp, resolve, invoke, builtin, hs, hx, hr]
/-- What a row that is not empty looks like: the sort may have it. -/
theorem OR.row {B : Nat} {W0 W : World} {v : Value} {l : List K7} (h : OR B W0 v l W) (hne : 0 < l.length) : ∃ g c, v = .slice (some ⟨g, 0, none⟩) l.length c ∧ B ≤ g ∧ g < W.heap.size ∧ HoldsK enc7 7 W g 0 l.toArray := by
  rcases h.own.2 with ⟨h0, h1⟩ | ⟨g, cap, cur, h0, hge, hg, h1, h2, h3, h4⟩
  · omega
  · have hw : Whole W g 83 cur := hg
    refine ⟨g, cap, h0, hge, hw.lt, fun j hj => ?_⟩
    simp only [size_flatK, List.size_toArray] at hj
    have hf := flat_at l j hj
    rw [get_flatK _ _ _ _ (by simpa using hj)]
    refine ⟨?_, by rw [Nat.zero_add]; exact hw.frozen j⟩
    rw [Nat.zero_add, hw.cell j]
    have : (cur.toList.take (l.length * 7))[j]? = some ((enc7 l[j / 7]!)[j % 7]!) := by rw [h4]; exact hf
    rw [List.getElem?_take, if_pos hj] at this
    simpa using this
theorem holds_below {W W' : World} {g B : Nat} {d : Array K7} (h : HoldsK enc7 7 W g 0 d) (hb : Go.RowKit.Below B W W') (hg : g < B) : HoldsK enc7 7 W' g 0 d := by
  intro j hj
  obtain ⟨h1, h2⟩ := h j hj
  refine ⟨(hb.cell (p := ⟨g, 0 + j, none⟩) hg).trans h1, ?_⟩
  rw [← h2]
  unfold World.frozen?
  rw [hb.block g hg]
/-- slices.SortFunc at records. -/
theorem sort_any {l : List K7} {g c bo : Nat} {W : World} (hH : HoldsK enc7 7 W g 0 l.toArray) (hg : g < W.heap.size) (hb : bo ≠ g) (ho : W.cell? ⟨bo, 0, none⟩ = some (.func (.func 68) #[] #[])) (hl : l.length ≤ 100000) :
    Calls Try.prog 72 #[.slice (some ⟨g, 0, none⟩) l.length c, .func (.func 73) #[] #[ptr bo]] W fun e w' => e = .returned (.tuple #[]) ∧ ∃ l' : List K7, l'.Perm l ∧ l'.Pairwise (fun x y => rankL (un7 x) ≤ rankL (un7 y)) ∧ RecsAt w' w'.heap.size (some ⟨g, 0, none⟩) (l'.map un7) ∧ Go.RowKit.Below g W w' := by
  have eg : ∀ args w, (callFunc 73 args).run Try.prog w = .ok (.enter 73 args) w := enters_of Try.func73 (by kernel_rfl) rfl
  have hcon := AnyQ.slices_SortFunc srt 7 agg83 siz83 enc7 (fun _ => rfl) (fun x v hv => by
    simp only [enc7, List.mem_cons, List.not_mem_nil, or_false] at hv
    rcases hv with rfl | rfl | rfl | rfl | rfl | rfl | rfl <;> rfl) cf7 swo7 73 #[ptr bo] g 0 c l.toArray W eg (cmpLays7 hb ho) hH hg (by simp; omega)
  refine Calls.mono (show Calls Try.prog 72 _ _ _ from hcon) ?_
  rintro e w' ⟨rfl, d', n, os, hp, hs, rfl⟩
  obtain ⟨p1, _, p3⟩ := hp
  have hsz : d'.size = l.length := by simpa using p1
  have p4 : d'.toList.Perm l := by
    have e1 : (d'.extract 0 l.toArray.size).toList = d'.toList := by
      rw [← p1]
      simp
    have e2 : (l.toArray.extract 0 l.toArray.size).toList = l := by simp
    rw [e1, e2] at p3
    exact p3
  have hH2 : HoldsK enc7 7 (sortWorldK enc7 7 W g 0 n d' os) g 0 d' := by
    refine holdsK_grow enc7 7 _ os g 0 d' ?_ (holdsK_putRowK enc7 7 (Go.Sort.ahead W n) g 0 l.toArray d' (holdsK_ahead enc7 7 W n g 0 l.toArray hH) p1)
    show g < (W.heap.modify g _).size
    simpa using hg
  have hbl : Go.RowKit.Below g W (sortWorldK enc7 7 W g 0 n d' os) := sortW_below (Nat.le_refl _) (by omega)
  have hlt : g < (sortWorldK enc7 7 W g 0 n d' os).heap.size := Nat.lt_of_lt_of_le hg hbl.size
  refine ⟨rfl, d'.toList, p4, ?_, ?_, hbl⟩
  · rw [List.pairwise_iff_getElem]
    intro i j hi hj hij
    have hj2 : j < d'.size := by simpa using hj
    have h := hs i j (Nat.zero_le _) hij (by rw [← p1]; exact hj2)
    rw [lt7] at h
    have h := of_decide_eq_false h
    rw [getElem!_pos d' i (by omega), getElem!_pos d' j hj2] at h
    simp only [Array.getElem_toList]
    omega
  · intro k r hr
    rw [List.getElem?_map] at hr
    obtain ⟨x, hx, rfl⟩ := Option.map_eq_some_iff.1 hr
    have hk : k < d'.size := by
      have := (List.getElem?_eq_some_iff.1 hx).1
      simpa using this
    refine ⟨rfl, g, 0, rfl, hlt, fun i y hy => ?_⟩
    have hi : i < 7 := (List.getElem?_eq_some_iff.1 hy).1
    have hc := (hH2.cell hk hi).1
    rw [hc]
    have hxe : d'[k]! = x := by
      rw [getElem!_pos d' k hk]
      have := (List.getElem?_eq_some_iff.1 hx).2
      simpa using this
    rw [hxe, enc7_un]
    rw [getElem!_pos _ i (show i < ((un7 x).map u8V).length from hi)]
    have := (List.getElem?_eq_some_iff.1 hy).2
    simp [this]
end Go.Proofs.YtmdlmmfbcnkanaaR
namespace Go.Proofs.YtmdlmmfbcnkanaaR
open Go.RowKit Go.Shelf
theorem app36n_run {W0 W : World} {v : Value} {L ys : List (List UInt8)} {A : Option Addr} {c : Nat} {ty : TypeId} (h : OS W0 v L W) (hs : StrsAt W W.heap.size A ys) (hL : L.length ≤ 100000) (hy : ys.length ≤ 100000) :
    ∃ v' w', (Builtin.append_ #[36, 36] ty #[v, .slice A ys.length c]).run Try.prog W = .ok v' w' ∧ OS W0 v' (L ++ ys) w' := by
  obtain ⟨i0, hi0, hi1, hi2, hi3⟩ := info_parts Try.info9
  by_cases hm : ys = []
  · subst hm
    refine ⟨v, W, ?_, by simpa using h⟩
    rcases h.own.2 with ⟨rfl, h0⟩ | ⟨g, cap, cur, rfl, hb, hg, hc, _⟩
    · cases A <;> simp [Builtin.append_, run_underlying Try.und36, sizeOf, typeInfo, hi0, Builtin.lenOf, Builtin.firstCells, loadCells, loadCellsFrom]
    · cases A <;> simp [Builtin.append_, run_underlying Try.und36, sizeOf, typeInfo, hi0, Builtin.lenOf, Builtin.firstCells, hc, storeCells, loadCells, loadCellsFrom]
  · have hpos : 0 < ys.length := List.length_pos_iff.2 hm
    obtain ⟨b, off, rfl, _, _⟩ := hs 0 ys[0] (List.getElem?_eq_getElem hpos)
    obtain ⟨g, cap, w', hr, h2, h3, h4, _⟩ := run_append_lies (P := Try.prog) W 36 ty W0.heap.size 9 i0 (strV []) 1 16 Try.und36 hi0 hi1 hi2 hi3 rfl (by omega) v L.length (L.map strV) h.own ⟨b, off, none⟩ ys.length c (ys.map strV) (by simp)
      (fun j u hu => by
        simp only [List.getElem?_map, Option.map_eq_some_iff] at hu
        obtain ⟨x, hx, rfl⟩ := hu
        obtain ⟨b', o', e, _, hc⟩ := hs j x hx
        cases e
        rw [addr_add]
        exact hc) (fun u hu => by
          obtain ⟨x, _, rfl⟩ := List.mem_map.1 hu
          rfl) hpos (by unfold maxLen; omega) (by omega) h.low.size W.heap.size rfl
    refine ⟨_, w', hr, h.low.grown h3 h.low.size (fun k e => (h.own.lt k e).1), ?_⟩
    rw [List.length_append, List.map_append]
    exact h2
theorem StrsAt.drop {w : World} {B b off : Nat} {L : List (List UInt8)} (k : Nat) (h : StrsAt w B (some ⟨b, off, none⟩) L) : StrsAt w B (some ⟨b, off + k, none⟩) (L.drop k) := by
  intro i l hl
  rw [List.getElem?_drop] at hl
  obtain ⟨b', o', e, h1, h2⟩ := h (k + i) l hl
  cases e
  exact ⟨b, off + k, rfl, h1, by rw [Nat.add_assoc]; exact h2⟩
theorem StrsAt.take {w : World} {B : Nat} {A : Option Addr} {L : List (List UInt8)} (k : Nat) (h : StrsAt w B A L) : StrsAt w B A (L.take k) := by
  intro i l hl
  rw [List.getElem?_take] at hl
  split at hl
  · exact h i l hl
  · cases hl
end Go.Proofs.YtmdlmmfbcnkanaaR
namespace Go.Proofs.YtmdlmmfbcnkanaaR
open Go.RowKit Go.Shelf
section
variable {ops : Array Oper} {K : Act → World → Prop} {Kp : Nat → World → World → Prop} {fuel d i : Nat} {listed : Array Bool} {a : Act} {w w' : World} {ty : TypeId} {pos : String} {aft : Array Edge} {v v2 v' : Value}
theorem StepK.app36 {s z : Operand} (hi : ops[i]? = some ⟨some d, .call { callee := .builtin .append, args := #[s, z], argTypes := #[36, 36] }, ty, pos, aft, none⟩) (hs : a.eval s = v) (hx : a.eval z = v2)
    (hr : (Builtin.append_ #[36, 36] ty #[v, v2]).run Try.prog w = .ok v' w') (hk : Kp i w w') (h : AnyK Try.prog ops K Kp fuel (listed.setIfInBounds i true) (a.put (some d) v') w') : StepK Try.prog ops K Kp fuel listed a w i := by
  unfold StepK opG
  simp only [hi]
  rw [if_pos (show Region.wanted _ _ = true from rfl)]
  simp [Oper.wp, execOp, resolve, invoke, builtin, hs, hx, hr, Oper.upon]
  exact ⟨hk, h⟩
end
/-- What is left of some records. -/
structure Tn (L : List (List UInt8)) (i : Nat) (T : List (List UInt8)) : Prop where
  sub : ∀ r, r ∈ T → r ∈ L
  hd : 0 < i → ∀ h, L[0]? = some h → h ∈ T
  len : T.length ≤ 2 * i
theorem Tn.skip {L : List (List UInt8)} {i : Nat} {T : List (List UInt8)} (t : Tn L i T) (hi : 0 < i) : Tn L (i + 1) T := ⟨t.sub, fun _ => t.hd hi, by have := t.len; omega⟩
theorem Tn.one {L : List (List UInt8)} {i : Nat} {T : List (List UInt8)} {l : List UInt8} (t : Tn L i T) (hl : L[i]? = some l) : Tn L (i + 1) (T ++ [l]) := by
  refine ⟨fun r hr => ?_, fun _ h hh => ?_, by have := t.len; simp; omega⟩
  · rcases List.mem_append.1 hr with hr | hr
    · exact t.sub r hr
    · simp at hr
      rw [hr]
      exact List.mem_of_getElem? hl
  · by_cases h0 : i = 0
    · subst h0
      rw [hl] at hh
      cases hh
      simp
    · exact List.mem_append_left _ (t.hd (by omega) h hh)
theorem Tn.two {L : List (List UInt8)} {i : Nat} {T : List (List UInt8)} {l : List UInt8} (t : Tn L i T) (hl : L[i]? = some l) : Tn L (i + 1) (T ++ [l, l]) := by
  have h1 := t.one hl
  refine ⟨fun r hr => h1.sub r (by simpa using hr), fun h0 h hh => by simpa using h1.hd h0 h hh, by have := t.len; simp; omega⟩
theorem WordsAt.below {w w' : World} {B : Nat} {A : Option Addr} {l : List Nat} (h : WordsAt w B A l) (hb : Below B w w') : WordsAt w' B A l := by
  intro k x hx
  obtain ⟨h1, b, off, e, h2, h3⟩ := h k x hx
  exact ⟨h1, b, off, e, h2, by rw [hb.cell (show Addr.block ⟨b, off + k, none⟩ < B from h2)]; exact h3⟩
theorem WordsAt.more {w : World} {B B' : Nat} {A : Option Addr} {l : List Nat} (h : WordsAt w B A l) (hb : B ≤ B') : WordsAt w B' A l := by
  intro k x hx
  obtain ⟨h1, b, off, e, h2, h3⟩ := h k x hx
  exact ⟨h1, b, off, e, Nat.lt_of_lt_of_le h2 hb, h3⟩
theorem os_none (W : World) : OS W (.slice none 0 0) [] W := ⟨Below.refl _ _, rfl, .inl ⟨rfl, rfl⟩⟩
theorem StrsAt.wide {w : World} {B B' : Nat} {A : Option Addr} {L : List (List UInt8)} (h : StrsAt w B A L) (hb : B ≤ B') : StrsAt w B' A L := by
  intro i l hl
  obtain ⟨b, o, e1, e2, e3⟩ := h i l hl
  exact ⟨b, o, e1, Nat.lt_of_lt_of_le e2 hb, e3⟩
section
attribute [local irreducible] AnyK StepK
variable {L : List (List UInt8)} {A Aw : Option Addr} {c cw by_ : Nat} {lw : List Nat} {W : World}
end
end Go.Proofs.YtmdlmmfbcnkanaaR
namespace Go.Proofs.YtmdlmmfbcnkanaaR

theorem isDig_hi {n : Nat} (h : n ≤ 99) : isDig (hi2 n) = true ∧ dig (hi2 n) = n / 10 := by
  have h1 : isDig (hi2 n) = true := by
    simp only [isDig, decide_eq_true_eq, hi2_nat h]
    omega
  have h2 := (dig_nat h1).1
  rw [hi2_nat h] at h2
  exact ⟨h1, by omega⟩
theorem isDig_lo {n : Nat} (h : n ≤ 99) : isDig (lo2 n) = true ∧ dig (lo2 n) = n % 10 := by
  have h1 : isDig (lo2 n) = true := by
    simp only [isDig, decide_eq_true_eq, lo2_nat h]
    omega
  have h2 := (dig_nat h1).1
  rw [lo2_nat h] at h2
  exact ⟨h1, by omega⟩
theorem num2_two {n : Nat} (h : n ≤ 99) : num2 (hi2 n) (lo2 n) = n := by
  rw [num2, (isDig_hi h).2, (isDig_lo h).2]
  omega
theorem not10 {b : UInt8} (h : isDig b = true) : b ≠ 10 := by
  rintro rfl
  simp [isDig] at h
theorem made_no10 {k : UInt8} {a b : Nat} (hk : k ≠ 10) (ha : a ≤ 99) (hb : b ≤ 99) : (10 : UInt8) ∉ made k a b := by
  have hc : chk5 k (hi2 a) (lo2 a) (hi2 b) (lo2 b) ≤ 99 := by have := chk5_lt k (hi2 a) (lo2 a) (hi2 b) (lo2 b); omega
  have h1 := not10 (isDig_hi ha).1
  have h2 := not10 (isDig_lo ha).1
  have h3 := not10 (isDig_hi hb).1
  have h4 := not10 (isDig_lo hb).1
  have h5 := not10 (isDig_hi hc).1
  have h6 := not10 (isDig_lo hc).1
  simp only [made, List.mem_cons, List.not_mem_nil, or_false, not_or]
  exact ⟨hk.symm, h1.symm, h2.symm, h3.symm, h4.symm, h5.symm, h6.symm⟩
theorem made_good {k : UInt8} {a b : Nat} (hk : k = 72 ∨ k = 82 ∨ k = 80) (ha : a ≤ 99) (hb : b ≤ 99) (hh : k = 72 → headOk (a : Int) ((b / 10 : Nat) : Int) ((b % 10 : Nat) : Int) = true) : isGood (made k a b) = true := by
  have hc : chk5 k (hi2 a) (lo2 a) (hi2 b) (lo2 b) ≤ 99 := by have := chk5_lt k (hi2 a) (lo2 a) (hi2 b) (lo2 b); omega
  have e1 : (k == 72 || k == 82 || k == 80) = true := by rcases hk with rfl | rfl | rfl <;> rfl
  simp only [made, isGood, good7, e1, (isDig_hi ha).1, (isDig_lo ha).1, (isDig_hi hb).1, (isDig_lo hb).1, (isDig_hi hc).1, (isDig_lo hc).1, num2_two hc, num2_two ha, (isDig_hi hb).2, (isDig_lo hb).2, Bool.and_self, BEq.rfl, Bool.true_and]
  by_cases h72 : k = 72
  · rw [hh h72]
    simp
  · simp [h72]
theorem made_name {k : UInt8} {a b : Nat} (ha : a ≤ 99) : nameOf (made k a b) = if k = 72 then (72, 0) else (k, a) := by
  simp only [made, nameOf, num2_two ha]
theorem made_val {k : UInt8} {a b : Nat} (hb : b ≤ 99) : valOf (made k a b) = b := by
  simp only [made, valOf, num2_two hb]
theorem made_head {m w st : Nat} (hm : m ≤ 99) (hw : w ≤ 9) (hs : st ≤ 9) : headOf (made 72 m (10 * w + st)) = ⟨m, w, st⟩ := by
  have hb : 10 * w + st ≤ 99 := by omega
  simp only [made, headOf, num2_two hm, (isDig_hi hb).2, (isDig_lo hb).2, Head.mk.injEq, true_and]
  omega
/-- Records of which no two of one name differ. -/
def Func (L : List (List UInt8)) : Prop := ∀ a b, a ∈ L → b ∈ L → nameOf a = nameOf b → a = b
theorem find_iff {m : List (List UInt8)} (hf : Func m) {nm : UInt8 × Nat} {r : List UInt8} : find m nm = some r ↔ r ∈ m ∧ nameOf r = nm := by
  constructor
  · exact find_mem
  · rintro ⟨h1, h2⟩
    cases h : find m nm with
    | none =>
      unfold find at h
      rw [List.find?_eq_none] at h
      have := h r h1
      simp [h2] at this
    | some r' =>
      obtain ⟨h3, h4⟩ := find_mem h
      rw [hf r' r h3 h1 (h4.trans h2.symm)]
theorem takeUp_ok : ∀ (T m : List (List UInt8)), Func (m ++ T) → ∃ m', takeUp m T = some m' ∧ ∀ r, r ∈ m' ↔ r ∈ m ++ T
  | [], m, _ => ⟨m, rfl, fun r => by simp⟩
  | g :: T, m, hf => by
    simp only [takeUp]
    cases h : find m (nameOf g) with
    | none =>
      obtain ⟨m', h1, h2⟩ := takeUp_ok T (m ++ [g]) (by simpa using hf)
      exact ⟨m', h1, fun r => by rw [h2]; simp⟩
    | some old =>
      obtain ⟨h3, h4⟩ := find_mem h
      have ho : old = g := hf old g (by simp [h3]) (by simp) h4
      subst ho
      obtain ⟨m', h1, h2⟩ := takeUp_ok T m (fun a b ha hb => hf a b (by
        rcases List.mem_append.1 ha with h | h
        · simp [h]
        · simp [h]) (by
        rcases List.mem_append.1 hb with h | h
        · simp [h]
        · simp [h]))
      refine ⟨m', by simpa using h1, fun r => ?_⟩
      rw [h2]
      simp only [List.mem_append, List.mem_cons]
      constructor
      · rintro (h | h)
        · exact .inl h
        · exact .inr (.inr h)
      · rintro (h | rfl | h)
        · exact .inl h
        · exact .inl h3
        · exact .inr h
theorem Func.of_sub {L L' : List (List UInt8)} (h : Func L) (hs : ∀ r, r ∈ L' → r ∈ L) : Func L' := fun a b ha hb => h a b (hs a ha) (hs b hb)
end Go.Proofs.YtmdlmmfbcnkanaaR
namespace Go.Proofs.YtmdlmmfbcnkanaaR

/-- A reading as a number. -/
def rdN (s : Ser) (i : Nat) : Nat := (s.rd.getD i 0).toNat
def smN (s : Ser) (b : Nat) : Nat := (sumB s b).toNat
def hdR (s : Ser) : List UInt8 := made 72 s.rd.length (10 * s.width.toNat + s.step.toNat)
def hdH (s : Ser) : Head := ⟨s.rd.length, s.width.toNat, s.step.toNat⟩
theorem mem_recsTo {s : Ser} : ∀ {k : Nat} {r : List UInt8}, r ∈ recsTo s k ↔ r = hdR s ∨ (∃ i, i < k ∧ r = made 82 i (rdN s i)) ∨ (∃ i, i < k ∧ closesB s.rd.length s.width i = true ∧ r = made 80 (i / s.width.toNat) (smN s (i / s.width.toNat)))
  | 0, r => by simp [recsTo, hdR]
  | k + 1, r => by
    unfold recsTo
    rw [List.mem_append, List.mem_append, mem_recsTo (k := k)]
    constructor
    · rintro (((h | ⟨i, h1, h2⟩ | ⟨i, h1, h2, h3⟩) | h) | h)
      · exact .inl h
      · exact .inr (.inl ⟨i, by omega, h2⟩)
      · exact .inr (.inr ⟨i, by omega, h2, h3⟩)
      · simp at h
        exact .inr (.inl ⟨k, by omega, h⟩)
      · split at h
        · rename_i hc
          simp at h
          exact .inr (.inr ⟨k, by omega, hc, h⟩)
        · simp at h
    · rintro (h | ⟨i, h1, h2⟩ | ⟨i, h1, h2, h3⟩)
      · exact .inl (.inl (.inl h))
      · by_cases e : i = k
        · subst e
          exact .inl (.inr (List.mem_singleton.2 h2))
        · exact .inl (.inl (.inr (.inl ⟨i, by omega, h2⟩)))
      · by_cases e : i = k
        · subst e
          refine .inr ?_
          rw [if_pos h2]
          exact List.mem_singleton.2 h3
        · exact .inl (.inl (.inr (.inr ⟨i, by omega, h2, h3⟩)))
/-- What a valid series is like, in numbers. -/
structure SerN (s : Ser) : Prop where
  len : 1 ≤ s.rd.length ∧ s.rd.length ≤ 40
  wd : 2 ≤ s.width.toNat ∧ s.width.toNat ≤ 8 ∧ s.width = (s.width.toNat : Int)
  st : 1 ≤ s.step.toNat ∧ s.step.toNat ≤ 9 ∧ s.step = (s.step.toNat : Int)
  rd : ∀ i, i < s.rd.length → rdN s i ≤ 99 ∧ s.rd[i]? = some (rdN s i : Int)
  sm : ∀ b, smN s b ≤ 99 ∧ sumB s b = (smN s b : Int)
  near : ∀ i, i + 1 < s.rd.length → rdN s (i + 1) ≤ rdN s i + s.step.toNat ∧ rdN s i ≤ rdN s (i + 1) + s.step.toNat
theorem div_le40 {s : Ser} (n : SerN s) {i : Nat} (hi : i < s.rd.length) : i / s.width.toNat ≤ 40 := by
  have := Nat.div_le_self i s.width.toNat
  have := n.len
  omega
theorem hdR_ok {s : Ser} (n : SerN s) : isGood (hdR s) = true ∧ nameOf (hdR s) = (72, 0) ∧ headOf (hdR s) = hdH s ∧ (10 : UInt8) ∉ hdR s := by
  have h1 := n.len
  have h2 := n.wd
  have h3 := n.st
  have hb : 10 * s.width.toNat + s.step.toNat ≤ 99 := by omega
  refine ⟨made_good (.inl rfl) (by omega) hb (fun _ => headOk_iff.2 ⟨by omega, by omega, by omega⟩), ?_, made_head (by omega) (by omega) (by omega), made_no10 (by decide) (by omega) hb⟩
  unfold hdR
  rw [made_name (by omega), if_pos rfl]
theorem recR_ok {s : Ser} (n : SerN s) {i : Nat} (hi : i < s.rd.length) : isGood (made 82 i (rdN s i)) = true ∧ nameOf (made 82 i (rdN s i)) = (82, i) ∧ valOf (made 82 i (rdN s i)) = rdN s i ∧ (10 : UInt8) ∉ made 82 i (rdN s i) := by
  have h1 := n.len
  have h2 := (n.rd i hi).1
  refine ⟨made_good (.inr (.inl rfl)) (by omega) h2 (fun h => by cases h), ?_, made_val h2, made_no10 (by decide) (by omega) h2⟩
  rw [made_name (by omega), if_neg (by decide)]
theorem recP_ok {s : Ser} (n : SerN s) {b : Nat} (hb : b ≤ 40) : isGood (made 80 b (smN s b)) = true ∧ nameOf (made 80 b (smN s b)) = (80, b) ∧ valOf (made 80 b (smN s b)) = smN s b ∧ (10 : UInt8) ∉ made 80 b (smN s b) := by
  have h2 := (n.sm b).1
  refine ⟨made_good (.inr (.inr rfl)) (by omega) h2 (fun h => by cases h), ?_, made_val h2, made_no10 (by decide) (by omega) h2⟩
  rw [made_name (by omega), if_neg (by decide)]
theorem file_func {s : Ser} (n : SerN s) : Func (fileL s) := by
  intro a b ha hb he
  rcases mem_recsTo.1 ha with rfl | ⟨i, h1, rfl⟩ | ⟨i, h1, _, rfl⟩ <;> rcases mem_recsTo.1 hb with rfl | ⟨j, h2, rfl⟩ | ⟨j, h2, _, rfl⟩
  · rfl
  · rw [(hdR_ok n).2.1, (recR_ok n h2).2.1] at he
    cases he
  · rw [(hdR_ok n).2.1, (recP_ok n (div_le40 n h2)).2.1] at he
    cases he
  · rw [(hdR_ok n).2.1, (recR_ok n h1).2.1] at he
    cases he
  · rw [(recR_ok n h1).2.1, (recR_ok n h2).2.1] at he
    simp at he
    rw [he]
  · rw [(recR_ok n h1).2.1, (recP_ok n (div_le40 n h2)).2.1] at he
    cases he
  · rw [(hdR_ok n).2.1, (recP_ok n (div_le40 n h1)).2.1] at he
    cases he
  · rw [(recP_ok n (div_le40 n h1)).2.1, (recR_ok n h2).2.1] at he
    cases he
  · rw [(recP_ok n (div_le40 n h1)).2.1, (recP_ok n (div_le40 n h2)).2.1] at he
    simp at he
    rw [he]
/-- What is read of some records of a file. -/
structure RdM (s : Ser) (m : List (List UInt8)) : Prop where
  sub : ∀ r, r ∈ m → r ∈ fileL s
  hd : hdR s ∈ m
theorem RdM.func {s : Ser} {m : List (List UInt8)} (h : RdM s m) (n : SerN s) : Func m := (file_func n).of_sub h.sub
theorem RdM.find {s : Ser} {m : List (List UInt8)} (h : RdM s m) (n : SerN s) : find m (72, 0) = some (hdR s) := (find_iff (h.func n)).2 ⟨h.hd, (hdR_ok n).2.1⟩
theorem RdM.out {s : Ser} {m : List (List UInt8)} (h : RdM s m) (n : SerN s) : m.any (outOf (hdH s)) = false := by
  rw [List.any_eq_false]
  intro r hr
  have hw := n.wd
  rcases mem_recsTo.1 (h.sub r hr) with rfl | ⟨i, h1, rfl⟩ | ⟨i, h1, _, rfl⟩
  · simp [outOf, (hdR_ok n).2.1]
  · simp [outOf, (recR_ok n h1).2.1, hdH, h1]
  · have hd : i / s.width.toNat < (s.rd.length + s.width.toNat - 1) / s.width.toNat := by
      have h2 : i / s.width.toNat + 1 ≤ (s.rd.length + s.width.toNat - 1) / s.width.toNat := by
        rw [Nat.le_div_iff_mul_le (by omega), Nat.add_mul, Nat.one_mul]
        have := Nat.div_mul_le_self i s.width.toNat
        omega
      omega
    simp [outOf, (recP_ok n (div_le40 n h1)).2.1, hdH, Head.blocks, hd]
end Go.Proofs.YtmdlmmfbcnkanaaR
namespace Go.Proofs.YtmdlmmfbcnkanaaR

end Go.Proofs.YtmdlmmfbcnkanaaR
namespace Go.Proofs.YtmdlmmfbcnkanaaR

theorem recsTo_zero (s : Ser) : ∀ k, (recsTo s k)[0]? = some (hdR s)
  | 0 => rfl
  | k + 1 => by
    have h := recsTo_zero s k
    have hp : 0 < (recsTo s k).length := by
      rcases Nat.eq_zero_or_pos (recsTo s k).length with h0 | h0
      · rw [List.eq_nil_of_length_eq_zero h0] at h
        cases h
      · exact h0
    unfold recsTo
    rw [List.getElem?_append_left (by simp), List.getElem?_append_left hp]
    exact h
/-- What is left of a file. -/
structure TornF (s : Ser) (T : List (List UInt8)) : Prop where
  sub : ∀ r, r ∈ T → r ∈ fileL s
  hd : hdR s ∈ T
  len : T.length ≤ 162
  bytes : (linesL T).length = 8 * T.length
end Go.Proofs.YtmdlmmfbcnkanaaR
namespace Go.Proofs.YtmdlmmfbcnkanaaR

/-- Two lots of records that say the same but for a reading. -/
structure SameBut (h : Head) (m m' : List (List UInt8)) (k n : Nat) : Prop where
  other : ∀ j s x, j ≠ k → after h m' j s x = after h m j s x
  at_ : ∀ s, after h m' k s n = after h m k s n
end Go.Proofs.YtmdlmmfbcnkanaaR
namespace Go.Proofs.YtmdlmmfbcnkanaaR

section
variable {s : Ser} (n : SerN s)
def nbS (s : Ser) (b : Nat) : Nat := min s.width.toNat (s.rd.length - b * s.width.toNat)
def recB (s : Ser) (b j : Nat) : List UInt8 := if j < nbS s b then made 82 (b * s.width.toNat + j) (rdN s (b * s.width.toNat + j)) else made 80 b (smN s b)
def blS (s : Ser) : Nat := (s.rd.length + s.width.toNat - 1) / s.width.toNat
def iB (s : Ser) (b : Nat) : Nat := if b * s.width.toNat < s.rd.length then 1 + b * (s.width.toNat + 1) else 1 + s.rd.length + blS s
include n
theorem bl_iff (b : Nat) : b < blS s ↔ b * s.width.toNat < s.rd.length := by
  have hw := n.wd
  unfold blS
  have h := Nat.le_div_iff_mul_le (x := b + 1) (y := s.rd.length + s.width.toNat - 1) (show 0 < s.width.toNat by omega)
  rw [Nat.add_mul] at h
  omega
theorem iB_next {b : Nat} (hb : b * s.width.toNat < s.rd.length) : iB s b + (nbS s b + 1) = iB s (b + 1) := by
  have hw := n.wd
  have e1 : b * (s.width.toNat + 1) = b * s.width.toNat + b := by rw [Nat.mul_add, Nat.mul_one]
  have e2 : (b + 1) * (s.width.toNat + 1) = b * s.width.toNat + b + s.width.toNat + 1 := by rw [Nat.add_mul, e1]; omega
  have e3 : (b + 1) * s.width.toNat = b * s.width.toNat + s.width.toNat := by rw [Nat.add_mul, Nat.one_mul]
  have hnb : nbS s b = min s.width.toNat (s.rd.length - b * s.width.toNat) := rfl
  unfold iB
  rw [if_pos hb, e1, e2, e3]
  split
  · omega
  · have h1 := bl_iff n b
    have h2 := bl_iff n (b + 1)
    rw [e3] at h2
    omega
end
/-- Some blocks of a file, of each of which one record at most is lost. -/
structure OneO (s : Ser) (b : Nat) (O : List (List UInt8)) : Prop where
  sub : ∀ r, r ∈ O → r ∈ fileL s
  hd : hdR s ∈ O
  len : O.length ≤ iB s b
  one : ∀ b', b' < b → ∃ k, ∀ j, j ≤ nbS s b' → j ≠ k → recB s b' j ∈ O
theorem OneO.start {s : Ser} (n : SerN s) : OneO s 0 [hdR s] :=
  ⟨fun r hr => by
    simp at hr
    rw [hr]
    exact List.mem_of_getElem? (recsTo_zero s s.rd.length), by simp, by have := n.len; unfold iB; rw [if_pos (by omega)]; simp, fun b' h => absurd h (by omega)⟩
theorem OneO.torn {s : Ser} (n : SerN s) {b : Nat} {O : List (List UInt8)} (o : OneO s b O) (hb : iB s b ≤ 162) : TornF s O :=
  ⟨o.sub, o.hd, by have := o.len; omega, linesL_len (fun r hr => recsTo_seven s _ r (o.sub r hr))⟩
/-- Part of a block besides. -/
structure OneJ (s : Ser) (b k j : Nat) (O O' : List (List UInt8)) : Prop where
  sub : ∀ r, r ∈ O' → r ∈ fileL s
  old : ∀ r, r ∈ O → r ∈ O'
  len : O'.length ≤ O.length + j
  got : ∀ i, i < j → i ≠ k → recB s b i ∈ O'
theorem OneJ.done {s : Ser} {b k : Nat} {O O' : List (List UInt8)} (n : SerN s) (hb : b * s.width.toNat < s.rd.length) (o : OneO s b O) (h : OneJ s b k (nbS s b + 1) O O') : OneO s (b + 1) O' :=
  ⟨h.sub, h.old _ o.hd, by have := o.len; have := h.len; have := iB_next n hb; omega, fun b' hb' => by
    by_cases e : b' = b
    · subst e
      exact ⟨k, fun j hj hne => h.got j (by omega) hne⟩
    · obtain ⟨k', hk'⟩ := o.one b' (by omega)
      exact ⟨k', fun j hj hne => h.old _ (hk' j hj hne)⟩⟩
theorem OneJ.skip {s : Ser} {b k j : Nat} {O O' : List (List UInt8)} (h : OneJ s b k j O O') (hj : j = k) : OneJ s b k (j + 1) O O' :=
  ⟨h.sub, h.old, by have := h.len; omega, fun i hi hne => h.got i (by omega) hne⟩
theorem OneJ.add {s : Ser} {b k j : Nat} {O O' : List (List UInt8)} (h : OneJ s b k j O O') (hm : recB s b j ∈ fileL s) : OneJ s b k (j + 1) O (O' ++ [recB s b j]) :=
  ⟨fun r hr => by
    rcases List.mem_append.1 hr with hr | hr
    · exact h.sub r hr
    · simp at hr
      rw [hr]
      exact hm, fun r hr => List.mem_append_left _ (h.old r hr), by have := h.len; simp; omega, fun i hi hne => by
    by_cases e : i = j
    · rw [e]
      simp
    · exact List.mem_append_left _ (h.got i (by omega) hne)⟩
end Go.Proofs.YtmdlmmfbcnkanaaR
namespace Go.Proofs.YtmdlmmfbcnkanaaR
open Go.RowKit Go.Shelf
theorem pieces_len : ∀ (l acc : List UInt8), (pieces acc l).length ≤ l.length
  | [], acc => by simp [pieces]
  | b :: l, acc => by
    unfold pieces
    split
    · have := pieces_len l []
      simp only [List.length_cons]
      omega
    · have := pieces_len l (acc ++ [b])
      simp only [List.length_cons]
      omega
section
variable {W0 : World} {b2 b4 M b5 : Nat}
end
end Go.Proofs.YtmdlmmfbcnkanaaR
namespace Go.Proofs.YtmdlmmfbcnkanaaR

/-- A list without doubles, behind what there is. -/
def withoutL : List (List UInt8) → List (List UInt8) → List (List UInt8)
  | out, [] => out
  | out, p :: l => withoutL (if p ∈ out then out else out ++ [p]) l
theorem withoutL_len : ∀ (l out : List (List UInt8)), (withoutL out l).length ≤ out.length + l.length
  | [], out => by simp [withoutL]
  | p :: l, out => by
    have := withoutL_len l (if p ∈ out then out else out ++ [p])
    rw [withoutL]
    split at this <;> rename_i h <;> simp only [h, if_true, if_false] at this ⊢ <;> simp only [List.length_append, List.length_cons, List.length_nil] at this ⊢ <;> omega
/-- Two digits are a number's just if they say it. -/
theorem two_eq {f g : UInt8} (hf : isDig f = true) (hg : isDig g = true) {n : Nat} (hn : n ≤ 99) : decide ([f, g] = [hi2 n, lo2 n]) = (num2 f g == n) := by
  have key : ∀ (a b : Fin 10) (n : Fin 100), decide ([UInt8.ofNat (48 + a.1), UInt8.ofNat (48 + b.1)] = [hi2 n.1, lo2 n.1]) = (num2 (UInt8.ofNat (48 + a.1)) (UInt8.ofNat (48 + b.1)) == n.1) := by decide +kernel
  have dg : ∀ x : UInt8, isDig x = true → ∃ a : Fin 10, x = UInt8.ofNat (48 + a.1) := by
    intro x hx
    have := of_decide_eq_true hx
    exact ⟨⟨x.toNat - 48, by omega⟩, by apply UInt8.toNat_inj.1; simp; omega⟩
  obtain ⟨a, rfl⟩ := dg f hf
  obtain ⟨b, rfl⟩ := dg g hg
  exact key a b ⟨n, by omega⟩
end Go.Proofs.YtmdlmmfbcnkanaaR
namespace Go.Proofs.YtmdlmmfbcnkanaaR

section
variable {s : Ser} (n : SerN s)
include n
end

theorem good_len {r : List UInt8} (h : isGood r = true) : r.length = 7 := by
  unfold isGood at h
  split at h
  · rfl
  · cases h
theorem dig_of {b : UInt8} (h : isDig b = true) : dig b = b.toNat - 48 ∧ 48 ≤ b.toNat ∧ b.toNat ≤ 57 := by
  have h1 := of_decide_eq_true h
  refine ⟨?_, h1.1, h1.2⟩
  unfold dig
  rw [UInt8.toNat_sub_of_le _ _ (by rw [UInt8.le_iff_toNat_le]; exact h1.1)]
  rfl
end Go.Proofs.YtmdlmmfbcnkanaaR
namespace Go.Proofs.YtmdlmmfbcnkanaaR
open Go.RowKit Go.Shelf
section
variable {s : Ser} {A : Option Addr} {c : Nat} {h : Head}
attribute [local irreducible] AnyK StepK
end
end Go.Proofs.YtmdlmmfbcnkanaaR
namespace Go.Proofs.YtmdlmmfbcnkanaaR
open Go.RowKit Go.Shelf
section
variable {s : Ser} {A : Option Addr} {c b3 ba M : Nat} {h : Head} {m : List (List UInt8)} {W0 : World}
attribute [local irreducible] AnyK StepK
end
end Go.Proofs.YtmdlmmfbcnkanaaR
namespace Go.Proofs.YtmdlmmfbcnkanaaR
open Go.RowKit Go.Shelf
section
variable {s : Ser} {A : Option Addr} {c b3 ba M : Nat} {h : Head} {m : List (List UInt8)} {W0 : World}
attribute [local irreducible] AnyK StepK
end
section
attribute [local irreducible] AnyK StepK
end
end Go.Proofs.YtmdlmmfbcnkanaaR
namespace Go.Proofs.YtmdlmmfbcnkanaaR

/-- The first head of good pieces; none: noughts. -/
def headG (gs : List (List UInt8)) : Head := match gs.find? (fun p => p.head? == some 72) with
  | some p => headOf p
  | none => ⟨0, 0, 0⟩
/-- Do two pieces contradict each other? -/
def confl (p q : List UInt8) : Bool := (p.head? == q.head? && !(p == q)) && (p.head? == some 72 || p.take 3 == q.take 3)
def pastG (h : Head) (p : List UInt8) : Bool := decide (0 < h.many) && outOf h p
def contraP (gs : List (List UInt8)) : Prop := ∃ (i : Nat) (p : List UInt8), gs[i]? = some p ∧ ((∃ (k : Nat) (q : List UInt8), k < i ∧ gs[k]? = some q ∧ confl p q = true) ∨ pastG (headG gs) p = true)
noncomputable instance contraDec (gs : List (List UInt8)) : Decidable (contraP gs) := Classical.propDecidable _
noncomputable def contraB (gs : List (List UInt8)) : Bool := decide (contraP gs)
noncomputable def toldG (gs : List (List UInt8)) : Int := if contraB gs = true then 6 else if (headG gs).many = 0 then 7 else 0
theorem num2_inj {a b c d : UInt8} (ha : isDig a = true) (hb : isDig b = true) (hc : isDig c = true) (hd : isDig d = true) (h : num2 a b = num2 c d) : a = c ∧ b = d := by
  have h1 := dig_of ha
  have h2 := dig_of hb
  have h3 := dig_of hc
  have h4 := dig_of hd
  unfold num2 at h
  exact ⟨UInt8.toNat_inj.1 (by omega), UInt8.toNat_inj.1 (by omega)⟩
/-- What is so of a good record. -/
theorem good_parts {r : List UInt8} (h : isGood r = true) : ∃ a b c d e f g, r = [a, b, c, d, e, f, g] ∧ (a = 72 ∨ a = 82 ∨ a = 80) ∧ (isDig b = true ∧ isDig c = true ∧ isDig d = true ∧ isDig e = true ∧ isDig f = true ∧ isDig g = true) ∧ (a = 72 → headOk (num2 b c) (dig d) (dig e) = true) := by
  obtain ⟨a, b, c, d, e, f, g, rfl⟩ := len7 (good_len h)
  refine ⟨a, b, c, d, e, f, g, rfl, ?_⟩
  simp only [isGood, good7, Bool.and_eq_true, Bool.or_eq_true, beq_iff_eq, bne_iff_ne] at h
  obtain ⟨⟨⟨h1, h2⟩, h3⟩, h4⟩ := h
  obtain ⟨⟨⟨⟨⟨a1, a2⟩, a3⟩, a4⟩, a5⟩, a6⟩ := h2
  refine ⟨?_, ⟨a1, a2, a3, a4, a5, a6⟩, fun e => h4.resolve_left (fun hn => hn e)⟩
  rcases h1 with (h | h) | h
  · exact .inl h
  · exact .inr (.inl h)
  · exact .inr (.inr h)
theorem confl_iff {p q : List UInt8} (hp : isGood p = true) (hq : isGood q = true) : confl p q = true ↔ nameOf p = nameOf q ∧ p ≠ q := by
  obtain ⟨a, b, c, d, e, f, g, rfl, h1, ⟨y1, y2, _⟩, _⟩ := good_parts hp
  obtain ⟨a', b', c', d', e', f', g', rfl, h1', ⟨z1, z2, _⟩, _⟩ := good_parts hq
  unfold confl
  simp only [List.head?_cons, Bool.and_eq_true, Bool.or_eq_true, beq_iff_eq, Option.some.injEq, Bool.not_eq_true', beq_eq_false_iff_ne, List.take_succ_cons, List.take_zero, nameOf]
  constructor
  · rintro ⟨⟨rfl, h2⟩, h3⟩
    refine ⟨?_, h2⟩
    rcases h3 with rfl | h3
    · simp
    · injection h3 with _ h4
      injection h4 with h4 h5
      injection h5 with h5 _
      rw [h4, h5]
  · rintro ⟨h2, h3⟩
    by_cases e1 : a = 72 <;> by_cases e2 : a' = 72
    · exact ⟨⟨e1.trans e2.symm, h3⟩, .inl e1⟩
    · rw [if_pos e1, if_neg e2] at h2
      injection h2 with h2 _
      exact (e2 h2.symm).elim
    · rw [if_neg e1, if_pos e2] at h2
      injection h2 with h2 _
      exact (e1 h2).elim
    · rw [if_neg e1, if_neg e2] at h2
      injection h2 with h2 h4
      obtain ⟨h5, h6⟩ := num2_inj y1 y2 z1 z2 h4
      exact ⟨⟨h2, h3⟩, .inr (by rw [h2, h5, h6])⟩
theorem takeUp_func : ∀ (T m m' : List (List UInt8)), Func m → takeUp m T = some m' → Func (m ++ T)
  | [], m, m', hf, _ => by simpa using hf
  | g :: T, m, m', hf, h => by
    simp only [takeUp] at h
    cases hn : find m (nameOf g) with
    | some old =>
      rw [hn] at h
      simp only at h
      by_cases ho : old = g
      · rw [if_pos ho] at h
        have ih := takeUp_func T m m' hf h
        subst ho
        have hm := (find_mem hn).1
        refine ih.of_sub fun r hr => ?_
        simp only [List.mem_append, List.mem_cons] at hr ⊢
        rcases hr with h | rfl | h
        · exact .inl h
        · exact .inl hm
        · exact .inr h
      · rw [if_neg ho] at h; cases h
    | none =>
      rw [hn] at h
      simp only at h
      have hf2 : Func (m ++ [g]) := by
        have hno : ∀ r, r ∈ m → nameOf r ≠ nameOf g := by
          intro r hr e
          unfold find at hn
          rw [List.find?_eq_none] at hn
          have := hn r hr
          simp [e] at this
        intro a b ha hb e
        simp only [List.mem_append, List.mem_singleton] at ha hb
        rcases ha with ha | rfl <;> rcases hb with hb | rfl
        · exact hf a b ha hb e
        · exact (hno a ha e).elim
        · exact (hno b hb e.symm).elim
        · rfl
      have ih := takeUp_func T (m ++ [g]) m' hf2 h
      simpa using ih
theorem not_func {gs : List (List UInt8)} (hg : ∀ r, r ∈ gs → isGood r = true) : ¬ Func gs ↔ ∃ (i : Nat) (p : List UInt8) (k : Nat) (q : List UInt8), gs[i]? = some p ∧ k < i ∧ gs[k]? = some q ∧ confl p q = true := by
  constructor
  · intro h
    by_cases hx : ∃ (i : Nat) (p : List UInt8) (k : Nat) (q : List UInt8), gs[i]? = some p ∧ k < i ∧ gs[k]? = some q ∧ confl p q = true
    · exact hx
    · refine (h fun a b ha hb e => ?_).elim
      by_cases hab : a = b
      · exact hab
      · obtain ⟨i, hi⟩ := List.getElem?_of_mem ha
        obtain ⟨k, hk⟩ := List.getElem?_of_mem hb
        rcases Nat.lt_trichotomy i k with hlt | heq | hlt
        · exact (hx ⟨k, b, i, a, hk, hlt, hi, (confl_iff (hg b hb) (hg a ha)).2 ⟨e.symm, fun e => hab e.symm⟩⟩).elim
        · subst heq
          rw [hi] at hk
          cases hk
          rfl
        · exact (hx ⟨i, a, k, b, hi, hlt, hk, (confl_iff (hg a ha) (hg b hb)).2 ⟨e, hab⟩⟩).elim
  · rintro ⟨i, p, k, q, hi, _, hk, hc⟩ hf
    have hp := List.mem_of_getElem? hi
    have hq := List.mem_of_getElem? hk
    obtain ⟨h1, h2⟩ := (confl_iff (hg p hp) (hg q hq)).1 hc
    exact h2 (hf p q hp hq h1)
theorem head_many {r : List UInt8} (h : isGood r = true) (h72 : r.head? = some 72) : nameOf r = (72, 0) ∧ 1 ≤ (headOf r).many := by
  obtain ⟨a, b, c, d, e, f, g, rfl, _, _, h3⟩ := good_parts h
  simp only [List.head?_cons, Option.some.injEq] at h72
  subst h72
  have h4 := h3 rfl
  simp only [headOk, inR, Bool.and_eq_true, decide_eq_true_eq] at h4
  refine ⟨by simp [nameOf], ?_⟩
  show 1 ≤ num2 b c
  omega
theorem head_name {r : List UInt8} (h : isGood r = true) : nameOf r = (72, 0) ↔ r.head? = some 72 := by
  constructor
  · intro hn
    obtain ⟨a, b, c, d, e, f, g, rfl, h1, _, _⟩ := good_parts h
    simp only [nameOf] at hn
    by_cases e : a = 72
    · rw [e]; rfl
    · rw [if_neg e] at hn
      injection hn with hn _
      exact (e hn).elim
  · exact fun h72 => (head_many h h72).1
theorem told_read {gs : List (List UInt8)} (hg : ∀ r, r ∈ gs → isGood r = true) : toldG gs = readE gs ∧ ∀ m hr, takeUp [] gs = some m → find m (72, 0) = some hr → headG gs = headOf hr ∧ ∀ r, r ∈ m ↔ r ∈ gs := by
  by_cases hf : Func gs
  · obtain ⟨m, h1, h2⟩ := takeUp_ok gs [] (by simpa using hf)
    simp only [List.nil_append] at h2
    have hfm : Func m := hf.of_sub fun r hr => (h2 r).1 hr
    have hno : ¬ ∃ (i : Nat) (p : List UInt8) (k : Nat) (q : List UInt8), gs[i]? = some p ∧ k < i ∧ gs[k]? = some q ∧ confl p q = true := fun hx => (not_func hg).2 hx hf
    cases hfd : gs.find? (fun p => p.head? == some 72) with
    | none =>
      have hn : find m (72, 0) = none := by
        cases hx : find m (72, 0) with
        | none => rfl
        | some r =>
          obtain ⟨h3, h4⟩ := find_mem hx
          have h5 := (head_name (hg r ((h2 r).1 h3))).1 h4
          rw [List.find?_eq_none] at hfd
          have := hfd r ((h2 r).1 h3)
          simp [h5] at this
      have hh : headG gs = ⟨0, 0, 0⟩ := by unfold headG; rw [hfd]
      have hc : contraB gs = false := by
        refine decide_eq_false ?_
        rintro ⟨i, p, hi, ⟨k, q, hk, hq, hc⟩ | hp⟩
        · exact hno ⟨i, p, k, q, hi, hk, hq, hc⟩
        · rw [hh] at hp
          simp [pastG] at hp
      refine ⟨?_, fun m' hr hm' hfr => ?_⟩
      · unfold toldG readE
        rw [hc, h1, hh]
        simp [hn]
      · rw [h1] at hm'
        cases hm'
        rw [hn] at hfr
        cases hfr
    | some p =>
      have hp := List.mem_of_find?_eq_some hfd
      have hp72 : p.head? = some 72 := by simpa using List.find?_some hfd
      have hpg := hg p hp
      have hpn := head_many hpg hp72
      have hh : headG gs = headOf p := by unfold headG; rw [hfd]
      have hn : find m (72, 0) = some p := (find_iff hfm).2 ⟨(h2 p).2 hp, hpn.1⟩
      have hc : contraB gs = m.any (outOf (headOf p)) := by
        rw [Bool.eq_iff_iff]
        constructor
        · intro h
          have h := of_decide_eq_true h
          obtain ⟨i, r, hi, ⟨k, q, hk, hq, hc⟩ | hpa⟩ := h
          · exact (hno ⟨i, r, k, q, hi, hk, hq, hc⟩).elim
          · rw [hh] at hpa
            simp only [pastG, Bool.and_eq_true] at hpa
            exact List.any_eq_true.2 ⟨r, (h2 r).2 (List.mem_of_getElem? hi), hpa.2⟩
        · intro h
          obtain ⟨r, hr, ho⟩ := List.any_eq_true.1 h
          obtain ⟨i, hi⟩ := List.getElem?_of_mem ((h2 r).1 hr)
          refine decide_eq_true ⟨i, r, hi, .inr ?_⟩
          rw [hh]
          simp only [pastG, Bool.and_eq_true, decide_eq_true_eq]
          exact ⟨by omega, ho⟩
      refine ⟨?_, fun m' hr hm' hfr => ?_⟩
      · unfold toldG readE
        rw [hc, h1, hh]
        have : ¬ (headOf p).many = 0 := by omega
        simp [hn, this]
      · rw [h1] at hm'
        cases hm'
        rw [hn] at hfr
        cases hfr
        exact ⟨hh, h2⟩
  · have hc : contraB gs = true := by
      obtain ⟨i, p, k, q, hi, hk, hq, hc⟩ := (not_func hg).1 hf
      exact decide_eq_true ⟨i, p, hi, .inl ⟨k, q, hk, hq, hc⟩⟩
    have hn : takeUp [] gs = none := by
      cases hx : takeUp [] gs with
      | none => rfl
      | some m => exact (hf (by simpa using takeUp_func gs [] m (fun a b ha => by cases ha) hx)).elim
    refine ⟨?_, fun m hr hm => by rw [hn] at hm; cases hm⟩
    unfold toldG readE
    rw [hc, hn]
    simp
theorem goods_good (l : List UInt8) : ∀ r, r ∈ goods l → isGood r = true := fun _ hr => (List.mem_filter.1 hr).2
end Go.Proofs.YtmdlmmfbcnkanaaR
namespace Go.Proofs.YtmdlmmfbcnkanaaR

def kindB (k : Nat) : UInt8 := if k = 0 then 72 else if k = 1 then 82 else 80
def isAt (k n : Nat) : List UInt8 → Bool
  | a :: b :: c :: _ => decide (a = kindB k) && decide (num2 b c = n)
  | _ => false
/-- Good pieces without doubles, in their order. -/
def joinR (gs : List (List UInt8)) : List (List UInt8) := (List.range 3).flatMap fun k => (List.range 100).flatMap fun n => (withoutL [] gs).filter (isAt k n)
theorem without_mem : ∀ (l out : List (List UInt8)) (r : List UInt8), r ∈ withoutL out l ↔ r ∈ out ∨ r ∈ l
  | [], out, r => by simp [withoutL]
  | p :: l, out, r => by
    rw [withoutL, without_mem l _ r]
    by_cases h : p ∈ out
    · rw [if_pos h, List.mem_cons]
      constructor
      · rintro (h1 | h1)
        · exact .inl h1
        · exact .inr (.inr h1)
      · rintro (h1 | rfl | h1)
        · exact .inl h1
        · exact .inl h
        · exact .inr h1
    · rw [if_neg h, List.mem_append, List.mem_singleton, List.mem_cons, or_assoc]
theorem without_nd : ∀ (l out : List (List UInt8)), out.Nodup → (withoutL out l).Nodup
  | [], out, h => h
  | p :: l, out, h => by
    rw [withoutL]
    refine without_nd l _ ?_
    by_cases hp : p ∈ out
    · rw [if_pos hp]
      exact h
    · rw [if_neg hp]
      refine List.nodup_append.2 ⟨h, by simp, fun a ha b hb => ?_⟩
      simp only [List.mem_singleton] at hb
      subst hb
      exact fun e => hp (e ▸ ha)
theorem kindIx_B {k : Nat} (h : k < 3) : kindIx (kindB k) = k := by
  rcases k with _ | _ | _ | k
  · rfl
  · rfl
  · rfl
  · omega
theorem isAt_rank {k n : Nat} {r : List UInt8} (hk : k < 3) (h : isAt k n r = true) : rankL r = (k : Int) * 10000 + n := by
  unfold isAt at h
  split at h
  · rename_i a b c t
    simp only [Bool.and_eq_true, decide_eq_true_eq] at h
    obtain ⟨rfl, rfl⟩ := h
    show kindIx (kindB k) * 10000 + (num2 b c : Int) = _
    rw [kindIx_B hk]
  · cases h
theorem num_99 {a b : UInt8} (ha : isDig a = true) (hb : isDig b = true) : num2 a b ≤ 99 := by
  have h1 := dig_of ha
  have h2 := dig_of hb
  unfold num2
  omega
/-- The rank of a good record says its name. -/
theorem rank_name {p q : List UInt8} (hp : isGood p = true) (hq : isGood q = true) (h : rankL p = rankL q) : nameOf p = nameOf q := by
  obtain ⟨a, b, c, d, e, f, g, rfl, h1, ⟨y1, y2, _⟩, _⟩ := good_parts hp
  obtain ⟨a', b', c', d', e', f', g', rfl, h1', ⟨z1, z2, _⟩, _⟩ := good_parts hq
  have n1 := num_99 y1 y2
  have n2 := num_99 z1 z2
  have h : kindIx a * 10000 + (num2 b c : Int) = kindIx a' * 10000 + (num2 b' c' : Int) := h
  have hk : ∀ x : UInt8, (x = 72 ∨ x = 82 ∨ x = 80) → kindIx x = 0 ∧ x = 72 ∨ kindIx x = 1 ∧ x = 82 ∨ kindIx x = 2 ∧ x = 80 := by
    rintro x (rfl | rfl | rfl)
    · exact .inl ⟨rfl, rfl⟩
    · exact .inr (.inl ⟨rfl, rfl⟩)
    · exact .inr (.inr ⟨rfl, rfl⟩)
  have e1 : a = a' ∧ num2 b c = num2 b' c' := by
    rcases hk a h1 with ⟨k1, rfl⟩ | ⟨k1, rfl⟩ | ⟨k1, rfl⟩ <;> rcases hk a' h1' with ⟨k2, rfl⟩ | ⟨k2, rfl⟩ | ⟨k2, rfl⟩ <;> simp only [k1, k2] at h
    · exact ⟨rfl, by omega⟩
    · omega
    · omega
    · omega
    · exact ⟨rfl, by omega⟩
    · omega
    · omega
    · omega
    · exact ⟨rfl, by omega⟩
  simp only [nameOf]
  rw [e1.1, e1.2]
theorem join_mem {gs : List (List UInt8)} (hg : ∀ r, r ∈ gs → isGood r = true) (r : List UInt8) : r ∈ joinR gs ↔ r ∈ gs := by
  unfold joinR
  simp only [List.mem_flatMap, List.mem_range, List.mem_filter, without_mem, List.not_mem_nil, false_or]
  constructor
  · rintro ⟨k, _, n, _, h, _⟩
    exact h
  · intro h
    obtain ⟨a, b, c, d, e, f, g, rfl, h1, ⟨y1, y2, _⟩, _⟩ := good_parts (hg r h)
    have n1 := num_99 y1 y2
    rcases h1 with rfl | rfl | rfl
    · exact ⟨0, by omega, num2 b c, by omega, h, by simp [isAt, kindB]⟩
    · exact ⟨1, by omega, num2 b c, by omega, h, by simp [isAt, kindB]⟩
    · exact ⟨2, by omega, num2 b c, by omega, h, by simp [isAt, kindB]⟩
theorem join_sorted {gs : List (List UInt8)} (hg : ∀ r, r ∈ gs → isGood r = true) (hf : Func gs) : (joinR gs).Pairwise (fun x y => rankL x < rankL y) := by
  unfold joinR
  have hin : ∀ k n r, r ∈ (withoutL [] gs).filter (isAt k n) → r ∈ gs ∧ isAt k n r = true := by
    intro k n r h
    obtain ⟨h1, h2⟩ := List.mem_filter.1 h
    exact ⟨by simpa using (without_mem gs [] r).1 h1, h2⟩
  rw [List.pairwise_flatMap]
  refine ⟨fun k hk => ?_, ?_⟩
  · have hk := List.mem_range.1 hk
    rw [List.pairwise_flatMap]
    refine ⟨fun n hn => ?_, ?_⟩
    · refine List.Pairwise.imp_of_mem ?_ ((without_nd gs [] List.nodup_nil).filter _)
      intro a b ha hb hne
      obtain ⟨a1, a2⟩ := hin k n a ha
      obtain ⟨b1, b2⟩ := hin k n b hb
      exact (hne (hf a b a1 b1 (rank_name (hg a a1) (hg b b1) (by rw [isAt_rank hk a2, isAt_rank hk b2])))).elim
    · refine List.Pairwise.imp ?_ List.pairwise_lt_range
      intro n n' hnn x hx y hy
      rw [isAt_rank hk (hin k n x hx).2, isAt_rank hk (hin k n' y hy).2]
      omega
  · refine List.Pairwise.imp_of_mem ?_ List.pairwise_lt_range
    intro k k' hk hk' hkk x hx y hy
    obtain ⟨n, hn, hx⟩ := List.mem_flatMap.1 hx
    obtain ⟨n', hn', hy⟩ := List.mem_flatMap.1 hy
    have := List.mem_range.1 hn
    have := List.mem_range.1 hn'
    rw [isAt_rank (List.mem_range.1 hk) (hin k n x hx).2, isAt_rank (List.mem_range.1 hk') (hin k' n' y hy).2]
    omega
theorem sorted_eq : ∀ {A B : List (List UInt8)}, A.Pairwise (fun x y => rankL x < rankL y) → B.Pairwise (fun x y => rankL x < rankL y) → (∀ r, r ∈ A ↔ r ∈ B) → A = B
  | [], [], _, _, _ => rfl
  | [], b :: B, _, _, h => by have := (h b).2 List.mem_cons_self; cases this
  | a :: A, [], _, _, h => by have := (h a).1 List.mem_cons_self; cases this
  | a :: A, b :: B, hA, hB, h => by
    obtain ⟨a1, a2⟩ := List.pairwise_cons.1 hA
    obtain ⟨b1, b2⟩ := List.pairwise_cons.1 hB
    have hab : a = b := by
      rcases List.mem_cons.1 ((h a).1 List.mem_cons_self) with e | e
      · exact e
      · rcases List.mem_cons.1 ((h b).2 List.mem_cons_self) with e' | e'
        · exact e'.symm
        · have := a1 b e'
          have := b1 a e
          omega
    subst hab
    have : A = B := by
      refine sorted_eq a2 b2 fun r => ⟨fun hr => ?_, fun hr => ?_⟩
      · rcases List.mem_cons.1 ((h r).1 (List.mem_cons_of_mem _ hr)) with rfl | e
        · have := a1 r hr
          omega
        · exact e
      · rcases List.mem_cons.1 ((h r).2 (List.mem_cons_of_mem _ hr)) with rfl | e
        · have := b1 r hr
          omega
        · exact e
    rw [this]
theorem takeUp_nd : ∀ (T m m' : List (List UInt8)), m.Nodup → takeUp m T = some m' → m'.Nodup
  | [], m, m', hm, h => by
    simp only [takeUp, Option.some.injEq] at h
    rw [← h]
    exact hm
  | g :: T, m, m', hm, h => by
    simp only [takeUp] at h
    cases hn : find m (nameOf g) with
    | some old =>
      rw [hn] at h
      simp only at h
      split at h
      · exact takeUp_nd T m m' hm h
      · cases h
    | none =>
      rw [hn] at h
      simp only at h
      refine takeUp_nd T (m ++ [g]) m' (List.nodup_append.2 ⟨hm, by simp, fun a ha b hb => ?_⟩) h
      simp only [List.mem_singleton] at hb
      subst hb
      rintro rfl
      unfold find at hn
      rw [List.find?_eq_none] at hn
      have := hn a ha
      simp at this
theorem nd_inj {l : List (List UInt8)} (h : l.Nodup) {i j : Nat} (hi : i < l.length) (hj : j < l.length) (e : l[i] = l[j]) : i = j := by
  have hp := List.pairwise_iff_getElem.1 h
  rcases Nat.lt_trichotomy i j with h1 | h1 | h1
  · exact (hp i j hi hj h1 e).elim
  · exact h1
  · exact (hp j i hj hi h1 e.symm).elim
/-- What has come out of a map, and was sorted, is what good pieces are together. -/
theorem sort_is {gs m : List (List UInt8)} (hg : ∀ r, r ∈ gs → isGood r = true) (ht : takeUp [] gs = some m) {D : List Nat} (hd : D.Nodup) (hlt : ∀ i, i ∈ D → i < m.length) (hall : ∀ i, i < m.length → i ∈ D) {l' : List K7} (hp : l'.Perm (D.map fun j => k7 (m.getD j []))) (hs : l'.Pairwise (fun x y => rankL (un7 x) ≤ rankL (un7 y))) : l'.map un7 = joinR gs := by
  have hf : Func gs := by simpa using takeUp_func gs [] m (fun a b ha => by cases ha) ht
  obtain ⟨m', h1, h2⟩ := takeUp_ok gs [] (by simpa using hf)
  rw [ht] at h1
  cases h1
  simp only [List.nil_append] at h2
  have hmd := takeUp_nd gs [] m List.nodup_nil ht
  have hmg : ∀ i (h : i < m.length), isGood m[i] = true := fun i h => hg _ ((h2 _).1 (List.getElem_mem h))
  have hun : ∀ i, i < m.length → un7 (k7 (m.getD i [])) = m.getD i [] ∧ ∃ h : i < m.length, m.getD i [] = m[i] := by
    intro i hi
    have e : m.getD i [] = m[i] := by simp [List.getD, List.getElem?_eq_getElem hi]
    refine ⟨?_, hi, e⟩
    rw [e]
    exact un7_k7 (good_len (hmg i hi))
  have hne : (D.map fun j => k7 (m.getD j [])).Pairwise (fun x y => rankL (un7 x) ≠ rankL (un7 y)) := by
    rw [List.pairwise_map]
    refine List.Pairwise.imp_of_mem ?_ hd
    intro i j hi hj hij he
    obtain ⟨e1, i1, e2⟩ := hun i (hlt i hi)
    obtain ⟨e3, j1, e4⟩ := hun j (hlt j hj)
    rw [e1, e3, e2, e4] at he
    have hnm := rank_name (hmg i i1) (hmg j j1) he
    have heq := hf _ _ ((h2 _).1 (List.getElem_mem i1)) ((h2 _).1 (List.getElem_mem j1)) hnm
    exact hij (nd_inj hmd i1 j1 heq)
  have hne2 : l'.Pairwise (fun x y => rankL (un7 x) ≠ rankL (un7 y)) := (List.Perm.pairwise_iff (fun h e => h e.symm) hp).2 hne
  have hst : l'.Pairwise (fun x y => rankL (un7 x) < rankL (un7 y)) := by
    refine List.Pairwise.imp (R := fun x y => rankL (un7 x) ≤ rankL (un7 y) ∧ rankL (un7 x) ≠ rankL (un7 y)) ?_ (hs.and hne2)
    intro x y h
    omega
  refine sorted_eq (by rw [List.pairwise_map]; exact hst) (join_sorted hg hf) fun r => ?_
  rw [join_mem hg, ← h2, List.mem_map]
  constructor
  · rintro ⟨x, hx, rfl⟩
    obtain ⟨i, hi, rfl⟩ := List.mem_map.1 (hp.mem_iff.1 hx)
    obtain ⟨e1, i1, e2⟩ := hun i (hlt i hi)
    rw [e1, e2]
    exact List.getElem_mem i1
  · intro hr
    obtain ⟨i, hi, rfl⟩ := List.getElem_of_mem hr
    obtain ⟨e1, i1, e2⟩ := hun i hi
    exact ⟨k7 (m.getD i []), hp.mem_iff.2 (List.mem_map.2 ⟨i, hall i hi, rfl⟩), by rw [e1, e2]⟩
end Go.Proofs.YtmdlmmfbcnkanaaR
namespace Go.Proofs.YtmdlmmfbcnkanaaR
open Go.RowKit Go.Shelf
/-- What Join hands back. -/
def JoinP (W : World) (L : List (List UInt8)) : Ending → World → Prop := fun e w' => Below W.heap.size W w' ∧ ∃ v, e = .returned (.tuple #[v, .int .i64 (readC L)]) ∧ (readC L ≠ 0 → v = .slice none 0 0) ∧ (readC L = 0 → OB W v (linesL (joinR (L.flatMap goods))) w')
theorem bs124_2 (A A' : Option Addr) (n c n' c' : Nat) (w : World) : (Instr.buildSlice 124 2 #[(0, .slice A n c), (1, .slice A' n' c')]).run Try.prog w = .ok (.slice (some ⟨w.heap.size, 0, none⟩) 2 2) (w.alloc (.cells #[.slice A n c, .slice A' n' c'] 31)) := by go_simp
theorem lists_two {W : World} {A A' : Option Addr} {l l' : List UInt8} {c c' : Nat} (hc : l.length ≤ c) (hl : l.length ≤ 100000) (hs : BytesAt W W.heap.size A l) (hc' : l'.length ≤ c') (hl' : l'.length ≤ 100000) (hs' : BytesAt W W.heap.size A' l') :
    ListsAt (W.alloc (.cells #[.slice A l.length c, .slice A' l'.length c'] 31)) (W.alloc (.cells #[.slice A l.length c, .slice A' l'.length c'] 31)).heap.size (some ⟨W.heap.size, 0, none⟩) [l, l'] := by
  intro k x hx
  match k, hx with
  | 0, hx =>
    simp at hx
    subst hx
    refine ⟨_, _, rfl, by simp, A, c, (Whole.new W 31 #[.slice A l.length c, .slice A' l'.length c']).cell 0, hc, hl, ?_⟩
    exact (hs.below ((Below.refl W.heap.size W).alloc (Nat.le_refl _) _) (Nat.le_refl _)).more (by simp)
  | 1, hx =>
    simp at hx
    subst hx
    refine ⟨_, _, rfl, by simp, A', c', (Whole.new W 31 #[.slice A l.length c, .slice A' l'.length c']).cell 1, hc', hl', ?_⟩
    exact (hs'.below ((Below.refl W.heap.size W).alloc (Nat.le_refl _) _) (Nat.le_refl _)).more (by simp)
theorem bs108_1 (c0 c1 c2 c3 c4 c5 c6 : UInt8) (w : World) : (Instr.buildSlice 108 1 #[(0, rV c0 c1 c2 c3 c4 c5 c6)]).run Try.prog w = .ok (.slice (some ⟨w.heap.size, 0, none⟩) 1 1) (w.alloc (.cells (r7 c0 c1 c2 c3 c4 c5 c6) 83)) := by go_simp
theorem al116 (w : World) : (Instr.alloc 116 true (.tuple #[])).run Try.prog w = .ok (.pointer (some ⟨w.heap.size, 0, none⟩)) (w.alloc (.cells #[.nilFunc] 116)) := by go_simp
theorem st116 {w : World} {p : Addr} {v : Value} {f : Fn} (h : w.cell? p = some v) (hf : w.frozen? p = false) : (Instr.storeAt 116 (.pointer (some p)) (.func f #[] #[])).run Try.prog w = .ok () (w.setCell p (.func f #[] #[])) := by
  go_simp
theorem takeUp_len : ∀ (T m m' : List (List UInt8)), takeUp m T = some m' → m'.length ≤ m.length + T.length
  | [], m, m', h => by
    simp only [takeUp, Option.some.injEq] at h
    rw [← h]
    simp
  | g :: T, m, m', h => by
    simp only [takeUp] at h
    cases hn : find m (nameOf g) with
    | some old =>
      rw [hn] at h
      simp only at h
      split at h
      · have := takeUp_len T m m' h
        simp only [List.length_cons]
        omega
      · cases h
    | none =>
      rw [hn] at h
      simp only at h
      have := takeUp_len T (m ++ [g]) m' h
      simp only [List.length_append, List.length_cons, List.length_nil] at this ⊢
      omega
theorem pieces_sum : ∀ (l acc : List UInt8), ((pieces acc l).map fun p => p.length + 1).sum ≤ acc.length + l.length
  | [], acc => by simp [pieces]
  | b :: l, acc => by
    rw [pieces]
    split
    · have := pieces_sum l []
      simp only [List.map_cons, List.sum_cons, List.length_cons, List.length_nil] at this ⊢
      omega
    · have := pieces_sum l (acc ++ [b])
      simp only [List.length_append, List.length_cons, List.length_nil] at this ⊢
      omega
theorem good_sum : ∀ ps : List (List UInt8), 8 * (ps.filter isGood).length ≤ (ps.map fun p => p.length + 1).sum
  | [] => by simp
  | p :: ps => by
    have ih := good_sum ps
    rw [List.map_cons, List.sum_cons]
    by_cases hg : isGood p = true
    · rw [List.filter_cons_of_pos hg, List.length_cons, good_len hg]
      omega
    · rw [List.filter_cons_of_neg hg]
      omega
theorem goods_8 (l : List UInt8) : 8 * (goods l).length ≤ l.length := by
  have h1 := good_sum (pieces [] l)
  have h2 := pieces_sum l []
  unfold goods
  simp only [List.length_nil] at h2
  omega
noncomputable def opsJn0 : Array Oper := (Try.f39.body.bind (regionOf 0)).getD #[]
noncomputable def opsJn1 : Array Oper := (Try.f39.body.bind (regionOf 1)).getD #[]
noncomputable def opsJn2 : Array Oper := (Try.f39.body.bind (regionOf 2)).getD #[]
noncomputable def opsJn3 : Array Oper := (Try.f39.body.bind (regionOf 3)).getD #[]
noncomputable def opsJn4 : Array Oper := (Try.f39.body.bind (regionOf 4)).getD #[]
noncomputable def opsJn5 : Array Oper := (Try.f39.body.bind (regionOf 5)).getD #[]
noncomputable def opsJn6 : Array Oper := (Try.f39.body.bind (regionOf 6)).getD #[]
noncomputable def opsJn7 : Array Oper := (Try.f39.body.bind (regionOf 7)).getD #[]
noncomputable def opsJn8 : Array Oper := (Try.f39.body.bind (regionOf 8)).getD #[]
noncomputable def opsJn9 : Array Oper := (Try.f39.body.bind (regionOf 9)).getD #[]
noncomputable def opsJn10 : Array Oper := (Try.f39.body.bind (regionOf 10)).getD #[]
noncomputable def opsJn11 : Array Oper := (Try.f39.body.bind (regionOf 11)).getD #[]
noncomputable def jn_l : Code := (.seq (.region 6 opsJn6 false) (.seq (.cond (.tmp 28) .skip (.exit 0)) (.block 1 (.seq (.region 7 opsJn7 false) (.region 8 opsJn8 false)))))
noncomputable def jn_e : Code := (.seq (.region 9 opsJn9 false) (.seq (.region 10 opsJn10 false) (.seq (.region 11 opsJn11 false) .ret)))
noncomputable def jn_b : Code := (.seq (.seq (.region 5 opsJn5 false) (.block 0 (.loop jn_l))) jn_e)
noncomputable def code39 : Code := (.seq (.region 0 opsJn0 false) (.seq (.region 1 opsJn1 false) (.seq (.seq (.region 2 opsJn2 false) (.cond (.tmp 20) (.seq (.region 3 opsJn3 false) .ret) .skip)) (.seq (.region 4 opsJn4 false) jn_b))))
theorem body39 : Try.f39.body = some code39 := by kernel_rfl
section
variable {m : List (List UInt8)} {W0 W2 : World} {ba M B r0 : Nat} {h : Head} {D : List Nat}
set_option maxHeartbeats 400000 in
theorem jn_l_any {v : Value} {l : List K7} {a : Act} {W : World} {Q : Exit → Act → World → Prop} (hgd : ∀ r, r ∈ m → isGood r = true) (hM : M < W2.heap.size) (hr0 : W2.heap.size ≤ r0) (hrB : r0 < B) (or : OR B W2 v l W) (hll : l.length = D.length) (hml : m.length ≤ 90000) (it : IterAt nameV W r0 M (recMap m) D)
    (hsz : a.tmps.size = 40) (hdf : a.defers = []) (t8 : a.eval (.tmp 8) = v) (t26 : a.eval (.tmp 26) = ptr r0)
    (hN : ∀ a' W' v' j r, m[j]? = some r → D.length < m.length → a'.tmps.size = 40 → a'.defers = [] → a'.eval (.tmp 8) = v' → a'.eval (.tmp 26) = ptr r0 → OR B W2 v' (l ++ [k7 r]) W' → IterAt nameV W' r0 M (recMap m) (D ++ [j]) → Q .normal a' W')
    (hX : ∀ a', (∀ j, j < m.length → j ∈ D) → a'.tmps.size = 40 → a'.defers = [] → a'.eval (.tmp 8) = v → Q (.exit 0) a' W) :
    jn_l.wpIn Fence.wide 5 Try.prog Q a W := by
  unfold jn_l
  rcases it.next (by omega) 0 with ⟨hall, hnx⟩ | ⟨j, k, vv, W1, hjk, hlt, hnx, it1, he1⟩
  · skip
    refine wpIn_seq (region_p 2 ?_)
    intro K hK
    refine ListK.next (i := 0) (u := ptr r0) rfl (by simp [t26]) hnx ?_
    refine ListK.extract (i := 1) (u := .tuple #[.bool false]) (v := .bool false) rfl (by simp [hsz]) (ex0s _ _) ?_
    refine ListK.done (hK _ _ ?_)
    clear hK K
    refine wpIn_seq (wpIn_cond (t := false) (by simp [hsz]) (wpIn_exit ?_))
    exact hX _ (fun j hj => hall j (by simpa [recMap] using hj)) (by simp only [size_put, hsz]) (by simp only [defers_put, hdf]) (by simp [t8])
  · have or1 := or.else he1 hrB hr0
    obtain ⟨r, hr, hkr, hvr⟩ : ∃ r, m[j]? = some r ∧ k = nameOf r ∧ vv = .agg (recC r) := by
      simp only [recMap, List.getElem?_map, Option.map_eq_some_iff, Prod.mk.injEq] at hjk
      obtain ⟨r, h1, h2, h3⟩ := hjk
      exact ⟨r, h1, h2.symm, h3.symm⟩
    subst hkr
    have hent := it1.entry hjk
    have hlt' : D.length < m.length := by simpa [recMap] using hlt
    have hrm := List.mem_of_getElem? hr
    obtain ⟨c0, c1, c2, c3, c4, c5, c6, hre⟩ := len7 (good_seven (hgd r hrm))
    have hv7 : vv = rV c0 c1 c2 c3 c4 c5 c6 := by rw [hvr, hre]; rfl
    subst hv7
    refine wpIn_seq (region_p 2 ?_)
    intro K hK
    refine ListK.next (i := 0) (u := ptr r0) rfl (by simp [t26]) hnx ?_
    refine ListK.extract (i := 1) (u := .tuple #[.bool true, nameV (nameOf r), rV c0 c1 c2 c3 c4 c5 c6]) (v := .bool true) rfl (by simp [hsz]) (ex0t _ _ _ _) ?_
    refine ListK.done (hK _ _ ?_)
    clear hK K
    refine wpIn_seq (wpIn_cond (t := true) (by simp [hsz]) (wpIn_skip ?_))
    generalize hA : Act.put _ _ _ = a1
    have hz_a1 : a1.tmps.size = 40 := by rw [← hA]; simp only [size_put, hsz]
    have u8 : a1.eval (.tmp 8) = v := by rw [← hA]; exact (by simp [t8])
    have u26 : a1.eval (.tmp 26) = .pointer (some ⟨r0, 0, none⟩) := by rw [← hA]; exact (by simp [t26])
    have hd_a1 : a1.defers = [] := by rw [← hA]; simp only [defers_put, hdf]
    clear hA
    refine wpIn_block ?_
    have hbA : Below W1.heap.size W1 (W1.alloc (.cells z7 83)) := (Below.refl _ W1).alloc (Nat.le_refl _) _
    have w8 := Whole.new W1 83 z7
    refine wpIn_seq (region_p 4 ?_)
    intro K hK
    refine ListK.entry (i := 0) (u := ptr r0) rfl (by simp [u26]) hent ?_
    refine ListK.extract (i := 1) (u := .tuple #[nameV (nameOf r), rV c0 c1 c2 c3 c4 c5 c6]) (v := rV c0 c1 c2 c3 c4 c5 c6) rfl (by simp [hz_a1]) (ex1 _ _ _) ?_
    refine ListK.alloc (i := 2) rfl (al83 W1) ?_
    refine ListK.store (i := 3) (u := .pointer (some ⟨W1.heap.size, 0, none⟩)) (u' := rV c0 c1 c2 c3 c4 c5 c6) rfl (by simp [hz_a1]) (by simp [hz_a1]) (st83 w8) ?_
    refine ListK.done (hK _ _ ?_)
    clear hK K
    have w8d := put7_whole w8 (u8V c0) (u8V c1) (u8V c2) (u8V c3) (u8V c4) (u8V c5) (u8V c6)
    have heD := put7_else (w := W1.alloc (.cells z7 83)) (b := W1.heap.size) (u8V c0) (u8V c1) (u8V c2) (u8V c3) (u8V c4) (u8V c5) (u8V c6)
    have hszA := hbA.size
    have hb2 := hbA.trans (heD.below (B := W1.heap.size) (by omega) (fun k hk e => by omega))
    generalize hq8 : W1.heap.size = b8 at w8d hb2 ⊢
    generalize put7 (W1.alloc (.cells z7 83)) b8 (u8V c0) (u8V c1) (u8V c2) (u8V c3) (u8V c4) (u8V c5) (u8V c6) = W3 at *
    have hb1B := or1.b1
    have or3 := or1.below (by rw [hq8]; exact hb2)
    have hb23 : Below W3.heap.size W3 (W3.alloc (.cells (r7 c0 c1 c2 c3 c4 c5 c6) 83)) := (Below.refl _ _).alloc (Nat.le_refl _) _
    have or4 := or3.below hb23
    obtain ⟨v4, W4, hap4, or5, hbB⟩ := app108_run (k := k7 [c0, c1, c2, c3, c4, c5, c6]) (b := W3.heap.size) (c := 1) (ty := 108) or4 (Whole.new W3 83 (r7 c0 c1 c2 c3 c4 c5 c6)) (by omega)
    generalize hA : Act.put _ _ _ = a2
    have hz_a2 : a2.tmps.size = 40 := by rw [← hA]; simp only [size_put, hz_a1]
    have v8 : a2.eval (.tmp 8) = v := by rw [← hA]; exact (by simp [u8])
    have v10 : a2.eval (.tmp 10) = .pointer (some ⟨b8, 0, none⟩) := by rw [← hA]; exact (by simp [hz_a1])
    have v26 : a2.eval (.tmp 26) = .pointer (some ⟨r0, 0, none⟩) := by rw [← hA]; exact (by simp [u26])
    have hd_a2 : a2.defers = [] := by rw [← hA]; simp only [defers_put, hd_a1]
    clear hA
    refine region_p 5 ?_
    intro K hK
    refine ListK.move (i := 0) (v := v) rfl (by simp [v8]) ?_
    refine ListK.load (i := 1) (p := ⟨b8, 0, none⟩) (v := rV c0 c1 c2 c3 c4 c5 c6) rfl (by simp [v10]) (ld83 w8d) ?_
    refine ListK.bsl (i := 2) (ps := #[(0, rV c0 c1 c2 c3 c4 c5 c6)]) (v := .slice (some ⟨W3.heap.size, 0, none⟩) 1 1) rfl (by simp [hz_a2]) (bs108_1 _ _ _ _ _ _ _ W3) ?_
    refine ListK.app108 (i := 3) rfl (by simp [hz_a2]) (by simp [hz_a2]) hap4 ?_
    refine ListK.assign (i := 4) (v := v4) rfl (by simp [hz_a2]) ?_
    refine ListK.done (hK _ _ ?_)
    clear hK K
    have hszW3 := hb2.size
    have it3 := it1.keep (hb2.block M (by omega)) (hb2.block r0 (by omega))
    have it4 := it3.keep (hb23.block M (by omega)) (hb23.block r0 (by omega))
    have it5 := it4.keep (hbB.block M (by omega)) (hbB.block r0 (by omega))
    subst hre
    exact hN _ W4 v4 j _ hr hlt' (by simp only [size_put, hz_a2]) (by simp only [defers_put, hd_a2]) (by simp [hz_a2]) (by simp [v26]) or5 it5
set_option maxHeartbeats 400000 in
theorem jn_e_any {L : List (List UInt8)} {v : Value} {l : List K7} {a : Act} {W W3 : World} (hsrt : ∀ l' : List K7, l'.Perm l → l'.Pairwise (fun x y => rankL (un7 x) ≤ rankL (un7 y)) → l'.map un7 = joinR (L.flatMap goods)) (hz0 : readC L = 0) (or : OR B W2 v l W3) (hl : 0 < l.length) (hl2 : l.length ≤ 2000)
    (hsz : a.tmps.size = 40) (hd_a : a.defers = []) (t8 : a.eval (.tmp 8) = v) (hB : Below W.heap.size W W3) (hWB : W.heap.size ≤ B) :
    jn_e.wpIn Fence.wide 5 Try.prog (bodyPost Try.prog Try.f39 (JoinP W L)) a W3 := by
  obtain ⟨g, c, rfl, hgB, hgl, hH⟩ := or.row hl
  unfold jn_e
  have w11 := Whole.new W3 116 #[.nilFunc]
  have hbA : Below W3.heap.size W3 (W3.alloc (.cells #[.nilFunc] 116)) := (Below.refl _ _).alloc (Nat.le_refl _) _
  have hbS : Below W3.heap.size W3 ((W3.alloc (.cells #[.nilFunc] 116)).setCell ⟨W3.heap.size, 0, none⟩ (.func (.func 68) #[] #[])) := hbA.setCell (p := ⟨W3.heap.size, 0, none⟩) (Nat.le_refl _) _
  have w11s := (w11.set 0 (.func (.func 68) #[] #[])).cell 0
  refine wpIn_seq (region_p 2 ?_)
  intro K hK
  refine ListK.alloc (i := 0) rfl (al116 W3) ?_
  refine ListK.store (i := 1) (u := .pointer (some ⟨W3.heap.size, 0, none⟩)) (u' := .func (.func 68) #[] #[]) rfl (by simp [hsz]) (by simp) (st116 (w11.cell 0) (w11.frozen 0)) ?_
  refine ListK.done (hK _ _ ?_)
  clear hK K
  have hszS := hbS.size
  have hHS := holds_below hH hbS hgl
  generalize hq11 : W3.heap.size = bo at *
  generalize (W3.alloc (.cells #[.nilFunc] 116)).setCell ⟨bo, 0, none⟩ (.func (.func 68) #[] #[]) = W4 at *
  generalize hA : Act.put _ _ _ = a1
  have hz_a1 : a1.tmps.size = 40 := by rw [← hA]; simp only [size_put, hsz]
  have u8 : a1.eval (.tmp 8) = .slice (some ⟨g, 0, none⟩) l.length c := by rw [← hA]; exact (by simp [t8])
  have u11 : a1.eval (.tmp 11) = .pointer (some ⟨bo, 0, none⟩) := by rw [← hA]; exact (by simp [hsz])
  have hd_a1 : a1.defers = [] := by rw [← hA]; simp only [defers_put, hd_a]
  clear hA
  refine wpIn_seq (region_p 3 ?_)
  intro K hK
  refine ListK.move (i := 0) (v := .slice (some ⟨g, 0, none⟩) l.length c) rfl (by simp [u8]) ?_
  refine ListK.mkF (i := 1) (vs := #[.pointer (some ⟨bo, 0, none⟩)]) rfl (by simp [u11]) ?_
  refine ListK.call (i := 2) (vs := #[.slice (some ⟨g, 0, none⟩) l.length c, .func (.func 73) #[] #[.pointer (some ⟨bo, 0, none⟩)]]) rfl (enters_of Try.func72 (by kernel_rfl) rfl) (by simp [hz_a1]) ((sort_any (l := l) (g := g) (c := c) (bo := bo) hHS (by omega) (by omega) w11s (by omega)).mono ?_)
  rintro _ W5 ⟨rfl, l2, hp2, hs2, hrec, hb5⟩
  refine ⟨_, rfl, ?_⟩
  refine ListK.done (hK _ _ ?_)
  clear hK K
  have hT := hsrt l2 hp2 hs2
  have hlen : l.length = (l2.map un7).length := by rw [List.length_map, hp2.length_eq]
  have hB4 := hB.trans (hbS.mono (by have := hB.size; omega))
  have hB5 := hB4.trans (hb5.mono (by omega))
  generalize hA : Act.put _ _ _ = a2
  have hz_a2 : a2.tmps.size = 40 := by rw [← hA]; simp only [size_put, hz_a1]
  have v8 : a2.eval (.tmp 8) = .slice (some ⟨g, 0, none⟩) l.length c := by rw [← hA]; exact (by simp [u8])
  have hd_a2 : a2.defers = [] := by rw [← hA]; simp only [defers_put, hd_a1]
  clear hA
  rw [hlen] at v8
  refine wpIn_seq (region_p 4 ?_)
  intro K hK
  refine ListK.move (i := 0) (v := .slice (some ⟨g, 0, none⟩) (l2.map un7).length c) rfl (by simp [v8]) ?_
  refine ListK.call (i := 1) (vs := #[.slice (some ⟨g, 0, none⟩) (l2.map un7).length c]) rfl (enters_of Try.func49 (by kernel_rfl) rfl) (by simp [hz_a2]) ((lines_any (some ⟨g, 0, none⟩) (l2.map un7) c W5 (by omega) hrec).mono ?_)
  rintro _ W6 ⟨v6, rfl, ob6⟩
  refine ⟨_, rfl, ?_⟩
  refine ListK.assign (i := 2) (v := v6) rfl (by simp [hz_a2]) ?_
  refine ListK.assign (i := 3) (v := .int .i64 0) rfl (by simp) ?_
  refine ListK.done (hK _ _ (wpIn_ret ?_))
  rw [hT] at ob6
  exact bodyPost_ret (v := .tuple #[v6, .int .i64 0]) (res2n Try.results39 (by simp [hz_a2]) (by simp [hz_a2])) (by simp only [defers_put, hd_a2]) ⟨hB5.trans (ob6.low.mono hB5.size), v6, by rw [hz0], fun h => absurd hz0 h, fun _ => ob6.base hB5⟩
set_option maxHeartbeats 400000 in
theorem jn_b_any {L : List (List UInt8)} {a : Act} {W : World} (hgd : ∀ r, r ∈ m → isGood r = true) (hz0 : readC L = 0) (ht : takeUp [] (L.flatMap goods) = some m) (hml : m.length ≤ 1000) (hm0 : 0 < m.length) (har : ArchAt W2 ba M h m)
    (hsz : a.tmps.size = 40) (hd_a : a.defers = []) (t6 : a.eval (.tmp 6) = ptr ba) (t8 : a.eval (.tmp 8) = .slice none 0 0) (hB : Below W.heap.size W W2) :
    jn_b.wpIn Fence.wide 5 Try.prog (bodyPost Try.prog Try.f39 (JoinP W L)) a W2 := by
  have hltM := har.lt.2
  have hszW := hB.size
  obtain ⟨o, hrun, it⟩ := IterAt.new kl97 har.map
  unfold jn_b
  refine wpIn_seq (wpIn_seq (region_p 5 ?_))
  intro K hK
  refine ListK.move (i := 0) (v := .pointer (some ⟨ba, 0, none⟩)) rfl (by simp [t6]) ?_
  refine ListK.nilCheck (i := 1) (p := ⟨ba, 0, none⟩) rfl (by simp [hsz]) ?_
  refine ListK.field (i := 2) (u := .pointer (some ⟨ba, 0, none⟩)) (v := .pointer (some ⟨ba, 3, none⟩)) rfl (by simp [hsz]) (fa95_1 _) ?_
  refine ListK.load (i := 3) (p := ⟨ba, 3, none⟩) (v := .map (some M)) rfl (by simp [hsz]) (ld93m (har.whole.cell 3)) ?_
  refine ListK.range (i := 4) (u := .map (some M)) rfl (by simp [hsz]) hrun ?_
  refine ListK.done (hK _ _ ?_)
  clear hK K
  have hb1 : Below W2.heap.size W2 (W2.alloc o) := (Below.refl _ W2).alloc (Nat.le_refl _) _
  have or0 : OR (W2.alloc o).heap.size W2 (.slice none 0 0) [] (W2.alloc o) := OR.nil hb1 hb1.size (Nat.le_refl _)
  have hsz2 : (W2.alloc o).heap.size = W2.heap.size + 1 := by simp
  generalize hA : Act.put _ _ _ = a1
  have hz_a1 : a1.tmps.size = 40 := by rw [← hA]; simp only [size_put, hsz]
  have u8 : a1.eval (.tmp 8) = .slice none 0 0 := by rw [← hA]; exact (by simp [t8])
  have u26 : a1.eval (.tmp 26) = .pointer (some ⟨W2.heap.size, 0, none⟩) := by rw [← hA]; exact (by simp [hsz])
  have hd_a1 : a1.defers = [] := by rw [← hA]; simp only [defers_put, hd_a]
  clear hA
  refine wpIn_block (wpIn_loop (fun a W' => ∃ D v, IterAt nameV W' W2.heap.size M (recMap m) D ∧ OR (W2.alloc o).heap.size W2 v (D.map fun j => k7 (m.getD j [])) W' ∧ a.tmps.size = 40 ∧ a.defers = [] ∧ a.eval (.tmp 8) = v ∧ a.eval (.tmp 26) = ptr W2.heap.size) (fun _ W' => m.length - seenN W' W2.heap.size)
    ⟨[], _, it, or0, hz_a1, hd_a1, u8, u26⟩ ?_)
  rintro b1 W3 ⟨D, v, it2, or2, z2, d2, s8, s26⟩
  refine jn_l_any hgd hltM (Nat.le_refl _) (by omega) or2 (by simp) (by omega) it2 z2 d2 s8 s26 (fun a' W' v' j r hj hlt y0 yd y8 y26 or' it' => ?_) (fun a' hall y0 yd y8 => ?_)
  · refine ⟨⟨D ++ [j], v', it', ?_, y0, yd, y8, y26⟩, ?_⟩
    · have : m.getD j [] = r := by simp [List.getD, hj]
      rw [List.map_append, List.map_cons, List.map_nil, this]
      exact or'
    · rw [it'.seenN, it2.seenN]
      simp
      omega
  · show jn_e.wpIn _ _ _ _ _ _
    have hDl : D.length ≤ m.length := nodup_le m.length D it2.nd (fun i hi => by simpa [recMap] using it2.lt i hi)
    have hD0 : 0 < D.length := List.length_pos_of_mem (hall 0 hm0)
    have hgds : ∀ r, r ∈ L.flatMap goods → isGood r = true := fun r hr => by
      obtain ⟨l, _, h2⟩ := List.mem_flatMap.1 hr
      exact goods_good l r h2
    exact jn_e_any (fun l' hp hs => sort_is hgds ht it2.nd (fun i hi => by simpa [recMap] using it2.lt i hi) hall hp hs) hz0 or2 (by simpa using hD0) (by simp; omega) y0 yd y8 (hB.trans (or2.low.mono hB.size)) (by omega)
end
set_option maxHeartbeats 400000 in
theorem join_any (A A' : Option Addr) (c c' : Nat) (l l' : List UInt8) (W : World) (hc : l.length ≤ c) (hl : l.length ≤ 100000) (hs : BytesAt W W.heap.size A l) (hc' : l'.length ≤ c') (hl' : l'.length ≤ 100000) (hs' : BytesAt W W.heap.size A' l') :
    Calls Try.prog 39 #[.slice A l.length c, .slice A' l'.length c'] W (JoinP W [l, l']) := by
  refine (callsIn_wide (n := 5)).1 (callsIn_of_wp Try.func39 body39 trivial ?_ rfl)
  obtain ⟨a, ha⟩ : ∃ a : Act, a = { tmps := #[.slice A l.length c, .slice A' l'.length c'] ++ Array.replicate (Try.f39.ntmps - (#[.slice A l.length c, .slice A' l'.length c'] : Array Value).size) undef, defers := [] } := ⟨_, rfl⟩
  have hsz : a.tmps.size = 40 := by rw [ha]; simp [Try.ntmps39]
  have t0 : a.eval (.tmp 0) = .slice A l.length c := by rw [ha]; simp [Act.eval]
  have t1 : a.eval (.tmp 1) = .slice A' l'.length c' := by rw [ha]; simp [Act.eval]
  have hd_a : a.defers = [] := by rw [ha]
  rw [← ha]
  clear ha
  unfold code39
  refine wpIn_seq (region_p 2 ?_)
  intro K hK
  refine ListK.assign (i := 0) (v := .slice none 0 0) rfl (by simp) ?_
  refine ListK.assign (i := 1) (v := .int .i64 0) rfl (by simp) ?_
  refine ListK.done (hK _ _ ?_)
  clear hK K
  generalize hA : Act.put _ _ _ = a1
  have hz_a1 : a1.tmps.size = 40 := by rw [← hA]; simp only [size_put, hsz]
  have u0 : a1.eval (.tmp 0) = .slice A l.length c := by rw [← hA]; exact (by simp [t0])
  have u1 : a1.eval (.tmp 1) = .slice A' l'.length c' := by rw [← hA]; exact (by simp [t1])
  have hd_a1 : a1.defers = [] := by rw [← hA]; simp only [defers_put, hd_a]
  clear hA
  have hb1 : Below W.heap.size W (W.alloc (.cells #[.slice A l.length c, .slice A' l'.length c'] 31)) := (Below.refl _ W).alloc (Nat.le_refl _) _
  have hrd := read_any [l, l'] (some ⟨W.heap.size, 0, none⟩) 2 (by simp) _ (lists_two hc hl hs hc' hl' hs')
  refine wpIn_seq (region_p 9 ?_)
  intro K hK
  refine ListK.move (i := 0) (v := .slice A l.length c) rfl (by simp [u0]) ?_
  refine ListK.move (i := 1) (v := .slice A' l'.length c') rfl (by simp [u1]) ?_
  refine ListK.bsl (i := 2) (ps := #[(0, .slice A l.length c), (1, .slice A' l'.length c')]) (v := .slice (some ⟨W.heap.size, 0, none⟩) 2 2) rfl (by simp [hz_a1]) (bs124_2 _ _ _ _ _ _ W) ?_
  refine ListK.call (i := 3) (vs := #[.slice (some ⟨W.heap.size, 0, none⟩) 2 2]) rfl (enters_of Try.func58 (by kernel_rfl) rfl) (by simp [hz_a1]) ((hrd).mono ?_)
  rintro e W2 hrp
  obtain ⟨p, rfl, hb2, hok⟩ := hrp.val
  refine ⟨_, rfl, ?_⟩
  refine ListK.move (i := 4) (v := .tuple #[.pointer p, .int .i64 (readC [l, l'])]) rfl (by simp [hz_a1]) ?_
  refine ListK.extract (i := 5) (u := .tuple #[.pointer p, .int .i64 (readC [l, l'])]) (v := .pointer p) rfl (by simp [hz_a1]) (ex0 _ _ _) ?_
  refine ListK.extract (i := 6) (u := .tuple #[.pointer p, .int .i64 (readC [l, l'])]) (v := .int .i64 (readC [l, l'])) rfl (by simp [hz_a1]) (ex1 _ _ _) ?_
  refine ListK.assign (i := 7) (v := .pointer p) rfl (by simp [hz_a1]) ?_
  refine ListK.assign (i := 8) (v := .int .i64 (readC [l, l'])) rfl (by simp [hz_a1]) ?_
  refine ListK.done (hK _ _ ?_)
  clear hK K
  have hB := hb1.trans (hb2.mono hb1.size)
  generalize hA : Act.put _ _ _ = a2
  have hz_a2 : a2.tmps.size = 40 := by rw [← hA]; simp only [size_put, hz_a1]
  have v6 : a2.eval (.tmp 6) = .pointer p := by rw [← hA]; exact (by simp [hz_a1])
  have v7 : a2.eval (.tmp 7) = .int .i64 (readC [l, l']) := by rw [← hA]; exact (by simp [hz_a1])
  have hd_a2 : a2.defers = [] := by rw [← hA]; simp only [defers_put, hd_a1]
  clear hA
  by_cases hz : readC [l, l'] = 0
  · obtain ⟨b, M, hr, m, rfl, ht, hf, har, hgd, hno⟩ := hok hz
    have hm0 : 0 < m.length := List.length_pos_of_mem (find_mem hf).1
    have hml : m.length ≤ 1000 := by
      have h4 : ∀ x, x ∈ [l, l'] → x.length ≤ 4000 := by
        intro x hx
        by_cases hbg : 4000 < x.length
        · have : [l, l'].any (fun l => decide (4000 < l.length)) = true := List.any_eq_true.2 ⟨x, hx, decide_eq_true hbg⟩
          unfold readC at hz
          rw [if_pos this] at hz
          cases hz
        · omega
      have h1 := takeUp_len _ [] m ht
      have h5 := goods_8 l
      have h6 := goods_8 l'
      have h7 := h4 l (by simp)
      have h8 := h4 l' (by simp)
      simp only [List.flatMap_cons, List.flatMap_nil, List.append_nil, List.length_append, List.length_nil] at h1
      omega
    refine wpIn_seq (wpIn_seq (region_p 2 ?_))
    intro K hK
    refine ListK.move (i := 0) (v := .int .i64 (readC [l, l'])) rfl (by simp [v7]) ?_
    refine ListK.bin (i := 1) (u := .int .i64 (readC [l, l'])) (u' := .int .i64 0) (v := .bool false) rfl (by simp [hz_a2]) (by simp) (neq27F hz _) ?_
    refine ListK.done (hK _ _ ?_)
    clear hK K
    refine wpIn_cond (t := false) (by simp [hz_a2]) (wpIn_skip ?_)
    refine wpIn_seq (region_p 1 ?_)
    intro K hK
    refine ListK.assign (i := 0) (v := .slice none 0 0) rfl (by simp) ?_
    refine ListK.done (hK _ _ ?_)
    clear hK K
    show jn_b.wpIn _ _ _ _ _ _
    exact jn_b_any hgd hz ht hml hm0 har (by simp only [size_put, hz_a2]) (by simp only [defers_put, hd_a2]) (by simp [v6]) (by simp [hz_a2]) hB
  · skip
    refine wpIn_seq (wpIn_seq (region_p 2 ?_))
    intro K hK
    refine ListK.move (i := 0) (v := .int .i64 (readC [l, l'])) rfl (by simp [v7]) ?_
    refine ListK.bin (i := 1) (u := .int .i64 (readC [l, l'])) (u' := .int .i64 0) (v := .bool true) rfl (by simp [hz_a2]) (by simp) (neq27T hz _) ?_
    refine ListK.done (hK _ _ ?_)
    clear hK K
    refine wpIn_cond (t := true) (by simp [hz_a2]) ?_
    refine wpIn_seq (region_p 3 ?_)
    intro K hK
    refine ListK.move (i := 0) (v := .int .i64 (readC [l, l'])) rfl (by simp [v7]) ?_
    refine ListK.assign (i := 1) (v := .slice none 0 0) rfl (by simp) ?_
    refine ListK.assign (i := 2) (v := .int .i64 (readC [l, l'])) rfl (by simp [hz_a2]) ?_
    refine ListK.done (hK _ _ (wpIn_ret ?_))
    exact bodyPost_ret (v := .tuple #[.slice none 0 0, .int .i64 (readC [l, l'])]) (res2n Try.results39 (by simp [hz_a2]) (by simp [hz_a2])) (by simp only [defers_put, hd_a2]) ⟨hB, _, rfl, fun _ => rfl, fun h => absurd h hz⟩
end Go.Proofs.YtmdlmmfbcnkanaaR
namespace Go.Proofs.YtmdlmmfbcnkanaaR
open Go.RowKit Go.Shelf
theorem ba_extract (l : List UInt8) (a b : Nat) : (⟨l.toArray⟩ : ByteArray).extract a b = ⟨((l.drop a).take (b - a)).toArray⟩ := by
  apply ByteArray.ext
  simp
theorem sl9B {l : List UInt8} {a b : Nat} (h : a ≤ b) (h2 : b ≤ l.length) (w : World) : (Instr.sliceAt 9 (strV l) (some (.int .i64 (a : Int))) (some (.int .i64 (b : Int))) none).run Try.prog w = .ok (strV ((l.drop a).take (b - a))) w := by
  go_simp
  rw [ba_extract]
theorem sl9L {l : List UInt8} {a : Nat} (h : a ≤ l.length) (w : World) : (Instr.sliceAt 9 (strV l) (some (.int .i64 (a : Int))) none none).run Try.prog w = .ok (strV (l.drop a)) w := by
  go_simp
  rw [ba_extract]
  have : (l.drop a).take (l.length - a) = l.drop a := by rw [← List.length_drop, List.take_length]
  simp [this]
theorem sl9H {l : List UInt8} {a : Nat} (h : a ≤ l.length) (w : World) : (Instr.sliceAt 9 (strV l) none (some (.int .i64 (a : Int))) none).run Try.prog w = .ok (strV (l.take a)) w := by
  go_simp
  rw [ba_extract]
  simp
theorem ListK.sliceLH {P : Program} {ops : Array Oper} {K : Act → World → Prop} {k i d : Nat} {a : Act} {w : World} {ty : TypeId} {pos : String} {aft : Array Edge} {gd : Option (Nat × Bool)} {t : TypeId} {x y z : Operand} {u u' u'' v : Value} (hi : ops[i]? = some ⟨some d, .slice t x (some y) (some z) none, ty, pos, aft, gd⟩) (hx : a.eval x = u) (hy : a.eval y = u') (hz : a.eval z = u'') (hv : (Instr.sliceAt t u (some u') (some u'') none).run P w = .ok v w)
    (h : ListK P ops K k (i + 1) (a.put (some d) v) w) (hw : Region.wanted ⟨some d, .slice t x (some y) (some z) none, ty, pos, aft, gd⟩ (yielded ops a.tmps) = true := by rfl) : ListK P ops K (k + 1) i a w := ListK.valW hi hw (by simp [execOp, hx, hy, hz, hv]) h
theorem eql5n {x y : Operand} (a b : UInt8) (w : World) : (do eqGuard .eql 5 x y (u8V a) (u8V b); binOp .eql 5 (u8V a) (u8V b) : Sem Value).run Try.prog w = .ok (.bool (decide (a = b))) w := by
  go_simp
  by_cases h : a = b
  · simp [h]
  · have : ¬ (a.toNat : Int) = b.toNat := fun e => h (UInt8.toNat_inj.1 (by omega))
    simp [h, this]
theorem neq5n {x y : Operand} (a b : UInt8) (w : World) : (do eqGuard .neq 5 x y (u8V a) (u8V b); binOp .neq 5 (u8V a) (u8V b) : Sem Value).run Try.prog w = .ok (.bool (!decide (a = b))) w := by
  go_simp
  by_cases h : a = b
  · simp [h]
  · have : ¬ (a.toNat : Int) = b.toNat := fun e => h (UInt8.toNat_inj.1 (by omega))
    simp [h, this]
theorem lss5n {x y : Operand} (a : UInt8) (n : Int) (w : World) : (do eqGuard .lss 5 x y (u8V a) (.int .u8 n); binOp .lss 5 (u8V a) (.int .u8 n) : Sem Value).run Try.prog w = .ok (.bool (decide ((a.toNat : Int) < n))) w := by go_simp
theorem gtr5n {x y : Operand} (a : UInt8) (n : Int) (w : World) : (do eqGuard .gtr 5 x y (u8V a) (.int .u8 n); binOp .gtr 5 (u8V a) (.int .u8 n) : Sem Value).run Try.prog w = .ok (.bool (decide (n < (a.toNat : Int)))) w := by go_simp
theorem eql9n {x y : Operand} (l k : List UInt8) (w : World) : (do eqGuard .eql 9 x y (strV l) (strV k); binOp .eql 9 (strV l) (strV k) : Sem Value).run Try.prog w = .ok (.bool (decide (l = k))) w := by
  go_simp
  by_cases h : l = k
  · simp [h]
  · simp [h]
theorem neq9n {x y : Operand} (l k : List UInt8) (w : World) : (do eqGuard .neq 9 x y (strV l) (strV k); binOp .neq 9 (strV l) (strV k) : Sem Value).run Try.prog w = .ok (.bool (!decide (l = k))) w := by
  go_simp
  by_cases h : l = k
  · simp [h]
  · simp [h]
theorem pieces_cons (acc : List UInt8) (b : UInt8) (l : List UInt8) : pieces acc (b :: l) = if b = 10 then acc :: pieces [] l else pieces (acc ++ [b]) l := by rw [pieces]
noncomputable def opsPc0 : Array Oper := (Try.f33.body.bind (regionOf 0)).getD #[]
noncomputable def opsPc1 : Array Oper := (Try.f33.body.bind (regionOf 1)).getD #[]
noncomputable def opsPc2 : Array Oper := (Try.f33.body.bind (regionOf 2)).getD #[]
noncomputable def opsPc3 : Array Oper := (Try.f33.body.bind (regionOf 3)).getD #[]
noncomputable def opsPc4 : Array Oper := (Try.f33.body.bind (regionOf 4)).getD #[]
noncomputable def opsPc5 : Array Oper := (Try.f33.body.bind (regionOf 5)).getD #[]
noncomputable def opsPc6 : Array Oper := (Try.f33.body.bind (regionOf 6)).getD #[]
noncomputable def opsPc7 : Array Oper := (Try.f33.body.bind (regionOf 7)).getD #[]
noncomputable def opsPc8 : Array Oper := (Try.f33.body.bind (regionOf 8)).getD #[]
noncomputable def opsPc9 : Array Oper := (Try.f33.body.bind (regionOf 9)).getD #[]
noncomputable def pc_l : Code := (.seq (.seq (.region 4 opsPc4 false) (.cond (.tmp 9) .skip (.exit 0))) (.seq (.block 1 (.seq (.region 6 opsPc6 false) (.cond (.tmp 15) (.seq (.region 7 opsPc7 false) (.region 8 opsPc8 false)) .skip))) (.region 5 opsPc5 false)))
noncomputable def code33 : Code := (.seq (.region 0 opsPc0 false) (.seq (.region 1 opsPc1 false) (.seq (.region 2 opsPc2 false) (.seq (.seq (.region 3 opsPc3 false) (.block 0 (.loop pc_l))) (.seq (.region 9 opsPc9 false) .ret)))))
theorem body33 : Try.f33.body = some code33 := by kernel_rfl
set_option maxHeartbeats 400000 in
theorem refPieces_any (l : List UInt8) (hl : l.length ≤ 90000) (W : World) : Calls Try.prog 33 #[strV l] W (fun e w' => ∃ v, e = .returned v ∧ OS W v (pieces [] l) w') := by
  refine (callsIn_wide (n := 5)).1 (callsIn_of_wp Try.func33 body33 trivial ?_ rfl)
  obtain ⟨a, ha⟩ : ∃ a : Act, a = { tmps := #[strV l] ++ Array.replicate (Try.f33.ntmps - (#[strV l] : Array Value).size) undef, defers := [] } := ⟨_, rfl⟩
  have hsz : a.tmps.size = 26 := by rw [ha]; simp [Try.ntmps33]
  have t0 : a.eval (.tmp 0) = strV l := by rw [ha]; simp [Act.eval]
  have hd_a : a.defers = [] := by rw [ha]
  rw [← ha]
  clear ha
  unfold code33
  refine wpIn_seq (region_p 1 ?_)
  intro K hK
  refine ListK.assign (i := 0) (v := .slice none 0 0) rfl (by simp) ?_
  refine ListK.done (hK _ _ ?_)
  clear hK K
  refine wpIn_seq (region_p 1 ?_)
  intro K hK
  refine ListK.assign (i := 0) (v := .slice none 0 0) rfl (by simp) ?_
  refine ListK.done (hK _ _ ?_)
  clear hK K
  refine wpIn_seq (region_p 1 ?_)
  intro K hK
  refine ListK.assign (i := 0) (v := .int .i64 0) rfl (by simp) ?_
  refine ListK.done (hK _ _ ?_)
  clear hK K
  generalize hA : Act.put _ _ _ = a1
  have hz_a1 : a1.tmps.size = 26 := by rw [← hA]; simp only [size_put, hsz]
  have u0 : a1.eval (.tmp 0) = strV l := by rw [← hA]; exact (by simp [t0])
  have u3 : a1.eval (.tmp 3) = .slice none 0 0 := by rw [← hA]; exact (by simp [hsz])
  have u4 : a1.eval (.tmp 4) = .int .i64 0 := by rw [← hA]; exact (by simp [hsz])
  have hd_a1 : a1.defers = [] := by rw [← hA]; simp only [defers_put, hd_a]
  clear hA
  refine wpIn_seq (wpIn_seq (region_p 1 ?_))
  intro K hK
  refine ListK.assign (i := 0) (v := .int .i64 0) rfl (by simp) ?_
  refine ListK.done (hK _ _ ?_)
  clear hK K
  generalize hA : Act.put _ _ _ = a2
  have hz_a2 : a2.tmps.size = 26 := by rw [← hA]; simp only [size_put, hz_a1]
  have v0 : a2.eval (.tmp 0) = strV l := by rw [← hA]; exact (by simp [u0])
  have v3 : a2.eval (.tmp 3) = .slice none 0 0 := by rw [← hA]; exact (by simp [u3])
  have v4 : a2.eval (.tmp 4) = .int .i64 0 := by rw [← hA]; exact (by simp [u4])
  have v5 : a2.eval (.tmp 5) = .int .i64 0 := by rw [← hA]; exact (by simp [hz_a1])
  have hd_a2 : a2.defers = [] := by rw [← hA]; simp only [defers_put, hd_a1]
  clear hA
  refine wpIn_block (wpIn_loop (fun a W' => ∃ (i fr : Nat) (v : Value) (O : List (List UInt8)), i ≤ l.length ∧ fr ≤ i ∧ O.length ≤ i ∧ O ++ pieces ((l.drop fr).take (i - fr)) (l.drop i) = pieces [] l ∧ OS W v O W' ∧ a.tmps.size = 26 ∧ a.defers = [] ∧ a.eval (.tmp 0) = strV l ∧ a.eval (.tmp 3) = v ∧ a.eval (.tmp 4) = .int .i64 (fr : Int) ∧ a.eval (.tmp 5) = .int .i64 (i : Int)) (fun a _ => l.length - (intOf (a.eval (.tmp 5))).toNat)
    ⟨0, 0, _, [], Nat.zero_le _, Nat.le_refl _, Nat.le_refl _, by simp, ⟨Below.refl _ _, rfl, .inl ⟨rfl, rfl⟩⟩, hz_a2, hd_a2, v0, v3, v4, v5⟩ ?_)
  rintro b1 W1 ⟨i, fr, v, O, hi, hfr, hO, hpc, os, hz_b1, hd_b1, s0, s3, s4, s5⟩
  unfold pc_l
  by_cases hlt : i < l.length
  · skip
    refine wpIn_seq (wpIn_seq (region_p 4 ?_))
    intro K hK
    refine ListK.move (i := 0) (v := .int .i64 (i : Int)) rfl (by simp [s5]) ?_
    refine ListK.move (i := 1) (v := strV l) rfl (by simp [s0]) ?_
    refine ListK.lenW (i := 2) (u := strV l) (v := .int .i64 (l.length : Int)) rfl (by simp [hz_b1]) (ln9 _ _ _) rfl ?_
    refine ListK.bin (i := 3) (u := .int .i64 (i : Int)) (u' := .int .i64 (l.length : Int)) (v := .bool true) rfl (by simp [hz_b1]) (by simp [hz_b1]) (lssT3 (by omega) _) ?_
    refine ListK.done (hK _ _ ?_)
    clear hK K
    refine wpIn_cond (t := true) (by simp [hz_b1]) (wpIn_skip ?_)
    generalize hA : Act.put _ _ _ = b2
    have hz_b2 : b2.tmps.size = 26 := by rw [← hA]; simp only [size_put, hz_b1]
    have o0 : b2.eval (.tmp 0) = strV l := by rw [← hA]; exact (by simp [s0])
    have o3 : b2.eval (.tmp 3) = v := by rw [← hA]; exact (by simp [s3])
    have o4 : b2.eval (.tmp 4) = .int .i64 (fr : Int) := by rw [← hA]; exact (by simp [s4])
    have o5 : b2.eval (.tmp 5) = .int .i64 (i : Int) := by rw [← hA]; exact (by simp [s5])
    have hd_b2 : b2.defers = [] := by rw [← hA]; simp only [defers_put, hd_b1]
    clear hA
    have hx := List.getElem?_eq_getElem hlt
    have hdr : l.drop i = l[i] :: l.drop (i + 1) := List.drop_eq_getElem_cons hlt
    have hgo : ∀ (fr' : Nat) (v' : Value) (O' : List (List UInt8)) (b : Act) (W' : World), fr' ≤ i + 1 → O'.length ≤ i + 1 → O' ++ pieces ((l.drop fr').take (i + 1 - fr')) (l.drop (i + 1)) = pieces [] l → OS W v' O' W' → b.tmps.size = 26 → b.defers = [] → b.eval (.tmp 0) = strV l → b.eval (.tmp 3) = v' → b.eval (.tmp 4) = .int .i64 (fr' : Int) → b.eval (.tmp 5) = .int .i64 (i : Int) →
        (Code.region 5 opsPc5 false).wpIn Fence.wide 5 Try.prog (fun e a' w' => (e = .normal ∧ (∃ (i fr : Nat) (v : Value) (O : List (List UInt8)), i ≤ l.length ∧ fr ≤ i ∧ O.length ≤ i ∧ O ++ pieces ((l.drop fr).take (i - fr)) (l.drop i) = pieces [] l ∧ OS W v O w' ∧ a'.tmps.size = 26 ∧ a'.defers = [] ∧ a'.eval (.tmp 0) = strV l ∧ a'.eval (.tmp 3) = v ∧ a'.eval (.tmp 4) = .int .i64 (fr : Int) ∧ a'.eval (.tmp 5) = .int .i64 (i : Int)) ∧ l.length - (intOf (a'.eval (.tmp 5))).toNat < l.length - (intOf (b1.eval (.tmp 5))).toNat)) b W' := by
      intro fr' v' O' b W' h1 h2 h3 os' hz_b hd_b p0 p3 p4 p5
      refine region_p 3 ?_
      intro K hK
      refine ListK.move (i := 0) (v := .int .i64 (i : Int)) rfl (by simp [p5]) ?_
      refine ListK.bin (i := 1) (u := .int .i64 (i : Int)) (u' := .int .i64 1) (v := .int .i64 ((i + 1 : Nat) : Int)) rfl (by simp [hz_b]) (by simp) (add3 (by omega) (by omega) _) ?_
      refine ListK.assign (i := 2) (v := .int .i64 ((i + 1 : Nat) : Int)) rfl (by simp [hz_b]) ?_
      refine ListK.done (hK _ _ ?_)
      clear hK K
      refine ⟨rfl, ⟨i + 1, fr', v', O', by omega, h1, h2, h3, os', (by simp only [size_put, hz_b]), (by simp only [defers_put, hd_b]), (by simp [p0]), (by simp [p3]), (by simp [p4]), (by simp [hz_b])⟩, ?_⟩
      rw [s5, show (Act.put _ _ _).eval (.tmp 5) = .int .i64 ((i + 1 : Nat) : Int) from (by simp [hz_b])]
      simp only [intOf]
      omega
    rw [hdr, pieces_cons] at hpc
    refine wpIn_seq (wpIn_block ?_)
    by_cases h10 : l[i] = 10
    · rw [if_pos h10] at hpc
      refine wpIn_seq (region_p 4 ?_)
      intro K hK
      refine ListK.move (i := 0) (v := strV l) rfl (by simp [o0]) ?_
      refine ListK.move (i := 1) (v := .int .i64 (i : Int)) rfl (by simp [o5]) ?_
      refine ListK.indexV (i := 2) (u := strV l) (u' := .int .i64 (i : Int)) (v := u8V l[i]) rfl (by simp [hz_b2]) (by simp [hz_b2]) (ix9 hx _) ?_
      refine ListK.bin (i := 3) (u := u8V l[i]) (u' := .int .u8 10) (v := .bool true) rfl (by simp [hz_b2]) (by simp) (by rw [← decide_eq_true h10]; exact eql5n _ 10 _) ?_
      refine ListK.done (hK _ _ ?_)
      clear hK K
      refine wpIn_cond (t := true) (by simp [hz_b2]) ?_
      generalize hA : Act.put _ _ _ = b3
      have hz_b3 : b3.tmps.size = 26 := by rw [← hA]; simp only [size_put, hz_b2]
      have x0 : b3.eval (.tmp 0) = strV l := by rw [← hA]; exact (by simp [o0])
      have x3 : b3.eval (.tmp 3) = v := by rw [← hA]; exact (by simp [o3])
      have x4 : b3.eval (.tmp 4) = .int .i64 (fr : Int) := by rw [← hA]; exact (by simp [o4])
      have x5 : b3.eval (.tmp 5) = .int .i64 (i : Int) := by rw [← hA]; exact (by simp [o5])
      have hd_b3 : b3.defers = [] := by rw [← hA]; simp only [defers_put, hd_b2]
      clear hA
      obtain ⟨v4, W4, hap4, os4⟩ := app36_run (l := (l.drop fr).take (i - fr)) (b := W1.heap.size) (c := 1) (ty := 36) (os.below ((Below.refl W1.heap.size W1).alloc (Nat.le_refl _) (.cells #[strV ((l.drop fr).take (i - fr))] 9))) ((Whole.new W1 9 #[strV ((l.drop fr).take (i - fr))]).cell 0) (by omega)
      refine wpIn_seq (region_p 8 ?_)
      intro K hK
      refine ListK.move (i := 0) (v := v) rfl (by simp [x3]) ?_
      refine ListK.move (i := 1) (v := strV l) rfl (by simp [x0]) ?_
      refine ListK.move (i := 2) (v := .int .i64 (fr : Int)) rfl (by simp [x4]) ?_
      refine ListK.move (i := 3) (v := .int .i64 (i : Int)) rfl (by simp [x5]) ?_
      refine ListK.sliceLH (i := 4) (u := strV l) (u' := .int .i64 (fr : Int)) (u'' := .int .i64 (i : Int)) (v := strV ((l.drop fr).take (i - fr))) rfl (by simp [hz_b3]) (by simp [hz_b3]) (by simp [hz_b3]) (sl9B hfr hi _) ?_
      refine ListK.bsl (i := 5) (ps := #[(0, strV ((l.drop fr).take (i - fr)))]) (v := .slice (some ⟨W1.heap.size, 0, none⟩) 1 1) rfl (by simp [hz_b3]) (bs36_1 _ W1) ?_
      refine ListK.app36 (i := 6) rfl (by simp [hz_b3]) (by simp [hz_b3]) hap4 ?_
      refine ListK.assign (i := 7) (v := v4) rfl (by simp [hz_b3]) ?_
      refine ListK.done (hK _ _ ?_)
      clear hK K
      generalize hA : Act.put _ _ _ = b4
      have hz_b4 : b4.tmps.size = 26 := by rw [← hA]; simp only [size_put, hz_b3]
      have y0 : b4.eval (.tmp 0) = strV l := by rw [← hA]; exact (by simp [x0])
      have y3 : b4.eval (.tmp 3) = v4 := by rw [← hA]; exact (by simp [hz_b3])
      have y5 : b4.eval (.tmp 5) = .int .i64 (i : Int) := by rw [← hA]; exact (by simp [x5])
      have hd_b4 : b4.defers = [] := by rw [← hA]; simp only [defers_put, hd_b3]
      clear hA
      refine region_p 3 ?_
      intro K hK
      refine ListK.move (i := 0) (v := .int .i64 (i : Int)) rfl (by simp [y5]) ?_
      refine ListK.bin (i := 1) (u := .int .i64 (i : Int)) (u' := .int .i64 1) (v := .int .i64 ((i + 1 : Nat) : Int)) rfl (by simp [hz_b4]) (by simp) (add3 (by omega) (by omega) _) ?_
      refine ListK.assign (i := 2) (v := .int .i64 ((i + 1 : Nat) : Int)) rfl (by simp [hz_b4]) ?_
      refine ListK.done (hK _ _ ?_)
      clear hK K
      refine Go.Code.wpIn_mono (fun e a'' w'' hq => ?_) (hgo (i + 1) v4 (O ++ [(l.drop fr).take (i - fr)]) _ W4 (Nat.le_refl _) (by simp; omega) (by rw [List.append_assoc]; simpa using hpc) os4 (by simp only [size_put, hz_b4]) (by simp only [defers_put, hd_b4]) (by simp [y0]) (by simp [y3]) (by simp [hz_b4]) (by simp [y5]))
      obtain ⟨rfl, h1, h2⟩ := hq
      exact ⟨h1, h2⟩
    · rw [if_neg h10] at hpc
      refine wpIn_seq (region_p 4 ?_)
      intro K hK
      refine ListK.move (i := 0) (v := strV l) rfl (by simp [o0]) ?_
      refine ListK.move (i := 1) (v := .int .i64 (i : Int)) rfl (by simp [o5]) ?_
      refine ListK.indexV (i := 2) (u := strV l) (u' := .int .i64 (i : Int)) (v := u8V l[i]) rfl (by simp [hz_b2]) (by simp [hz_b2]) (ix9 hx _) ?_
      refine ListK.bin (i := 3) (u := u8V l[i]) (u' := .int .u8 10) (v := .bool false) rfl (by simp [hz_b2]) (by simp) (by rw [← decide_eq_false h10]; exact eql5n _ 10 _) ?_
      refine ListK.done (hK _ _ ?_)
      clear hK K
      refine wpIn_cond (t := false) (by simp [hz_b2]) (wpIn_skip ?_)
      have hacc : (l.drop fr).take (i + 1 - fr) = (l.drop fr).take (i - fr) ++ [l[i]] := by
        rw [show i + 1 - fr = (i - fr) + 1 by omega, List.take_add_one, List.getElem?_drop, show fr + (i - fr) = i by omega, hx]
        rfl
      refine Go.Code.wpIn_mono (fun e a'' w'' hq => ?_) (hgo fr v O _ W1 (by omega) (by omega) (by rw [hacc]; exact hpc) os (by simp only [size_put, hz_b2]) (by simp only [defers_put, hd_b2]) (by simp [o0]) (by simp [o3]) (by simp [o4]) (by simp [o5]))
      obtain ⟨rfl, h1, h2⟩ := hq
      exact ⟨h1, h2⟩
  · have hie : i = l.length := by omega
    refine wpIn_seq (wpIn_seq (region_p 4 ?_))
    intro K hK
    refine ListK.move (i := 0) (v := .int .i64 (i : Int)) rfl (by simp [s5]) ?_
    refine ListK.move (i := 1) (v := strV l) rfl (by simp [s0]) ?_
    refine ListK.lenW (i := 2) (u := strV l) (v := .int .i64 (l.length : Int)) rfl (by simp [hz_b1]) (ln9 _ _ _) rfl ?_
    refine ListK.bin (i := 3) (u := .int .i64 (i : Int)) (u' := .int .i64 (l.length : Int)) (v := .bool false) rfl (by simp [hz_b1]) (by simp [hz_b1]) (lssF3 (by omega) _) ?_
    refine ListK.done (hK _ _ ?_)
    clear hK K
    refine wpIn_cond (t := false) (by simp [hz_b1]) (wpIn_exit ?_)
    show (Code.wpIn _ _ _ (Code.seq _ _) _ _ _)
    rw [hie, List.drop_length] at hpc
    simp [pieces] at hpc
    rw [← hpc]
    refine wpIn_seq (region_p 2 ?_)
    intro K hK
    refine ListK.move (i := 0) (v := v) rfl (by simp [s3]) ?_
    refine ListK.assign (i := 1) (v := v) rfl (by simp [hz_b1]) ?_
    refine ListK.done (hK _ _ (wpIn_ret ?_))
    exact bodyPost_ret (v := v) (res1 Try.results33 (by simp [hz_b1])) (by simp only [defers_put, hd_b1]) ⟨v, rfl, os⟩
end Go.Proofs.YtmdlmmfbcnkanaaR
namespace Go.Proofs.YtmdlmmfbcnkanaaR
open Go.RowKit Go.Shelf
theorem mul10 {x y : Operand} {n : Nat} (h : n ≤ 100000) (w : World) : (do eqGuard .mul 3 x y (.int .i64 10) (.int .i64 (n : Int)); binOp .mul 3 (.int .i64 10) (.int .i64 (n : Int)) : Sem Value).run Try.prog w = .ok (.int .i64 ((10 * n : Nat) : Int)) w := by
  have h2 := IntWalk.i64_in (10 * (n : Int)) (by omega)
  go_simp
theorem ListK.indexVW {P : Program} {ops : Array Oper} {K : Act → World → Prop} {k i d : Nat} {a : Act} {w : World} {ty : TypeId} {pos : String} {aft : Array Edge} {gd : Option (Nat × Bool)} {v : Value} {t : TypeId} {x y : Operand} {u u' : Value} (hi : ops[i]? = some ⟨some d, .index t x y, ty, pos, aft, gd⟩) (hx : a.eval x = u) (hy : a.eval y = u') (hv : (Instr.index t u u').run P w = .ok v w)
    (h : ListK P ops K k (i + 1) (a.put (some d) v) w) (hw : Region.wanted ⟨some d, .index t x y, ty, pos, aft, gd⟩ (yielded ops a.tmps) = true := by rfl) : ListK P ops K (k + 1) i a w := ListK.valW hi hw (by simp [execOp, hx, hy, hv]) h
noncomputable def opsNu0 : Array Oper := (Try.f65.body.bind (regionOf 0)).getD #[]
noncomputable def opsNu1 : Array Oper := (Try.f65.body.bind (regionOf 1)).getD #[]
noncomputable def code65 : Code := (.seq (.region 0 opsNu0 false) (.seq (.region 1 opsNu1 true) .ret))
theorem body65 : Try.f65.body = some code65 := by kernel_rfl
section
attribute [local irreducible] AnyK StepK
set_option maxHeartbeats 400000 in
theorem num_any (l : List UInt8) (k : Nat) (b c : UInt8) (hb : l[k]? = some b) (hc : l[k + 1]? = some c) (hk : k ≤ 1000) (W : World) : Calls Try.prog 65 #[strV l, .int .i64 (k : Int)] W (EvP W (.int .i64 (num2 b c : Int))) := by
  have d1 := dig_lt b
  have d2 := dig_lt c
  have hn2 : num2 b c = 10 * dig b + dig c := rfl
  refine (callsIn_wide (n := 5)).1 (callsIn_of_wp Try.func65 body65 trivial ?_ rfl)
  obtain ⟨a, ha⟩ : ∃ a : Act, a = { tmps := #[strV l, .int .i64 (k : Int)] ++ Array.replicate (Try.f65.ntmps - (#[strV l, .int .i64 (k : Int)] : Array Value).size) undef, defers := [] } := ⟨_, rfl⟩
  have hsz : a.tmps.size = 18 := by rw [ha]; simp [Try.ntmps65]
  have t0 : a.eval (.tmp 0) = strV l := by rw [ha]; simp [Act.eval]
  have t1 : a.eval (.tmp 1) = .int .i64 (k : Int) := by rw [ha]; simp [Act.eval]
  have hd_a : a.defers = [] := by rw [ha]
  rw [← ha]
  clear ha
  unfold code65
  refine wpIn_seq (region_p 1 ?_)
  intro K hK
  refine ListK.assign (i := 0) (v := .int .i64 0) rfl (by simp) ?_
  refine ListK.done (hK _ _ ?_)
  clear hK K
  generalize hA : Act.put _ _ _ = a1
  have hz_a1 : a1.tmps.size = 18 := by rw [← hA]; simp only [size_put, hsz]
  have u0 : a1.eval (.tmp 0) = strV l := by rw [← hA]; exact (by simp [t0])
  have u1 : a1.eval (.tmp 1) = .int .i64 (k : Int) := by rw [← hA]; exact (by simp [t1])
  have hd_a1 : a1.defers = [] := by rw [← hA]; simp only [defers_put, hd_a]
  clear hA
  refine wpIn_seq (region_K (KpR (fun w : World => Below W.heap.size W w) (fun _ => false)) (wideF_plain _) (by kernel_rfl) Try.mixed ?_)
  change AnyK _ _ _ _ 14 (Array.replicate 14 false) _ _
  have hR : (fun w : World => Below W.heap.size W w) W.drew := (Below.refl W.heap.size W).drew
  refine AnyK.move (i := 0) may_o (v := strV l) (by simp [u0]) hR ?_
  refine AnyK.move (i := 1) may_o (v := .int .i64 (k : Int)) (by simp [u1]) hR ?_
  refine AnyK.indexV (i := 2) may_o (u := strV l) (u' := .int .i64 (k : Int)) (v := u8V b) (by simp [hz_a1]) (by simp [hz_a1]) (fun w => ix9 hb w) hR ?_
  refine AnyK.bin (i := 3) may_o (u := u8V b) (u' := .int .u8 48) (v := .int .u8 (dig b : Int)) (by simp [hz_a1]) (by simp) (fun w => subu8 b w) hR ?_
  refine AnyK.conv (i := 4) may_o (u := .int .u8 (dig b : Int)) (v := .int .i64 (dig b : Int)) (by simp [hz_a1]) (fun w => cv53 (by omega) (by omega) w) hR ?_
  refine AnyK.bin (i := 5) may_o (u := .int .i64 (10)) (u' := .int .i64 (dig b : Int)) (v := .int .i64 ((10 * dig b : Nat) : Int)) (by simp) (by simp [hz_a1]) (fun w => mul10 (by omega) w) hR ?_
  refine AnyK.move (i := 6) may_o (v := strV l) (by simp [u0]) hR ?_
  refine AnyK.move (i := 7) may_o (v := .int .i64 (k : Int)) (by simp [u1]) hR ?_
  refine AnyK.bin (i := 8) may_o (u := .int .i64 (k : Int)) (u' := .int .i64 (1)) (v := .int .i64 ((k + 1 : Nat) : Int)) (by simp [hz_a1]) (by simp) (fun w => add3 (by omega) (by omega) w) hR ?_
  refine AnyK.indexV (i := 9) may_o (u := strV l) (u' := .int .i64 ((k + 1 : Nat) : Int)) (v := u8V c) (by simp [hz_a1]) (by simp [hz_a1]) (fun w => ix9 hc w) hR ?_
  refine AnyK.bin (i := 10) may_o (u := u8V c) (u' := .int .u8 48) (v := .int .u8 (dig c : Int)) (by simp [hz_a1]) (by simp) (fun w => subu8 c w) hR ?_
  refine AnyK.conv (i := 11) may_o (u := .int .u8 (dig c : Int)) (v := .int .i64 (dig c : Int)) (by simp [hz_a1]) (fun w => cv53 (by omega) (by omega) w) hR ?_
  refine AnyK.bin (i := 12) may_o (u := .int .i64 ((10 * dig b : Nat) : Int)) (u' := .int .i64 (dig c : Int)) (v := .int .i64 (num2 b c : Int)) (by simp [hz_a1]) (by simp [hz_a1]) (fun w => add3e (by omega) (by omega) (by omega) w) hR ?_
  refine AnyK.assign (i := 13) may_o (v := .int .i64 (num2 b c : Int)) (by simp [hz_a1]) hR ?_
  refine AnyK.done (by kernel_rfl) ?_
  refine wpIn_ret ?_
  exact bodyPost_ret (v := .int .i64 (num2 b c : Int)) (res1 Try.results65 (by simp [hz_a1])) (by simp only [defers_put, hd_a1]) ⟨rfl, hR⟩
end
noncomputable def opsIg0 : Array Oper := (Try.f60.body.bind (regionOf 0)).getD #[]
noncomputable def opsIg1 : Array Oper := (Try.f60.body.bind (regionOf 1)).getD #[]
noncomputable def opsIg2 : Array Oper := (Try.f60.body.bind (regionOf 2)).getD #[]
noncomputable def opsIg3 : Array Oper := (Try.f60.body.bind (regionOf 3)).getD #[]
noncomputable def opsIg4 : Array Oper := (Try.f60.body.bind (regionOf 4)).getD #[]
noncomputable def opsIg5 : Array Oper := (Try.f60.body.bind (regionOf 5)).getD #[]
noncomputable def opsIg6 : Array Oper := (Try.f60.body.bind (regionOf 6)).getD #[]
noncomputable def opsIg7 : Array Oper := (Try.f60.body.bind (regionOf 7)).getD #[]
noncomputable def opsIg8 : Array Oper := (Try.f60.body.bind (regionOf 8)).getD #[]
noncomputable def opsIg9 : Array Oper := (Try.f60.body.bind (regionOf 9)).getD #[]
noncomputable def opsIg10 : Array Oper := (Try.f60.body.bind (regionOf 10)).getD #[]
noncomputable def ig_l : Code := (.seq (.seq (.region 4 opsIg4 false) (.cond (.tmp 23) .skip (.exit 0))) (.seq (.block 1 (.seq (.region 6 opsIg6 false) (.cond (.tmp 35) (.seq (.region 7 opsIg7 false) .ret) .skip))) (.region 5 opsIg5 false)))
noncomputable def ig_e : Code := (.seq (.region 10 opsIg10 false) .ret)
noncomputable def ig_c : Code := (.seq (.seq (.region 8 opsIg8 true) (.cond (.tmp 41) (.seq (.region 9 opsIg9 false) .ret) .skip)) ig_e)
noncomputable def ig_b : Code := (.seq (.seq (.region 3 opsIg3 false) (.block 0 (.loop ig_l))) ig_c)
noncomputable def code60 : Code := (.seq (.region 0 opsIg0 false) (.seq (.seq (.region 1 opsIg1 false) (.cond (.tmp 21) (.seq (.region 2 opsIg2 false) .ret) .skip)) ig_b))
theorem body60 : Try.f60.body = some code60 := by kernel_rfl
section
attribute [local irreducible] AnyK StepK
variable {c0 c1 c2 c3 c4 c5 c6 : UInt8}
set_option maxHeartbeats 400000 in
theorem ig_e_any {a : Act} {W0 W : World} (hg : isGood [c0, c1, c2, c3, c4, c5, c6] = (decide (c0 ≠ 72) || headOk (num2 c1 c2) (dig c3) (dig c4)))
    (hz : a.tmps.size = 64) (hd_a : a.defers = []) (t0 : a.eval (.tmp 0) = strV [c0, c1, c2, c3, c4, c5, c6]) (hB : Below W0.heap.size W0 W) :
    ig_e.wpIn Fence.wide 5 Try.prog (bodyPost Try.prog Try.f60 (EvP W0 (.bool (isGood [c0, c1, c2, c3, c4, c5, c6])))) a W := by
  have d3 := dig_lt c3
  have d4 := dig_lt c4
  unfold ig_e
  by_cases h72 : c0 = 72
  · have hv2 : (!decide (c0 = 72)) = false := by simp [h72]
    cases hA : inR (num2 c1 c2 : Int) 1 40
    · have hv : isGood [c0, c1, c2, c3, c4, c5, c6] = false := by rw [hg]; simp [h72, headOk, hA]
      refine wpIn_seq (region_p 23 ?_)
      intro K hK
      refine ListK.move (i := 0) (v := strV [c0, c1, c2, c3, c4, c5, c6]) rfl (by simp [t0]) ?_
      refine ListK.indexV (i := 1) (u := strV [c0, c1, c2, c3, c4, c5, c6]) (u' := .int .i64 0) (v := u8V c0) rfl (by simp [hz]) (by simp) (ix9 (k := 0) rfl _) ?_
      refine ListK.bin (i := 2) (u := u8V c0) (u' := .int .u8 72) (v := .bool false) rfl (by simp [hz]) (by simp) (by rw [← hv2]; exact neq5n c0 72 _) ?_
      refine ListK.move (i := 3) (v := .bool false) rfl (by simp [hz]) ?_
      refine ListK.move (i := 4) (v := strV [c0, c1, c2, c3, c4, c5, c6]) rfl (by simp [t0]) ?_ (hw := wanted_g (e := 45) (b' := false) rfl (by simp [hz]) rfl)
      refine ListK.call (i := 5) (vs := #[strV [c0, c1, c2, c3, c4, c5, c6], .int .i64 1]) rfl (enters_of Try.func65 (by kernel_rfl) rfl) (by simp [hz]) ((num_any [c0, c1, c2, c3, c4, c5, c6] 1 c1 c2 rfl rfl (by omega) W).mono ?_) (hw := wanted_g (e := 45) (b' := false) rfl (by simp [hz]) rfl)
      rintro _ W2 ⟨rfl, hb2⟩
      refine ⟨_, rfl, ?_⟩
      refine ListK.call (i := 6) (vs := #[.int .i64 (num2 c1 c2 : Int), .int .i64 1, .int .i64 40]) rfl (enters_of Try.func63 (by kernel_rfl) rfl) (by simp [hz]) ((refIn_any (num2 c1 c2 : Int) 1 40 W2).mono ?_) (hw := wanted_g (e := 45) (b' := false) rfl (by simp [hz]) rfl)
      rintro _ _ ⟨rfl, rfl⟩
      rw [hA]
      refine ⟨_, rfl, ?_⟩
      refine ListK.move (i := 7) (v := .bool false) rfl (by simp [hz]) ?_ (hw := wanted_g (e := 45) (b' := false) rfl (by simp [hz]) rfl)
      refine ListK.passG (i := 8) (e := 49) (b' := false) rfl rfl (by simp [hz]) rfl ?_
      refine ListK.passG (i := 9) (e := 49) (b' := false) rfl rfl (by simp [hz]) rfl ?_
      refine ListK.passG (i := 10) (e := 49) (b' := false) rfl rfl (by simp [hz]) rfl ?_
      refine ListK.passG (i := 11) (e := 49) (b' := false) rfl rfl (by simp [hz]) rfl ?_
      refine ListK.passG (i := 12) (e := 49) (b' := false) rfl rfl (by simp [hz]) rfl ?_
      refine ListK.pickW (i := 13) (b := false) (v := .bool false) rfl (by simp [hz]) (by simp) ?_ (hw := wanted_g (e := 45) (b' := false) rfl (by simp [hz]) rfl)
      refine ListK.move (i := 14) (v := .bool false) rfl (by simp [hz]) ?_ (hw := wanted_g (e := 45) (b' := false) rfl (by simp [hz]) rfl)
      refine ListK.passG (i := 15) (e := 56) (b' := false) rfl rfl (by simp [hz]) rfl ?_
      refine ListK.passG (i := 16) (e := 56) (b' := false) rfl rfl (by simp [hz]) rfl ?_
      refine ListK.passG (i := 17) (e := 56) (b' := false) rfl rfl (by simp [hz]) rfl ?_
      refine ListK.passG (i := 18) (e := 56) (b' := false) rfl rfl (by simp [hz]) rfl ?_
      refine ListK.passG (i := 19) (e := 56) (b' := false) rfl rfl (by simp [hz]) rfl ?_
      refine ListK.pickW (i := 20) (b := false) (v := .bool false) rfl (by simp [hz]) (by simp) ?_ (hw := wanted_g (e := 45) (b' := false) rfl (by simp [hz]) rfl)
      refine ListK.pick (i := 21) (b := false) (v := .bool false) rfl (by simp [hz]) (by simp [hz]) ?_
      refine ListK.assign (i := 22) (v := .bool false) rfl (by simp [hz]) ?_
      refine ListK.done (hK _ _ (wpIn_ret ?_))
      exact bodyPost_ret (v := .bool (isGood [c0, c1, c2, c3, c4, c5, c6])) (res1 Try.results60 (by rw [hv]; exact (by simp [hz]))) (by simp only [defers_put, hd_a]) ⟨rfl, hB.trans (hb2.mono hB.size)⟩
    · cases hC : inR (dig c3 : Int) 2 8
      · have hv : isGood [c0, c1, c2, c3, c4, c5, c6] = false := by rw [hg]; simp [h72, headOk, hA, hC]
        refine wpIn_seq (region_p 23 ?_)
        intro K hK
        refine ListK.move (i := 0) (v := strV [c0, c1, c2, c3, c4, c5, c6]) rfl (by simp [t0]) ?_
        refine ListK.indexV (i := 1) (u := strV [c0, c1, c2, c3, c4, c5, c6]) (u' := .int .i64 0) (v := u8V c0) rfl (by simp [hz]) (by simp) (ix9 (k := 0) rfl _) ?_
        refine ListK.bin (i := 2) (u := u8V c0) (u' := .int .u8 72) (v := .bool false) rfl (by simp [hz]) (by simp) (by rw [← hv2]; exact neq5n c0 72 _) ?_
        refine ListK.move (i := 3) (v := .bool false) rfl (by simp [hz]) ?_
        refine ListK.move (i := 4) (v := strV [c0, c1, c2, c3, c4, c5, c6]) rfl (by simp [t0]) ?_ (hw := wanted_g (e := 45) (b' := false) rfl (by simp [hz]) rfl)
        refine ListK.call (i := 5) (vs := #[strV [c0, c1, c2, c3, c4, c5, c6], .int .i64 1]) rfl (enters_of Try.func65 (by kernel_rfl) rfl) (by simp [hz]) ((num_any [c0, c1, c2, c3, c4, c5, c6] 1 c1 c2 rfl rfl (by omega) W).mono ?_) (hw := wanted_g (e := 45) (b' := false) rfl (by simp [hz]) rfl)
        rintro _ W2 ⟨rfl, hb2⟩
        refine ⟨_, rfl, ?_⟩
        refine ListK.call (i := 6) (vs := #[.int .i64 (num2 c1 c2 : Int), .int .i64 1, .int .i64 40]) rfl (enters_of Try.func63 (by kernel_rfl) rfl) (by simp [hz]) ((refIn_any (num2 c1 c2 : Int) 1 40 W2).mono ?_) (hw := wanted_g (e := 45) (b' := false) rfl (by simp [hz]) rfl)
        rintro _ _ ⟨rfl, rfl⟩
        rw [hA]
        refine ⟨_, rfl, ?_⟩
        refine ListK.move (i := 7) (v := .bool true) rfl (by simp [hz]) ?_ (hw := wanted_g (e := 45) (b' := false) rfl (by simp [hz]) rfl)
        refine ListK.move (i := 8) (v := strV [c0, c1, c2, c3, c4, c5, c6]) rfl (by simp [t0]) ?_ (hw := wanted_g (e := 49) (b' := true) rfl (by simp [hz]) rfl)
        refine ListK.indexVW (i := 9) (u := strV [c0, c1, c2, c3, c4, c5, c6]) (u' := .int .i64 3) (v := u8V c3) rfl (by simp [hz]) (by simp) (ix9 (k := 3) rfl _) ?_ (hw := wanted_g (e := 49) (b' := true) rfl (by simp [hz]) rfl)
        refine ListK.bin (i := 10) (u := u8V c3) (u' := .int .u8 48) (v := .int .u8 (dig c3 : Int)) rfl (by simp [hz]) (by simp) (subu8 c3 _) ?_ (hw := wanted_g (e := 49) (b' := true) rfl (by simp [hz]) rfl)
        refine ListK.conv (i := 11) (u := .int .u8 (dig c3 : Int)) (v := .int .i64 (dig c3 : Int)) rfl (by simp [hz]) (cv53 (by omega) (by omega) _) ?_ (hw := wanted_g (e := 49) (b' := true) rfl (by simp [hz]) rfl)
        refine ListK.call (i := 12) (vs := #[.int .i64 (dig c3 : Int), .int .i64 2, .int .i64 8]) rfl (enters_of Try.func63 (by kernel_rfl) rfl) (by simp [hz]) ((refIn_any (dig c3 : Int) 2 8 W2).mono ?_) (hw := wanted_g (e := 49) (b' := true) rfl (by simp [hz]) rfl)
        rintro _ _ ⟨rfl, rfl⟩
        rw [hC]
        refine ⟨_, rfl, ?_⟩
        refine ListK.pickW (i := 13) (b := true) (v := .bool false) rfl (by simp [hz]) (by simp [hz]) ?_ (hw := wanted_g (e := 45) (b' := false) rfl (by simp [hz]) rfl)
        refine ListK.move (i := 14) (v := .bool false) rfl (by simp [hz]) ?_ (hw := wanted_g (e := 45) (b' := false) rfl (by simp [hz]) rfl)
        refine ListK.passG (i := 15) (e := 56) (b' := false) rfl rfl (by simp [hz]) rfl ?_
        refine ListK.passG (i := 16) (e := 56) (b' := false) rfl rfl (by simp [hz]) rfl ?_
        refine ListK.passG (i := 17) (e := 56) (b' := false) rfl rfl (by simp [hz]) rfl ?_
        refine ListK.passG (i := 18) (e := 56) (b' := false) rfl rfl (by simp [hz]) rfl ?_
        refine ListK.passG (i := 19) (e := 56) (b' := false) rfl rfl (by simp [hz]) rfl ?_
        refine ListK.pickW (i := 20) (b := false) (v := .bool false) rfl (by simp [hz]) (by simp) ?_ (hw := wanted_g (e := 45) (b' := false) rfl (by simp [hz]) rfl)
        refine ListK.pick (i := 21) (b := false) (v := .bool false) rfl (by simp [hz]) (by simp [hz]) ?_
        refine ListK.assign (i := 22) (v := .bool false) rfl (by simp [hz]) ?_
        refine ListK.done (hK _ _ (wpIn_ret ?_))
        exact bodyPost_ret (v := .bool (isGood [c0, c1, c2, c3, c4, c5, c6])) (res1 Try.results60 (by rw [hv]; exact (by simp [hz]))) (by simp only [defers_put, hd_a]) ⟨rfl, hB.trans (hb2.mono hB.size)⟩
      · have hv : isGood [c0, c1, c2, c3, c4, c5, c6] = inR (dig c4 : Int) 1 9 := by rw [hg]; simp [h72, headOk, hA, hC]
        refine wpIn_seq (region_p 23 ?_)
        intro K hK
        refine ListK.move (i := 0) (v := strV [c0, c1, c2, c3, c4, c5, c6]) rfl (by simp [t0]) ?_
        refine ListK.indexV (i := 1) (u := strV [c0, c1, c2, c3, c4, c5, c6]) (u' := .int .i64 0) (v := u8V c0) rfl (by simp [hz]) (by simp) (ix9 (k := 0) rfl _) ?_
        refine ListK.bin (i := 2) (u := u8V c0) (u' := .int .u8 72) (v := .bool false) rfl (by simp [hz]) (by simp) (by rw [← hv2]; exact neq5n c0 72 _) ?_
        refine ListK.move (i := 3) (v := .bool false) rfl (by simp [hz]) ?_
        refine ListK.move (i := 4) (v := strV [c0, c1, c2, c3, c4, c5, c6]) rfl (by simp [t0]) ?_ (hw := wanted_g (e := 45) (b' := false) rfl (by simp [hz]) rfl)
        refine ListK.call (i := 5) (vs := #[strV [c0, c1, c2, c3, c4, c5, c6], .int .i64 1]) rfl (enters_of Try.func65 (by kernel_rfl) rfl) (by simp [hz]) ((num_any [c0, c1, c2, c3, c4, c5, c6] 1 c1 c2 rfl rfl (by omega) W).mono ?_) (hw := wanted_g (e := 45) (b' := false) rfl (by simp [hz]) rfl)
        rintro _ W2 ⟨rfl, hb2⟩
        refine ⟨_, rfl, ?_⟩
        refine ListK.call (i := 6) (vs := #[.int .i64 (num2 c1 c2 : Int), .int .i64 1, .int .i64 40]) rfl (enters_of Try.func63 (by kernel_rfl) rfl) (by simp [hz]) ((refIn_any (num2 c1 c2 : Int) 1 40 W2).mono ?_) (hw := wanted_g (e := 45) (b' := false) rfl (by simp [hz]) rfl)
        rintro _ _ ⟨rfl, rfl⟩
        rw [hA]
        refine ⟨_, rfl, ?_⟩
        refine ListK.move (i := 7) (v := .bool true) rfl (by simp [hz]) ?_ (hw := wanted_g (e := 45) (b' := false) rfl (by simp [hz]) rfl)
        refine ListK.move (i := 8) (v := strV [c0, c1, c2, c3, c4, c5, c6]) rfl (by simp [t0]) ?_ (hw := wanted_g (e := 49) (b' := true) rfl (by simp [hz]) rfl)
        refine ListK.indexVW (i := 9) (u := strV [c0, c1, c2, c3, c4, c5, c6]) (u' := .int .i64 3) (v := u8V c3) rfl (by simp [hz]) (by simp) (ix9 (k := 3) rfl _) ?_ (hw := wanted_g (e := 49) (b' := true) rfl (by simp [hz]) rfl)
        refine ListK.bin (i := 10) (u := u8V c3) (u' := .int .u8 48) (v := .int .u8 (dig c3 : Int)) rfl (by simp [hz]) (by simp) (subu8 c3 _) ?_ (hw := wanted_g (e := 49) (b' := true) rfl (by simp [hz]) rfl)
        refine ListK.conv (i := 11) (u := .int .u8 (dig c3 : Int)) (v := .int .i64 (dig c3 : Int)) rfl (by simp [hz]) (cv53 (by omega) (by omega) _) ?_ (hw := wanted_g (e := 49) (b' := true) rfl (by simp [hz]) rfl)
        refine ListK.call (i := 12) (vs := #[.int .i64 (dig c3 : Int), .int .i64 2, .int .i64 8]) rfl (enters_of Try.func63 (by kernel_rfl) rfl) (by simp [hz]) ((refIn_any (dig c3 : Int) 2 8 W2).mono ?_) (hw := wanted_g (e := 49) (b' := true) rfl (by simp [hz]) rfl)
        rintro _ _ ⟨rfl, rfl⟩
        rw [hC]
        refine ⟨_, rfl, ?_⟩
        refine ListK.pickW (i := 13) (b := true) (v := .bool true) rfl (by simp [hz]) (by simp [hz]) ?_ (hw := wanted_g (e := 45) (b' := false) rfl (by simp [hz]) rfl)
        refine ListK.move (i := 14) (v := .bool true) rfl (by simp [hz]) ?_ (hw := wanted_g (e := 45) (b' := false) rfl (by simp [hz]) rfl)
        refine ListK.move (i := 15) (v := strV [c0, c1, c2, c3, c4, c5, c6]) rfl (by simp [t0]) ?_ (hw := wanted_g (e := 56) (b' := true) rfl (by simp [hz]) rfl)
        refine ListK.indexVW (i := 16) (u := strV [c0, c1, c2, c3, c4, c5, c6]) (u' := .int .i64 4) (v := u8V c4) rfl (by simp [hz]) (by simp) (ix9 (k := 4) rfl _) ?_ (hw := wanted_g (e := 56) (b' := true) rfl (by simp [hz]) rfl)
        refine ListK.bin (i := 17) (u := u8V c4) (u' := .int .u8 48) (v := .int .u8 (dig c4 : Int)) rfl (by simp [hz]) (by simp) (subu8 c4 _) ?_ (hw := wanted_g (e := 56) (b' := true) rfl (by simp [hz]) rfl)
        refine ListK.conv (i := 18) (u := .int .u8 (dig c4 : Int)) (v := .int .i64 (dig c4 : Int)) rfl (by simp [hz]) (cv53 (by omega) (by omega) _) ?_ (hw := wanted_g (e := 56) (b' := true) rfl (by simp [hz]) rfl)
        refine ListK.call (i := 19) (vs := #[.int .i64 (dig c4 : Int), .int .i64 1, .int .i64 9]) rfl (enters_of Try.func63 (by kernel_rfl) rfl) (by simp [hz]) ((refIn_any (dig c4 : Int) 1 9 W2).mono ?_) (hw := wanted_g (e := 56) (b' := true) rfl (by simp [hz]) rfl)
        rintro _ _ ⟨rfl, rfl⟩
        refine ⟨_, rfl, ?_⟩
        refine ListK.pickW (i := 20) (b := true) (v := .bool (inR (dig c4 : Int) 1 9)) rfl (by simp [hz]) (by simp [hz]) ?_ (hw := wanted_g (e := 45) (b' := false) rfl (by simp [hz]) rfl)
        refine ListK.pick (i := 21) (b := false) (v := .bool (inR (dig c4 : Int) 1 9)) rfl (by simp [hz]) (by simp [hz]) ?_
        refine ListK.assign (i := 22) (v := .bool (inR (dig c4 : Int) 1 9)) rfl (by simp [hz]) ?_
        refine ListK.done (hK _ _ (wpIn_ret ?_))
        exact bodyPost_ret (v := .bool (isGood [c0, c1, c2, c3, c4, c5, c6])) (res1 Try.results60 (by rw [hv]; exact (by simp [hz]))) (by simp only [defers_put, hd_a]) ⟨rfl, hB.trans (hb2.mono hB.size)⟩
  · have hv2 : (!decide (c0 = 72)) = true := by simp [h72]
    have hv : isGood [c0, c1, c2, c3, c4, c5, c6] = true := by rw [hg]; simp [h72]
    refine wpIn_seq (region_p 23 ?_)
    intro K hK
    refine ListK.move (i := 0) (v := strV [c0, c1, c2, c3, c4, c5, c6]) rfl (by simp [t0]) ?_
    refine ListK.indexV (i := 1) (u := strV [c0, c1, c2, c3, c4, c5, c6]) (u' := .int .i64 0) (v := u8V c0) rfl (by simp [hz]) (by simp) (ix9 (k := 0) rfl _) ?_
    refine ListK.bin (i := 2) (u := u8V c0) (u' := .int .u8 72) (v := .bool true) rfl (by simp [hz]) (by simp) (by rw [← hv2]; exact neq5n c0 72 _) ?_
    refine ListK.move (i := 3) (v := .bool true) rfl (by simp [hz]) ?_
    refine ListK.passG (i := 4) (e := 45) (b' := true) rfl rfl (by simp [hz]) rfl ?_
    refine ListK.passG (i := 5) (e := 45) (b' := true) rfl rfl (by simp [hz]) rfl ?_
    refine ListK.passG (i := 6) (e := 45) (b' := true) rfl rfl (by simp [hz]) rfl ?_
    refine ListK.passG (i := 7) (e := 45) (b' := true) rfl rfl (by simp [hz]) rfl ?_
    refine ListK.passU (i := 8) (e := 49) rfl rfl (by simp [hz]) ?_
    refine ListK.passU (i := 9) (e := 49) rfl rfl (by simp [hz]) ?_
    refine ListK.passU (i := 10) (e := 49) rfl rfl (by simp [hz]) ?_
    refine ListK.passU (i := 11) (e := 49) rfl rfl (by simp [hz]) ?_
    refine ListK.passU (i := 12) (e := 49) rfl rfl (by simp [hz]) ?_
    refine ListK.passG (i := 13) (e := 45) (b' := true) rfl rfl (by simp [hz]) rfl ?_
    refine ListK.passG (i := 14) (e := 45) (b' := true) rfl rfl (by simp [hz]) rfl ?_
    refine ListK.passU (i := 15) (e := 56) rfl rfl (by simp [hz]) ?_
    refine ListK.passU (i := 16) (e := 56) rfl rfl (by simp [hz]) ?_
    refine ListK.passU (i := 17) (e := 56) rfl rfl (by simp [hz]) ?_
    refine ListK.passU (i := 18) (e := 56) rfl rfl (by simp [hz]) ?_
    refine ListK.passU (i := 19) (e := 56) rfl rfl (by simp [hz]) ?_
    refine ListK.passG (i := 20) (e := 45) (b' := true) rfl rfl (by simp [hz]) rfl ?_
    refine ListK.pick (i := 21) (b := true) (v := .bool true) rfl (by simp [hz]) (by simp) ?_
    refine ListK.assign (i := 22) (v := .bool true) rfl (by simp [hz]) ?_
    refine ListK.done (hK _ _ (wpIn_ret ?_))
    exact bodyPost_ret (v := .bool (isGood [c0, c1, c2, c3, c4, c5, c6])) (res1 Try.results60 (by rw [hv]; exact (by simp [hz]))) (by simp only [defers_put, hd_a]) ⟨rfl, hB⟩
set_option maxHeartbeats 400000 in
theorem ig_c_any {a : Act} {W0 : World} (h0 : c0 = 72 ∨ c0 = 82 ∨ c0 = 80) (hdg : ∀ j x, 1 ≤ j → [c0, c1, c2, c3, c4, c5, c6][j]? = some x → isDig x = true)
    (hz : a.tmps.size = 64) (hd_a : a.defers = []) (t0 : a.eval (.tmp 0) = strV [c0, c1, c2, c3, c4, c5, c6]) :
    ig_c.wpIn Fence.wide 5 Try.prog (bodyPost Try.prog Try.f60 (EvP W0 (.bool (isGood [c0, c1, c2, c3, c4, c5, c6])))) a W0 := by
  have g1 := hdg 1 c1 (by omega) rfl
  have g2 := hdg 2 c2 (by omega) rfl
  have g3 := hdg 3 c3 (by omega) rfl
  have g4 := hdg 4 c4 (by omega) rfl
  have g5 := hdg 5 c5 (by omega) rfl
  have g6 := hdg 6 c6 (by omega) rfl
  have hck := chk5_lt c0 c1 c2 c3 c4
  have h2 := two_eq g5 g6 (n := chk5 c0 c1 c2 c3 c4) (by omega)
  have hk : (c0 == 72 || c0 == 82 || c0 == 80) = true := by rcases h0 with rfl | rfl | rfl <;> decide
  have hne : (c0 != 72) = decide (c0 ≠ 72) := by by_cases h : c0 = 72 <;> simp [h]
  have hg : isGood [c0, c1, c2, c3, c4, c5, c6] = ((num2 c5 c6 == chk5 c0 c1 c2 c3 c4) && (decide (c0 ≠ 72) || headOk (num2 c1 c2) (dig c3) (dig c4))) := by
    show good7 c0 c1 c2 c3 c4 c5 c6 = _
    unfold good7
    rw [hk, g1, g2, g3, g4, g5, g6, hne]
    simp
  rw [← h2] at hg
  unfold ig_c
  refine wpIn_seq (wpIn_seq (region_K (KpR (fun w : World => Below W0.heap.size W0 w) (fun _ => false)) (wideF_plain _) (by kernel_rfl) Try.mixed ?_))
  change AnyK _ _ _ _ 6 (Array.replicate 6 false) _ _
  have hR : (fun w : World => Below W0.heap.size W0 w) W0.drew := (Below.refl W0.heap.size W0).drew
  refine AnyK.move (i := 0) may_o (v := strV [c0, c1, c2, c3, c4, c5, c6]) (by simp [t0]) hR ?_
  refine AnyK.sliceL (i := 1) may_o (u := strV [c0, c1, c2, c3, c4, c5, c6]) (u' := .int .i64 (5)) (v := strV [c5, c6]) (by simp [hz]) (by simp) (fun w => sl9L (l := [c0, c1, c2, c3, c4, c5, c6]) (a := 5) (by simp) w) hR ?_
  refine AnyK.move (i := 2) may_o (v := strV [c0, c1, c2, c3, c4, c5, c6]) (by simp [t0]) hR ?_
  refine AnyK.sliceH (i := 3) may_o (u := strV [c0, c1, c2, c3, c4, c5, c6]) (u' := .int .i64 (5)) (v := strV [c0, c1, c2, c3, c4]) (by simp [hz]) (by simp) (fun w => sl9H (l := [c0, c1, c2, c3, c4, c5, c6]) (a := 5) (by simp) w) hR ?_
  refine AnyK.pick1 (i := 4) (by kernel_rfl) ?_
  refine StepK.call (i := 4) (f := 57) (vs := #[strV [c0, c1, c2, c3, c4]]) rfl (enters_of Try.func57 (by kernel_rfl) rfl) rfl (by simp [hz]) ((refCheck_any c0 c1 c2 c3 c4 _).mono ?_)
  rintro _ V4 ⟨rfl, hb4⟩
  replace hR : (fun w : World => Below W0.heap.size W0 w) V4 := hR.trans (hb4.mono hR.size)
  refine ⟨_, rfl, fun _ _ => hR, ?_⟩
  refine AnyK.bin (i := 5) may_o (u := strV [c5, c6]) (u' := strV (twoL (chk5 c0 c1 c2 c3 c4))) (v := .bool (!decide ([c5, c6] = twoL (chk5 c0 c1 c2 c3 c4)))) (by simp [hz]) (by simp [hz]) (fun w => neq9n _ _ w) hR ?_
  refine AnyK.done (by kernel_rfl) ?_
  by_cases hq : [c5, c6] = [hi2 (chk5 c0 c1 c2 c3 c4), lo2 (chk5 c0 c1 c2 c3 c4)]
  · rw [decide_eq_true hq, Bool.true_and] at hg
    have hq2 : (!decide ([c5, c6] = twoL (chk5 c0 c1 c2 c3 c4))) = false := by rw [show decide ([c5, c6] = twoL (chk5 c0 c1 c2 c3 c4)) = true from decide_eq_true hq]; rfl
    rw [hq2]
    refine wpIn_cond (t := false) (by simp [hz]) (wpIn_skip ?_)
    exact ig_e_any hg (by simp only [size_put, hz]) (by simp only [defers_put, hd_a]) (by simp [t0]) hR
  · rw [decide_eq_false hq, Bool.false_and] at hg
    have hq2 : (!decide ([c5, c6] = twoL (chk5 c0 c1 c2 c3 c4))) = true := by rw [show decide ([c5, c6] = twoL (chk5 c0 c1 c2 c3 c4)) = false from decide_eq_false hq]; rfl
    rw [hq2]
    refine wpIn_cond (t := true) (by simp [hz]) ?_
    generalize hA : Act.put _ _ _ = a2
    have hz_a2 : a2.tmps.size = 64 := by rw [← hA]; simp only [size_put, hz]
    have v0 : a2.eval (.tmp 0) = strV [c0, c1, c2, c3, c4, c5, c6] := by rw [← hA]; exact (by simp [t0])
    have hd_a2 : a2.defers = [] := by rw [← hA]; simp only [defers_put, hd_a]
    clear hA
    refine wpIn_seq (region_p 1 ?_)
    intro K hK
    refine ListK.assign (i := 0) (v := .bool false) rfl (by simp) ?_
    refine ListK.done (hK _ _ (wpIn_ret ?_))
    exact bodyPost_ret (v := .bool (isGood [c0, c1, c2, c3, c4, c5, c6])) (res1 Try.results60 (by rw [hg]; exact (by simp [hz_a2]))) (by simp only [defers_put, hd_a2]) ⟨rfl, hR⟩
set_option maxHeartbeats 400000 in
theorem ig_b_any {a : Act} {W : World} (h0 : c0 = 72 ∨ c0 = 82 ∨ c0 = 80)
    (hz : a.tmps.size = 64) (hd_a : a.defers = []) (t0 : a.eval (.tmp 0) = strV [c0, c1, c2, c3, c4, c5, c6]) :
    ig_b.wpIn Fence.wide 5 Try.prog (bodyPost Try.prog Try.f60 (EvP W (.bool (isGood [c0, c1, c2, c3, c4, c5, c6])))) a W := by
  unfold ig_b
  refine wpIn_seq (wpIn_seq (region_p 1 ?_))
  intro K hK
  refine ListK.assign (i := 0) (v := .int .i64 1) rfl (by simp) ?_
  refine ListK.done (hK _ _ ?_)
  clear hK K
  generalize hA : Act.put _ _ _ = a1
  have hz_a1 : a1.tmps.size = 64 := by rw [← hA]; simp only [size_put, hz]
  have u0 : a1.eval (.tmp 0) = strV [c0, c1, c2, c3, c4, c5, c6] := by rw [← hA]; exact (by simp [t0])
  have u3 : a1.eval (.tmp 3) = .int .i64 1 := by rw [← hA]; exact (by simp [hz])
  have hd_a1 : a1.defers = [] := by rw [← hA]; simp only [defers_put, hd_a]
  clear hA
  refine wpIn_block (wpIn_loop (fun a W' => ∃ k : Nat, W' = W ∧ 1 ≤ k ∧ k ≤ 7 ∧ (∀ j x, 1 ≤ j → j < k → [c0, c1, c2, c3, c4, c5, c6][j]? = some x → isDig x = true) ∧ a.tmps.size = 64 ∧ a.defers = [] ∧ a.eval (.tmp 0) = strV [c0, c1, c2, c3, c4, c5, c6] ∧ a.eval (.tmp 3) = .int .i64 (k : Int)) (fun a _ => 7 - (intOf (a.eval (.tmp 3))).toNat)
    ⟨1, rfl, Nat.le_refl _, by omega, fun j x h1 h2 => by omega, hz_a1, hd_a1, u0, u3⟩ ?_)
  rintro b1 W1 ⟨k, hW1, hk1, hk7, hdg, hz_b1, hd_b1, s0, s3⟩
  subst hW1
  unfold ig_l
  by_cases hlt : k < 7
  · skip
    refine wpIn_seq (wpIn_seq (region_p 2 ?_))
    intro K hK
    refine ListK.move (i := 0) (v := .int .i64 (k : Int)) rfl (by simp [s3]) ?_
    refine ListK.bin (i := 1) (u := .int .i64 (k : Int)) (u' := .int .i64 7) (v := .bool true) rfl (by simp [hz_b1]) (by simp) (lssT3 (by omega) _) ?_
    refine ListK.done (hK _ _ ?_)
    clear hK K
    refine wpIn_cond (t := true) (by simp [hz_b1]) (wpIn_skip ?_)
    generalize hA : Act.put _ _ _ = b2
    have hz_b2 : b2.tmps.size = 64 := by rw [← hA]; simp only [size_put, hz_b1]
    have v0 : b2.eval (.tmp 0) = strV [c0, c1, c2, c3, c4, c5, c6] := by rw [← hA]; exact (by simp [s0])
    have v3 : b2.eval (.tmp 3) = .int .i64 (k : Int) := by rw [← hA]; exact (by simp [s3])
    have hd_b2 : b2.defers = [] := by rw [← hA]; simp only [defers_put, hd_b1]
    clear hA
    refine wpIn_seq (wpIn_block ?_)
    obtain ⟨b, hb⟩ : ∃ b, [c0, c1, c2, c3, c4, c5, c6][k]? = some b := ⟨_, List.getElem?_eq_getElem (by simpa using hlt)⟩
    have hbad : isDig b = false → isGood [c0, c1, c2, c3, c4, c5, c6] = false := by
      intro hn
      refine Bool.eq_false_iff.2 fun hgd => ?_
      have : isDig c1 = true ∧ isDig c2 = true ∧ isDig c3 = true ∧ isDig c4 = true ∧ isDig c5 = true ∧ isDig c6 = true := by
        have hgd : good7 c0 c1 c2 c3 c4 c5 c6 = true := hgd
        simp only [good7, Bool.and_eq_true] at hgd
        obtain ⟨⟨⟨_, ⟨⟨⟨⟨⟨x1, x2⟩, x3⟩, x4⟩, x5⟩, x6⟩⟩, _⟩, _⟩ := hgd
        exact ⟨x1, x2, x3, x4, x5, x6⟩
      obtain ⟨x1, x2, x3, x4, x5, x6⟩ := this
      have hx : isDig b = true := by
        rcases k with _ | _ | _ | _ | _ | _ | _ | k
        · omega
        · cases hb; exact x1
        · cases hb; exact x2
        · cases hb; exact x3
        · cases hb; exact x4
        · cases hb; exact x5
        · cases hb; exact x6
        · omega
      rw [hn] at hx
      cases hx
    by_cases hlo : b.toNat < 48
    · have hn : isDig b = false := decide_eq_false (by omega)
      have hd1 : decide ((b.toNat : Int) < 48) = true := by simp; omega
      refine wpIn_seq (region_p 10 ?_)
      intro K hK
      refine ListK.move (i := 0) (v := strV [c0, c1, c2, c3, c4, c5, c6]) rfl (by simp [v0]) ?_
      refine ListK.move (i := 1) (v := .int .i64 (k : Int)) rfl (by simp [v3]) ?_
      refine ListK.indexV (i := 2) (u := strV [c0, c1, c2, c3, c4, c5, c6]) (u' := .int .i64 (k : Int)) (v := u8V b) rfl (by simp [hz_b2]) (by simp [hz_b2]) (ix9 hb _) ?_
      refine ListK.bin (i := 3) (u := u8V b) (u' := .int .u8 48) (v := .bool true) rfl (by simp [hz_b2]) (by simp) (by rw [← hd1]; exact lss5n b 48 _) ?_
      refine ListK.move (i := 4) (v := .bool true) rfl (by simp [hz_b2]) ?_
      refine ListK.passG (i := 5) (e := 30) (b' := true) rfl rfl (by simp [hz_b2]) rfl ?_
      refine ListK.passG (i := 6) (e := 30) (b' := true) rfl rfl (by simp [hz_b2]) rfl ?_
      refine ListK.passG (i := 7) (e := 30) (b' := true) rfl rfl (by simp [hz_b2]) rfl ?_
      refine ListK.passG (i := 8) (e := 30) (b' := true) rfl rfl (by simp [hz_b2]) rfl ?_
      refine ListK.pick (i := 9) (b := true) (v := .bool true) rfl (by simp [hz_b2]) (by simp) ?_
      refine ListK.done (hK _ _ ?_)
      clear hK K
      refine wpIn_cond (t := true) (by simp [hz_b2]) ?_
      generalize hA : Act.put _ _ _ = b3
      have hz_b3 : b3.tmps.size = 64 := by rw [← hA]; simp only [size_put, hz_b2]
      have q0 : b3.eval (.tmp 0) = strV [c0, c1, c2, c3, c4, c5, c6] := by rw [← hA]; exact (by simp [v0])
      have hd_b3 : b3.defers = [] := by rw [← hA]; simp only [defers_put, hd_b2]
      clear hA
      refine wpIn_seq (region_p 1 ?_)
      intro K hK
      refine ListK.assign (i := 0) (v := .bool false) rfl (by simp) ?_
      refine ListK.done (hK _ _ (wpIn_ret ?_))
      exact bodyPost_ret (v := .bool (isGood [c0, c1, c2, c3, c4, c5, c6])) (res1 Try.results60 (by rw [hbad hn]; exact (by simp [hz_b3]))) (by simp only [defers_put, hd_b3]) ⟨rfl, Below.refl _ _⟩
    · have hd1 : decide ((b.toNat : Int) < 48) = false := by simp; omega
      by_cases hhi : 57 < b.toNat
      · have hn : isDig b = false := decide_eq_false (by omega)
        have hd2 : decide (57 < (b.toNat : Int)) = true := by simp; omega
        refine wpIn_seq (region_p 10 ?_)
        intro K hK
        refine ListK.move (i := 0) (v := strV [c0, c1, c2, c3, c4, c5, c6]) rfl (by simp [v0]) ?_
        refine ListK.move (i := 1) (v := .int .i64 (k : Int)) rfl (by simp [v3]) ?_
        refine ListK.indexV (i := 2) (u := strV [c0, c1, c2, c3, c4, c5, c6]) (u' := .int .i64 (k : Int)) (v := u8V b) rfl (by simp [hz_b2]) (by simp [hz_b2]) (ix9 hb _) ?_
        refine ListK.bin (i := 3) (u := u8V b) (u' := .int .u8 48) (v := .bool false) rfl (by simp [hz_b2]) (by simp) (by rw [← hd1]; exact lss5n b 48 _) ?_
        refine ListK.move (i := 4) (v := .bool false) rfl (by simp [hz_b2]) ?_
        refine ListK.move (i := 5) (v := strV [c0, c1, c2, c3, c4, c5, c6]) rfl (by simp [v0]) ?_ (hw := wanted_g (e := 30) (b' := false) rfl (by simp [hz_b2]) rfl)
        refine ListK.move (i := 6) (v := .int .i64 (k : Int)) rfl (by simp [v3]) ?_ (hw := wanted_g (e := 30) (b' := false) rfl (by simp [hz_b2]) rfl)
        refine ListK.indexVW (i := 7) (u := strV [c0, c1, c2, c3, c4, c5, c6]) (u' := .int .i64 (k : Int)) (v := u8V b) rfl (by simp [hz_b2]) (by simp [hz_b2]) (ix9 hb _) ?_ (hw := wanted_g (e := 30) (b' := false) rfl (by simp [hz_b2]) rfl)
        refine ListK.bin (i := 8) (u := u8V b) (u' := .int .u8 57) (v := .bool true) rfl (by simp [hz_b2]) (by simp) (by rw [← hd2]; exact gtr5n b 57 _) ?_ (hw := wanted_g (e := 30) (b' := false) rfl (by simp [hz_b2]) rfl)
        refine ListK.pick (i := 9) (b := false) (v := .bool true) rfl (by simp [hz_b2]) (by simp [hz_b2]) ?_
        refine ListK.done (hK _ _ ?_)
        clear hK K
        refine wpIn_cond (t := true) (by simp [hz_b2]) ?_
        generalize hA : Act.put _ _ _ = b3
        have hz_b3 : b3.tmps.size = 64 := by rw [← hA]; simp only [size_put, hz_b2]
        have q0 : b3.eval (.tmp 0) = strV [c0, c1, c2, c3, c4, c5, c6] := by rw [← hA]; exact (by simp [v0])
        have hd_b3 : b3.defers = [] := by rw [← hA]; simp only [defers_put, hd_b2]
        clear hA
        refine wpIn_seq (region_p 1 ?_)
        intro K hK
        refine ListK.assign (i := 0) (v := .bool false) rfl (by simp) ?_
        refine ListK.done (hK _ _ (wpIn_ret ?_))
        exact bodyPost_ret (v := .bool (isGood [c0, c1, c2, c3, c4, c5, c6])) (res1 Try.results60 (by rw [hbad hn]; exact (by simp [hz_b3]))) (by simp only [defers_put, hd_b3]) ⟨rfl, Below.refl _ _⟩
      · have hy : isDig b = true := decide_eq_true (by omega)
        have hd2 : decide (57 < (b.toNat : Int)) = false := by simp; omega
        refine wpIn_seq (region_p 10 ?_)
        intro K hK
        refine ListK.move (i := 0) (v := strV [c0, c1, c2, c3, c4, c5, c6]) rfl (by simp [v0]) ?_
        refine ListK.move (i := 1) (v := .int .i64 (k : Int)) rfl (by simp [v3]) ?_
        refine ListK.indexV (i := 2) (u := strV [c0, c1, c2, c3, c4, c5, c6]) (u' := .int .i64 (k : Int)) (v := u8V b) rfl (by simp [hz_b2]) (by simp [hz_b2]) (ix9 hb _) ?_
        refine ListK.bin (i := 3) (u := u8V b) (u' := .int .u8 48) (v := .bool false) rfl (by simp [hz_b2]) (by simp) (by rw [← hd1]; exact lss5n b 48 _) ?_
        refine ListK.move (i := 4) (v := .bool false) rfl (by simp [hz_b2]) ?_
        refine ListK.move (i := 5) (v := strV [c0, c1, c2, c3, c4, c5, c6]) rfl (by simp [v0]) ?_ (hw := wanted_g (e := 30) (b' := false) rfl (by simp [hz_b2]) rfl)
        refine ListK.move (i := 6) (v := .int .i64 (k : Int)) rfl (by simp [v3]) ?_ (hw := wanted_g (e := 30) (b' := false) rfl (by simp [hz_b2]) rfl)
        refine ListK.indexVW (i := 7) (u := strV [c0, c1, c2, c3, c4, c5, c6]) (u' := .int .i64 (k : Int)) (v := u8V b) rfl (by simp [hz_b2]) (by simp [hz_b2]) (ix9 hb _) ?_ (hw := wanted_g (e := 30) (b' := false) rfl (by simp [hz_b2]) rfl)
        refine ListK.bin (i := 8) (u := u8V b) (u' := .int .u8 57) (v := .bool false) rfl (by simp [hz_b2]) (by simp) (by rw [← hd2]; exact gtr5n b 57 _) ?_ (hw := wanted_g (e := 30) (b' := false) rfl (by simp [hz_b2]) rfl)
        refine ListK.pick (i := 9) (b := false) (v := .bool false) rfl (by simp [hz_b2]) (by simp [hz_b2]) ?_
        refine ListK.done (hK _ _ ?_)
        clear hK K
        refine wpIn_cond (t := false) (by simp [hz_b2]) (wpIn_skip ?_)
        generalize hA : Act.put _ _ _ = b3
        have hz_b3 : b3.tmps.size = 64 := by rw [← hA]; simp only [size_put, hz_b2]
        have q0 : b3.eval (.tmp 0) = strV [c0, c1, c2, c3, c4, c5, c6] := by rw [← hA]; exact (by simp [v0])
        have q3 : b3.eval (.tmp 3) = .int .i64 (k : Int) := by rw [← hA]; exact (by simp [v3])
        have hd_b3 : b3.defers = [] := by rw [← hA]; simp only [defers_put, hd_b2]
        clear hA
        refine region_p 3 ?_
        intro K hK
        refine ListK.move (i := 0) (v := .int .i64 (k : Int)) rfl (by simp [q3]) ?_
        refine ListK.bin (i := 1) (u := .int .i64 (k : Int)) (u' := .int .i64 1) (v := .int .i64 ((k + 1 : Nat) : Int)) rfl (by simp [hz_b3]) (by simp) (add3 (by omega) (by omega) _) ?_
        refine ListK.assign (i := 2) (v := .int .i64 ((k + 1 : Nat) : Int)) rfl (by simp [hz_b3]) ?_
        refine ListK.done (hK _ _ ?_)
        clear hK K
        refine ⟨⟨k + 1, rfl, by omega, by omega, fun j x h1 h2 h3 => ?_, (by simp only [size_put, hz_b3]), (by simp only [defers_put, hd_b3]), (by simp [q0]), (by simp [hz_b3])⟩, ?_⟩
        · by_cases hjk : j = k
          · subst hjk
            rw [hb] at h3
            cases h3
            exact hy
          · exact hdg j x h1 (by omega) h3
        · rw [s3, show (Act.put _ _ _).eval (.tmp 3) = .int .i64 ((k + 1 : Nat) : Int) from (by simp [hz_b3])]
          simp only [intOf]
          omega
  · have hk : k = 7 := by omega
    refine wpIn_seq (wpIn_seq (region_p 2 ?_))
    intro K hK
    refine ListK.move (i := 0) (v := .int .i64 (k : Int)) rfl (by simp [s3]) ?_
    refine ListK.bin (i := 1) (u := .int .i64 (k : Int)) (u' := .int .i64 7) (v := .bool false) rfl (by simp [hz_b1]) (by simp) (lssF3 (by omega) _) ?_
    refine ListK.done (hK _ _ ?_)
    clear hK K
    refine wpIn_cond (t := false) (by simp [hz_b1]) (wpIn_exit ?_)
    show ig_c.wpIn _ _ _ _ _ _
    refine ig_c_any h0 (fun j x h1 h2 => hdg j x h1 ?_ h2) (by simp only [size_put, hz_b1]) (by simp only [defers_put, hd_b1]) (by simp [s0])
    have := (List.getElem?_eq_some_iff.1 h2).1
    simp only [List.length_cons, List.length_nil] at this
    omega
end
set_option maxHeartbeats 400000 in
theorem isGood_any (l : List UInt8) (hl : l.length ≤ 100000) (W : World) : Calls Try.prog 60 #[strV l] W (EvP W (.bool (isGood l))) := by
  refine (callsIn_wide (n := 5)).1 (callsIn_of_wp Try.func60 body60 trivial ?_ rfl)
  obtain ⟨a, ha⟩ : ∃ a : Act, a = { tmps := #[strV l] ++ Array.replicate (Try.f60.ntmps - (#[strV l] : Array Value).size) undef, defers := [] } := ⟨_, rfl⟩
  have hsz : a.tmps.size = 64 := by rw [ha]; simp [Try.ntmps60]
  have t0 : a.eval (.tmp 0) = strV l := by rw [ha]; simp [Act.eval]
  have hd_a : a.defers = [] := by rw [ha]
  rw [← ha]
  clear ha
  unfold code60
  refine wpIn_seq (region_p 1 ?_)
  intro K hK
  refine ListK.assign (i := 0) (v := .bool false) rfl (by simp) ?_
  refine ListK.done (hK _ _ ?_)
  clear hK K
  generalize hA : Act.put _ _ _ = a1
  have hz_a1 : a1.tmps.size = 64 := by rw [← hA]; simp only [size_put, hsz]
  have u0 : a1.eval (.tmp 0) = strV l := by rw [← hA]; exact (by simp [t0])
  have hd_a1 : a1.defers = [] := by rw [← hA]; simp only [defers_put, hd_a]
  clear hA
  by_cases h7 : l.length = 7
  · obtain ⟨c0, c1, c2, c3, c4, c5, c6, rfl⟩ := len7 h7
    by_cases h1 : c0 = 72
    · have d1 : (!decide (c0 = 72)) = false := by simp [h1]
      refine wpIn_seq (wpIn_seq (region_p 18 ?_))
      intro K hK
      refine ListK.move (i := 0) (v := strV [c0, c1, c2, c3, c4, c5, c6]) rfl (by simp [u0]) ?_
      refine ListK.len (i := 1) (u := strV [c0, c1, c2, c3, c4, c5, c6]) (v := .int .i64 (([c0, c1, c2, c3, c4, c5, c6]).length : Int)) rfl (by simp [hz_a1]) (ln9 _ _ _) rfl ?_
      refine ListK.bin (i := 2) (u := .int .i64 (([c0, c1, c2, c3, c4, c5, c6]).length : Int)) (u' := .int .i64 7) (v := .bool false) rfl (by simp [hz_a1]) (by simp) (neqF (by simp) _) ?_
      refine ListK.move (i := 3) (v := .bool false) rfl (by simp [hz_a1]) ?_
      refine ListK.move (i := 4) (v := strV [c0, c1, c2, c3, c4, c5, c6]) rfl (by simp [u0]) ?_ (hw := wanted_g (e := 7) (b' := false) rfl (by simp [hz_a1]) rfl)
      refine ListK.indexVW (i := 5) (u := strV [c0, c1, c2, c3, c4, c5, c6]) (u' := .int .i64 0) (v := u8V c0) rfl (by simp [hz_a1]) (by simp) (ix9 (k := 0) rfl _) ?_ (hw := wanted_g (e := 7) (b' := false) rfl (by simp [hz_a1]) rfl)
      refine ListK.bin (i := 6) (u := u8V c0) (u' := .int .u8 72) (v := .bool false) rfl (by simp [hz_a1]) (by simp) (by rw [← d1]; exact neq5n c0 72 _) ?_ (hw := wanted_g (e := 7) (b' := false) rfl (by simp [hz_a1]) rfl)
      refine ListK.move (i := 7) (v := .bool false) rfl (by simp [hz_a1]) ?_ (hw := wanted_g (e := 7) (b' := false) rfl (by simp [hz_a1]) rfl)
      refine ListK.passG (i := 8) (e := 11) (b' := false) rfl rfl (by simp [hz_a1]) rfl ?_
      refine ListK.passG (i := 9) (e := 11) (b' := false) rfl rfl (by simp [hz_a1]) rfl ?_
      refine ListK.passG (i := 10) (e := 11) (b' := false) rfl rfl (by simp [hz_a1]) rfl ?_
      refine ListK.pickW (i := 11) (b := false) (v := .bool false) rfl (by simp [hz_a1]) (by simp) ?_ (hw := wanted_g (e := 7) (b' := false) rfl (by simp [hz_a1]) rfl)
      refine ListK.move (i := 12) (v := .bool false) rfl (by simp [hz_a1]) ?_ (hw := wanted_g (e := 7) (b' := false) rfl (by simp [hz_a1]) rfl)
      refine ListK.passG (i := 13) (e := 16) (b' := false) rfl rfl (by simp [hz_a1]) rfl ?_
      refine ListK.passG (i := 14) (e := 16) (b' := false) rfl rfl (by simp [hz_a1]) rfl ?_
      refine ListK.passG (i := 15) (e := 16) (b' := false) rfl rfl (by simp [hz_a1]) rfl ?_
      refine ListK.pickW (i := 16) (b := false) (v := .bool false) rfl (by simp [hz_a1]) (by simp) ?_ (hw := wanted_g (e := 7) (b' := false) rfl (by simp [hz_a1]) rfl)
      refine ListK.pick (i := 17) (b := false) (v := .bool false) rfl (by simp [hz_a1]) (by simp [hz_a1]) ?_
      refine ListK.done (hK _ _ ?_)
      clear hK K
      refine wpIn_cond (t := false) (by simp [hz_a1]) (wpIn_skip ?_)
      exact ig_b_any (.inl h1) (by simp only [size_put, hz_a1]) (by simp only [defers_put, hd_a1]) (by simp [u0])
    · have d1 : (!decide (c0 = 72)) = true := by simp [h1]
      by_cases h2 : c0 = 82
      · have d2 : (!decide (c0 = 82)) = false := by simp [h2]
        refine wpIn_seq (wpIn_seq (region_p 18 ?_))
        intro K hK
        refine ListK.move (i := 0) (v := strV [c0, c1, c2, c3, c4, c5, c6]) rfl (by simp [u0]) ?_
        refine ListK.len (i := 1) (u := strV [c0, c1, c2, c3, c4, c5, c6]) (v := .int .i64 (([c0, c1, c2, c3, c4, c5, c6]).length : Int)) rfl (by simp [hz_a1]) (ln9 _ _ _) rfl ?_
        refine ListK.bin (i := 2) (u := .int .i64 (([c0, c1, c2, c3, c4, c5, c6]).length : Int)) (u' := .int .i64 7) (v := .bool false) rfl (by simp [hz_a1]) (by simp) (neqF (by simp) _) ?_
        refine ListK.move (i := 3) (v := .bool false) rfl (by simp [hz_a1]) ?_
        refine ListK.move (i := 4) (v := strV [c0, c1, c2, c3, c4, c5, c6]) rfl (by simp [u0]) ?_ (hw := wanted_g (e := 7) (b' := false) rfl (by simp [hz_a1]) rfl)
        refine ListK.indexVW (i := 5) (u := strV [c0, c1, c2, c3, c4, c5, c6]) (u' := .int .i64 0) (v := u8V c0) rfl (by simp [hz_a1]) (by simp) (ix9 (k := 0) rfl _) ?_ (hw := wanted_g (e := 7) (b' := false) rfl (by simp [hz_a1]) rfl)
        refine ListK.bin (i := 6) (u := u8V c0) (u' := .int .u8 72) (v := .bool true) rfl (by simp [hz_a1]) (by simp) (by rw [← d1]; exact neq5n c0 72 _) ?_ (hw := wanted_g (e := 7) (b' := false) rfl (by simp [hz_a1]) rfl)
        refine ListK.move (i := 7) (v := .bool true) rfl (by simp [hz_a1]) ?_ (hw := wanted_g (e := 7) (b' := false) rfl (by simp [hz_a1]) rfl)
        refine ListK.move (i := 8) (v := strV [c0, c1, c2, c3, c4, c5, c6]) rfl (by simp [u0]) ?_ (hw := wanted_g (e := 11) (b' := true) rfl (by simp [hz_a1]) rfl)
        refine ListK.indexVW (i := 9) (u := strV [c0, c1, c2, c3, c4, c5, c6]) (u' := .int .i64 0) (v := u8V c0) rfl (by simp [hz_a1]) (by simp) (ix9 (k := 0) rfl _) ?_ (hw := wanted_g (e := 11) (b' := true) rfl (by simp [hz_a1]) rfl)
        refine ListK.bin (i := 10) (u := u8V c0) (u' := .int .u8 82) (v := .bool false) rfl (by simp [hz_a1]) (by simp) (by rw [← d2]; exact neq5n c0 82 _) ?_ (hw := wanted_g (e := 11) (b' := true) rfl (by simp [hz_a1]) rfl)
        refine ListK.pickW (i := 11) (b := true) (v := .bool false) rfl (by simp [hz_a1]) (by simp [hz_a1]) ?_ (hw := wanted_g (e := 7) (b' := false) rfl (by simp [hz_a1]) rfl)
        refine ListK.move (i := 12) (v := .bool false) rfl (by simp [hz_a1]) ?_ (hw := wanted_g (e := 7) (b' := false) rfl (by simp [hz_a1]) rfl)
        refine ListK.passG (i := 13) (e := 16) (b' := false) rfl rfl (by simp [hz_a1]) rfl ?_
        refine ListK.passG (i := 14) (e := 16) (b' := false) rfl rfl (by simp [hz_a1]) rfl ?_
        refine ListK.passG (i := 15) (e := 16) (b' := false) rfl rfl (by simp [hz_a1]) rfl ?_
        refine ListK.pickW (i := 16) (b := false) (v := .bool false) rfl (by simp [hz_a1]) (by simp) ?_ (hw := wanted_g (e := 7) (b' := false) rfl (by simp [hz_a1]) rfl)
        refine ListK.pick (i := 17) (b := false) (v := .bool false) rfl (by simp [hz_a1]) (by simp [hz_a1]) ?_
        refine ListK.done (hK _ _ ?_)
        clear hK K
        refine wpIn_cond (t := false) (by simp [hz_a1]) (wpIn_skip ?_)
        exact ig_b_any (.inr (.inl h2)) (by simp only [size_put, hz_a1]) (by simp only [defers_put, hd_a1]) (by simp [u0])
      · have d2 : (!decide (c0 = 82)) = true := by simp [h2]
        by_cases h3 : c0 = 80
        · have d3 : (!decide (c0 = 80)) = false := by simp [h3]
          refine wpIn_seq (wpIn_seq (region_p 18 ?_))
          intro K hK
          refine ListK.move (i := 0) (v := strV [c0, c1, c2, c3, c4, c5, c6]) rfl (by simp [u0]) ?_
          refine ListK.len (i := 1) (u := strV [c0, c1, c2, c3, c4, c5, c6]) (v := .int .i64 (([c0, c1, c2, c3, c4, c5, c6]).length : Int)) rfl (by simp [hz_a1]) (ln9 _ _ _) rfl ?_
          refine ListK.bin (i := 2) (u := .int .i64 (([c0, c1, c2, c3, c4, c5, c6]).length : Int)) (u' := .int .i64 7) (v := .bool false) rfl (by simp [hz_a1]) (by simp) (neqF (by simp) _) ?_
          refine ListK.move (i := 3) (v := .bool false) rfl (by simp [hz_a1]) ?_
          refine ListK.move (i := 4) (v := strV [c0, c1, c2, c3, c4, c5, c6]) rfl (by simp [u0]) ?_ (hw := wanted_g (e := 7) (b' := false) rfl (by simp [hz_a1]) rfl)
          refine ListK.indexVW (i := 5) (u := strV [c0, c1, c2, c3, c4, c5, c6]) (u' := .int .i64 0) (v := u8V c0) rfl (by simp [hz_a1]) (by simp) (ix9 (k := 0) rfl _) ?_ (hw := wanted_g (e := 7) (b' := false) rfl (by simp [hz_a1]) rfl)
          refine ListK.bin (i := 6) (u := u8V c0) (u' := .int .u8 72) (v := .bool true) rfl (by simp [hz_a1]) (by simp) (by rw [← d1]; exact neq5n c0 72 _) ?_ (hw := wanted_g (e := 7) (b' := false) rfl (by simp [hz_a1]) rfl)
          refine ListK.move (i := 7) (v := .bool true) rfl (by simp [hz_a1]) ?_ (hw := wanted_g (e := 7) (b' := false) rfl (by simp [hz_a1]) rfl)
          refine ListK.move (i := 8) (v := strV [c0, c1, c2, c3, c4, c5, c6]) rfl (by simp [u0]) ?_ (hw := wanted_g (e := 11) (b' := true) rfl (by simp [hz_a1]) rfl)
          refine ListK.indexVW (i := 9) (u := strV [c0, c1, c2, c3, c4, c5, c6]) (u' := .int .i64 0) (v := u8V c0) rfl (by simp [hz_a1]) (by simp) (ix9 (k := 0) rfl _) ?_ (hw := wanted_g (e := 11) (b' := true) rfl (by simp [hz_a1]) rfl)
          refine ListK.bin (i := 10) (u := u8V c0) (u' := .int .u8 82) (v := .bool true) rfl (by simp [hz_a1]) (by simp) (by rw [← d2]; exact neq5n c0 82 _) ?_ (hw := wanted_g (e := 11) (b' := true) rfl (by simp [hz_a1]) rfl)
          refine ListK.pickW (i := 11) (b := true) (v := .bool true) rfl (by simp [hz_a1]) (by simp [hz_a1]) ?_ (hw := wanted_g (e := 7) (b' := false) rfl (by simp [hz_a1]) rfl)
          refine ListK.move (i := 12) (v := .bool true) rfl (by simp [hz_a1]) ?_ (hw := wanted_g (e := 7) (b' := false) rfl (by simp [hz_a1]) rfl)
          refine ListK.move (i := 13) (v := strV [c0, c1, c2, c3, c4, c5, c6]) rfl (by simp [u0]) ?_ (hw := wanted_g (e := 16) (b' := true) rfl (by simp [hz_a1]) rfl)
          refine ListK.indexVW (i := 14) (u := strV [c0, c1, c2, c3, c4, c5, c6]) (u' := .int .i64 0) (v := u8V c0) rfl (by simp [hz_a1]) (by simp) (ix9 (k := 0) rfl _) ?_ (hw := wanted_g (e := 16) (b' := true) rfl (by simp [hz_a1]) rfl)
          refine ListK.bin (i := 15) (u := u8V c0) (u' := .int .u8 80) (v := .bool false) rfl (by simp [hz_a1]) (by simp) (by rw [← d3]; exact neq5n c0 80 _) ?_ (hw := wanted_g (e := 16) (b' := true) rfl (by simp [hz_a1]) rfl)
          refine ListK.pickW (i := 16) (b := true) (v := .bool false) rfl (by simp [hz_a1]) (by simp [hz_a1]) ?_ (hw := wanted_g (e := 7) (b' := false) rfl (by simp [hz_a1]) rfl)
          refine ListK.pick (i := 17) (b := false) (v := .bool false) rfl (by simp [hz_a1]) (by simp [hz_a1]) ?_
          refine ListK.done (hK _ _ ?_)
          clear hK K
          refine wpIn_cond (t := false) (by simp [hz_a1]) (wpIn_skip ?_)
          exact ig_b_any (.inr (.inr h3)) (by simp only [size_put, hz_a1]) (by simp only [defers_put, hd_a1]) (by simp [u0])
        · have d3 : (!decide (c0 = 80)) = true := by simp [h3]
          have hv : isGood [c0, c1, c2, c3, c4, c5, c6] = false := by
            show good7 c0 c1 c2 c3 c4 c5 c6 = false
            simp [good7, h1, h2, h3]
          refine wpIn_seq (wpIn_seq (region_p 18 ?_))
          intro K hK
          refine ListK.move (i := 0) (v := strV [c0, c1, c2, c3, c4, c5, c6]) rfl (by simp [u0]) ?_
          refine ListK.len (i := 1) (u := strV [c0, c1, c2, c3, c4, c5, c6]) (v := .int .i64 (([c0, c1, c2, c3, c4, c5, c6]).length : Int)) rfl (by simp [hz_a1]) (ln9 _ _ _) rfl ?_
          refine ListK.bin (i := 2) (u := .int .i64 (([c0, c1, c2, c3, c4, c5, c6]).length : Int)) (u' := .int .i64 7) (v := .bool false) rfl (by simp [hz_a1]) (by simp) (neqF (by simp) _) ?_
          refine ListK.move (i := 3) (v := .bool false) rfl (by simp [hz_a1]) ?_
          refine ListK.move (i := 4) (v := strV [c0, c1, c2, c3, c4, c5, c6]) rfl (by simp [u0]) ?_ (hw := wanted_g (e := 7) (b' := false) rfl (by simp [hz_a1]) rfl)
          refine ListK.indexVW (i := 5) (u := strV [c0, c1, c2, c3, c4, c5, c6]) (u' := .int .i64 0) (v := u8V c0) rfl (by simp [hz_a1]) (by simp) (ix9 (k := 0) rfl _) ?_ (hw := wanted_g (e := 7) (b' := false) rfl (by simp [hz_a1]) rfl)
          refine ListK.bin (i := 6) (u := u8V c0) (u' := .int .u8 72) (v := .bool true) rfl (by simp [hz_a1]) (by simp) (by rw [← d1]; exact neq5n c0 72 _) ?_ (hw := wanted_g (e := 7) (b' := false) rfl (by simp [hz_a1]) rfl)
          refine ListK.move (i := 7) (v := .bool true) rfl (by simp [hz_a1]) ?_ (hw := wanted_g (e := 7) (b' := false) rfl (by simp [hz_a1]) rfl)
          refine ListK.move (i := 8) (v := strV [c0, c1, c2, c3, c4, c5, c6]) rfl (by simp [u0]) ?_ (hw := wanted_g (e := 11) (b' := true) rfl (by simp [hz_a1]) rfl)
          refine ListK.indexVW (i := 9) (u := strV [c0, c1, c2, c3, c4, c5, c6]) (u' := .int .i64 0) (v := u8V c0) rfl (by simp [hz_a1]) (by simp) (ix9 (k := 0) rfl _) ?_ (hw := wanted_g (e := 11) (b' := true) rfl (by simp [hz_a1]) rfl)
          refine ListK.bin (i := 10) (u := u8V c0) (u' := .int .u8 82) (v := .bool true) rfl (by simp [hz_a1]) (by simp) (by rw [← d2]; exact neq5n c0 82 _) ?_ (hw := wanted_g (e := 11) (b' := true) rfl (by simp [hz_a1]) rfl)
          refine ListK.pickW (i := 11) (b := true) (v := .bool true) rfl (by simp [hz_a1]) (by simp [hz_a1]) ?_ (hw := wanted_g (e := 7) (b' := false) rfl (by simp [hz_a1]) rfl)
          refine ListK.move (i := 12) (v := .bool true) rfl (by simp [hz_a1]) ?_ (hw := wanted_g (e := 7) (b' := false) rfl (by simp [hz_a1]) rfl)
          refine ListK.move (i := 13) (v := strV [c0, c1, c2, c3, c4, c5, c6]) rfl (by simp [u0]) ?_ (hw := wanted_g (e := 16) (b' := true) rfl (by simp [hz_a1]) rfl)
          refine ListK.indexVW (i := 14) (u := strV [c0, c1, c2, c3, c4, c5, c6]) (u' := .int .i64 0) (v := u8V c0) rfl (by simp [hz_a1]) (by simp) (ix9 (k := 0) rfl _) ?_ (hw := wanted_g (e := 16) (b' := true) rfl (by simp [hz_a1]) rfl)
          refine ListK.bin (i := 15) (u := u8V c0) (u' := .int .u8 80) (v := .bool true) rfl (by simp [hz_a1]) (by simp) (by rw [← d3]; exact neq5n c0 80 _) ?_ (hw := wanted_g (e := 16) (b' := true) rfl (by simp [hz_a1]) rfl)
          refine ListK.pickW (i := 16) (b := true) (v := .bool true) rfl (by simp [hz_a1]) (by simp [hz_a1]) ?_ (hw := wanted_g (e := 7) (b' := false) rfl (by simp [hz_a1]) rfl)
          refine ListK.pick (i := 17) (b := false) (v := .bool true) rfl (by simp [hz_a1]) (by simp [hz_a1]) ?_
          refine ListK.done (hK _ _ ?_)
          clear hK K
          refine wpIn_cond (t := true) (by simp [hz_a1]) ?_
          generalize hA : Act.put _ _ _ = a2
          have hz_a2 : a2.tmps.size = 64 := by rw [← hA]; simp only [size_put, hz_a1]
          have v0 : a2.eval (.tmp 0) = strV [c0, c1, c2, c3, c4, c5, c6] := by rw [← hA]; exact (by simp [u0])
          have hd_a2 : a2.defers = [] := by rw [← hA]; simp only [defers_put, hd_a1]
          clear hA
          refine wpIn_seq (region_p 1 ?_)
          intro K hK
          refine ListK.assign (i := 0) (v := .bool false) rfl (by simp) ?_
          refine ListK.done (hK _ _ (wpIn_ret ?_))
          exact bodyPost_ret (v := .bool (isGood [c0, c1, c2, c3, c4, c5, c6])) (res1 Try.results60 (by rw [hv]; exact (by simp [hz_a2]))) (by simp only [defers_put, hd_a2]) ⟨rfl, Below.refl _ _⟩
  · have hv : isGood l = false := by
      unfold isGood
      split
      · exact (h7 rfl).elim
      · rfl
    refine wpIn_seq (wpIn_seq (region_p 18 ?_))
    intro K hK
    refine ListK.move (i := 0) (v := strV l) rfl (by simp [u0]) ?_
    refine ListK.len (i := 1) (u := strV l) (v := .int .i64 ((l).length : Int)) rfl (by simp [hz_a1]) (ln9 _ _ _) rfl ?_
    refine ListK.bin (i := 2) (u := .int .i64 ((l).length : Int)) (u' := .int .i64 7) (v := .bool true) rfl (by simp [hz_a1]) (by simp) (neqT (by omega) _) ?_
    refine ListK.move (i := 3) (v := .bool true) rfl (by simp [hz_a1]) ?_
    refine ListK.passG (i := 4) (e := 7) (b' := true) rfl rfl (by simp [hz_a1]) rfl ?_
    refine ListK.passG (i := 5) (e := 7) (b' := true) rfl rfl (by simp [hz_a1]) rfl ?_
    refine ListK.passG (i := 6) (e := 7) (b' := true) rfl rfl (by simp [hz_a1]) rfl ?_
    refine ListK.passG (i := 7) (e := 7) (b' := true) rfl rfl (by simp [hz_a1]) rfl ?_
    refine ListK.passU (i := 8) (e := 11) rfl rfl (by simp [hz_a1]) ?_
    refine ListK.passU (i := 9) (e := 11) rfl rfl (by simp [hz_a1]) ?_
    refine ListK.passU (i := 10) (e := 11) rfl rfl (by simp [hz_a1]) ?_
    refine ListK.passG (i := 11) (e := 7) (b' := true) rfl rfl (by simp [hz_a1]) rfl ?_
    refine ListK.passG (i := 12) (e := 7) (b' := true) rfl rfl (by simp [hz_a1]) rfl ?_
    refine ListK.passU (i := 13) (e := 16) rfl rfl (by simp [hz_a1]) ?_
    refine ListK.passU (i := 14) (e := 16) rfl rfl (by simp [hz_a1]) ?_
    refine ListK.passU (i := 15) (e := 16) rfl rfl (by simp [hz_a1]) ?_
    refine ListK.passG (i := 16) (e := 7) (b' := true) rfl rfl (by simp [hz_a1]) rfl ?_
    refine ListK.pick (i := 17) (b := true) (v := .bool true) rfl (by simp [hz_a1]) (by simp) ?_
    refine ListK.done (hK _ _ ?_)
    clear hK K
    refine wpIn_cond (t := true) (by simp [hz_a1]) ?_
    generalize hA : Act.put _ _ _ = a2
    have hz_a2 : a2.tmps.size = 64 := by rw [← hA]; simp only [size_put, hz_a1]
    have v0 : a2.eval (.tmp 0) = strV l := by rw [← hA]; exact (by simp [u0])
    have hd_a2 : a2.defers = [] := by rw [← hA]; simp only [defers_put, hd_a1]
    clear hA
    refine wpIn_seq (region_p 1 ?_)
    intro K hK
    refine ListK.assign (i := 0) (v := .bool false) rfl (by simp) ?_
    refine ListK.done (hK _ _ (wpIn_ret ?_))
    exact bodyPost_ret (v := .bool (isGood l)) (res1 Try.results60 (by rw [hv]; exact (by simp [hz_a2]))) (by simp only [defers_put, hd_a2]) ⟨rfl, Below.refl _ _⟩
end Go.Proofs.YtmdlmmfbcnkanaaR
namespace Go.Proofs.YtmdlmmfbcnkanaaR
open Go.RowKit Go.Shelf
noncomputable def opsGo30 : Array Oper := (Try.f32.body.bind (regionOf 0)).getD #[]
noncomputable def opsGo31 : Array Oper := (Try.f32.body.bind (regionOf 1)).getD #[]
noncomputable def opsGo32 : Array Oper := (Try.f32.body.bind (regionOf 2)).getD #[]
noncomputable def opsGo33 : Array Oper := (Try.f32.body.bind (regionOf 3)).getD #[]
noncomputable def opsGo34 : Array Oper := (Try.f32.body.bind (regionOf 4)).getD #[]
noncomputable def opsGo35 : Array Oper := (Try.f32.body.bind (regionOf 5)).getD #[]
noncomputable def opsGo36 : Array Oper := (Try.f32.body.bind (regionOf 6)).getD #[]
noncomputable def opsGo37 : Array Oper := (Try.f32.body.bind (regionOf 7)).getD #[]
noncomputable def gd_l : Code := (.seq (.seq (.region 3 opsGo33 false) (.cond (.tmp 8) .skip (.exit 0))) (.seq (.block 1 (.seq (.region 5 opsGo35 false) (.cond (.tmp 15) (.region 6 opsGo36 false) .skip))) (.region 4 opsGo34 false)))
noncomputable def code32 : Code := (.seq (.region 0 opsGo30 false) (.seq (.region 1 opsGo31 false) (.seq (.seq (.region 2 opsGo32 false) (.block 0 (.loop gd_l))) (.seq (.region 7 opsGo37 false) .ret))))
theorem body32 : Try.f32.body = some code32 := by kernel_rfl
set_option maxHeartbeats 400000 in
theorem refGood_any (A : Option Addr) (c : Nat) (L : List (List UInt8)) (hL : L.length ≤ 90000) (hx8 : ∀ x, x ∈ L → x.length ≤ 100000) (W : World) (hst : StrsAt W W.heap.size A L) : Calls Try.prog 32 #[.slice A L.length c] W (fun e w' => ∃ v, e = .returned v ∧ OS W v (L.filter isGood) w') := by
  refine (callsIn_wide (n := 5)).1 (callsIn_of_wp Try.func32 body32 trivial ?_ rfl)
  obtain ⟨a, ha⟩ : ∃ a : Act, a = { tmps := #[.slice A L.length c] ++ Array.replicate (Try.f32.ntmps - (#[.slice A L.length c] : Array Value).size) undef, defers := [] } := ⟨_, rfl⟩
  have hsz : a.tmps.size = 24 := by rw [ha]; simp [Try.ntmps32]
  have t0 : a.eval (.tmp 0) = .slice A L.length c := by rw [ha]; simp [Act.eval]
  have hd_a : a.defers = [] := by rw [ha]
  rw [← ha]
  clear ha
  unfold code32
  refine wpIn_seq (region_p 1 ?_)
  intro K hK
  refine ListK.assign (i := 0) (v := .slice none 0 0) rfl (by simp) ?_
  refine ListK.done (hK _ _ ?_)
  clear hK K
  refine wpIn_seq (region_p 1 ?_)
  intro K hK
  refine ListK.assign (i := 0) (v := .slice none 0 0) rfl (by simp) ?_
  refine ListK.done (hK _ _ ?_)
  clear hK K
  refine wpIn_seq (wpIn_seq (region_p 1 ?_))
  intro K hK
  refine ListK.assign (i := 0) (v := .int .i64 0) rfl (by simp) ?_
  refine ListK.done (hK _ _ ?_)
  clear hK K
  generalize hA : Act.put _ _ _ = a1
  have hz_a1 : a1.tmps.size = 24 := by rw [← hA]; simp only [size_put, hsz]
  have u0 : a1.eval (.tmp 0) = .slice A L.length c := by rw [← hA]; exact (by simp [t0])
  have u3 : a1.eval (.tmp 3) = .slice none 0 0 := by rw [← hA]; exact (by simp [hsz])
  have u4 : a1.eval (.tmp 4) = .int .i64 0 := by rw [← hA]; exact (by simp [hsz])
  have hd_a1 : a1.defers = [] := by rw [← hA]; simp only [defers_put, hd_a]
  clear hA
  refine wpIn_block (wpIn_loop (fun a W' => ∃ (i : Nat) (v : Value), i ≤ L.length ∧ OS W v ((L.take i).filter isGood) W' ∧ a.tmps.size = 24 ∧ a.defers = [] ∧ a.eval (.tmp 0) = .slice A L.length c ∧ a.eval (.tmp 3) = v ∧ a.eval (.tmp 4) = .int .i64 (i : Int)) (fun a _ => L.length - (intOf (a.eval (.tmp 4))).toNat)
    ⟨0, _, Nat.zero_le _, os_none W, hz_a1, hd_a1, u0, u3, u4⟩ ?_)
  rintro b1 W1 ⟨i, v, hi, os, hz_b1, hd_b1, s0, s3, s4⟩
  unfold gd_l
  by_cases hlt : i < L.length
  · have hx := List.getElem?_eq_getElem hlt
    obtain ⟨gb, off, hA, hgb, hc⟩ := hst i _ hx
    have hc1 := (os.low.cell (p := ⟨gb, off + i, none⟩) hgb).trans hc
    have hxl := hx8 L[i] (List.getElem_mem hlt)
    obtain ⟨x, hxe⟩ : ∃ x, L[i] = x := ⟨_, rfl⟩
    rw [hxe] at hx hc hc1 hxl
    have htk : L.take (i + 1) = L.take i ++ [x] := by rw [List.take_add_one, hx]; rfl
    have hnext : ∀ (b : Act) (W' : World) (v' : Value), b.tmps.size = 24 → b.defers = [] → b.eval (.tmp 0) = .slice A L.length c → b.eval (.tmp 3) = v' → b.eval (.tmp 4) = .int .i64 (i : Int) → OS W v' ((L.take (i + 1)).filter isGood) W' →
        (Code.region 4 opsGo34 false).wpIn Fence.wide 5 Try.prog (fun e a' w' => e = .normal ∧ (∃ (i : Nat) (v : Value), i ≤ L.length ∧ OS W v ((L.take i).filter isGood) w' ∧ a'.tmps.size = 24 ∧ a'.defers = [] ∧ a'.eval (.tmp 0) = .slice A L.length c ∧ a'.eval (.tmp 3) = v ∧ a'.eval (.tmp 4) = .int .i64 (i : Int)) ∧ L.length - (intOf (a'.eval (.tmp 4))).toNat < L.length - (intOf (b1.eval (.tmp 4))).toNat) b W' := by
      intro b W' v' hz_b hd_b p0 p3 p4 os'
      refine region_p 3 ?_
      intro K hK
      refine ListK.move (i := 0) (v := .int .i64 (i : Int)) rfl (by simp [p4]) ?_
      refine ListK.bin (i := 1) (u := .int .i64 (i : Int)) (u' := .int .i64 1) (v := .int .i64 ((i + 1 : Nat) : Int)) rfl (by simp [hz_b]) (by simp) (add3 (by omega) (by omega) _) ?_
      refine ListK.assign (i := 2) (v := .int .i64 ((i + 1 : Nat) : Int)) rfl (by simp [hz_b]) ?_
      refine ListK.done (hK _ _ ?_)
      clear hK K
      refine ⟨rfl, ⟨i + 1, v', by omega, os', (by simp only [size_put, hz_b]), (by simp only [defers_put, hd_b]), (by simp [p0]), (by simp [p3]), (by simp [hz_b])⟩, ?_⟩
      rw [s4, show (Act.put _ _ _).eval (.tmp 4) = .int .i64 ((i + 1 : Nat) : Int) from (by simp [hz_b])]
      simp only [intOf]
      omega
    subst hA
    refine wpIn_seq (wpIn_seq (region_p 4 ?_))
    intro K hK
    refine ListK.move (i := 0) (v := .int .i64 (i : Int)) rfl (by simp [s4]) ?_
    refine ListK.move (i := 1) (v := .slice (some ⟨gb, off, none⟩) L.length c) rfl (by simp [s0]) ?_
    refine ListK.len (i := 2) (u := .slice (some ⟨gb, off, none⟩) L.length c) (v := .int .i64 L.length) rfl (by simp [hz_b1]) (ln36 _ _ _ _ _) rfl ?_
    refine ListK.bin (i := 3) (u := .int .i64 (i : Int)) (u' := .int .i64 L.length) (v := .bool true) rfl (by simp [hz_b1]) (by simp [hz_b1]) (lssT3 (by omega) _) ?_
    refine ListK.done (hK _ _ ?_)
    clear hK K
    refine wpIn_cond (t := true) (by simp [hz_b1]) (wpIn_skip ?_)
    generalize hA : Act.put _ _ _ = b2
    have hz_b2 : b2.tmps.size = 24 := by rw [← hA]; simp only [size_put, hz_b1]
    have o0 : b2.eval (.tmp 0) = .slice (some ⟨gb, off, none⟩) L.length c := by rw [← hA]; exact (by simp [s0])
    have o3 : b2.eval (.tmp 3) = v := by rw [← hA]; exact (by simp [s3])
    have o4 : b2.eval (.tmp 4) = .int .i64 (i : Int) := by rw [← hA]; exact (by simp [s4])
    have hd_b2 : b2.defers = [] := by rw [← hA]; simp only [defers_put, hd_b1]
    clear hA
    refine wpIn_seq (wpIn_block ?_)
    refine wpIn_seq (region_p 5 ?_)
    intro K hK
    refine ListK.move (i := 0) (v := .slice (some ⟨gb, off, none⟩) L.length c) rfl (by simp [o0]) ?_
    refine ListK.move (i := 1) (v := .int .i64 (i : Int)) rfl (by simp [o4]) ?_
    refine ListK.index (i := 2) (u := .slice (some ⟨gb, off, none⟩) L.length c) (u' := .int .i64 (i : Int)) (v := .pointer (some ⟨gb, off + i, none⟩)) rfl (by simp [hz_b2]) (by simp [hz_b2]) (ix36 hlt _) ?_
    refine ListK.load (i := 3) (p := ⟨gb, off + i, none⟩) (v := strV x) rfl (by simp [hz_b2]) (ld9 (hc1)) ?_
    refine ListK.call (i := 4) (vs := #[strV x]) rfl (enters_of Try.func60 (by kernel_rfl) rfl) (by simp [hz_b2]) ((isGood_any x hxl W1).mono ?_)
    rintro _ W2 ⟨rfl, hb2⟩
    refine ⟨_, rfl, ?_⟩
    refine ListK.done (hK _ _ ?_)
    clear hK K
    have os2 := os.below hb2
    cases hg : isGood x
    · refine wpIn_cond (t := false) (by rw [← hg]; exact (by simp [hz_b2])) (wpIn_skip ?_)
      refine Go.Code.wpIn_mono (fun e a'' w'' hq => ?_) (hnext _ W2 v (by simp only [size_put, hz_b2]) (by simp only [defers_put, hd_b2]) (by simp [o0]) (by simp [o3]) (by simp [o4]) (by rw [htk, List.filter_append, List.filter_cons_of_neg (by rw [hg]; decide)]; simpa using os2))
      obtain ⟨rfl, h1, h2⟩ := hq
      exact ⟨h1, h2⟩
    · refine wpIn_cond (t := true) (by rw [← hg]; exact (by simp [hz_b2])) ?_
      generalize hA : Act.put _ _ _ = b3
      have hz_b3 : b3.tmps.size = 24 := by rw [← hA]; simp only [size_put, hz_b2]
      have q0 : b3.eval (.tmp 0) = .slice (some ⟨gb, off, none⟩) L.length c := by rw [← hA]; exact (by simp [o0])
      have q3 : b3.eval (.tmp 3) = v := by rw [← hA]; exact (by simp [o3])
      have q4 : b3.eval (.tmp 4) = .int .i64 (i : Int) := by rw [← hA]; exact (by simp [o4])
      have hd_b3 : b3.defers = [] := by rw [← hA]; simp only [defers_put, hd_b2]
      clear hA
      have hc2 := (os2.low.cell (p := ⟨gb, off + i, none⟩) hgb).trans hc
      have hfl : ((L.take i).filter isGood).length ≤ 90000 := by
        have h1 := List.length_filter_le isGood (L.take i)
        rw [List.length_take] at h1
        omega
      obtain ⟨v4, W4, hap4, os4⟩ := app36_run (l := x) (b := W2.heap.size) (c := 1) (ty := 36) (os2.below ((Below.refl W2.heap.size W2).alloc (Nat.le_refl _) (.cells #[strV x] 9))) ((Whole.new W2 9 #[strV x]).cell 0) (by omega)
      refine region_p 8 ?_
      intro K hK
      refine ListK.move (i := 0) (v := v) rfl (by simp [q3]) ?_
      refine ListK.move (i := 1) (v := .slice (some ⟨gb, off, none⟩) L.length c) rfl (by simp [q0]) ?_
      refine ListK.move (i := 2) (v := .int .i64 (i : Int)) rfl (by simp [q4]) ?_
      refine ListK.index (i := 3) (u := .slice (some ⟨gb, off, none⟩) L.length c) (u' := .int .i64 (i : Int)) (v := .pointer (some ⟨gb, off + i, none⟩)) rfl (by simp [hz_b3]) (by simp [hz_b3]) (ix36 hlt _) ?_
      refine ListK.load (i := 4) (p := ⟨gb, off + i, none⟩) (v := strV x) rfl (by simp [hz_b3]) (ld9 (hc2)) ?_
      refine ListK.bsl (i := 5) (ps := #[(0, strV x)]) (v := .slice (some ⟨W2.heap.size, 0, none⟩) 1 1) rfl (by simp [hz_b3]) (bs36_1 _ W2) ?_
      refine ListK.app36 (i := 6) rfl (by simp [hz_b3]) (by simp [hz_b3]) hap4 ?_
      refine ListK.assign (i := 7) (v := v4) rfl (by simp [hz_b3]) ?_
      refine ListK.done (hK _ _ ?_)
      clear hK K
      refine Go.Code.wpIn_mono (fun e a'' w'' hq => ?_) (hnext _ W4 v4 (by simp only [size_put, hz_b3]) (by simp only [defers_put, hd_b3]) (by simp [q0]) (by simp [hz_b3]) (by simp [q4]) (by rw [htk, List.filter_append, List.filter_cons_of_pos hg]; exact os4))
      obtain ⟨rfl, h1, h2⟩ := hq
      exact ⟨h1, h2⟩
  · have hie : i = L.length := by omega
    refine wpIn_seq (wpIn_seq (region_p 4 ?_))
    intro K hK
    refine ListK.move (i := 0) (v := .int .i64 (i : Int)) rfl (by simp [s4]) ?_
    refine ListK.move (i := 1) (v := .slice A L.length c) rfl (by simp [s0]) ?_
    refine ListK.len (i := 2) (u := .slice A L.length c) (v := .int .i64 L.length) rfl (by simp [hz_b1]) (ln36 _ _ _ _ _) rfl ?_
    refine ListK.bin (i := 3) (u := .int .i64 (i : Int)) (u' := .int .i64 L.length) (v := .bool false) rfl (by simp [hz_b1]) (by simp [hz_b1]) (lssF3 (by omega) _) ?_
    refine ListK.done (hK _ _ ?_)
    clear hK K
    refine wpIn_cond (t := false) (by simp [hz_b1]) (wpIn_exit ?_)
    show (Code.wpIn _ _ _ (Code.seq _ _) _ _ _)
    rw [hie, List.take_length] at os
    refine wpIn_seq (region_p 2 ?_)
    intro K hK
    refine ListK.move (i := 0) (v := v) rfl (by simp [s3]) ?_
    refine ListK.assign (i := 1) (v := v) rfl (by simp [hz_b1]) ?_
    refine ListK.done (hK _ _ (wpIn_ret ?_))
    exact bodyPost_ret (v := v) (res1 Try.results32 (by simp [hz_b1])) (by simp only [defers_put, hd_b1]) ⟨v, rfl, os⟩
theorem without_app : ∀ (l1 out l2 : List (List UInt8)), withoutL out (l1 ++ l2) = withoutL (withoutL out l1) l2
  | [], out, l2 => rfl
  | p :: l1, out, l2 => by
    rw [List.cons_append, withoutL, without_app l1 _ l2]
    conv => rhs; rw [withoutL]
noncomputable def opsWo0 : Array Oper := (Try.f38.body.bind (regionOf 0)).getD #[]
noncomputable def opsWo1 : Array Oper := (Try.f38.body.bind (regionOf 1)).getD #[]
noncomputable def opsWo2 : Array Oper := (Try.f38.body.bind (regionOf 2)).getD #[]
noncomputable def opsWo3 : Array Oper := (Try.f38.body.bind (regionOf 3)).getD #[]
noncomputable def opsWo4 : Array Oper := (Try.f38.body.bind (regionOf 4)).getD #[]
noncomputable def opsWo5 : Array Oper := (Try.f38.body.bind (regionOf 5)).getD #[]
noncomputable def opsWo6 : Array Oper := (Try.f38.body.bind (regionOf 6)).getD #[]
noncomputable def opsWo7 : Array Oper := (Try.f38.body.bind (regionOf 7)).getD #[]
noncomputable def opsWo8 : Array Oper := (Try.f38.body.bind (regionOf 8)).getD #[]
noncomputable def opsWo9 : Array Oper := (Try.f38.body.bind (regionOf 9)).getD #[]
noncomputable def opsWo10 : Array Oper := (Try.f38.body.bind (regionOf 10)).getD #[]
noncomputable def opsWo11 : Array Oper := (Try.f38.body.bind (regionOf 11)).getD #[]
noncomputable def opsWo12 : Array Oper := (Try.f38.body.bind (regionOf 12)).getD #[]
noncomputable def wo_k : Code := (.seq (.seq (.region 7 opsWo7 false) (.cond (.tmp 16) .skip (.exit 2))) (.seq (.block 3 (.region 9 opsWo9 true)) (.region 8 opsWo8 false)))
noncomputable def wo_c : Code := (.seq (.region 10 opsWo10 false) (.cond (.tmp 32) (.region 11 opsWo11 false) .skip))
noncomputable def wo_b : Code := (.seq (.seq (.region 6 opsWo6 false) (.block 2 (.loop wo_k))) wo_c)
noncomputable def wo_l : Code := (.seq (.seq (.region 3 opsWo3 false) (.cond (.tmp 10) .skip (.exit 0))) (.seq (.block 1 (.seq (.region 5 opsWo5 false) wo_b)) (.region 4 opsWo4 false)))
noncomputable def code38 : Code := (.seq (.region 0 opsWo0 false) (.seq (.region 1 opsWo1 false) (.seq (.seq (.region 2 opsWo2 false) (.block 0 (.loop wo_l))) (.seq (.region 12 opsWo12 false) .ret))))
theorem body38 : Try.f38.body = some code38 := by kernel_rfl
section
attribute [local irreducible] AnyK StepK
variable {L O : List (List UInt8)} {W : World} {x : List UInt8} {c gb off i : Nat} {v : Value}
set_option maxHeartbeats 400000 in
theorem wo_c_any {a : Act} {W1 : World} {Q : Exit → Act → World → Prop} (hO : O.length ≤ 90000) (hlt : i < L.length) (hc : W1.cell? ⟨gb, off + i, none⟩ = some (strV x)) (os : OS W v O W1)
    (hz : a.tmps.size = 41) (hd_a : a.defers = []) (t0 : a.eval (.tmp 0) = .slice (some ⟨gb, off, none⟩) L.length c) (t3 : a.eval (.tmp 3) = v) (t4 : a.eval (.tmp 4) = .int .i64 (i : Int)) (t5 : a.eval (.tmp 5) = .bool (decide (x ∈ O)))
    (hQ : ∀ (b : Act) (W' : World) (v' : Value), b.tmps.size = 41 → b.defers = [] → b.eval (.tmp 0) = .slice (some ⟨gb, off, none⟩) L.length c → b.eval (.tmp 3) = v' → b.eval (.tmp 4) = .int .i64 (i : Int) → OS W v' (if x ∈ O then O else O ++ [x]) W' → Q .normal b W') :
    wo_c.wpIn Fence.wide 5 Try.prog Q a W1 := by
  unfold wo_c
  by_cases hin : x ∈ O
  · rw [decide_eq_true hin] at t5
    refine wpIn_seq (region_p 2 ?_)
    intro K hK
    refine ListK.move (i := 0) (v := .bool true) rfl (by simp [t5]) ?_
    refine ListK.un (i := 1) (u := .bool true) (v := .bool false) rfl (by simp [hz]) (not4 _ _) ?_
    refine ListK.done (hK _ _ ?_)
    clear hK K
    refine wpIn_cond (t := false) (by simp [hz]) (wpIn_skip ?_)
    exact hQ _ _ v (by simp only [size_put, hz]) (by simp only [defers_put, hd_a]) (by simp [t0]) (by simp [t3]) (by simp [t4]) (by rw [if_pos hin]; exact os)
  · rw [decide_eq_false hin] at t5
    refine wpIn_seq (region_p 2 ?_)
    intro K hK
    refine ListK.move (i := 0) (v := .bool false) rfl (by simp [t5]) ?_
    refine ListK.un (i := 1) (u := .bool false) (v := .bool true) rfl (by simp [hz]) (not4 _ _) ?_
    refine ListK.done (hK _ _ ?_)
    clear hK K
    refine wpIn_cond (t := true) (by simp [hz]) ?_
    generalize hA : Act.put _ _ _ = b3
    have hz_b3 : b3.tmps.size = 41 := by rw [← hA]; simp only [size_put, hz]
    have q0 : b3.eval (.tmp 0) = .slice (some ⟨gb, off, none⟩) L.length c := by rw [← hA]; exact (by simp [t0])
    have q3 : b3.eval (.tmp 3) = v := by rw [← hA]; exact (by simp [t3])
    have q4 : b3.eval (.tmp 4) = .int .i64 (i : Int) := by rw [← hA]; exact (by simp [t4])
    have hd_b3 : b3.defers = [] := by rw [← hA]; simp only [defers_put, hd_a]
    clear hA
    obtain ⟨v4, W4, hap4, os4⟩ := app36_run (l := x) (b := W1.heap.size) (c := 1) (ty := 36) (os.below ((Below.refl W1.heap.size W1).alloc (Nat.le_refl _) (.cells #[strV x] 9))) ((Whole.new W1 9 #[strV x]).cell 0) (by omega)
    refine region_p 8 ?_
    intro K hK
    refine ListK.move (i := 0) (v := v) rfl (by simp [q3]) ?_
    refine ListK.move (i := 1) (v := .slice (some ⟨gb, off, none⟩) L.length c) rfl (by simp [q0]) ?_
    refine ListK.move (i := 2) (v := .int .i64 (i : Int)) rfl (by simp [q4]) ?_
    refine ListK.index (i := 3) (u := .slice (some ⟨gb, off, none⟩) L.length c) (u' := .int .i64 (i : Int)) (v := .pointer (some ⟨gb, off + i, none⟩)) rfl (by simp [hz_b3]) (by simp [hz_b3]) (ix36 hlt _) ?_
    refine ListK.load (i := 4) (p := ⟨gb, off + i, none⟩) (v := strV x) rfl (by simp [hz_b3]) (ld9 (hc)) ?_
    refine ListK.bsl (i := 5) (ps := #[(0, strV x)]) (v := .slice (some ⟨W1.heap.size, 0, none⟩) 1 1) rfl (by simp [hz_b3]) (bs36_1 _ W1) ?_
    refine ListK.app36 (i := 6) rfl (by simp [hz_b3]) (by simp [hz_b3]) hap4 ?_
    refine ListK.assign (i := 7) (v := v4) rfl (by simp [hz_b3]) ?_
    refine ListK.done (hK _ _ ?_)
    clear hK K
    exact hQ _ _ v4 (by simp only [size_put, hz_b3]) (by simp only [defers_put, hd_b3]) (by simp [q0]) (by simp [hz_b3]) (by simp [q4]) (by rw [if_neg hin]; exact os4)
set_option maxHeartbeats 400000 in
theorem wo_b_any {a : Act} {W1 : World} {Q : Exit → Act → World → Prop} (hO : O.length ≤ 90000) (hlt : i < L.length) (hgb : gb < W1.heap.size) (hc : W1.cell? ⟨gb, off + i, none⟩ = some (strV x)) (os : OS W v O W1)
    (hz : a.tmps.size = 41) (hd_a : a.defers = []) (t0 : a.eval (.tmp 0) = .slice (some ⟨gb, off, none⟩) L.length c) (t3 : a.eval (.tmp 3) = v) (t4 : a.eval (.tmp 4) = .int .i64 (i : Int)) (t5 : a.eval (.tmp 5) = .bool false)
    (hQ : ∀ (b : Act) (W' : World) (v' : Value), b.tmps.size = 41 → b.defers = [] → b.eval (.tmp 0) = .slice (some ⟨gb, off, none⟩) L.length c → b.eval (.tmp 3) = v' → b.eval (.tmp 4) = .int .i64 (i : Int) → OS W v' (if x ∈ O then O else O ++ [x]) W' → Q .normal b W') :
    wo_b.wpIn Fence.wide 5 Try.prog Q a W1 := by
  obtain ⟨Ao, co, rfl, hso⟩ := os.strs
  unfold wo_b
  refine wpIn_seq (wpIn_seq (region_p 1 ?_))
  intro K hK
  refine ListK.assign (i := 0) (v := .int .i64 0) rfl (by simp) ?_
  refine ListK.done (hK _ _ ?_)
  clear hK K
  generalize hA : Act.put _ _ _ = a1
  have hz_a1 : a1.tmps.size = 41 := by rw [← hA]; simp only [size_put, hz]
  have u0 : a1.eval (.tmp 0) = .slice (some ⟨gb, off, none⟩) L.length c := by rw [← hA]; exact (by simp [t0])
  have u3 : a1.eval (.tmp 3) = .slice Ao O.length co := by rw [← hA]; exact (by simp [t3])
  have u4 : a1.eval (.tmp 4) = .int .i64 (i : Int) := by rw [← hA]; exact (by simp [t4])
  have u5 : a1.eval (.tmp 5) = .bool false := by rw [← hA]; exact (by simp [t5])
  have u6 : a1.eval (.tmp 6) = .int .i64 0 := by rw [← hA]; exact (by simp [hz])
  have hd_a1 : a1.defers = [] := by rw [← hA]; simp only [defers_put, hd_a]
  clear hA
  refine wpIn_block (wpIn_loop (fun a W' => ∃ k : Nat, Below W1.heap.size W1 W' ∧ k ≤ O.length ∧ a.tmps.size = 41 ∧ a.defers = [] ∧ a.eval (.tmp 0) = .slice (some ⟨gb, off, none⟩) L.length c ∧ a.eval (.tmp 3) = .slice Ao O.length co ∧ a.eval (.tmp 4) = .int .i64 (i : Int) ∧ a.eval (.tmp 5) = .bool (decide (x ∈ O.take k)) ∧ a.eval (.tmp 6) = .int .i64 (k : Int)) (fun a _ => O.length - (intOf (a.eval (.tmp 6))).toNat)
    ⟨0, Below.refl _ _, Nat.zero_le _, hz_a1, hd_a1, u0, u3, u4, by rw [u5]; simp, u6⟩ ?_)
  rintro b1 W2 ⟨k, hb2, hk, hz_b1, hd_b1, s0, s3, s4, s5, s6⟩
  unfold wo_k
  by_cases hkl : k < O.length
  · have hy := List.getElem?_eq_getElem hkl
    obtain ⟨g, o, hA, hg, hcg⟩ := hso k _ hy
    obtain ⟨y, hye⟩ : ∃ y, O[k] = y := ⟨_, rfl⟩
    rw [hye] at hy hcg
    subst hA
    have htk : O.take (k + 1) = O.take k ++ [y] := by rw [List.take_add_one, hy]; rfl
    have hcg2 := (hb2.cell (p := ⟨g, o + k, none⟩) hg).trans hcg
    have hc2 := (hb2.cell (p := ⟨gb, off + i, none⟩) hgb).trans hc
    have hbd := (Below.refl W2.heap.size W2).drew
    have hcg3 := (hbd.cell (p := ⟨g, o + k, none⟩) (Nat.lt_of_lt_of_le hg hb2.size)).trans hcg2
    have hc3 := (hbd.cell (p := ⟨gb, off + i, none⟩) (Nat.lt_of_lt_of_le hgb hb2.size)).trans hc2
    refine wpIn_seq (wpIn_seq (region_p 4 ?_))
    intro K hK
    refine ListK.move (i := 0) (v := .int .i64 (k : Int)) rfl (by simp [s6]) ?_
    refine ListK.move (i := 1) (v := .slice (some ⟨g, o, none⟩) O.length co) rfl (by simp [s3]) ?_
    refine ListK.len (i := 2) (u := .slice (some ⟨g, o, none⟩) O.length co) (v := .int .i64 O.length) rfl (by simp [hz_b1]) (ln36 _ _ _ _ _) rfl ?_
    refine ListK.bin (i := 3) (u := .int .i64 (k : Int)) (u' := .int .i64 O.length) (v := .bool true) rfl (by simp [hz_b1]) (by simp [hz_b1]) (lssT3 (by omega) _) ?_
    refine ListK.done (hK _ _ ?_)
    clear hK K
    refine wpIn_cond (t := true) (by simp [hz_b1]) (wpIn_skip ?_)
    generalize hA : Act.put _ _ _ = b2
    have hz_b2 : b2.tmps.size = 41 := by rw [← hA]; simp only [size_put, hz_b1]
    have o0 : b2.eval (.tmp 0) = .slice (some ⟨gb, off, none⟩) L.length c := by rw [← hA]; exact (by simp [s0])
    have o3 : b2.eval (.tmp 3) = .slice (some ⟨g, o, none⟩) O.length co := by rw [← hA]; exact (by simp [s3])
    have o4 : b2.eval (.tmp 4) = .int .i64 (i : Int) := by rw [← hA]; exact (by simp [s4])
    have o5 : b2.eval (.tmp 5) = .bool (decide (x ∈ O.take k)) := by rw [← hA]; exact (by simp [s5])
    have o6 : b2.eval (.tmp 6) = .int .i64 (k : Int) := by rw [← hA]; exact (by simp [s6])
    have hd_b2 : b2.defers = [] := by rw [← hA]; simp only [defers_put, hd_b1]
    clear hA
    refine wpIn_seq (wpIn_block ?_)
    have hnext : ∀ (b : Act) (W' : World), Below W2.heap.size W2 W' → b.tmps.size = 41 → b.defers = [] → b.eval (.tmp 0) = .slice (some ⟨gb, off, none⟩) L.length c → b.eval (.tmp 3) = .slice (some ⟨g, o, none⟩) O.length co → b.eval (.tmp 4) = .int .i64 (i : Int) → b.eval (.tmp 5) = .bool (decide (x ∈ O.take (k + 1))) → b.eval (.tmp 6) = .int .i64 (k : Int) →
        (Code.region 8 opsWo8 false).wpIn Fence.wide 5 Try.prog (fun e a' w' => e = .normal ∧ (∃ k : Nat, Below W1.heap.size W1 w' ∧ k ≤ O.length ∧ a'.tmps.size = 41 ∧ a'.defers = [] ∧ a'.eval (.tmp 0) = .slice (some ⟨gb, off, none⟩) L.length c ∧ a'.eval (.tmp 3) = .slice (some ⟨g, o, none⟩) O.length co ∧ a'.eval (.tmp 4) = .int .i64 (i : Int) ∧ a'.eval (.tmp 5) = .bool (decide (x ∈ O.take k)) ∧ a'.eval (.tmp 6) = .int .i64 (k : Int)) ∧ O.length - (intOf (a'.eval (.tmp 6))).toNat < O.length - (intOf (b1.eval (.tmp 6))).toNat) b W' := by
      intro b W' hb' hz_b hd_b p0 p3 p4 p5 p6
      refine region_p 3 ?_
      intro K hK
      refine ListK.move (i := 0) (v := .int .i64 (k : Int)) rfl (by simp [p6]) ?_
      refine ListK.bin (i := 1) (u := .int .i64 (k : Int)) (u' := .int .i64 1) (v := .int .i64 ((k + 1 : Nat) : Int)) rfl (by simp [hz_b]) (by simp) (add3 (by omega) (by omega) _) ?_
      refine ListK.assign (i := 2) (v := .int .i64 ((k + 1 : Nat) : Int)) rfl (by simp [hz_b]) ?_
      refine ListK.done (hK _ _ ?_)
      clear hK K
      refine ⟨rfl, ⟨k + 1, hb2.trans (hb'.mono hb2.size), by omega, (by simp only [size_put, hz_b]), (by simp only [defers_put, hd_b]), (by simp [p0]), (by simp [p3]), (by simp [p4]), (by simp [p5]), (by simp [hz_b])⟩, ?_⟩
      rw [s6, show (Act.put _ _ _).eval (.tmp 6) = .int .i64 ((k + 1 : Nat) : Int) from (by simp [hz_b])]
      simp only [intOf]
      omega
    by_cases hin : x ∈ O.take k
    · rw [decide_eq_true hin] at o5
      have hin2 : decide (x ∈ O.take (k + 1)) = true := decide_eq_true (by rw [htk]; exact List.mem_append_left _ hin)
      rw [hin2] at hnext
      refine region_K (KpR (fun w : World => (w.cell? ⟨g, o + k, none⟩ = some (strV y) ∧ w.cell? ⟨gb, off + i, none⟩ = some (strV x)) ∧ Below W2.heap.size W2 w) (fun _ => false)) (wideF_plain _) (by kernel_rfl) Try.mixed ?_
      change AnyK _ _ _ _ 13 (Array.replicate 13 false) _ _
      have hR : (fun w : World => (w.cell? ⟨g, o + k, none⟩ = some (strV y) ∧ w.cell? ⟨gb, off + i, none⟩ = some (strV x)) ∧ Below W2.heap.size W2 w) W2.drew := ⟨⟨hcg3, hc3⟩, hbd⟩
      refine AnyK.move (i := 0) may_o (v := .bool true) (by simp [o5]) hR ?_
      refine AnyK.move (i := 1) may_o (v := .bool true) (by simp [hz_b2]) hR ?_
      refine AnyK.passG (i := 2) may_o (e := 20) (b' := true) rfl (by simp [hz_b2]) rfl hR ?_
      refine AnyK.passG (i := 3) may_o (e := 20) (b' := true) rfl (by simp [hz_b2]) rfl hR ?_
      refine AnyK.passG (i := 4) may_o (e := 20) (b' := true) rfl (by simp [hz_b2]) rfl hR ?_
      refine AnyK.passG (i := 5) may_o (e := 20) (b' := true) rfl (by simp [hz_b2]) rfl hR ?_
      refine AnyK.passG (i := 6) may_o (e := 20) (b' := true) rfl (by simp [hz_b2]) rfl hR ?_
      refine AnyK.passG (i := 7) may_o (e := 20) (b' := true) rfl (by simp [hz_b2]) rfl hR ?_
      refine AnyK.passG (i := 8) may_o (e := 20) (b' := true) rfl (by simp [hz_b2]) rfl hR ?_
      refine AnyK.passG (i := 9) may_o (e := 20) (b' := true) rfl (by simp [hz_b2]) rfl hR ?_
      refine AnyK.passG (i := 10) may_o (e := 20) (b' := true) rfl (by simp [hz_b2]) rfl hR ?_
      refine AnyK.pick (i := 11) may_o (b := true) (v := .bool true) (by simp [hz_b2]) (by simp) hR ?_
      refine AnyK.assign (i := 12) may_o (v := .bool true) (by simp [hz_b2]) hR ?_
      refine AnyK.done (by kernel_rfl) ?_
      refine Go.Code.wpIn_mono (fun e a'' w'' hq => ?_) (hnext _ _ hR.2 (by simp only [size_put, hz_b2]) (by simp only [defers_put, hd_b2]) (by simp [o0]) (by simp [o3]) (by simp [o4]) (by simp [hz_b2]) (by simp [o6]))
      obtain ⟨rfl, h1, h2⟩ := hq
      exact ⟨h1, h2⟩
    · rw [decide_eq_false hin] at o5
      have hin2 : decide (x ∈ O.take (k + 1)) = decide (y = x) := by
        rw [htk]
        refine decide_eq_decide.2 ?_
        rw [List.mem_append, List.mem_singleton]
        exact ⟨fun h => (h.resolve_left hin).symm, fun h => .inr h.symm⟩
      rw [hin2] at hnext
      refine region_K (KpR (fun w : World => (w.cell? ⟨g, o + k, none⟩ = some (strV y) ∧ w.cell? ⟨gb, off + i, none⟩ = some (strV x)) ∧ Below W2.heap.size W2 w) (fun _ => false)) (wideF_plain _) (by kernel_rfl) Try.mixed ?_
      change AnyK _ _ _ _ 13 (Array.replicate 13 false) _ _
      have hR : (fun w : World => (w.cell? ⟨g, o + k, none⟩ = some (strV y) ∧ w.cell? ⟨gb, off + i, none⟩ = some (strV x)) ∧ Below W2.heap.size W2 w) W2.drew := ⟨⟨hcg3, hc3⟩, hbd⟩
      refine AnyK.move (i := 0) may_o (v := .bool false) (by simp [o5]) hR ?_
      refine AnyK.move (i := 1) may_o (v := .bool false) (by simp [hz_b2]) hR ?_
      refine AnyK.move (i := 2) may_o (v := .slice (some ⟨g, o, none⟩) O.length co) (by simp [o3]) hR (hw := (by exact wanted_g (e := 20) (b' := false) rfl (by simp [hz_b2]) rfl)) ?_
      refine AnyK.move (i := 3) may_o (v := .int .i64 (k : Int)) (by simp [o6]) hR (hw := (by exact wanted_g (e := 20) (b' := false) rfl (by simp [hz_b2]) rfl)) ?_
      refine AnyK.index (i := 4) may_o (u := .slice (some ⟨g, o, none⟩) O.length co) (u' := .int .i64 (k : Int)) (v := .pointer (some ⟨g, o + k, none⟩)) (by simp [hz_b2]) (by simp [hz_b2]) (fun w => ix36 hkl w) hR (hw := (by exact wanted_g (e := 20) (b' := false) rfl (by simp [hz_b2]) rfl)) ?_
      refine AnyK.load (i := 5) may_o (p := ⟨g, o + k, none⟩) (v := strV y) (by simp [hz_b2]) (fun w hw => ld9 hw.1.1) hR (hw := (by exact wanted_g (e := 20) (b' := false) rfl (by simp [hz_b2]) rfl)) ?_
      refine AnyK.move (i := 6) may_o (v := .slice (some ⟨gb, off, none⟩) L.length c) (by simp [o0]) hR (hw := (by exact wanted_g (e := 20) (b' := false) rfl (by simp [hz_b2]) rfl)) ?_
      refine AnyK.move (i := 7) may_o (v := .int .i64 (i : Int)) (by simp [o4]) hR (hw := (by exact wanted_g (e := 20) (b' := false) rfl (by simp [hz_b2]) rfl)) ?_
      refine AnyK.index (i := 8) may_o (u := .slice (some ⟨gb, off, none⟩) L.length c) (u' := .int .i64 (i : Int)) (v := .pointer (some ⟨gb, off + i, none⟩)) (by simp [hz_b2]) (by simp [hz_b2]) (fun w => ix36 hlt w) hR (hw := (by exact wanted_g (e := 20) (b' := false) rfl (by simp [hz_b2]) rfl)) ?_
      refine AnyK.load (i := 9) may_o (p := ⟨gb, off + i, none⟩) (v := strV x) (by simp [hz_b2]) (fun w hw => ld9 hw.1.2) hR (hw := (by exact wanted_g (e := 20) (b' := false) rfl (by simp [hz_b2]) rfl)) ?_
      refine AnyK.bin (i := 10) may_o (u := strV y) (u' := strV x) (v := .bool (decide (y = x))) (by simp [hz_b2]) (by simp [hz_b2]) (fun w => eql9n y x w) hR (hw := (by exact wanted_g (e := 20) (b' := false) rfl (by simp [hz_b2]) rfl)) ?_
      refine AnyK.pick (i := 11) may_o (b := false) (v := .bool (decide (y = x))) (by simp [hz_b2]) (by simp [hz_b2]) hR ?_
      refine AnyK.assign (i := 12) may_o (v := .bool (decide (y = x))) (by simp [hz_b2]) hR ?_
      refine AnyK.done (by kernel_rfl) ?_
      refine Go.Code.wpIn_mono (fun e a'' w'' hq => ?_) (hnext _ _ hR.2 (by simp only [size_put, hz_b2]) (by simp only [defers_put, hd_b2]) (by simp [o0]) (by simp [o3]) (by simp [o4]) (by simp [hz_b2]) (by simp [o6]))
      obtain ⟨rfl, h1, h2⟩ := hq
      exact ⟨h1, h2⟩
  · have hke : k = O.length := by omega
    refine wpIn_seq (wpIn_seq (region_p 4 ?_))
    intro K hK
    refine ListK.move (i := 0) (v := .int .i64 (k : Int)) rfl (by simp [s6]) ?_
    refine ListK.move (i := 1) (v := .slice Ao O.length co) rfl (by simp [s3]) ?_
    refine ListK.len (i := 2) (u := .slice Ao O.length co) (v := .int .i64 O.length) rfl (by simp [hz_b1]) (ln36 _ _ _ _ _) rfl ?_
    refine ListK.bin (i := 3) (u := .int .i64 (k : Int)) (u' := .int .i64 O.length) (v := .bool false) rfl (by simp [hz_b1]) (by simp [hz_b1]) (lssF3 (by omega) _) ?_
    refine ListK.done (hK _ _ ?_)
    clear hK K
    refine wpIn_cond (t := false) (by simp [hz_b1]) (wpIn_exit ?_)
    show wo_c.wpIn _ _ _ _ _ _
    rw [hke, List.take_length] at s5
    exact wo_c_any hO hlt ((hb2.cell (p := ⟨gb, off + i, none⟩) hgb).trans hc) (os.below hb2) (by simp only [size_put, hz_b1]) (by simp only [defers_put, hd_b1]) (by simp [s0]) (by simp [s3]) (by simp [s4]) (by simp [s5]) hQ
end
set_option maxHeartbeats 400000 in
theorem refWithout_any (A : Option Addr) (c : Nat) (L : List (List UInt8)) (hL : L.length ≤ 90000) (W : World) (hst : StrsAt W W.heap.size A L) : Calls Try.prog 38 #[.slice A L.length c] W (fun e w' => ∃ v, e = .returned v ∧ OS W v (withoutL [] L) w') := by
  refine (callsIn_wide (n := 5)).1 (callsIn_of_wp Try.func38 body38 trivial ?_ rfl)
  obtain ⟨a, ha⟩ : ∃ a : Act, a = { tmps := #[.slice A L.length c] ++ Array.replicate (Try.f38.ntmps - (#[.slice A L.length c] : Array Value).size) undef, defers := [] } := ⟨_, rfl⟩
  have hsz : a.tmps.size = 41 := by rw [ha]; simp [Try.ntmps38]
  have t0 : a.eval (.tmp 0) = .slice A L.length c := by rw [ha]; simp [Act.eval]
  have hd_a : a.defers = [] := by rw [ha]
  rw [← ha]
  clear ha
  unfold code38
  refine wpIn_seq (region_p 1 ?_)
  intro K hK
  refine ListK.assign (i := 0) (v := .slice none 0 0) rfl (by simp) ?_
  refine ListK.done (hK _ _ ?_)
  clear hK K
  refine wpIn_seq (region_p 1 ?_)
  intro K hK
  refine ListK.assign (i := 0) (v := .slice none 0 0) rfl (by simp) ?_
  refine ListK.done (hK _ _ ?_)
  clear hK K
  refine wpIn_seq (wpIn_seq (region_p 1 ?_))
  intro K hK
  refine ListK.assign (i := 0) (v := .int .i64 0) rfl (by simp) ?_
  refine ListK.done (hK _ _ ?_)
  clear hK K
  generalize hA : Act.put _ _ _ = a1
  have hz_a1 : a1.tmps.size = 41 := by rw [← hA]; simp only [size_put, hsz]
  have u0 : a1.eval (.tmp 0) = .slice A L.length c := by rw [← hA]; exact (by simp [t0])
  have u3 : a1.eval (.tmp 3) = .slice none 0 0 := by rw [← hA]; exact (by simp [hsz])
  have u4 : a1.eval (.tmp 4) = .int .i64 0 := by rw [← hA]; exact (by simp [hsz])
  have hd_a1 : a1.defers = [] := by rw [← hA]; simp only [defers_put, hd_a]
  clear hA
  refine wpIn_block (wpIn_loop (fun a W' => ∃ (i : Nat) (v : Value), i ≤ L.length ∧ OS W v (withoutL [] (L.take i)) W' ∧ a.tmps.size = 41 ∧ a.defers = [] ∧ a.eval (.tmp 0) = .slice A L.length c ∧ a.eval (.tmp 3) = v ∧ a.eval (.tmp 4) = .int .i64 (i : Int)) (fun a _ => L.length - (intOf (a.eval (.tmp 4))).toNat)
    ⟨0, _, Nat.zero_le _, os_none W, hz_a1, hd_a1, u0, u3, u4⟩ ?_)
  rintro b1 W1 ⟨i, v, hi, os, hz_b1, hd_b1, s0, s3, s4⟩
  unfold wo_l
  by_cases hlt : i < L.length
  · have hx := List.getElem?_eq_getElem hlt
    obtain ⟨gb, off, hA, hgb, hc⟩ := hst i _ hx
    have hc1 := (os.low.cell (p := ⟨gb, off + i, none⟩) hgb).trans hc
    obtain ⟨x, hxe⟩ : ∃ x, L[i] = x := ⟨_, rfl⟩
    rw [hxe] at hx hc hc1
    have htk : L.take (i + 1) = L.take i ++ [x] := by rw [List.take_add_one, hx]; rfl
    have hwo : withoutL [] (L.take (i + 1)) = if x ∈ withoutL [] (L.take i) then withoutL [] (L.take i) else withoutL [] (L.take i) ++ [x] := by
      rw [htk, without_app]
      rfl
    have hwl : (withoutL [] (L.take i)).length ≤ 90000 := by
      have h1 := withoutL_len (L.take i) []
      rw [List.length_take] at h1
      simp only [List.length_nil] at h1
      omega
    subst hA
    refine wpIn_seq (wpIn_seq (region_p 4 ?_))
    intro K hK
    refine ListK.move (i := 0) (v := .int .i64 (i : Int)) rfl (by simp [s4]) ?_
    refine ListK.move (i := 1) (v := .slice (some ⟨gb, off, none⟩) L.length c) rfl (by simp [s0]) ?_
    refine ListK.len (i := 2) (u := .slice (some ⟨gb, off, none⟩) L.length c) (v := .int .i64 L.length) rfl (by simp [hz_b1]) (ln36 _ _ _ _ _) rfl ?_
    refine ListK.bin (i := 3) (u := .int .i64 (i : Int)) (u' := .int .i64 L.length) (v := .bool true) rfl (by simp [hz_b1]) (by simp [hz_b1]) (lssT3 (by omega) _) ?_
    refine ListK.done (hK _ _ ?_)
    clear hK K
    refine wpIn_cond (t := true) (by simp [hz_b1]) (wpIn_skip ?_)
    generalize hA : Act.put _ _ _ = b2
    have hz_b2 : b2.tmps.size = 41 := by rw [← hA]; simp only [size_put, hz_b1]
    have o0 : b2.eval (.tmp 0) = .slice (some ⟨gb, off, none⟩) L.length c := by rw [← hA]; exact (by simp [s0])
    have o3 : b2.eval (.tmp 3) = v := by rw [← hA]; exact (by simp [s3])
    have o4 : b2.eval (.tmp 4) = .int .i64 (i : Int) := by rw [← hA]; exact (by simp [s4])
    have hd_b2 : b2.defers = [] := by rw [← hA]; simp only [defers_put, hd_b1]
    clear hA
    refine wpIn_seq (wpIn_block ?_)
    refine wpIn_seq (region_p 1 ?_)
    intro K hK
    refine ListK.assign (i := 0) (v := .bool false) rfl (by simp) ?_
    refine ListK.done (hK _ _ ?_)
    clear hK K
    refine wo_b_any (W := W) (L := L) (c := c) (v := v) (off := off) hwl hlt (Nat.lt_of_lt_of_le hgb os.low.size) hc1 os (by simp only [size_put, hz_b2]) (by simp only [defers_put, hd_b2]) (by simp [o0]) (by simp [o3]) (by simp [o4]) (by simp [hz_b2]) ?_
    intro b W' v' hz_b hd_b p0 p3 p4 os'
    rw [← hwo] at os'
    show (Code.wpIn _ _ _ (Code.region _ _ _) _ _ _)
    refine region_p 3 ?_
    intro K hK
    refine ListK.move (i := 0) (v := .int .i64 (i : Int)) rfl (by simp [p4]) ?_
    refine ListK.bin (i := 1) (u := .int .i64 (i : Int)) (u' := .int .i64 1) (v := .int .i64 ((i + 1 : Nat) : Int)) rfl (by simp [hz_b]) (by simp) (add3 (by omega) (by omega) _) ?_
    refine ListK.assign (i := 2) (v := .int .i64 ((i + 1 : Nat) : Int)) rfl (by simp [hz_b]) ?_
    refine ListK.done (hK _ _ ?_)
    clear hK K
    refine ⟨⟨i + 1, v', by omega, os', (by simp only [size_put, hz_b]), (by simp only [defers_put, hd_b]), (by simp [p0]), (by simp [p3]), (by simp [hz_b])⟩, ?_⟩
    rw [s4, show (Act.put _ _ _).eval (.tmp 4) = .int .i64 ((i + 1 : Nat) : Int) from (by simp [hz_b])]
    simp only [intOf]
    omega
  · have hie : i = L.length := by omega
    refine wpIn_seq (wpIn_seq (region_p 4 ?_))
    intro K hK
    refine ListK.move (i := 0) (v := .int .i64 (i : Int)) rfl (by simp [s4]) ?_
    refine ListK.move (i := 1) (v := .slice A L.length c) rfl (by simp [s0]) ?_
    refine ListK.len (i := 2) (u := .slice A L.length c) (v := .int .i64 L.length) rfl (by simp [hz_b1]) (ln36 _ _ _ _ _) rfl ?_
    refine ListK.bin (i := 3) (u := .int .i64 (i : Int)) (u' := .int .i64 L.length) (v := .bool false) rfl (by simp [hz_b1]) (by simp [hz_b1]) (lssF3 (by omega) _) ?_
    refine ListK.done (hK _ _ ?_)
    clear hK K
    refine wpIn_cond (t := false) (by simp [hz_b1]) (wpIn_exit ?_)
    show (Code.wpIn _ _ _ (Code.seq _ _) _ _ _)
    rw [hie, List.take_length] at os
    refine wpIn_seq (region_p 2 ?_)
    intro K hK
    refine ListK.move (i := 0) (v := v) rfl (by simp [s3]) ?_
    refine ListK.assign (i := 1) (v := v) rfl (by simp [hz_b1]) ?_
    refine ListK.done (hK _ _ (wpIn_ret ?_))
    exact bodyPost_ret (v := v) (res1 Try.results38 (by simp [hz_b1])) (by simp only [defers_put, hd_b1]) ⟨v, rfl, os⟩
end Go.Proofs.YtmdlmmfbcnkanaaR
