/- Texts for a law of package file, behind the shared ones, part 1: the law's own contracts and plain words. -/
import Derived.Test.YtmdlmmfbcnkanaaRA4
import Derived.Shelf.SlSortCmp.WholeK
import Derived.ArgAppend
import Derived.Lib.SlBytesConst

set_option linter.unusedVariables false
set_option maxRecDepth 10000

namespace Go.Proofs.YtmdlmmfbcnkanaaR
open Go.RowKit Go.Shelf
section
variable {P : Program} {ops : Array Oper} {K : Act → World → Prop} {k i d : Nat} {a : Act} {w w' : World} {ty : TypeId} {pos : String} {aft : Array Edge} {v : Value} {gd : Option (Nat × Bool)}
theorem ListK.look {t : TypeId} {x y : Operand} {u u' : Value} (hi : ops[i]? = some ⟨some d, .lookup t x y false, ty, pos, aft, gd⟩) (hx : a.eval x = u) (hy : a.eval y = u') (hv : (Instr.lookup t u u' false).run P w = .ok v w')
    (h : ListK P ops K k (i + 1) (a.put (some d) v) w') (hw : Region.wanted ⟨some d, .lookup t x y false, ty, pos, aft, gd⟩ (yielded ops a.tmps) = true := by rfl) : ListK P ops K (k + 1) i a w := ListK.valW hi hw (by simp [execOp, hx, hy, hv]) h
end
/-- A slice of words. -/
def WordsAt (w : World) (B : Nat) (A : Option Addr) (l : List Nat) : Prop := ∀ (k x : Nat), l[k]? = some x → x < 65536 ∧ ∃ b off, A = some ⟨b, off, none⟩ ∧ b < B ∧ w.cell? ⟨b, off + k, none⟩ = some (.int .u16 x)
theorem ListK.bldW {P : Program} {ops : Array Oper} {K : Act → World → Prop} {k i d : Nat} {a : Act} {w : World} {ty : TypeId} {pos : String} {aft : Array Edge} {v : Value} {gd : Option (Nat × Bool)} {t : TypeId} {parts : Array (Nat × Operand)} {ps : Array (Nat × Value)} (hi : ops[i]? = some ⟨some d, .build t parts, ty, pos, aft, gd⟩)
    (hp : parts.map (fun (i, x) => (i, a.eval x)) = ps) (hv : (Instr.build t ps).run P w = .ok v w)
    (h : ListK P ops K k (i + 1) (a.put (some d) v) w) (hw : Region.wanted ⟨some d, .build t parts, ty, pos, aft, gd⟩ (yielded ops a.tmps) = true := by rfl) : ListK P ops K (k + 1) i a w :=
  ListK.valW hi hw (by simp only [execOp, hp]; simp [hv]) h
theorem neqT {x y : Operand} {m n : Int} (h : m ≠ n) (w : World) : (do eqGuard .neq 3 x y (.int .i64 m) (.int .i64 n); binOp .neq 3 (.int .i64 m) (.int .i64 n) : Sem Value).run Try.prog w = .ok (.bool true) w := by
  rw [neq3 w]
  simp [h]
theorem st22 {w : World} {p : Addr} {v : Value} {A : Option Addr} {n c : Nat} (h : w.cell? p = some v) (hf : w.frozen? p = false) : (Instr.storeAt 22 (.pointer (some p)) (.slice A n c)).run Try.prog w = .ok () (w.setCell p (.slice A n c)) := by
  go_simp
section
variable {κ : Type} [DecidableEq κ]
theorem getK_mem {k : κ} {v : Value} : ∀ {l : List (κ × Value)}, getK l k = some v → (k, v) ∈ l
  | [], h => by simp [getK_nil] at h
  | p :: l, h => by
    rw [getK_cons] at h
    split at h
    · rename_i e
      cases h
      simp [e]
    · exact List.mem_cons_of_mem _ (getK_mem h)
end
section
variable {κ : Type} [DecidableEq κ]
variable {kv : κ → Value} {W : World} {M : Nat} {l : List (κ × Value)} {tm tk te : TypeId}
theorem MapAt.look (L : KeyLaw tm tk te kv) (h : MapAt kv W M l) (k : κ) {z : Value} (hz : ∀ w, (zeroValue te).run Try.prog w = .ok z w) :
    (Instr.lookup tm (.map (some M)) (kv k) false).run Try.prog W = .ok ((getK l k).getD z) W := by
  obtain ⟨es, ck, h1, h2, _⟩ := h.ex
  have hf := findK L k W es.toList l h2
  unfold getK
  cases hx : ixK k l 0 with
  | none =>
    rw [hx] at hf
    simp only [Instr.lookup, Sem.run_bind, L.und, Result.andThen, getObj_map h1, Sem.run_pure, L.chk, hf, hz]
    simp
  | some p =>
    rw [hx] at hf
    simp only [Instr.lookup, Sem.run_bind, L.und, Result.andThen, getObj_map h1, Sem.run_pure, L.chk, hf]
    simp
end
section
variable {W0 : World} {b2 b3 b4 ba M : Nat} {Ds : List Nat} {m : List (List UInt8)}
theorem dig_nat {b : UInt8} (h : isDig b = true) : (dig b : Nat) = b.toNat - 48 ∧ dig b ≤ 9 := by
  simp [isDig] at h
  have : dig b = b.toNat - 48 := by
    unfold dig
    rw [UInt8.toNat_sub_of_le _ _ (by rw [UInt8.le_iff_toNat_le]; exact h.1)]
    rfl
  omega
end
end Go.Proofs.YtmdlmmfbcnkanaaR
namespace Go.Proofs.YtmdlmmfbcnkanaaR
open Go.RowKit Go.Shelf
section
attribute [local irreducible] AnyK StepK
end
end Go.Proofs.YtmdlmmfbcnkanaaR
namespace Go.Proofs.YtmdlmmfbcnkanaaR
open Go.Shelf
def srtF : Nat → Nat
  | 6 => 72
  | 15 => 93
  | 14 => 92
  | 28 => 112
  | 29 => 113
  | 20 => 104
  | 21 => 105
  | 22 => 106
  | 23 => 107
  | 24 => 108
  | 25 => 109
  | 26 => 110
  | 27 => 111
  | 46 => 117
  | 47 => 118
  | 48 => 119
  | 49 => 120
  | 50 => 121
  | 57 => 124
  | n => n
def srtT : Nat → Nat
  | 22 => 108
  | 24 => 83
  | 25 => 119
  | 3 => 3
  | 39 => 132
  | 0 => 0
  | 53 => 156
  | 55 => 158
  | 4 => 4
  | 46 => 149
  | 45 => 148
  | 50 => 153
  | 5 => 5
  | 9 => 9
  | 66 => 163
  | 70 => 167
  | 76 => 173
  | 77 => 142
  | n => n
def srtR : Ren := ⟨srtF, srtT, fun n => n⟩
theorem srt : SlLaysF0.n6 Try.prog srtR where
  mixed := by kernel_rfl
  f6 := ⟨Try.f72.name, by kernel_rfl, Try.func72.trans (by kernel_rfl)⟩
  f14 := ⟨Try.f92.name, by kernel_rfl, Try.func92.trans (by kernel_rfl)⟩
  f15 := Try.func93.trans (by kernel_rfl)
  f20 := ⟨Try.f104.name, by kernel_rfl, Try.func104.trans (by kernel_rfl)⟩
  f21 := ⟨Try.f105.name, by kernel_rfl, Try.func105.trans (by kernel_rfl)⟩
  f22 := ⟨Try.f106.name, by kernel_rfl, Try.func106.trans (by kernel_rfl)⟩
  f23 := ⟨Try.f107.name, by kernel_rfl, Try.func107.trans (by kernel_rfl)⟩
  f24 := ⟨Try.f108.name, by kernel_rfl, Try.func108.trans (by kernel_rfl)⟩
  f25 := ⟨Try.f109.name, by kernel_rfl, Try.func109.trans (by kernel_rfl)⟩
  f26 := ⟨Try.f110.name, by kernel_rfl, Try.func110.trans (by kernel_rfl)⟩
  f27 := ⟨Try.f111.name, by kernel_rfl, Try.func111.trans (by kernel_rfl)⟩
  f28 := Try.func112.trans (by kernel_rfl)
  f29 := Try.func113.trans (by kernel_rfl)
  f46 := ⟨Try.f117.name, by kernel_rfl, Try.func117.trans (by kernel_rfl)⟩
  f47 := Try.func118.trans (by kernel_rfl)
  f48 := Try.func119.trans (by kernel_rfl)
  f49 := ⟨Try.f120.name, by kernel_rfl, Try.func120.trans (by kernel_rfl)⟩
  f50 := ⟨Try.f121.name, by kernel_rfl, Try.func121.trans (by kernel_rfl)⟩
  f57 := ⟨Try.f124.name, by kernel_rfl, Try.func124.trans (by kernel_rfl)⟩
  t0 := by kernel_rfl
  a0 := fun w => by kernel_rfl
  z0 := fun w => by kernel_rfl
  v0 := fun w => by kernel_rfl
  t3 := by kernel_rfl
  a3 := fun w => by kernel_rfl
  z3 := fun w => by kernel_rfl
  v3 := fun w => by kernel_rfl
  t4 := by kernel_rfl
  a4 := fun w => by kernel_rfl
  z4 := fun w => by kernel_rfl
  v4 := fun w => by kernel_rfl
  t5 := by kernel_rfl
  a5 := fun w => by kernel_rfl
  z5 := fun w => by kernel_rfl
  v5 := fun w => by kernel_rfl
  t9 := by kernel_rfl
  a9 := fun w => by kernel_rfl
  z9 := fun w => by kernel_rfl
  v9 := fun w => by kernel_rfl
  t22 := by kernel_rfl
  a22 := fun w => by kernel_rfl
  z22 := fun w => by kernel_rfl
  v22 := fun w => by kernel_rfl
  t25 := by kernel_rfl
  a25 := fun w => by kernel_rfl
  z25 := fun w => by kernel_rfl
  v25 := fun w => by kernel_rfl
  t39 := by kernel_rfl
  a39 := fun w => by kernel_rfl
  z39 := fun w => by kernel_rfl
  v39 := fun w => by kernel_rfl
  t45 := by kernel_rfl
  a45 := fun w => by kernel_rfl
  z45 := fun w => by kernel_rfl
  v45 := fun w => by kernel_rfl
  t46 := by kernel_rfl
  a46 := fun w => by kernel_rfl
  z46 := fun w => by kernel_rfl
  v46 := fun w => by kernel_rfl
  t50 := by kernel_rfl
  a50 := fun w => by kernel_rfl
  z50 := fun w => by kernel_rfl
  v50 := fun w => by kernel_rfl
  t53 := by kernel_rfl
  a53 := fun w => by kernel_rfl
  z53 := fun w => by kernel_rfl
  v53 := fun w => by kernel_rfl
  t55 := by kernel_rfl
  a55 := fun w => by kernel_rfl
  z55 := fun w => by kernel_rfl
  v55 := fun w => by kernel_rfl
  t66 := by kernel_rfl
  a66 := fun w => by kernel_rfl
  z66 := fun w => by kernel_rfl
  v66 := fun w => by kernel_rfl
  t70 := by kernel_rfl
  a70 := fun w => by kernel_rfl
  z70 := fun w => by kernel_rfl
  v70 := fun w => by kernel_rfl
  t76 := by kernel_rfl
  a76 := fun w => by kernel_rfl
  z76 := fun w => by kernel_rfl
  v76 := fun w => by kernel_rfl
  t77 := by kernel_rfl
  a77 := fun w => by kernel_rfl
  z77 := fun w => by kernel_rfl
  v77 := fun w => by kernel_rfl
end Go.Proofs.YtmdlmmfbcnkanaaR
namespace Go.Proofs.YtmdlmmfbcnkanaaR
open Go.RowKit Go.Shelf Go.Sort
/-- A world that has grown, and was drawn from: nothing else. -/
def Grew (W W' : World) : Prop := ∃ q os, W' = grow (W.drewN q) os
theorem Grew.refl (W : World) : Grew W W := ⟨0, #[], by simp [grow, World.drewN]⟩
theorem grow_drewN (W : World) (q : Nat) (os : Array Obj) : (grow W os).drewN q = grow (W.drewN q) os := rfl
theorem drewN_drewN (W : World) (p q : Nat) : (W.drewN p).drewN q = W.drewN (p + q) := by simp [World.drewN, Nat.add_assoc]
theorem Grew.trans {a b c : World} (h : Grew a b) (k : Grew b c) : Grew a c := by
  obtain ⟨q, os, rfl⟩ := h
  obtain ⟨q', os', rfl⟩ := k
  exact ⟨q + q', os ++ os', by rw [grow_drewN, drewN_drewN, grow_grow]⟩
theorem Grew.alloc {a b : World} (h : Grew a b) (o : Obj) : Grew a (b.alloc o) := h.trans ⟨0, #[o], by rw [alloc_eq_grow]; rfl⟩
theorem Grew.drew {a b : World} (h : Grew a b) : Grew a b.drew := h.trans ⟨1, #[], by rw [grow_empty]; rfl⟩
theorem Grew.below {a b : World} (h : Grew a b) : Below a.heap.size a b := by
  obtain ⟨q, os, rfl⟩ := h
  refine ⟨rfl, rfl, rfl, ?_, fun k hk => ?_⟩
  · show a.heap.size ≤ (a.heap ++ os).size
    simp
  · show (a.heap ++ os)[k]? = a.heap[k]?
    exact Array.getElem?_append_left hk
section
variable (c0 c1 c2 c3 c4 c5 c6 : UInt8) (w : World)
set_option maxHeartbeats 1000000 in
theorem number1G : Calls Try.prog 59 #[rV c0 c1 c2 c3 c4 c5 c6, .int .i64 1] w fun e w' => e = .returned (.int .i64 (num2 c1 c2)) ∧ Grew w w' := by
  have d1 := dig_wrap c1
  have d2 := dig_wrap c2
  have l1 := dig_lt c1
  have l2 := dig_lt c2
  have hb : Grew w (w.alloc (.cells (r7 c0 c1 c2 c3 c4 c5 c6) 83)).drew := ((Grew.refl _).alloc _).drew
  have HB := Lib.hid hb
  clear hb
  go_enter Try.func59, Try.ntmps59
  go_wp2
  go_region
  all_goals
    go_wp2
    go_ret
    exact ⟨by simp [num2], HB.out⟩
end
set_option maxHeartbeats 400000 in
theorem kindsG (w : World) : Calls Try.prog 70 #[] w fun e w' => e = .returned (.slice (some ⟨w.heap.size, 0, none⟩) 3 3) ∧ Whole w' w.heap.size 113 kindC ∧ Grew w w' := by
  go_enter Try.func70, Try.ntmps70
  go_wp2_with fail
  go_ret
  exact ⟨rfl, Whole.new _ _ _, (Grew.refl _).alloc _⟩
set_option maxHeartbeats 400000 in
theorem isKindG (rb : Nat) (L : Int) (fv : Value) (c0 : UInt8) (w : World) (hr : w.cell? ⟨rb, 0, none⟩ = some (u8V c0)) :
    Calls Try.prog 71 #[.agg #[.int .u8 L, fv], .pointer (some ⟨rb, 0, none⟩)] w fun e w' => e = .returned (.bool (L == (c0.toNat : Int))) ∧ Grew w w' := by
  have hlt : rb < w.heap.size := by have := block_lt_of_cell hr; exact this
  go_enter Try.func71, Try.ntmps71
  go_wp2_with fail
  go_ret
  exact ⟨rfl, (Grew.refl _).alloc _⟩
set_option maxHeartbeats 1000000 in
theorem kindAtG (rb kb : Nat) (c0 : UInt8) (w : World) (hr : w.cell? ⟨rb, 0, none⟩ = some (u8V c0)) (hk : Whole w kb 113 kindC) :
    Calls Try.prog 69 #[.slice (some ⟨kb, 0, none⟩) 3 3, .func (.func 71) #[] #[.pointer (some ⟨rb, 0, none⟩)]] w fun e w' => e = .returned (.int .i64 (kindIx c0)) ∧ Grew w w' := by
  have Hr := Lib.hid hr
  have Hk := Lib.hid hk
  have hlr : rb < w.heap.size := by have := block_lt_of_cell hr; exact this
  have hlk := hk.lt
  clear hr hk
  go_enter Try.func69, Try.ntmps69
  go_wp2
  go_loopw [8] (fun i wr => Grew w wr ∧ (i = .int .i64 0 ∨ (i = .int .i64 1 ∧ c0 ≠ 72) ∨ (i = .int .i64 2 ∧ c0 ≠ 72 ∧ c0 ≠ 82) ∨ (i = .int .i64 3 ∧ c0 ≠ 72 ∧ c0 ≠ 82 ∧ c0 ≠ 80))) (fun i _ => (3 - intOf i).toNat)
  case atStart => exact ⟨Grew.refl _, .inl rfl⟩
  case round =>
    obtain ⟨hg, hrel⟩ := hrel
    have hb := hg.below
    have hr' := (hb.cell (p := ⟨rb, 0, none⟩) hlr).trans Hr.out
    have hk' := Hk.out.below hb hlk
    have k0 : wr.cell? ⟨kb, 0, none⟩ = some (.int .u8 72) := hk'.cell 0
    have k1 : wr.cell? ⟨kb, 1, none⟩ = some (.func (.func 90) #[] #[]) := hk'.cell 1
    have k2 : wr.cell? ⟨kb, 2, none⟩ = some (.int .u8 82) := hk'.cell 2
    have k3 : wr.cell? ⟨kb, 3, none⟩ = some (.func (.func 91) #[] #[]) := hk'.cell 3
    have k4 : wr.cell? ⟨kb, 4, none⟩ = some (.int .u8 80) := hk'.cell 4
    have k5 : wr.cell? ⟨kb, 5, none⟩ = some (.func (.func 91) #[] #[]) := hk'.cell 5
    have HB := Lib.hid hg
    have HR := Lib.hid hr'
    clear hb hk' hr' hg
    rcases hrel with rfl | ⟨rfl, h1⟩ | ⟨rfl, h1, h2⟩ | ⟨rfl, h1, h2, h3⟩
    · go_wp2_with fail
      refine (isKindG rb 72 _ c0 _ HR.out).mono ?_
      rintro e w1 ⟨rfl, hb1⟩
      by_cases h : c0 = 72
      · subst h
        rw [show ((72 : Int) == ((72 : UInt8).toNat : Int)) = true from rfl]
        go_wp2_with fail
        go_ret
        exact ⟨rfl, HB.out.trans hb1⟩
      · rw [show ((72 : Int) == (c0.toNat : Int)) = false from u8_ne (n := 72) (by omega) h]
        go_wp2_with fail
        go_roundw
        case rel => exact ⟨HB.out.trans hb1, .inr (.inl ⟨rfl, h⟩)⟩
        case measure => simp [intOf]
    · go_wp2_with fail
      refine (isKindG rb 82 _ c0 _ HR.out).mono ?_
      rintro e w1 ⟨rfl, hb1⟩
      by_cases h : c0 = 82
      · subst h
        rw [show ((82 : Int) == ((82 : UInt8).toNat : Int)) = true from rfl]
        go_wp2_with fail
        go_ret
        exact ⟨rfl, HB.out.trans hb1⟩
      · rw [show ((82 : Int) == (c0.toNat : Int)) = false from u8_ne (n := 82) (by omega) h]
        go_wp2_with fail
        go_roundw
        case rel => exact ⟨HB.out.trans hb1, .inr (.inr (.inl ⟨rfl, h1, h⟩))⟩
        case measure => simp [intOf]
    · go_wp2_with fail
      refine (isKindG rb 80 _ c0 _ HR.out).mono ?_
      rintro e w1 ⟨rfl, hb1⟩
      by_cases h : c0 = 80
      · subst h
        rw [show ((80 : Int) == ((80 : UInt8).toNat : Int)) = true from rfl]
        go_wp2_with fail
        go_ret
        exact ⟨rfl, HB.out.trans hb1⟩
      · rw [show ((80 : Int) == (c0.toNat : Int)) = false from u8_ne (n := 80) (by omega) h]
        go_wp2_with fail
        go_roundw
        case rel => exact ⟨HB.out.trans hb1, .inr (.inr (.inr ⟨rfl, h1, h2, h⟩))⟩
        case measure => simp [intOf]
    · have hF : kindIx c0 = -1 := by simp [kindIx, h1, h2, h3]
      go_wp2_with fail
      go_ret
      exact ⟨by rw [hF]; rfl, HB.out⟩
theorem isNaN_any (m : Int) (w : World) : Calls Try.prog 94 #[.int .i64 m] w fun e w' => e = .returned (.bool false) ∧ w = w' := by
  go_enter Try.func94, Try.ntmps94
  go_wp2
  go_ret
  exact ⟨rfl, rfl⟩
set_option maxHeartbeats 400000 in
theorem compare_any (m n : Int) (w : World) : Calls Try.prog 75 #[.int .i64 m, .int .i64 n] w fun e w' => e = .returned (.int .i64 (Lib.compareInt m n)) ∧ w = w' := by
  by_cases h1 : m < n
  · have hd : decide (m < n) = true := decide_eq_true h1
    have e1 : Lib.compareInt m n = -1 := by unfold Lib.compareInt; rw [if_pos h1]
    rw [e1]
    go_enter Try.func75, Try.ntmps75
    go_wp2_with (go_at_call 94; refine (isNaN_any _ _).mono ?_; rintro e w' ⟨rfl, rfl⟩)
    go_ret
    exact ⟨rfl, rfl⟩
  · have hd : decide (m < n) = false := decide_eq_false h1
    by_cases h2 : n < m
    · have hd2 : decide (n < m) = true := decide_eq_true h2
      have e1 : Lib.compareInt m n = 1 := by unfold Lib.compareInt; rw [if_neg h1, if_pos h2]
      rw [e1]
      go_enter Try.func75, Try.ntmps75
      go_wp2_with (go_at_call 94; refine (isNaN_any _ _).mono ?_; rintro e w' ⟨rfl, rfl⟩)
      go_ret
      exact ⟨rfl, rfl⟩
    · have hd2 : decide (n < m) = false := decide_eq_false h2
      have e1 : Lib.compareInt m n = 0 := by unfold Lib.compareInt; rw [if_neg h1, if_neg h2]
      rw [e1]
      go_enter Try.func75, Try.ntmps75
      go_wp2_with (go_at_call 94; refine (isNaN_any _ _).mono ?_; rintro e w' ⟨rfl, rfl⟩)
      go_ret
      exact ⟨rfl, rfl⟩
end Go.Proofs.YtmdlmmfbcnkanaaR
namespace Go.Proofs.YtmdlmmfbcnkanaaR
open Go.RowKit Go.Shelf Go.Sort
noncomputable def opsOrd0 : Array Oper := (Try.f68.body.bind (regionOf 0)).getD #[]
noncomputable def opsOrd1 : Array Oper := (Try.f68.body.bind (regionOf 1)).getD #[]
noncomputable def code68 : Code := (.seq (.region 0 opsOrd0 false) (.seq (.region 1 opsOrd1 false) .ret))
theorem body68 : Try.f68.body = some code68 := by kernel_rfl
set_option maxHeartbeats 400000 in
theorem orderG (c0 c1 c2 c3 c4 c5 c6 : UInt8) (W : World) : Calls Try.prog 68 #[rV c0 c1 c2 c3 c4 c5 c6] W fun e w' => e = .returned (.int .i64 (kindIx c0)) ∧ Grew W w' := by
  refine (callsIn_wide (n := 5)).1 (callsIn_of_wp Try.func68 body68 trivial ?_ rfl)
  obtain ⟨a, ha⟩ : ∃ a : Act, a = { tmps := #[rV c0 c1 c2 c3 c4 c5 c6] ++ Array.replicate (Try.f68.ntmps - (#[rV c0 c1 c2 c3 c4 c5 c6] : Array Value).size) undef, defers := [] } := ⟨_, rfl⟩
  have hsz : a.tmps.size = 6 := by rw [ha]; simp [Try.ntmps68]
  have t0 : a.eval (.tmp 0) = rV c0 c1 c2 c3 c4 c5 c6 := by rw [ha]; simp [Act.eval]
  have hd_a : a.defers = [] := by rw [ha]
  rw [← ha]
  clear ha
  unfold code68
  refine wpIn_seq (region_p 2 ?_)
  intro K hK
  refine ListK.box (i := 0) (u := rV c0 c1 c2 c3 c4 c5 c6) rfl (by simp [t0]) (bx83 _ _ _ _ _ _ _ W) ?_
  refine ListK.assign (i := 1) (v := .int .i64 0) rfl (by simp) ?_
  refine ListK.done (hK _ _ ?_)
  clear hK K
  have hg1 : Grew W (W.alloc (.cells (r7 c0 c1 c2 c3 c4 c5 c6) 83)) := (Grew.refl _).alloc _
  have wb := Whole.new W 83 (r7 c0 c1 c2 c3 c4 c5 c6)
  generalize W.heap.size = rb at *
  generalize W.alloc (.cells (r7 c0 c1 c2 c3 c4 c5 c6) 83) = W1 at *
  generalize hA : Act.put _ _ _ = a1
  have hz_a1 : a1.tmps.size = 6 := by rw [← hA]; simp only [size_put, hsz]
  have u1 : a1.eval (.tmp 1) = .pointer (some ⟨rb, 0, none⟩) := by rw [← hA]; exact (by simp [hsz])
  have hd_a1 : a1.defers = [] := by rw [← hA]; simp only [defers_put, hd_a]
  clear hA
  refine wpIn_seq (region_p 4 ?_)
  intro K hK
  refine ListK.call (i := 0) (vs := #[]) rfl (enters_of Try.func70 (by kernel_rfl) rfl) (by simp) ((kindsG W1).mono ?_)
  rintro _ W2 ⟨rfl, hw2, hg2⟩
  have hc2 := (wb.below hg2.below wb.lt).cell 0
  refine ⟨_, rfl, ?_⟩
  refine ListK.mkF (i := 1) (vs := #[.pointer (some ⟨rb, 0, none⟩)]) rfl (by simp [u1]) ?_
  refine ListK.call (i := 2) (vs := #[.slice (some ⟨W1.heap.size, 0, none⟩) 3 3, .func (.func 71) #[] #[.pointer (some ⟨rb, 0, none⟩)]]) rfl (enters_of Try.func69 (by kernel_rfl) rfl) (by simp [hz_a1]) ((kindAtG rb W1.heap.size c0 W2 hc2 hw2).mono ?_)
  rintro _ W3 ⟨rfl, hg3⟩
  refine ⟨_, rfl, ?_⟩
  refine ListK.assign (i := 3) (v := .int .i64 (kindIx c0)) rfl (by simp [hz_a1]) ?_
  refine ListK.done (hK _ _ (wpIn_ret ?_))
  exact bodyPost_ret (v := .int .i64 (kindIx c0)) (res1 Try.results68 (by simp [hz_a1])) (by simp only [defers_put, hd_a1]) ⟨rfl, (hg1.trans hg2).trans hg3⟩
/-- The first number that is not 0. -/
def orL : List Int → Int
  | [] => 0
  | x :: l => if x = 0 then orL l else x
theorem orL_at : ∀ {l : List Int} {i : Nat} {z : Int}, (∀ (j : Nat) (y : Int), j < i → l[j]? = some y → y = 0) → l[i]? = some z → z ≠ 0 → orL l = z
  | [], i, z, _, h, _ => by simp at h
  | x :: l, 0, z, _, h, hz => by
    simp only [List.getElem?_cons_zero, Option.some.injEq] at h
    subst h
    rw [orL, if_neg hz]
  | x :: l, i + 1, z, hno, h, hz => by
    have hx : x = 0 := hno 0 x (by omega) rfl
    rw [orL, if_pos hx]
    exact orL_at (l := l) (i := i) (fun j y hj hy => hno (j + 1) y (by omega) (by simpa using hy)) (by simpa using h) hz
theorem orL_none : ∀ {l : List Int}, (∀ (j : Nat) (y : Int), l[j]? = some y → y = 0) → orL l = 0
  | [], _ => rfl
  | x :: l, hno => by
    have hx : x = 0 := hno 0 x rfl
    rw [orL, if_pos hx]
    exact orL_none (fun j y hy => hno (j + 1) y (by simpa using hy))
theorem ix22z {b n c : Nat} {i : Nat} (h : i < n) (w : World) : (Instr.indexAt 22 (.slice (some ⟨b, 0, none⟩) n c) (.int .i64 i)).run Try.prog w = .ok (.pointer (some ⟨b, i, none⟩)) w := by
  have := ix22 (b := b) (o := 0) (c := c) h w
  rwa [Nat.zero_add] at this
abbrev SameP (W : World) (v : Value) : Ending → World → Prop := fun e w' => e = .returned v ∧ w' = W
noncomputable def opsOr0 : Array Oper := (Try.f74.body.bind (regionOf 0)).getD #[]
noncomputable def opsOr1 : Array Oper := (Try.f74.body.bind (regionOf 1)).getD #[]
noncomputable def opsOr2 : Array Oper := (Try.f74.body.bind (regionOf 2)).getD #[]
noncomputable def opsOr3 : Array Oper := (Try.f74.body.bind (regionOf 3)).getD #[]
noncomputable def opsOr4 : Array Oper := (Try.f74.body.bind (regionOf 4)).getD #[]
noncomputable def opsOr5 : Array Oper := (Try.f74.body.bind (regionOf 5)).getD #[]
noncomputable def opsOr6 : Array Oper := (Try.f74.body.bind (regionOf 6)).getD #[]
noncomputable def opsOr7 : Array Oper := (Try.f74.body.bind (regionOf 7)).getD #[]
noncomputable def opsOr8 : Array Oper := (Try.f74.body.bind (regionOf 8)).getD #[]
noncomputable def or_l : Code := (.seq (.region 3 opsOr3 false) (.seq (.cond (.tmp 9) .skip (.exit 0)) (.seq (.block 1 (.seq (.region 4 opsOr4 false) (.seq (.region 5 opsOr5 false) (.cond (.tmp 14) (.seq (.region 6 opsOr6 false) .ret) .skip)))) (.region 7 opsOr7 false))))
noncomputable def code74 : Code := (.seq (.region 0 opsOr0 false) (.seq (.region 1 opsOr1 false) (.seq (.seq (.region 2 opsOr2 false) (.block 0 (.loop or_l))) (.seq (.region 8 opsOr8 false) .ret))))
theorem body74 : Try.f74.body = some code74 := by kernel_rfl
set_option maxHeartbeats 400000 in
theorem or_any (g c : Nat) (l : List Int) (W : World) (hl : l.length ≤ 1000) (hc : ∀ (i : Nat) (z : Int), l[i]? = some z → W.cell? ⟨g, i, none⟩ = some (.int .i64 z)) : Calls Try.prog 74 #[.slice (some ⟨g, 0, none⟩) l.length c] W (SameP W (.int .i64 (orL l))) := by
  refine (callsIn_wide (n := 5)).1 (callsIn_of_wp Try.func74 body74 trivial ?_ rfl)
  obtain ⟨a, ha⟩ : ∃ a : Act, a = { tmps := #[.slice (some ⟨g, 0, none⟩) l.length c] ++ Array.replicate (Try.f74.ntmps - (#[.slice (some ⟨g, 0, none⟩) l.length c] : Array Value).size) undef, defers := [] } := ⟨_, rfl⟩
  have hsz : a.tmps.size = 18 := by rw [ha]; simp [Try.ntmps74]
  have t0 : a.eval (.tmp 0) = .slice (some ⟨g, 0, none⟩) l.length c := by rw [ha]; simp [Act.eval]
  have hd_a : a.defers = [] := by rw [ha]
  rw [← ha]
  clear ha
  unfold code74
  refine wpIn_seq (region_p 1 ?_)
  intro K hK
  refine ListK.assign (i := 0) (v := .int .i64 0) rfl (by simp) ?_
  refine ListK.done (hK _ _ ?_)
  clear hK K
  refine wpIn_seq (region_p 1 ?_)
  intro K hK
  refine ListK.assign (i := 0) (v := .int .i64 0) rfl (by simp) ?_
  refine ListK.done (hK _ _ ?_)
  clear hK K
  refine wpIn_seq (wpIn_seq (region_p 3 ?_))
  intro K hK
  refine ListK.move (i := 0) (v := .slice (some ⟨g, 0, none⟩) l.length c) rfl (by simp [t0]) ?_
  refine ListK.len (i := 1) (u := .slice (some ⟨g, 0, none⟩) l.length c) (v := .int .i64 l.length) rfl (by simp [hsz]) (ln22 _ _ _ _ _) rfl ?_
  refine ListK.move (i := 2) (v := .int .i64 0) rfl (by simp) ?_
  refine ListK.done (hK _ _ ?_)
  clear hK K
  generalize hA : Act.put _ _ _ = a1
  have hz_a1 : a1.tmps.size = 18 := by rw [← hA]; simp only [size_put, hsz]
  have u3 : a1.eval (.tmp 3) = .int .i64 0 := by rw [← hA]; exact (by simp [hsz])
  have u6 : a1.eval (.tmp 6) = .slice (some ⟨g, 0, none⟩) l.length c := by rw [← hA]; exact (by simp [hsz])
  have u7 : a1.eval (.tmp 7) = .int .i64 l.length := by rw [← hA]; exact (by simp [hsz])
  have u8 : a1.eval (.tmp 8) = .int .i64 0 := by rw [← hA]; exact (by simp [hsz])
  have hd_a1 : a1.defers = [] := by rw [← hA]; simp only [defers_put, hd_a]
  clear hA
  refine wpIn_block (wpIn_loop (fun a W' => ∃ i : Nat, W' = W ∧ i ≤ l.length ∧ (∀ (j : Nat) (y : Int), j < i → l[j]? = some y → y = 0) ∧ a.tmps.size = 18 ∧ a.defers = [] ∧ a.eval (.tmp 3) = .int .i64 0 ∧ a.eval (.tmp 6) = .slice (some ⟨g, 0, none⟩) l.length c ∧ a.eval (.tmp 7) = .int .i64 (l.length : Int) ∧ a.eval (.tmp 8) = .int .i64 (i : Int)) (fun a _ => l.length - (intOf (a.eval (.tmp 8))).toNat)
    ⟨0, rfl, Nat.zero_le _, fun j y h => by omega, hz_a1, hd_a1, u3, u6, u7, u8⟩ ?_)
  rintro b1 W1 ⟨i, hW, hi, hno, hz_b1, hd_b1, s3, s6, s7, s8⟩
  subst hW
  unfold or_l
  by_cases hlt : i < l.length
  · have hx := List.getElem?_eq_getElem hlt
    have hcx := hc i _ hx
    obtain ⟨z, hze⟩ : ∃ z, l[i] = z := ⟨_, rfl⟩
    rw [hze] at hx hcx
    refine wpIn_seq (region_p 1 ?_)
    intro K hK
    refine ListK.bin (i := 0) (u := .int .i64 (i : Int)) (u' := .int .i64 (l.length : Int)) (v := .bool true) rfl (by simp [s8]) (by simp [s7]) (lssT3 (by omega) _) ?_
    refine ListK.done (hK _ _ ?_)
    clear hK K
    refine wpIn_seq (wpIn_cond (t := true) (by simp [hz_b1]) (wpIn_skip ?_))
    generalize hA : Act.put _ _ _ = b2
    have hz_b2 : b2.tmps.size = 18 := by rw [← hA]; simp only [size_put, hz_b1]
    have o3 : b2.eval (.tmp 3) = .int .i64 0 := by rw [← hA]; exact (by simp [s3])
    have o6 : b2.eval (.tmp 6) = .slice (some ⟨g, 0, none⟩) l.length c := by rw [← hA]; exact (by simp [s6])
    have o7 : b2.eval (.tmp 7) = .int .i64 (l.length : Int) := by rw [← hA]; exact (by simp [s7])
    have o8 : b2.eval (.tmp 8) = .int .i64 (i : Int) := by rw [← hA]; exact (by simp [s8])
    have hd_b2 : b2.defers = [] := by rw [← hA]; simp only [defers_put, hd_b1]
    clear hA
    refine wpIn_seq (wpIn_block ?_)
    refine wpIn_seq (region_p 3 ?_)
    intro K hK
    refine ListK.index (i := 0) (u := .slice (some ⟨g, 0, none⟩) l.length c) (u' := .int .i64 (i : Int)) (v := .pointer (some ⟨g, i, none⟩)) rfl (by simp [o6]) (by simp [o8]) (ix22z hlt _) ?_
    refine ListK.load (i := 1) (p := ⟨g, i, none⟩) (v := .int .i64 z) rfl (by simp [hz_b2]) (ld3 (hcx)) ?_
    refine ListK.assign (i := 2) (v := .int .i64 z) rfl (by simp [hz_b2]) ?_
    refine ListK.done (hK _ _ ?_)
    clear hK K
    generalize hA : Act.put _ _ _ = b3
    have hz_b3 : b3.tmps.size = 18 := by rw [← hA]; simp only [size_put, hz_b2]
    have q3 : b3.eval (.tmp 3) = .int .i64 0 := by rw [← hA]; exact (by simp [o3])
    have q5 : b3.eval (.tmp 5) = .int .i64 z := by rw [← hA]; exact (by simp [hz_b2])
    have q6 : b3.eval (.tmp 6) = .slice (some ⟨g, 0, none⟩) l.length c := by rw [← hA]; exact (by simp [o6])
    have q7 : b3.eval (.tmp 7) = .int .i64 (l.length : Int) := by rw [← hA]; exact (by simp [o7])
    have q8 : b3.eval (.tmp 8) = .int .i64 (i : Int) := by rw [← hA]; exact (by simp [o8])
    have hd_b3 : b3.defers = [] := by rw [← hA]; simp only [defers_put, hd_b2]
    clear hA
    by_cases hz0 : z = 0
    · skip
      refine wpIn_seq (region_p 3 ?_)
      intro K hK
      refine ListK.move (i := 0) (v := .int .i64 z) rfl (by simp [q5]) ?_
      refine ListK.move (i := 1) (v := .int .i64 0) rfl (by simp [q3]) ?_
      refine ListK.bin (i := 2) (u := .int .i64 z) (u' := .int .i64 0) (v := .bool false) rfl (by simp [hz_b3]) (by simp [hz_b3]) (neqF hz0 _) ?_
      refine ListK.done (hK _ _ ?_)
      clear hK K
      refine wpIn_cond (t := false) (by simp [hz_b3]) (wpIn_skip ?_)
      show (Code.wpIn _ _ _ (Code.region _ _ _) _ _ _)
      refine region_p 2 ?_
      intro K hK
      refine ListK.bin (i := 0) (u := .int .i64 (i : Int)) (u' := .int .i64 1) (v := .int .i64 ((i + 1 : Nat) : Int)) rfl (by simp [q8]) (by simp) (add3 (by omega) (by omega) _) ?_
      refine ListK.move (i := 1) (v := .int .i64 ((i + 1 : Nat) : Int)) rfl (by simp [hz_b3]) ?_
      refine ListK.done (hK _ _ ?_)
      clear hK K
      refine ⟨⟨i + 1, rfl, by omega, fun j y hj hy => ?_, (by simp only [size_put, hz_b3]), (by simp only [defers_put, hd_b3]), (by simp [q3]), (by simp [q6]), (by simp [q7]), (by simp [hz_b3])⟩, ?_⟩
      · by_cases hji : j = i
        · subst hji
          rw [hx] at hy
          cases hy
          exact hz0
        · exact hno j y (by omega) hy
      · rw [s8, show (Act.put _ _ _).eval (.tmp 8) = .int .i64 ((i + 1 : Nat) : Int) from (by simp [hz_b3])]
        simp only [intOf]
        omega
    · have hv := orL_at hno hx hz0
      refine wpIn_seq (region_p 3 ?_)
      intro K hK
      refine ListK.move (i := 0) (v := .int .i64 z) rfl (by simp [q5]) ?_
      refine ListK.move (i := 1) (v := .int .i64 0) rfl (by simp [q3]) ?_
      refine ListK.bin (i := 2) (u := .int .i64 z) (u' := .int .i64 0) (v := .bool true) rfl (by simp [hz_b3]) (by simp [hz_b3]) (neqT hz0 _) ?_
      refine ListK.done (hK _ _ ?_)
      clear hK K
      refine wpIn_cond (t := true) (by simp [hz_b3]) ?_
      refine wpIn_seq (region_p 2 ?_)
      intro K hK
      refine ListK.move (i := 0) (v := .int .i64 z) rfl (by simp [q5]) ?_
      refine ListK.assign (i := 1) (v := .int .i64 z) rfl (by simp [hz_b3]) ?_
      refine ListK.done (hK _ _ (wpIn_ret ?_))
      exact bodyPost_ret (v := .int .i64 (orL l)) (res1 Try.results74 (by rw [hv]; exact (by simp [hz_b3]))) (by simp only [defers_put, hd_b3]) ⟨rfl, rfl⟩
  · have hv : orL l = 0 := orL_none fun j y hy => hno j y (by have := (List.getElem?_eq_some_iff.1 hy).1; omega) hy
    refine wpIn_seq (region_p 1 ?_)
    intro K hK
    refine ListK.bin (i := 0) (u := .int .i64 (i : Int)) (u' := .int .i64 (l.length : Int)) (v := .bool false) rfl (by simp [s8]) (by simp [s7]) (lssF3 (by omega) _) ?_
    refine ListK.done (hK _ _ ?_)
    clear hK K
    refine wpIn_seq (wpIn_cond (t := false) (by simp [hz_b1]) (wpIn_exit ?_))
    show (Code.wpIn _ _ _ (Code.seq _ _) _ _ _)
    refine wpIn_seq (region_p 2 ?_)
    intro K hK
    refine ListK.move (i := 0) (v := .int .i64 0) rfl (by simp [s3]) ?_
    refine ListK.assign (i := 1) (v := .int .i64 0) rfl (by simp [hz_b1]) ?_
    refine ListK.done (hK _ _ (wpIn_ret ?_))
    exact bodyPost_ret (v := .int .i64 (orL l)) (res1 Try.results74 (by rw [hv]; exact (by simp [hz_b1]))) (by simp only [defers_put, hd_b1]) ⟨rfl, rfl⟩
theorem ld116 {w : World} {p : Addr} {v : Value} (h : w.cell? p = some v) : (Instr.loadAt 116 (.pointer (some p))).run Try.prog w = .ok v w := by go_simp
noncomputable def opsCmp0 : Array Oper := (Try.f73.body.bind (regionOf 0)).getD #[]
noncomputable def opsCmp1 : Array Oper := (Try.f73.body.bind (regionOf 1)).getD #[]
noncomputable def code73 : Code := (.seq (.region 0 opsCmp0 false) (.seq (.region 1 opsCmp1 true) .ret))
theorem body73 : Try.f73.body = some code73 := by kernel_rfl
/-- How two records are compared. -/
def cmpR (k n k' n' : Int) : Int := orL [Lib.compareInt k k', Lib.compareInt n n']
section
attribute [local irreducible] AnyK StepK
set_option maxHeartbeats 800000 in
theorem cmpG (c0 c1 c2 c3 c4 c5 c6 e0 e1 e2 e3 e4 e5 e6 : UInt8) (bo : Nat) (W : World) (ho : W.cell? ⟨bo, 0, none⟩ = some (.func (.func 68) #[] #[])) :
    Calls Try.prog 73 #[rV c0 c1 c2 c3 c4 c5 c6, rV e0 e1 e2 e3 e4 e5 e6, ptr bo] W fun e w' => e = .returned (.int .i64 (cmpR (kindIx c0) (num2 c1 c2) (kindIx e0) (num2 e1 e2))) ∧ Grew W w' := by
  have hbo : bo < W.heap.size := by have := block_lt_of_cell ho; exact this
  refine (callsIn_wide (n := 5)).1 (callsIn_of_wp Try.func73 body73 trivial ?_ rfl)
  obtain ⟨a, ha⟩ : ∃ a : Act, a = { tmps := #[rV c0 c1 c2 c3 c4 c5 c6, rV e0 e1 e2 e3 e4 e5 e6, ptr bo] ++ Array.replicate (Try.f73.ntmps - (#[rV c0 c1 c2 c3 c4 c5 c6, rV e0 e1 e2 e3 e4 e5 e6, ptr bo] : Array Value).size) undef, defers := [] } := ⟨_, rfl⟩
  have hsz : a.tmps.size = 20 := by rw [ha]; simp [Try.ntmps73]
  have t0 : a.eval (.tmp 0) = rV c0 c1 c2 c3 c4 c5 c6 := by rw [ha]; simp [Act.eval]
  have t1 : a.eval (.tmp 1) = rV e0 e1 e2 e3 e4 e5 e6 := by rw [ha]; simp [Act.eval]
  have t2 : a.eval (.tmp 2) = ptr bo := by rw [ha]; simp [Act.eval]
  have hd_a : a.defers = [] := by rw [ha]
  rw [← ha]
  clear ha
  unfold code73
  refine wpIn_seq (region_p 3 ?_)
  intro K hK
  refine ListK.box (i := 0) (u := rV c0 c1 c2 c3 c4 c5 c6) rfl (by simp [t0]) (bx83 _ _ _ _ _ _ _ W) ?_
  refine ListK.box (i := 1) (u := rV e0 e1 e2 e3 e4 e5 e6) rfl (by simp [t1]) (bx83 _ _ _ _ _ _ _ (W.alloc (.cells (r7 c0 c1 c2 c3 c4 c5 c6) 83))) ?_
  refine ListK.assign (i := 2) (v := .int .i64 0) rfl (by simp) ?_
  refine ListK.done (hK _ _ ?_)
  clear hK K
  have hg1 : Grew W (W.alloc (.cells (r7 c0 c1 c2 c3 c4 c5 c6) 83)) := (Grew.refl _).alloc _
  have w3 := Whole.new W 83 (r7 c0 c1 c2 c3 c4 c5 c6)
  have ho1 := (hg1.below.cell (p := ⟨bo, 0, none⟩) hbo).trans ho
  have hz1 := hg1.below.size
  generalize W.heap.size = b3 at w3 ⊢
  generalize W.alloc (.cells (r7 c0 c1 c2 c3 c4 c5 c6) 83) = W1 at *
  have hg2 : Grew W1 (W1.alloc (.cells (r7 e0 e1 e2 e3 e4 e5 e6) 83)) := (Grew.refl _).alloc _
  have w4 := Whole.new W1 83 (r7 e0 e1 e2 e3 e4 e5 e6)
  have ho2 := (hg2.below.cell (p := ⟨bo, 0, none⟩) (show bo < W1.heap.size by omega)).trans ho1
  replace w3 := w3.below hg2.below w3.lt
  have hG2 := hg1.trans hg2
  generalize W1.heap.size = b4 at w4 ⊢
  generalize W1.alloc (.cells (r7 e0 e1 e2 e3 e4 e5 e6) 83) = W2 at *
  generalize hA : Act.put _ _ _ = a1
  have hz_a1 : a1.tmps.size = 20 := by rw [← hA]; simp only [size_put, hsz]
  have u2 : a1.eval (.tmp 2) = .pointer (some ⟨bo, 0, none⟩) := by rw [← hA]; exact (by simp [t2])
  have u3 : a1.eval (.tmp 3) = .pointer (some ⟨b3, 0, none⟩) := by rw [← hA]; exact (by simp [hsz])
  have u4 : a1.eval (.tmp 4) = .pointer (some ⟨b4, 0, none⟩) := by rw [← hA]; exact (by simp [hsz])
  have hd_a1 : a1.defers = [] := by rw [← hA]; simp only [defers_put, hd_a]
  clear hA
  have hgr : ∀ w w', (fun w : World => (Whole w b3 83 (r7 c0 c1 c2 c3 c4 c5 c6) ∧ Whole w b4 83 (r7 e0 e1 e2 e3 e4 e5 e6)) ∧ w.cell? ⟨bo, 0, none⟩ = some (.func (.func 68) #[] #[]) ∧ Grew W2 w) w → Grew w w' → (fun w : World => (Whole w b3 83 (r7 c0 c1 c2 c3 c4 c5 c6) ∧ Whole w b4 83 (r7 e0 e1 e2 e3 e4 e5 e6)) ∧ w.cell? ⟨bo, 0, none⟩ = some (.func (.func 68) #[] #[]) ∧ Grew W2 w) w' := fun w w' h hg => ⟨⟨h.1.1.below hg.below h.1.1.lt, h.1.2.below hg.below h.1.2.lt⟩, (hg.below.cell (p := ⟨bo, 0, none⟩) (show bo < w.heap.size by have := block_lt_of_cell h.2.1; exact this)).trans h.2.1, h.2.2.trans hg⟩
  have hR0 : (fun w : World => (Whole w b3 83 (r7 c0 c1 c2 c3 c4 c5 c6) ∧ Whole w b4 83 (r7 e0 e1 e2 e3 e4 e5 e6)) ∧ w.cell? ⟨bo, 0, none⟩ = some (.func (.func 68) #[] #[]) ∧ Grew W2 w) W2.drew := hgr W2 _ ⟨⟨w3, w4⟩, ho2, Grew.refl _⟩ ((Grew.refl _).drew)
  refine wpIn_seq (region_K (KpR (fun w : World => (Whole w b3 83 (r7 c0 c1 c2 c3 c4 c5 c6) ∧ Whole w b4 83 (r7 e0 e1 e2 e3 e4 e5 e6)) ∧ w.cell? ⟨bo, 0, none⟩ = some (.func (.func 68) #[] #[]) ∧ Grew W2 w) (fun _ => false)) (wideF_plain _) (by kernel_rfl) Try.mixed ?_)
  change AnyK _ _ _ _ 15 (Array.replicate 15 false) _ _
  have hR : (fun w : World => (Whole w b3 83 (r7 c0 c1 c2 c3 c4 c5 c6) ∧ Whole w b4 83 (r7 e0 e1 e2 e3 e4 e5 e6)) ∧ w.cell? ⟨bo, 0, none⟩ = some (.func (.func 68) #[] #[]) ∧ Grew W2 w) W2.drew := hR0
  refine AnyK.load (i := 0) may_o (p := ⟨bo, 0, none⟩) (v := .func (.func 68) #[] #[]) (by simp [u2]) (fun w hw => ld116 hw.2.1) hR ?_
  refine AnyK.load (i := 1) may_o (p := ⟨b3, 0, none⟩) (v := rV c0 c1 c2 c3 c4 c5 c6) (by simp [u3]) (fun w hw => ld83 hw.1.1) hR ?_
  refine AnyK.load (i := 3) may_o (p := ⟨bo, 0, none⟩) (v := .func (.func 68) #[] #[]) (by simp [u2]) (fun w hw => ld116 hw.2.1) hR ?_
  refine AnyK.load (i := 4) may_o (p := ⟨b4, 0, none⟩) (v := rV e0 e1 e2 e3 e4 e5 e6) (by simp [u4]) (fun w hw => ld83 hw.1.2) hR ?_
  refine AnyK.load (i := 7) may_o (p := ⟨b3, 0, none⟩) (v := rV c0 c1 c2 c3 c4 c5 c6) (by simp [u3]) (fun w hw => ld83 hw.1.1) hR ?_
  refine AnyK.load (i := 9) may_o (p := ⟨b4, 0, none⟩) (v := rV e0 e1 e2 e3 e4 e5 e6) (by simp [u4]) (fun w hw => ld83 hw.1.2) hR ?_
  refine AnyK.pick1 (i := 2) (by kernel_rfl) ?_
  refine StepK.call (i := 2) (f := 68) (vs := #[rV c0 c1 c2 c3 c4 c5 c6]) rfl (enters_of Try.func68 (by kernel_rfl) rfl) (by simp [hz_a1]) (by simp [hz_a1]) ((orderG c0 c1 c2 c3 c4 c5 c6 _).mono ?_)
  rintro _ V2 ⟨rfl, g2⟩
  replace hR : (fun w : World => (Whole w b3 83 (r7 c0 c1 c2 c3 c4 c5 c6) ∧ Whole w b4 83 (r7 e0 e1 e2 e3 e4 e5 e6)) ∧ w.cell? ⟨bo, 0, none⟩ = some (.func (.func 68) #[] #[]) ∧ Grew W2 w) V2 := hgr _ _ hR g2
  refine ⟨_, rfl, fun _ _ => hR, ?_⟩
  refine AnyK.pick1 (i := 5) (by kernel_rfl) ?_
  refine StepK.call (i := 5) (f := 68) (vs := #[rV e0 e1 e2 e3 e4 e5 e6]) rfl (enters_of Try.func68 (by kernel_rfl) rfl) (by simp [hz_a1]) (by simp [hz_a1]) ((orderG e0 e1 e2 e3 e4 e5 e6 _).mono ?_)
  rintro _ V5 ⟨rfl, g5⟩
  replace hR : (fun w : World => (Whole w b3 83 (r7 c0 c1 c2 c3 c4 c5 c6) ∧ Whole w b4 83 (r7 e0 e1 e2 e3 e4 e5 e6)) ∧ w.cell? ⟨bo, 0, none⟩ = some (.func (.func 68) #[] #[]) ∧ Grew W2 w) V5 := hgr _ _ hR g5
  refine ⟨_, rfl, fun _ _ => hR, ?_⟩
  refine AnyK.pick1 (i := 6) (by kernel_rfl) ?_
  refine StepK.call (i := 6) (f := 75) (vs := #[.int .i64 (kindIx c0), .int .i64 (kindIx e0)]) rfl (enters_of Try.func75 (by kernel_rfl) rfl) rfl (by simp [hz_a1]) ((compare_any (kindIx c0) (kindIx e0) _).mono ?_)
  rintro _ V6 ⟨rfl, h6⟩
  subst h6
  refine ⟨_, rfl, fun _ _ => hR, ?_⟩
  refine AnyK.pick1 (i := 8) (by kernel_rfl) ?_
  refine StepK.call (i := 8) (f := 59) (vs := #[rV c0 c1 c2 c3 c4 c5 c6, .int .i64 (1)]) rfl (enters_of Try.func59 (by kernel_rfl) rfl) rfl (by simp [hz_a1]) ((number1G c0 c1 c2 c3 c4 c5 c6 _).mono ?_)
  rintro _ V8 ⟨rfl, g8⟩
  replace hR : (fun w : World => (Whole w b3 83 (r7 c0 c1 c2 c3 c4 c5 c6) ∧ Whole w b4 83 (r7 e0 e1 e2 e3 e4 e5 e6)) ∧ w.cell? ⟨bo, 0, none⟩ = some (.func (.func 68) #[] #[]) ∧ Grew W2 w) V8 := hgr _ _ hR g8
  refine ⟨_, rfl, fun _ _ => hR, ?_⟩
  refine AnyK.pick1 (i := 10) (by kernel_rfl) ?_
  refine StepK.call (i := 10) (f := 59) (vs := #[rV e0 e1 e2 e3 e4 e5 e6, .int .i64 (1)]) rfl (enters_of Try.func59 (by kernel_rfl) rfl) rfl (by simp [hz_a1]) ((number1G e0 e1 e2 e3 e4 e5 e6 _).mono ?_)
  rintro _ V10 ⟨rfl, g10⟩
  replace hR : (fun w : World => (Whole w b3 83 (r7 c0 c1 c2 c3 c4 c5 c6) ∧ Whole w b4 83 (r7 e0 e1 e2 e3 e4 e5 e6)) ∧ w.cell? ⟨bo, 0, none⟩ = some (.func (.func 68) #[] #[]) ∧ Grew W2 w) V10 := hgr _ _ hR g10
  refine ⟨_, rfl, fun _ _ => hR, ?_⟩
  refine AnyK.pick1 (i := 11) (by kernel_rfl) ?_
  refine StepK.call (i := 11) (f := 75) (vs := #[.int .i64 (num2 c1 c2 : Int), .int .i64 (num2 e1 e2 : Int)]) rfl (enters_of Try.func75 (by kernel_rfl) rfl) rfl (by simp [hz_a1]) ((compare_any (num2 c1 c2 : Int) (num2 e1 e2 : Int) _).mono ?_)
  rintro _ V11 ⟨rfl, h11⟩
  subst h11
  refine ⟨_, rfl, fun _ _ => hR, ?_⟩
  refine AnyK.pick1 (i := 12) (by kernel_rfl) ?_
  have hcl : ∀ w : World, ∀ (i : Nat) (z : Int), [(Lib.compareInt (kindIx c0) (kindIx e0)), (Lib.compareInt (num2 c1 c2 : Int) (num2 e1 e2 : Int))][i]? = some z → (w.alloc (.cells #[.int .i64 (Lib.compareInt (kindIx c0) (kindIx e0)), .int .i64 (Lib.compareInt (num2 c1 c2 : Int) (num2 e1 e2 : Int))] 3)).cell? ⟨w.heap.size, i, none⟩ = some (.int .i64 z) := fun w i z hz => by
    rw [(Whole.new w 3 #[.int .i64 (Lib.compareInt (kindIx c0) (kindIx e0)), .int .i64 (Lib.compareInt (num2 c1 c2 : Int) (num2 e1 e2 : Int))]).cell i]
    rcases i with _ | _ | i
    · cases hz; rfl
    · cases hz; rfl
    · simp at hz
  refine StepK.build (i := 12) (ps := #[(0, .int .i64 (Lib.compareInt (kindIx c0) (kindIx e0))), (1, .int .i64 (Lib.compareInt (num2 c1 c2 : Int) (num2 e1 e2 : Int)))]) rfl (by simp [hz_a1]) (bs22_2 _ _ _) (fun _ h => hgr _ _ h ((Grew.refl _).alloc _)) ?_
  replace hR := hgr _ _ hR ((Grew.refl _).alloc (.cells #[.int .i64 (Lib.compareInt (kindIx c0) (kindIx e0)), .int .i64 (Lib.compareInt (num2 c1 c2 : Int) (num2 e1 e2 : Int))] 3))
  refine AnyK.pick1 (i := 13) (by kernel_rfl) ?_
  refine StepK.call (i := 13) (f := 74) (vs := #[.slice (some ⟨_, 0, none⟩) 2 2]) rfl (enters_of Try.func74 (by kernel_rfl) rfl) rfl (by simp [hz_a1]) ((or_any _ 2 [(Lib.compareInt (kindIx c0) (kindIx e0)), (Lib.compareInt (num2 c1 c2 : Int) (num2 e1 e2 : Int))] _ (by simp) (hcl _)).mono ?_)
  rintro _ V13 ⟨rfl, h13⟩
  subst h13
  refine ⟨_, rfl, fun _ _ => hR, ?_⟩
  refine AnyK.assign (i := 14) may_o (v := .int .i64 (orL [(Lib.compareInt (kindIx c0) (kindIx e0)), (Lib.compareInt (num2 c1 c2 : Int) (num2 e1 e2 : Int))])) (by simp [hz_a1]) hR ?_
  refine AnyK.done (by kernel_rfl) ?_
  refine wpIn_ret ?_
  exact bodyPost_ret (v := .int .i64 (cmpR (kindIx c0) (num2 c1 c2) (kindIx e0) (num2 e1 e2))) (res1 Try.results73 (by unfold cmpR; exact (by simp [hz_a1]))) (by simp only [defers_put, hd_a1]) ⟨rfl, hG2.trans hR.2.2⟩
end
end Go.Proofs.YtmdlmmfbcnkanaaR
namespace Go.Proofs.YtmdlmmfbcnkanaaR
open Go.RowKit Go.Shelf
/-- Records as keys. -/
abbrev K7 := UInt8 × UInt8 × UInt8 × UInt8 × UInt8 × UInt8 × UInt8
noncomputable instance k7dec : DecidableEq K7 := fun a b => Classical.propDecidable (a = b)
abbrev kv7 (k : K7) : Value := rV k.1 k.2.1 k.2.2.1 k.2.2.2.1 k.2.2.2.2.1 k.2.2.2.2.2.1 k.2.2.2.2.2.2
def k7 : List UInt8 → K7
  | [a, b, c, d, e, f, g] => (a, b, c, d, e, f, g)
  | _ => (0, 0, 0, 0, 0, 0, 0)
theorem kl102 : KeyLaw (κ := K7) 102 83 4 kv7 where
  und := fun w => by kernel_rfl
  chk := fun b k w => by kernel_rfl
  slow := ⟨_, und83, fun k k' => sameNow_agg _ _ _⟩
  eq := fun k k' w => by
    obtain ⟨a, b, c, d, e, f, g⟩ := k
    obtain ⟨a', b', c', d', e', f', g'⟩ := k'
    show (Op.equalIn 10000 83 (rV a b c d e f g) (rV a' b' c' d' e' f' g')).run Try.prog w = _
    rw [eq83]
    congr 1
    refine decide_eq_decide.2 ?_
    simp
  stays := fun k w => stays_agg _ w (by simp)
theorem k7_inj {r r' : List UInt8} (h : r.length = 7) (h' : r'.length = 7) (e : k7 r = k7 r') : r = r' := by
  obtain ⟨a, b, c, d, e1, f, g, rfl⟩ := len7 h
  obtain ⟨a', b', c', d', e', f', g', rfl⟩ := len7 h'
  simpa [k7] using e
/-- What has been counted: good pieces, bad ones, doubles; and the good ones, without doubles. -/
structure Ct where
  ng : Nat
  nb : Nat
  nd : Nat
  sn : List (List UInt8)
def ctStep (x : Ct) (p : List UInt8) : Ct := if isGood p then (if p ∈ x.sn then ⟨x.ng + 1, x.nb, x.nd + 1, x.sn⟩ else ⟨x.ng + 1, x.nb, x.nd, x.sn ++ [p]⟩) else ⟨x.ng, x.nb + 1, x.nd, x.sn⟩
def ctAll (ps : List (List UInt8)) : Ct := ps.foldl ctStep ⟨0, 0, 0, []⟩
def seenM (l : List (List UInt8)) : List (K7 × Value) := l.map fun r => (k7 r, .bool true)
theorem getK_seen {l : List (List UInt8)} (h7 : ∀ r, r ∈ l → r.length = 7) {p : List UInt8} (hp : p.length = 7) : (getK (seenM l) (k7 p)).getD (.bool false) = .bool (decide (p ∈ l)) := by
  induction l with
  | nil => rfl
  | cons r l ih =>
    have h1 := ih (fun x hx => h7 x (List.mem_cons_of_mem _ hx))
    show (getK ((k7 r, .bool true) :: seenM l) (k7 p)).getD (.bool false) = _
    rw [getK_cons]
    by_cases e : p = r
    · subst e
      simp
    · have e2 : k7 p ≠ k7 r := fun h => e (k7_inj hp (h7 r List.mem_cons_self) h)
      rw [if_neg e2, h1]
      simp [e]
theorem putK_seen {l : List (List UInt8)} (h7 : ∀ r, r ∈ l → r.length = 7) {p : List UInt8} (hp : p.length = 7) : putK (seenM l) (k7 p) (.bool true) = seenM (if p ∈ l then l else l ++ [p]) := by
  have h := getK_seen h7 hp
  by_cases e : p ∈ l
  · rw [if_pos e]
    refine putK_same ?_
    rw [decide_eq_true e] at h
    cases hg : getK (seenM l) (k7 p) with
    | none => rw [hg] at h; cases h
    | some v => rw [hg] at h; exact congrArg some h
  · rw [if_neg e]
    have hn : getK (seenM l) (k7 p) = none := by
      cases hg : getK (seenM l) (k7 p) with
      | none => rfl
      | some v =>
        rw [hg, decide_eq_false e] at h
        have hm := getK_mem hg
        unfold seenM at hm
        obtain ⟨r, _, hr⟩ := List.mem_map.1 hm
        have hv := congrArg Prod.snd hr
        simp only at hv
        subst hv
        cases h
    rw [putK_new hn]
    simp [seenM]
theorem ct_le : ∀ (ps : List (List UInt8)) (x : Ct), x.nd ≤ x.ng → (ps.foldl ctStep x).nd ≤ (ps.foldl ctStep x).ng ∧ (ps.foldl ctStep x).ng + (ps.foldl ctStep x).nb = x.ng + x.nb + ps.length
  | [], x, h => ⟨h, by simp⟩
  | p :: ps, x, h => by
    have hs : (ctStep x p).nd ≤ (ctStep x p).ng ∧ (ctStep x p).ng + (ctStep x p).nb = x.ng + x.nb + 1 := by
      unfold ctStep
      split
      · split <;> simp <;> omega
      · simp; omega
    have := ct_le ps (ctStep x p) hs.1
    simp only [List.foldl_cons, List.length_cons]
    omega
theorem al62 (w : World) : (Instr.alloc 62 true (.tuple #[])).run Try.prog w = .ok (.pointer (some ⟨w.heap.size, 0, none⟩)) (w.alloc (.cells #[.int .i64 0, .int .i64 0, .int .i64 0] 62)) := by go_simp
theorem al102 (w : World) : (Instr.alloc 102 true (.tuple #[])).run Try.prog w = .ok (.pointer (some ⟨w.heap.size, 0, none⟩)) (w.alloc (.cells #[.map none] 102)) := by go_simp
theorem bd62_0 (w : World) : (Instr.build 62 #[]).run Try.prog w = .ok (.agg #[.int .i64 0, .int .i64 0, .int .i64 0]) w := by go_simp
theorem mm102 (w : World) : (Instr.makeMap 102 none).run Try.prog w = .ok (.map (some w.heap.size)) (w.alloc (.map #[] 0)) := by kernel_rfl
theorem st102 {w : World} {p : Addr} {u : Value} {M : Option Nat} (h : w.cell? p = some u) (hf : w.frozen? p = false) : (Instr.storeAt 102 (.pointer (some p)) (.map M)).run Try.prog w = .ok () (w.setCell p (.map M)) := by go_simp
theorem ld102 {w : World} {p : Addr} {v : Value} (h : w.cell? p = some v) : (Instr.loadAt 102 (.pointer (some p))).run Try.prog w = .ok v w := by go_simp
theorem ld62 {w : World} {b : Nat} {u v x : Value} (h : w.cell? ⟨b, 0, none⟩ = some u ∧ w.cell? ⟨b, 1, none⟩ = some v ∧ w.cell? ⟨b, 2, none⟩ = some x) : (Instr.loadAt 62 (.pointer (some ⟨b, 0, none⟩))).run Try.prog w = .ok (.agg #[u, v, x]) w := by
  obtain ⟨h0, h1, h2⟩ := h
  go_simp
theorem st62 {w : World} {b : Nat} {u0 u1 u2 : Value} {x y z : Int} (h : Whole w b 62 #[u0, u1, u2]) : (Instr.storeAt 62 (.pointer (some ⟨b, 0, none⟩)) (.agg #[.int .i64 x, .int .i64 y, .int .i64 z])).run Try.prog w = .ok () (((w.setCell ⟨b, 0, none⟩ (.int .i64 x)).setCell ⟨b, 1, none⟩ (.int .i64 y)).setCell ⟨b, 2, none⟩ (.int .i64 z)) := by
  have h0 : w.cell? ⟨b, 0, none⟩ = some u0 := h.cell 0
  have h1 : w.cell? ⟨b, 1, none⟩ = some u1 := h.cell 1
  have h2 : w.cell? ⟨b, 2, none⟩ = some u2 := h.cell 2
  have f0 := h.frozen 0
  have f1 := h.frozen 1
  have f2 := h.frozen 2
  go_simp
theorem fa62_0 {b o : Nat} (w : World) : (Instr.fieldAt 62 (.pointer (some ⟨b, o, none⟩)) 0).run Try.prog w = .ok (.pointer (some ⟨b, o, none⟩)) w := by go_simp
theorem fa62_1 {b o : Nat} (w : World) : (Instr.fieldAt 62 (.pointer (some ⟨b, o, none⟩)) 1).run Try.prog w = .ok (.pointer (some ⟨b, o + 1, none⟩)) w := by go_simp
theorem fa62_2 {b o : Nat} (w : World) : (Instr.fieldAt 62 (.pointer (some ⟨b, o, none⟩)) 2).run Try.prog w = .ok (.pointer (some ⟨b, o + 2, none⟩)) w := by go_simp
theorem res62b {fn : Go.Func} {k j b : Nat} {W : World} {a : Act} {v0 v1 v2 u : Value} (h : fn.results = #[.cell k 62, .tmp j]) (he : a.eval (.tmp k) = .pointer (some ⟨b, 0, none⟩)) (hj : a.eval (.tmp j) = u) (hw : Whole W b 62 #[v0, v1, v2]) :
    (results fn a.tmps).run Try.prog W = .ok (.tuple #[.agg #[v0, v1, v2], u]) W := by
  have he' : a.tmps[k]?.getD undef = .pointer (some ⟨b, 0, none⟩) := by simpa [Act.eval] using he
  have hj' : a.tmps[j]?.getD undef = u := by simpa [Act.eval] using hj
  have h0 : W.cell? ⟨b, 0, none⟩ = some v0 := hw.cell 0
  have h1 : W.cell? ⟨b, 1, none⟩ = some v1 := hw.cell 1
  have h2 : W.cell? ⟨b, 2, none⟩ = some v2 := hw.cell 2
  simp only [results, h]
  simp [he', hj']
  go_simp
abbrev c62 (x y z : Nat) : Array Value := #[.int .i64 (x : Int), .int .i64 (y : Int), .int .i64 (z : Int)]
/-- What holds between two pieces. -/
structure CtI (W0 : World) (b2 b4 M b5 : Nat) (x : Ct) (W : World) : Prop where
  low : Below W0.heap.size W0 W
  ord : W0.heap.size ≤ b2 ∧ b2 < b4 ∧ b4 < M ∧ M < b5
  w2 : Whole W b2 62 #[.int .i64 0, .int .i64 0, .int .i64 0]
  w4 : Whole W b4 62 (c62 x.ng x.nb x.nd)
  w5 : Whole W b5 102 #[.map (some M)]
  mp : MapAt kv7 W M (seenM x.sn)
  gd : ∀ r, r ∈ x.sn → isGood r = true
section
variable {W0 W W' : World} {b2 b4 M b5 : Nat} {x : Ct}
theorem CtI.else {X : Nat → Prop} (i : CtI W0 b2 b4 M b5 x W) (he : Else X W W') (hX : ∀ k, k ≤ b5 → ¬ X k) : CtI W0 b2 b4 M b5 x W' := by
  obtain ⟨o1, o2, o3, o4⟩ := i.ord
  exact ⟨i.low.trans (he.below i.low.size (fun k hk => hX k (by omega))), i.ord, he.whole (hX _ (by omega)) i.w2, he.whole (hX _ (by omega)) i.w4, he.whole (hX _ (by omega)) i.w5, i.mp.keep (he.block M i.mp.lt (hX _ (by omega))), i.gd⟩
theorem CtI.below (i : CtI W0 b2 b4 M b5 x W) (hb : Below W.heap.size W W') : CtI W0 b2 b4 M b5 x W' := i.else (Else.of_below (fun _ => False) hb) (fun _ _ h => h)
theorem CtI.lt (i : CtI W0 b2 b4 M b5 x W) : b5 < W.heap.size := i.w5.lt
/-- A number is changed. -/
theorem CtI.set (i : CtI W0 b2 b4 M b5 x W) {j : Nat} {v : Value} {y : Ct} (hw : ∀ W', Whole W' b4 62 ((c62 x.ng x.nb x.nd).setIfInBounds j v) → Whole W' b4 62 (c62 y.ng y.nb y.nd)) (hs : y.sn = x.sn) : CtI W0 b2 b4 M b5 y (W.setCell ⟨b4, j, none⟩ v) ∧ Else (fun k => k = b4) W (W.setCell ⟨b4, j, none⟩ v) := by
  obtain ⟨o1, o2, o3, o4⟩ := i.ord
  have he : Else (fun k => k = b4) W (W.setCell ⟨b4, j, none⟩ v) := (Else.refl (fun k => k = b4) W).setCell (p := ⟨b4, j, none⟩) (.inl rfl) _
  refine ⟨⟨i.low.trans (he.below i.low.size (fun k hk => by omega)), i.ord, he.whole (by omega) i.w2, hw _ (i.w4.set j v), he.whole (by omega) i.w5, ?_, fun r hr => i.gd r (hs ▸ hr)⟩, he⟩
  rw [hs]
  exact i.mp.keep (he.block M i.mp.lt (by omega))
/-- A record is seen. -/
theorem CtI.put (i : CtI W0 b2 b4 M b5 x W) {p : List UInt8} (hg : isGood p = true) :
    ∃ W', (Instr.mapUpdate 102 (.map (some M)) (kv7 (k7 p)) (.bool true)).run Try.prog W = .ok () W' ∧ CtI W0 b2 b4 M b5 ⟨x.ng, x.nb, x.nd, if p ∈ x.sn then x.sn else x.sn ++ [p]⟩ W' ∧ Else (fun k => k = M) W W' := by
  obtain ⟨o1, o2, o3, o4⟩ := i.ord
  obtain ⟨o, h3, h4⟩ := i.mp.put kl102 (k7 p) (.bool true)
  rw [putK_seen (fun r hr => good_seven (i.gd r hr)) (good_seven hg)] at h4
  have he : Else (fun k => k = M) W (W.putObj M o) := ⟨⟨rfl, rfl, rfl, by simp [World.putObj], fun k hk => by omega⟩, fun k _ hx => World.putObj_heap_other hx⟩
  refine ⟨_, h3, ⟨i.low.trans (he.below i.low.size (fun k hk => by omega)), i.ord, he.whole (by omega) i.w2, he.whole (by omega) i.w4, he.whole (by omega) i.w5, h4, ?_⟩, he⟩
  intro r hr
  split at hr
  · exact i.gd r hr
  · rcases List.mem_append.1 hr with hr | hr
    · exact i.gd r hr
    · simp at hr
      rw [hr]
      exact hg
end
noncomputable def opsCt0 : Array Oper := (Try.f37.body.bind (regionOf 0)).getD #[]
noncomputable def opsCt1 : Array Oper := (Try.f37.body.bind (regionOf 1)).getD #[]
noncomputable def opsCt2 : Array Oper := (Try.f37.body.bind (regionOf 2)).getD #[]
noncomputable def opsCt3 : Array Oper := (Try.f37.body.bind (regionOf 3)).getD #[]
noncomputable def opsCt4 : Array Oper := (Try.f37.body.bind (regionOf 4)).getD #[]
noncomputable def opsCt5 : Array Oper := (Try.f37.body.bind (regionOf 5)).getD #[]
noncomputable def opsCt6 : Array Oper := (Try.f37.body.bind (regionOf 6)).getD #[]
noncomputable def opsCt7 : Array Oper := (Try.f37.body.bind (regionOf 7)).getD #[]
noncomputable def opsCt8 : Array Oper := (Try.f37.body.bind (regionOf 8)).getD #[]
noncomputable def opsCt9 : Array Oper := (Try.f37.body.bind (regionOf 9)).getD #[]
noncomputable def opsCt10 : Array Oper := (Try.f37.body.bind (regionOf 10)).getD #[]
noncomputable def opsCt11 : Array Oper := (Try.f37.body.bind (regionOf 11)).getD #[]
noncomputable def opsCt12 : Array Oper := (Try.f37.body.bind (regionOf 12)).getD #[]
noncomputable def opsCt13 : Array Oper := (Try.f37.body.bind (regionOf 13)).getD #[]
noncomputable def opsCt14 : Array Oper := (Try.f37.body.bind (regionOf 14)).getD #[]
noncomputable def ct_as : Code := (.region 6 opsCt6 false)
noncomputable def ct_body : Code := (.block 1 (.seq (.region 7 opsCt7 false) (.seq (.block 2 (.seq (.region 8 opsCt8 false) (.cond (.tmp 22) (.seq (.region 9 opsCt9 false) (.exit 1)) (.seq (.region 10 opsCt10 false) (.cond (.tmp 29) (.region 11 opsCt11 false) .skip))))) (.seq (.region 12 opsCt12 false) (.region 13 opsCt13 false)))))
noncomputable def ct_range : Code := (.rangeFunc (.tmp 15) #[16] ct_as ct_body)
noncomputable def ct_e : Code := (.seq (.region 14 opsCt14 false) .ret)
noncomputable def code37 : Code := (.seq (.region 0 opsCt0 false) (.seq (.seq (.region 1 opsCt1 false) (.cond (.tmp 11) (.seq (.region 2 opsCt2 false) .ret) .skip)) (.seq (.region 3 opsCt3 false) (.seq (.region 4 opsCt4 false) (.seq (.seq (.region 5 opsCt5 false) (.block 0 ct_range)) ct_e)))))
theorem body37 : Try.f37.body = some code37 := by kernel_rfl
section
variable {W0 : World} {b2 b4 M b5 : Nat} {x : Ct}
set_option maxHeartbeats 1000000 in
theorem ct_body_any {l n c : Nat} {A : Option Addr} {p : List UInt8} {a : Act} {W1 : World} {Q : Exit → Act → World → Prop} (hl : p.length ≤ c) (hs : BytesAt W1 W1.heap.size A p) (hx : x.ng ≤ 90000 ∧ x.nb ≤ 90000 ∧ x.nd ≤ 90000)
    (hsz : a.tmps.size = 44) (hdf : a.defers = []) (t2 : a.eval (.tmp 2) = ptr b2) (t4 : a.eval (.tmp 4) = ptr b4) (t5 : a.eval (.tmp 5) = ptr b5) (t6 : a.eval (.tmp 6) = .slice A p.length c) (i : CtI W0 b2 b4 M b5 x W1)
    (hN : ∀ a' W', CtI W0 b2 b4 M b5 (ctStep x p) W' → Else (fun k => k = b4 ∨ k = M) W1 W' → Q .normal a' W') :
    ct_body.wpIn (Fence.wide.inRound l) n Try.prog Q a W1 := by
  obtain ⟨x1, x2, x3⟩ := hx
  obtain ⟨c0, c1, c2, c3, c4, c5, c6, hz, hp⟩ : ∃ c0 c1 c2 c3 c4 c5 c6, asRec p = r7 c0 c1 c2 c3 c4 c5 c6 ∧ (isGood p = true → p = [c0, c1, c2, c3, c4, c5, c6]) := by
    cases hg : isGood p with
    | false => exact ⟨0, 0, 0, 0, 0, 0, 0, by simp [asRec, hg], fun h => by cases h⟩
    | true =>
      obtain ⟨c0, c1, c2, c3, c4, c5, c6, rfl⟩ := len7 (good_seven hg)
      exact ⟨c0, c1, c2, c3, c4, c5, c6, by simp [asRec, hg, recC], fun _ => rfl⟩
  unfold ct_body
  refine wpIn_block ?_
  have hgd := good_any A p c W1 hl hs
  refine wpIn_seq (region_l 8 (wideF_round _ _) (by kernel_rfl) (by kernel_rfl) ?_)
  intro K hK
  refine ListK.move (i := 0) (v := .slice A p.length c) rfl (by simp [t6]) ?_
  refine ListK.call (i := 1) (vs := #[.slice A p.length c]) rfl (enters_of Try.func67 (by kernel_rfl) rfl) (by simp [hsz]) ((hgd).mono ?_)
  rintro _ W2 ⟨h67, hb2⟩
  rw [hz] at h67
  subst h67
  refine ⟨_, rfl, ?_⟩
  refine ListK.move (i := 2) (v := .tuple #[rV c0 c1 c2 c3 c4 c5 c6, .bool (isGood p)]) rfl (by simp [hsz]) ?_
  refine ListK.extract (i := 3) (u := .tuple #[rV c0 c1 c2 c3 c4 c5 c6, .bool (isGood p)]) (v := rV c0 c1 c2 c3 c4 c5 c6) rfl (by simp [hsz]) (ex0 _ _ _) ?_
  refine ListK.extract (i := 4) (u := .tuple #[rV c0 c1 c2 c3 c4 c5 c6, .bool (isGood p)]) (v := .bool (isGood p)) rfl (by simp [hsz]) (ex1 _ _ _) ?_
  refine ListK.alloc (i := 5) rfl (al83 W2) ?_
  refine ListK.store (i := 6) (u := .pointer (some ⟨W2.heap.size, 0, none⟩)) (u' := rV c0 c1 c2 c3 c4 c5 c6) rfl (by simp [hsz]) (by simp [hsz]) (st83 (Whole.new W2 83 z7)) ?_
  refine ListK.assign (i := 7) (v := .bool (isGood p)) rfl (by simp [hsz]) ?_
  refine ListK.done (hK _ _ ?_)
  clear hK K
  have w7 := put7_whole (Whole.new W2 83 z7) (u8V c0) (u8V c1) (u8V c2) (u8V c3) (u8V c4) (u8V c5) (u8V c6)
  have hb3 : Below W2.heap.size W2 (put7 (W2.alloc (.cells z7 83)) W2.heap.size (u8V c0) (u8V c1) (u8V c2) (u8V c3) (u8V c4) (u8V c5) (u8V c6)) := ((Below.refl _ W2).alloc (Nat.le_refl _) _).trans ((put7_else (w := W2.alloc (.cells z7 83)) (b := W2.heap.size) (u8V c0) (u8V c1) (u8V c2) (u8V c3) (u8V c4) (u8V c5) (u8V c6)).below (by simp) (fun k hk e => by omega))
  have hl5 := (i.below hb2).lt
  have i3 := (i.below hb2).below hb3
  have hB3 := hb2.trans (hb3.mono hb2.size)
  generalize hq7 : W2.heap.size = b7 at *
  generalize put7 (W2.alloc (.cells z7 83)) b7 (u8V c0) (u8V c1) (u8V c2) (u8V c3) (u8V c4) (u8V c5) (u8V c6) = W3 at *
  obtain ⟨o1, o2, o3, o4⟩ := i.ord
  generalize hA : Act.put _ _ _ = a1
  have hz_a1 : a1.tmps.size = 44 := by rw [← hA]; simp only [size_put, hsz]
  have u2 : a1.eval (.tmp 2) = .pointer (some ⟨b2, 0, none⟩) := by rw [← hA]; exact (by simp [t2])
  have u4 : a1.eval (.tmp 4) = .pointer (some ⟨b4, 0, none⟩) := by rw [← hA]; exact (by simp [t4])
  have u5 : a1.eval (.tmp 5) = .pointer (some ⟨b5, 0, none⟩) := by rw [← hA]; exact (by simp [t5])
  have u7 : a1.eval (.tmp 7) = .pointer (some ⟨b7, 0, none⟩) := by rw [← hA]; exact (by simp [hsz])
  have u8 : a1.eval (.tmp 8) = .bool (isGood p) := by rw [← hA]; exact (by simp [hsz])
  have hd_a1 : a1.defers = [] := by rw [← hA]; simp only [defers_put, hdf]
  clear hA
  cases hg : isGood p with
  | false =>
    rw [hg] at u8
    have hst : ctStep x p = ⟨x.ng, x.nb + 1, x.nd, x.sn⟩ := by unfold ctStep; rw [hg]; rfl
    refine wpIn_seq (wpIn_block ?_)
    refine wpIn_seq (region_l 3 (wideF_round _ _) (by kernel_rfl) (by kernel_rfl) ?_)
    intro K hK
    refine ListK.move (i := 0) (v := .bool false) rfl (by simp [u8]) ?_
    refine ListK.un (i := 1) (u := .bool false) (v := .bool true) rfl (by simp [hz_a1]) (not4 _ _) ?_
    refine ListK.assign (i := 2) (v := .bool true) rfl (by simp [hz_a1]) ?_
    refine ListK.done (hK _ _ ?_)
    clear hK K
    refine wpIn_cond (t := true) (by simp [hz_a1]) ?_
    obtain ⟨i4, he4⟩ := i3.set (j := 1) (v := .int .i64 ((x.nb + 1 : Nat) : Int)) (y := ⟨x.ng, x.nb + 1, x.nd, x.sn⟩) (fun _ h => h) rfl
    generalize hA : Act.put _ _ _ = a2
    have hz_a2 : a2.tmps.size = 44 := by rw [← hA]; simp only [size_put, hz_a1]
    have v2 : a2.eval (.tmp 2) = .pointer (some ⟨b2, 0, none⟩) := by rw [← hA]; exact (by simp [u2])
    have v4 : a2.eval (.tmp 4) = .pointer (some ⟨b4, 0, none⟩) := by rw [← hA]; exact (by simp [u4])
    have v5 : a2.eval (.tmp 5) = .pointer (some ⟨b5, 0, none⟩) := by rw [← hA]; exact (by simp [u5])
    have v7 : a2.eval (.tmp 7) = .pointer (some ⟨b7, 0, none⟩) := by rw [← hA]; exact (by simp [u7])
    have hd_a2 : a2.defers = [] := by rw [← hA]; simp only [defers_put, hd_a1]
    clear hA
    refine wpIn_seq (region_l 5 (wideF_round _ _) (by kernel_rfl) (by kernel_rfl) ?_)
    intro K hK
    refine ListK.field (i := 0) (u := .pointer (some ⟨b4, 0, none⟩)) (v := .pointer (some ⟨b4, 1, none⟩)) rfl (by simp [v4]) (fa62_1 _) ?_
    refine ListK.load (i := 1) (p := ⟨b4, 1, none⟩) (v := .int .i64 (x.nb : Int)) rfl (by simp [hz_a2]) (ld3 (i3.w4.cell 1)) ?_
    refine ListK.bin (i := 2) (u := .int .i64 (x.nb : Int)) (u' := .int .i64 1) (v := .int .i64 ((x.nb + 1 : Nat) : Int)) rfl (by simp [hz_a2]) (by simp) (add3 (by omega) (by omega) _) ?_
    refine ListK.field (i := 3) (u := .pointer (some ⟨b4, 0, none⟩)) (v := .pointer (some ⟨b4, 1, none⟩)) rfl (by simp [v4]) (fa62_1 _) ?_
    refine ListK.store (i := 4) (u := .pointer (some ⟨b4, 1, none⟩)) (u' := .int .i64 ((x.nb + 1 : Nat) : Int)) rfl (by simp [hz_a2]) (by simp [hz_a2]) (st3 (i3.w4.cell 1) (i3.w4.frozen 1)) ?_
    refine ListK.done (hK _ _ (wpIn_exit ?_))
    refine hN _ _ (hst ▸ i4) ((Else.of_below _ hB3).trans (he4.mono (fun k _ e => .inl e)))
  | true =>
    rw [hg] at u8
    obtain rfl := hp hg
    refine wpIn_seq (wpIn_block ?_)
    refine wpIn_seq (region_l 3 (wideF_round _ _) (by kernel_rfl) (by kernel_rfl) ?_)
    intro K hK
    refine ListK.move (i := 0) (v := .bool true) rfl (by simp [u8]) ?_
    refine ListK.un (i := 1) (u := .bool true) (v := .bool false) rfl (by simp [hz_a1]) (not4 _ _) ?_
    refine ListK.assign (i := 2) (v := .bool false) rfl (by simp [hz_a1]) ?_
    refine ListK.done (hK _ _ ?_)
    clear hK K
    refine wpIn_cond (t := false) (by simp [hz_a1]) ?_
    generalize hA : Act.put _ _ _ = a2
    have hz_a2 : a2.tmps.size = 44 := by rw [← hA]; simp only [size_put, hz_a1]
    have v2 : a2.eval (.tmp 2) = .pointer (some ⟨b2, 0, none⟩) := by rw [← hA]; exact (by simp [u2])
    have v4 : a2.eval (.tmp 4) = .pointer (some ⟨b4, 0, none⟩) := by rw [← hA]; exact (by simp [u4])
    have v5 : a2.eval (.tmp 5) = .pointer (some ⟨b5, 0, none⟩) := by rw [← hA]; exact (by simp [u5])
    have v7 : a2.eval (.tmp 7) = .pointer (some ⟨b7, 0, none⟩) := by rw [← hA]; exact (by simp [u7])
    have hd_a2 : a2.defers = [] := by rw [← hA]; simp only [defers_put, hd_a1]
    clear hA
    have hlk := i3.mp.look kl102 (k7 [c0, c1, c2, c3, c4, c5, c6]) zv4
    rw [getK_seen (fun r hr => good_seven (i3.gd r hr)) rfl] at hlk
    have h12 : ∀ (y : Ct) (a3 : Act) (W4 : World), a3.tmps.size = 44 → a3.defers = [] → a3.eval (.tmp 2) = ptr b2 → a3.eval (.tmp 4) = ptr b4 → a3.eval (.tmp 5) = ptr b5 → a3.eval (.tmp 7) = ptr b7 → CtI W0 b2 b4 M b5 y W4 → Whole W4 b7 83 (r7 c0 c1 c2 c3 c4 c5 c6) → Else (fun k => k = b4 ∨ k = M) W1 W4 → y.ng = x.ng → y.sn = x.sn → y.nb = x.nb → ctStep x [c0, c1, c2, c3, c4, c5, c6] = ⟨y.ng + 1, y.nb, y.nd, if [c0, c1, c2, c3, c4, c5, c6] ∈ x.sn then x.sn else x.sn ++ [[c0, c1, c2, c3, c4, c5, c6]]⟩ →
        (Code.seq (.region 12 opsCt12 false) (.region 13 opsCt13 false)).wpIn (Fence.wide.inRound l) n Try.prog (Exit.inBlock 1 Q) a3 W4 := by
      intro y a3 W4 hz_a3 hd_a3 q2 q4 q5 q7 i4 w74 he4 hy1 hy2 hy3 hst
      obtain ⟨i5, he5⟩ := i4.set (j := 0) (v := .int .i64 ((y.ng + 1 : Nat) : Int)) (y := ⟨y.ng + 1, y.nb, y.nd, y.sn⟩) (fun _ h => h) rfl
      have w75 := he5.whole (by omega) w74
      refine wpIn_seq (region_l 5 (wideF_round _ _) (by kernel_rfl) (by kernel_rfl) ?_)
      intro K hK
      refine ListK.field (i := 0) (u := .pointer (some ⟨b4, 0, none⟩)) (v := .pointer (some ⟨b4, 0, none⟩)) rfl (by simp [q4]) (fa62_0 _) ?_
      refine ListK.load (i := 1) (p := ⟨b4, 0, none⟩) (v := .int .i64 (y.ng : Int)) rfl (by simp [hz_a3]) (ld3 (i4.w4.cell 0)) ?_
      refine ListK.bin (i := 2) (u := .int .i64 (y.ng : Int)) (u' := .int .i64 1) (v := .int .i64 ((y.ng + 1 : Nat) : Int)) rfl (by simp [hz_a3]) (by simp) (add3 (by omega) (by omega) _) ?_
      refine ListK.field (i := 3) (u := .pointer (some ⟨b4, 0, none⟩)) (v := .pointer (some ⟨b4, 0, none⟩)) rfl (by simp [q4]) (fa62_0 _) ?_
      refine ListK.store (i := 4) (u := .pointer (some ⟨b4, 0, none⟩)) (u' := .int .i64 ((y.ng + 1 : Nat) : Int)) rfl (by simp [hz_a3]) (by simp [hz_a3]) (st3 (i4.w4.cell 0) (i4.w4.frozen 0)) ?_
      refine ListK.done (hK _ _ ?_)
      clear hK K
      obtain ⟨W6, hput, i6, he6⟩ := i5.put hg
      generalize hA : Act.put _ _ _ = a4
      have hz_a4 : a4.tmps.size = 44 := by rw [← hA]; simp only [size_put, hz_a3]
      have r5 : a4.eval (.tmp 5) = .pointer (some ⟨b5, 0, none⟩) := by rw [← hA]; exact (by simp [q5])
      have r7 : a4.eval (.tmp 7) = .pointer (some ⟨b7, 0, none⟩) := by rw [← hA]; exact (by simp [q7])
      have hd_a4 : a4.defers = [] := by rw [← hA]; simp only [defers_put, hd_a3]
      clear hA
      refine region_l 3 (wideF_round _ _) (by kernel_rfl) (by kernel_rfl) ?_
      intro K hK
      refine ListK.load (i := 0) (p := ⟨b5, 0, none⟩) (v := .map (some M)) rfl (by simp [r5]) (ld102 (i5.w5.cell 0)) ?_
      refine ListK.load (i := 1) (p := ⟨b7, 0, none⟩) (v := rV c0 c1 c2 c3 c4 c5 c6) rfl (by simp [r7]) (ld83 w75) ?_
      refine ListK.mapUp (i := 2) (u := .map (some M)) (u' := rV c0 c1 c2 c3 c4 c5 c6) (u'' := .bool true) rfl (by simp [hz_a4]) (by simp [hz_a4]) (by simp) hput ?_
      refine ListK.done (hK _ _ ?_)
      clear hK K
      refine hN _ _ ?_ ((he4.trans (he5.mono (fun k _ e => .inl e))).trans (he6.mono (fun k _ e => .inr e)))
      rw [hst]
      have h6 := i6
      rw [hy2] at h6
      exact h6
    refine wpIn_seq (region_l 4 (wideF_round _ _) (by kernel_rfl) (by kernel_rfl) ?_)
    intro K hK
    refine ListK.load (i := 0) (p := ⟨b5, 0, none⟩) (v := .map (some M)) rfl (by simp [v5]) (ld102 (i3.w5.cell 0)) ?_
    refine ListK.load (i := 1) (p := ⟨b7, 0, none⟩) (v := rV c0 c1 c2 c3 c4 c5 c6) rfl (by simp [v7]) (ld83 w7) ?_
    refine ListK.look (i := 2) (u := .map (some M)) (u' := rV c0 c1 c2 c3 c4 c5 c6) (v := .bool (decide ([c0, c1, c2, c3, c4, c5, c6] ∈ x.sn))) rfl (by simp [hz_a2]) (by simp [hz_a2]) hlk ?_
    refine ListK.assign (i := 3) (v := .bool (decide ([c0, c1, c2, c3, c4, c5, c6] ∈ x.sn))) rfl (by simp [hz_a2]) ?_
    refine ListK.done (hK _ _ ?_)
    clear hK K
    generalize hA : Act.put _ _ _ = a3
    have hz_a3 : a3.tmps.size = 44 := by rw [← hA]; simp only [size_put, hz_a2]
    have s2 : a3.eval (.tmp 2) = .pointer (some ⟨b2, 0, none⟩) := by rw [← hA]; exact (by simp [v2])
    have s4 : a3.eval (.tmp 4) = .pointer (some ⟨b4, 0, none⟩) := by rw [← hA]; exact (by simp [v4])
    have s5 : a3.eval (.tmp 5) = .pointer (some ⟨b5, 0, none⟩) := by rw [← hA]; exact (by simp [v5])
    have s7 : a3.eval (.tmp 7) = .pointer (some ⟨b7, 0, none⟩) := by rw [← hA]; exact (by simp [v7])
    have s29 : a3.eval (.tmp 29) = .bool (decide ([c0, c1, c2, c3, c4, c5, c6] ∈ x.sn)) := by rw [← hA]; exact (by simp [hz_a2])
    have hd_a3 : a3.defers = [] := by rw [← hA]; simp only [defers_put, hd_a2]
    clear hA
    by_cases hin : [c0, c1, c2, c3, c4, c5, c6] ∈ x.sn
    · have hst : ctStep x [c0, c1, c2, c3, c4, c5, c6] = ⟨x.ng + 1, x.nb, x.nd + 1, if [c0, c1, c2, c3, c4, c5, c6] ∈ x.sn then x.sn else x.sn ++ [[c0, c1, c2, c3, c4, c5, c6]]⟩ := by unfold ctStep; rw [if_pos hg, if_pos hin, if_pos hin]
      rw [decide_eq_true hin] at s29
      refine wpIn_cond (t := true) s29 ?_
      obtain ⟨i4, he4⟩ := i3.set (j := 2) (v := .int .i64 ((x.nd + 1 : Nat) : Int)) (y := ⟨x.ng, x.nb, x.nd + 1, x.sn⟩) (fun _ h => h) rfl
      refine region_l 5 (wideF_round _ _) (by kernel_rfl) (by kernel_rfl) ?_
      intro K hK
      refine ListK.field (i := 0) (u := .pointer (some ⟨b4, 0, none⟩)) (v := .pointer (some ⟨b4, 2, none⟩)) rfl (by simp [s4]) (fa62_2 _) ?_
      refine ListK.load (i := 1) (p := ⟨b4, 2, none⟩) (v := .int .i64 (x.nd : Int)) rfl (by simp [hz_a3]) (ld3 (i3.w4.cell 2)) ?_
      refine ListK.bin (i := 2) (u := .int .i64 (x.nd : Int)) (u' := .int .i64 1) (v := .int .i64 ((x.nd + 1 : Nat) : Int)) rfl (by simp [hz_a3]) (by simp) (add3 (by omega) (by omega) _) ?_
      refine ListK.field (i := 3) (u := .pointer (some ⟨b4, 0, none⟩)) (v := .pointer (some ⟨b4, 2, none⟩)) rfl (by simp [s4]) (fa62_2 _) ?_
      refine ListK.store (i := 4) (u := .pointer (some ⟨b4, 2, none⟩)) (u' := .int .i64 ((x.nd + 1 : Nat) : Int)) rfl (by simp [hz_a3]) (by simp [hz_a3]) (st3 (i3.w4.cell 2) (i3.w4.frozen 2)) ?_
      refine ListK.done (hK _ _ ?_)
      clear hK K
      exact h12 ⟨x.ng, x.nb, x.nd + 1, x.sn⟩ _ _ (by simp only [size_put, hz_a3]) (by simp only [defers_put, hd_a3]) (by simp [s2]) (by simp [s4]) (by simp [s5]) (by simp [s7]) i4 (he4.whole (by omega) w7) ((Else.of_below _ hB3).trans (he4.mono (fun k _ e => .inl e))) rfl rfl rfl hst
    · have hst : ctStep x [c0, c1, c2, c3, c4, c5, c6] = ⟨x.ng + 1, x.nb, x.nd, if [c0, c1, c2, c3, c4, c5, c6] ∈ x.sn then x.sn else x.sn ++ [[c0, c1, c2, c3, c4, c5, c6]]⟩ := by unfold ctStep; rw [if_pos hg, if_neg hin, if_neg hin]
      rw [decide_eq_false hin] at s29
      refine wpIn_cond (t := false) s29 (wpIn_skip ?_)
      exact h12 x _ _ hz_a3 hd_a3 s2 s4 s5 s7 i3 w7 (Else.of_below _ hB3) rfl rfl rfl hst
end
end Go.Proofs.YtmdlmmfbcnkanaaR
namespace Go.Proofs.YtmdlmmfbcnkanaaR
open Go.RowKit Go.Shelf Go.Sort

def un7 (k : K7) : List UInt8 := [k.1, k.2.1, k.2.2.1, k.2.2.2.1, k.2.2.2.2.1, k.2.2.2.2.2.1, k.2.2.2.2.2.2]
def enc7 (k : K7) : List Value := [u8V k.1, u8V k.2.1, u8V k.2.2.1, u8V k.2.2.2.1, u8V k.2.2.2.2.1, u8V k.2.2.2.2.2.1, u8V k.2.2.2.2.2.2]
theorem enc7_un (k : K7) : enc7 k = (un7 k).map u8V := rfl
theorem un7_k7 {r : List UInt8} (h : r.length = 7) : un7 (k7 r) = r := by
  obtain ⟨a, b, c, d, e, f, g, rfl⟩ := len7 h
  rfl
/-- The place of a record in a file. -/
def rankL : List UInt8 → Int
  | a :: b :: c :: _ => kindIx a * 10000 + num2 b c
  | _ => 0
def cf7 (x y : K7) : Int := cmpR (kindIx x.1) (num2 x.2.1 x.2.2.1) (kindIx y.1) (num2 y.2.1 y.2.2.1)
theorem num2_le (a b : UInt8) : num2 a b ≤ 2805 := by
  have h1 := dig_lt a
  have h2 := dig_lt b
  unfold num2
  omega
theorem lt7 (x y : K7) : ltOf cf7 x y = decide (rankL (un7 x) < rankL (un7 y)) := by
  have h1 := num2_le x.2.1 x.2.2.1
  have h2 := num2_le y.2.1 y.2.2.1
  show decide (cmpR (kindIx x.1) (num2 x.2.1 x.2.2.1) (kindIx y.1) (num2 y.2.1 y.2.2.1) < 0) = decide (kindIx x.1 * 10000 + (num2 x.2.1 x.2.2.1 : Int) < kindIx y.1 * 10000 + (num2 y.2.1 y.2.2.1 : Int))
  generalize kindIx x.1 = k
  generalize kindIx y.1 = k'
  generalize num2 x.2.1 x.2.2.1 = n at *
  generalize num2 y.2.1 y.2.2.1 = n' at *
  refine decide_eq_decide.2 ?_
  unfold cmpR Lib.compareInt
  simp only [orL]
  by_cases a1 : k < k'
  · rw [if_pos a1, if_neg (by decide)]
    omega
  · rw [if_neg a1]
    by_cases a2 : k > k'
    · rw [if_pos a2, if_neg (by decide)]
      omega
    · rw [if_neg a2, if_pos rfl]
      by_cases b1 : (n : Int) < n'
      · rw [if_pos b1, if_neg (by decide)]
        omega
      · rw [if_neg b1]
        by_cases b2 : (n : Int) > n'
        · rw [if_pos b2, if_neg (by decide)]
          omega
        · rw [if_neg b2, if_pos rfl]
          omega
theorem swo7 : SWO (ltOf cf7) where
  irrefl x := by rw [lt7]; simp
  trans x y z h1 h2 := by rw [lt7] at *; simp at *; omega
  ntrans x y z h1 h2 := by rw [lt7] at *; simp at *; omega
theorem agg83 : ∀ w, (isAgg (srtR.t 24)).run Try.prog w = .ok true w := fun w => by kernel_rfl
theorem siz83 : ∀ w, (Go.sizeOf (srtR.t 24)).run Try.prog w = .ok 7 w := fun w => by kernel_rfl
theorem cmpLays7 {bo blk off size : Nat} {w : World} (hb : bo ≠ blk) (ho : w.cell? ⟨bo, 0, none⟩ = some (.func (.func 68) #[] #[])) : CmpLays Try.prog 73 #[ptr bo] enc7 7 cf7 blk off size w := by
  intro m os dk hs x y
  have hlt : bo < w.heap.size := by have := block_lt_of_cell ho; exact this
  refine cmpG x.1 x.2.1 x.2.2.1 x.2.2.2.1 x.2.2.2.2.1 x.2.2.2.2.2.1 x.2.2.2.2.2.2 y.1 y.2.1 y.2.2.1 y.2.2.2.1 y.2.2.2.2.1 y.2.2.2.2.2.1 y.2.2.2.2.2.2 bo _ ?_
  have hp : (putRowK enc7 7 (Go.Sort.ahead w m) blk off dk).cell? ⟨bo, 0, none⟩ = some (.func (.func 68) #[] #[]) := (cell?_putRowK_other enc7 7 (Go.Sort.ahead w m) blk off dk ⟨bo, 0, none⟩ hb).trans ho
  have hl2 : bo < (putRowK enc7 7 (Go.Sort.ahead w m) blk off dk).heap.size := by have := block_lt_of_cell hp; exact this
  exact ((Grew.below ⟨0, os, rfl⟩ : Go.RowKit.Below _ (putRowK enc7 7 (Go.Sort.ahead w m) blk off dk) (sortWorldK enc7 7 w blk off m dk os)).cell (p := ⟨bo, 0, none⟩) hl2).trans hp
theorem sortW_below {B blk off n : Nat} {w : World} {d : Array K7} {os : Array Obj} (hB : B ≤ blk) (hw : B ≤ w.heap.size) : Go.RowKit.Below B w (sortWorldK enc7 7 w blk off n d os) := by
  have h1 : Go.RowKit.Below B w (putRowK enc7 7 (Go.Sort.ahead w n) blk off d) := by
    refine ⟨rfl, rfl, rfl, ?_, fun k hk => ?_⟩
    · show w.heap.size ≤ (w.heap.modify blk _).size
      simp
    · show (w.heap.modify blk _)[k]? = w.heap[k]?
      rw [Array.getElem?_modify, if_neg (by omega)]
  refine h1.trans ((Grew.below ⟨0, os, rfl⟩ : Go.RowKit.Below _ (putRowK enc7 7 (Go.Sort.ahead w n) blk off d) _).mono ?_)
  have := h1.size
  omega
/-- Records, one behind the other. -/
theorem flat_at : ∀ (l : List K7) (j : Nat), j < l.length * 7 → (l.flatMap enc7)[j]? = some ((enc7 l[j / 7]!)[j % 7]!)
  | [], j, h => by simp at h
  | k :: l, j, h => by
    rw [List.flatMap_cons]
    by_cases hj : j < 7
    · rw [List.getElem?_append_left (by simpa [enc7] using hj), Nat.div_eq_of_lt hj, Nat.mod_eq_of_lt hj]
      rw [List.getElem?_eq_getElem (by simpa [enc7] using hj)]
      simp [enc7, hj]
    · rw [List.getElem?_append_right (by simp [enc7]; omega)]
      have h7 : (enc7 k).length = 7 := rfl
      rw [h7, flat_at l (j - 7) (by simp only [List.length_cons] at h; omega)]
      have e1 : j / 7 = (j - 7) / 7 + 1 := by omega
      have e2 : j % 7 = (j - 7) % 7 := by omega
      rw [e1, e2]
      simp
/-- A row of records that a function has laid, behind block B. -/
structure OR (B : Nat) (W0 : World) (v : Value) (l : List K7) (W : World) : Prop where
  low : Go.RowKit.Below W0.heap.size W0 W
  b0 : W0.heap.size ≤ B
  b1 : B ≤ W.heap.size
  own : W.ownsRow B 83 7 v l.length (l.flatMap enc7)
theorem OR.nil {B : Nat} {W0 W : World} (low : Go.RowKit.Below W0.heap.size W0 W) (b0 : W0.heap.size ≤ B) (b1 : B ≤ W.heap.size) : OR B W0 (.slice none 0 0) [] W := ⟨low, b0, b1, World.ownsRow_nil _ _ _ _⟩
theorem OR.below {B : Nat} {W0 W W' : World} {v : Value} {xs : List K7} (b : OR B W0 v xs W) (hb : Go.RowKit.Below W.heap.size W W') : OR B W0 v xs W' :=
  ⟨b.low.trans (hb.mono b.low.size), b.b0, Nat.le_trans b.b1 hb.size, b.own.kept (grown_of_below hb) (by cases v.ownBlock <;> simp)⟩
theorem OR.else {B r : Nat} {W0 W W' : World} {v : Value} {xs : List K7} (b : OR B W0 v xs W) (he : Else (fun k => k = r) W W') (hr : r < B) (hr0 : W0.heap.size ≤ r) : OR B W0 v xs W' := by
  refine ⟨b.low.trans (he.below b.low.size (fun k hk => by omega)), b.b0, Nat.le_trans b.b1 he.size, b.own.1, ?_⟩
  rcases b.own.2 with h | ⟨g, cap, cur, h0, hge, hg, h1, h2, h3, h4⟩
  · exact .inl h
  · exact .inr ⟨g, cap, cur, h0, hge, (he.block g (Array.getElem?_eq_some_iff.1 hg).1 (fun e => by omega)).trans hg, h1, h2, h3, h4⟩
theorem info83 : (Try.prog.info? 83).map (fun i => (i.zero, i.size, i.bytes)) = some (some (.agg z7), 7, 7) := by kernel_rfl
theorem und108 : Try.prog.underlying 108 = some (.slice 83) := by kernel_rfl
theorem app108_run {B : Nat} {W0 W : World} {v : Value} {xs : List K7} {k : K7} {b c : Nat} {ty : TypeId} (h : OR B W0 v xs W) (hw : Whole W b 83 (enc7 k).toArray) (hx : xs.length ≤ 100000) :
    ∃ v' w', (Builtin.append_ #[108, 108] ty #[v, .slice (some ⟨b, 0, none⟩) 1 c]).run Try.prog W = .ok v' w' ∧ OR B W0 v' (xs ++ [k]) w' ∧ Go.RowKit.Below B W w' := by
  obtain ⟨i0, hi0, hi1, hi2, hi3⟩ := info_parts info83
  obtain ⟨g, cap, w', hr, h2, h3, h4, _⟩ := run_append_lies (P := Try.prog) W 108 ty B 83 i0 (.agg z7) 7 7 und108 hi0 hi1 hi2 hi3 rfl (by omega) v xs.length (xs.flatMap enc7) h.own ⟨b, 0, none⟩ 1 c (enc7 k) rfl
    (fun j u hu => by
      have hc := (hw.cell j).trans (show (enc7 k).toArray[j]? = some u by simpa using hu)
      simp only [Addr.add]
      split
      · rename_i h0
        subst h0
        exact hc
      · simpa using hc) (fun u hu => by
        simp only [enc7, List.mem_cons, List.not_mem_nil, or_false] at hu
        rcases hu with rfl | rfl | rfl | rfl | rfl | rfl | rfl <;> rfl) (by omega) (by unfold maxLen; omega) (by omega) h.b1 W.heap.size rfl
  have hbl : Go.RowKit.Below B W w' := (Below.refl B W).grown h3 h.b1 (fun k e => (h.own.lt k e).1)
  refine ⟨_, w', hr, ⟨h.low.grown h3 h.low.size (fun k e => Nat.le_trans h.b0 (h.own.lt k e).1), h.b0, Nat.le_trans h.b1 hbl.size, ?_⟩, hbl⟩
  rw [List.length_append, List.flatMap_append]
  simpa using h2
theorem ListK.app108 {ops : Array Oper} {K : Act → World → Prop} {k i d : Nat} {a : Act} {w w' : World} {ty : TypeId} {pos : String} {aft : Array Edge} {s x : Operand} {v v2 v' : Value} (hi : ops[i]? = some ⟨some d, .call { callee := .builtin .append, args := #[s, x], argTypes := #[108, 108] }, ty, pos, aft, none⟩) (hs : a.eval s = v) (hx : a.eval x = v2)
    (hr : (Builtin.append_ #[108, 108] ty #[v, v2]).run Try.prog w = .ok v' w') (h : ListK Try.prog ops K k (i + 1) (a.put (some d) v') w') : ListK Try.prog ops K (k + 1) i a w := by
  refine ListK.val hi rfl ?_ h
  simp [execOp, resolve, invoke, builtin, hs, hx, hr]
/-- What a row that is not empty looks like: the sort may have it. -/
theorem OR.row {B : Nat} {W0 W : World} {v : Value} {l : List K7} (h : OR B W0 v l W) (hne : 0 < l.length) : ∃ g c, v = .slice (some ⟨g, 0, none⟩) l.length c ∧ B ≤ g ∧ g < W.heap.size ∧ HoldsK enc7 7 W g 0 l.toArray := by
  rcases h.own.2 with ⟨h0, h1⟩ | ⟨g, cap, cur, h0, hge, hg, h1, h2, h3, h4⟩
  · omega
  · have hw : Whole W g 83 cur := hg
    refine ⟨g, cap, h0, hge, hw.lt, fun j hj => ?_⟩
    simp only [size_flatK, List.size_toArray] at hj
    have hf := flat_at l j hj
    rw [get_flatK _ _ _ _ (by simpa using hj)]
    refine ⟨?_, by rw [Nat.zero_add]; exact hw.frozen j⟩
    rw [Nat.zero_add, hw.cell j]
    have : (cur.toList.take (l.length * 7))[j]? = some ((enc7 l[j / 7]!)[j % 7]!) := by rw [h4]; exact hf
    rw [List.getElem?_take, if_pos hj] at this
    simpa using this
theorem holds_below {W W' : World} {g B : Nat} {d : Array K7} (h : HoldsK enc7 7 W g 0 d) (hb : Go.RowKit.Below B W W') (hg : g < B) : HoldsK enc7 7 W' g 0 d := by
  intro j hj
  obtain ⟨h1, h2⟩ := h j hj
  refine ⟨(hb.cell (p := ⟨g, 0 + j, none⟩) hg).trans h1, ?_⟩
  rw [← h2]
  unfold World.frozen?
  rw [hb.block g hg]
/-- slices.SortFunc at records. -/
theorem sort_any {l : List K7} {g c bo : Nat} {W : World} (hH : HoldsK enc7 7 W g 0 l.toArray) (hg : g < W.heap.size) (hb : bo ≠ g) (ho : W.cell? ⟨bo, 0, none⟩ = some (.func (.func 68) #[] #[])) (hl : l.length ≤ 100000) :
    Calls Try.prog 72 #[.slice (some ⟨g, 0, none⟩) l.length c, .func (.func 73) #[] #[ptr bo]] W fun e w' => e = .returned (.tuple #[]) ∧ ∃ l' : List K7, l'.Perm l ∧ l'.Pairwise (fun x y => rankL (un7 x) ≤ rankL (un7 y)) ∧ RecsAt w' w'.heap.size (some ⟨g, 0, none⟩) (l'.map un7) ∧ Go.RowKit.Below g W w' := by
  have eg : ∀ args w, (callFunc 73 args).run Try.prog w = .ok (.enter 73 args) w := enters_of Try.func73 (by kernel_rfl) rfl
  have hcon := AnyQ.slices_SortFunc srt 7 agg83 siz83 enc7 (fun _ => rfl) (fun x v hv => by
    simp only [enc7, List.mem_cons, List.not_mem_nil, or_false] at hv
    rcases hv with rfl | rfl | rfl | rfl | rfl | rfl | rfl <;> rfl) cf7 swo7 73 #[ptr bo] g 0 c l.toArray W eg (cmpLays7 hb ho) hH hg (by simp; omega)
  refine Calls.mono (show Calls Try.prog 72 _ _ _ from hcon) ?_
  rintro e w' ⟨rfl, d', n, os, hp, hs, rfl⟩
  obtain ⟨p1, _, p3⟩ := hp
  have hsz : d'.size = l.length := by simpa using p1
  have p4 : d'.toList.Perm l := by
    have e1 : (d'.extract 0 l.toArray.size).toList = d'.toList := by
      rw [← p1]
      simp
    have e2 : (l.toArray.extract 0 l.toArray.size).toList = l := by simp
    rw [e1, e2] at p3
    exact p3
  have hH2 : HoldsK enc7 7 (sortWorldK enc7 7 W g 0 n d' os) g 0 d' := by
    refine holdsK_grow enc7 7 _ os g 0 d' ?_ (holdsK_putRowK enc7 7 (Go.Sort.ahead W n) g 0 l.toArray d' (holdsK_ahead enc7 7 W n g 0 l.toArray hH) p1)
    show g < (W.heap.modify g _).size
    simpa using hg
  have hbl : Go.RowKit.Below g W (sortWorldK enc7 7 W g 0 n d' os) := sortW_below (Nat.le_refl _) (by omega)
  have hlt : g < (sortWorldK enc7 7 W g 0 n d' os).heap.size := Nat.lt_of_lt_of_le hg hbl.size
  refine ⟨rfl, d'.toList, p4, ?_, ?_, hbl⟩
  · rw [List.pairwise_iff_getElem]
    intro i j hi hj hij
    have hj2 : j < d'.size := by simpa using hj
    have h := hs i j (Nat.zero_le _) hij (by rw [← p1]; exact hj2)
    rw [lt7] at h
    have h := of_decide_eq_false h
    rw [getElem!_pos d' i (by omega), getElem!_pos d' j hj2] at h
    simp only [Array.getElem_toList]
    omega
  · intro k r hr
    rw [List.getElem?_map] at hr
    obtain ⟨x, hx, rfl⟩ := Option.map_eq_some_iff.1 hr
    have hk : k < d'.size := by
      have := (List.getElem?_eq_some_iff.1 hx).1
      simpa using this
    refine ⟨rfl, g, 0, rfl, hlt, fun i y hy => ?_⟩
    have hi : i < 7 := (List.getElem?_eq_some_iff.1 hy).1
    have hc := (hH2.cell hk hi).1
    rw [hc]
    have hxe : d'[k]! = x := by
      rw [getElem!_pos d' k hk]
      have := (List.getElem?_eq_some_iff.1 hx).2
      simpa using this
    rw [hxe, enc7_un]
    rw [getElem!_pos _ i (show i < ((un7 x).map u8V).length from hi)]
    have := (List.getElem?_eq_some_iff.1 hy).2
    simp [this]
end Go.Proofs.YtmdlmmfbcnkanaaR
namespace Go.Proofs.YtmdlmmfbcnkanaaR
open Go.RowKit Go.Shelf
theorem StrsAt.drop {w : World} {B b off : Nat} {L : List (List UInt8)} (k : Nat) (h : StrsAt w B (some ⟨b, off, none⟩) L) : StrsAt w B (some ⟨b, off + k, none⟩) (L.drop k) := by
  intro i l hl
  rw [List.getElem?_drop] at hl
  obtain ⟨b', o', e, h1, h2⟩ := h (k + i) l hl
  cases e
  exact ⟨b, off + k, rfl, h1, by rw [Nat.add_assoc]; exact h2⟩
theorem StrsAt.take {w : World} {B : Nat} {A : Option Addr} {L : List (List UInt8)} (k : Nat) (h : StrsAt w B A L) : StrsAt w B A (L.take k) := by
  intro i l hl
  rw [List.getElem?_take] at hl
  split at hl
  · exact h i l hl
  · cases hl
end Go.Proofs.YtmdlmmfbcnkanaaR
namespace Go.Proofs.YtmdlmmfbcnkanaaR
open Go.RowKit Go.Shelf
theorem bs36_2 (l k : List UInt8) (w : World) : (Instr.buildSlice 36 2 #[(0, strV l), (1, strV k)]).run Try.prog w = .ok (.slice (some ⟨w.heap.size, 0, none⟩) 2 2) (w.alloc (.cells #[strV l, strV k] 9)) := by go_simp
section
variable {ops : Array Oper} {K : Act → World → Prop} {Kp : Nat → World → World → Prop} {fuel d i : Nat} {listed : Array Bool} {a : Act} {w w' : World} {ty : TypeId} {pos : String} {aft : Array Edge} {v v2 v' : Value}
end
/-- What is left of some records. -/
structure Tn (L : List (List UInt8)) (i : Nat) (T : List (List UInt8)) : Prop where
  sub : ∀ r, r ∈ T → r ∈ L
  hd : 0 < i → ∀ h, L[0]? = some h → h ∈ T
  len : T.length ≤ 2 * i
theorem Tn.skip {L : List (List UInt8)} {i : Nat} {T : List (List UInt8)} (t : Tn L i T) (hi : 0 < i) : Tn L (i + 1) T := ⟨t.sub, fun _ => t.hd hi, by have := t.len; omega⟩
theorem Tn.one {L : List (List UInt8)} {i : Nat} {T : List (List UInt8)} {l : List UInt8} (t : Tn L i T) (hl : L[i]? = some l) : Tn L (i + 1) (T ++ [l]) := by
  refine ⟨fun r hr => ?_, fun _ h hh => ?_, by have := t.len; simp; omega⟩
  · rcases List.mem_append.1 hr with hr | hr
    · exact t.sub r hr
    · simp at hr
      rw [hr]
      exact List.mem_of_getElem? hl
  · by_cases h0 : i = 0
    · subst h0
      rw [hl] at hh
      cases hh
      simp
    · exact List.mem_append_left _ (t.hd (by omega) h hh)
theorem Tn.two {L : List (List UInt8)} {i : Nat} {T : List (List UInt8)} {l : List UInt8} (t : Tn L i T) (hl : L[i]? = some l) : Tn L (i + 1) (T ++ [l, l]) := by
  have h1 := t.one hl
  refine ⟨fun r hr => h1.sub r (by simpa using hr), fun h0 h hh => by simpa using h1.hd h0 h hh, by have := t.len; simp; omega⟩
theorem WordsAt.below {w w' : World} {B : Nat} {A : Option Addr} {l : List Nat} (h : WordsAt w B A l) (hb : Below B w w') : WordsAt w' B A l := by
  intro k x hx
  obtain ⟨h1, b, off, e, h2, h3⟩ := h k x hx
  exact ⟨h1, b, off, e, h2, by rw [hb.cell (show Addr.block ⟨b, off + k, none⟩ < B from h2)]; exact h3⟩
theorem WordsAt.more {w : World} {B B' : Nat} {A : Option Addr} {l : List Nat} (h : WordsAt w B A l) (hb : B ≤ B') : WordsAt w B' A l := by
  intro k x hx
  obtain ⟨h1, b, off, e, h2, h3⟩ := h k x hx
  exact ⟨h1, b, off, e, Nat.lt_of_lt_of_le h2 hb, h3⟩
theorem StrsAt.wide {w : World} {B B' : Nat} {A : Option Addr} {L : List (List UInt8)} (h : StrsAt w B A L) (hb : B ≤ B') : StrsAt w B' A L := by
  intro i l hl
  obtain ⟨b, o, e1, e2, e3⟩ := h i l hl
  exact ⟨b, o, e1, Nat.lt_of_lt_of_le e2 hb, e3⟩
section
attribute [local irreducible] AnyK StepK
variable {L : List (List UInt8)} {A Aw : Option Addr} {c cw by_ : Nat} {lw : List Nat} {W : World}
end
end Go.Proofs.YtmdlmmfbcnkanaaR
namespace Go.Proofs.YtmdlmmfbcnkanaaR

theorem isDig_hi {n : Nat} (h : n ≤ 99) : isDig (hi2 n) = true ∧ dig (hi2 n) = n / 10 := by
  have h1 : isDig (hi2 n) = true := by
    simp only [isDig, decide_eq_true_eq, hi2_nat h]
    omega
  have h2 := (dig_nat h1).1
  rw [hi2_nat h] at h2
  exact ⟨h1, by omega⟩
theorem isDig_lo {n : Nat} (h : n ≤ 99) : isDig (lo2 n) = true ∧ dig (lo2 n) = n % 10 := by
  have h1 : isDig (lo2 n) = true := by
    simp only [isDig, decide_eq_true_eq, lo2_nat h]
    omega
  have h2 := (dig_nat h1).1
  rw [lo2_nat h] at h2
  exact ⟨h1, by omega⟩
theorem num2_two {n : Nat} (h : n ≤ 99) : num2 (hi2 n) (lo2 n) = n := by
  rw [num2, (isDig_hi h).2, (isDig_lo h).2]
  omega
theorem not10 {b : UInt8} (h : isDig b = true) : b ≠ 10 := by
  rintro rfl
  simp [isDig] at h
theorem made_no10 {k : UInt8} {a b : Nat} (hk : k ≠ 10) (ha : a ≤ 99) (hb : b ≤ 99) : (10 : UInt8) ∉ made k a b := by
  have hc : chk5 k (hi2 a) (lo2 a) (hi2 b) (lo2 b) ≤ 99 := by have := chk5_lt k (hi2 a) (lo2 a) (hi2 b) (lo2 b); omega
  have h1 := not10 (isDig_hi ha).1
  have h2 := not10 (isDig_lo ha).1
  have h3 := not10 (isDig_hi hb).1
  have h4 := not10 (isDig_lo hb).1
  have h5 := not10 (isDig_hi hc).1
  have h6 := not10 (isDig_lo hc).1
  simp only [made, List.mem_cons, List.not_mem_nil, or_false, not_or]
  exact ⟨hk.symm, h1.symm, h2.symm, h3.symm, h4.symm, h5.symm, h6.symm⟩
theorem made_good {k : UInt8} {a b : Nat} (hk : k = 72 ∨ k = 82 ∨ k = 80) (ha : a ≤ 99) (hb : b ≤ 99) (hh : k = 72 → headOk (a : Int) ((b / 10 : Nat) : Int) ((b % 10 : Nat) : Int) = true) : isGood (made k a b) = true := by
  have hc : chk5 k (hi2 a) (lo2 a) (hi2 b) (lo2 b) ≤ 99 := by have := chk5_lt k (hi2 a) (lo2 a) (hi2 b) (lo2 b); omega
  have e1 : (k == 72 || k == 82 || k == 80) = true := by rcases hk with rfl | rfl | rfl <;> rfl
  simp only [made, isGood, good7, e1, (isDig_hi ha).1, (isDig_lo ha).1, (isDig_hi hb).1, (isDig_lo hb).1, (isDig_hi hc).1, (isDig_lo hc).1, num2_two hc, num2_two ha, (isDig_hi hb).2, (isDig_lo hb).2, Bool.and_self, BEq.rfl, Bool.true_and]
  by_cases h72 : k = 72
  · rw [hh h72]
    simp
  · simp [h72]
theorem made_name {k : UInt8} {a b : Nat} (ha : a ≤ 99) : nameOf (made k a b) = if k = 72 then (72, 0) else (k, a) := by
  simp only [made, nameOf, num2_two ha]
theorem made_val {k : UInt8} {a b : Nat} (hb : b ≤ 99) : valOf (made k a b) = b := by
  simp only [made, valOf, num2_two hb]
theorem made_head {m w st : Nat} (hm : m ≤ 99) (hw : w ≤ 9) (hs : st ≤ 9) : headOf (made 72 m (10 * w + st)) = ⟨m, w, st⟩ := by
  have hb : 10 * w + st ≤ 99 := by omega
  simp only [made, headOf, num2_two hm, (isDig_hi hb).2, (isDig_lo hb).2, Head.mk.injEq, true_and]
  omega
/-- Records of which no two of one name differ. -/
def Func (L : List (List UInt8)) : Prop := ∀ a b, a ∈ L → b ∈ L → nameOf a = nameOf b → a = b
theorem find_iff {m : List (List UInt8)} (hf : Func m) {nm : UInt8 × Nat} {r : List UInt8} : find m nm = some r ↔ r ∈ m ∧ nameOf r = nm := by
  constructor
  · exact find_mem
  · rintro ⟨h1, h2⟩
    cases h : find m nm with
    | none =>
      unfold find at h
      rw [List.find?_eq_none] at h
      have := h r h1
      simp [h2] at this
    | some r' =>
      obtain ⟨h3, h4⟩ := find_mem h
      rw [hf r' r h3 h1 (h4.trans h2.symm)]
theorem takeUp_ok : ∀ (T m : List (List UInt8)), Func (m ++ T) → ∃ m', takeUp m T = some m' ∧ ∀ r, r ∈ m' ↔ r ∈ m ++ T
  | [], m, _ => ⟨m, rfl, fun r => by simp⟩
  | g :: T, m, hf => by
    simp only [takeUp]
    cases h : find m (nameOf g) with
    | none =>
      obtain ⟨m', h1, h2⟩ := takeUp_ok T (m ++ [g]) (by simpa using hf)
      exact ⟨m', h1, fun r => by rw [h2]; simp⟩
    | some old =>
      obtain ⟨h3, h4⟩ := find_mem h
      have ho : old = g := hf old g (by simp [h3]) (by simp) h4
      subst ho
      obtain ⟨m', h1, h2⟩ := takeUp_ok T m (fun a b ha hb => hf a b (by
        rcases List.mem_append.1 ha with h | h
        · simp [h]
        · simp [h]) (by
        rcases List.mem_append.1 hb with h | h
        · simp [h]
        · simp [h]))
      refine ⟨m', by simpa using h1, fun r => ?_⟩
      rw [h2]
      simp only [List.mem_append, List.mem_cons]
      constructor
      · rintro (h | h)
        · exact .inl h
        · exact .inr (.inr h)
      · rintro (h | rfl | h)
        · exact .inl h
        · exact .inl h3
        · exact .inr h
theorem Func.of_sub {L L' : List (List UInt8)} (h : Func L) (hs : ∀ r, r ∈ L' → r ∈ L) : Func L' := fun a b ha hb => h a b (hs a ha) (hs b hb)
end Go.Proofs.YtmdlmmfbcnkanaaR
namespace Go.Proofs.YtmdlmmfbcnkanaaR

/-- A reading as a number. -/
def rdN (s : Ser) (i : Nat) : Nat := (s.rd.getD i 0).toNat
def smN (s : Ser) (b : Nat) : Nat := (sumB s b).toNat
def hdR (s : Ser) : List UInt8 := made 72 s.rd.length (10 * s.width.toNat + s.step.toNat)
def hdH (s : Ser) : Head := ⟨s.rd.length, s.width.toNat, s.step.toNat⟩
theorem mem_recsTo {s : Ser} : ∀ {k : Nat} {r : List UInt8}, r ∈ recsTo s k ↔ r = hdR s ∨ (∃ i, i < k ∧ r = made 82 i (rdN s i)) ∨ (∃ i, i < k ∧ closesB s.rd.length s.width i = true ∧ r = made 80 (i / s.width.toNat) (smN s (i / s.width.toNat)))
  | 0, r => by simp [recsTo, hdR]
  | k + 1, r => by
    unfold recsTo
    rw [List.mem_append, List.mem_append, mem_recsTo (k := k)]
    constructor
    · rintro (((h | ⟨i, h1, h2⟩ | ⟨i, h1, h2, h3⟩) | h) | h)
      · exact .inl h
      · exact .inr (.inl ⟨i, by omega, h2⟩)
      · exact .inr (.inr ⟨i, by omega, h2, h3⟩)
      · simp at h
        exact .inr (.inl ⟨k, by omega, h⟩)
      · split at h
        · rename_i hc
          simp at h
          exact .inr (.inr ⟨k, by omega, hc, h⟩)
        · simp at h
    · rintro (h | ⟨i, h1, h2⟩ | ⟨i, h1, h2, h3⟩)
      · exact .inl (.inl (.inl h))
      · by_cases e : i = k
        · subst e
          exact .inl (.inr (List.mem_singleton.2 h2))
        · exact .inl (.inl (.inr (.inl ⟨i, by omega, h2⟩)))
      · by_cases e : i = k
        · subst e
          refine .inr ?_
          rw [if_pos h2]
          exact List.mem_singleton.2 h3
        · exact .inl (.inl (.inr (.inr ⟨i, by omega, h2, h3⟩)))
/-- What a valid series is like, in numbers. -/
structure SerN (s : Ser) : Prop where
  len : 1 ≤ s.rd.length ∧ s.rd.length ≤ 40
  wd : 2 ≤ s.width.toNat ∧ s.width.toNat ≤ 8 ∧ s.width = (s.width.toNat : Int)
  st : 1 ≤ s.step.toNat ∧ s.step.toNat ≤ 9 ∧ s.step = (s.step.toNat : Int)
  rd : ∀ i, i < s.rd.length → rdN s i ≤ 99 ∧ s.rd[i]? = some (rdN s i : Int)
  sm : ∀ b, smN s b ≤ 99 ∧ sumB s b = (smN s b : Int)
  near : ∀ i, i + 1 < s.rd.length → rdN s (i + 1) ≤ rdN s i + s.step.toNat ∧ rdN s i ≤ rdN s (i + 1) + s.step.toNat
theorem div_le40 {s : Ser} (n : SerN s) {i : Nat} (hi : i < s.rd.length) : i / s.width.toNat ≤ 40 := by
  have := Nat.div_le_self i s.width.toNat
  have := n.len
  omega
theorem hdR_ok {s : Ser} (n : SerN s) : isGood (hdR s) = true ∧ nameOf (hdR s) = (72, 0) ∧ headOf (hdR s) = hdH s ∧ (10 : UInt8) ∉ hdR s := by
  have h1 := n.len
  have h2 := n.wd
  have h3 := n.st
  have hb : 10 * s.width.toNat + s.step.toNat ≤ 99 := by omega
  refine ⟨made_good (.inl rfl) (by omega) hb (fun _ => headOk_iff.2 ⟨by omega, by omega, by omega⟩), ?_, made_head (by omega) (by omega) (by omega), made_no10 (by decide) (by omega) hb⟩
  unfold hdR
  rw [made_name (by omega), if_pos rfl]
theorem recR_ok {s : Ser} (n : SerN s) {i : Nat} (hi : i < s.rd.length) : isGood (made 82 i (rdN s i)) = true ∧ nameOf (made 82 i (rdN s i)) = (82, i) ∧ valOf (made 82 i (rdN s i)) = rdN s i ∧ (10 : UInt8) ∉ made 82 i (rdN s i) := by
  have h1 := n.len
  have h2 := (n.rd i hi).1
  refine ⟨made_good (.inr (.inl rfl)) (by omega) h2 (fun h => by cases h), ?_, made_val h2, made_no10 (by decide) (by omega) h2⟩
  rw [made_name (by omega), if_neg (by decide)]
theorem recP_ok {s : Ser} (n : SerN s) {b : Nat} (hb : b ≤ 40) : isGood (made 80 b (smN s b)) = true ∧ nameOf (made 80 b (smN s b)) = (80, b) ∧ valOf (made 80 b (smN s b)) = smN s b ∧ (10 : UInt8) ∉ made 80 b (smN s b) := by
  have h2 := (n.sm b).1
  refine ⟨made_good (.inr (.inr rfl)) (by omega) h2 (fun h => by cases h), ?_, made_val h2, made_no10 (by decide) (by omega) h2⟩
  rw [made_name (by omega), if_neg (by decide)]
theorem file_func {s : Ser} (n : SerN s) : Func (fileL s) := by
  intro a b ha hb he
  rcases mem_recsTo.1 ha with rfl | ⟨i, h1, rfl⟩ | ⟨i, h1, _, rfl⟩ <;> rcases mem_recsTo.1 hb with rfl | ⟨j, h2, rfl⟩ | ⟨j, h2, _, rfl⟩
  · rfl
  · rw [(hdR_ok n).2.1, (recR_ok n h2).2.1] at he
    cases he
  · rw [(hdR_ok n).2.1, (recP_ok n (div_le40 n h2)).2.1] at he
    cases he
  · rw [(hdR_ok n).2.1, (recR_ok n h1).2.1] at he
    cases he
  · rw [(recR_ok n h1).2.1, (recR_ok n h2).2.1] at he
    simp at he
    rw [he]
  · rw [(recR_ok n h1).2.1, (recP_ok n (div_le40 n h2)).2.1] at he
    cases he
  · rw [(hdR_ok n).2.1, (recP_ok n (div_le40 n h1)).2.1] at he
    cases he
  · rw [(recP_ok n (div_le40 n h1)).2.1, (recR_ok n h2).2.1] at he
    cases he
  · rw [(recP_ok n (div_le40 n h1)).2.1, (recP_ok n (div_le40 n h2)).2.1] at he
    simp at he
    rw [he]
/-- What is read of some records of a file. -/
structure RdM (s : Ser) (m : List (List UInt8)) : Prop where
  sub : ∀ r, r ∈ m → r ∈ fileL s
  hd : hdR s ∈ m
theorem RdM.func {s : Ser} {m : List (List UInt8)} (h : RdM s m) (n : SerN s) : Func m := (file_func n).of_sub h.sub
theorem RdM.find {s : Ser} {m : List (List UInt8)} (h : RdM s m) (n : SerN s) : find m (72, 0) = some (hdR s) := (find_iff (h.func n)).2 ⟨h.hd, (hdR_ok n).2.1⟩
theorem RdM.out {s : Ser} {m : List (List UInt8)} (h : RdM s m) (n : SerN s) : m.any (outOf (hdH s)) = false := by
  rw [List.any_eq_false]
  intro r hr
  have hw := n.wd
  rcases mem_recsTo.1 (h.sub r hr) with rfl | ⟨i, h1, rfl⟩ | ⟨i, h1, _, rfl⟩
  · simp [outOf, (hdR_ok n).2.1]
  · simp [outOf, (recR_ok n h1).2.1, hdH, h1]
  · have hd : i / s.width.toNat < (s.rd.length + s.width.toNat - 1) / s.width.toNat := by
      have h2 : i / s.width.toNat + 1 ≤ (s.rd.length + s.width.toNat - 1) / s.width.toNat := by
        rw [Nat.le_div_iff_mul_le (by omega), Nat.add_mul, Nat.one_mul]
        have := Nat.div_mul_le_self i s.width.toNat
        omega
      omega
    simp [outOf, (recP_ok n (div_le40 n h1)).2.1, hdH, Head.blocks, hd]
end Go.Proofs.YtmdlmmfbcnkanaaR
namespace Go.Proofs.YtmdlmmfbcnkanaaR

end Go.Proofs.YtmdlmmfbcnkanaaR
namespace Go.Proofs.YtmdlmmfbcnkanaaR

theorem recsTo_zero (s : Ser) : ∀ k, (recsTo s k)[0]? = some (hdR s)
  | 0 => rfl
  | k + 1 => by
    have h := recsTo_zero s k
    have hp : 0 < (recsTo s k).length := by
      rcases Nat.eq_zero_or_pos (recsTo s k).length with h0 | h0
      · rw [List.eq_nil_of_length_eq_zero h0] at h
        cases h
      · exact h0
    unfold recsTo
    rw [List.getElem?_append_left (by simp), List.getElem?_append_left hp]
    exact h
/-- What is left of a file. -/
structure TornF (s : Ser) (T : List (List UInt8)) : Prop where
  sub : ∀ r, r ∈ T → r ∈ fileL s
  hd : hdR s ∈ T
  len : T.length ≤ 162
  bytes : (linesL T).length = 8 * T.length
end Go.Proofs.YtmdlmmfbcnkanaaR
namespace Go.Proofs.YtmdlmmfbcnkanaaR

/-- Two lots of records that say the same but for a reading. -/
structure SameBut (h : Head) (m m' : List (List UInt8)) (k n : Nat) : Prop where
  other : ∀ j s x, j ≠ k → after h m' j s x = after h m j s x
  at_ : ∀ s, after h m' k s n = after h m k s n
end Go.Proofs.YtmdlmmfbcnkanaaR
namespace Go.Proofs.YtmdlmmfbcnkanaaR

section
variable {s : Ser} (n : SerN s)
def nbS (s : Ser) (b : Nat) : Nat := min s.width.toNat (s.rd.length - b * s.width.toNat)
def recB (s : Ser) (b j : Nat) : List UInt8 := if j < nbS s b then made 82 (b * s.width.toNat + j) (rdN s (b * s.width.toNat + j)) else made 80 b (smN s b)
def blS (s : Ser) : Nat := (s.rd.length + s.width.toNat - 1) / s.width.toNat
def iB (s : Ser) (b : Nat) : Nat := if b * s.width.toNat < s.rd.length then 1 + b * (s.width.toNat + 1) else 1 + s.rd.length + blS s
include n
theorem bl_iff (b : Nat) : b < blS s ↔ b * s.width.toNat < s.rd.length := by
  have hw := n.wd
  unfold blS
  have h := Nat.le_div_iff_mul_le (x := b + 1) (y := s.rd.length + s.width.toNat - 1) (show 0 < s.width.toNat by omega)
  rw [Nat.add_mul] at h
  omega
theorem iB_next {b : Nat} (hb : b * s.width.toNat < s.rd.length) : iB s b + (nbS s b + 1) = iB s (b + 1) := by
  have hw := n.wd
  have e1 : b * (s.width.toNat + 1) = b * s.width.toNat + b := by rw [Nat.mul_add, Nat.mul_one]
  have e2 : (b + 1) * (s.width.toNat + 1) = b * s.width.toNat + b + s.width.toNat + 1 := by rw [Nat.add_mul, e1]; omega
  have e3 : (b + 1) * s.width.toNat = b * s.width.toNat + s.width.toNat := by rw [Nat.add_mul, Nat.one_mul]
  have hnb : nbS s b = min s.width.toNat (s.rd.length - b * s.width.toNat) := rfl
  unfold iB
  rw [if_pos hb, e1, e2, e3]
  split
  · omega
  · have h1 := bl_iff n b
    have h2 := bl_iff n (b + 1)
    rw [e3] at h2
    omega
end
/-- Some blocks of a file, of each of which one record at most is lost. -/
structure OneO (s : Ser) (b : Nat) (O : List (List UInt8)) : Prop where
  sub : ∀ r, r ∈ O → r ∈ fileL s
  hd : hdR s ∈ O
  len : O.length ≤ iB s b
  one : ∀ b', b' < b → ∃ k, ∀ j, j ≤ nbS s b' → j ≠ k → recB s b' j ∈ O
theorem OneO.start {s : Ser} (n : SerN s) : OneO s 0 [hdR s] :=
  ⟨fun r hr => by
    simp at hr
    rw [hr]
    exact List.mem_of_getElem? (recsTo_zero s s.rd.length), by simp, by have := n.len; unfold iB; rw [if_pos (by omega)]; simp, fun b' h => absurd h (by omega)⟩
theorem OneO.torn {s : Ser} (n : SerN s) {b : Nat} {O : List (List UInt8)} (o : OneO s b O) (hb : iB s b ≤ 162) : TornF s O :=
  ⟨o.sub, o.hd, by have := o.len; omega, linesL_len (fun r hr => recsTo_seven s _ r (o.sub r hr))⟩
/-- Part of a block besides. -/
structure OneJ (s : Ser) (b k j : Nat) (O O' : List (List UInt8)) : Prop where
  sub : ∀ r, r ∈ O' → r ∈ fileL s
  old : ∀ r, r ∈ O → r ∈ O'
  len : O'.length ≤ O.length + j
  got : ∀ i, i < j → i ≠ k → recB s b i ∈ O'
theorem OneJ.done {s : Ser} {b k : Nat} {O O' : List (List UInt8)} (n : SerN s) (hb : b * s.width.toNat < s.rd.length) (o : OneO s b O) (h : OneJ s b k (nbS s b + 1) O O') : OneO s (b + 1) O' :=
  ⟨h.sub, h.old _ o.hd, by have := o.len; have := h.len; have := iB_next n hb; omega, fun b' hb' => by
    by_cases e : b' = b
    · subst e
      exact ⟨k, fun j hj hne => h.got j (by omega) hne⟩
    · obtain ⟨k', hk'⟩ := o.one b' (by omega)
      exact ⟨k', fun j hj hne => h.old _ (hk' j hj hne)⟩⟩
theorem OneJ.skip {s : Ser} {b k j : Nat} {O O' : List (List UInt8)} (h : OneJ s b k j O O') (hj : j = k) : OneJ s b k (j + 1) O O' :=
  ⟨h.sub, h.old, by have := h.len; omega, fun i hi hne => h.got i (by omega) hne⟩
theorem OneJ.add {s : Ser} {b k j : Nat} {O O' : List (List UInt8)} (h : OneJ s b k j O O') (hm : recB s b j ∈ fileL s) : OneJ s b k (j + 1) O (O' ++ [recB s b j]) :=
  ⟨fun r hr => by
    rcases List.mem_append.1 hr with hr | hr
    · exact h.sub r hr
    · simp at hr
      rw [hr]
      exact hm, fun r hr => List.mem_append_left _ (h.old r hr), by have := h.len; simp; omega, fun i hi hne => by
    by_cases e : i = j
    · rw [e]
      simp
    · exact List.mem_append_left _ (h.got i (by omega) hne)⟩
end Go.Proofs.YtmdlmmfbcnkanaaR
namespace Go.Proofs.YtmdlmmfbcnkanaaR
open Go.RowKit Go.Shelf
theorem pieces_len : ∀ (l acc : List UInt8), (pieces acc l).length ≤ l.length
  | [], acc => by simp [pieces]
  | b :: l, acc => by
    unfold pieces
    split
    · have := pieces_len l []
      simp only [List.length_cons]
      omega
    · have := pieces_len l (acc ++ [b])
      simp only [List.length_cons]
      omega
def countR (l : List UInt8) : Ct × Int := if 4000 < l.length then (⟨0, 0, 0, []⟩, 3) else (ctAll (pieces [] l), 0)
def CtP (W0 : World) (l : List UInt8) : Ending → World → Prop := fun e w' => e = .returned (.tuple #[.agg (c62 (countR l).1.ng (countR l).1.nb (countR l).1.nd), .int .i64 (countR l).2]) ∧ Below W0.heap.size W0 w'
section
variable {W0 : World} {b2 b4 M b5 : Nat}
set_option maxHeartbeats 400000 in
theorem ct_range_any {c bb : Nat} {A : Option Addr} {l : List UInt8} {a : Act} {W : World} {Q : Exit → Act → World → Prop} (hl : l.length ≤ 4000) (hc : l.length ≤ c) (hs : BytesAt W0 W0.heap.size A l)
    (hsz : a.tmps.size = 44) (t2 : a.eval (.tmp 2) = ptr b2) (t4 : a.eval (.tmp 4) = ptr b4) (t5 : a.eval (.tmp 5) = ptr b5) (t15 : a.eval (.tmp 15) = .func (.func 85) #[] #[ptr bb])
    (wb : Whole W bb 31 #[.slice A l.length c]) (hbb : b5 < bb) (i : CtI W0 b2 b4 M b5 ⟨0, 0, 0, []⟩ W)
    (hN : ∀ D W', W.heap.size ≤ D → CtI W0 b2 b4 M b5 (ctAll (pieces [] l)) W' → W'.heap[D]? = some (.deferred (some [])) → Q .normal { a with defers := mark D :: a.defers } W') :
    ct_range.wpIn Fence.wide 5 Try.prog Q a W := by
  obtain ⟨o1, o2, o3, o4⟩ := i.ord
  have hlt5 := i.lt
  have hltb := wb.lt
  have hpl := pieces_len l []
  obtain ⟨ps, hps⟩ : ∃ ps, ps = pieces [] l := ⟨_, rfl⟩
  rw [← hps] at hpl hN
  unfold ct_range
  refine range_ix (bb := bb) (N := ps.length) (Z := fun W => BytesAt W W0.heap.size A l) rfl (by omega) t15 trivial (enters_of Try.func85 (by kernel_rfl) rfl) (by rw [hps]; exact pieces_it 4 A c W0.heap.size bb l (by omega) hc W wb) (Below.refl _ _) wb.lt (fun i => rfl)
    (fun j W' => CtI W0 b2 b4 M b5 ((ps.take j).foldl ctStep ⟨0, 0, 0, []⟩) W' ∧ W.heap.size ≤ W'.heap.size) (fun _ _ _ => False) ?_ ?_ ?_ ⟨i, Nat.le_refl _⟩
    (fun j a' _ => (a'.tmps.size = 44 ∧ a'.eval (.tmp 2) = ptr b2 ∧ a'.eval (.tmp 4) = ptr b4 ∧ a'.eval (.tmp 5) = ptr b5) ∧ a'.defers = [] ∧ a'.eval (.tmp 6) = .slice (adr A (posP ps j)) (ps[j]?.getD []).length (c - posP ps j)) (fun j a' _ _ _ _ h _ _ => h) ?_ ?_ ?_ ?_
  · rintro j X Y row ⟨h1, h3⟩ hg hr
    refine ⟨h1.else (Else.of_grown hg) (fun k hk e => ?_), Nat.le_trans h3 hg.size⟩
    rcases hr k e.symm with h | ⟨h, _⟩ <;> omega
  · rintro c' j X Y row h
    exact h.elim
  · rintro j X ⟨h2, _⟩
    exact hs.below h2.low (Nat.le_refl _)
  · intro ly j W1 K hj hi hK
    unfold ct_as
    have hv : encP A c l j = #[.slice (adr A (posP ps j)) (ps[j]?.getD []).length (c - posP ps j)] := by rw [hps]; rfl
    rw [hv, fold1]
    refine region_l 1 (wideF_round _ _) (by kernel_rfl) (by kernel_rfl) ?_
    intro KK hKK
    refine ListK.assign (i := 0) (v := .slice (adr A (posP ps j)) (ps[j]?.getD []).length (c - posP ps j)) rfl (by simp [Act.eval, hsz]) ?_
    refine ListK.done (hKK _ _ ?_)
    have hput : ∀ v : Value, (Act.mk (a.tmps.setIfInBounds 16 v) []) = (Act.mk a.tmps []).put (some 16) v := fun _ => rfl
    refine hK _ _ (KeepsFrom.refl _ _) rfl hi ⟨⟨?_, ?_, ?_, ?_⟩, rfl, ?_⟩
    · simp [Act.put, hsz]
    · rw [hput]
      rw [ev_ne (by omega), ev_ne (by omega)]
      exact t2
    · rw [hput]
      rw [ev_ne (by omega), ev_ne (by omega)]
      exact t4
    · rw [hput]
      rw [ev_ne (by omega), ev_ne (by omega)]
      exact t5
    · rw [ev_same (by simp [hsz])]
  · rintro ly j a' W1 hj ⟨h2, h3⟩ ⟨⟨f0, f2, f4, f5⟩, hdf', t6⟩
    have hp := List.getElem?_eq_getElem hj
    rw [hp] at t6
    have hpf := (pieces_find l j).2 ps[j] (by rw [← hps]; exact hp)
    rw [← hps] at hpf
    obtain ⟨_, hp2, _, hp4⟩ := hpf
    have hb1 : BytesAt W1 W1.heap.size (adr A (posP ps j)) ps[j] := by
      rw [hp2]
      exact ((((hs.below h2.low (Nat.le_refl _)).drop (k := posP ps j) (fun _ => rfl)).take _).more h2.low.size)
    have hXk : ∀ k, W.heap.size ≤ k → ¬ (k = b4 ∨ k = M) := fun k hk e => by omega
    have hle := ct_le (ps.take j) ⟨0, 0, 0, []⟩ (Nat.le_refl _)
    have htl : (ps.take j).length ≤ 4000 := by rw [List.length_take]; omega
    refine ct_body_any (by omega) hb1 (by simp only [Nat.zero_add] at hle; omega) f0 hdf' f2 f4 f5 t6 h2 (fun a2 W2 i2 he => ?_)
    refine ⟨KeepsFrom.of_else he hXk, he.block bb (by omega) (fun e => by omega), ?_, Nat.le_trans h3 he.size⟩
    have h1 : ps.take (j + 1) = ps.take j ++ [ps[j]] := by
      rw [List.take_add_one, hp]
      rfl
    rw [h1, List.foldl_append]
    exact i2
  · rintro D W1 hD ⟨h2, _⟩ hh
    rw [List.take_length] at h2
    exact hN D W1 hD h2 hh
  · rintro D c' j W1 hD _ h hh
    exact h.elim
end
set_option maxHeartbeats 400000 in
theorem count_any (A : Option Addr) (l : List UInt8) (c : Nat) (W : World) (hc : l.length ≤ c) (hs : BytesAt W W.heap.size A l) : Calls Try.prog 37 #[.slice A l.length c] W (CtP W l) := by
  refine (callsIn_wide (n := 5)).1 (callsIn_of_wp_marks Try.func37 body37 trivial ?_ rfl)
  obtain ⟨a, ha⟩ : ∃ a : Act, a = { tmps := #[.slice A l.length c] ++ Array.replicate (Try.f37.ntmps - (#[.slice A l.length c] : Array Value).size) undef, defers := [] } := ⟨_, rfl⟩
  have hsz : a.tmps.size = 44 := by rw [ha]; simp [Try.ntmps37]
  have t0 : a.eval (.tmp 0) = .slice A l.length c := by rw [ha]; simp [Act.eval]
  have hd_a : a.defers = [] := by rw [ha]
  rw [← ha]
  clear ha
  unfold code37
  refine wpIn_seq (region_p 2 ?_)
  intro K hK
  refine ListK.alloc (i := 0) rfl (al62 W) ?_
  refine ListK.assign (i := 1) (v := .int .i64 0) rfl (by simp) ?_
  refine ListK.done (hK _ _ ?_)
  clear hK K
  have hb0 : Below W.heap.size W (W.alloc (.cells #[.int .i64 0, .int .i64 0, .int .i64 0] 62)) := (Below.refl _ W).alloc (Nat.le_refl _) _
  have w2 := Whole.new W 62 #[.int .i64 0, .int .i64 0, .int .i64 0]
  generalize hq2 : W.heap.size = b2 at *
  generalize W.alloc (.cells #[.int .i64 0, .int .i64 0, .int .i64 0] 62) = W1 at *
  generalize hA : Act.put _ _ _ = a1
  have hz_a1 : a1.tmps.size = 44 := by rw [← hA]; simp only [size_put, hsz]
  have u0 : a1.eval (.tmp 0) = .slice A l.length c := by rw [← hA]; exact (by simp [t0])
  have u2 : a1.eval (.tmp 2) = .pointer (some ⟨b2, 0, none⟩) := by rw [← hA]; exact (by simp [hsz])
  have hd_a1 : a1.defers = [] := by rw [← hA]; simp only [defers_put, hd_a]
  clear hA
  by_cases hbig : 4000 < l.length
  · have hcr : countR l = (⟨0, 0, 0, []⟩, 3) := by unfold countR; rw [if_pos hbig]
    refine wpIn_seq (wpIn_seq (region_p 3 ?_))
    intro K hK
    refine ListK.move (i := 0) (v := .slice A l.length c) rfl (by simp [u0]) ?_
    refine ListK.len (i := 1) (u := .slice A l.length c) (v := .int .i64 l.length) rfl (by simp [hz_a1]) (ln31 _ _ _ _ _) rfl ?_
    refine ListK.bin (i := 2) (u := .int .i64 l.length) (u' := .int .i64 4000) (v := .bool true) rfl (by simp [hz_a1]) (by simp) (gtrT3 (by omega) _) ?_
    refine ListK.done (hK _ _ ?_)
    clear hK K
    refine wpIn_cond (t := true) (by simp [hz_a1]) ?_
    have he : Else (fun k => k = b2) W1 (((W1.setCell ⟨b2, 0, none⟩ (.int .i64 0)).setCell ⟨b2, 1, none⟩ (.int .i64 0)).setCell ⟨b2, 2, none⟩ (.int .i64 0)) := (((Else.refl (fun k => k = b2) W1).setCell (p := ⟨b2, 0, none⟩) (.inl rfl) _).setCell (p := ⟨b2, 1, none⟩) (.inl rfl) _).setCell (p := ⟨b2, 2, none⟩) (.inl rfl) _
    have w2' := ((w2.set 0 (.int .i64 0)).set 1 (.int .i64 0)).set 2 (.int .i64 0)
    refine wpIn_seq (region_p 3 ?_)
    intro K hK
    refine ListK.bld (i := 0) (ps := #[]) (v := .agg #[.int .i64 0, .int .i64 0, .int .i64 0]) rfl (by simp) (bd62_0 _) ?_
    refine ListK.store (i := 1) (u := .pointer (some ⟨b2, 0, none⟩)) (u' := .agg #[.int .i64 0, .int .i64 0, .int .i64 0]) rfl (by simp [u2]) (by simp [hz_a1]) (st62 w2) ?_
    refine ListK.assign (i := 2) (v := .int .i64 3) rfl (by simp) ?_
    refine ListK.done (hK _ _ (wpIn_ret ?_))
    show LeavesInM _ _ _ _ _ _ (Act.defers _) _ _
    rw [show (Act.defers _) = [] from (by simp only [defers_put, hd_a1])]
    have hB : Below b2 W (((W1.setCell ⟨b2, 0, none⟩ (.int .i64 0)).setCell ⟨b2, 1, none⟩ (.int .i64 0)).setCell ⟨b2, 2, none⟩ (.int .i64 0)) := hb0.trans (he.below (by have := hb0.size; omega) (fun k hk e => by omega))
    refine ⟨.tuple #[.agg #[.int .i64 0, .int .i64 0, .int .i64 0], .int .i64 3], res62b Try.results37 (by simp [u2]) (by simp [hz_a1]) w2', by rw [hcr]; rfl, by rw [hq2]; exact hB⟩
  · have hcr : countR l = (ctAll (pieces [] l), 0) := by unfold countR; rw [if_neg hbig]
    refine wpIn_seq (wpIn_seq (region_p 3 ?_))
    intro K hK
    refine ListK.move (i := 0) (v := .slice A l.length c) rfl (by simp [u0]) ?_
    refine ListK.len (i := 1) (u := .slice A l.length c) (v := .int .i64 l.length) rfl (by simp [hz_a1]) (ln31 _ _ _ _ _) rfl ?_
    refine ListK.bin (i := 2) (u := .int .i64 l.length) (u' := .int .i64 4000) (v := .bool false) rfl (by simp [hz_a1]) (by simp) (gtrF3 (by omega) _) ?_
    refine ListK.done (hK _ _ ?_)
    clear hK K
    refine wpIn_cond (t := false) (by simp [hz_a1]) (wpIn_skip ?_)
    generalize hA : Act.put _ _ _ = a2
    have hz_a2 : a2.tmps.size = 44 := by rw [← hA]; simp only [size_put, hz_a1]
    have v0 : a2.eval (.tmp 0) = .slice A l.length c := by rw [← hA]; exact (by simp [u0])
    have v2 : a2.eval (.tmp 2) = .pointer (some ⟨b2, 0, none⟩) := by rw [← hA]; exact (by simp [u2])
    have hd_a2 : a2.defers = [] := by rw [← hA]; simp only [defers_put, hd_a1]
    clear hA
    refine wpIn_seq (region_p 1 ?_)
    intro K hK
    refine ListK.alloc (i := 0) rfl (al62 W1) ?_
    refine ListK.done (hK _ _ ?_)
    clear hK K
    have hs0 := hb0.size
    have hb1 : Below W1.heap.size W1 (W1.alloc (.cells #[.int .i64 0, .int .i64 0, .int .i64 0] 62)) := (Below.refl _ W1).alloc (Nat.le_refl _) _
    have hB1 := hb0.trans (hb1.mono (by omega))
    have hl2 := w2.lt
    replace w2 := w2.below hb1 w2.lt
    have w4 := Whole.new W1 62 #[.int .i64 0, .int .i64 0, .int .i64 0]
    generalize hq4 : W1.heap.size = b4 at *
    generalize W1.alloc (.cells #[.int .i64 0, .int .i64 0, .int .i64 0] 62) = W2 at *
    generalize hA : Act.put _ _ _ = a3
    have hz_a3 : a3.tmps.size = 44 := by rw [← hA]; simp only [size_put, hz_a2]
    have q0 : a3.eval (.tmp 0) = .slice A l.length c := by rw [← hA]; exact (by simp [v0])
    have q2 : a3.eval (.tmp 2) = .pointer (some ⟨b2, 0, none⟩) := by rw [← hA]; exact (by simp [v2])
    have q4 : a3.eval (.tmp 4) = .pointer (some ⟨b4, 0, none⟩) := by rw [← hA]; exact (by simp [hz_a2])
    have hd_a3 : a3.defers = [] := by rw [← hA]; simp only [defers_put, hd_a2]
    clear hA
    have hmp0 := MapAt.new (kv := kv7) W2
    refine wpIn_seq (region_p 3 ?_)
    intro K hK
    refine ListK.mkM (i := 0) rfl (mm102 W2) ?_
    refine ListK.alloc (i := 1) rfl (al102 (W2.alloc (.map #[] 0))) ?_
    refine ListK.store (i := 2) (u := .pointer (some ⟨(W2.alloc (.map #[] 0)).heap.size, 0, none⟩)) (u' := .map (some W2.heap.size)) rfl (by simp [hz_a3]) (by simp [hz_a3]) (st102 ((Whole.new (W2.alloc (.map #[] 0)) 102 #[.map none]).cell 0) ((Whole.new (W2.alloc (.map #[] 0)) 102 #[.map none]).frozen 0)) ?_
    refine ListK.done (hK _ _ ?_)
    clear hK K
    have hs1 := hB1.size
    have hl4 := w4.lt
    have hbm : Below W2.heap.size W2 (W2.alloc (.map #[] 0)) := (Below.refl _ W2).alloc (Nat.le_refl _) _
    have hB2 := hB1.trans (hbm.mono (by omega))
    replace w2 := w2.below hbm w2.lt
    replace w4 := w4.below hbm w4.lt
    have hlM := hmp0.lt
    generalize hqM : W2.heap.size = M at *
    generalize W2.alloc (.map #[] 0) = W3 at *
    have hb5 : Below W3.heap.size W3 ((W3.alloc (.cells #[.map none] 102)).setCell ⟨W3.heap.size, 0, none⟩ (.map (some M))) := ((Below.refl _ W3).alloc (Nat.le_refl _) _).setCell (p := ⟨W3.heap.size, 0, none⟩) (Nat.le_refl _) _
    have hs2 := hB2.size
    have hB3 := hB2.trans (hb5.mono (by omega))
    replace w2 := w2.below hb5 w2.lt
    replace w4 := w4.below hb5 w4.lt
    have hmp := hmp0.keep (hb5.block M hlM)
    have w5 := (Whole.new W3 102 #[.map none]).set 0 (.map (some M))
    generalize hq5 : W3.heap.size = b5 at *
    generalize (W3.alloc (.cells #[.map none] 102)).setCell ⟨b5, 0, none⟩ (.map (some M)) = W4 at *
    have hl5 := w5.lt
    have hs3 := hB3.size
    have i4 : CtI W b2 b4 M b5 ⟨0, 0, 0, []⟩ W4 := ⟨by rw [hq2]; exact hB3, ⟨by omega, by omega, by omega, by omega⟩, w2, w4, w5, hmp, fun r hr => (List.not_mem_nil hr).elim⟩
    generalize hA : Act.put _ _ _ = a4
    have hz_a4 : a4.tmps.size = 44 := by rw [← hA]; simp only [size_put, hz_a3]
    have r0 : a4.eval (.tmp 0) = .slice A l.length c := by rw [← hA]; exact (by simp [q0])
    have r2 : a4.eval (.tmp 2) = .pointer (some ⟨b2, 0, none⟩) := by rw [← hA]; exact (by simp [q2])
    have r4 : a4.eval (.tmp 4) = .pointer (some ⟨b4, 0, none⟩) := by rw [← hA]; exact (by simp [q4])
    have r5 : a4.eval (.tmp 5) = .pointer (some ⟨b5, 0, none⟩) := by rw [← hA]; exact (by simp [hz_a3])
    have hd_a4 : a4.defers = [] := by rw [← hA]; simp only [defers_put, hd_a3]
    clear hA
    refine wpIn_seq (wpIn_seq (region_p 2 ?_))
    intro K hK
    refine ListK.move (i := 0) (v := .slice A l.length c) rfl (by simp [r0]) ?_
    refine ListK.call (i := 1) (vs := #[.slice A l.length c]) rfl (enters_of Try.func66 (by kernel_rfl) rfl) (by simp [hz_a4]) ((pieces_any A l.length c W4).mono ?_)
    rintro _ W5 ⟨rfl, rfl⟩
    refine ⟨_, rfl, ?_⟩
    refine ListK.done (hK _ _ ?_)
    clear hK K
    have hb6 : Below W4.heap.size W4 (W4.alloc (.cells #[.slice A l.length c] 31)) := (Below.refl _ W4).alloc (Nat.le_refl _) _
    have i5 := i4.below hb6
    have wb := Whole.new W4 31 #[.slice A l.length c]
    generalize hA : Act.put _ _ _ = a5
    have hz_a5 : a5.tmps.size = 44 := by rw [← hA]; simp only [size_put, hz_a4]
    have p2 : a5.eval (.tmp 2) = .pointer (some ⟨b2, 0, none⟩) := by rw [← hA]; exact (by simp [r2])
    have p4 : a5.eval (.tmp 4) = .pointer (some ⟨b4, 0, none⟩) := by rw [← hA]; exact (by simp [r4])
    have p5 : a5.eval (.tmp 5) = .pointer (some ⟨b5, 0, none⟩) := by rw [← hA]; exact (by simp [r5])
    have p15 : a5.eval (.tmp 15) = .func (.func 85) #[] #[ptr W4.heap.size] := by rw [← hA]; exact (by simp [hz_a4])
    have hd_a5 : a5.defers = [] := by rw [← hA]; simp only [defers_put, hd_a4]
    clear hA
    refine wpIn_block (ct_range_any (by omega) hc (by rw [hq2]; exact hs) hz_a5 p2 p4 p5 p15 wb hl5 i5 (fun D W6 hD i6 hh => ?_))
    obtain ⟨o1, o2, o3, o4⟩ := i6.ord
    show (Code.wpIn _ _ _ ct_e _ _ _)
    have hd_a6 : ({ a5 with defers := mark D :: a5.defers } : Act).defers = [mark D] := by simp [hd_a5]
    have z5 : ({ a5 with defers := mark D :: a5.defers } : Act).tmps.size = 44 := hz_a5
    have y2 : ({ a5 with defers := mark D :: a5.defers } : Act).eval (.tmp 2) = ptr b2 := p2
    have y4 : ({ a5 with defers := mark D :: a5.defers } : Act).eval (.tmp 4) = ptr b4 := p4
    generalize ({ a5 with defers := mark D :: a5.defers } : Act) = a6 at *
    unfold ct_e
    generalize hx : ctAll (pieces [] l) = x at *
    have he : Else (fun k => k = b2) W6 (((W6.setCell ⟨b2, 0, none⟩ (.int .i64 (x.ng : Int))).setCell ⟨b2, 1, none⟩ (.int .i64 (x.nb : Int))).setCell ⟨b2, 2, none⟩ (.int .i64 (x.nd : Int))) := (((Else.refl (fun k => k = b2) W6).setCell (p := ⟨b2, 0, none⟩) (.inl rfl) _).setCell (p := ⟨b2, 1, none⟩) (.inl rfl) _).setCell (p := ⟨b2, 2, none⟩) (.inl rfl) _
    have w2' := ((i6.w2.set 0 (.int .i64 (x.ng : Int))).set 1 (.int .i64 (x.nb : Int))).set 2 (.int .i64 (x.nd : Int))
    refine wpIn_seq (region_p 3 ?_)
    intro K hK
    refine ListK.load (i := 0) (p := ⟨b4, 0, none⟩) (v := .agg (c62 x.ng x.nb x.nd)) rfl (by simp [y4]) (ld62 ⟨i6.w4.cell 0, i6.w4.cell 1, i6.w4.cell 2⟩) ?_
    refine ListK.store (i := 1) (u := .pointer (some ⟨b2, 0, none⟩)) (u' := .agg (c62 x.ng x.nb x.nd)) rfl (by simp [y2]) (by simp [z5]) (st62 i6.w2) ?_
    refine ListK.assign (i := 2) (v := .int .i64 0) rfl (by simp) ?_
    refine ListK.done (hK _ _ (wpIn_ret ?_))
    have hB7 := i6.low.trans (he.below i6.low.size (fun k hk e => by omega))
    generalize ((W6.setCell ⟨b2, 0, none⟩ (.int .i64 (x.ng : Int))).setCell ⟨b2, 1, none⟩ (.int .i64 (x.nb : Int))).setCell ⟨b2, 2, none⟩ (.int .i64 (x.nd : Int)) = W7 at *
    have hmk : Mk (b5 + 1) [D] W7 := (Mk.nil _ _).cons (by have := hb6.size; omega) ((he.block D (Array.getElem?_eq_some_iff.1 hh).1 (by have := hb6.size; omega)).trans hh) (fun _ h => (List.not_mem_nil h).elim)
    show LeavesInM _ _ _ _ _ _ (Act.defers _) _ _
    rw [show (Act.defers _) = [D].map mark from by simp only [defers_put, hd_a6, List.map_cons, List.map_nil]]
    refine leaves_marks2 (h := b5 + 1) (v := .tuple #[.agg (c62 x.ng x.nb x.nd), .int .i64 0]) (fun w => Below W.heap.size W w ∧ Whole w b2 62 (c62 x.ng x.nb x.nd)) ?_ ?_ ?_ [D] W7 hmk ⟨hB7, w2'⟩
    · rintro W' D' hD' _ ⟨h1, h2⟩
      exact ⟨below_put_mark h1 (by omega) _, (World.putObj_heap_other (by omega)).trans h2⟩
    · rintro W' ⟨_, h2⟩
      exact res62b Try.results37 (by simp [y2]) (by simp [z5]) h2
    · rintro W' ⟨h1, _⟩
      exact ⟨by rw [hcr], h1⟩
end Go.Proofs.YtmdlmmfbcnkanaaR
namespace Go.Proofs.YtmdlmmfbcnkanaaR

/-- A list without doubles, behind what there is. -/
def withoutL : List (List UInt8) → List (List UInt8) → List (List UInt8)
  | out, [] => out
  | out, p :: l => withoutL (if p ∈ out then out else out ++ [p]) l
end Go.Proofs.YtmdlmmfbcnkanaaR
namespace Go.Proofs.YtmdlmmfbcnkanaaR

section
variable {s : Ser} (n : SerN s)
include n
end

theorem good_len {r : List UInt8} (h : isGood r = true) : r.length = 7 := by
  unfold isGood at h
  split at h
  · rfl
  · cases h
theorem dig_of {b : UInt8} (h : isDig b = true) : dig b = b.toNat - 48 ∧ 48 ≤ b.toNat ∧ b.toNat ≤ 57 := by
  have h1 := of_decide_eq_true h
  refine ⟨?_, h1.1, h1.2⟩
  unfold dig
  rw [UInt8.toNat_sub_of_le _ _ (by rw [UInt8.le_iff_toNat_le]; exact h1.1)]
  rfl
end Go.Proofs.YtmdlmmfbcnkanaaR
namespace Go.Proofs.YtmdlmmfbcnkanaaR
open Go.RowKit Go.Shelf
/-- Does a series say what a record says? -/
def okRec (s : Ser) (r : List UInt8) : Bool := !(((nameOf r).1 == 82 && decide (s.rd[(nameOf r).2]? ≠ some (valOf r : Int))) || ((nameOf r).1 == 80 && decide (sumB s (nameOf r).2 ≠ (valOf r : Int))))
def headEqB (s : Ser) (h : Head) : Bool := decide ((s.rd.length : Int) = h.many) && (decide (s.width = h.width) && decide (s.step = h.step))
def fitsC (l : List UInt8) (s : Ser) : Bool := match readM l with
  | none => false
  | some (h, m) => decide (faultS s = 0) && (headEqB s h && m.all (okRec s))
theorem IntsAt.cell3 {w : World} {B b off k : Nat} {l : List Int} {x : Int} (h : IntsAt w B (some ⟨b, off, none⟩) l) (hx : l[k]? = some x) : w.cell? ⟨b, off + k, none⟩ = some (.int .i64 x) := by
  obtain ⟨b', o', e, _, hc⟩ := h k x hx
  cases e
  exact hc
noncomputable def opsFits0 : Array Oper := (Try.f31.body.bind (regionOf 0)).getD #[]
noncomputable def opsFits1 : Array Oper := (Try.f31.body.bind (regionOf 1)).getD #[]
noncomputable def opsFits2 : Array Oper := (Try.f31.body.bind (regionOf 2)).getD #[]
noncomputable def opsFits3 : Array Oper := (Try.f31.body.bind (regionOf 3)).getD #[]
noncomputable def opsFits4 : Array Oper := (Try.f31.body.bind (regionOf 4)).getD #[]
noncomputable def opsFits5 : Array Oper := (Try.f31.body.bind (regionOf 5)).getD #[]
noncomputable def opsFits6 : Array Oper := (Try.f31.body.bind (regionOf 6)).getD #[]
noncomputable def opsFits7 : Array Oper := (Try.f31.body.bind (regionOf 7)).getD #[]
noncomputable def opsFits8 : Array Oper := (Try.f31.body.bind (regionOf 8)).getD #[]
noncomputable def opsFits9 : Array Oper := (Try.f31.body.bind (regionOf 9)).getD #[]
noncomputable def fit_l : Code := (.seq (.region 5 opsFits5 false) (.seq (.cond (.tmp 37) .skip (.exit 0)) (.block 1 (.seq (.region 6 opsFits6 false) (.seq (.region 7 opsFits7 true) (.cond (.tmp 68) (.seq (.region 8 opsFits8 false) .ret) .skip))))))
noncomputable def fit_b : Code := (.seq (.seq (.region 4 opsFits4 false) (.block 0 (.loop fit_l))) (.seq (.region 9 opsFits9 false) .ret))
noncomputable def code31 : Code := (.seq (.region 0 opsFits0 false) (.seq (.region 1 opsFits1 false) (.seq (.seq (.region 2 opsFits2 true) (.cond (.tmp 30) (.seq (.region 3 opsFits3 false) .ret) .skip)) fit_b)))
theorem body31 : Try.f31.body = some code31 := by kernel_rfl
section
variable {s : Ser} {A : Option Addr} {c : Nat} {h : Head}
attribute [local irreducible] AnyK StepK
set_option maxHeartbeats 400000 in
theorem ft_7 {b3 b7 b8 r0 : Nat} {c0 c1 c2 c3 c4 c5 c6 : UInt8} {nm : UInt8 × Nat} {vl : Nat} {a : Act} {W : World} {Q : Exit → Act → World → Prop} (hf : faultS s = 0) (hnm : nameOf [c0, c1, c2, c3, c4, c5, c6] = nm) (hvl : num2 c3 c4 = vl) (h82 : nm.1 = 82 → nm.2 < s.rd.length) (h80 : nm.1 = 80 → nm.2 ≤ 100)
    (hsz : a.tmps.size = 69) (t3 : a.eval (.tmp 3) = ptr b3) (t7 : a.eval (.tmp 7) = ptr b7) (t8 : a.eval (.tmp 8) = ptr b8) (t35 : a.eval (.tmp 35) = ptr r0) (w3 : Whole W b3 29 #[.int .i64 s.width, .int .i64 s.step, .slice A s.rd.length c]) (hs : IntsAt W W.heap.size A s.rd) (w7 : Whole W b7 97 #[u8V nm.1, .int .i64 (nm.2 : Int)]) (w8 : Whole W b8 83 (r7 c0 c1 c2 c3 c4 c5 c6))
    (hQ : ∀ a' W', a'.tmps.size = 69 → a'.defers = a.defers → a'.eval (.tmp 3) = ptr b3 → a'.eval (.tmp 35) = ptr r0 → a'.eval (.tmp 68) = .bool (!okRec s [c0, c1, c2, c3, c4, c5, c6]) → Below W.heap.size W W' → Q .normal a' W') :
    (Code.region 7 opsFits7 true).wpIn Fence.wide 5 Try.prog Q a W := by
  obtain ⟨hlen, hwd, hsp, hin, _⟩ := ser_valid hf
  have hok : okRec s [c0, c1, c2, c3, c4, c5, c6] = !((nm.1 == 82 && decide (s.rd[nm.2]? ≠ some (vl : Int))) || (nm.1 == 80 && decide (sumB s nm.2 ≠ (vl : Int)))) := by
    unfold okRec
    rw [hnm]
    show _ = _
    have : valOf [c0, c1, c2, c3, c4, c5, c6] = vl := hvl
    rw [this]
  rw [hok, Bool.not_not] at hQ
  have hbd := (Below.refl W.heap.size W).drew
  have hgr : ∀ w w', (fun w : World => (Whole w b3 29 #[.int .i64 s.width, .int .i64 s.step, .slice A s.rd.length c] ∧ IntsAt w W.heap.size A s.rd) ∧ Whole w b7 97 #[u8V nm.1, .int .i64 (nm.2 : Int)] ∧ Whole w b8 83 (r7 c0 c1 c2 c3 c4 c5 c6) ∧ Below W.heap.size W w) w → Below w.heap.size w w' → (fun w : World => (Whole w b3 29 #[.int .i64 s.width, .int .i64 s.step, .slice A s.rd.length c] ∧ IntsAt w W.heap.size A s.rd) ∧ Whole w b7 97 #[u8V nm.1, .int .i64 (nm.2 : Int)] ∧ Whole w b8 83 (r7 c0 c1 c2 c3 c4 c5 c6) ∧ Below W.heap.size W w) w' := fun w w' h hb => ⟨⟨h.1.1.below hb h.1.1.lt, h.1.2.below (hb.mono h.2.2.2.size) (Nat.le_refl _)⟩, h.2.1.below hb h.2.1.lt, h.2.2.1.below hb h.2.2.1.lt, h.2.2.2.trans (hb.mono h.2.2.2.size)⟩
  have hR0 : (fun w : World => (Whole w b3 29 #[.int .i64 s.width, .int .i64 s.step, .slice A s.rd.length c] ∧ IntsAt w W.heap.size A s.rd) ∧ Whole w b7 97 #[u8V nm.1, .int .i64 (nm.2 : Int)] ∧ Whole w b8 83 (r7 c0 c1 c2 c3 c4 c5 c6) ∧ Below W.heap.size W w) W.drew := hgr W _ ⟨⟨w3, hs⟩, w7, w8, Below.refl _ _⟩ hbd
  by_cases e82 : nm.1 = 82
  · have en : ((nm.1.toNat : Int)) = 82 := by rw [e82]; rfl
    have en2 : ((nm.1.toNat : Int)) ≠ 80 := by rw [e82]; decide
    have hk := h82 e82
    have hx := List.getElem?_eq_getElem hk
    obtain ⟨gb, off, hA, _, _⟩ := hs nm.2 _ hx
    have hcA : ∀ w, IntsAt w W.heap.size A s.rd → w.cell? ⟨gb, off + nm.2, none⟩ = some (.int .i64 s.rd[nm.2]) := fun w h => by rw [hA] at h; exact h.cell3 hx
    by_cases hv : s.rd[nm.2] = (vl : Int)
    · have hd : decide (s.rd[nm.2]? ≠ some (vl : Int)) = false := by rw [hx, hv]; simp
      refine region_K (KpR (fun w : World => (Whole w b3 29 #[.int .i64 s.width, .int .i64 s.step, .slice A s.rd.length c] ∧ IntsAt w W.heap.size A s.rd) ∧ Whole w b7 97 #[u8V nm.1, .int .i64 (nm.2 : Int)] ∧ Whole w b8 83 (r7 c0 c1 c2 c3 c4 c5 c6) ∧ Below W.heap.size W w) (fun _ => false)) (wideF_plain _) (by kernel_rfl) Try.mixed ?_
      change AnyK _ _ _ _ 28 (Array.replicate 28 false) _ _
      have hR : (fun w : World => (Whole w b3 29 #[.int .i64 s.width, .int .i64 s.step, .slice A s.rd.length c] ∧ IntsAt w W.heap.size A s.rd) ∧ Whole w b7 97 #[u8V nm.1, .int .i64 (nm.2 : Int)] ∧ Whole w b8 83 (r7 c0 c1 c2 c3 c4 c5 c6) ∧ Below W.heap.size W w) W.drew := hR0
      refine AnyK.field (i := 0) may_o (u := .pointer (some ⟨b7, 0, none⟩)) (v := .pointer (some ⟨b7, 0, none⟩)) (by simp [t7]) (fun w => fa97_0 w) hR ?_
      refine AnyK.load (i := 1) may_o (p := ⟨b7, 0, none⟩) (v := u8V nm.1) (by simp [hsz]) (fun w hw => ld5 (hw.2.1.cell 0)) hR ?_
      refine AnyK.bin (i := 2) may_o (u := u8V nm.1) (u' := .int .u8 82) (v := .bool true) (by simp [hsz]) (by simp) (fun w => eql5T en w) hR ?_
      refine AnyK.move (i := 3) may_o (v := .bool true) (by simp [hsz]) hR ?_
      refine AnyK.field (i := 4) may_o (u := .pointer (some ⟨b3, 0, none⟩)) (v := .pointer (some ⟨b3, 2, none⟩)) (by simp [t3]) (fun w => fa29_2 w) hR (hw := (by exact wanted_g (e := 44) (b' := true) rfl (by simp [hsz]) rfl)) ?_
      refine AnyK.load (i := 5) may_o (p := ⟨b3, 2, none⟩) (v := .slice (some ⟨gb, off, none⟩) s.rd.length c) (by simp [hsz]) (fun w hw => ld22 ((hw.1.1.cell 2).trans (by rw [hA]; rfl))) hR (hw := (by exact wanted_g (e := 44) (b' := true) rfl (by simp [hsz]) rfl)) ?_
      refine AnyK.field (i := 6) may_o (u := .pointer (some ⟨b7, 0, none⟩)) (v := .pointer (some ⟨b7, 1, none⟩)) (by simp [t7]) (fun w => fa97_1 w) hR (hw := (by exact wanted_g (e := 44) (b' := true) rfl (by simp [hsz]) rfl)) ?_
      refine AnyK.load (i := 7) may_o (p := ⟨b7, 1, none⟩) (v := .int .i64 (nm.2 : Int)) (by simp [hsz]) (fun w hw => ld3 (hw.2.1.cell 1)) hR (hw := (by exact wanted_g (e := 44) (b' := true) rfl (by simp [hsz]) rfl)) ?_
      refine AnyK.index (i := 8) may_o (u := .slice (some ⟨gb, off, none⟩) s.rd.length c) (u' := .int .i64 (nm.2 : Int)) (v := .pointer (some ⟨gb, off + nm.2, none⟩)) (by simp [hsz]) (by simp [hsz]) (fun w => ix22 hk w) hR (hw := (by exact wanted_g (e := 44) (b' := true) rfl (by simp [hsz]) rfl)) ?_
      refine AnyK.load (i := 9) may_o (p := ⟨gb, off + nm.2, none⟩) (v := .int .i64 (s.rd[nm.2])) (by simp [hsz]) (fun w hw => ld3 (hcA _ hw.1.2)) hR (hw := (by exact wanted_g (e := 44) (b' := true) rfl (by simp [hsz]) rfl)) ?_
      refine AnyK.load (i := 10) may_o (p := ⟨b8, 0, none⟩) (v := rV c0 c1 c2 c3 c4 c5 c6) (by simp [t8]) (fun w hw => ld83 hw.2.2.1) hR (hw := (by exact wanted_g (e := 44) (b' := true) rfl (by simp [hsz]) rfl)) ?_
      refine AnyK.pick1 (i := 11) (by kernel_rfl) ?_
      refine StepK.call (i := 11) (f := 59) (vs := #[rV c0 c1 c2 c3 c4 c5 c6, .int .i64 (3)]) rfl (enters_of Try.func59 (by kernel_rfl) rfl) rfl (by simp [hsz]) (((show Calls Try.prog 59 #[rV c0 c1 c2 c3 c4 c5 c6, .int .i64 3] _ (fun e w' => e = .returned (.int .i64 (vl : Int)) ∧ _) from by rw [← hvl]; exact number3 c0 c1 c2 c3 c4 c5 c6 _)).mono ?_) (hw := (by exact wanted_g (e := 44) (b' := true) rfl (by simp [hsz]) rfl))
      rintro _ V11 ⟨rfl, hv11⟩
      replace hR : (fun w : World => (Whole w b3 29 #[.int .i64 s.width, .int .i64 s.step, .slice A s.rd.length c] ∧ IntsAt w W.heap.size A s.rd) ∧ Whole w b7 97 #[u8V nm.1, .int .i64 (nm.2 : Int)] ∧ Whole w b8 83 (r7 c0 c1 c2 c3 c4 c5 c6) ∧ Below W.heap.size W w) V11 := hgr _ _ hR hv11
      refine ⟨_, rfl, fun _ _ => hR, ?_⟩
      refine AnyK.bin (i := 12) may_o (u := .int .i64 (s.rd[nm.2])) (u' := .int .i64 (vl : Int)) (v := .bool false) (by simp [hsz]) (by simp [hsz]) (fun w => neqF hv w) hR (hw := (by exact wanted_g (e := 44) (b' := true) rfl (by simp [hsz]) rfl)) ?_
      refine AnyK.pick (i := 13) may_o (b := true) (v := .bool false) (by simp [hsz]) (by simp [hsz]) hR ?_
      refine AnyK.move (i := 14) may_o (v := .bool false) (by simp [hsz]) hR ?_
      refine AnyK.field (i := 15) may_o (u := .pointer (some ⟨b7, 0, none⟩)) (v := .pointer (some ⟨b7, 0, none⟩)) (by simp [t7]) (fun w => fa97_0 w) hR (hw := (by exact wanted_g (e := 55) (b' := false) rfl (by simp [hsz]) rfl)) ?_
      refine AnyK.load (i := 16) may_o (p := ⟨b7, 0, none⟩) (v := u8V nm.1) (by simp [hsz]) (fun w hw => ld5 (hw.2.1.cell 0)) hR (hw := (by exact wanted_g (e := 55) (b' := false) rfl (by simp [hsz]) rfl)) ?_
      refine AnyK.bin (i := 17) may_o (u := u8V nm.1) (u' := .int .u8 80) (v := .bool false) (by simp [hsz]) (by simp) (fun w => eql5F en2 w) hR (hw := (by exact wanted_g (e := 55) (b' := false) rfl (by simp [hsz]) rfl)) ?_
      refine AnyK.move (i := 18) may_o (v := .bool false) (by simp [hsz]) hR (hw := (by exact wanted_g (e := 55) (b' := false) rfl (by simp [hsz]) rfl)) ?_
      refine AnyK.passG (i := 19) may_o (e := 59) (b' := false) rfl (by simp [hsz]) rfl hR ?_
      refine AnyK.passG (i := 20) may_o (e := 59) (b' := false) rfl (by simp [hsz]) rfl hR ?_
      refine AnyK.passG (i := 21) may_o (e := 59) (b' := false) rfl (by simp [hsz]) rfl hR ?_
      refine AnyK.passG (i := 22) may_o (e := 59) (b' := false) rfl (by simp [hsz]) rfl hR ?_
      refine AnyK.passG (i := 23) may_o (e := 59) (b' := false) rfl (by simp [hsz]) rfl hR ?_
      refine AnyK.passG (i := 24) may_o (e := 59) (b' := false) rfl (by simp [hsz]) rfl hR ?_
      refine AnyK.passG (i := 25) may_o (e := 59) (b' := false) rfl (by simp [hsz]) rfl hR ?_
      refine AnyK.pick (i := 26) may_o (b := false) (v := .bool false) (by simp [hsz]) (by simp) hR (hw := (by exact wanted_g (e := 55) (b' := false) rfl (by simp [hsz]) rfl)) ?_
      refine AnyK.pick (i := 27) may_o (b := false) (v := .bool false) (by simp [hsz]) (by simp [hsz]) hR ?_
      refine AnyK.done (by kernel_rfl) ?_
      exact hQ _ _ (by simp only [size_put, hsz]) (by simp only [defers_put]) (by simp [t3]) (by simp [t35]) (by rw [e82, hd]; exact (by simp [hsz])) hR.2.2.2
    · have hd : decide (s.rd[nm.2]? ≠ some (vl : Int)) = true := by rw [hx]; simp [hv]
      refine region_K (KpR (fun w : World => (Whole w b3 29 #[.int .i64 s.width, .int .i64 s.step, .slice A s.rd.length c] ∧ IntsAt w W.heap.size A s.rd) ∧ Whole w b7 97 #[u8V nm.1, .int .i64 (nm.2 : Int)] ∧ Whole w b8 83 (r7 c0 c1 c2 c3 c4 c5 c6) ∧ Below W.heap.size W w) (fun _ => false)) (wideF_plain _) (by kernel_rfl) Try.mixed ?_
      change AnyK _ _ _ _ 28 (Array.replicate 28 false) _ _
      have hR : (fun w : World => (Whole w b3 29 #[.int .i64 s.width, .int .i64 s.step, .slice A s.rd.length c] ∧ IntsAt w W.heap.size A s.rd) ∧ Whole w b7 97 #[u8V nm.1, .int .i64 (nm.2 : Int)] ∧ Whole w b8 83 (r7 c0 c1 c2 c3 c4 c5 c6) ∧ Below W.heap.size W w) W.drew := hR0
      refine AnyK.field (i := 0) may_o (u := .pointer (some ⟨b7, 0, none⟩)) (v := .pointer (some ⟨b7, 0, none⟩)) (by simp [t7]) (fun w => fa97_0 w) hR ?_
      refine AnyK.load (i := 1) may_o (p := ⟨b7, 0, none⟩) (v := u8V nm.1) (by simp [hsz]) (fun w hw => ld5 (hw.2.1.cell 0)) hR ?_
      refine AnyK.bin (i := 2) may_o (u := u8V nm.1) (u' := .int .u8 82) (v := .bool true) (by simp [hsz]) (by simp) (fun w => eql5T en w) hR ?_
      refine AnyK.move (i := 3) may_o (v := .bool true) (by simp [hsz]) hR ?_
      refine AnyK.field (i := 4) may_o (u := .pointer (some ⟨b3, 0, none⟩)) (v := .pointer (some ⟨b3, 2, none⟩)) (by simp [t3]) (fun w => fa29_2 w) hR (hw := (by exact wanted_g (e := 44) (b' := true) rfl (by simp [hsz]) rfl)) ?_
      refine AnyK.load (i := 5) may_o (p := ⟨b3, 2, none⟩) (v := .slice (some ⟨gb, off, none⟩) s.rd.length c) (by simp [hsz]) (fun w hw => ld22 ((hw.1.1.cell 2).trans (by rw [hA]; rfl))) hR (hw := (by exact wanted_g (e := 44) (b' := true) rfl (by simp [hsz]) rfl)) ?_
      refine AnyK.field (i := 6) may_o (u := .pointer (some ⟨b7, 0, none⟩)) (v := .pointer (some ⟨b7, 1, none⟩)) (by simp [t7]) (fun w => fa97_1 w) hR (hw := (by exact wanted_g (e := 44) (b' := true) rfl (by simp [hsz]) rfl)) ?_
      refine AnyK.load (i := 7) may_o (p := ⟨b7, 1, none⟩) (v := .int .i64 (nm.2 : Int)) (by simp [hsz]) (fun w hw => ld3 (hw.2.1.cell 1)) hR (hw := (by exact wanted_g (e := 44) (b' := true) rfl (by simp [hsz]) rfl)) ?_
      refine AnyK.index (i := 8) may_o (u := .slice (some ⟨gb, off, none⟩) s.rd.length c) (u' := .int .i64 (nm.2 : Int)) (v := .pointer (some ⟨gb, off + nm.2, none⟩)) (by simp [hsz]) (by simp [hsz]) (fun w => ix22 hk w) hR (hw := (by exact wanted_g (e := 44) (b' := true) rfl (by simp [hsz]) rfl)) ?_
      refine AnyK.load (i := 9) may_o (p := ⟨gb, off + nm.2, none⟩) (v := .int .i64 (s.rd[nm.2])) (by simp [hsz]) (fun w hw => ld3 (hcA _ hw.1.2)) hR (hw := (by exact wanted_g (e := 44) (b' := true) rfl (by simp [hsz]) rfl)) ?_
      refine AnyK.load (i := 10) may_o (p := ⟨b8, 0, none⟩) (v := rV c0 c1 c2 c3 c4 c5 c6) (by simp [t8]) (fun w hw => ld83 hw.2.2.1) hR (hw := (by exact wanted_g (e := 44) (b' := true) rfl (by simp [hsz]) rfl)) ?_
      refine AnyK.pick1 (i := 11) (by kernel_rfl) ?_
      refine StepK.call (i := 11) (f := 59) (vs := #[rV c0 c1 c2 c3 c4 c5 c6, .int .i64 (3)]) rfl (enters_of Try.func59 (by kernel_rfl) rfl) rfl (by simp [hsz]) (((show Calls Try.prog 59 #[rV c0 c1 c2 c3 c4 c5 c6, .int .i64 3] _ (fun e w' => e = .returned (.int .i64 (vl : Int)) ∧ _) from by rw [← hvl]; exact number3 c0 c1 c2 c3 c4 c5 c6 _)).mono ?_) (hw := (by exact wanted_g (e := 44) (b' := true) rfl (by simp [hsz]) rfl))
      rintro _ V11 ⟨rfl, hv11⟩
      replace hR : (fun w : World => (Whole w b3 29 #[.int .i64 s.width, .int .i64 s.step, .slice A s.rd.length c] ∧ IntsAt w W.heap.size A s.rd) ∧ Whole w b7 97 #[u8V nm.1, .int .i64 (nm.2 : Int)] ∧ Whole w b8 83 (r7 c0 c1 c2 c3 c4 c5 c6) ∧ Below W.heap.size W w) V11 := hgr _ _ hR hv11
      refine ⟨_, rfl, fun _ _ => hR, ?_⟩
      refine AnyK.bin (i := 12) may_o (u := .int .i64 (s.rd[nm.2])) (u' := .int .i64 (vl : Int)) (v := .bool true) (by simp [hsz]) (by simp [hsz]) (fun w => neqT hv w) hR (hw := (by exact wanted_g (e := 44) (b' := true) rfl (by simp [hsz]) rfl)) ?_
      refine AnyK.pick (i := 13) may_o (b := true) (v := .bool true) (by simp [hsz]) (by simp [hsz]) hR ?_
      refine AnyK.move (i := 14) may_o (v := .bool true) (by simp [hsz]) hR ?_
      refine AnyK.passG (i := 15) may_o (e := 55) (b' := true) rfl (by simp [hsz]) rfl hR ?_
      refine AnyK.passG (i := 16) may_o (e := 55) (b' := true) rfl (by simp [hsz]) rfl hR ?_
      refine AnyK.passG (i := 17) may_o (e := 55) (b' := true) rfl (by simp [hsz]) rfl hR ?_
      refine AnyK.passG (i := 18) may_o (e := 55) (b' := true) rfl (by simp [hsz]) rfl hR ?_
      refine AnyK.passU (i := 19) may_o (e := 59) rfl (by simp [hsz]) hR ?_
      refine AnyK.passU (i := 20) may_o (e := 59) rfl (by simp [hsz]) hR ?_
      refine AnyK.passU (i := 21) may_o (e := 59) rfl (by simp [hsz]) hR ?_
      refine AnyK.passU (i := 22) may_o (e := 59) rfl (by simp [hsz]) hR ?_
      refine AnyK.passU (i := 23) may_o (e := 59) rfl (by simp [hsz]) hR ?_
      refine AnyK.passU (i := 24) may_o (e := 59) rfl (by simp [hsz]) hR ?_
      refine AnyK.passU (i := 25) may_o (e := 59) rfl (by simp [hsz]) hR ?_
      refine AnyK.passG (i := 26) may_o (e := 55) (b' := true) rfl (by simp [hsz]) rfl hR ?_
      refine AnyK.pick (i := 27) may_o (b := true) (v := .bool true) (by simp [hsz]) (by simp) hR ?_
      refine AnyK.done (by kernel_rfl) ?_
      exact hQ _ _ (by simp only [size_put, hsz]) (by simp only [defers_put]) (by simp [t3]) (by simp [t35]) (by rw [e82, hd]; exact (by simp [hsz])) hR.2.2.2
  · have en : ((nm.1.toNat : Int)) ≠ 82 := fun e => e82 (UInt8.toNat_inj.1 (show nm.1.toNat = 82 by omega))
    have b82 : (nm.1 == 82) = false := by simpa using e82
    by_cases e80 : nm.1 = 80
    · have en2 : ((nm.1.toNat : Int)) = 80 := by rw [e80]; rfl
      have hk := h80 e80
      by_cases hv : sumB s nm.2 = (vl : Int)
      · have hd : decide (sumB s nm.2 ≠ (vl : Int)) = false := by simp [hv]
        refine region_K (KpR (fun w : World => (Whole w b3 29 #[.int .i64 s.width, .int .i64 s.step, .slice A s.rd.length c] ∧ IntsAt w W.heap.size A s.rd) ∧ Whole w b7 97 #[u8V nm.1, .int .i64 (nm.2 : Int)] ∧ Whole w b8 83 (r7 c0 c1 c2 c3 c4 c5 c6) ∧ Below W.heap.size W w) (fun _ => false)) (wideF_plain _) (by kernel_rfl) Try.mixed ?_
        change AnyK _ _ _ _ 28 (Array.replicate 28 false) _ _
        have hR : (fun w : World => (Whole w b3 29 #[.int .i64 s.width, .int .i64 s.step, .slice A s.rd.length c] ∧ IntsAt w W.heap.size A s.rd) ∧ Whole w b7 97 #[u8V nm.1, .int .i64 (nm.2 : Int)] ∧ Whole w b8 83 (r7 c0 c1 c2 c3 c4 c5 c6) ∧ Below W.heap.size W w) W.drew := hR0
        refine AnyK.field (i := 0) may_o (u := .pointer (some ⟨b7, 0, none⟩)) (v := .pointer (some ⟨b7, 0, none⟩)) (by simp [t7]) (fun w => fa97_0 w) hR ?_
        refine AnyK.load (i := 1) may_o (p := ⟨b7, 0, none⟩) (v := u8V nm.1) (by simp [hsz]) (fun w hw => ld5 (hw.2.1.cell 0)) hR ?_
        refine AnyK.bin (i := 2) may_o (u := u8V nm.1) (u' := .int .u8 82) (v := .bool false) (by simp [hsz]) (by simp) (fun w => eql5F en w) hR ?_
        refine AnyK.move (i := 3) may_o (v := .bool false) (by simp [hsz]) hR ?_
        refine AnyK.passG (i := 4) may_o (e := 44) (b' := false) rfl (by simp [hsz]) rfl hR ?_
        refine AnyK.passG (i := 5) may_o (e := 44) (b' := false) rfl (by simp [hsz]) rfl hR ?_
        refine AnyK.passG (i := 6) may_o (e := 44) (b' := false) rfl (by simp [hsz]) rfl hR ?_
        refine AnyK.passG (i := 7) may_o (e := 44) (b' := false) rfl (by simp [hsz]) rfl hR ?_
        refine AnyK.passG (i := 8) may_o (e := 44) (b' := false) rfl (by simp [hsz]) rfl hR ?_
        refine AnyK.passG (i := 9) may_o (e := 44) (b' := false) rfl (by simp [hsz]) rfl hR ?_
        refine AnyK.passG (i := 10) may_o (e := 44) (b' := false) rfl (by simp [hsz]) rfl hR ?_
        refine AnyK.passG (i := 11) may_o (e := 44) (b' := false) rfl (by simp [hsz]) rfl hR ?_
        refine AnyK.passG (i := 12) may_o (e := 44) (b' := false) rfl (by simp [hsz]) rfl hR ?_
        refine AnyK.pick (i := 13) may_o (b := false) (v := .bool false) (by simp [hsz]) (by simp) hR ?_
        refine AnyK.move (i := 14) may_o (v := .bool false) (by simp [hsz]) hR ?_
        refine AnyK.field (i := 15) may_o (u := .pointer (some ⟨b7, 0, none⟩)) (v := .pointer (some ⟨b7, 0, none⟩)) (by simp [t7]) (fun w => fa97_0 w) hR (hw := (by exact wanted_g (e := 55) (b' := false) rfl (by simp [hsz]) rfl)) ?_
        refine AnyK.load (i := 16) may_o (p := ⟨b7, 0, none⟩) (v := u8V nm.1) (by simp [hsz]) (fun w hw => ld5 (hw.2.1.cell 0)) hR (hw := (by exact wanted_g (e := 55) (b' := false) rfl (by simp [hsz]) rfl)) ?_
        refine AnyK.bin (i := 17) may_o (u := u8V nm.1) (u' := .int .u8 80) (v := .bool true) (by simp [hsz]) (by simp) (fun w => eql5T en2 w) hR (hw := (by exact wanted_g (e := 55) (b' := false) rfl (by simp [hsz]) rfl)) ?_
        refine AnyK.move (i := 18) may_o (v := .bool true) (by simp [hsz]) hR (hw := (by exact wanted_g (e := 55) (b' := false) rfl (by simp [hsz]) rfl)) ?_
        refine AnyK.load (i := 19) may_o (p := ⟨b3, 0, none⟩) (v := serV s A c) (by simp [t3]) (fun w hw => ld29 ⟨hw.1.1.cell 0, hw.1.1.cell 1, hw.1.1.cell 2⟩) hR (hw := (by exact wanted_g (e := 59) (b' := true) rfl (by simp [hsz]) rfl)) ?_
        refine AnyK.field (i := 20) may_o (u := .pointer (some ⟨b7, 0, none⟩)) (v := .pointer (some ⟨b7, 1, none⟩)) (by simp [t7]) (fun w => fa97_1 w) hR (hw := (by exact wanted_g (e := 59) (b' := true) rfl (by simp [hsz]) rfl)) ?_
        refine AnyK.load (i := 21) may_o (p := ⟨b7, 1, none⟩) (v := .int .i64 (nm.2 : Int)) (by simp [hsz]) (fun w hw => ld3 (hw.2.1.cell 1)) hR (hw := (by exact wanted_g (e := 59) (b' := true) rfl (by simp [hsz]) rfl)) ?_
        refine AnyK.load (i := 23) may_o (p := ⟨b8, 0, none⟩) (v := rV c0 c1 c2 c3 c4 c5 c6) (by simp [t8]) (fun w hw => ld83 hw.2.2.1) hR (hw := (by exact wanted_g (e := 59) (b' := true) rfl (by simp [hsz]) rfl)) ?_
        refine AnyK.pick1 (i := 22) (by kernel_rfl) ?_
        refine StepK.call (i := 22) (f := 52) (vs := #[serV s A c, .int .i64 (nm.2 : Int)]) rfl (enters_of Try.func52 (by kernel_rfl) rfl) rfl (by simp [hsz]) ((sum_any s A c nm.2 _ (by omega) (by omega) (by omega) hk hin (hR.1.2.more hR.2.2.2.size)).mono ?_) (hw := (by exact wanted_g (e := 59) (b' := true) rfl (by simp [hsz]) rfl))
        rintro _ V22 ⟨rfl, hv22⟩
        replace hR : (fun w : World => (Whole w b3 29 #[.int .i64 s.width, .int .i64 s.step, .slice A s.rd.length c] ∧ IntsAt w W.heap.size A s.rd) ∧ Whole w b7 97 #[u8V nm.1, .int .i64 (nm.2 : Int)] ∧ Whole w b8 83 (r7 c0 c1 c2 c3 c4 c5 c6) ∧ Below W.heap.size W w) V22 := hgr _ _ hR hv22
        refine ⟨_, rfl, fun _ _ => hR, ?_⟩
        refine AnyK.pick1 (i := 24) (by kernel_rfl) ?_
        refine StepK.call (i := 24) (f := 59) (vs := #[rV c0 c1 c2 c3 c4 c5 c6, .int .i64 (3)]) rfl (enters_of Try.func59 (by kernel_rfl) rfl) rfl (by simp [hsz]) (((show Calls Try.prog 59 #[rV c0 c1 c2 c3 c4 c5 c6, .int .i64 3] _ (fun e w' => e = .returned (.int .i64 (vl : Int)) ∧ _) from by rw [← hvl]; exact number3 c0 c1 c2 c3 c4 c5 c6 _)).mono ?_) (hw := (by exact wanted_g (e := 59) (b' := true) rfl (by simp [hsz]) rfl))
        rintro _ V24 ⟨rfl, hv24⟩
        replace hR : (fun w : World => (Whole w b3 29 #[.int .i64 s.width, .int .i64 s.step, .slice A s.rd.length c] ∧ IntsAt w W.heap.size A s.rd) ∧ Whole w b7 97 #[u8V nm.1, .int .i64 (nm.2 : Int)] ∧ Whole w b8 83 (r7 c0 c1 c2 c3 c4 c5 c6) ∧ Below W.heap.size W w) V24 := hgr _ _ hR hv24
        refine ⟨_, rfl, fun _ _ => hR, ?_⟩
        refine AnyK.bin (i := 25) may_o (u := .int .i64 (sumB s nm.2)) (u' := .int .i64 (vl : Int)) (v := .bool false) (by simp [hsz]) (by simp [hsz]) (fun w => neqF hv w) hR (hw := (by exact wanted_g (e := 59) (b' := true) rfl (by simp [hsz]) rfl)) ?_
        refine AnyK.pick (i := 26) may_o (b := true) (v := .bool false) (by simp [hsz]) (by simp [hsz]) hR (hw := (by exact wanted_g (e := 55) (b' := false) rfl (by simp [hsz]) rfl)) ?_
        refine AnyK.pick (i := 27) may_o (b := false) (v := .bool false) (by simp [hsz]) (by simp [hsz]) hR ?_
        refine AnyK.done (by kernel_rfl) ?_
        exact hQ _ _ (by simp only [size_put, hsz]) (by simp only [defers_put]) (by simp [t3]) (by simp [t35]) (by rw [b82, e80, hd]; exact (by simp [hsz])) hR.2.2.2
      · have hd : decide (sumB s nm.2 ≠ (vl : Int)) = true := by simp [hv]
        refine region_K (KpR (fun w : World => (Whole w b3 29 #[.int .i64 s.width, .int .i64 s.step, .slice A s.rd.length c] ∧ IntsAt w W.heap.size A s.rd) ∧ Whole w b7 97 #[u8V nm.1, .int .i64 (nm.2 : Int)] ∧ Whole w b8 83 (r7 c0 c1 c2 c3 c4 c5 c6) ∧ Below W.heap.size W w) (fun _ => false)) (wideF_plain _) (by kernel_rfl) Try.mixed ?_
        change AnyK _ _ _ _ 28 (Array.replicate 28 false) _ _
        have hR : (fun w : World => (Whole w b3 29 #[.int .i64 s.width, .int .i64 s.step, .slice A s.rd.length c] ∧ IntsAt w W.heap.size A s.rd) ∧ Whole w b7 97 #[u8V nm.1, .int .i64 (nm.2 : Int)] ∧ Whole w b8 83 (r7 c0 c1 c2 c3 c4 c5 c6) ∧ Below W.heap.size W w) W.drew := hR0
        refine AnyK.field (i := 0) may_o (u := .pointer (some ⟨b7, 0, none⟩)) (v := .pointer (some ⟨b7, 0, none⟩)) (by simp [t7]) (fun w => fa97_0 w) hR ?_
        refine AnyK.load (i := 1) may_o (p := ⟨b7, 0, none⟩) (v := u8V nm.1) (by simp [hsz]) (fun w hw => ld5 (hw.2.1.cell 0)) hR ?_
        refine AnyK.bin (i := 2) may_o (u := u8V nm.1) (u' := .int .u8 82) (v := .bool false) (by simp [hsz]) (by simp) (fun w => eql5F en w) hR ?_
        refine AnyK.move (i := 3) may_o (v := .bool false) (by simp [hsz]) hR ?_
        refine AnyK.passG (i := 4) may_o (e := 44) (b' := false) rfl (by simp [hsz]) rfl hR ?_
        refine AnyK.passG (i := 5) may_o (e := 44) (b' := false) rfl (by simp [hsz]) rfl hR ?_
        refine AnyK.passG (i := 6) may_o (e := 44) (b' := false) rfl (by simp [hsz]) rfl hR ?_
        refine AnyK.passG (i := 7) may_o (e := 44) (b' := false) rfl (by simp [hsz]) rfl hR ?_
        refine AnyK.passG (i := 8) may_o (e := 44) (b' := false) rfl (by simp [hsz]) rfl hR ?_
        refine AnyK.passG (i := 9) may_o (e := 44) (b' := false) rfl (by simp [hsz]) rfl hR ?_
        refine AnyK.passG (i := 10) may_o (e := 44) (b' := false) rfl (by simp [hsz]) rfl hR ?_
        refine AnyK.passG (i := 11) may_o (e := 44) (b' := false) rfl (by simp [hsz]) rfl hR ?_
        refine AnyK.passG (i := 12) may_o (e := 44) (b' := false) rfl (by simp [hsz]) rfl hR ?_
        refine AnyK.pick (i := 13) may_o (b := false) (v := .bool false) (by simp [hsz]) (by simp) hR ?_
        refine AnyK.move (i := 14) may_o (v := .bool false) (by simp [hsz]) hR ?_
        refine AnyK.field (i := 15) may_o (u := .pointer (some ⟨b7, 0, none⟩)) (v := .pointer (some ⟨b7, 0, none⟩)) (by simp [t7]) (fun w => fa97_0 w) hR (hw := (by exact wanted_g (e := 55) (b' := false) rfl (by simp [hsz]) rfl)) ?_
        refine AnyK.load (i := 16) may_o (p := ⟨b7, 0, none⟩) (v := u8V nm.1) (by simp [hsz]) (fun w hw => ld5 (hw.2.1.cell 0)) hR (hw := (by exact wanted_g (e := 55) (b' := false) rfl (by simp [hsz]) rfl)) ?_
        refine AnyK.bin (i := 17) may_o (u := u8V nm.1) (u' := .int .u8 80) (v := .bool true) (by simp [hsz]) (by simp) (fun w => eql5T en2 w) hR (hw := (by exact wanted_g (e := 55) (b' := false) rfl (by simp [hsz]) rfl)) ?_
        refine AnyK.move (i := 18) may_o (v := .bool true) (by simp [hsz]) hR (hw := (by exact wanted_g (e := 55) (b' := false) rfl (by simp [hsz]) rfl)) ?_
        refine AnyK.load (i := 19) may_o (p := ⟨b3, 0, none⟩) (v := serV s A c) (by simp [t3]) (fun w hw => ld29 ⟨hw.1.1.cell 0, hw.1.1.cell 1, hw.1.1.cell 2⟩) hR (hw := (by exact wanted_g (e := 59) (b' := true) rfl (by simp [hsz]) rfl)) ?_
        refine AnyK.field (i := 20) may_o (u := .pointer (some ⟨b7, 0, none⟩)) (v := .pointer (some ⟨b7, 1, none⟩)) (by simp [t7]) (fun w => fa97_1 w) hR (hw := (by exact wanted_g (e := 59) (b' := true) rfl (by simp [hsz]) rfl)) ?_
        refine AnyK.load (i := 21) may_o (p := ⟨b7, 1, none⟩) (v := .int .i64 (nm.2 : Int)) (by simp [hsz]) (fun w hw => ld3 (hw.2.1.cell 1)) hR (hw := (by exact wanted_g (e := 59) (b' := true) rfl (by simp [hsz]) rfl)) ?_
        refine AnyK.load (i := 23) may_o (p := ⟨b8, 0, none⟩) (v := rV c0 c1 c2 c3 c4 c5 c6) (by simp [t8]) (fun w hw => ld83 hw.2.2.1) hR (hw := (by exact wanted_g (e := 59) (b' := true) rfl (by simp [hsz]) rfl)) ?_
        refine AnyK.pick1 (i := 22) (by kernel_rfl) ?_
        refine StepK.call (i := 22) (f := 52) (vs := #[serV s A c, .int .i64 (nm.2 : Int)]) rfl (enters_of Try.func52 (by kernel_rfl) rfl) rfl (by simp [hsz]) ((sum_any s A c nm.2 _ (by omega) (by omega) (by omega) hk hin (hR.1.2.more hR.2.2.2.size)).mono ?_) (hw := (by exact wanted_g (e := 59) (b' := true) rfl (by simp [hsz]) rfl))
        rintro _ V22 ⟨rfl, hv22⟩
        replace hR : (fun w : World => (Whole w b3 29 #[.int .i64 s.width, .int .i64 s.step, .slice A s.rd.length c] ∧ IntsAt w W.heap.size A s.rd) ∧ Whole w b7 97 #[u8V nm.1, .int .i64 (nm.2 : Int)] ∧ Whole w b8 83 (r7 c0 c1 c2 c3 c4 c5 c6) ∧ Below W.heap.size W w) V22 := hgr _ _ hR hv22
        refine ⟨_, rfl, fun _ _ => hR, ?_⟩
        refine AnyK.pick1 (i := 24) (by kernel_rfl) ?_
        refine StepK.call (i := 24) (f := 59) (vs := #[rV c0 c1 c2 c3 c4 c5 c6, .int .i64 (3)]) rfl (enters_of Try.func59 (by kernel_rfl) rfl) rfl (by simp [hsz]) (((show Calls Try.prog 59 #[rV c0 c1 c2 c3 c4 c5 c6, .int .i64 3] _ (fun e w' => e = .returned (.int .i64 (vl : Int)) ∧ _) from by rw [← hvl]; exact number3 c0 c1 c2 c3 c4 c5 c6 _)).mono ?_) (hw := (by exact wanted_g (e := 59) (b' := true) rfl (by simp [hsz]) rfl))
        rintro _ V24 ⟨rfl, hv24⟩
        replace hR : (fun w : World => (Whole w b3 29 #[.int .i64 s.width, .int .i64 s.step, .slice A s.rd.length c] ∧ IntsAt w W.heap.size A s.rd) ∧ Whole w b7 97 #[u8V nm.1, .int .i64 (nm.2 : Int)] ∧ Whole w b8 83 (r7 c0 c1 c2 c3 c4 c5 c6) ∧ Below W.heap.size W w) V24 := hgr _ _ hR hv24
        refine ⟨_, rfl, fun _ _ => hR, ?_⟩
        refine AnyK.bin (i := 25) may_o (u := .int .i64 (sumB s nm.2)) (u' := .int .i64 (vl : Int)) (v := .bool true) (by simp [hsz]) (by simp [hsz]) (fun w => neqT hv w) hR (hw := (by exact wanted_g (e := 59) (b' := true) rfl (by simp [hsz]) rfl)) ?_
        refine AnyK.pick (i := 26) may_o (b := true) (v := .bool true) (by simp [hsz]) (by simp [hsz]) hR (hw := (by exact wanted_g (e := 55) (b' := false) rfl (by simp [hsz]) rfl)) ?_
        refine AnyK.pick (i := 27) may_o (b := false) (v := .bool true) (by simp [hsz]) (by simp [hsz]) hR ?_
        refine AnyK.done (by kernel_rfl) ?_
        exact hQ _ _ (by simp only [size_put, hsz]) (by simp only [defers_put]) (by simp [t3]) (by simp [t35]) (by rw [b82, e80, hd]; exact (by simp [hsz])) hR.2.2.2
    · have en2 : ((nm.1.toNat : Int)) ≠ 80 := fun e => e80 (UInt8.toNat_inj.1 (show nm.1.toNat = 80 by omega))
      have b80 : (nm.1 == 80) = false := by simpa using e80
      refine region_K (KpR (fun w : World => (Whole w b3 29 #[.int .i64 s.width, .int .i64 s.step, .slice A s.rd.length c] ∧ IntsAt w W.heap.size A s.rd) ∧ Whole w b7 97 #[u8V nm.1, .int .i64 (nm.2 : Int)] ∧ Whole w b8 83 (r7 c0 c1 c2 c3 c4 c5 c6) ∧ Below W.heap.size W w) (fun _ => false)) (wideF_plain _) (by kernel_rfl) Try.mixed ?_
      change AnyK _ _ _ _ 28 (Array.replicate 28 false) _ _
      have hR : (fun w : World => (Whole w b3 29 #[.int .i64 s.width, .int .i64 s.step, .slice A s.rd.length c] ∧ IntsAt w W.heap.size A s.rd) ∧ Whole w b7 97 #[u8V nm.1, .int .i64 (nm.2 : Int)] ∧ Whole w b8 83 (r7 c0 c1 c2 c3 c4 c5 c6) ∧ Below W.heap.size W w) W.drew := hR0
      refine AnyK.field (i := 0) may_o (u := .pointer (some ⟨b7, 0, none⟩)) (v := .pointer (some ⟨b7, 0, none⟩)) (by simp [t7]) (fun w => fa97_0 w) hR ?_
      refine AnyK.load (i := 1) may_o (p := ⟨b7, 0, none⟩) (v := u8V nm.1) (by simp [hsz]) (fun w hw => ld5 (hw.2.1.cell 0)) hR ?_
      refine AnyK.bin (i := 2) may_o (u := u8V nm.1) (u' := .int .u8 82) (v := .bool false) (by simp [hsz]) (by simp) (fun w => eql5F en w) hR ?_
      refine AnyK.move (i := 3) may_o (v := .bool false) (by simp [hsz]) hR ?_
      refine AnyK.passG (i := 4) may_o (e := 44) (b' := false) rfl (by simp [hsz]) rfl hR ?_
      refine AnyK.passG (i := 5) may_o (e := 44) (b' := false) rfl (by simp [hsz]) rfl hR ?_
      refine AnyK.passG (i := 6) may_o (e := 44) (b' := false) rfl (by simp [hsz]) rfl hR ?_
      refine AnyK.passG (i := 7) may_o (e := 44) (b' := false) rfl (by simp [hsz]) rfl hR ?_
      refine AnyK.passG (i := 8) may_o (e := 44) (b' := false) rfl (by simp [hsz]) rfl hR ?_
      refine AnyK.passG (i := 9) may_o (e := 44) (b' := false) rfl (by simp [hsz]) rfl hR ?_
      refine AnyK.passG (i := 10) may_o (e := 44) (b' := false) rfl (by simp [hsz]) rfl hR ?_
      refine AnyK.passG (i := 11) may_o (e := 44) (b' := false) rfl (by simp [hsz]) rfl hR ?_
      refine AnyK.passG (i := 12) may_o (e := 44) (b' := false) rfl (by simp [hsz]) rfl hR ?_
      refine AnyK.pick (i := 13) may_o (b := false) (v := .bool false) (by simp [hsz]) (by simp) hR ?_
      refine AnyK.move (i := 14) may_o (v := .bool false) (by simp [hsz]) hR ?_
      refine AnyK.field (i := 15) may_o (u := .pointer (some ⟨b7, 0, none⟩)) (v := .pointer (some ⟨b7, 0, none⟩)) (by simp [t7]) (fun w => fa97_0 w) hR (hw := (by exact wanted_g (e := 55) (b' := false) rfl (by simp [hsz]) rfl)) ?_
      refine AnyK.load (i := 16) may_o (p := ⟨b7, 0, none⟩) (v := u8V nm.1) (by simp [hsz]) (fun w hw => ld5 (hw.2.1.cell 0)) hR (hw := (by exact wanted_g (e := 55) (b' := false) rfl (by simp [hsz]) rfl)) ?_
      refine AnyK.bin (i := 17) may_o (u := u8V nm.1) (u' := .int .u8 80) (v := .bool false) (by simp [hsz]) (by simp) (fun w => eql5F en2 w) hR (hw := (by exact wanted_g (e := 55) (b' := false) rfl (by simp [hsz]) rfl)) ?_
      refine AnyK.move (i := 18) may_o (v := .bool false) (by simp [hsz]) hR (hw := (by exact wanted_g (e := 55) (b' := false) rfl (by simp [hsz]) rfl)) ?_
      refine AnyK.passG (i := 19) may_o (e := 59) (b' := false) rfl (by simp [hsz]) rfl hR ?_
      refine AnyK.passG (i := 20) may_o (e := 59) (b' := false) rfl (by simp [hsz]) rfl hR ?_
      refine AnyK.passG (i := 21) may_o (e := 59) (b' := false) rfl (by simp [hsz]) rfl hR ?_
      refine AnyK.passG (i := 22) may_o (e := 59) (b' := false) rfl (by simp [hsz]) rfl hR ?_
      refine AnyK.passG (i := 23) may_o (e := 59) (b' := false) rfl (by simp [hsz]) rfl hR ?_
      refine AnyK.passG (i := 24) may_o (e := 59) (b' := false) rfl (by simp [hsz]) rfl hR ?_
      refine AnyK.passG (i := 25) may_o (e := 59) (b' := false) rfl (by simp [hsz]) rfl hR ?_
      refine AnyK.pick (i := 26) may_o (b := false) (v := .bool false) (by simp [hsz]) (by simp) hR (hw := (by exact wanted_g (e := 55) (b' := false) rfl (by simp [hsz]) rfl)) ?_
      refine AnyK.pick (i := 27) may_o (b := false) (v := .bool false) (by simp [hsz]) (by simp [hsz]) hR ?_
      refine AnyK.done (by kernel_rfl) ?_
      exact hQ _ _ (by simp only [size_put, hsz]) (by simp only [defers_put]) (by simp [t3]) (by simp [t35]) (by rw [b82, b80]; exact (by simp [hsz])) hbd
end
end Go.Proofs.YtmdlmmfbcnkanaaR
namespace Go.Proofs.YtmdlmmfbcnkanaaR
open Go.RowKit Go.Shelf
theorem neq77 {a b : Operand} (x y z x' y' z' : Int) (w : World) : (do eqGuard .neq 77 a b (headV x y z) (headV x' y' z'); binOp .neq 77 (headV x y z) (headV x' y' z') : Sem Value).run Try.prog w = .ok (.bool (!(decide (x = x') && (decide (y = y') && decide (z = z'))))) w := by
  go_simp
  by_cases h1 : x = x' <;> by_cases h2 : y = y' <;> by_cases h3 : z = z' <;> simp [h1, h2, h3]
section
variable {s : Ser} {A : Option Addr} {c b3 ba M : Nat} {h : Head} {m : List (List UInt8)} {W0 : World}
attribute [local irreducible] AnyK StepK
set_option maxHeartbeats 400000 in
theorem fit_l_any {r0 : Nat} {D : List Nat} {a : Act} {W : World} {Q : Exit → Act → World → Prop} (hf : faultS s = 0) (hh : HeadB h) (hmany : h.many = s.rd.length) (hgd : ∀ r, r ∈ m → isGood r = true) (hout : ∀ r, r ∈ m → outOf h r = false)
    (w3 : Whole W0 b3 29 #[.int .i64 s.width, .int .i64 s.step, .slice A s.rd.length c]) (hs : IntsAt W0 W0.heap.size A s.rd) (har : ArchAt W0 ba M h m) (low : Below W0.heap.size W0 W) (it : IterAt nameV W r0 M (recMap m) D) (hr0 : W0.heap.size ≤ r0)
    (hsz : a.tmps.size = 69) (hdf : a.defers = []) (t3 : a.eval (.tmp 3) = ptr b3) (t35 : a.eval (.tmp 35) = ptr r0)
    (hN : ∀ a' W' j r, m[j]? = some r → okRec s r = true → a'.tmps.size = 69 → a'.defers = [] → a'.eval (.tmp 3) = ptr b3 → a'.eval (.tmp 35) = ptr r0 → Below W0.heap.size W0 W' → IterAt nameV W' r0 M (recMap m) (D ++ [j]) → D.length < m.length → Q .normal a' W')
    (hX : ∀ a', (∀ j, j < m.length → j ∈ D) → a'.tmps.size = 69 → a'.defers = [] → Q (.exit 0) a' W)
    (hR : ∀ a' W' r, r ∈ m → okRec s r = false → a'.defers = [] → a'.eval (.tmp 4) = .bool false → Below W0.heap.size W0 W' → Q .ret a' W') :
    fit_l.wpIn Fence.wide 5 Try.prog Q a W := by
  have hltM := har.lt.2
  unfold fit_l
  rcases it.next (by omega) 0 with ⟨hall, hnx⟩ | ⟨j, k, v, W1, hjk, hlt, hnx, it1, he1⟩
  · skip
    refine wpIn_seq (region_p 2 ?_)
    intro K hK
    refine ListK.next (i := 0) (u := ptr r0) rfl (by simp [t35]) hnx ?_
    refine ListK.extract (i := 1) (u := .tuple #[.bool false]) (v := .bool false) rfl (by simp [hsz]) (ex0s _ _) ?_
    refine ListK.done (hK _ _ ?_)
    clear hK K
    refine wpIn_seq (wpIn_cond (t := false) (by simp [hsz]) (wpIn_exit ?_))
    exact hX _ (fun j hj => hall j (by simpa [recMap] using hj)) (by simp only [size_put, hsz]) (by simp only [defers_put, hdf])
  · have low1 := low.trans (he1.below low.size (fun k hk => by omega))
    obtain ⟨r, hr, hkr, hvr⟩ : ∃ r, m[j]? = some r ∧ k = nameOf r ∧ v = .agg (recC r) := by
      simp only [recMap, List.getElem?_map, Option.map_eq_some_iff, Prod.mk.injEq] at hjk
      obtain ⟨r, h1, h2, h3⟩ := hjk
      exact ⟨r, h1, h2.symm, h3.symm⟩
    subst hkr
    have hent := it1.entry hjk
    have hlt' : D.length < m.length := by simpa [recMap] using hlt
    have hrm := List.mem_of_getElem? hr
    obtain ⟨c0, c1, c2, c3, c4, c5, c6, hre⟩ := len7 (good_seven (hgd r hrm))
    have hv7 : v = rV c0 c1 c2 c3 c4 c5 c6 := by rw [hvr, hre]; rfl
    subst hv7
    refine wpIn_seq (region_p 2 ?_)
    intro K hK
    refine ListK.next (i := 0) (u := ptr r0) rfl (by simp [t35]) hnx ?_
    refine ListK.extract (i := 1) (u := .tuple #[.bool true, nameV (nameOf r), rV c0 c1 c2 c3 c4 c5 c6]) (v := .bool true) rfl (by simp [hsz]) (ex0t _ _ _ _) ?_
    refine ListK.done (hK _ _ ?_)
    clear hK K
    refine wpIn_seq (wpIn_cond (t := true) (by simp [hsz]) (wpIn_skip ?_))
    generalize hA : Act.put _ _ _ = a1
    have hz_a1 : a1.tmps.size = 69 := by rw [← hA]; simp only [size_put, hsz]
    have u3 : a1.eval (.tmp 3) = .pointer (some ⟨b3, 0, none⟩) := by rw [← hA]; exact (by simp [t3])
    have u35 : a1.eval (.tmp 35) = .pointer (some ⟨r0, 0, none⟩) := by rw [← hA]; exact (by simp [t35])
    have hd_a1 : a1.defers = [] := by rw [← hA]; simp only [defers_put, hdf]
    clear hA
    refine wpIn_block ?_
    have hbA : Below W1.heap.size W1 (W1.alloc (.cells #[.int .u8 0, .int .i64 0] 97)) := (Below.refl _ W1).alloc (Nat.le_refl _) _
    have hbB : Below (W1.alloc (.cells #[.int .u8 0, .int .i64 0] 97)).heap.size (W1.alloc (.cells #[.int .u8 0, .int .i64 0] 97)) ((W1.alloc (.cells #[.int .u8 0, .int .i64 0] 97)).alloc (.cells z7 83)) := (Below.refl _ (W1.alloc (.cells #[.int .u8 0, .int .i64 0] 97))).alloc (Nat.le_refl _) _
    have w7b := (Whole.new W1 97 #[.int .u8 0, .int .i64 0]).below hbB (Whole.new W1 97 #[.int .u8 0, .int .i64 0]).lt
    have w8b := Whole.new (W1.alloc (.cells #[.int .u8 0, .int .i64 0] 97)) 83 z7
    have hlt78 := (Whole.new W1 97 #[.int .u8 0, .int .i64 0]).lt
    have heC : Else (fun k => k = W1.heap.size) ((W1.alloc (.cells #[.int .u8 0, .int .i64 0] 97)).alloc (.cells z7 83)) ((((W1.alloc (.cells #[.int .u8 0, .int .i64 0] 97)).alloc (.cells z7 83)).setCell ⟨W1.heap.size, 0, none⟩ (u8V (nameOf r).1)).setCell ⟨W1.heap.size, 1, none⟩ (.int .i64 ((nameOf r).2 : Int))) := ((Else.refl (fun k => k = W1.heap.size) _).setCell (p := ⟨W1.heap.size, 0, none⟩) (.inl rfl) _).setCell (p := ⟨W1.heap.size, 1, none⟩) (.inl rfl) _
    have w8c := heC.whole (by omega) w8b
    have w7c := (w7b.set 0 (u8V (nameOf r).1)).set 1 (.int .i64 ((nameOf r).2 : Int))
    refine wpIn_seq (region_p 7 ?_)
    intro K hK
    refine ListK.entry (i := 0) (u := ptr r0) rfl (by simp [u35]) hent ?_
    refine ListK.extract (i := 1) (u := .tuple #[nameV (nameOf r), rV c0 c1 c2 c3 c4 c5 c6]) (v := nameV (nameOf r)) rfl (by simp [hz_a1]) (ex0 _ _ _) ?_
    refine ListK.extract (i := 2) (u := .tuple #[nameV (nameOf r), rV c0 c1 c2 c3 c4 c5 c6]) (v := rV c0 c1 c2 c3 c4 c5 c6) rfl (by simp [hz_a1]) (ex1 _ _ _) ?_
    refine ListK.alloc (i := 3) rfl (al97 W1) ?_
    refine ListK.alloc (i := 4) rfl (al83 (W1.alloc (.cells #[.int .u8 0, .int .i64 0] 97))) ?_
    refine ListK.store (i := 5) (u := .pointer (some ⟨W1.heap.size, 0, none⟩)) (u' := nameV (nameOf r)) rfl (by simp [hz_a1]) (by simp [hz_a1]) (st97 w7b) ?_
    refine ListK.store (i := 6) (u := .pointer (some ⟨(W1.alloc (.cells #[.int .u8 0, .int .i64 0] 97)).heap.size, 0, none⟩)) (u' := rV c0 c1 c2 c3 c4 c5 c6) rfl (by simp [hz_a1]) (by simp [hz_a1]) (st83 w8c) ?_
    refine ListK.done (hK _ _ ?_)
    clear hK K
    have w8d := put7_whole w8c (u8V c0) (u8V c1) (u8V c2) (u8V c3) (u8V c4) (u8V c5) (u8V c6)
    have heD := put7_else (w := (((W1.alloc (.cells #[.int .u8 0, .int .i64 0] 97)).alloc (.cells z7 83)).setCell ⟨W1.heap.size, 0, none⟩ (u8V (nameOf r).1)).setCell ⟨W1.heap.size, 1, none⟩ (.int .i64 ((nameOf r).2 : Int))) (b := (W1.alloc (.cells #[.int .u8 0, .int .i64 0] 97)).heap.size) (u8V c0) (u8V c1) (u8V c2) (u8V c3) (u8V c4) (u8V c5) (u8V c6)
    have w7d := heD.whole (by omega) w7c
    have hszA := hbA.size
    have hszB := hbB.size
    have hb2 := (hbA.trans (hbB.mono hszA)).trans ((heC.below (B := W1.heap.size) (by omega) (fun k hk e => by omega)).trans (heD.below (B := W1.heap.size) (by simp; omega) (fun k hk e => by omega)))
    generalize (W1.alloc (.cells #[.int .u8 0, .int .i64 0] 97)).heap.size = b8 at *
    have hrl : r0 < W1.heap.size := by obtain ⟨_, _, _, _, _, _, _, _, _, h6, _⟩ := it1.ex; exact (Array.getElem?_eq_some_iff.1 h6).1
    have hs01 := low1.size
    have it2 := it1.keep (hb2.block M (by omega)) (hb2.block r0 hrl)
    have hrl2 : r0 < _ := Nat.lt_of_lt_of_le hrl hb2.size
    have low2 := low1.trans (hb2.mono low1.size)
    generalize W1.heap.size = b7 at *
    generalize put7 ((((W1.alloc (.cells #[.int .u8 0, .int .i64 0] 97)).alloc (.cells z7 83)).setCell ⟨b7, 0, none⟩ (u8V (nameOf r).1)).setCell ⟨b7, 1, none⟩ (.int .i64 ((nameOf r).2 : Int))) b8 (u8V c0) (u8V c1) (u8V c2) (u8V c3) (u8V c4) (u8V c5) (u8V c6) = W2 at *
    generalize hA : Act.put _ _ _ = a2
    have hz_a2 : a2.tmps.size = 69 := by rw [← hA]; simp only [size_put, hz_a1]
    have v3 : a2.eval (.tmp 3) = .pointer (some ⟨b3, 0, none⟩) := by rw [← hA]; exact (by simp [u3])
    have v7 : a2.eval (.tmp 7) = .pointer (some ⟨b7, 0, none⟩) := by rw [← hA]; exact (by simp [hz_a1])
    have v8 : a2.eval (.tmp 8) = .pointer (some ⟨b8, 0, none⟩) := by rw [← hA]; exact (by simp [hz_a1])
    have v35 : a2.eval (.tmp 35) = .pointer (some ⟨r0, 0, none⟩) := by rw [← hA]; exact (by simp [u35])
    have hd_a2 : a2.defers = [] := by rw [← hA]; simp only [defers_put, hd_a1]
    clear hA
    have ho := hout r hrm
    have ho2 : ((nameOf r).1 = 82 → (nameOf r).2 < s.rd.length) ∧ ((nameOf r).1 = 80 → (nameOf r).2 ≤ 100) := by
      unfold outOf at ho
      rw [Bool.or_eq_false_iff, Bool.and_eq_false_iff, Bool.and_eq_false_iff] at ho
      refine ⟨fun e => ?_, fun e => ?_⟩
      · rcases ho.1 with h1 | h1
        · rw [e] at h1
          cases h1
        · simp at h1
          omega
      · rcases ho.2 with h1 | h1
        · rw [e] at h1
          cases h1
        · simp at h1
          have hb : h.blocks ≤ 48 := by
            unfold Head.blocks
            refine Nat.le_trans (Nat.div_le_self _ _) ?_
            have := hh.many
            have := hh.width
            omega
          omega
    subst hre
    refine wpIn_seq (ft_7 hf rfl rfl ho2.1 ho2.2 hz_a2 v3 v7 v8 v35 (w3.below low2 w3.lt) ((hs.below low2 (Nat.le_refl _)).more low2.size) w7d w8d (fun a' W' y0 yd y3 y35 y68 hb3 => ?_))
    rw [hd_a2] at yd
    have it3 := it2.keep (hb3.block M (by have := low2.size; omega)) (hb3.block r0 hrl2)
    have low3 := low2.trans (hb3.mono low2.size)
    cases ho : okRec s [c0, c1, c2, c3, c4, c5, c6] with
    | true =>
      rw [ho] at y68
      refine wpIn_cond (t := false) y68 (wpIn_skip ?_)
      exact hN a' W' j _ hr ho y0 yd y3 y35 low3 it3 hlt'
    | false =>
      rw [ho] at y68
      refine wpIn_cond (t := true) y68 ?_
      refine wpIn_seq (region_p 1 ?_)
      intro K hK
      refine ListK.assign (i := 0) (v := .bool false) rfl (by simp) ?_
      refine ListK.done (hK _ _ (wpIn_ret ?_))
      exact hR _ _ _ hrm ho (by simp only [defers_put, yd]) (by simp [y0]) low3
end
end Go.Proofs.YtmdlmmfbcnkanaaR
namespace Go.Proofs.YtmdlmmfbcnkanaaR
open Go.RowKit Go.Shelf
section
variable {s : Ser} {A : Option Addr} {c b3 ba M : Nat} {h : Head} {m : List (List UInt8)} {W0 : World}
attribute [local irreducible] AnyK StepK
set_option maxHeartbeats 400000 in
theorem fit_b_any {a : Act} {W W2 : World} (hf : faultS s = 0) (hh : HeadB h) (hmany : h.many = s.rd.length) (hgd : ∀ r, r ∈ m → isGood r = true) (hout : ∀ r, r ∈ m → outOf h r = false)
    (w3 : Whole W2 b3 29 #[.int .i64 s.width, .int .i64 s.step, .slice A s.rd.length c]) (hs : IntsAt W2 W2.heap.size A s.rd) (har : ArchAt W2 ba M h m) (hB : Below W.heap.size W W2)
    (hsz : a.tmps.size = 69) (hd_a : a.defers = []) (t3 : a.eval (.tmp 3) = ptr b3) (t5 : a.eval (.tmp 5) = ptr ba) :
    fit_b.wpIn Fence.wide 5 Try.prog (bodyPost Try.prog Try.f31 (EvP W (.bool (m.all (okRec s))))) a W2 := by
  obtain ⟨o, hrun, it⟩ := IterAt.new kl97 har.map
  unfold fit_b
  refine wpIn_seq (wpIn_seq (region_p 5 ?_))
  intro K hK
  refine ListK.move (i := 0) (v := .pointer (some ⟨ba, 0, none⟩)) rfl (by simp [t5]) ?_
  refine ListK.nilCheck (i := 1) (p := ⟨ba, 0, none⟩) rfl (by simp [hsz]) ?_
  refine ListK.field (i := 2) (u := .pointer (some ⟨ba, 0, none⟩)) (v := .pointer (some ⟨ba, 3, none⟩)) rfl (by simp [hsz]) (fa95_1 _) ?_
  refine ListK.load (i := 3) (p := ⟨ba, 3, none⟩) (v := .map (some M)) rfl (by simp [hsz]) (ld93m (har.whole.cell 3)) ?_
  refine ListK.range (i := 4) (u := .map (some M)) rfl (by simp [hsz]) hrun ?_
  refine ListK.done (hK _ _ ?_)
  clear hK K
  have hb1 : Below W2.heap.size W2 (W2.alloc o) := (Below.refl _ W2).alloc (Nat.le_refl _) _
  generalize hA : Act.put _ _ _ = a1
  have hz_a1 : a1.tmps.size = 69 := by rw [← hA]; simp only [size_put, hsz]
  have u3 : a1.eval (.tmp 3) = .pointer (some ⟨b3, 0, none⟩) := by rw [← hA]; exact (by simp [t3])
  have u35 : a1.eval (.tmp 35) = .pointer (some ⟨W2.heap.size, 0, none⟩) := by rw [← hA]; exact (by simp [hsz])
  have hd_a1 : a1.defers = [] := by rw [← hA]; simp only [defers_put, hd_a]
  clear hA
  refine wpIn_block (wpIn_loop (fun a W' => ∃ D, IterAt nameV W' W2.heap.size M (recMap m) D ∧ Below W2.heap.size W2 W' ∧ (∀ j r, j ∈ D → m[j]? = some r → okRec s r = true) ∧ a.tmps.size = 69 ∧ a.defers = [] ∧ a.eval (.tmp 3) = ptr b3 ∧ a.eval (.tmp 35) = ptr W2.heap.size) (fun _ W' => m.length - seenN W' W2.heap.size)
    ⟨[], it, hb1, fun _ _ h => by simp at h, hz_a1, hd_a1, u3, u35⟩ ?_)
  rintro b1 W3 ⟨D, it2, low2, hD, z2, d2, s3, s35⟩
  refine fit_l_any hf hh hmany hgd hout w3 hs har low2 it2 (Nat.le_refl _) z2 d2 s3 s35 (fun a' W' j r hj ho y0 yd y3 y35 low' it' hlt => ?_) (fun a' hall y0 yd => ?_) (fun a' W' r hr2 ho yd y4 low' => ?_)
  · refine ⟨⟨D ++ [j], it', low', fun j' r' hj' hr' => ?_, y0, yd, y3, y35⟩, ?_⟩
    · rcases List.mem_append.1 hj' with hj' | hj'
      · exact hD j' r' hj' hr'
      · simp at hj'
        subst hj'
        rw [hj] at hr'
        cases hr'
        exact ho
    · rw [it'.seenN, it2.seenN]
      simp
      omega
  · have hno : m.all (okRec s) = true := by
      rw [List.all_eq_true]
      intro r hr2
      obtain ⟨j, hj⟩ := List.mem_iff_getElem?.1 hr2
      exact hD j r (hall j (List.getElem?_eq_some_iff.1 hj).1) hj
    rw [hno]
    show (Code.wpIn _ _ _ (Code.seq _ _) _ _ _)
    refine wpIn_seq (region_p 1 ?_)
    intro K hK
    refine ListK.assign (i := 0) (v := .bool true) rfl (by simp) ?_
    refine ListK.done (hK _ _ (wpIn_ret ?_))
    exact bodyPost_ret (v := .bool true) (res1 Try.results31 (by simp [y0])) (by simp only [defers_put, yd]) ⟨rfl, hB.trans (low2.mono hB.size)⟩
  · have hno : m.all (okRec s) = false := by
      cases hq : m.all (okRec s) with
      | false => rfl
      | true =>
        have := List.all_eq_true.1 hq r hr2
        rw [ho] at this
        cases this
    rw [hno]
    exact bodyPost_ret (v := .bool false) (res1 Try.results31 y4) yd ⟨rfl, hB.trans (low'.mono hB.size)⟩
end
section
attribute [local irreducible] AnyK StepK
set_option maxHeartbeats 400000 in
theorem fits_any (s : Ser) (A Ab : Option Addr) (c cb : Nat) (l : List UInt8) (W : World) (hlr : s.rd.length ≤ 1000000) (hs : IntsAt W W.heap.size A s.rd) (hc : l.length ≤ cb) (hl : l.length ≤ 100000) (hby : BytesAt W W.heap.size Ab l) :
    Calls Try.prog 31 #[.slice Ab l.length cb, serV s A c] W (EvP W (.bool (fitsC l s))) := by
  refine (callsIn_wide (n := 5)).1 (callsIn_of_wp Try.func31 body31 trivial ?_ rfl)
  obtain ⟨a, ha⟩ : ∃ a : Act, a = { tmps := #[.slice Ab l.length cb, serV s A c] ++ Array.replicate (Try.f31.ntmps - (#[.slice Ab l.length cb, serV s A c] : Array Value).size) undef, defers := [] } := ⟨_, rfl⟩
  have hsz : a.tmps.size = 69 := by rw [ha]; simp [Try.ntmps31]
  have t0 : a.eval (.tmp 0) = .slice Ab l.length cb := by rw [ha]; simp [Act.eval]
  have t1 : a.eval (.tmp 1) = serV s A c := by rw [ha]; simp [Act.eval]
  have hd_a : a.defers = [] := by rw [ha]
  rw [← ha]
  clear ha
  unfold code31
  refine wpIn_seq (region_p 2 ?_)
  intro K hK
  refine ListK.box (i := 0) (u := serV s A c) rfl (by simp [t1]) (bx29 W _ _ _ _ _) ?_
  refine ListK.assign (i := 1) (v := .bool false) rfl (by simp) ?_
  refine ListK.done (hK _ _ ?_)
  clear hK K
  replace hs : IntsAt (W.alloc (.cells #[.int .i64 s.width, .int .i64 s.step, .slice A s.rd.length c] 29)) W.heap.size A s.rd := hs.below ((Below.refl W.heap.size W).alloc (Nat.le_refl _) _) (Nat.le_refl _)
  replace hby : BytesAt (W.alloc (.cells #[.int .i64 s.width, .int .i64 s.step, .slice A s.rd.length c] 29)) W.heap.size Ab l := hby.below ((Below.refl W.heap.size W).alloc (Nat.le_refl _) _) (Nat.le_refl _)
  have w3 := Whole.new W 29 #[.int .i64 s.width, .int .i64 s.step, .slice A s.rd.length c]
  have hb_b3 : Below W.heap.size W (W.alloc (.cells #[.int .i64 s.width, .int .i64 s.step, .slice A s.rd.length c] 29)) := (Below.refl _ W).alloc (Nat.le_refl _) _
  have hB := hb_b3
  generalize hq_b3 : W.heap.size = b3 at *
  generalize W.alloc (.cells #[.int .i64 s.width, .int .i64 s.step, .slice A s.rd.length c] 29) = W1 at *
  have hsz1 := hB.size
  replace hs := hs.more (show b3 ≤ W1.heap.size by omega)
  replace hby := hby.more (show b3 ≤ W1.heap.size by omega)
  rw [← hq_b3] at hB
  generalize hA : Act.put _ _ _ = a1
  have hz_a1 : a1.tmps.size = 69 := by rw [← hA]; simp only [size_put, hsz]
  have u0 : a1.eval (.tmp 0) = .slice Ab l.length cb := by rw [← hA]; exact (by simp [t0])
  have u3 : a1.eval (.tmp 3) = .pointer (some ⟨b3, 0, none⟩) := by rw [← hA]; exact (by simp [hsz])
  have hd_a1 : a1.defers = [] := by rw [← hA]; simp only [defers_put, hd_a]
  clear hA
  have hb1 : Below W1.heap.size W1 (W1.alloc (.cells #[.slice Ab l.length cb] 31)) := (Below.refl _ W1).alloc (Nat.le_refl _) _
  have hrd := read_any [l] (some ⟨W1.heap.size, 0, none⟩) 1 (by simp) _ (lists_one hc hl hby)
  refine wpIn_seq (region_p 8 ?_)
  intro K hK
  refine ListK.move (i := 0) (v := .slice Ab l.length cb) rfl (by simp [u0]) ?_
  refine ListK.bsl (i := 1) (ps := #[(0, .slice Ab l.length cb)]) (v := .slice (some ⟨W1.heap.size, 0, none⟩) 1 1) rfl (by simp [hz_a1]) (bs124 _ _ _ W1) ?_
  refine ListK.call (i := 2) (vs := #[.slice (some ⟨W1.heap.size, 0, none⟩) 1 1]) rfl (enters_of Try.func58 (by kernel_rfl) rfl) (by simp [hz_a1]) ((hrd).mono ?_)
  rintro e W2 hrp
  obtain ⟨p, rfl, hb2, hok⟩ := hrp.val
  refine ⟨_, rfl, ?_⟩
  refine ListK.move (i := 3) (v := .tuple #[.pointer p, .int .i64 (readC [l])]) rfl (by simp [hz_a1]) ?_
  refine ListK.extract (i := 4) (u := .tuple #[.pointer p, .int .i64 (readC [l])]) (v := .pointer p) rfl (by simp [hz_a1]) (ex0 _ _ _) ?_
  refine ListK.extract (i := 5) (u := .tuple #[.pointer p, .int .i64 (readC [l])]) (v := .int .i64 (readC [l])) rfl (by simp [hz_a1]) (ex1 _ _ _) ?_
  refine ListK.assign (i := 6) (v := .pointer p) rfl (by simp [hz_a1]) ?_
  refine ListK.assign (i := 7) (v := .int .i64 (readC [l])) rfl (by simp [hz_a1]) ?_
  refine ListK.done (hK _ _ ?_)
  clear hK K
  have hb12 := hb1.trans (hb2.mono (by have := hb1.size; omega))
  have hB2 := hB.trans (hb12.mono hB.size)
  have w32 := w3.below hb12 w3.lt
  have hs2 := (hs.below hb12 (Nat.le_refl _)).more hb12.size
  generalize hA : Act.put _ _ _ = a2
  have hz_a2 : a2.tmps.size = 69 := by rw [← hA]; simp only [size_put, hz_a1]
  have v3 : a2.eval (.tmp 3) = .pointer (some ⟨b3, 0, none⟩) := by rw [← hA]; exact (by simp [u3])
  have v5 : a2.eval (.tmp 5) = .pointer p := by rw [← hA]; exact (by simp [hz_a1])
  have v6 : a2.eval (.tmp 6) = .int .i64 (readC [l]) := by rw [← hA]; exact (by simp [hz_a1])
  have hd_a2 : a2.defers = [] := by rw [← hA]; simp only [defers_put, hd_a1]
  clear hA
  have hbd := (Below.refl W2.heap.size W2).drew
  by_cases hz : readC [l] = 0
  · obtain ⟨b, M, hr, m, rfl, ht, hf, har, hgd, hno⟩ := hok hz
    have hfl : [l].flatMap goods = goods l := by simp
    rw [hfl] at ht
    have hh := head_b (hgd _ (find_mem hf).1) (find_mem hf).2
    have hrm : readM l = some (headOf hr, m) := by simp [readM, hz, ht, hf]
    have hfc : fitsC l s = (decide (faultS s = 0) && (headEqB s (headOf hr) && m.all (okRec s))) := by simp only [fitsC, hrm]
    rw [hfc]
    generalize headOf hr = h at *
    have hgr : ∀ w w', (fun w : World => (Whole w b3 29 #[.int .i64 s.width, .int .i64 s.step, .slice A s.rd.length c] ∧ IntsAt w W2.heap.size A s.rd) ∧ ArchAt w b M h m ∧ Below W2.heap.size W2 w) w → Below w.heap.size w w' → (fun w : World => (Whole w b3 29 #[.int .i64 s.width, .int .i64 s.step, .slice A s.rd.length c] ∧ IntsAt w W2.heap.size A s.rd) ∧ ArchAt w b M h m ∧ Below W2.heap.size W2 w) w' := fun w w' h hb => ⟨⟨h.1.1.below hb h.1.1.lt, h.1.2.below (hb.mono h.2.2.size) (Nat.le_refl _)⟩, h.2.1.below hb, h.2.2.trans (hb.mono h.2.2.size)⟩
    have hR0 : (fun w : World => (Whole w b3 29 #[.int .i64 s.width, .int .i64 s.step, .slice A s.rd.length c] ∧ IntsAt w W2.heap.size A s.rd) ∧ ArchAt w b M h m ∧ Below W2.heap.size W2 w) W2.drew := hgr W2 _ ⟨⟨w32, hs2⟩, har, Below.refl _ _⟩ hbd
    by_cases hfa : faultS s = 0
    · skip
      refine wpIn_seq (wpIn_seq (region_K (KpR (fun w : World => (Whole w b3 29 #[.int .i64 s.width, .int .i64 s.step, .slice A s.rd.length c] ∧ IntsAt w W2.heap.size A s.rd) ∧ ArchAt w b M h m ∧ Below W2.heap.size W2 w) (fun _ => false)) (wideF_plain _) (by kernel_rfl) Try.mixed ?_))
      change AnyK _ _ _ _ 16 (Array.replicate 16 false) _ _
      have hR : (fun w : World => (Whole w b3 29 #[.int .i64 s.width, .int .i64 s.step, .slice A s.rd.length c] ∧ IntsAt w W2.heap.size A s.rd) ∧ ArchAt w b M h m ∧ Below W2.heap.size W2 w) W2.drew := hR0
      refine AnyK.move (i := 0) may_o (v := .int .i64 (readC [l])) (by simp [v6]) hR ?_
      refine AnyK.bin (i := 1) may_o (u := .int .i64 (readC [l])) (u' := .int .i64 (0)) (v := .bool false) (by simp [hz_a2]) (by simp) (fun w => neq27F hz w) hR ?_
      refine AnyK.move (i := 2) may_o (v := .bool false) (by simp [hz_a2]) hR ?_
      refine AnyK.load (i := 3) may_o (p := ⟨b3, 0, none⟩) (v := serV s A c) (by simp [v3]) (fun w hw => ld29 ⟨hw.1.1.cell 0, hw.1.1.cell 1, hw.1.1.cell 2⟩) hR (hw := (by exact wanted_g (e := 17) (b' := false) rfl (by simp [hz_a2]) rfl)) ?_
      refine AnyK.pick1 (i := 4) (by kernel_rfl) ?_
      refine StepK.call (i := 4) (f := 17) (vs := #[serV s A c]) rfl (enters_of Try.func17 (by kernel_rfl) rfl) rfl (by simp [hz_a2]) ((check_any s A c _ hlr (hR.1.2.more hR.2.2.size)).mono ?_) (hw := (by exact wanted_g (e := 17) (b' := false) rfl (by simp [hz_a2]) rfl))
      rintro _ V4 ⟨rfl, hv4⟩
      replace hR : (fun w : World => (Whole w b3 29 #[.int .i64 s.width, .int .i64 s.step, .slice A s.rd.length c] ∧ IntsAt w W2.heap.size A s.rd) ∧ ArchAt w b M h m ∧ Below W2.heap.size W2 w) V4 := hgr _ _ hR hv4
      refine ⟨_, rfl, fun _ _ => hR, ?_⟩
      refine AnyK.bin (i := 5) may_o (u := .int .i64 (faultS s)) (u' := .int .i64 (0)) (v := .bool false) (by simp [hz_a2]) (by simp) (fun w => neq27F hfa w) hR (hw := (by exact wanted_g (e := 17) (b' := false) rfl (by simp [hz_a2]) rfl)) ?_
      refine AnyK.pick (i := 6) may_o (b := false) (v := .bool false) (by simp [hz_a2]) (by simp [hz_a2]) hR ?_
      refine AnyK.move (i := 7) may_o (v := .bool false) (by simp [hz_a2]) hR ?_
      refine AnyK.load (i := 8) may_o (p := ⟨b3, 0, none⟩) (v := serV s A c) (by simp [v3]) (fun w hw => ld29 ⟨hw.1.1.cell 0, hw.1.1.cell 1, hw.1.1.cell 2⟩) hR (hw := (by exact wanted_g (e := 22) (b' := false) rfl (by simp [hz_a2]) rfl)) ?_
      refine AnyK.move (i := 10) may_o (v := .pointer (some ⟨b, 0, none⟩)) (by simp [v5]) hR (hw := (by exact wanted_g (e := 22) (b' := false) rfl (by simp [hz_a2]) rfl)) ?_
      refine AnyK.nilCheck (i := 11) may_o (p := ⟨b, 0, none⟩) (by simp [hz_a2]) hR (hw := (by exact wanted_g (e := 22) (b' := false) rfl (by simp [hz_a2]) rfl)) ?_
      refine AnyK.field (i := 12) may_o (u := .pointer (some ⟨b, 0, none⟩)) (v := .pointer (some ⟨b, 0, none⟩)) (by simp [hz_a2]) (fun w => fa95_0 w) hR (hw := (by exact wanted_g (e := 22) (b' := false) rfl (by simp [hz_a2]) rfl)) ?_
      refine AnyK.load (i := 13) may_o (p := ⟨b, 0, none⟩) (v := headV (h.many : Int) (h.width : Int) (h.step : Int)) (by simp [hz_a2]) (fun w hw => ld77 ⟨hw.2.1.whole.cell 0, hw.2.1.whole.cell 1, hw.2.1.whole.cell 2⟩) hR (hw := (by exact wanted_g (e := 22) (b' := false) rfl (by simp [hz_a2]) rfl)) ?_
      refine AnyK.pick1 (i := 9) (by kernel_rfl) ?_
      refine StepK.call (i := 9) (f := 45) (vs := #[serV s A c]) rfl (enters_of Try.func45 (by kernel_rfl) rfl) rfl (by simp [hz_a2]) ((sHead_any s.width s.step A s.rd.length c _).mono ?_) (hw := (by exact wanted_g (e := 22) (b' := false) rfl (by simp [hz_a2]) rfl))
      rintro _ V9 ⟨rfl, hv9⟩
      replace hR : (fun w : World => (Whole w b3 29 #[.int .i64 s.width, .int .i64 s.step, .slice A s.rd.length c] ∧ IntsAt w W2.heap.size A s.rd) ∧ ArchAt w b M h m ∧ Below W2.heap.size W2 w) V9 := hgr _ _ hR hv9
      refine ⟨_, rfl, fun _ _ => hR, ?_⟩
      refine AnyK.bin (i := 14) may_o (u := headV (s.rd.length : Int) s.width s.step) (u' := headV (h.many : Int) (h.width : Int) (h.step : Int)) (v := .bool (!headEqB s h)) (by simp [hz_a2]) (by simp [hz_a2]) (fun w => neq77 _ _ _ _ _ _ w) hR (hw := (by exact wanted_g (e := 22) (b' := false) rfl (by simp [hz_a2]) rfl)) ?_
      refine AnyK.pick (i := 15) may_o (b := false) (v := .bool (!headEqB s h)) (by simp [hz_a2]) (by simp [hz_a2]) hR ?_
      refine AnyK.done (by kernel_rfl) ?_
      generalize hA : Act.put _ _ _ = a3
      have hz_a3 : a3.tmps.size = 69 := by rw [← hA]; simp only [size_put, hz_a2]
      have q3 : a3.eval (.tmp 3) = .pointer (some ⟨b3, 0, none⟩) := by rw [← hA]; exact (by simp [v3])
      have q5 : a3.eval (.tmp 5) = .pointer (some ⟨b, 0, none⟩) := by rw [← hA]; exact (by simp [v5])
      have q30 : a3.eval (.tmp 30) = .bool (!headEqB s h) := by rw [← hA]; exact (by simp [hz_a2])
      have hd_a3 : a3.defers = [] := by rw [← hA]; simp only [defers_put, hd_a2]
      clear hA
      have hBv := hB2.trans (hR.2.2.mono hB2.size)
      cases hhe : headEqB s h with
      | false =>
        rw [hhe] at q30
        refine wpIn_cond (t := true) q30 ?_
        refine wpIn_seq (region_p 1 ?_)
        intro K hK
        refine ListK.assign (i := 0) (v := .bool false) rfl (by simp) ?_
        refine ListK.done (hK _ _ (wpIn_ret ?_))
        exact bodyPost_ret (v := .bool false) (res1 Try.results31 (by simp [hz_a3])) (by simp only [defers_put, hd_a3]) ⟨by simp, hBv⟩
      | true =>
        rw [hhe] at q30
        refine wpIn_cond (t := false) q30 (wpIn_skip ?_)
        show fit_b.wpIn _ _ _ _ _ _
        have hmany : h.many = s.rd.length := by
          unfold headEqB at hhe
          simp at hhe
          omega
        have hval : (decide (faultS s = 0) && (true && m.all (okRec s))) = m.all (okRec s) := by rw [decide_eq_true hfa]; simp
        rw [hval]
        exact fit_b_any hfa hh hmany hgd (fun r hr => by simpa using List.any_eq_false.1 hno r hr) hR.1.1 (hR.1.2.more hR.2.2.size) hR.2.1 hBv hz_a3 hd_a3 q3 q5
    · skip
      refine wpIn_seq (wpIn_seq (region_K (KpR (fun w : World => (Whole w b3 29 #[.int .i64 s.width, .int .i64 s.step, .slice A s.rd.length c] ∧ IntsAt w W2.heap.size A s.rd) ∧ ArchAt w b M h m ∧ Below W2.heap.size W2 w) (fun _ => false)) (wideF_plain _) (by kernel_rfl) Try.mixed ?_))
      change AnyK _ _ _ _ 16 (Array.replicate 16 false) _ _
      have hR : (fun w : World => (Whole w b3 29 #[.int .i64 s.width, .int .i64 s.step, .slice A s.rd.length c] ∧ IntsAt w W2.heap.size A s.rd) ∧ ArchAt w b M h m ∧ Below W2.heap.size W2 w) W2.drew := hR0
      refine AnyK.move (i := 0) may_o (v := .int .i64 (readC [l])) (by simp [v6]) hR ?_
      refine AnyK.bin (i := 1) may_o (u := .int .i64 (readC [l])) (u' := .int .i64 (0)) (v := .bool false) (by simp [hz_a2]) (by simp) (fun w => neq27F hz w) hR ?_
      refine AnyK.move (i := 2) may_o (v := .bool false) (by simp [hz_a2]) hR ?_
      refine AnyK.load (i := 3) may_o (p := ⟨b3, 0, none⟩) (v := serV s A c) (by simp [v3]) (fun w hw => ld29 ⟨hw.1.1.cell 0, hw.1.1.cell 1, hw.1.1.cell 2⟩) hR (hw := (by exact wanted_g (e := 17) (b' := false) rfl (by simp [hz_a2]) rfl)) ?_
      refine AnyK.pick1 (i := 4) (by kernel_rfl) ?_
      refine StepK.call (i := 4) (f := 17) (vs := #[serV s A c]) rfl (enters_of Try.func17 (by kernel_rfl) rfl) rfl (by simp [hz_a2]) ((check_any s A c _ hlr (hR.1.2.more hR.2.2.size)).mono ?_) (hw := (by exact wanted_g (e := 17) (b' := false) rfl (by simp [hz_a2]) rfl))
      rintro _ V4 ⟨rfl, hv4⟩
      replace hR : (fun w : World => (Whole w b3 29 #[.int .i64 s.width, .int .i64 s.step, .slice A s.rd.length c] ∧ IntsAt w W2.heap.size A s.rd) ∧ ArchAt w b M h m ∧ Below W2.heap.size W2 w) V4 := hgr _ _ hR hv4
      refine ⟨_, rfl, fun _ _ => hR, ?_⟩
      refine AnyK.bin (i := 5) may_o (u := .int .i64 (faultS s)) (u' := .int .i64 (0)) (v := .bool true) (by simp [hz_a2]) (by simp) (fun w => neq27T hfa w) hR (hw := (by exact wanted_g (e := 17) (b' := false) rfl (by simp [hz_a2]) rfl)) ?_
      refine AnyK.pick (i := 6) may_o (b := false) (v := .bool true) (by simp [hz_a2]) (by simp [hz_a2]) hR ?_
      refine AnyK.move (i := 7) may_o (v := .bool true) (by simp [hz_a2]) hR ?_
      refine AnyK.passG (i := 8) may_o (e := 22) (b' := true) rfl (by simp [hz_a2]) rfl hR ?_
      refine AnyK.passG (i := 9) may_o (e := 22) (b' := true) rfl (by simp [hz_a2]) rfl hR ?_
      refine AnyK.passG (i := 10) may_o (e := 22) (b' := true) rfl (by simp [hz_a2]) rfl hR ?_
      refine AnyK.passG (i := 11) may_o (e := 22) (b' := true) rfl (by simp [hz_a2]) rfl hR ?_
      refine AnyK.passG (i := 12) may_o (e := 22) (b' := true) rfl (by simp [hz_a2]) rfl hR ?_
      refine AnyK.passG (i := 13) may_o (e := 22) (b' := true) rfl (by simp [hz_a2]) rfl hR ?_
      refine AnyK.passG (i := 14) may_o (e := 22) (b' := true) rfl (by simp [hz_a2]) rfl hR ?_
      refine AnyK.pick (i := 15) may_o (b := true) (v := .bool true) (by simp [hz_a2]) (by simp) hR ?_
      refine AnyK.done (by kernel_rfl) ?_
      refine wpIn_cond (t := true) (by simp [hz_a2]) ?_
      refine wpIn_seq (region_p 1 ?_)
      intro K hK
      refine ListK.assign (i := 0) (v := .bool false) rfl (by simp) ?_
      refine ListK.done (hK _ _ (wpIn_ret ?_))
      exact bodyPost_ret (v := .bool false) (res1 Try.results31 (by simp [hz_a2])) (by simp only [defers_put, hd_a2]) ⟨by rw [decide_eq_false hfa]; rfl, hB2.trans (hR.2.2.mono hB2.size)⟩
  · have hfc : fitsC l s = false := by simp [fitsC, readM, hz]
    rw [hfc]
    refine wpIn_seq (wpIn_seq (region_K (KpR (fun _ : World => True) (fun _ => false)) (wideF_plain _) (by kernel_rfl) Try.mixed ?_))
    change AnyK _ _ _ _ 16 (Array.replicate 16 false) _ _
    have hR : (fun _ : World => True) W2.drew := trivial
    refine AnyK.move (i := 0) may_o (v := .int .i64 (readC [l])) (by simp [v6]) hR ?_
    refine AnyK.bin (i := 1) may_o (u := .int .i64 (readC [l])) (u' := .int .i64 (0)) (v := .bool true) (by simp [hz_a2]) (by simp) (fun w => neq27T hz w) hR ?_
    refine AnyK.move (i := 2) may_o (v := .bool true) (by simp [hz_a2]) hR ?_
    refine AnyK.passG (i := 3) may_o (e := 17) (b' := true) rfl (by simp [hz_a2]) rfl hR ?_
    refine AnyK.passG (i := 4) may_o (e := 17) (b' := true) rfl (by simp [hz_a2]) rfl hR ?_
    refine AnyK.passG (i := 5) may_o (e := 17) (b' := true) rfl (by simp [hz_a2]) rfl hR ?_
    refine AnyK.pick (i := 6) may_o (b := true) (v := .bool true) (by simp [hz_a2]) (by simp) hR ?_
    refine AnyK.move (i := 7) may_o (v := .bool true) (by simp [hz_a2]) hR ?_
    refine AnyK.passG (i := 8) may_o (e := 22) (b' := true) rfl (by simp [hz_a2]) rfl hR ?_
    refine AnyK.passG (i := 9) may_o (e := 22) (b' := true) rfl (by simp [hz_a2]) rfl hR ?_
    refine AnyK.passG (i := 10) may_o (e := 22) (b' := true) rfl (by simp [hz_a2]) rfl hR ?_
    refine AnyK.passG (i := 11) may_o (e := 22) (b' := true) rfl (by simp [hz_a2]) rfl hR ?_
    refine AnyK.passG (i := 12) may_o (e := 22) (b' := true) rfl (by simp [hz_a2]) rfl hR ?_
    refine AnyK.passG (i := 13) may_o (e := 22) (b' := true) rfl (by simp [hz_a2]) rfl hR ?_
    refine AnyK.passG (i := 14) may_o (e := 22) (b' := true) rfl (by simp [hz_a2]) rfl hR ?_
    refine AnyK.pick (i := 15) may_o (b := true) (v := .bool true) (by simp [hz_a2]) (by simp) hR ?_
    refine AnyK.done (by kernel_rfl) ?_
    refine wpIn_cond (t := true) (by simp [hz_a2]) ?_
    refine wpIn_seq (region_p 1 ?_)
    intro K hK
    refine ListK.assign (i := 0) (v := .bool false) rfl (by simp) ?_
    refine ListK.done (hK _ _ (wpIn_ret ?_))
    exact bodyPost_ret (v := .bool false) (res1 Try.results31 (by simp [hz_a2])) (by simp only [defers_put, hd_a2]) ⟨rfl, hB2.trans (hbd.mono hB2.size)⟩
end
end Go.Proofs.YtmdlmmfbcnkanaaR
namespace Go.Proofs.YtmdlmmfbcnkanaaR

/-- The first head of good pieces; none: noughts. -/
def headG (gs : List (List UInt8)) : Head := match gs.find? (fun p => p.head? == some 72) with
  | some p => headOf p
  | none => ⟨0, 0, 0⟩
/-- Do two pieces contradict each other? -/
def confl (p q : List UInt8) : Bool := (p.head? == q.head? && !(p == q)) && (p.head? == some 72 || p.take 3 == q.take 3)
def pastG (h : Head) (p : List UInt8) : Bool := decide (0 < h.many) && outOf h p
def contraP (gs : List (List UInt8)) : Prop := ∃ (i : Nat) (p : List UInt8), gs[i]? = some p ∧ ((∃ (k : Nat) (q : List UInt8), k < i ∧ gs[k]? = some q ∧ confl p q = true) ∨ pastG (headG gs) p = true)
noncomputable instance contraDec (gs : List (List UInt8)) : Decidable (contraP gs) := Classical.propDecidable _
/-- What is so of a good record. -/
theorem good_parts {r : List UInt8} (h : isGood r = true) : ∃ a b c d e f g, r = [a, b, c, d, e, f, g] ∧ (a = 72 ∨ a = 82 ∨ a = 80) ∧ (isDig b = true ∧ isDig c = true ∧ isDig d = true ∧ isDig e = true ∧ isDig f = true ∧ isDig g = true) ∧ (a = 72 → headOk (num2 b c) (dig d) (dig e) = true) := by
  obtain ⟨a, b, c, d, e, f, g, rfl⟩ := len7 (good_len h)
  refine ⟨a, b, c, d, e, f, g, rfl, ?_⟩
  simp only [isGood, good7, Bool.and_eq_true, Bool.or_eq_true, beq_iff_eq, bne_iff_ne] at h
  obtain ⟨⟨⟨h1, h2⟩, h3⟩, h4⟩ := h
  obtain ⟨⟨⟨⟨⟨a1, a2⟩, a3⟩, a4⟩, a5⟩, a6⟩ := h2
  refine ⟨?_, ⟨a1, a2, a3, a4, a5, a6⟩, fun e => h4.resolve_left (fun hn => hn e)⟩
  rcases h1 with (h | h) | h
  · exact .inl h
  · exact .inr (.inl h)
  · exact .inr (.inr h)
theorem takeUp_func : ∀ (T m m' : List (List UInt8)), Func m → takeUp m T = some m' → Func (m ++ T)
  | [], m, m', hf, _ => by simpa using hf
  | g :: T, m, m', hf, h => by
    simp only [takeUp] at h
    cases hn : find m (nameOf g) with
    | some old =>
      rw [hn] at h
      simp only at h
      by_cases ho : old = g
      · rw [if_pos ho] at h
        have ih := takeUp_func T m m' hf h
        subst ho
        have hm := (find_mem hn).1
        refine ih.of_sub fun r hr => ?_
        simp only [List.mem_append, List.mem_cons] at hr ⊢
        rcases hr with h | rfl | h
        · exact .inl h
        · exact .inl hm
        · exact .inr h
      · rw [if_neg ho] at h; cases h
    | none =>
      rw [hn] at h
      simp only at h
      have hf2 : Func (m ++ [g]) := by
        have hno : ∀ r, r ∈ m → nameOf r ≠ nameOf g := by
          intro r hr e
          unfold find at hn
          rw [List.find?_eq_none] at hn
          have := hn r hr
          simp [e] at this
        intro a b ha hb e
        simp only [List.mem_append, List.mem_singleton] at ha hb
        rcases ha with ha | rfl <;> rcases hb with hb | rfl
        · exact hf a b ha hb e
        · exact (hno a ha e).elim
        · exact (hno b hb e.symm).elim
        · rfl
      have ih := takeUp_func T (m ++ [g]) m' hf2 h
      simpa using ih
theorem goods_good (l : List UInt8) : ∀ r, r ∈ goods l → isGood r = true := fun _ hr => (List.mem_filter.1 hr).2
end Go.Proofs.YtmdlmmfbcnkanaaR
namespace Go.Proofs.YtmdlmmfbcnkanaaR

def kindB (k : Nat) : UInt8 := if k = 0 then 72 else if k = 1 then 82 else 80
def isAt (k n : Nat) : List UInt8 → Bool
  | a :: b :: c :: _ => decide (a = kindB k) && decide (num2 b c = n)
  | _ => false
/-- Good pieces without doubles, in their order. -/
def joinR (gs : List (List UInt8)) : List (List UInt8) := (List.range 3).flatMap fun k => (List.range 100).flatMap fun n => (withoutL [] gs).filter (isAt k n)
theorem without_mem : ∀ (l out : List (List UInt8)) (r : List UInt8), r ∈ withoutL out l ↔ r ∈ out ∨ r ∈ l
  | [], out, r => by simp [withoutL]
  | p :: l, out, r => by
    rw [withoutL, without_mem l _ r]
    by_cases h : p ∈ out
    · rw [if_pos h, List.mem_cons]
      constructor
      · rintro (h1 | h1)
        · exact .inl h1
        · exact .inr (.inr h1)
      · rintro (h1 | rfl | h1)
        · exact .inl h1
        · exact .inl h
        · exact .inr h1
    · rw [if_neg h, List.mem_append, List.mem_singleton, List.mem_cons, or_assoc]
theorem without_nd : ∀ (l out : List (List UInt8)), out.Nodup → (withoutL out l).Nodup
  | [], out, h => h
  | p :: l, out, h => by
    rw [withoutL]
    refine without_nd l _ ?_
    by_cases hp : p ∈ out
    · rw [if_pos hp]
      exact h
    · rw [if_neg hp]
      refine List.nodup_append.2 ⟨h, by simp, fun a ha b hb => ?_⟩
      simp only [List.mem_singleton] at hb
      subst hb
      exact fun e => hp (e ▸ ha)
theorem kindIx_B {k : Nat} (h : k < 3) : kindIx (kindB k) = k := by
  rcases k with _ | _ | _ | k
  · rfl
  · rfl
  · rfl
  · omega
theorem isAt_rank {k n : Nat} {r : List UInt8} (hk : k < 3) (h : isAt k n r = true) : rankL r = (k : Int) * 10000 + n := by
  unfold isAt at h
  split at h
  · rename_i a b c t
    simp only [Bool.and_eq_true, decide_eq_true_eq] at h
    obtain ⟨rfl, rfl⟩ := h
    show kindIx (kindB k) * 10000 + (num2 b c : Int) = _
    rw [kindIx_B hk]
  · cases h
theorem num_99 {a b : UInt8} (ha : isDig a = true) (hb : isDig b = true) : num2 a b ≤ 99 := by
  have h1 := dig_of ha
  have h2 := dig_of hb
  unfold num2
  omega
/-- The rank of a good record says its name. -/
theorem rank_name {p q : List UInt8} (hp : isGood p = true) (hq : isGood q = true) (h : rankL p = rankL q) : nameOf p = nameOf q := by
  obtain ⟨a, b, c, d, e, f, g, rfl, h1, ⟨y1, y2, _⟩, _⟩ := good_parts hp
  obtain ⟨a', b', c', d', e', f', g', rfl, h1', ⟨z1, z2, _⟩, _⟩ := good_parts hq
  have n1 := num_99 y1 y2
  have n2 := num_99 z1 z2
  have h : kindIx a * 10000 + (num2 b c : Int) = kindIx a' * 10000 + (num2 b' c' : Int) := h
  have hk : ∀ x : UInt8, (x = 72 ∨ x = 82 ∨ x = 80) → kindIx x = 0 ∧ x = 72 ∨ kindIx x = 1 ∧ x = 82 ∨ kindIx x = 2 ∧ x = 80 := by
    rintro x (rfl | rfl | rfl)
    · exact .inl ⟨rfl, rfl⟩
    · exact .inr (.inl ⟨rfl, rfl⟩)
    · exact .inr (.inr ⟨rfl, rfl⟩)
  have e1 : a = a' ∧ num2 b c = num2 b' c' := by
    rcases hk a h1 with ⟨k1, rfl⟩ | ⟨k1, rfl⟩ | ⟨k1, rfl⟩ <;> rcases hk a' h1' with ⟨k2, rfl⟩ | ⟨k2, rfl⟩ | ⟨k2, rfl⟩ <;> simp only [k1, k2] at h
    · exact ⟨rfl, by omega⟩
    · omega
    · omega
    · omega
    · exact ⟨rfl, by omega⟩
    · omega
    · omega
    · omega
    · exact ⟨rfl, by omega⟩
  simp only [nameOf]
  rw [e1.1, e1.2]
theorem join_mem {gs : List (List UInt8)} (hg : ∀ r, r ∈ gs → isGood r = true) (r : List UInt8) : r ∈ joinR gs ↔ r ∈ gs := by
  unfold joinR
  simp only [List.mem_flatMap, List.mem_range, List.mem_filter, without_mem, List.not_mem_nil, false_or]
  constructor
  · rintro ⟨k, _, n, _, h, _⟩
    exact h
  · intro h
    obtain ⟨a, b, c, d, e, f, g, rfl, h1, ⟨y1, y2, _⟩, _⟩ := good_parts (hg r h)
    have n1 := num_99 y1 y2
    rcases h1 with rfl | rfl | rfl
    · exact ⟨0, by omega, num2 b c, by omega, h, by simp [isAt, kindB]⟩
    · exact ⟨1, by omega, num2 b c, by omega, h, by simp [isAt, kindB]⟩
    · exact ⟨2, by omega, num2 b c, by omega, h, by simp [isAt, kindB]⟩
theorem join_sorted {gs : List (List UInt8)} (hg : ∀ r, r ∈ gs → isGood r = true) (hf : Func gs) : (joinR gs).Pairwise (fun x y => rankL x < rankL y) := by
  unfold joinR
  have hin : ∀ k n r, r ∈ (withoutL [] gs).filter (isAt k n) → r ∈ gs ∧ isAt k n r = true := by
    intro k n r h
    obtain ⟨h1, h2⟩ := List.mem_filter.1 h
    exact ⟨by simpa using (without_mem gs [] r).1 h1, h2⟩
  rw [List.pairwise_flatMap]
  refine ⟨fun k hk => ?_, ?_⟩
  · have hk := List.mem_range.1 hk
    rw [List.pairwise_flatMap]
    refine ⟨fun n hn => ?_, ?_⟩
    · refine List.Pairwise.imp_of_mem ?_ ((without_nd gs [] List.nodup_nil).filter _)
      intro a b ha hb hne
      obtain ⟨a1, a2⟩ := hin k n a ha
      obtain ⟨b1, b2⟩ := hin k n b hb
      exact (hne (hf a b a1 b1 (rank_name (hg a a1) (hg b b1) (by rw [isAt_rank hk a2, isAt_rank hk b2])))).elim
    · refine List.Pairwise.imp ?_ List.pairwise_lt_range
      intro n n' hnn x hx y hy
      rw [isAt_rank hk (hin k n x hx).2, isAt_rank hk (hin k n' y hy).2]
      omega
  · refine List.Pairwise.imp_of_mem ?_ List.pairwise_lt_range
    intro k k' hk hk' hkk x hx y hy
    obtain ⟨n, hn, hx⟩ := List.mem_flatMap.1 hx
    obtain ⟨n', hn', hy⟩ := List.mem_flatMap.1 hy
    have := List.mem_range.1 hn
    have := List.mem_range.1 hn'
    rw [isAt_rank (List.mem_range.1 hk) (hin k n x hx).2, isAt_rank (List.mem_range.1 hk') (hin k' n' y hy).2]
    omega
theorem sorted_eq : ∀ {A B : List (List UInt8)}, A.Pairwise (fun x y => rankL x < rankL y) → B.Pairwise (fun x y => rankL x < rankL y) → (∀ r, r ∈ A ↔ r ∈ B) → A = B
  | [], [], _, _, _ => rfl
  | [], b :: B, _, _, h => by have := (h b).2 List.mem_cons_self; cases this
  | a :: A, [], _, _, h => by have := (h a).1 List.mem_cons_self; cases this
  | a :: A, b :: B, hA, hB, h => by
    obtain ⟨a1, a2⟩ := List.pairwise_cons.1 hA
    obtain ⟨b1, b2⟩ := List.pairwise_cons.1 hB
    have hab : a = b := by
      rcases List.mem_cons.1 ((h a).1 List.mem_cons_self) with e | e
      · exact e
      · rcases List.mem_cons.1 ((h b).2 List.mem_cons_self) with e' | e'
        · exact e'.symm
        · have := a1 b e'
          have := b1 a e
          omega
    subst hab
    have : A = B := by
      refine sorted_eq a2 b2 fun r => ⟨fun hr => ?_, fun hr => ?_⟩
      · rcases List.mem_cons.1 ((h r).1 (List.mem_cons_of_mem _ hr)) with rfl | e
        · have := a1 r hr
          omega
        · exact e
      · rcases List.mem_cons.1 ((h r).2 (List.mem_cons_of_mem _ hr)) with rfl | e
        · have := b1 r hr
          omega
        · exact e
    rw [this]
theorem takeUp_nd : ∀ (T m m' : List (List UInt8)), m.Nodup → takeUp m T = some m' → m'.Nodup
  | [], m, m', hm, h => by
    simp only [takeUp, Option.some.injEq] at h
    rw [← h]
    exact hm
  | g :: T, m, m', hm, h => by
    simp only [takeUp] at h
    cases hn : find m (nameOf g) with
    | some old =>
      rw [hn] at h
      simp only at h
      split at h
      · exact takeUp_nd T m m' hm h
      · cases h
    | none =>
      rw [hn] at h
      simp only at h
      refine takeUp_nd T (m ++ [g]) m' (List.nodup_append.2 ⟨hm, by simp, fun a ha b hb => ?_⟩) h
      simp only [List.mem_singleton] at hb
      subst hb
      rintro rfl
      unfold find at hn
      rw [List.find?_eq_none] at hn
      have := hn a ha
      simp at this
theorem nd_inj {l : List (List UInt8)} (h : l.Nodup) {i j : Nat} (hi : i < l.length) (hj : j < l.length) (e : l[i] = l[j]) : i = j := by
  have hp := List.pairwise_iff_getElem.1 h
  rcases Nat.lt_trichotomy i j with h1 | h1 | h1
  · exact (hp i j hi hj h1 e).elim
  · exact h1
  · exact (hp j i hj hi h1 e.symm).elim
/-- What has come out of a map, and was sorted, is what good pieces are together. -/
theorem sort_is {gs m : List (List UInt8)} (hg : ∀ r, r ∈ gs → isGood r = true) (ht : takeUp [] gs = some m) {D : List Nat} (hd : D.Nodup) (hlt : ∀ i, i ∈ D → i < m.length) (hall : ∀ i, i < m.length → i ∈ D) {l' : List K7} (hp : l'.Perm (D.map fun j => k7 (m.getD j []))) (hs : l'.Pairwise (fun x y => rankL (un7 x) ≤ rankL (un7 y))) : l'.map un7 = joinR gs := by
  have hf : Func gs := by simpa using takeUp_func gs [] m (fun a b ha => by cases ha) ht
  obtain ⟨m', h1, h2⟩ := takeUp_ok gs [] (by simpa using hf)
  rw [ht] at h1
  cases h1
  simp only [List.nil_append] at h2
  have hmd := takeUp_nd gs [] m List.nodup_nil ht
  have hmg : ∀ i (h : i < m.length), isGood m[i] = true := fun i h => hg _ ((h2 _).1 (List.getElem_mem h))
  have hun : ∀ i, i < m.length → un7 (k7 (m.getD i [])) = m.getD i [] ∧ ∃ h : i < m.length, m.getD i [] = m[i] := by
    intro i hi
    have e : m.getD i [] = m[i] := by simp [List.getD, List.getElem?_eq_getElem hi]
    refine ⟨?_, hi, e⟩
    rw [e]
    exact un7_k7 (good_len (hmg i hi))
  have hne : (D.map fun j => k7 (m.getD j [])).Pairwise (fun x y => rankL (un7 x) ≠ rankL (un7 y)) := by
    rw [List.pairwise_map]
    refine List.Pairwise.imp_of_mem ?_ hd
    intro i j hi hj hij he
    obtain ⟨e1, i1, e2⟩ := hun i (hlt i hi)
    obtain ⟨e3, j1, e4⟩ := hun j (hlt j hj)
    rw [e1, e3, e2, e4] at he
    have hnm := rank_name (hmg i i1) (hmg j j1) he
    have heq := hf _ _ ((h2 _).1 (List.getElem_mem i1)) ((h2 _).1 (List.getElem_mem j1)) hnm
    exact hij (nd_inj hmd i1 j1 heq)
  have hne2 : l'.Pairwise (fun x y => rankL (un7 x) ≠ rankL (un7 y)) := (List.Perm.pairwise_iff (fun h e => h e.symm) hp).2 hne
  have hst : l'.Pairwise (fun x y => rankL (un7 x) < rankL (un7 y)) := by
    refine List.Pairwise.imp (R := fun x y => rankL (un7 x) ≤ rankL (un7 y) ∧ rankL (un7 x) ≠ rankL (un7 y)) ?_ (hs.and hne2)
    intro x y h
    omega
  refine sorted_eq (by rw [List.pairwise_map]; exact hst) (join_sorted hg hf) fun r => ?_
  rw [join_mem hg, ← h2, List.mem_map]
  constructor
  · rintro ⟨x, hx, rfl⟩
    obtain ⟨i, hi, rfl⟩ := List.mem_map.1 (hp.mem_iff.1 hx)
    obtain ⟨e1, i1, e2⟩ := hun i (hlt i hi)
    rw [e1, e2]
    exact List.getElem_mem i1
  · intro hr
    obtain ⟨i, hi, rfl⟩ := List.getElem_of_mem hr
    obtain ⟨e1, i1, e2⟩ := hun i hi
    exact ⟨k7 (m.getD i []), hp.mem_iff.2 (List.mem_map.2 ⟨i, hall i hi, rfl⟩), by rw [e1, e2]⟩
end Go.Proofs.YtmdlmmfbcnkanaaR
namespace Go.Proofs.YtmdlmmfbcnkanaaR
open Go.RowKit Go.Shelf
/-- What Join hands back. -/
def JoinP (W : World) (L : List (List UInt8)) : Ending → World → Prop := fun e w' => Below W.heap.size W w' ∧ ∃ v, e = .returned (.tuple #[v, .int .i64 (readC L)]) ∧ (readC L ≠ 0 → v = .slice none 0 0) ∧ (readC L = 0 → OB W v (linesL (joinR (L.flatMap goods))) w')
theorem bs124_2 (A A' : Option Addr) (n c n' c' : Nat) (w : World) : (Instr.buildSlice 124 2 #[(0, .slice A n c), (1, .slice A' n' c')]).run Try.prog w = .ok (.slice (some ⟨w.heap.size, 0, none⟩) 2 2) (w.alloc (.cells #[.slice A n c, .slice A' n' c'] 31)) := by go_simp
theorem lists_two {W : World} {A A' : Option Addr} {l l' : List UInt8} {c c' : Nat} (hc : l.length ≤ c) (hl : l.length ≤ 100000) (hs : BytesAt W W.heap.size A l) (hc' : l'.length ≤ c') (hl' : l'.length ≤ 100000) (hs' : BytesAt W W.heap.size A' l') :
    ListsAt (W.alloc (.cells #[.slice A l.length c, .slice A' l'.length c'] 31)) (W.alloc (.cells #[.slice A l.length c, .slice A' l'.length c'] 31)).heap.size (some ⟨W.heap.size, 0, none⟩) [l, l'] := by
  intro k x hx
  match k, hx with
  | 0, hx =>
    simp at hx
    subst hx
    refine ⟨_, _, rfl, by simp, A, c, (Whole.new W 31 #[.slice A l.length c, .slice A' l'.length c']).cell 0, hc, hl, ?_⟩
    exact (hs.below ((Below.refl W.heap.size W).alloc (Nat.le_refl _) _) (Nat.le_refl _)).more (by simp)
  | 1, hx =>
    simp at hx
    subst hx
    refine ⟨_, _, rfl, by simp, A', c', (Whole.new W 31 #[.slice A l.length c, .slice A' l'.length c']).cell 1, hc', hl', ?_⟩
    exact (hs'.below ((Below.refl W.heap.size W).alloc (Nat.le_refl _) _) (Nat.le_refl _)).more (by simp)
theorem bs108_1 (c0 c1 c2 c3 c4 c5 c6 : UInt8) (w : World) : (Instr.buildSlice 108 1 #[(0, rV c0 c1 c2 c3 c4 c5 c6)]).run Try.prog w = .ok (.slice (some ⟨w.heap.size, 0, none⟩) 1 1) (w.alloc (.cells (r7 c0 c1 c2 c3 c4 c5 c6) 83)) := by go_simp
theorem al116 (w : World) : (Instr.alloc 116 true (.tuple #[])).run Try.prog w = .ok (.pointer (some ⟨w.heap.size, 0, none⟩)) (w.alloc (.cells #[.nilFunc] 116)) := by go_simp
theorem st116 {w : World} {p : Addr} {v : Value} {f : Fn} (h : w.cell? p = some v) (hf : w.frozen? p = false) : (Instr.storeAt 116 (.pointer (some p)) (.func f #[] #[])).run Try.prog w = .ok () (w.setCell p (.func f #[] #[])) := by
  go_simp
theorem takeUp_len : ∀ (T m m' : List (List UInt8)), takeUp m T = some m' → m'.length ≤ m.length + T.length
  | [], m, m', h => by
    simp only [takeUp, Option.some.injEq] at h
    rw [← h]
    simp
  | g :: T, m, m', h => by
    simp only [takeUp] at h
    cases hn : find m (nameOf g) with
    | some old =>
      rw [hn] at h
      simp only at h
      split at h
      · have := takeUp_len T m m' h
        simp only [List.length_cons]
        omega
      · cases h
    | none =>
      rw [hn] at h
      simp only at h
      have := takeUp_len T (m ++ [g]) m' h
      simp only [List.length_append, List.length_cons, List.length_nil] at this ⊢
      omega
theorem pieces_sum : ∀ (l acc : List UInt8), ((pieces acc l).map fun p => p.length + 1).sum ≤ acc.length + l.length
  | [], acc => by simp [pieces]
  | b :: l, acc => by
    rw [pieces]
    split
    · have := pieces_sum l []
      simp only [List.map_cons, List.sum_cons, List.length_cons, List.length_nil] at this ⊢
      omega
    · have := pieces_sum l (acc ++ [b])
      simp only [List.length_append, List.length_cons, List.length_nil] at this ⊢
      omega
theorem good_sum : ∀ ps : List (List UInt8), 8 * (ps.filter isGood).length ≤ (ps.map fun p => p.length + 1).sum
  | [] => by simp
  | p :: ps => by
    have ih := good_sum ps
    rw [List.map_cons, List.sum_cons]
    by_cases hg : isGood p = true
    · rw [List.filter_cons_of_pos hg, List.length_cons, good_len hg]
      omega
    · rw [List.filter_cons_of_neg hg]
      omega
theorem goods_8 (l : List UInt8) : 8 * (goods l).length ≤ l.length := by
  have h1 := good_sum (pieces [] l)
  have h2 := pieces_sum l []
  unfold goods
  simp only [List.length_nil] at h2
  omega
noncomputable def opsJn0 : Array Oper := (Try.f39.body.bind (regionOf 0)).getD #[]
noncomputable def opsJn1 : Array Oper := (Try.f39.body.bind (regionOf 1)).getD #[]
noncomputable def opsJn2 : Array Oper := (Try.f39.body.bind (regionOf 2)).getD #[]
noncomputable def opsJn3 : Array Oper := (Try.f39.body.bind (regionOf 3)).getD #[]
noncomputable def opsJn4 : Array Oper := (Try.f39.body.bind (regionOf 4)).getD #[]
noncomputable def opsJn5 : Array Oper := (Try.f39.body.bind (regionOf 5)).getD #[]
noncomputable def opsJn6 : Array Oper := (Try.f39.body.bind (regionOf 6)).getD #[]
noncomputable def opsJn7 : Array Oper := (Try.f39.body.bind (regionOf 7)).getD #[]
noncomputable def opsJn8 : Array Oper := (Try.f39.body.bind (regionOf 8)).getD #[]
noncomputable def opsJn9 : Array Oper := (Try.f39.body.bind (regionOf 9)).getD #[]
noncomputable def opsJn10 : Array Oper := (Try.f39.body.bind (regionOf 10)).getD #[]
noncomputable def opsJn11 : Array Oper := (Try.f39.body.bind (regionOf 11)).getD #[]
noncomputable def jn_l : Code := (.seq (.region 6 opsJn6 false) (.seq (.cond (.tmp 28) .skip (.exit 0)) (.block 1 (.seq (.region 7 opsJn7 false) (.region 8 opsJn8 false)))))
noncomputable def jn_e : Code := (.seq (.region 9 opsJn9 false) (.seq (.region 10 opsJn10 false) (.seq (.region 11 opsJn11 false) .ret)))
noncomputable def jn_b : Code := (.seq (.seq (.region 5 opsJn5 false) (.block 0 (.loop jn_l))) jn_e)
noncomputable def code39 : Code := (.seq (.region 0 opsJn0 false) (.seq (.region 1 opsJn1 false) (.seq (.seq (.region 2 opsJn2 false) (.cond (.tmp 20) (.seq (.region 3 opsJn3 false) .ret) .skip)) (.seq (.region 4 opsJn4 false) jn_b))))
theorem body39 : Try.f39.body = some code39 := by kernel_rfl
section
variable {m : List (List UInt8)} {W0 W2 : World} {ba M B r0 : Nat} {h : Head} {D : List Nat}
set_option maxHeartbeats 400000 in
theorem jn_l_any {v : Value} {l : List K7} {a : Act} {W : World} {Q : Exit → Act → World → Prop} (hgd : ∀ r, r ∈ m → isGood r = true) (hM : M < W2.heap.size) (hr0 : W2.heap.size ≤ r0) (hrB : r0 < B) (or : OR B W2 v l W) (hll : l.length = D.length) (hml : m.length ≤ 90000) (it : IterAt nameV W r0 M (recMap m) D)
    (hsz : a.tmps.size = 40) (hdf : a.defers = []) (t8 : a.eval (.tmp 8) = v) (t26 : a.eval (.tmp 26) = ptr r0)
    (hN : ∀ a' W' v' j r, m[j]? = some r → D.length < m.length → a'.tmps.size = 40 → a'.defers = [] → a'.eval (.tmp 8) = v' → a'.eval (.tmp 26) = ptr r0 → OR B W2 v' (l ++ [k7 r]) W' → IterAt nameV W' r0 M (recMap m) (D ++ [j]) → Q .normal a' W')
    (hX : ∀ a', (∀ j, j < m.length → j ∈ D) → a'.tmps.size = 40 → a'.defers = [] → a'.eval (.tmp 8) = v → Q (.exit 0) a' W) :
    jn_l.wpIn Fence.wide 5 Try.prog Q a W := by
  unfold jn_l
  rcases it.next (by omega) 0 with ⟨hall, hnx⟩ | ⟨j, k, vv, W1, hjk, hlt, hnx, it1, he1⟩
  · skip
    refine wpIn_seq (region_p 2 ?_)
    intro K hK
    refine ListK.next (i := 0) (u := ptr r0) rfl (by simp [t26]) hnx ?_
    refine ListK.extract (i := 1) (u := .tuple #[.bool false]) (v := .bool false) rfl (by simp [hsz]) (ex0s _ _) ?_
    refine ListK.done (hK _ _ ?_)
    clear hK K
    refine wpIn_seq (wpIn_cond (t := false) (by simp [hsz]) (wpIn_exit ?_))
    exact hX _ (fun j hj => hall j (by simpa [recMap] using hj)) (by simp only [size_put, hsz]) (by simp only [defers_put, hdf]) (by simp [t8])
  · have or1 := or.else he1 hrB hr0
    obtain ⟨r, hr, hkr, hvr⟩ : ∃ r, m[j]? = some r ∧ k = nameOf r ∧ vv = .agg (recC r) := by
      simp only [recMap, List.getElem?_map, Option.map_eq_some_iff, Prod.mk.injEq] at hjk
      obtain ⟨r, h1, h2, h3⟩ := hjk
      exact ⟨r, h1, h2.symm, h3.symm⟩
    subst hkr
    have hent := it1.entry hjk
    have hlt' : D.length < m.length := by simpa [recMap] using hlt
    have hrm := List.mem_of_getElem? hr
    obtain ⟨c0, c1, c2, c3, c4, c5, c6, hre⟩ := len7 (good_seven (hgd r hrm))
    have hv7 : vv = rV c0 c1 c2 c3 c4 c5 c6 := by rw [hvr, hre]; rfl
    subst hv7
    refine wpIn_seq (region_p 2 ?_)
    intro K hK
    refine ListK.next (i := 0) (u := ptr r0) rfl (by simp [t26]) hnx ?_
    refine ListK.extract (i := 1) (u := .tuple #[.bool true, nameV (nameOf r), rV c0 c1 c2 c3 c4 c5 c6]) (v := .bool true) rfl (by simp [hsz]) (ex0t _ _ _ _) ?_
    refine ListK.done (hK _ _ ?_)
    clear hK K
    refine wpIn_seq (wpIn_cond (t := true) (by simp [hsz]) (wpIn_skip ?_))
    generalize hA : Act.put _ _ _ = a1
    have hz_a1 : a1.tmps.size = 40 := by rw [← hA]; simp only [size_put, hsz]
    have u8 : a1.eval (.tmp 8) = v := by rw [← hA]; exact (by simp [t8])
    have u26 : a1.eval (.tmp 26) = .pointer (some ⟨r0, 0, none⟩) := by rw [← hA]; exact (by simp [t26])
    have hd_a1 : a1.defers = [] := by rw [← hA]; simp only [defers_put, hdf]
    clear hA
    refine wpIn_block ?_
    have hbA : Below W1.heap.size W1 (W1.alloc (.cells z7 83)) := (Below.refl _ W1).alloc (Nat.le_refl _) _
    have w8 := Whole.new W1 83 z7
    refine wpIn_seq (region_p 4 ?_)
    intro K hK
    refine ListK.entry (i := 0) (u := ptr r0) rfl (by simp [u26]) hent ?_
    refine ListK.extract (i := 1) (u := .tuple #[nameV (nameOf r), rV c0 c1 c2 c3 c4 c5 c6]) (v := rV c0 c1 c2 c3 c4 c5 c6) rfl (by simp [hz_a1]) (ex1 _ _ _) ?_
    refine ListK.alloc (i := 2) rfl (al83 W1) ?_
    refine ListK.store (i := 3) (u := .pointer (some ⟨W1.heap.size, 0, none⟩)) (u' := rV c0 c1 c2 c3 c4 c5 c6) rfl (by simp [hz_a1]) (by simp [hz_a1]) (st83 w8) ?_
    refine ListK.done (hK _ _ ?_)
    clear hK K
    have w8d := put7_whole w8 (u8V c0) (u8V c1) (u8V c2) (u8V c3) (u8V c4) (u8V c5) (u8V c6)
    have heD := put7_else (w := W1.alloc (.cells z7 83)) (b := W1.heap.size) (u8V c0) (u8V c1) (u8V c2) (u8V c3) (u8V c4) (u8V c5) (u8V c6)
    have hszA := hbA.size
    have hb2 := hbA.trans (heD.below (B := W1.heap.size) (by omega) (fun k hk e => by omega))
    generalize hq8 : W1.heap.size = b8 at w8d hb2 ⊢
    generalize put7 (W1.alloc (.cells z7 83)) b8 (u8V c0) (u8V c1) (u8V c2) (u8V c3) (u8V c4) (u8V c5) (u8V c6) = W3 at *
    have hb1B := or1.b1
    have or3 := or1.below (by rw [hq8]; exact hb2)
    have hb23 : Below W3.heap.size W3 (W3.alloc (.cells (r7 c0 c1 c2 c3 c4 c5 c6) 83)) := (Below.refl _ _).alloc (Nat.le_refl _) _
    have or4 := or3.below hb23
    obtain ⟨v4, W4, hap4, or5, hbB⟩ := app108_run (k := k7 [c0, c1, c2, c3, c4, c5, c6]) (b := W3.heap.size) (c := 1) (ty := 108) or4 (Whole.new W3 83 (r7 c0 c1 c2 c3 c4 c5 c6)) (by omega)
    generalize hA : Act.put _ _ _ = a2
    have hz_a2 : a2.tmps.size = 40 := by rw [← hA]; simp only [size_put, hz_a1]
    have v8 : a2.eval (.tmp 8) = v := by rw [← hA]; exact (by simp [u8])
    have v10 : a2.eval (.tmp 10) = .pointer (some ⟨b8, 0, none⟩) := by rw [← hA]; exact (by simp [hz_a1])
    have v26 : a2.eval (.tmp 26) = .pointer (some ⟨r0, 0, none⟩) := by rw [← hA]; exact (by simp [u26])
    have hd_a2 : a2.defers = [] := by rw [← hA]; simp only [defers_put, hd_a1]
    clear hA
    refine region_p 5 ?_
    intro K hK
    refine ListK.move (i := 0) (v := v) rfl (by simp [v8]) ?_
    refine ListK.load (i := 1) (p := ⟨b8, 0, none⟩) (v := rV c0 c1 c2 c3 c4 c5 c6) rfl (by simp [v10]) (ld83 w8d) ?_
    refine ListK.bsl (i := 2) (ps := #[(0, rV c0 c1 c2 c3 c4 c5 c6)]) (v := .slice (some ⟨W3.heap.size, 0, none⟩) 1 1) rfl (by simp [hz_a2]) (bs108_1 _ _ _ _ _ _ _ W3) ?_
    refine ListK.app108 (i := 3) rfl (by simp [hz_a2]) (by simp [hz_a2]) hap4 ?_
    refine ListK.assign (i := 4) (v := v4) rfl (by simp [hz_a2]) ?_
    refine ListK.done (hK _ _ ?_)
    clear hK K
    have hszW3 := hb2.size
    have it3 := it1.keep (hb2.block M (by omega)) (hb2.block r0 (by omega))
    have it4 := it3.keep (hb23.block M (by omega)) (hb23.block r0 (by omega))
    have it5 := it4.keep (hbB.block M (by omega)) (hbB.block r0 (by omega))
    subst hre
    exact hN _ W4 v4 j _ hr hlt' (by simp only [size_put, hz_a2]) (by simp only [defers_put, hd_a2]) (by simp [hz_a2]) (by simp [v26]) or5 it5
set_option maxHeartbeats 400000 in
theorem jn_e_any {L : List (List UInt8)} {v : Value} {l : List K7} {a : Act} {W W3 : World} (hsrt : ∀ l' : List K7, l'.Perm l → l'.Pairwise (fun x y => rankL (un7 x) ≤ rankL (un7 y)) → l'.map un7 = joinR (L.flatMap goods)) (hz0 : readC L = 0) (or : OR B W2 v l W3) (hl : 0 < l.length) (hl2 : l.length ≤ 2000)
    (hsz : a.tmps.size = 40) (hd_a : a.defers = []) (t8 : a.eval (.tmp 8) = v) (hB : Below W.heap.size W W3) (hWB : W.heap.size ≤ B) :
    jn_e.wpIn Fence.wide 5 Try.prog (bodyPost Try.prog Try.f39 (JoinP W L)) a W3 := by
  obtain ⟨g, c, rfl, hgB, hgl, hH⟩ := or.row hl
  unfold jn_e
  have w11 := Whole.new W3 116 #[.nilFunc]
  have hbA : Below W3.heap.size W3 (W3.alloc (.cells #[.nilFunc] 116)) := (Below.refl _ _).alloc (Nat.le_refl _) _
  have hbS : Below W3.heap.size W3 ((W3.alloc (.cells #[.nilFunc] 116)).setCell ⟨W3.heap.size, 0, none⟩ (.func (.func 68) #[] #[])) := hbA.setCell (p := ⟨W3.heap.size, 0, none⟩) (Nat.le_refl _) _
  have w11s := (w11.set 0 (.func (.func 68) #[] #[])).cell 0
  refine wpIn_seq (region_p 2 ?_)
  intro K hK
  refine ListK.alloc (i := 0) rfl (al116 W3) ?_
  refine ListK.store (i := 1) (u := .pointer (some ⟨W3.heap.size, 0, none⟩)) (u' := .func (.func 68) #[] #[]) rfl (by simp [hsz]) (by simp) (st116 (w11.cell 0) (w11.frozen 0)) ?_
  refine ListK.done (hK _ _ ?_)
  clear hK K
  have hszS := hbS.size
  have hHS := holds_below hH hbS hgl
  generalize hq11 : W3.heap.size = bo at *
  generalize (W3.alloc (.cells #[.nilFunc] 116)).setCell ⟨bo, 0, none⟩ (.func (.func 68) #[] #[]) = W4 at *
  generalize hA : Act.put _ _ _ = a1
  have hz_a1 : a1.tmps.size = 40 := by rw [← hA]; simp only [size_put, hsz]
  have u8 : a1.eval (.tmp 8) = .slice (some ⟨g, 0, none⟩) l.length c := by rw [← hA]; exact (by simp [t8])
  have u11 : a1.eval (.tmp 11) = .pointer (some ⟨bo, 0, none⟩) := by rw [← hA]; exact (by simp [hsz])
  have hd_a1 : a1.defers = [] := by rw [← hA]; simp only [defers_put, hd_a]
  clear hA
  refine wpIn_seq (region_p 3 ?_)
  intro K hK
  refine ListK.move (i := 0) (v := .slice (some ⟨g, 0, none⟩) l.length c) rfl (by simp [u8]) ?_
  refine ListK.mkF (i := 1) (vs := #[.pointer (some ⟨bo, 0, none⟩)]) rfl (by simp [u11]) ?_
  refine ListK.call (i := 2) (vs := #[.slice (some ⟨g, 0, none⟩) l.length c, .func (.func 73) #[] #[.pointer (some ⟨bo, 0, none⟩)]]) rfl (enters_of Try.func72 (by kernel_rfl) rfl) (by simp [hz_a1]) ((sort_any (l := l) (g := g) (c := c) (bo := bo) hHS (by omega) (by omega) w11s (by omega)).mono ?_)
  rintro _ W5 ⟨rfl, l2, hp2, hs2, hrec, hb5⟩
  refine ⟨_, rfl, ?_⟩
  refine ListK.done (hK _ _ ?_)
  clear hK K
  have hT := hsrt l2 hp2 hs2
  have hlen : l.length = (l2.map un7).length := by rw [List.length_map, hp2.length_eq]
  have hB4 := hB.trans (hbS.mono (by have := hB.size; omega))
  have hB5 := hB4.trans (hb5.mono (by omega))
  generalize hA : Act.put _ _ _ = a2
  have hz_a2 : a2.tmps.size = 40 := by rw [← hA]; simp only [size_put, hz_a1]
  have v8 : a2.eval (.tmp 8) = .slice (some ⟨g, 0, none⟩) l.length c := by rw [← hA]; exact (by simp [u8])
  have hd_a2 : a2.defers = [] := by rw [← hA]; simp only [defers_put, hd_a1]
  clear hA
  rw [hlen] at v8
  refine wpIn_seq (region_p 4 ?_)
  intro K hK
  refine ListK.move (i := 0) (v := .slice (some ⟨g, 0, none⟩) (l2.map un7).length c) rfl (by simp [v8]) ?_
  refine ListK.call (i := 1) (vs := #[.slice (some ⟨g, 0, none⟩) (l2.map un7).length c]) rfl (enters_of Try.func49 (by kernel_rfl) rfl) (by simp [hz_a2]) ((lines_any (some ⟨g, 0, none⟩) (l2.map un7) c W5 (by omega) hrec).mono ?_)
  rintro _ W6 ⟨v6, rfl, ob6⟩
  refine ⟨_, rfl, ?_⟩
  refine ListK.assign (i := 2) (v := v6) rfl (by simp [hz_a2]) ?_
  refine ListK.assign (i := 3) (v := .int .i64 0) rfl (by simp) ?_
  refine ListK.done (hK _ _ (wpIn_ret ?_))
  rw [hT] at ob6
  exact bodyPost_ret (v := .tuple #[v6, .int .i64 0]) (res2n Try.results39 (by simp [hz_a2]) (by simp [hz_a2])) (by simp only [defers_put, hd_a2]) ⟨hB5.trans (ob6.low.mono hB5.size), v6, by rw [hz0], fun h => absurd hz0 h, fun _ => ob6.base hB5⟩
set_option maxHeartbeats 400000 in
theorem jn_b_any {L : List (List UInt8)} {a : Act} {W : World} (hgd : ∀ r, r ∈ m → isGood r = true) (hz0 : readC L = 0) (ht : takeUp [] (L.flatMap goods) = some m) (hml : m.length ≤ 1000) (hm0 : 0 < m.length) (har : ArchAt W2 ba M h m)
    (hsz : a.tmps.size = 40) (hd_a : a.defers = []) (t6 : a.eval (.tmp 6) = ptr ba) (t8 : a.eval (.tmp 8) = .slice none 0 0) (hB : Below W.heap.size W W2) :
    jn_b.wpIn Fence.wide 5 Try.prog (bodyPost Try.prog Try.f39 (JoinP W L)) a W2 := by
  have hltM := har.lt.2
  have hszW := hB.size
  obtain ⟨o, hrun, it⟩ := IterAt.new kl97 har.map
  unfold jn_b
  refine wpIn_seq (wpIn_seq (region_p 5 ?_))
  intro K hK
  refine ListK.move (i := 0) (v := .pointer (some ⟨ba, 0, none⟩)) rfl (by simp [t6]) ?_
  refine ListK.nilCheck (i := 1) (p := ⟨ba, 0, none⟩) rfl (by simp [hsz]) ?_
  refine ListK.field (i := 2) (u := .pointer (some ⟨ba, 0, none⟩)) (v := .pointer (some ⟨ba, 3, none⟩)) rfl (by simp [hsz]) (fa95_1 _) ?_
  refine ListK.load (i := 3) (p := ⟨ba, 3, none⟩) (v := .map (some M)) rfl (by simp [hsz]) (ld93m (har.whole.cell 3)) ?_
  refine ListK.range (i := 4) (u := .map (some M)) rfl (by simp [hsz]) hrun ?_
  refine ListK.done (hK _ _ ?_)
  clear hK K
  have hb1 : Below W2.heap.size W2 (W2.alloc o) := (Below.refl _ W2).alloc (Nat.le_refl _) _
  have or0 : OR (W2.alloc o).heap.size W2 (.slice none 0 0) [] (W2.alloc o) := OR.nil hb1 hb1.size (Nat.le_refl _)
  have hsz2 : (W2.alloc o).heap.size = W2.heap.size + 1 := by simp
  generalize hA : Act.put _ _ _ = a1
  have hz_a1 : a1.tmps.size = 40 := by rw [← hA]; simp only [size_put, hsz]
  have u8 : a1.eval (.tmp 8) = .slice none 0 0 := by rw [← hA]; exact (by simp [t8])
  have u26 : a1.eval (.tmp 26) = .pointer (some ⟨W2.heap.size, 0, none⟩) := by rw [← hA]; exact (by simp [hsz])
  have hd_a1 : a1.defers = [] := by rw [← hA]; simp only [defers_put, hd_a]
  clear hA
  refine wpIn_block (wpIn_loop (fun a W' => ∃ D v, IterAt nameV W' W2.heap.size M (recMap m) D ∧ OR (W2.alloc o).heap.size W2 v (D.map fun j => k7 (m.getD j [])) W' ∧ a.tmps.size = 40 ∧ a.defers = [] ∧ a.eval (.tmp 8) = v ∧ a.eval (.tmp 26) = ptr W2.heap.size) (fun _ W' => m.length - seenN W' W2.heap.size)
    ⟨[], _, it, or0, hz_a1, hd_a1, u8, u26⟩ ?_)
  rintro b1 W3 ⟨D, v, it2, or2, z2, d2, s8, s26⟩
  refine jn_l_any hgd hltM (Nat.le_refl _) (by omega) or2 (by simp) (by omega) it2 z2 d2 s8 s26 (fun a' W' v' j r hj hlt y0 yd y8 y26 or' it' => ?_) (fun a' hall y0 yd y8 => ?_)
  · refine ⟨⟨D ++ [j], v', it', ?_, y0, yd, y8, y26⟩, ?_⟩
    · have : m.getD j [] = r := by simp [List.getD, hj]
      rw [List.map_append, List.map_cons, List.map_nil, this]
      exact or'
    · rw [it'.seenN, it2.seenN]
      simp
      omega
  · show jn_e.wpIn _ _ _ _ _ _
    have hDl : D.length ≤ m.length := nodup_le m.length D it2.nd (fun i hi => by simpa [recMap] using it2.lt i hi)
    have hD0 : 0 < D.length := List.length_pos_of_mem (hall 0 hm0)
    have hgds : ∀ r, r ∈ L.flatMap goods → isGood r = true := fun r hr => by
      obtain ⟨l, _, h2⟩ := List.mem_flatMap.1 hr
      exact goods_good l r h2
    exact jn_e_any (fun l' hp hs => sort_is hgds ht it2.nd (fun i hi => by simpa [recMap] using it2.lt i hi) hall hp hs) hz0 or2 (by simpa using hD0) (by simp; omega) y0 yd y8 (hB.trans (or2.low.mono hB.size)) (by omega)
end
set_option maxHeartbeats 400000 in
theorem join_any (A A' : Option Addr) (c c' : Nat) (l l' : List UInt8) (W : World) (hc : l.length ≤ c) (hl : l.length ≤ 100000) (hs : BytesAt W W.heap.size A l) (hc' : l'.length ≤ c') (hl' : l'.length ≤ 100000) (hs' : BytesAt W W.heap.size A' l') :
    Calls Try.prog 39 #[.slice A l.length c, .slice A' l'.length c'] W (JoinP W [l, l']) := by
  refine (callsIn_wide (n := 5)).1 (callsIn_of_wp Try.func39 body39 trivial ?_ rfl)
  obtain ⟨a, ha⟩ : ∃ a : Act, a = { tmps := #[.slice A l.length c, .slice A' l'.length c'] ++ Array.replicate (Try.f39.ntmps - (#[.slice A l.length c, .slice A' l'.length c'] : Array Value).size) undef, defers := [] } := ⟨_, rfl⟩
  have hsz : a.tmps.size = 40 := by rw [ha]; simp [Try.ntmps39]
  have t0 : a.eval (.tmp 0) = .slice A l.length c := by rw [ha]; simp [Act.eval]
  have t1 : a.eval (.tmp 1) = .slice A' l'.length c' := by rw [ha]; simp [Act.eval]
  have hd_a : a.defers = [] := by rw [ha]
  rw [← ha]
  clear ha
  unfold code39
  refine wpIn_seq (region_p 2 ?_)
  intro K hK
  refine ListK.assign (i := 0) (v := .slice none 0 0) rfl (by simp) ?_
  refine ListK.assign (i := 1) (v := .int .i64 0) rfl (by simp) ?_
  refine ListK.done (hK _ _ ?_)
  clear hK K
  generalize hA : Act.put _ _ _ = a1
  have hz_a1 : a1.tmps.size = 40 := by rw [← hA]; simp only [size_put, hsz]
  have u0 : a1.eval (.tmp 0) = .slice A l.length c := by rw [← hA]; exact (by simp [t0])
  have u1 : a1.eval (.tmp 1) = .slice A' l'.length c' := by rw [← hA]; exact (by simp [t1])
  have hd_a1 : a1.defers = [] := by rw [← hA]; simp only [defers_put, hd_a]
  clear hA
  have hb1 : Below W.heap.size W (W.alloc (.cells #[.slice A l.length c, .slice A' l'.length c'] 31)) := (Below.refl _ W).alloc (Nat.le_refl _) _
  have hrd := read_any [l, l'] (some ⟨W.heap.size, 0, none⟩) 2 (by simp) _ (lists_two hc hl hs hc' hl' hs')
  refine wpIn_seq (region_p 9 ?_)
  intro K hK
  refine ListK.move (i := 0) (v := .slice A l.length c) rfl (by simp [u0]) ?_
  refine ListK.move (i := 1) (v := .slice A' l'.length c') rfl (by simp [u1]) ?_
  refine ListK.bsl (i := 2) (ps := #[(0, .slice A l.length c), (1, .slice A' l'.length c')]) (v := .slice (some ⟨W.heap.size, 0, none⟩) 2 2) rfl (by simp [hz_a1]) (bs124_2 _ _ _ _ _ _ W) ?_
  refine ListK.call (i := 3) (vs := #[.slice (some ⟨W.heap.size, 0, none⟩) 2 2]) rfl (enters_of Try.func58 (by kernel_rfl) rfl) (by simp [hz_a1]) ((hrd).mono ?_)
  rintro e W2 hrp
  obtain ⟨p, rfl, hb2, hok⟩ := hrp.val
  refine ⟨_, rfl, ?_⟩
  refine ListK.move (i := 4) (v := .tuple #[.pointer p, .int .i64 (readC [l, l'])]) rfl (by simp [hz_a1]) ?_
  refine ListK.extract (i := 5) (u := .tuple #[.pointer p, .int .i64 (readC [l, l'])]) (v := .pointer p) rfl (by simp [hz_a1]) (ex0 _ _ _) ?_
  refine ListK.extract (i := 6) (u := .tuple #[.pointer p, .int .i64 (readC [l, l'])]) (v := .int .i64 (readC [l, l'])) rfl (by simp [hz_a1]) (ex1 _ _ _) ?_
  refine ListK.assign (i := 7) (v := .pointer p) rfl (by simp [hz_a1]) ?_
  refine ListK.assign (i := 8) (v := .int .i64 (readC [l, l'])) rfl (by simp [hz_a1]) ?_
  refine ListK.done (hK _ _ ?_)
  clear hK K
  have hB := hb1.trans (hb2.mono hb1.size)
  generalize hA : Act.put _ _ _ = a2
  have hz_a2 : a2.tmps.size = 40 := by rw [← hA]; simp only [size_put, hz_a1]
  have v6 : a2.eval (.tmp 6) = .pointer p := by rw [← hA]; exact (by simp [hz_a1])
  have v7 : a2.eval (.tmp 7) = .int .i64 (readC [l, l']) := by rw [← hA]; exact (by simp [hz_a1])
  have hd_a2 : a2.defers = [] := by rw [← hA]; simp only [defers_put, hd_a1]
  clear hA
  by_cases hz : readC [l, l'] = 0
  · obtain ⟨b, M, hr, m, rfl, ht, hf, har, hgd, hno⟩ := hok hz
    have hm0 : 0 < m.length := List.length_pos_of_mem (find_mem hf).1
    have hml : m.length ≤ 1000 := by
      have h4 : ∀ x, x ∈ [l, l'] → x.length ≤ 4000 := by
        intro x hx
        by_cases hbg : 4000 < x.length
        · have : [l, l'].any (fun l => decide (4000 < l.length)) = true := List.any_eq_true.2 ⟨x, hx, decide_eq_true hbg⟩
          unfold readC at hz
          rw [if_pos this] at hz
          cases hz
        · omega
      have h1 := takeUp_len _ [] m ht
      have h5 := goods_8 l
      have h6 := goods_8 l'
      have h7 := h4 l (by simp)
      have h8 := h4 l' (by simp)
      simp only [List.flatMap_cons, List.flatMap_nil, List.append_nil, List.length_append, List.length_nil] at h1
      omega
    refine wpIn_seq (wpIn_seq (region_p 2 ?_))
    intro K hK
    refine ListK.move (i := 0) (v := .int .i64 (readC [l, l'])) rfl (by simp [v7]) ?_
    refine ListK.bin (i := 1) (u := .int .i64 (readC [l, l'])) (u' := .int .i64 0) (v := .bool false) rfl (by simp [hz_a2]) (by simp) (neq27F hz _) ?_
    refine ListK.done (hK _ _ ?_)
    clear hK K
    refine wpIn_cond (t := false) (by simp [hz_a2]) (wpIn_skip ?_)
    refine wpIn_seq (region_p 1 ?_)
    intro K hK
    refine ListK.assign (i := 0) (v := .slice none 0 0) rfl (by simp) ?_
    refine ListK.done (hK _ _ ?_)
    clear hK K
    show jn_b.wpIn _ _ _ _ _ _
    exact jn_b_any hgd hz ht hml hm0 har (by simp only [size_put, hz_a2]) (by simp only [defers_put, hd_a2]) (by simp [v6]) (by simp [hz_a2]) hB
  · skip
    refine wpIn_seq (wpIn_seq (region_p 2 ?_))
    intro K hK
    refine ListK.move (i := 0) (v := .int .i64 (readC [l, l'])) rfl (by simp [v7]) ?_
    refine ListK.bin (i := 1) (u := .int .i64 (readC [l, l'])) (u' := .int .i64 0) (v := .bool true) rfl (by simp [hz_a2]) (by simp) (neq27T hz _) ?_
    refine ListK.done (hK _ _ ?_)
    clear hK K
    refine wpIn_cond (t := true) (by simp [hz_a2]) ?_
    refine wpIn_seq (region_p 3 ?_)
    intro K hK
    refine ListK.move (i := 0) (v := .int .i64 (readC [l, l'])) rfl (by simp [v7]) ?_
    refine ListK.assign (i := 1) (v := .slice none 0 0) rfl (by simp) ?_
    refine ListK.assign (i := 2) (v := .int .i64 (readC [l, l'])) rfl (by simp [hz_a2]) ?_
    refine ListK.done (hK _ _ (wpIn_ret ?_))
    exact bodyPost_ret (v := .tuple #[.slice none 0 0, .int .i64 (readC [l, l'])]) (res2n Try.results39 (by simp [hz_a2]) (by simp [hz_a2])) (by simp only [defers_put, hd_a2]) ⟨hB, _, rfl, fun _ => rfl, fun h => absurd h hz⟩
end Go.Proofs.YtmdlmmfbcnkanaaR
namespace Go.Proofs.YtmdlmmfbcnkanaaR
open Go.RowKit Go.Shelf
theorem neq9n {x y : Operand} (l k : List UInt8) (w : World) : (do eqGuard .neq 9 x y (strV l) (strV k); binOp .neq 9 (strV l) (strV k) : Sem Value).run Try.prog w = .ok (.bool (!decide (l = k))) w := by
  go_simp
  by_cases h : l = k
  · simp [h]
  · simp [h]
end Go.Proofs.YtmdlmmfbcnkanaaR
namespace Go.Proofs.YtmdlmmfbcnkanaaR
open Go.RowKit Go.Shelf
section
attribute [local irreducible] AnyK StepK
end
section
attribute [local irreducible] AnyK StepK
variable {c0 c1 c2 c3 c4 c5 c6 : UInt8}
end
end Go.Proofs.YtmdlmmfbcnkanaaR
namespace Go.Proofs.YtmdlmmfbcnkanaaR
open Go.RowKit Go.Shelf
section
attribute [local irreducible] AnyK StepK
variable {L O : List (List UInt8)} {W : World} {x : List UInt8} {c gb off i : Nat} {v : Value}
end
end Go.Proofs.YtmdlmmfbcnkanaaR
namespace Go.Proofs.YtmdlmmfbcnkanaaR
open Go.RowKit Go.Shelf
section
attribute [local irreducible] AnyK StepK
end
section
attribute [local irreducible] AnyK StepK
variable {p0 p1 p2 p3 p4 p5 p6 q0 q1 q2 q3 q4 q5 q6 : UInt8} {A : Option Addr} {n c i k : Nat} {H : Head}
end
end Go.Proofs.YtmdlmmfbcnkanaaR
namespace Go.Proofs.YtmdlmmfbcnkanaaR
open Go.RowKit Go.Shelf
section
attribute [local irreducible] AnyK StepK
variable {G O : List (List UInt8)} {W0 W3 : World} {c k n : Nat} {A : Option Addr}
end
end Go.Proofs.YtmdlmmfbcnkanaaR
namespace Go.Proofs.YtmdlmmfbcnkanaaR
open Go.RowKit Go.Shelf
section
attribute [local irreducible] AnyK StepK
variable {L : List (List UInt8)} {W0 : World} {c gb off i : Nat} {H : Head} {p : List UInt8}
end
end Go.Proofs.YtmdlmmfbcnkanaaR
namespace Go.Proofs.YtmdlmmfbcnkanaaR
open Go.RowKit Go.Shelf
section
attribute [local irreducible] AnyK StepK
variable {s : Ser} {A As : Option Addr} {n c cs i b3 : Nat} {p0 p1 p2 p3 p4 p5 p6 : UInt8}
end
end Go.Proofs.YtmdlmmfbcnkanaaR
namespace Go.Proofs.YtmdlmmfbcnkanaaR

end Go.Proofs.YtmdlmmfbcnkanaaR
namespace Go.Proofs.YtmdlmmfbcnkanaaR
open Go.RowKit Go.Shelf
section
attribute [local irreducible] AnyK StepK
variable {s : Ser} {T : List (List UInt8)} {r : List UInt8} {W : World}
end
end Go.Proofs.YtmdlmmfbcnkanaaR
namespace Go.Proofs.YtmdlmmfbcnkanaaR
open Go.RowKit Go.Shelf
section
attribute [local irreducible] AnyK StepK
variable {s : Ser} {T : List (List UInt8)} {W : World}
end
end Go.Proofs.YtmdlmmfbcnkanaaR
namespace Go.Proofs.YtmdlmmfbcnkanaaR
open Go.RowKit Go.Shelf
section
attribute [local irreducible] AnyK StepK
variable {s : Ser} {T : List (List UInt8)} {W : World}
end
end Go.Proofs.YtmdlmmfbcnkanaaR
namespace Go.Proofs.YtmdlmmfbcnkanaaR
open Go.RowKit Go.Shelf
section
attribute [local irreducible] AnyK StepK
variable {s : Ser} {T : List (List UInt8)} {W : World}
end
end Go.Proofs.YtmdlmmfbcnkanaaR
namespace Go.Proofs.YtmdlmmfbcnkanaaR
open Go.RowKit Go.Shelf
section
attribute [local irreducible] AnyK StepK
end
end Go.Proofs.YtmdlmmfbcnkanaaR
namespace Go.Proofs.YtmdlmmfbcnkanaaR
open Go.RowKit Go.Shelf
section
attribute [local irreducible] AnyK StepK
end
section
attribute [local irreducible] AnyK StepK
end
end Go.Proofs.YtmdlmmfbcnkanaaR
namespace Go.Proofs.YtmdlmmfbcnkanaaR
open Go.RowKit Go.Shelf
section
attribute [local irreducible] AnyK StepK
end
end Go.Proofs.YtmdlmmfbcnkanaaR
namespace Go.Proofs.YtmdlmmfbcnkanaaR

section
variable {s : Ser} {m : List (List UInt8)} {b p : Nat} {g q : Nat → Nat}
end
end Go.Proofs.YtmdlmmfbcnkanaaR
namespace Go.Proofs.YtmdlmmfbcnkanaaR
open Go.RowKit Go.Shelf
section
attribute [local irreducible] AnyK StepK
variable {s : Ser} {W3 : World} {gl cL cw : Nat} {Aw : Option Addr} {lw : List Nat} {b1 c : Nat} {A : Option Addr}
end
end Go.Proofs.YtmdlmmfbcnkanaaR
namespace Go.Proofs.YtmdlmmfbcnkanaaR
open Go.RowKit Go.Shelf
section
attribute [local irreducible] AnyK StepK
variable {s : Ser} {W3 : World} {gl cL cw : Nat} {Aw : Option Addr} {lw : List Nat} {b1 c : Nat} {A : Option Addr}
end
section
attribute [local irreducible] AnyK StepK
variable {s : Ser} {W : World}
end
end Go.Proofs.YtmdlmmfbcnkanaaR
namespace Go.Proofs.YtmdlmmfbcnkanaaR
open Go.RowKit Go.Shelf
theorem OB.row {W0 W : World} {v : Value} {xs : List UInt8} (h : OB W0 v xs W) (hne : 0 < xs.length) : ∃ g c cur, v = .slice (some ⟨g, 0, none⟩) xs.length c ∧ xs.length ≤ c ∧ W0.heap.size ≤ g ∧ Whole W g 5 cur ∧ ∀ (k : Nat) (x : UInt8), xs[k]? = some x → cur[k]? = some (u8V x) := by
  obtain ⟨A, c, rfl, hc, hb⟩ := h.bytes
  rcases h.own.2 with ⟨h0, h1⟩ | ⟨g, cap, cur, h0, hge, hg, h1, h2, h3, h4⟩
  · omega
  · have hg' : Whole W g 5 cur := hg
    cases h0
    refine ⟨g, _, cur, rfl, hc, hge, hg', fun k x hx => ?_⟩
    obtain ⟨b', o', e, _, h5⟩ := hb k x hx
    cases e
    rw [hg'.cell, Nat.zero_add] at h5
    exact h5
section
attribute [local irreducible] AnyK StepK
variable {L ps : List (List UInt8)} {W9 : World} {p : List UInt8} {cL cP gp op i t b10 : Nat} {AL : Option Addr}
end
end Go.Proofs.YtmdlmmfbcnkanaaR
namespace Go.Proofs.YtmdlmmfbcnkanaaR
open Go.RowKit Go.Shelf
section
attribute [local irreducible] AnyK StepK
end
end Go.Proofs.YtmdlmmfbcnkanaaR
namespace Go.Proofs.YtmdlmmfbcnkanaaR

section
variable {s : Ser} (n : SerN s)
include n
end
end Go.Proofs.YtmdlmmfbcnkanaaR
namespace Go.Proofs.YtmdlmmfbcnkanaaR
open Go.RowKit Go.Shelf
def nR0 : List UInt8 := [82, 48, 48, 53, 48, 56, 51]
def nH5 : List UInt8 := [72, 48, 53, 51, 52, 48, 48]
def nCnt : List UInt8 := [82, 48, 50, 52, 57, 52, 52, 10, 120, 10] ++ exB ++ [82, 48, 50, 52, 57, 52, 51, 10, 72, 48, 53]
def nJa : List (List UInt8) := [[82, 48, 51, 52, 55, 51, 53], nR0, nR0]
def nJb : List (List UInt8) := [[80, 48, 49, 57, 55, 52, 56], [98, 97, 100], nH5]
def nJo : List UInt8 := [72, 48, 53, 51, 52, 48, 48, 10, 82, 48, 48, 53, 48, 56, 51, 10, 82, 48, 51, 52, 55, 51, 53, 10, 80, 48, 49, 57, 55, 52, 56, 10]
def otherS : Ser := ⟨3, 4, [50, 52, 49, 47, 49]⟩
def manyS : Ser := ⟨3, 4, List.replicate 41 0⟩
def wideS : Ser := ⟨9, 4, [50, 52, 49, 47, 50]⟩
def farS : Ser := ⟨3, 4, [50, 55, 49, 47, 50]⟩
def noneS : Ser := ⟨0, 0, []⟩
theorem n_cnt : (countR nCnt).1.ng = 9 ∧ (countR nCnt).1.nb = 2 ∧ (countR nCnt).1.nd = 1 ∧ (countR nCnt).2 = 0 := by decide +kernel
theorem n_gap : gapC (linesL ex2L) = (3, 0) := by decide +kernel
theorem n_jr : readC [linesL nJa, linesL nJb] = 0 := by decide +kernel
theorem n_jo : linesL (joinR ([linesL nJa, linesL nJb].flatMap goods)) = nJo := by decide +kernel
theorem n_fit1 : fitsC exB fiveS = true := by decide +kernel
theorem n_fit2 : fitsC (linesL [nR0]) fiveS = false := by decide +kernel
theorem n_fit3 : fitsC exB otherS = false := by decide +kernel
theorem n_fit4 : fitsC (linesL [nH5, [82, 48, 51, 52, 55, 51, 53]]) otherS = true := by decide +kernel
theorem n_m1 : mendC (linesL [nR0]) = 7 := by decide +kernel
theorem n_m2 : mendC (linesL [nH5, [72, 48, 54, 51, 52, 48, 52]]) = 6 := by decide +kernel
theorem n_m3 : mendC (linesL [nH5, nR0, [82, 48, 48, 53, 49, 56, 57]]) = 6 := by decide +kernel
theorem n_m4 : mendC (linesL [nH5, [82, 48, 53, 53, 48, 48, 54]]) = 6 := by decide +kernel
theorem n_m5 : mendC (linesL [nH5, nR0, [82, 48, 49, 53, 55, 51, 50]]) = 9 := by decide +kernel
theorem n_s1 : faultS manyS = 3 := by decide +kernel
theorem n_s2 : faultS wideS = 1 := by decide +kernel
theorem n_s3 : faultS farS = 1 := by decide +kernel
theorem n_s4 : faultS noneS = 1 := by decide +kernel
theorem n_big (l : List UInt8) (h : 4000 < l.length) : countR l = (⟨0, 0, 0, []⟩, 3) := by unfold countR; rw [if_pos h]
theorem fiveW_any (W : World) : Calls Try.prog 41 #[] W fun e w' => ∃ g, e = .returned (.agg #[.int .i64 3, .int .i64 4, .slice (some ⟨g, 0, none⟩) 5 5]) ∧ W.heap.size ≤ g ∧ Whole w' g 3 #[.int .i64 50, .int .i64 52, .int .i64 49, .int .i64 47, .int .i64 50] ∧ Below W.heap.size W w' := by
  refine (callsIn_wide (n := 5)).1 (callsIn_of_wp Try.func41 body41 trivial ?_ rfl)
  obtain ⟨a, ha⟩ : ∃ a : Act, a = { tmps := #[] ++ Array.replicate (Try.f41.ntmps - (#[] : Array Value).size) undef, defers := [] } := ⟨_, rfl⟩
  have hsz : a.tmps.size = 3 := by rw [ha]; simp [Try.ntmps41]
  have hd_a : a.defers = [] := by rw [ha]
  rw [← ha]
  clear ha
  unfold code41
  refine wpIn_seq (region_p 1 ?_)
  intro K hK
  refine ListK.alloc (i := 0) rfl (al29 W) ?_
  refine ListK.done (hK _ _ ?_)
  clear hK K
  have w0 := Whole.new W 29 #[.int .i64 0, .int .i64 0, .slice none 0 0]
  have hb_b0 : Below W.heap.size W (W.alloc (.cells #[.int .i64 0, .int .i64 0, .slice none 0 0] 29)) := (Below.refl _ W).alloc (Nat.le_refl _) _
  have hB := hb_b0
  generalize hq_b0 : W.heap.size = b0 at *
  generalize W.alloc (.cells #[.int .i64 0, .int .i64 0, .slice none 0 0] 29) = W1 at *
  generalize hA : Act.put _ _ _ = a1
  have hz_a1 : a1.tmps.size = 3 := by rw [← hA]; simp only [size_put, hsz]
  have u0 : a1.eval (.tmp 0) = .pointer (some ⟨b0, 0, none⟩) := by rw [← hA]; exact (by simp [hsz])
  have hd_a1 : a1.defers = [] := by rw [← hA]; simp only [defers_put, hd_a]
  clear hA
  have hb2 : Below W1.heap.size W1 (W1.alloc (.cells #[.int .i64 50, .int .i64 52, .int .i64 49, .int .i64 47, .int .i64 50] 3)) := (Below.refl _ W1).alloc (Nat.le_refl _) _
  have w5 := Whole.new W1 3 #[.int .i64 50, .int .i64 52, .int .i64 49, .int .i64 47, .int .i64 50]
  have hl0 := w0.lt
  replace w0 := w0.below hb2 w0.lt
  refine wpIn_seq (region_p 3 ?_)
  intro K hK
  refine ListK.bsl (i := 0) (ps := #[(0, .int .i64 50), (1, .int .i64 52), (2, .int .i64 49), (3, .int .i64 47), (4, .int .i64 50)]) (v := .slice (some ⟨W1.heap.size, 0, none⟩) 5 5) rfl (by simp) (bs22_5 50 52 49 47 50 W1) ?_
  refine ListK.bld (i := 1) (ps := #[(0, .int .i64 3), (1, .int .i64 4), (2, .slice (some ⟨W1.heap.size, 0, none⟩) 5 5)]) (v := .agg #[.int .i64 3, .int .i64 4, .slice (some ⟨W1.heap.size, 0, none⟩) 5 5]) rfl (by simp [hz_a1]) (bd29 _ _ _ _ _ _) ?_
  refine ListK.store (i := 2) (u := .pointer (some ⟨b0, 0, none⟩)) (u' := .agg #[.int .i64 3, .int .i64 4, .slice (some ⟨W1.heap.size, 0, none⟩) 5 5]) rfl (by simp [u0]) (by simp [hz_a1]) (st29 w0) ?_
  refine ListK.done (hK _ _ (wpIn_ret ?_))
  replace hB := hB.trans (hb2.mono (by have := hB.size; omega))
  have hgW : b0 ≤ W1.heap.size := Nat.le_of_lt hl0
  generalize W1.heap.size = g at *
  generalize W1.alloc (.cells #[.int .i64 50, .int .i64 52, .int .i64 49, .int .i64 47, .int .i64 50] 3) = W2 at *
  have he3 : Else (fun k => k = b0) W2 (((W2.setCell ⟨b0, 0, none⟩ (.int .i64 3)).setCell ⟨b0, 1, none⟩ (.int .i64 4)).setCell ⟨b0, 2, none⟩ (.slice (some ⟨g, 0, none⟩) 5 5)) := (((Else.refl (fun k => k = b0) W2).setCell (p := ⟨b0, 0, none⟩) (.inl rfl) _).setCell (p := ⟨b0, 1, none⟩) (.inl rfl) _).setCell (p := ⟨b0, 2, none⟩) (.inl rfl) _
  have w53 := he3.whole (show ¬ g = b0 by omega) w5
  refine bodyPost_ret (v := .agg #[.int .i64 3, .int .i64 4, .slice (some ⟨g, 0, none⟩) 5 5]) (res29 Try.results41 (by simp [u0]) (((w0.set 0 _).set 1 _).set 2 _)) (by simp only [defers_put, hd_a1]) ⟨g, rfl, hgW, w53, ?_⟩
  exact hB.trans (he3.below (by have := hB.size; omega) (fun k hk e => by omega))

end Go.Proofs.YtmdlmmfbcnkanaaR
namespace Go.Proofs.YtmdlmmfbcnkanaaR
open Go.RowKit Go.Shelf
theorem marked_cell (W : World) (cs : Array Value) (fz : Nat × Nat) (k : Nat) : (W.alloc (.cells cs 5 fz)).cell? ⟨W.heap.size, k, none⟩ = cs[k]? := by
  have : (W.alloc (.cells cs 5 fz)).heap[W.heap.size]? = some (.cells cs 5 fz) := by
    show (W.heap.push (.cells cs 5 fz))[W.heap.size]? = _
    simp
  unfold World.cell?
  rw [this]
  rfl
theorem app31_new {W : World} {xs ys : List UInt8} {b : Nat} {A : Option Addr} {c : Nat} (hx : ∀ (k : Nat) (x : UInt8), xs[k]? = some x → W.cell? ⟨b, k, none⟩ = some (u8V x)) (hxl : xs.length ≤ 100000) (hy : BytesAt W W.heap.size A ys) (hl : ys.length ≤ 100000) (hpos : 0 < ys.length) :
    ∃ v' w', (Builtin.append_ #[31, 31] 31 #[.slice (some ⟨b, 0, none⟩) xs.length xs.length, .slice A ys.length c]).run Try.prog W = .ok v' w' ∧ OB W v' (xs ++ ys) w' := by
  obtain ⟨i0, hi0, hi1, hi2, hi3⟩ := info_parts Try.info5
  obtain ⟨g, off, rfl, _, _⟩ := hy 0 ys[0] (List.getElem?_eq_getElem hpos)
  obtain ⟨v', w', hr, h2, h3⟩ := run_append_arg_grows (P := Try.prog) W 31 31 5 i0 (.int .u8 0) 1 1 Try.underlying31 hi0 hi1 hi2 hi3 rfl (by omega) ⟨b, 0, none⟩ xs.length xs.length (xs.map u8V) (by simp)
    (fun j u hu => by
      simp only [List.getElem?_map, Option.map_eq_some_iff] at hu
      obtain ⟨x, hx', rfl⟩ := hu
      have hc := hx j x hx'
      simp only [Addr.add]
      split
      · rename_i h0
        subst h0
        exact hc
      · simpa using hc) ⟨g, off, none⟩ ys.length c (ys.map u8V) (by simp)
    (fun j u hu => by
      simp only [List.getElem?_map, Option.map_eq_some_iff] at hu
      obtain ⟨x, hx', rfl⟩ := hu
      obtain ⟨b', o', e, _, hc⟩ := hy j x hx'
      cases e
      simp only [Addr.add]
      split
      · rename_i h0
        subst h0
        simpa using hc
      · exact hc) (by omega) (by unfold maxLen; omega) (by omega)
  refine ⟨v', w', hr, (Below.refl _ W).grown h3 (Nat.le_refl _) (fun k e => by cases e), ?_⟩
  rw [List.length_append, List.map_append]
  exact h2
theorem ListK.convM {P : Program} {ops : Array Oper} {K : Act → World → Prop} {k i d : Nat} {a : Act} {w w' : World} {ty : TypeId} {pos : String} {aft : Array Edge} {s t : TypeId} {x : Operand} {u v : Value} (hi : ops[i]? = some ⟨some d, .convert s t x, ty, pos, aft, none⟩) (hx : a.eval x = u) (hv : (convert s t u).run P w = .ok v w')
    (h : ListK P ops K k (i + 1) (a.put (some d) v) w') : ListK P ops K (k + 1) i a w := ListK.val hi rfl (by simp [execOp, hx, hv]) h
theorem app9_any {W0 W : World} {v : Value} {xs l : List UInt8} (h : OB W0 v xs W) (hx : xs.length ≤ 100000) (hl : l.length ≤ 100000) : ∃ v' w', (Builtin.append_ #[31, 9] 31 #[v, strV l]).run Try.prog W = .ok v' w' ∧ OB W0 v' (xs ++ l) w' := by
  obtain ⟨i0, hi0, hi1, hi2, hi3⟩ := info_parts Try.info5
  have hsz : (⟨l.toArray⟩ : ByteArray).size = l.length := by simp [ByteArray.size]
  obtain ⟨v', w', h1, h2, h3, h4⟩ := Lib.run_append_own_string (P := Try.prog) W W0.heap.size 31 9 31 5 i0 Try.underlying31 (by kernel_rfl) hi0 hi1 hi2 hi3 v xs.length (xs.map u8V) h.own ⟨l.toArray⟩ (by rw [hsz]; unfold maxLen; omega) (by rw [hsz]; omega) h.low.size
  refine ⟨v', w', h1, h.low.grown h3 h.low.size (fun k e => (h.own.lt k e).1), ?_⟩
  rw [hsz] at h2
  rw [List.length_append, List.map_append]
  exact h2
theorem bs36_3 (a0 a1 a2 : List UInt8) (w : World) : (Instr.buildSlice 36 3 #[(0, strV a0), (1, strV a1), (2, strV a2)]).run Try.prog w = .ok (.slice (some ⟨w.heap.size, 0, none⟩) 3 3) (w.alloc (.cells #[strV a0, strV a1, strV a2] 9)) := by go_simp
theorem bs31_10 (x0 x1 x2 x3 x4 x5 x6 x7 x8 x9 : Int) (w : World) : (Instr.buildSlice 31 10 #[(0, .int .u8 x0), (1, .int .u8 x1), (2, .int .u8 x2), (3, .int .u8 x3), (4, .int .u8 x4), (5, .int .u8 x5), (6, .int .u8 x6), (7, .int .u8 x7), (8, .int .u8 x8), (9, .int .u8 x9)]).run Try.prog w = .ok (.slice (some ⟨w.heap.size, 0, none⟩) 10 10) (w.alloc (.cells #[.int .u8 x0, .int .u8 x1, .int .u8 x2, .int .u8 x3, .int .u8 x4, .int .u8 x5, .int .u8 x6, .int .u8 x7, .int .u8 x8, .int .u8 x9] 5)) := by go_simp
theorem neq62F {x y : Operand} (a b c : Int) (w : World) : (do eqGuard .neq 62 x y (.agg #[.int .i64 a, .int .i64 b, .int .i64 c]) (.agg #[.int .i64 a, .int .i64 b, .int .i64 c]); binOp .neq 62 (.agg #[.int .i64 a, .int .i64 b, .int .i64 c]) (.agg #[.int .i64 a, .int .i64 b, .int .i64 c]) : Sem Value).run Try.prog w = .ok (.bool false) w := by
  go_simp
theorem bd62_3 (a b c : Int) (w : World) : (Instr.build 62 #[(0, .int .i64 a), (1, .int .i64 b), (2, .int .i64 c)]).run Try.prog w = .ok (.agg #[.int .i64 a, .int .i64 b, .int .i64 c]) w := by go_simp
noncomputable def opsNn0 : Array Oper := (Try.f14.body.bind (regionOf 0)).getD #[]
noncomputable def opsNn1 : Array Oper := (Try.f14.body.bind (regionOf 1)).getD #[]
noncomputable def opsNn2 : Array Oper := (Try.f14.body.bind (regionOf 2)).getD #[]
noncomputable def opsNn3 : Array Oper := (Try.f14.body.bind (regionOf 3)).getD #[]
noncomputable def opsNn4 : Array Oper := (Try.f14.body.bind (regionOf 4)).getD #[]
noncomputable def opsNn5 : Array Oper := (Try.f14.body.bind (regionOf 5)).getD #[]
noncomputable def opsNn6 : Array Oper := (Try.f14.body.bind (regionOf 6)).getD #[]
noncomputable def opsNn7 : Array Oper := (Try.f14.body.bind (regionOf 7)).getD #[]
noncomputable def opsNn8 : Array Oper := (Try.f14.body.bind (regionOf 8)).getD #[]
noncomputable def opsNn9 : Array Oper := (Try.f14.body.bind (regionOf 9)).getD #[]
noncomputable def opsNn10 : Array Oper := (Try.f14.body.bind (regionOf 10)).getD #[]
noncomputable def opsNn11 : Array Oper := (Try.f14.body.bind (regionOf 11)).getD #[]
noncomputable def opsNn12 : Array Oper := (Try.f14.body.bind (regionOf 12)).getD #[]
noncomputable def opsNn13 : Array Oper := (Try.f14.body.bind (regionOf 13)).getD #[]
noncomputable def opsNn14 : Array Oper := (Try.f14.body.bind (regionOf 14)).getD #[]
noncomputable def opsNn15 : Array Oper := (Try.f14.body.bind (regionOf 15)).getD #[]
noncomputable def opsNn16 : Array Oper := (Try.f14.body.bind (regionOf 16)).getD #[]
noncomputable def opsNn17 : Array Oper := (Try.f14.body.bind (regionOf 17)).getD #[]
noncomputable def opsNn18 : Array Oper := (Try.f14.body.bind (regionOf 18)).getD #[]
noncomputable def opsNn19 : Array Oper := (Try.f14.body.bind (regionOf 19)).getD #[]
noncomputable def opsNn20 : Array Oper := (Try.f14.body.bind (regionOf 20)).getD #[]
noncomputable def opsNn21 : Array Oper := (Try.f14.body.bind (regionOf 21)).getD #[]
noncomputable def nm_21 : Code := (.seq (.region 21 opsNn21 false) .ret)
noncomputable def nm_18 : Code := (.seq (.region 18 opsNn18 false) (.seq (.region 19 opsNn19 false) (.seq (.region 20 opsNn20 false) nm_21)))
noncomputable def nm_17 : Code := (.seq (.region 17 opsNn17 false) nm_18)
noncomputable def nm_16 : Code := (.seq (.region 16 opsNn16 false) nm_17)
noncomputable def nm_11 : Code := (.seq (.region 11 opsNn11 false) (.seq (.region 12 opsNn12 false) (.seq (.region 13 opsNn13 false) (.seq (.region 14 opsNn14 false) (.seq (.region 15 opsNn15 false) nm_16)))))
noncomputable def nm_7 : Code := (.seq (.region 7 opsNn7 false) (.seq (.region 8 opsNn8 false) (.seq (.seq (.region 9 opsNn9 true) (.cond (.tmp 98) (.seq (.region 10 opsNn10 false) .ret) .skip)) nm_11)))
noncomputable def nm_5 : Code := (.seq (.seq (.region 5 opsNn5 false) (.cond (.tmp 84) (.seq (.region 6 opsNn6 false) .ret) .skip)) nm_7)
noncomputable def code14 : Code := (.seq (.region 0 opsNn0 false) (.seq (.region 1 opsNn1 false) (.seq (.region 2 opsNn2 false) (.seq (.region 3 opsNn3 false) (.seq (.region 4 opsNn4 false) nm_5)))))
theorem body14 : Try.f14.body = some code14 := by kernel_rfl
set_option maxHeartbeats 800000 in
theorem names_wp (W : World) (hN : ∀ (a : Act) (W8 : World) (A1 A7 : Option Addr) (c1 c7 b3 : Nat), a.tmps.size = 188 → a.defers = [] → a.eval (.tmp 1) = .slice A1 exB.length c1 → a.eval (.tmp 2) = .int .i64 0 → a.eval (.tmp 3) = ptr b3 → a.eval (.tmp 4) = .int .i64 0 → a.eval (.tmp 5) = .int .i64 3 → a.eval (.tmp 6) = .int .i64 0 → a.eval (.tmp 7) = .slice A7 nJo.length c7 → a.eval (.tmp 8) = .int .i64 0 → exB.length ≤ c1 → BytesAt W8 W8.heap.size A1 exB → BytesAt W8 W8.heap.size A7 nJo → Whole W8 b3 62 #[.int .i64 9, .int .i64 2, .int .i64 1] → Below W.heap.size W W8 → nm_5.wpIn Fence.wide 5 Try.prog (bodyPost Try.prog Try.f14 (TP W true)) a W8) : Calls Try.prog 14 #[] W (TP W true) := by
  refine (callsIn_wide (n := 5)).1 (callsIn_of_wp Try.func14 body14 trivial ?_ rfl)
  obtain ⟨a, ha⟩ : ∃ a : Act, a = { tmps := #[] ++ Array.replicate (Try.f14.ntmps - (#[] : Array Value).size) undef, defers := [] } := ⟨_, rfl⟩
  have hsz : a.tmps.size = 188 := by rw [ha]; simp [Try.ntmps14]
  have hd_a : a.defers = [] := by rw [ha]
  rw [← ha]
  clear ha
  unfold code14
  refine wpIn_seq (region_p 1 ?_)
  intro K hK
  refine ListK.assign (i := 0) (v := .bool false) rfl (by simp) ?_
  refine ListK.done (hK _ _ ?_)
  clear hK K
  generalize hA : Act.put _ _ _ = a1
  have hz_a1 : a1.tmps.size = 188 := by rw [← hA]; simp only [size_put, hsz]
  have hd_a1 : a1.defers = [] := by rw [← hA]; simp only [defers_put, hd_a]
  clear hA
  refine wpIn_seq (region_p 7 ?_)
  intro K hK
  refine ListK.call (i := 0) (vs := #[]) rfl (enters_of Try.func41 (by kernel_rfl) rfl) (by simp) ((five_any W).mono ?_)
  rintro _ W1 ⟨g1, rfl, hs1, hb1⟩
  refine ⟨_, rfl, ?_⟩
  refine ListK.call (i := 1) (vs := #[serV fiveS (some ⟨g1, 0, none⟩) 5]) rfl (enters_of Try.func19 (by kernel_rfl) rfl) (by simp [hz_a1]) ((write_any fiveS (some ⟨g1, 0, none⟩) 5 W1 (by simp [fiveS]) hs1).mono ?_)
  rintro _ W2 ⟨v2, rfl, ob2⟩
  rw [five_ok, if_pos rfl, five_file] at ob2
  rw [five_ok]
  obtain ⟨A2, c2, rfl, hc2, hy2⟩ := ob2.bytes
  refine ⟨_, rfl, ?_⟩
  refine ListK.move (i := 2) (v := .tuple #[.slice A2 exB.length c2, .int .i64 0]) rfl (by simp [hz_a1]) ?_
  refine ListK.extract (i := 3) (u := .tuple #[.slice A2 exB.length c2, .int .i64 0]) (v := .slice A2 exB.length c2) rfl (by simp [hz_a1]) (ex0 _ _ _) ?_
  refine ListK.extract (i := 4) (u := .tuple #[.slice A2 exB.length c2, .int .i64 0]) (v := .int .i64 0) rfl (by simp [hz_a1]) (ex1 _ _ _) ?_
  refine ListK.assign (i := 5) (v := .slice A2 exB.length c2) rfl (by simp [hz_a1]) ?_
  refine ListK.assign (i := 6) (v := .int .i64 0) rfl (by simp [hz_a1]) ?_
  refine ListK.done (hK _ _ ?_)
  clear hK K
  have hB2 := hb1.trans (ob2.low.mono hb1.size)
  generalize hA : Act.put _ _ _ = a2
  have hz_a2 : a2.tmps.size = 188 := by rw [← hA]; simp only [size_put, hz_a1]
  have v1 : a2.eval (.tmp 1) = .slice A2 exB.length c2 := by rw [← hA]; exact (by simp [hz_a1])
  have v2 : a2.eval (.tmp 2) = .int .i64 0 := by rw [← hA]; exact (by simp [hz_a1])
  have hd_a2 : a2.defers = [] := by rw [← hA]; simp only [defers_put, hd_a1]
  clear hA
  have hcv := Lib.run_convert_bytes_const (P := Try.prog) W2 31 5 #[.int .u8 82, .int .u8 48, .int .u8 50, .int .u8 52, .int .u8 57, .int .u8 52, .int .u8 52, .int .u8 10, .int .u8 120, .int .u8 10] 10 10 Try.underlying31 (by kernel_rfl)
  have hb3 : Below W2.heap.size W2 (W2.alloc (.cells #[.int .u8 82, .int .u8 48, .int .u8 50, .int .u8 52, .int .u8 57, .int .u8 52, .int .u8 52, .int .u8 10, .int .u8 120, .int .u8 10] 5 (10, 11))) := (Below.refl _ W2).alloc (Nat.le_refl _) _
  obtain ⟨v4, W4, hap4, ob4⟩ := app31_new (W := W2.alloc (.cells #[.int .u8 82, .int .u8 48, .int .u8 50, .int .u8 52, .int .u8 57, .int .u8 52, .int .u8 52, .int .u8 10, .int .u8 120, .int .u8 10] 5 (10, 11))) (xs := [82, 48, 50, 52, 57, 52, 52, 10, 120, 10]) (b := W2.heap.size) (c := c2) (fun k x hx => by
    rw [marked_cell]
    have h : ([82, 48, 50, 52, 57, 52, 52, 10, 120, 10].map u8V)[k]? = some (u8V x) := by rw [List.getElem?_map, hx]; rfl
    simp only [List.getElem?_toArray]
    exact h) (by decide) ((hy2.below hb3 (Nat.le_refl _)).more hb3.size) (by decide) (by decide)
  obtain ⟨v5, W5, hap5, ob5⟩ := app9_any (l := [82, 48, 50, 52, 57, 52, 51, 10, 72, 48, 53]) ob4 (by decide) (by decide)
  replace ob5 : OB (W2.alloc (.cells #[.int .u8 82, .int .u8 48, .int .u8 50, .int .u8 52, .int .u8 57, .int .u8 52, .int .u8 52, .int .u8 10, .int .u8 120, .int .u8 10] 5 (10, 11))) v5 nCnt W5 := ob5
  obtain ⟨A5, c5, rfl, hc5, hy5⟩ := ob5.bytes
  obtain ⟨k1, k2, k3, k4⟩ := n_cnt
  refine wpIn_seq (region_p 12 ?_)
  intro K hK
  refine ListK.bsl (i := 0) (ps := #[(0, .int .u8 82), (1, .int .u8 48), (2, .int .u8 50), (3, .int .u8 52), (4, .int .u8 57), (5, .int .u8 52), (6, .int .u8 52), (7, .int .u8 10), (8, .int .u8 120), (9, .int .u8 10)]) (v := .slice (some ⟨W2.heap.size, 0, none⟩) 10 10) rfl (by simp) (bs31_10 _ _ _ _ _ _ _ _ _ _ W2) ?_
  refine ListK.convM (i := 1) rfl (by simp [hz_a2]) hcv ?_
  refine ListK.move (i := 2) (v := .slice A2 exB.length c2) rfl (by simp [v1]) ?_
  refine ListK.app31 (i := 3) rfl (by simp [hz_a2]) (by simp [hz_a2]) hap4 ?_
  refine ListK.app9 (i := 4) rfl (by simp [hz_a2]) (by simp) hap5 ?_
  refine ListK.call (i := 5) (vs := #[.slice A5 nCnt.length c5]) rfl (enters_of Try.func37 (by kernel_rfl) rfl) (by simp [hz_a2]) ((count_any A5 nCnt c5 W5 hc5 hy5).mono ?_)
  rintro _ W6 ⟨rfl, hb6⟩
  rw [k1, k2, k3, k4]
  refine ⟨_, rfl, ?_⟩
  refine ListK.move (i := 6) (v := .tuple #[.agg (c62 9 2 1), .int .i64 0]) rfl (by simp [hz_a2]) ?_
  refine ListK.extract (i := 7) (u := .tuple #[.agg (c62 9 2 1), .int .i64 0]) (v := .agg (c62 9 2 1)) rfl (by simp [hz_a2]) (ex0 _ _ _) ?_
  refine ListK.extract (i := 8) (u := .tuple #[.agg (c62 9 2 1), .int .i64 0]) (v := .int .i64 0) rfl (by simp [hz_a2]) (ex1 _ _ _) ?_
  refine ListK.alloc (i := 9) rfl (al62 W6) ?_
  refine ListK.store (i := 10) (u := .pointer (some ⟨W6.heap.size, 0, none⟩)) (u' := .agg (c62 9 2 1)) rfl (by simp [hz_a2]) (by simp [hz_a2]) (st62 (Whole.new W6 62 #[.int .i64 0, .int .i64 0, .int .i64 0])) ?_
  refine ListK.assign (i := 11) (v := .int .i64 0) rfl (by simp [hz_a2]) ?_
  refine ListK.done (hK _ _ ?_)
  clear hK K
  have w3 : Whole ((((W6.alloc (.cells #[.int .i64 0, .int .i64 0, .int .i64 0] 62)).setCell ⟨W6.heap.size, 0, none⟩ (.int .i64 ((9 : Nat) : Int))).setCell ⟨W6.heap.size, 1, none⟩ (.int .i64 ((2 : Nat) : Int))).setCell ⟨W6.heap.size, 2, none⟩ (.int .i64 ((1 : Nat) : Int))) W6.heap.size 62 #[.int .i64 9, .int .i64 2, .int .i64 1] := (((Whole.new W6 62 #[.int .i64 0, .int .i64 0, .int .i64 0]).set 0 (.int .i64 ((9 : Nat) : Int))).set 1 (.int .i64 ((2 : Nat) : Int))).set 2 (.int .i64 ((1 : Nat) : Int))
  have hb7 : Below W6.heap.size W6 ((((W6.alloc (.cells #[.int .i64 0, .int .i64 0, .int .i64 0] 62)).setCell ⟨W6.heap.size, 0, none⟩ (.int .i64 ((9 : Nat) : Int))).setCell ⟨W6.heap.size, 1, none⟩ (.int .i64 ((2 : Nat) : Int))).setCell ⟨W6.heap.size, 2, none⟩ (.int .i64 ((1 : Nat) : Int))) := ((((Below.refl _ W6).alloc (Nat.le_refl _) _).setCell (p := ⟨W6.heap.size, 0, none⟩) (Nat.le_refl _) _).setCell (p := ⟨W6.heap.size, 1, none⟩) (Nat.le_refl _) _).setCell (p := ⟨W6.heap.size, 2, none⟩) (Nat.le_refl _) _
  have hb27 := hb3.trans ((ob5.low.trans ((hb6.trans (hb7.mono hb6.size)).mono ob5.low.size)).mono hb3.size)
  generalize W6.heap.size = b3 at *
  generalize ((((W6.alloc (.cells #[.int .i64 0, .int .i64 0, .int .i64 0] 62)).setCell ⟨b3, 0, none⟩ (.int .i64 ((9 : Nat) : Int))).setCell ⟨b3, 1, none⟩ (.int .i64 ((2 : Nat) : Int))).setCell ⟨b3, 2, none⟩ (.int .i64 ((1 : Nat) : Int))) = W7 at *
  generalize hA : Act.put _ _ _ = a3
  have hz_a3 : a3.tmps.size = 188 := by rw [← hA]; simp only [size_put, hz_a2]
  have q1 : a3.eval (.tmp 1) = .slice A2 exB.length c2 := by rw [← hA]; exact (by simp [v1])
  have q2 : a3.eval (.tmp 2) = .int .i64 0 := by rw [← hA]; exact (by simp [v2])
  have q3 : a3.eval (.tmp 3) = .pointer (some ⟨b3, 0, none⟩) := by rw [← hA]; exact (by simp [hz_a2])
  have q4 : a3.eval (.tmp 4) = .int .i64 0 := by rw [← hA]; exact (by simp [hz_a2])
  have hd_a3 : a3.defers = [] := by rw [← hA]; simp only [defers_put, hd_a2]
  clear hA
  have hn1 : Below W7.heap.size W7 (W7.alloc (.cells #[strV [72, 48, 53, 51, 52, 48, 48], strV [82, 48, 48, 53, 48, 56, 51], strV [82, 48, 49, 53, 50, 48, 50], strV [82, 48, 50, 52, 57, 52, 51], strV [80, 48, 48, 53, 49, 56, 53], strV [80, 48, 49, 57, 55, 52, 56]] 9)) := (Below.refl _ W7).alloc (Nat.le_refl _) _
  have hst1 : StrsAt (W7.alloc (.cells #[strV [72, 48, 53, 51, 52, 48, 48], strV [82, 48, 48, 53, 48, 56, 51], strV [82, 48, 49, 53, 50, 48, 50], strV [82, 48, 50, 52, 57, 52, 51], strV [80, 48, 48, 53, 49, 56, 53], strV [80, 48, 49, 57, 55, 52, 56]] 9)) _ (some ⟨W7.heap.size, 0, none⟩) ex2L := strs_new rfl
  refine wpIn_seq (region_p 8 ?_)
  intro K hK
  refine ListK.bsl (i := 0) (ps := #[(0, strV [72, 48, 53, 51, 52, 48, 48]), (1, strV [82, 48, 48, 53, 48, 56, 51]), (2, strV [82, 48, 49, 53, 50, 48, 50]), (3, strV [82, 48, 50, 52, 57, 52, 51]), (4, strV [80, 48, 48, 53, 49, 56, 53]), (5, strV [80, 48, 49, 57, 55, 52, 56])]) (v := .slice (some ⟨W7.heap.size, 0, none⟩) 6 6) rfl (by simp) (bs36_6 _ _ _ _ _ _ W7) ?_
  refine ListK.call (i := 1) (vs := #[.slice (some ⟨W7.heap.size, 0, none⟩) 6 6]) rfl (enters_of Try.func42 (by kernel_rfl) rfl) (by simp [hz_a3]) ((left_any (some ⟨W7.heap.size, 0, none⟩) 6 ex2L (by decide +kernel) (by decide) _ hst1).mono ?_)
  rintro _ W8 ⟨v8, rfl, ob8⟩
  obtain ⟨A8, c8, rfl, hc8, hy8⟩ := ob8.bytes
  refine ⟨_, rfl, ?_⟩
  refine ListK.call (i := 2) (vs := #[.slice A8 (linesL ex2L).length c8]) rfl (enters_of Try.func30 (by kernel_rfl) rfl) (by simp [hz_a3]) ((gap_any A8 (linesL ex2L) c8 W8 hc8 (by decide +kernel) hy8).mono ?_)
  rintro _ W9 ⟨rfl, hb9⟩
  rw [n_gap]
  refine ⟨_, rfl, ?_⟩
  refine ListK.move (i := 3) (v := .tuple #[.int .i64 3, .int .i64 0]) rfl (by simp [hz_a3]) ?_
  refine ListK.extract (i := 4) (u := .tuple #[.int .i64 3, .int .i64 0]) (v := .int .i64 3) rfl (by simp [hz_a3]) (ex0 _ _ _) ?_
  refine ListK.extract (i := 5) (u := .tuple #[.int .i64 3, .int .i64 0]) (v := .int .i64 0) rfl (by simp [hz_a3]) (ex1 _ _ _) ?_
  refine ListK.assign (i := 6) (v := .int .i64 3) rfl (by simp [hz_a3]) ?_
  refine ListK.assign (i := 7) (v := .int .i64 0) rfl (by simp [hz_a3]) ?_
  refine ListK.done (hK _ _ ?_)
  clear hK K
  have hb79 := (hn1.trans (ob8.low.mono hn1.size)).trans (hb9.mono (Nat.le_trans hn1.size ob8.low.size))
  generalize hA : Act.put _ _ _ = a4
  have hz_a4 : a4.tmps.size = 188 := by rw [← hA]; simp only [size_put, hz_a3]
  have r1 : a4.eval (.tmp 1) = .slice A2 exB.length c2 := by rw [← hA]; exact (by simp [q1])
  have r2 : a4.eval (.tmp 2) = .int .i64 0 := by rw [← hA]; exact (by simp [q2])
  have r3 : a4.eval (.tmp 3) = .pointer (some ⟨b3, 0, none⟩) := by rw [← hA]; exact (by simp [q3])
  have r4 : a4.eval (.tmp 4) = .int .i64 0 := by rw [← hA]; exact (by simp [q4])
  have r5 : a4.eval (.tmp 5) = .int .i64 3 := by rw [← hA]; exact (by simp [hz_a3])
  have r6 : a4.eval (.tmp 6) = .int .i64 0 := by rw [← hA]; exact (by simp [hz_a3])
  have hd_a4 : a4.defers = [] := by rw [← hA]; simp only [defers_put, hd_a3]
  clear hA
  have hn2 : Below W9.heap.size W9 (W9.alloc (.cells #[strV [82, 48, 51, 52, 55, 51, 53], strV [82, 48, 48, 53, 48, 56, 51], strV [82, 48, 48, 53, 48, 56, 51]] 9)) := (Below.refl _ W9).alloc (Nat.le_refl _) _
  have hst2 : StrsAt (W9.alloc (.cells #[strV [82, 48, 51, 52, 55, 51, 53], strV [82, 48, 48, 53, 48, 56, 51], strV [82, 48, 48, 53, 48, 56, 51]] 9)) _ (some ⟨W9.heap.size, 0, none⟩) nJa := strs_new rfl
  refine wpIn_seq (region_p 10 ?_)
  intro K hK
  refine ListK.bsl (i := 0) (ps := #[(0, strV [82, 48, 51, 52, 55, 51, 53]), (1, strV [82, 48, 48, 53, 48, 56, 51]), (2, strV [82, 48, 48, 53, 48, 56, 51])]) (v := .slice (some ⟨W9.heap.size, 0, none⟩) 3 3) rfl (by simp) (bs36_3 _ _ _ W9) ?_
  refine ListK.call (i := 1) (vs := #[.slice (some ⟨W9.heap.size, 0, none⟩) 3 3]) rfl (enters_of Try.func42 (by kernel_rfl) rfl) (by simp [hz_a4]) ((left_any (some ⟨W9.heap.size, 0, none⟩) 3 nJa (by decide +kernel) (by decide) _ hst2).mono ?_)
  rintro _ W10 ⟨v10, rfl, ob10⟩
  obtain ⟨A10, c10, rfl, hc10, hy10⟩ := ob10.bytes
  have hn3 : Below W10.heap.size W10 (W10.alloc (.cells #[strV [80, 48, 49, 57, 55, 52, 56], strV [98, 97, 100], strV [72, 48, 53, 51, 52, 48, 48]] 9)) := (Below.refl _ W10).alloc (Nat.le_refl _) _
  have hst3 : StrsAt (W10.alloc (.cells #[strV [80, 48, 49, 57, 55, 52, 56], strV [98, 97, 100], strV [72, 48, 53, 51, 52, 48, 48]] 9)) _ (some ⟨W10.heap.size, 0, none⟩) nJb := strs_new rfl
  refine ⟨_, rfl, ?_⟩
  refine ListK.bsl (i := 2) (ps := #[(0, strV [80, 48, 49, 57, 55, 52, 56]), (1, strV [98, 97, 100]), (2, strV [72, 48, 53, 51, 52, 48, 48])]) (v := .slice (some ⟨W10.heap.size, 0, none⟩) 3 3) rfl (by simp) (bs36_3 _ _ _ W10) ?_
  refine ListK.call (i := 3) (vs := #[.slice (some ⟨W10.heap.size, 0, none⟩) 3 3]) rfl (enters_of Try.func42 (by kernel_rfl) rfl) (by simp [hz_a4]) ((left_any (some ⟨W10.heap.size, 0, none⟩) 3 nJb (by decide +kernel) (by decide) _ hst3).mono ?_)
  rintro _ W11 ⟨v11, rfl, ob11⟩
  obtain ⟨A11, c11, rfl, hc11, hy11⟩ := ob11.bytes
  have hb1011 := hn3.trans (ob11.low.mono hn3.size)
  refine ⟨_, rfl, ?_⟩
  refine ListK.call (i := 4) (vs := #[.slice A10 (linesL nJa).length c10, .slice A11 (linesL nJb).length c11]) rfl (enters_of Try.func39 (by kernel_rfl) rfl) (by simp [hz_a4]) ((join_any A10 A11 c10 c11 (linesL nJa) (linesL nJb) W11 hc10 (by decide +kernel) ((hy10.below hb1011 (Nat.le_refl _)).more hb1011.size) hc11 (by decide +kernel) hy11).mono ?_)
  rintro e W12 ⟨hb12, v12, rfl, _, hv1⟩
  have ob12 := hv1 n_jr
  rw [n_jo] at ob12
  rw [n_jr]
  obtain ⟨A12, c12, rfl, hc12, hy12⟩ := ob12.bytes
  refine ⟨_, rfl, ?_⟩
  refine ListK.move (i := 5) (v := .tuple #[.slice A12 nJo.length c12, .int .i64 0]) rfl (by simp [hz_a4]) ?_
  refine ListK.extract (i := 6) (u := .tuple #[.slice A12 nJo.length c12, .int .i64 0]) (v := .slice A12 nJo.length c12) rfl (by simp [hz_a4]) (ex0 _ _ _) ?_
  refine ListK.extract (i := 7) (u := .tuple #[.slice A12 nJo.length c12, .int .i64 0]) (v := .int .i64 0) rfl (by simp [hz_a4]) (ex1 _ _ _) ?_
  refine ListK.assign (i := 8) (v := .slice A12 nJo.length c12) rfl (by simp [hz_a4]) ?_
  refine ListK.assign (i := 9) (v := .int .i64 0) rfl (by simp [hz_a4]) ?_
  refine ListK.done (hK _ _ ?_)
  clear hK K
  have hb912 := (hn2.trans (ob10.low.mono hn2.size)).trans ((hb1011.trans (hb12.mono hb1011.size)).mono (Nat.le_trans hn2.size ob10.low.size))
  have hb712 := hb79.trans (hb912.mono hb79.size)
  have hb212 := hb27.trans (hb712.mono hb27.size)
  exact hN _ W12 A2 A12 c2 c12 b3 (by simp only [size_put, hz_a4]) (by simp only [defers_put, hd_a4]) (by simp [r1]) (by simp [r2]) (by simp [r3]) (by simp [r4]) (by simp [r5]) (by simp [r6]) (by simp [hz_a4]) (by simp [hz_a4]) hc2 ((hy2.below hb212 (Nat.le_refl _)).more hb212.size) hy12 (w3.below hb712 w3.lt) (hB2.trans (hb212.mono hB2.size))
end Go.Proofs.YtmdlmmfbcnkanaaR
