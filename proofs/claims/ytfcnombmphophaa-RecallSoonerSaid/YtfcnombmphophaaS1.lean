/- Texts for a law of package recall, behind the shared ones, part 1: the law's own contracts and plain words. -/
import Derived.Test.YtfcnombmphophaaF6
import Derived.Test.YtfcnombmphophaaF3
import Derived.OpenShut
import Derived.ChangeBook
import Derived.ChangeStays
import Derived.Deep.Frames
import Derived.ChangeOld

set_option linter.unusedVariables false

namespace Go.Proofs.Ytfcnombmphophaa
open Go.RowKit Go.Shelf
end Go.Proofs.Ytfcnombmphophaa
namespace Go.Proofs.Ytfcnombmphophaa
open Go.RowKit Go.Shelf
theorem stepE_le (l : List Sale) (d : Nat) (E : Nat → Int) (k e : Nat) : stepE l d E k e ≤ E e := by
  unfold stepE
  split
  · unfold upd
    split
    · rename_i h
      subst h
      omega
    · exact Int.le_refl _
  · exact Int.le_refl _
theorem foldE_le (l : List Sale) (d : Nat) : ∀ (ks : List Nat) (E : Nat → Int) (e : Nat), (ks.foldl (stepE l d) E) e ≤ E e
  | [], _, _ => Int.le_refl _
  | k :: ks, E, e => Int.le_trans (foldE_le l d ks (stepE l d E k) e) (stepE_le l d E k e)
theorem stepE_low {l : List Sale} {d k e : Nat} (hb : d.testBit k = false) (he : e ≤ d) (E : Nat → Int) : stepE l d E k e = E e := by
  unfold stepE
  split
  · unfold upd
    rw [if_neg (by have := or_gt hb; omega)]
  · rfl
theorem foldE_low {l : List Sale} {d e : Nat} (he : e ≤ d) : ∀ (ks : List Nat), (∀ k, k ∈ ks → d.testBit k = false) → ∀ E : Nat → Int, (ks.foldl (stepE l d) E) e = E e
  | [], _, _ => rfl
  | k :: ks, h, E => (foldE_low he ks (fun j hj => h j (List.mem_cons_of_mem _ hj)) _).trans (stepE_low (h k List.mem_cons_self) he E)
theorem foldE_hit {l : List Sale} {d k : Nat} : ∀ (ks : List Nat), (∀ j, j ∈ ks → d.testBit j = false) → k ∈ ks → ∀ E : Nat → Int, max (E d) (saleOf l k).lo ≤ (saleOf l k).hi → (ks.foldl (stepE l d) E) (d ||| 2 ^ k) ≤ max (E d) (saleOf l k).lo
  | [], _, h, _, _ => by cases h
  | j :: ks, hb, hk, E, hle => by
    by_cases e : j = k
    · subst e
      refine Int.le_trans (foldE_le l d ks _ _) ?_
      unfold stepE
      rw [if_pos hle]
      unfold upd
      rw [if_pos rfl]
      omega
    · have hk' : k ∈ ks := by
        rcases List.mem_cons.1 hk with h | h
        · exact absurd h.symm e
        · exact h
      have hd := stepE_low (l := l) (hb j List.mem_cons_self) (Nat.le_refl d) E
      have := foldE_hit ks (fun i hi => hb i (List.mem_cons_of_mem _ hi)) hk' (stepE l d E j) (by rw [hd]; exact hle)
      rwa [hd] at this
theorem next_bits (t : Int) (l : List Sale) (d : Nat) : ∀ k, k ∈ nextL t l d → d.testBit k = false := by
  intro k hk
  have := (List.mem_filter.1 hk).2
  simp [nextB] at this
  exact this.2.1
theorem earlyTo_low (t : Int) (l : List Sale) {e : Nat} : ∀ j, e ≤ j → earlyTo t l j e = earlyTo t l e e := by
  intro j
  induction j with
  | zero => intro h; rw [show e = 0 by omega]
  | succ j ih =>
    intro h
    by_cases e1 : e = j + 1
    · rw [e1]
    · rw [← ih (by omega)]
      conv => lhs; unfold earlyTo
      split
      · rfl
      · exact foldE_low (by omega) _ (next_bits t l j) _
theorem earlyTo_mono (t : Int) (l : List Sale) (e : Nat) : ∀ j i, earlyTo t l (j + i) e ≤ earlyTo t l j e
  | j, 0 => Int.le_refl _
  | j, i + 1 => by
    refine Int.le_trans ?_ (earlyTo_mono t l e j i)
    show earlyTo t l (j + i + 1) e ≤ _
    conv => lhs; unfold earlyTo
    split
    · exact Int.le_refl _
    · exact foldE_le l _ _ _ _
theorem early_at (t : Int) (l : List Sale) {d : Nat} (h : d < 2 ^ l.length) : early t l d = earlyTo t l d d := earlyTo_low t l _ (by omega)
/-- One sale on. -/
theorem early_step {t : Int} {l : List Sale} {d k : Nat} (hd : d < 2 ^ l.length) (h1 : early t l d ≠ 101) (hn : nextB t l d k = true) (hle : max (early t l d) (saleOf l k).lo ≤ (saleOf l k).hi) : early t l (d ||| 2 ^ k) ≤ max (early t l d) (saleOf l k).lo := by
  rw [early_at t l hd] at h1 hle ⊢
  have hk : k < l.length := by simp [nextB] at hn; exact hn.1
  have hm := earlyTo_mono t l (d ||| 2 ^ k) (d + 1) (2 ^ l.length - (d + 1))
  rw [show d + 1 + (2 ^ l.length - (d + 1)) = 2 ^ l.length by omega] at hm
  refine Int.le_trans hm ?_
  conv => lhs; unfold earlyTo
  rw [if_neg h1]
  exact foldE_hit _ (next_bits t l d) (List.mem_filter.2 ⟨List.mem_range.2 hk, hn⟩) _ hle
end Go.Proofs.Ytfcnombmphophaa
namespace Go.Proofs.Ytfcnombmphophaa
open Go.RowKit Go.Shelf
/-- A list of sales and a set of them, as one. -/
structure Same (t : Int) (l : List Sale) (pre : List Int) (d : Nat) : Prop where
  bits : ∀ m : Nat, d.testBit m = hasI pre m
  st : ∀ i : Nat, stocksOf t l d i = stockR t l pre i
  lt : d < 2 ^ l.length
  cnt : cnt d l.length = pre.length
theorem Same.zero (t : Int) (l : List Sale) : Same t l [] 0 := by
  refine ⟨fun m => by simp [hasI], fun i => ?_, Nat.two_pow_pos _, cnt_zero _⟩
  unfold stocksOf
  rw [stocksTo_zero]
  unfold stockR upd
  simp
end Go.Proofs.Ytfcnombmphophaa
namespace Go.Proofs.Ytfcnombmphophaa
open Go.RowKit Go.Shelf
end Go.Proofs.Ytfcnombmphophaa
namespace Go.Proofs.Ytfcnombmphophaa
open Go.RowKit Go.Shelf
end Go.Proofs.Ytfcnombmphophaa
namespace Go.Proofs.Ytfcnombmphophaa
open Go.RowKit Go.Shelf
set_option maxHeartbeats 1000000 in
theorem ready_any (o t : Int) (A : Option Addr) (l : List Sale) (c : Nat) (w : World) (hs : SalesAt w w.heap.size A l) :
    Calls Try.prog 41 #[.agg #[.int .i64 o, .int .i64 t, .slice A l.length c]] w (TP w (decide (l.length ≤ 12) && decide (fault o t l = 0))) := by
  have hB := (Below.refl w.heap.size w).alloc (Nat.le_refl _) (.cells #[.int .i64 o, .int .i64 t, .slice A l.length c] 24)
  have Hs := Lib.hid ((hs.below hB (Nat.le_refl _)).more (by simp : w.heap.size ≤ (w.alloc (.cells #[.int .i64 o, .int .i64 t, .slice A l.length c] 24)).heap.size))
  clear hs
  generalize hq : (decide (l.length ≤ 12) && decide (fault o t l = 0)) = res
  have HQ := Lib.hid hq
  clear hq
  by_cases hl : l.length ≤ 12
  · by_cases h0 : fault o t l = 0
    · go_enter Try.func41, Try.ntmps41
      go_wp2_with (go_at_call 21; refine (lawFault_any o t A l c _ hl Hs.out).mono ?_; rintro e w' ⟨rfl, hb⟩; rw [h0])
      go_ret
      exact ⟨by rw [← HQ.out]; simp [hl, h0], hB.trans (hb.mono (by simp))⟩
    · have HF := Lib.hid h0
      clear h0
      go_enter Try.func41, Try.ntmps41
      go_wp2_with (go_at_call 21; refine (lawFault_any o t A l c _ hl Hs.out).mono ?_; rintro e w' ⟨rfl, hb⟩)
      go_ret
      refine ⟨?_, hB.trans (hb.mono (by simp))⟩
      have := HF.out
      rw [← HQ.out]
      simp [hl, this]
  · go_enter Try.func41, Try.ntmps41
    go_wp2_with fail
    go_ret
    exact ⟨by rw [← HQ.out]; simp [hl], hB⟩
end Go.Proofs.Ytfcnombmphophaa
namespace Go.Proofs.Ytfcnombmphophaa
open Go.RowKit Go.Shelf
set_option maxRecDepth 100000 in
theorem cvu8 {k : Nat} (hk : k < 256) (w : World) : (convert 5 3 (.int .u8 k)).run Try.prog w = .ok (.int .i64 k) w := by
  have h1 : IntKind.i64.wrap (k : Int) = k := by
    rw [IntKind.wrap_i64]
    omega
  go_simp
theorem rem3r {x y : Operand} {m n r : Int} (h0 : 0 ≤ m) (h1 : 0 < n) (hr : m % n = r) (w : World) : (do eqGuard .rem 3 x y (.int .i64 m) (.int .i64 n); binOp .rem 3 (.int .i64 m) (.int .i64 n) : Sem Value).run Try.prog w = .ok (.int .i64 r) w := by
  have h2 : n ≠ 0 := by omega
  have h3 : m.tmod n = m % n := Int.tmod_eq_emod_of_nonneg h0
  have h4 : IntKind.i64.wrap (m % n) = m % n ∨ True := .inr trivial
  subst hr
  rw [← h3]
  go_simp
theorem OpW.conv {P : Program} {p : Value → World → Prop} {d : Nat} {a : Act} {w : World} {ty : TypeId} {pos : String} {aft : Array Edge} {gd : Option (Nat × Bool)} {v : Value} {s t : TypeId} {x : Operand} {u : Value} (hx : a.eval x = u) (hv : (convert s t u).run P w = .ok v w) (hp : p v w) :
    OpW P p ⟨some d, .convert s t x, ty, pos, aft, gd⟩ d a w := OpW.val rfl (by simp [execOp, hx, hv]) hp (Below.refl _ _)
theorem OpW.imp {P : Program} {p : Value → World → Prop} {d : Nat} {a : Act} {w : World} {o : Oper} {c : Prop} (h : OpW P p o d a w) : OpW P (fun v w => c → p v w) o d a w := by
  unfold OpW at *
  refine Oper.wp_mono (fun a' w' hh => ?_) h
  obtain ⟨v, h1, h2, h3⟩ := hh
  exact ⟨v, h1, fun _ => h2, h3⟩
theorem StableW.imp {p : Value → World → Prop} {c : Prop} (h : StableW p) : StableW (fun v w => c → p v w) := fun v w w' h1 h2 hc => h v w w' (h1 hc) h2
theorem gd_var {ops : Array Oper} {a : Act} {A B : Prop} {j e : Nat} {b c : Bool} (hj : (ops[j]?).bind (·.dst) = some e) (he : a.eval (.tmp e) = .bool c) (h1 : c = b → A) (h2 : c ≠ b → B) : Gd ops (some (j, b)) a A B :=
  ⟨e, c, hj, he, fun h => h1 (by simpa using h), fun h => h2 (by simpa using h)⟩
theorem between_u (x y : Int) (W : World) : Calls Try.prog 36 #[.int .i64 x, .int .i64 y] W fun e w' => ∃ u, e = .returned u ∧ u = .agg #[.int .i64 x, .int .i64 y] ∧ Below W.heap.size W w' := by
  refine (between_any x y W).mono ?_
  rintro e w' ⟨rfl, hb⟩
  exact ⟨_, rfl, rfl, hb⟩
theorem eql46T {x y : Operand} (a b : Int) (w : World) : (do eqGuard .eql 46 x y (.agg #[.int .i64 a, .int .i64 b]) (.agg #[.int .i64 a, .int .i64 b]); binOp .eql 46 (.agg #[.int .i64 a, .int .i64 b]) (.agg #[.int .i64 a, .int .i64 b]) : Sem Value).run Try.prog w = .ok (.bool true) w := by
  go_simp
theorem nqT {x y : Operand} {m n : Int} (h : m ≠ n) (w : World) : (do eqGuard .neq 27 x y (.int .i64 m) (.int .i64 n); binOp .neq 27 (.int .i64 m) (.int .i64 n) : Sem Value).run Try.prog w = .ok (.bool true) w := by
  rw [neq27]
  simp [h]
theorem nqF {x y : Operand} {m n : Int} (h : m = n) (w : World) : (do eqGuard .neq 27 x y (.int .i64 m) (.int .i64 n); binOp .neq 27 (.int .i64 m) (.int .i64 n) : Sem Value).run Try.prog w = .ok (.bool false) w := by
  rw [neq27]
  simp [h]
theorem eq3d {x y : Operand} (m n : Int) (w : World) : (do eqGuard .eql 3 x y (.int .i64 m) (.int .i64 n); binOp .eql 3 (.int .i64 m) (.int .i64 n) : Sem Value).run Try.prog w = .ok (.bool (decide (m = n))) w := by
  by_cases e : m = n
  · rw [eql3T e]
    simp [e]
  · rw [eql3F e]
    simp [e]
theorem wakes_w (w : World) : Calls Try.prog 16 #[] w fun e w' => ∃ u, e = .returned u ∧ u = .bool true ∧ Below w.heap.size w w' := by
  refine (wakes_any w).mono ?_
  rintro e w' ⟨rfl, hb⟩
  exact ⟨_, rfl, rfl, hb⟩
theorem triedE_valid {o t : Int} {l : List Sale} (hv : Valid o t l) : triedE o t l true = if fitsB t l = true then 0 else 9 := by
  unfold triedE
  rw [hv.fault]
  cases fitsB t l <;> simp
theorem holdsE_valid {o t : Int} {l : List Sale} (hv : Valid o t l) {ow day : Int} (h1 : 0 ≤ ow) (h2 : ow < o) (h3 : 0 ≤ day) (h4 : day ≤ 100) : holdsE o t l ow day = if fitsB t l = true then 0 else 9 := by
  have h : holdsOk o ow day = true := by
    unfold holdsOk
    have e : IntKind.i64.wrap (o - 1) = o - 1 := by
      have a := hv.o1
      have b := hv.o6
      rw [IntKind.wrap_i64]
      omega
    rw [e, inR_iff.2 ⟨h1, by omega⟩, inR_iff.2 ⟨h3, h4⟩]
    rfl
  unfold holdsE
  rw [h]
  exact triedE_valid hv
theorem holdsV_valid {o t : Int} {l : List Sale} (hv : Valid o t l) {ow day : Int} (h1 : 0 ≤ ow) (h2 : ow < o) (h3 : 0 ≤ day) (h4 : day ≤ 100) : holdsV o t l ow day = if fitsB t l = true then holdsR t l ow.toNat day else (0, 0) := by
  unfold holdsV
  rw [holdsE_valid hv h1 h2 h3 h4]
  cases fitsB t l <;> simp
end Go.Proofs.Ytfcnombmphophaa
namespace Go.Proofs.Ytfcnombmphophaa
open Go.RowKit Go.Shelf
noncomputable def opsSo3 : Array Oper := (Try.f11.body.bind (regionOf 3)).getD #[]
def wordsSo3 (b3 nd nw : Nat) (o on ow : Int) : Words := [fun v _ => v = .int .u8 nd, fun v _ => v = .int .i64 nd, fun v _ => v = .int .i64 on, fun v _ => v = .int .u8 nw, fun v _ => v = .int .i64 nw, fun v _ => v = .pointer (some ⟨b3, 0, none⟩), fun v _ => v = .int .i64 o, fun v _ => v = .int .i64 ow, fun v _ => v = .int .i64 on, fun v _ => v = .int .i64 ow]
set_option maxRecDepth 10000 in
theorem okSo3_0 {b3 nd nw : Nat} {o on ow : Int} {a : Act} {w : World} (t1 : a.eval (.tmp 1) = .int .u8 nd) (t2 : a.eval (.tmp 2) = .int .u8 nw) (t3 : a.eval (.tmp 3) = .pointer (some ⟨b3, 0, none⟩)) (q0 : w.cell? ⟨b3, 0, none⟩ = some (.int .i64 o)) (hnd : nd < 256) (hnw : nw < 256) (ho : 0 < o) (hon : (↑nd : Int) % 101 = on) (how : (↑nw : Int) % o = ow) : OpOk Try.prog opsSo3 (wordsSo3 b3 nd nw o on ow) 110 a w 0 := by
  refine OpOk.gen rfl (fun a1 w1 H => ?_)
  have e1 : a1.eval (.tmp 1) = .int .u8 nd := (H.out 1 (by kernel_rfl)).trans t1
  refine gd_none ?_
  exact OpW.move e1 rfl
set_option maxRecDepth 10000 in
theorem okSo3_1 {b3 nd nw : Nat} {o on ow : Int} {a : Act} {w : World} (t1 : a.eval (.tmp 1) = .int .u8 nd) (t2 : a.eval (.tmp 2) = .int .u8 nw) (t3 : a.eval (.tmp 3) = .pointer (some ⟨b3, 0, none⟩)) (q0 : w.cell? ⟨b3, 0, none⟩ = some (.int .i64 o)) (hnd : nd < 256) (hnw : nw < 256) (ho : 0 < o) (hon : (↑nd : Int) % 101 = on) (how : (↑nw : Int) % o = ow) : OpOk Try.prog opsSo3 (wordsSo3 b3 nd nw o on ow) 110 a w 1 := by
  refine OpOk.gen rfl (fun a1 w1 H => ?_)
  have d0 : a1.eval (.tmp 20) = .int .u8 nd := H.dep 0 20 rfl (by kernel_rfl)
  refine gd_none ?_
  exact OpW.conv d0 (cvu8 hnd _) rfl
set_option maxRecDepth 10000 in
theorem okSo3_2 {b3 nd nw : Nat} {o on ow : Int} {a : Act} {w : World} (t1 : a.eval (.tmp 1) = .int .u8 nd) (t2 : a.eval (.tmp 2) = .int .u8 nw) (t3 : a.eval (.tmp 3) = .pointer (some ⟨b3, 0, none⟩)) (q0 : w.cell? ⟨b3, 0, none⟩ = some (.int .i64 o)) (hnd : nd < 256) (hnw : nw < 256) (ho : 0 < o) (hon : (↑nd : Int) % 101 = on) (how : (↑nw : Int) % o = ow) : OpOk Try.prog opsSo3 (wordsSo3 b3 nd nw o on ow) 110 a w 2 := by
  refine OpOk.gen rfl (fun a1 w1 H => ?_)
  have d1 : a1.eval (.tmp 21) = .int .i64 nd := H.dep 1 21 rfl (by kernel_rfl)
  refine gd_none ?_
  exact OpW.bin d1 rfl (rem3r (by omega) (by omega) hon _) rfl
set_option maxRecDepth 10000 in
theorem okSo3_3 {b3 nd nw : Nat} {o on ow : Int} {a : Act} {w : World} (t1 : a.eval (.tmp 1) = .int .u8 nd) (t2 : a.eval (.tmp 2) = .int .u8 nw) (t3 : a.eval (.tmp 3) = .pointer (some ⟨b3, 0, none⟩)) (q0 : w.cell? ⟨b3, 0, none⟩ = some (.int .i64 o)) (hnd : nd < 256) (hnw : nw < 256) (ho : 0 < o) (hon : (↑nd : Int) % 101 = on) (how : (↑nw : Int) % o = ow) : OpOk Try.prog opsSo3 (wordsSo3 b3 nd nw o on ow) 110 a w 3 := by
  refine OpOk.gen rfl (fun a1 w1 H => ?_)
  have e2 : a1.eval (.tmp 2) = .int .u8 nw := (H.out 2 (by kernel_rfl)).trans t2
  refine gd_none ?_
  exact OpW.move e2 rfl
set_option maxRecDepth 10000 in
theorem okSo3_4 {b3 nd nw : Nat} {o on ow : Int} {a : Act} {w : World} (t1 : a.eval (.tmp 1) = .int .u8 nd) (t2 : a.eval (.tmp 2) = .int .u8 nw) (t3 : a.eval (.tmp 3) = .pointer (some ⟨b3, 0, none⟩)) (q0 : w.cell? ⟨b3, 0, none⟩ = some (.int .i64 o)) (hnd : nd < 256) (hnw : nw < 256) (ho : 0 < o) (hon : (↑nd : Int) % 101 = on) (how : (↑nw : Int) % o = ow) : OpOk Try.prog opsSo3 (wordsSo3 b3 nd nw o on ow) 110 a w 4 := by
  refine OpOk.gen rfl (fun a1 w1 H => ?_)
  have d3 : a1.eval (.tmp 23) = .int .u8 nw := H.dep 3 23 rfl (by kernel_rfl)
  refine gd_none ?_
  exact OpW.conv d3 (cvu8 hnw _) rfl
set_option maxRecDepth 10000 in
theorem okSo3_5 {b3 nd nw : Nat} {o on ow : Int} {a : Act} {w : World} (t1 : a.eval (.tmp 1) = .int .u8 nd) (t2 : a.eval (.tmp 2) = .int .u8 nw) (t3 : a.eval (.tmp 3) = .pointer (some ⟨b3, 0, none⟩)) (q0 : w.cell? ⟨b3, 0, none⟩ = some (.int .i64 o)) (hnd : nd < 256) (hnw : nw < 256) (ho : 0 < o) (hon : (↑nd : Int) % 101 = on) (how : (↑nw : Int) % o = ow) : OpOk Try.prog opsSo3 (wordsSo3 b3 nd nw o on ow) 110 a w 5 := by
  refine OpOk.gen rfl (fun a1 w1 H => ?_)
  have e3 : a1.eval (.tmp 3) = .pointer (some ⟨b3, 0, none⟩) := (H.out 3 (by kernel_rfl)).trans t3
  refine gd_none ?_
  exact OpW.field e3 (fa24_0 _) rfl
set_option maxRecDepth 10000 in
theorem okSo3_6 {b3 nd nw : Nat} {o on ow : Int} {a : Act} {w : World} (t1 : a.eval (.tmp 1) = .int .u8 nd) (t2 : a.eval (.tmp 2) = .int .u8 nw) (t3 : a.eval (.tmp 3) = .pointer (some ⟨b3, 0, none⟩)) (q0 : w.cell? ⟨b3, 0, none⟩ = some (.int .i64 o)) (hnd : nd < 256) (hnw : nw < 256) (ho : 0 < o) (hon : (↑nd : Int) % 101 = on) (how : (↑nw : Int) % o = ow) : OpOk Try.prog opsSo3 (wordsSo3 b3 nd nw o on ow) 110 a w 6 := by
  refine OpOk.gen rfl (fun a1 w1 H => ?_)
  have d5 : a1.eval (.tmp 25) = .pointer (some ⟨b3, 0, none⟩) := H.dep 5 25 rfl (by kernel_rfl)
  refine gd_none ?_
  exact OpW.load d5 (ld3 (H.cell q0)) rfl
set_option maxRecDepth 10000 in
theorem okSo3_7 {b3 nd nw : Nat} {o on ow : Int} {a : Act} {w : World} (t1 : a.eval (.tmp 1) = .int .u8 nd) (t2 : a.eval (.tmp 2) = .int .u8 nw) (t3 : a.eval (.tmp 3) = .pointer (some ⟨b3, 0, none⟩)) (q0 : w.cell? ⟨b3, 0, none⟩ = some (.int .i64 o)) (hnd : nd < 256) (hnw : nw < 256) (ho : 0 < o) (hon : (↑nd : Int) % 101 = on) (how : (↑nw : Int) % o = ow) : OpOk Try.prog opsSo3 (wordsSo3 b3 nd nw o on ow) 110 a w 7 := by
  refine OpOk.gen rfl (fun a1 w1 H => ?_)
  have d4 : a1.eval (.tmp 24) = .int .i64 nw := H.dep 4 24 rfl (by kernel_rfl)
  have d6 : a1.eval (.tmp 26) = .int .i64 o := H.dep 6 26 rfl (by kernel_rfl)
  refine gd_none ?_
  exact OpW.bin d4 d6 (rem3r (by omega) (by omega) how _) rfl
set_option maxRecDepth 10000 in
theorem okSo3_8 {b3 nd nw : Nat} {o on ow : Int} {a : Act} {w : World} (t1 : a.eval (.tmp 1) = .int .u8 nd) (t2 : a.eval (.tmp 2) = .int .u8 nw) (t3 : a.eval (.tmp 3) = .pointer (some ⟨b3, 0, none⟩)) (q0 : w.cell? ⟨b3, 0, none⟩ = some (.int .i64 o)) (hnd : nd < 256) (hnw : nw < 256) (ho : 0 < o) (hon : (↑nd : Int) % 101 = on) (how : (↑nw : Int) % o = ow) : OpOk Try.prog opsSo3 (wordsSo3 b3 nd nw o on ow) 110 a w 8 := by
  refine OpOk.gen rfl (fun a1 w1 H => ?_)
  have d2 : a1.eval (.tmp 22) = .int .i64 on := H.dep 2 22 rfl (by kernel_rfl)
  refine gd_none ?_
  exact OpW.assign d2 rfl
set_option maxRecDepth 10000 in
theorem okSo3_9 {b3 nd nw : Nat} {o on ow : Int} {a : Act} {w : World} (t1 : a.eval (.tmp 1) = .int .u8 nd) (t2 : a.eval (.tmp 2) = .int .u8 nw) (t3 : a.eval (.tmp 3) = .pointer (some ⟨b3, 0, none⟩)) (q0 : w.cell? ⟨b3, 0, none⟩ = some (.int .i64 o)) (hnd : nd < 256) (hnw : nw < 256) (ho : 0 < o) (hon : (↑nd : Int) % 101 = on) (how : (↑nw : Int) % o = ow) : OpOk Try.prog opsSo3 (wordsSo3 b3 nd nw o on ow) 110 a w 9 := by
  refine OpOk.gen rfl (fun a1 w1 H => ?_)
  have d7 : a1.eval (.tmp 27) = .int .i64 ow := H.dep 7 27 rfl (by kernel_rfl)
  refine gd_none ?_
  exact OpW.assign d7 rfl
set_option maxRecDepth 10000 in
theorem regionSo3 {F : Fence} {n : Nat} (hF : WideF F Try.prog) {Q : Exit → Act → World → Prop} {b3 nd nw : Nat} {o on ow : Int} {a : Act} {w : World} (hsz : a.tmps.size = 110)
    (t1 : a.eval (.tmp 1) = .int .u8 nd) (t2 : a.eval (.tmp 2) = .int .u8 nw) (t3 : a.eval (.tmp 3) = .pointer (some ⟨b3, 0, none⟩)) (q0 : w.cell? ⟨b3, 0, none⟩ = some (.int .i64 o)) (hnd : nd < 256) (hnw : nw < 256) (ho : 0 < o) (hon : (↑nd : Int) % 101 = on) (how : (↑nw : Int) % o = ow)
    (hK : ∀ (a' : Act) (w' : World), a'.tmps.size = 110 → a'.defers = a.defers → Below w.heap.size w w' → (∀ e, ndstB opsSo3 e = true → a'.eval (.tmp e) = a.eval (.tmp e)) → (∀ (j d : Nat), (opsSo3[j]?).bind (·.dst) = some d → (wordsSo3 b3 nd nw o on ow).at_ j (a'.eval (.tmp d)) w') → Q .normal a' w') :
    (Code.region 3 opsSo3 true).wpIn F n Try.prog Q a w := by
  refine region_S (wordsSo3 b3 nd nw o on ow) 110 hF (by kernel_rfl) Try.mixed (by kernel_rfl) (by kernel_rfl) ?_ hsz 10 (by kernel_rfl) ?_ hK
  · exact ⟨(fun _ _ _ h _ => h), (fun _ _ _ h _ => h), (fun _ _ _ h _ => h), (fun _ _ _ h _ => h), (fun _ _ _ h _ => h), (fun _ _ _ h _ => h), (fun _ _ _ h _ => h), (fun _ _ _ h _ => h), (fun _ _ _ h _ => h), (fun _ _ _ h _ => h), trivial⟩
  · exact ⟨⟨⟨⟨⟨⟨⟨⟨⟨⟨trivial, okSo3_0 t1 t2 t3 q0 hnd hnw ho hon how⟩, okSo3_1 t1 t2 t3 q0 hnd hnw ho hon how⟩, okSo3_2 t1 t2 t3 q0 hnd hnw ho hon how⟩, okSo3_3 t1 t2 t3 q0 hnd hnw ho hon how⟩, okSo3_4 t1 t2 t3 q0 hnd hnw ho hon how⟩, okSo3_5 t1 t2 t3 q0 hnd hnw ho hon how⟩, okSo3_6 t1 t2 t3 q0 hnd hnw ho hon how⟩, okSo3_7 t1 t2 t3 q0 hnd hnw ho hon how⟩, okSo3_8 t1 t2 t3 q0 hnd hnw ho hon how⟩, okSo3_9 t1 t2 t3 q0 hnd hnw ho hon how⟩
noncomputable def opsSo16 : Array Oper := (Try.f11.body.bind (regionOf 16)).getD #[]
def wordsSo16 (b3 p1 p2 : Nat) (t : Int) (e f : Bool) : Words := [fun v _ => v = .bool e, fun v _ => v = .bool e, fun v _ => e = false → v = .agg #[.int .i64 t, .int .i64 t], fun v _ => e = false → v = .pointer (some ⟨b3, 1, none⟩), fun v _ => e = false → v = .int .i64 t, fun v _ => e = false → v = .pointer (some ⟨b3, 1, none⟩), fun v _ => e = false → v = .int .i64 t, fun v _ => e = false → v = .agg #[.int .i64 t, .int .i64 t], fun v _ => e = false → v = .bool true, fun v _ => v = .bool true, fun v _ => v = .bool true, fun v _ => v = .bool f, fun v _ => v = .bool f, fun v _ => f = false → v = .agg #[.int .i64 0, .int .i64 0], fun v _ => f = false → v = .agg #[.int .i64 0, .int .i64 0], fun v _ => f = false → v = .bool true, fun v _ => v = .bool true, fun v _ => v = .bool true, fun v _ => v = .bool true, fun v _ => v = .bool true, fun v _ => v = .bool true, fun v _ => v = .bool true]
set_option maxRecDepth 10000 in
theorem okSo16_0 {b3 p1 p2 : Nat} {t : Int} {e f : Bool} {a : Act} {w : World} (t3 : a.eval (.tmp 3) = .pointer (some ⟨b3, 0, none⟩)) (t9 : a.eval (.tmp 9) = .pointer (some ⟨p1, 0, none⟩)) (t11 : a.eval (.tmp 11) = .pointer (some ⟨p2, 0, none⟩)) (t13 : a.eval (.tmp 13) = .bool e) (t14 : a.eval (.tmp 14) = .bool f) (q1 : w.cell? ⟨b3, 1, none⟩ = some (.int .i64 t)) (m0 : e = false → w.cell? ⟨p1, 0, none⟩ = some (.int .i64 t) ∧ w.cell? ⟨p1, 1, none⟩ = some (.int .i64 t)) (m1 : f = false → w.cell? ⟨p2, 0, none⟩ = some (.int .i64 0) ∧ w.cell? ⟨p2, 1, none⟩ = some (.int .i64 0)) : OpOk Try.prog opsSo16 (wordsSo16 b3 p1 p2 t e f) 110 a w 0 := by
  refine OpOk.gen rfl (fun a1 w1 H => ?_)
  have e13 : a1.eval (.tmp 13) = .bool e := (H.out 13 (by kernel_rfl)).trans t13
  refine gd_none ?_
  exact OpW.move e13 rfl
set_option maxRecDepth 10000 in
theorem okSo16_1 {b3 p1 p2 : Nat} {t : Int} {e f : Bool} {a : Act} {w : World} (t3 : a.eval (.tmp 3) = .pointer (some ⟨b3, 0, none⟩)) (t9 : a.eval (.tmp 9) = .pointer (some ⟨p1, 0, none⟩)) (t11 : a.eval (.tmp 11) = .pointer (some ⟨p2, 0, none⟩)) (t13 : a.eval (.tmp 13) = .bool e) (t14 : a.eval (.tmp 14) = .bool f) (q1 : w.cell? ⟨b3, 1, none⟩ = some (.int .i64 t)) (m0 : e = false → w.cell? ⟨p1, 0, none⟩ = some (.int .i64 t) ∧ w.cell? ⟨p1, 1, none⟩ = some (.int .i64 t)) (m1 : f = false → w.cell? ⟨p2, 0, none⟩ = some (.int .i64 0) ∧ w.cell? ⟨p2, 1, none⟩ = some (.int .i64 0)) : OpOk Try.prog opsSo16 (wordsSo16 b3 p1 p2 t e f) 110 a w 1 := by
  refine OpOk.gen rfl (fun a1 w1 H => ?_)
  have d0 : a1.eval (.tmp 89) = .bool e := H.dep 0 89 rfl (by kernel_rfl)
  refine gd_none ?_
  exact OpW.move d0 rfl
set_option maxRecDepth 10000 in
theorem okSo16_2 {b3 p1 p2 : Nat} {t : Int} {e f : Bool} {a : Act} {w : World} (t3 : a.eval (.tmp 3) = .pointer (some ⟨b3, 0, none⟩)) (t9 : a.eval (.tmp 9) = .pointer (some ⟨p1, 0, none⟩)) (t11 : a.eval (.tmp 11) = .pointer (some ⟨p2, 0, none⟩)) (t13 : a.eval (.tmp 13) = .bool e) (t14 : a.eval (.tmp 14) = .bool f) (q1 : w.cell? ⟨b3, 1, none⟩ = some (.int .i64 t)) (m0 : e = false → w.cell? ⟨p1, 0, none⟩ = some (.int .i64 t) ∧ w.cell? ⟨p1, 1, none⟩ = some (.int .i64 t)) (m1 : f = false → w.cell? ⟨p2, 0, none⟩ = some (.int .i64 0) ∧ w.cell? ⟨p2, 1, none⟩ = some (.int .i64 0)) : OpOk Try.prog opsSo16 (wordsSo16 b3 p1 p2 t e f) 110 a w 2 := by
  refine OpOk.gen rfl (fun a1 w1 H => ?_)
  have d1 : a1.eval (.tmp 90) = .bool e := H.dep 1 90 rfl (by kernel_rfl)
  have e9 : a1.eval (.tmp 9) = .pointer (some ⟨p1, 0, none⟩) := (H.out 9 (by kernel_rfl)).trans t9
  refine gd_var rfl d1 (fun hg => OpW.imp ?_) (fun hg h => absurd h hg)
  exact OpW.load e9 (ld46 ⟨H.cell (m0 hg).1, H.cell (m0 hg).2⟩) rfl
set_option maxRecDepth 10000 in
theorem okSo16_3 {b3 p1 p2 : Nat} {t : Int} {e f : Bool} {a : Act} {w : World} (t3 : a.eval (.tmp 3) = .pointer (some ⟨b3, 0, none⟩)) (t9 : a.eval (.tmp 9) = .pointer (some ⟨p1, 0, none⟩)) (t11 : a.eval (.tmp 11) = .pointer (some ⟨p2, 0, none⟩)) (t13 : a.eval (.tmp 13) = .bool e) (t14 : a.eval (.tmp 14) = .bool f) (q1 : w.cell? ⟨b3, 1, none⟩ = some (.int .i64 t)) (m0 : e = false → w.cell? ⟨p1, 0, none⟩ = some (.int .i64 t) ∧ w.cell? ⟨p1, 1, none⟩ = some (.int .i64 t)) (m1 : f = false → w.cell? ⟨p2, 0, none⟩ = some (.int .i64 0) ∧ w.cell? ⟨p2, 1, none⟩ = some (.int .i64 0)) : OpOk Try.prog opsSo16 (wordsSo16 b3 p1 p2 t e f) 110 a w 3 := by
  refine OpOk.gen rfl (fun a1 w1 H => ?_)
  have d1 : a1.eval (.tmp 90) = .bool e := H.dep 1 90 rfl (by kernel_rfl)
  have e3 : a1.eval (.tmp 3) = .pointer (some ⟨b3, 0, none⟩) := (H.out 3 (by kernel_rfl)).trans t3
  refine gd_var rfl d1 (fun hg => OpW.imp ?_) (fun hg h => absurd h hg)
  exact OpW.field e3 (fa24_1 _) rfl
set_option maxRecDepth 10000 in
theorem okSo16_4 {b3 p1 p2 : Nat} {t : Int} {e f : Bool} {a : Act} {w : World} (t3 : a.eval (.tmp 3) = .pointer (some ⟨b3, 0, none⟩)) (t9 : a.eval (.tmp 9) = .pointer (some ⟨p1, 0, none⟩)) (t11 : a.eval (.tmp 11) = .pointer (some ⟨p2, 0, none⟩)) (t13 : a.eval (.tmp 13) = .bool e) (t14 : a.eval (.tmp 14) = .bool f) (q1 : w.cell? ⟨b3, 1, none⟩ = some (.int .i64 t)) (m0 : e = false → w.cell? ⟨p1, 0, none⟩ = some (.int .i64 t) ∧ w.cell? ⟨p1, 1, none⟩ = some (.int .i64 t)) (m1 : f = false → w.cell? ⟨p2, 0, none⟩ = some (.int .i64 0) ∧ w.cell? ⟨p2, 1, none⟩ = some (.int .i64 0)) : OpOk Try.prog opsSo16 (wordsSo16 b3 p1 p2 t e f) 110 a w 4 := by
  refine OpOk.gen rfl (fun a1 w1 H => ?_)
  have d1 : a1.eval (.tmp 90) = .bool e := H.dep 1 90 rfl (by kernel_rfl)
  have d3 : e = false → a1.eval (.tmp 92) = .pointer (some ⟨b3, 1, none⟩) := H.dep 3 92 rfl (by kernel_rfl)
  refine gd_var rfl d1 (fun hg => OpW.imp ?_) (fun hg h => absurd h hg)
  replace d3 := d3 hg
  exact OpW.load d3 (ld3 (H.cell q1)) rfl
set_option maxRecDepth 10000 in
theorem okSo16_5 {b3 p1 p2 : Nat} {t : Int} {e f : Bool} {a : Act} {w : World} (t3 : a.eval (.tmp 3) = .pointer (some ⟨b3, 0, none⟩)) (t9 : a.eval (.tmp 9) = .pointer (some ⟨p1, 0, none⟩)) (t11 : a.eval (.tmp 11) = .pointer (some ⟨p2, 0, none⟩)) (t13 : a.eval (.tmp 13) = .bool e) (t14 : a.eval (.tmp 14) = .bool f) (q1 : w.cell? ⟨b3, 1, none⟩ = some (.int .i64 t)) (m0 : e = false → w.cell? ⟨p1, 0, none⟩ = some (.int .i64 t) ∧ w.cell? ⟨p1, 1, none⟩ = some (.int .i64 t)) (m1 : f = false → w.cell? ⟨p2, 0, none⟩ = some (.int .i64 0) ∧ w.cell? ⟨p2, 1, none⟩ = some (.int .i64 0)) : OpOk Try.prog opsSo16 (wordsSo16 b3 p1 p2 t e f) 110 a w 5 := by
  refine OpOk.gen rfl (fun a1 w1 H => ?_)
  have d1 : a1.eval (.tmp 90) = .bool e := H.dep 1 90 rfl (by kernel_rfl)
  have e3 : a1.eval (.tmp 3) = .pointer (some ⟨b3, 0, none⟩) := (H.out 3 (by kernel_rfl)).trans t3
  refine gd_var rfl d1 (fun hg => OpW.imp ?_) (fun hg h => absurd h hg)
  exact OpW.field e3 (fa24_1 _) rfl
set_option maxRecDepth 10000 in
theorem okSo16_6 {b3 p1 p2 : Nat} {t : Int} {e f : Bool} {a : Act} {w : World} (t3 : a.eval (.tmp 3) = .pointer (some ⟨b3, 0, none⟩)) (t9 : a.eval (.tmp 9) = .pointer (some ⟨p1, 0, none⟩)) (t11 : a.eval (.tmp 11) = .pointer (some ⟨p2, 0, none⟩)) (t13 : a.eval (.tmp 13) = .bool e) (t14 : a.eval (.tmp 14) = .bool f) (q1 : w.cell? ⟨b3, 1, none⟩ = some (.int .i64 t)) (m0 : e = false → w.cell? ⟨p1, 0, none⟩ = some (.int .i64 t) ∧ w.cell? ⟨p1, 1, none⟩ = some (.int .i64 t)) (m1 : f = false → w.cell? ⟨p2, 0, none⟩ = some (.int .i64 0) ∧ w.cell? ⟨p2, 1, none⟩ = some (.int .i64 0)) : OpOk Try.prog opsSo16 (wordsSo16 b3 p1 p2 t e f) 110 a w 6 := by
  refine OpOk.gen rfl (fun a1 w1 H => ?_)
  have d1 : a1.eval (.tmp 90) = .bool e := H.dep 1 90 rfl (by kernel_rfl)
  have d5 : e = false → a1.eval (.tmp 94) = .pointer (some ⟨b3, 1, none⟩) := H.dep 5 94 rfl (by kernel_rfl)
  refine gd_var rfl d1 (fun hg => OpW.imp ?_) (fun hg h => absurd h hg)
  replace d5 := d5 hg
  exact OpW.load d5 (ld3 (H.cell q1)) rfl
set_option maxRecDepth 10000 in
theorem okSo16_7 {b3 p1 p2 : Nat} {t : Int} {e f : Bool} {a : Act} {w : World} (t3 : a.eval (.tmp 3) = .pointer (some ⟨b3, 0, none⟩)) (t9 : a.eval (.tmp 9) = .pointer (some ⟨p1, 0, none⟩)) (t11 : a.eval (.tmp 11) = .pointer (some ⟨p2, 0, none⟩)) (t13 : a.eval (.tmp 13) = .bool e) (t14 : a.eval (.tmp 14) = .bool f) (q1 : w.cell? ⟨b3, 1, none⟩ = some (.int .i64 t)) (m0 : e = false → w.cell? ⟨p1, 0, none⟩ = some (.int .i64 t) ∧ w.cell? ⟨p1, 1, none⟩ = some (.int .i64 t)) (m1 : f = false → w.cell? ⟨p2, 0, none⟩ = some (.int .i64 0) ∧ w.cell? ⟨p2, 1, none⟩ = some (.int .i64 0)) : OpOk Try.prog opsSo16 (wordsSo16 b3 p1 p2 t e f) 110 a w 7 := by
  refine OpOk.gen rfl (fun a1 w1 H => ?_)
  have d1 : a1.eval (.tmp 90) = .bool e := H.dep 1 90 rfl (by kernel_rfl)
  have d4 : e = false → a1.eval (.tmp 93) = .int .i64 t := H.dep 4 93 rfl (by kernel_rfl)
  have d6 : e = false → a1.eval (.tmp 95) = .int .i64 t := H.dep 6 95 rfl (by kernel_rfl)
  refine gd_var rfl d1 (fun hg => OpW.imp ?_) (fun hg h => absurd h hg)
  replace d4 := d4 hg
  replace d6 := d6 hg
  exact OpW.call (vs := #[.int .i64 t, .int .i64 t]) (enters_of Try.func36 (by kernel_rfl) rfl) (by simp [d4, d6]) (between_u t t w1)
set_option maxRecDepth 10000 in
theorem okSo16_8 {b3 p1 p2 : Nat} {t : Int} {e f : Bool} {a : Act} {w : World} (t3 : a.eval (.tmp 3) = .pointer (some ⟨b3, 0, none⟩)) (t9 : a.eval (.tmp 9) = .pointer (some ⟨p1, 0, none⟩)) (t11 : a.eval (.tmp 11) = .pointer (some ⟨p2, 0, none⟩)) (t13 : a.eval (.tmp 13) = .bool e) (t14 : a.eval (.tmp 14) = .bool f) (q1 : w.cell? ⟨b3, 1, none⟩ = some (.int .i64 t)) (m0 : e = false → w.cell? ⟨p1, 0, none⟩ = some (.int .i64 t) ∧ w.cell? ⟨p1, 1, none⟩ = some (.int .i64 t)) (m1 : f = false → w.cell? ⟨p2, 0, none⟩ = some (.int .i64 0) ∧ w.cell? ⟨p2, 1, none⟩ = some (.int .i64 0)) : OpOk Try.prog opsSo16 (wordsSo16 b3 p1 p2 t e f) 110 a w 8 := by
  refine OpOk.gen rfl (fun a1 w1 H => ?_)
  have d1 : a1.eval (.tmp 90) = .bool e := H.dep 1 90 rfl (by kernel_rfl)
  have d2 : e = false → a1.eval (.tmp 91) = .agg #[.int .i64 t, .int .i64 t] := H.dep 2 91 rfl (by kernel_rfl)
  have d7 : e = false → a1.eval (.tmp 96) = .agg #[.int .i64 t, .int .i64 t] := H.dep 7 96 rfl (by kernel_rfl)
  refine gd_var rfl d1 (fun hg => OpW.imp ?_) (fun hg h => absurd h hg)
  replace d2 := d2 hg
  replace d7 := d7 hg
  exact OpW.bin d2 d7 (eql46T _ _ _) rfl
set_option maxRecDepth 10000 in
theorem okSo16_9 {b3 p1 p2 : Nat} {t : Int} {e f : Bool} {a : Act} {w : World} (t3 : a.eval (.tmp 3) = .pointer (some ⟨b3, 0, none⟩)) (t9 : a.eval (.tmp 9) = .pointer (some ⟨p1, 0, none⟩)) (t11 : a.eval (.tmp 11) = .pointer (some ⟨p2, 0, none⟩)) (t13 : a.eval (.tmp 13) = .bool e) (t14 : a.eval (.tmp 14) = .bool f) (q1 : w.cell? ⟨b3, 1, none⟩ = some (.int .i64 t)) (m0 : e = false → w.cell? ⟨p1, 0, none⟩ = some (.int .i64 t) ∧ w.cell? ⟨p1, 1, none⟩ = some (.int .i64 t)) (m1 : f = false → w.cell? ⟨p2, 0, none⟩ = some (.int .i64 0) ∧ w.cell? ⟨p2, 1, none⟩ = some (.int .i64 0)) : OpOk Try.prog opsSo16 (wordsSo16 b3 p1 p2 t e f) 110 a w 9 := by
  refine OpOk.gen rfl (fun a1 w1 H => ?_)
  have d1 : a1.eval (.tmp 90) = .bool e := H.dep 1 90 rfl (by kernel_rfl)
  have d8 : e = false → a1.eval (.tmp 97) = .bool true := H.dep 8 97 rfl (by kernel_rfl)
  refine gd_none ?_
  exact OpW.pick (b := e) d1 (by cases e <;> first | exact d8 rfl | rfl)
set_option maxRecDepth 10000 in
theorem okSo16_10 {b3 p1 p2 : Nat} {t : Int} {e f : Bool} {a : Act} {w : World} (t3 : a.eval (.tmp 3) = .pointer (some ⟨b3, 0, none⟩)) (t9 : a.eval (.tmp 9) = .pointer (some ⟨p1, 0, none⟩)) (t11 : a.eval (.tmp 11) = .pointer (some ⟨p2, 0, none⟩)) (t13 : a.eval (.tmp 13) = .bool e) (t14 : a.eval (.tmp 14) = .bool f) (q1 : w.cell? ⟨b3, 1, none⟩ = some (.int .i64 t)) (m0 : e = false → w.cell? ⟨p1, 0, none⟩ = some (.int .i64 t) ∧ w.cell? ⟨p1, 1, none⟩ = some (.int .i64 t)) (m1 : f = false → w.cell? ⟨p2, 0, none⟩ = some (.int .i64 0) ∧ w.cell? ⟨p2, 1, none⟩ = some (.int .i64 0)) : OpOk Try.prog opsSo16 (wordsSo16 b3 p1 p2 t e f) 110 a w 10 := by
  refine OpOk.gen rfl (fun a1 w1 H => ?_)
  have d9 : a1.eval (.tmp 98) = .bool true := H.dep 9 98 rfl (by kernel_rfl)
  refine gd_none ?_
  exact OpW.move d9 rfl
set_option maxRecDepth 10000 in
theorem okSo16_11 {b3 p1 p2 : Nat} {t : Int} {e f : Bool} {a : Act} {w : World} (t3 : a.eval (.tmp 3) = .pointer (some ⟨b3, 0, none⟩)) (t9 : a.eval (.tmp 9) = .pointer (some ⟨p1, 0, none⟩)) (t11 : a.eval (.tmp 11) = .pointer (some ⟨p2, 0, none⟩)) (t13 : a.eval (.tmp 13) = .bool e) (t14 : a.eval (.tmp 14) = .bool f) (q1 : w.cell? ⟨b3, 1, none⟩ = some (.int .i64 t)) (m0 : e = false → w.cell? ⟨p1, 0, none⟩ = some (.int .i64 t) ∧ w.cell? ⟨p1, 1, none⟩ = some (.int .i64 t)) (m1 : f = false → w.cell? ⟨p2, 0, none⟩ = some (.int .i64 0) ∧ w.cell? ⟨p2, 1, none⟩ = some (.int .i64 0)) : OpOk Try.prog opsSo16 (wordsSo16 b3 p1 p2 t e f) 110 a w 11 := by
  refine OpOk.gen rfl (fun a1 w1 H => ?_)
  have d10 : a1.eval (.tmp 99) = .bool true := H.dep 10 99 rfl (by kernel_rfl)
  have e14 : a1.eval (.tmp 14) = .bool f := (H.out 14 (by kernel_rfl)).trans t14
  refine gd_true rfl d10 ?_
  exact OpW.move e14 rfl
set_option maxRecDepth 10000 in
theorem okSo16_12 {b3 p1 p2 : Nat} {t : Int} {e f : Bool} {a : Act} {w : World} (t3 : a.eval (.tmp 3) = .pointer (some ⟨b3, 0, none⟩)) (t9 : a.eval (.tmp 9) = .pointer (some ⟨p1, 0, none⟩)) (t11 : a.eval (.tmp 11) = .pointer (some ⟨p2, 0, none⟩)) (t13 : a.eval (.tmp 13) = .bool e) (t14 : a.eval (.tmp 14) = .bool f) (q1 : w.cell? ⟨b3, 1, none⟩ = some (.int .i64 t)) (m0 : e = false → w.cell? ⟨p1, 0, none⟩ = some (.int .i64 t) ∧ w.cell? ⟨p1, 1, none⟩ = some (.int .i64 t)) (m1 : f = false → w.cell? ⟨p2, 0, none⟩ = some (.int .i64 0) ∧ w.cell? ⟨p2, 1, none⟩ = some (.int .i64 0)) : OpOk Try.prog opsSo16 (wordsSo16 b3 p1 p2 t e f) 110 a w 12 := by
  refine OpOk.gen rfl (fun a1 w1 H => ?_)
  have d10 : a1.eval (.tmp 99) = .bool true := H.dep 10 99 rfl (by kernel_rfl)
  have d11 : a1.eval (.tmp 100) = .bool f := H.dep 11 100 rfl (by kernel_rfl)
  refine gd_true rfl d10 ?_
  exact OpW.move d11 rfl
set_option maxRecDepth 10000 in
theorem okSo16_13 {b3 p1 p2 : Nat} {t : Int} {e f : Bool} {a : Act} {w : World} (t3 : a.eval (.tmp 3) = .pointer (some ⟨b3, 0, none⟩)) (t9 : a.eval (.tmp 9) = .pointer (some ⟨p1, 0, none⟩)) (t11 : a.eval (.tmp 11) = .pointer (some ⟨p2, 0, none⟩)) (t13 : a.eval (.tmp 13) = .bool e) (t14 : a.eval (.tmp 14) = .bool f) (q1 : w.cell? ⟨b3, 1, none⟩ = some (.int .i64 t)) (m0 : e = false → w.cell? ⟨p1, 0, none⟩ = some (.int .i64 t) ∧ w.cell? ⟨p1, 1, none⟩ = some (.int .i64 t)) (m1 : f = false → w.cell? ⟨p2, 0, none⟩ = some (.int .i64 0) ∧ w.cell? ⟨p2, 1, none⟩ = some (.int .i64 0)) : OpOk Try.prog opsSo16 (wordsSo16 b3 p1 p2 t e f) 110 a w 13 := by
  refine OpOk.gen rfl (fun a1 w1 H => ?_)
  have d12 : a1.eval (.tmp 101) = .bool f := H.dep 12 101 rfl (by kernel_rfl)
  have e11 : a1.eval (.tmp 11) = .pointer (some ⟨p2, 0, none⟩) := (H.out 11 (by kernel_rfl)).trans t11
  refine gd_var rfl d12 (fun hg => OpW.imp ?_) (fun hg h => absurd h hg)
  exact OpW.load e11 (ld46 ⟨H.cell (m1 hg).1, H.cell (m1 hg).2⟩) rfl
set_option maxRecDepth 10000 in
theorem okSo16_14 {b3 p1 p2 : Nat} {t : Int} {e f : Bool} {a : Act} {w : World} (t3 : a.eval (.tmp 3) = .pointer (some ⟨b3, 0, none⟩)) (t9 : a.eval (.tmp 9) = .pointer (some ⟨p1, 0, none⟩)) (t11 : a.eval (.tmp 11) = .pointer (some ⟨p2, 0, none⟩)) (t13 : a.eval (.tmp 13) = .bool e) (t14 : a.eval (.tmp 14) = .bool f) (q1 : w.cell? ⟨b3, 1, none⟩ = some (.int .i64 t)) (m0 : e = false → w.cell? ⟨p1, 0, none⟩ = some (.int .i64 t) ∧ w.cell? ⟨p1, 1, none⟩ = some (.int .i64 t)) (m1 : f = false → w.cell? ⟨p2, 0, none⟩ = some (.int .i64 0) ∧ w.cell? ⟨p2, 1, none⟩ = some (.int .i64 0)) : OpOk Try.prog opsSo16 (wordsSo16 b3 p1 p2 t e f) 110 a w 14 := by
  refine OpOk.gen rfl (fun a1 w1 H => ?_)
  have d12 : a1.eval (.tmp 101) = .bool f := H.dep 12 101 rfl (by kernel_rfl)
  refine gd_var rfl d12 (fun hg => OpW.imp ?_) (fun hg h => absurd h hg)
  exact OpW.call (vs := #[.int .i64 0, .int .i64 0]) (enters_of Try.func36 (by kernel_rfl) rfl) (by simp) (between_u 0 0 w1)
set_option maxRecDepth 10000 in
theorem okSo16_15 {b3 p1 p2 : Nat} {t : Int} {e f : Bool} {a : Act} {w : World} (t3 : a.eval (.tmp 3) = .pointer (some ⟨b3, 0, none⟩)) (t9 : a.eval (.tmp 9) = .pointer (some ⟨p1, 0, none⟩)) (t11 : a.eval (.tmp 11) = .pointer (some ⟨p2, 0, none⟩)) (t13 : a.eval (.tmp 13) = .bool e) (t14 : a.eval (.tmp 14) = .bool f) (q1 : w.cell? ⟨b3, 1, none⟩ = some (.int .i64 t)) (m0 : e = false → w.cell? ⟨p1, 0, none⟩ = some (.int .i64 t) ∧ w.cell? ⟨p1, 1, none⟩ = some (.int .i64 t)) (m1 : f = false → w.cell? ⟨p2, 0, none⟩ = some (.int .i64 0) ∧ w.cell? ⟨p2, 1, none⟩ = some (.int .i64 0)) : OpOk Try.prog opsSo16 (wordsSo16 b3 p1 p2 t e f) 110 a w 15 := by
  refine OpOk.gen rfl (fun a1 w1 H => ?_)
  have d12 : a1.eval (.tmp 101) = .bool f := H.dep 12 101 rfl (by kernel_rfl)
  have d13 : f = false → a1.eval (.tmp 102) = .agg #[.int .i64 0, .int .i64 0] := H.dep 13 102 rfl (by kernel_rfl)
  have d14 : f = false → a1.eval (.tmp 103) = .agg #[.int .i64 0, .int .i64 0] := H.dep 14 103 rfl (by kernel_rfl)
  refine gd_var rfl d12 (fun hg => OpW.imp ?_) (fun hg h => absurd h hg)
  replace d13 := d13 hg
  replace d14 := d14 hg
  exact OpW.bin d13 d14 (eql46T _ _ _) rfl
set_option maxRecDepth 10000 in
theorem okSo16_16 {b3 p1 p2 : Nat} {t : Int} {e f : Bool} {a : Act} {w : World} (t3 : a.eval (.tmp 3) = .pointer (some ⟨b3, 0, none⟩)) (t9 : a.eval (.tmp 9) = .pointer (some ⟨p1, 0, none⟩)) (t11 : a.eval (.tmp 11) = .pointer (some ⟨p2, 0, none⟩)) (t13 : a.eval (.tmp 13) = .bool e) (t14 : a.eval (.tmp 14) = .bool f) (q1 : w.cell? ⟨b3, 1, none⟩ = some (.int .i64 t)) (m0 : e = false → w.cell? ⟨p1, 0, none⟩ = some (.int .i64 t) ∧ w.cell? ⟨p1, 1, none⟩ = some (.int .i64 t)) (m1 : f = false → w.cell? ⟨p2, 0, none⟩ = some (.int .i64 0) ∧ w.cell? ⟨p2, 1, none⟩ = some (.int .i64 0)) : OpOk Try.prog opsSo16 (wordsSo16 b3 p1 p2 t e f) 110 a w 16 := by
  refine OpOk.gen rfl (fun a1 w1 H => ?_)
  have d10 : a1.eval (.tmp 99) = .bool true := H.dep 10 99 rfl (by kernel_rfl)
  have d12 : a1.eval (.tmp 101) = .bool f := H.dep 12 101 rfl (by kernel_rfl)
  have d15 : f = false → a1.eval (.tmp 104) = .bool true := H.dep 15 104 rfl (by kernel_rfl)
  refine gd_true rfl d10 ?_
  exact OpW.pick (b := f) d12 (by cases f <;> first | exact d15 rfl | rfl)
set_option maxRecDepth 10000 in
theorem okSo16_17 {b3 p1 p2 : Nat} {t : Int} {e f : Bool} {a : Act} {w : World} (t3 : a.eval (.tmp 3) = .pointer (some ⟨b3, 0, none⟩)) (t9 : a.eval (.tmp 9) = .pointer (some ⟨p1, 0, none⟩)) (t11 : a.eval (.tmp 11) = .pointer (some ⟨p2, 0, none⟩)) (t13 : a.eval (.tmp 13) = .bool e) (t14 : a.eval (.tmp 14) = .bool f) (q1 : w.cell? ⟨b3, 1, none⟩ = some (.int .i64 t)) (m0 : e = false → w.cell? ⟨p1, 0, none⟩ = some (.int .i64 t) ∧ w.cell? ⟨p1, 1, none⟩ = some (.int .i64 t)) (m1 : f = false → w.cell? ⟨p2, 0, none⟩ = some (.int .i64 0) ∧ w.cell? ⟨p2, 1, none⟩ = some (.int .i64 0)) : OpOk Try.prog opsSo16 (wordsSo16 b3 p1 p2 t e f) 110 a w 17 := by
  refine OpOk.gen rfl (fun a1 w1 H => ?_)
  have d10 : a1.eval (.tmp 99) = .bool true := H.dep 10 99 rfl (by kernel_rfl)
  have d16 : a1.eval (.tmp 105) = .bool true := H.dep 16 105 rfl (by kernel_rfl)
  refine gd_none ?_
  exact OpW.pick (b := true) d10 d16
set_option maxRecDepth 10000 in
theorem okSo16_18 {b3 p1 p2 : Nat} {t : Int} {e f : Bool} {a : Act} {w : World} (t3 : a.eval (.tmp 3) = .pointer (some ⟨b3, 0, none⟩)) (t9 : a.eval (.tmp 9) = .pointer (some ⟨p1, 0, none⟩)) (t11 : a.eval (.tmp 11) = .pointer (some ⟨p2, 0, none⟩)) (t13 : a.eval (.tmp 13) = .bool e) (t14 : a.eval (.tmp 14) = .bool f) (q1 : w.cell? ⟨b3, 1, none⟩ = some (.int .i64 t)) (m0 : e = false → w.cell? ⟨p1, 0, none⟩ = some (.int .i64 t) ∧ w.cell? ⟨p1, 1, none⟩ = some (.int .i64 t)) (m1 : f = false → w.cell? ⟨p2, 0, none⟩ = some (.int .i64 0) ∧ w.cell? ⟨p2, 1, none⟩ = some (.int .i64 0)) : OpOk Try.prog opsSo16 (wordsSo16 b3 p1 p2 t e f) 110 a w 18 := by
  refine OpOk.gen rfl (fun a1 w1 H => ?_)
  have d17 : a1.eval (.tmp 106) = .bool true := H.dep 17 106 rfl (by kernel_rfl)
  refine gd_none ?_
  exact OpW.move d17 rfl
set_option maxRecDepth 10000 in
theorem okSo16_19 {b3 p1 p2 : Nat} {t : Int} {e f : Bool} {a : Act} {w : World} (t3 : a.eval (.tmp 3) = .pointer (some ⟨b3, 0, none⟩)) (t9 : a.eval (.tmp 9) = .pointer (some ⟨p1, 0, none⟩)) (t11 : a.eval (.tmp 11) = .pointer (some ⟨p2, 0, none⟩)) (t13 : a.eval (.tmp 13) = .bool e) (t14 : a.eval (.tmp 14) = .bool f) (q1 : w.cell? ⟨b3, 1, none⟩ = some (.int .i64 t)) (m0 : e = false → w.cell? ⟨p1, 0, none⟩ = some (.int .i64 t) ∧ w.cell? ⟨p1, 1, none⟩ = some (.int .i64 t)) (m1 : f = false → w.cell? ⟨p2, 0, none⟩ = some (.int .i64 0) ∧ w.cell? ⟨p2, 1, none⟩ = some (.int .i64 0)) : OpOk Try.prog opsSo16 (wordsSo16 b3 p1 p2 t e f) 110 a w 19 := by
  refine OpOk.gen rfl (fun a1 w1 H => ?_)
  have d18 : a1.eval (.tmp 107) = .bool true := H.dep 18 107 rfl (by kernel_rfl)
  refine gd_true rfl d18 ?_
  exact OpW.call (vs := #[]) (enters_of Try.func16 (by kernel_rfl) rfl) (by simp) (wakes_w w1)
set_option maxRecDepth 10000 in
theorem okSo16_20 {b3 p1 p2 : Nat} {t : Int} {e f : Bool} {a : Act} {w : World} (t3 : a.eval (.tmp 3) = .pointer (some ⟨b3, 0, none⟩)) (t9 : a.eval (.tmp 9) = .pointer (some ⟨p1, 0, none⟩)) (t11 : a.eval (.tmp 11) = .pointer (some ⟨p2, 0, none⟩)) (t13 : a.eval (.tmp 13) = .bool e) (t14 : a.eval (.tmp 14) = .bool f) (q1 : w.cell? ⟨b3, 1, none⟩ = some (.int .i64 t)) (m0 : e = false → w.cell? ⟨p1, 0, none⟩ = some (.int .i64 t) ∧ w.cell? ⟨p1, 1, none⟩ = some (.int .i64 t)) (m1 : f = false → w.cell? ⟨p2, 0, none⟩ = some (.int .i64 0) ∧ w.cell? ⟨p2, 1, none⟩ = some (.int .i64 0)) : OpOk Try.prog opsSo16 (wordsSo16 b3 p1 p2 t e f) 110 a w 20 := by
  refine OpOk.gen rfl (fun a1 w1 H => ?_)
  have d18 : a1.eval (.tmp 107) = .bool true := H.dep 18 107 rfl (by kernel_rfl)
  have d19 : a1.eval (.tmp 108) = .bool true := H.dep 19 108 rfl (by kernel_rfl)
  refine gd_none ?_
  exact OpW.pick (b := true) d18 d19
set_option maxRecDepth 10000 in
theorem okSo16_21 {b3 p1 p2 : Nat} {t : Int} {e f : Bool} {a : Act} {w : World} (t3 : a.eval (.tmp 3) = .pointer (some ⟨b3, 0, none⟩)) (t9 : a.eval (.tmp 9) = .pointer (some ⟨p1, 0, none⟩)) (t11 : a.eval (.tmp 11) = .pointer (some ⟨p2, 0, none⟩)) (t13 : a.eval (.tmp 13) = .bool e) (t14 : a.eval (.tmp 14) = .bool f) (q1 : w.cell? ⟨b3, 1, none⟩ = some (.int .i64 t)) (m0 : e = false → w.cell? ⟨p1, 0, none⟩ = some (.int .i64 t) ∧ w.cell? ⟨p1, 1, none⟩ = some (.int .i64 t)) (m1 : f = false → w.cell? ⟨p2, 0, none⟩ = some (.int .i64 0) ∧ w.cell? ⟨p2, 1, none⟩ = some (.int .i64 0)) : OpOk Try.prog opsSo16 (wordsSo16 b3 p1 p2 t e f) 110 a w 21 := by
  refine OpOk.gen rfl (fun a1 w1 H => ?_)
  have d20 : a1.eval (.tmp 109) = .bool true := H.dep 20 109 rfl (by kernel_rfl)
  refine gd_none ?_
  exact OpW.assign d20 rfl
set_option maxRecDepth 10000 in
theorem regionSo16 {F : Fence} {n : Nat} (hF : WideF F Try.prog) {Q : Exit → Act → World → Prop} {b3 p1 p2 : Nat} {t : Int} {e f : Bool} {a : Act} {w : World} (hsz : a.tmps.size = 110)
    (t3 : a.eval (.tmp 3) = .pointer (some ⟨b3, 0, none⟩)) (t9 : a.eval (.tmp 9) = .pointer (some ⟨p1, 0, none⟩)) (t11 : a.eval (.tmp 11) = .pointer (some ⟨p2, 0, none⟩)) (t13 : a.eval (.tmp 13) = .bool e) (t14 : a.eval (.tmp 14) = .bool f) (q1 : w.cell? ⟨b3, 1, none⟩ = some (.int .i64 t)) (m0 : e = false → w.cell? ⟨p1, 0, none⟩ = some (.int .i64 t) ∧ w.cell? ⟨p1, 1, none⟩ = some (.int .i64 t)) (m1 : f = false → w.cell? ⟨p2, 0, none⟩ = some (.int .i64 0) ∧ w.cell? ⟨p2, 1, none⟩ = some (.int .i64 0))
    (hK : ∀ (a' : Act) (w' : World), a'.tmps.size = 110 → a'.defers = a.defers → Below w.heap.size w w' → (∀ e, ndstB opsSo16 e = true → a'.eval (.tmp e) = a.eval (.tmp e)) → (∀ (j d : Nat), (opsSo16[j]?).bind (·.dst) = some d → (wordsSo16 b3 p1 p2 t e f).at_ j (a'.eval (.tmp d)) w') → Q .normal a' w') :
    (Code.region 16 opsSo16 true).wpIn F n Try.prog Q a w := by
  refine region_S (wordsSo16 b3 p1 p2 t e f) 110 hF (by kernel_rfl) Try.mixed (by kernel_rfl) (by kernel_rfl) ?_ hsz 22 (by kernel_rfl) ?_ hK
  · exact ⟨(fun _ _ _ h _ => h), (fun _ _ _ h _ => h), (StableW.imp (fun _ _ _ h _ => h)), (StableW.imp (fun _ _ _ h _ => h)), (StableW.imp (fun _ _ _ h _ => h)), (StableW.imp (fun _ _ _ h _ => h)), (StableW.imp (fun _ _ _ h _ => h)), (StableW.imp (fun _ _ _ h _ => h)), (StableW.imp (fun _ _ _ h _ => h)), (fun _ _ _ h _ => h), (fun _ _ _ h _ => h), (fun _ _ _ h _ => h), (fun _ _ _ h _ => h), (StableW.imp (fun _ _ _ h _ => h)), (StableW.imp (fun _ _ _ h _ => h)), (StableW.imp (fun _ _ _ h _ => h)), (fun _ _ _ h _ => h), (fun _ _ _ h _ => h), (fun _ _ _ h _ => h), (fun _ _ _ h _ => h), (fun _ _ _ h _ => h), (fun _ _ _ h _ => h), trivial⟩
  · exact ⟨⟨⟨⟨⟨⟨⟨⟨⟨⟨⟨⟨⟨⟨⟨⟨⟨⟨⟨⟨⟨⟨trivial, okSo16_0 t3 t9 t11 t13 t14 q1 m0 m1⟩, okSo16_1 t3 t9 t11 t13 t14 q1 m0 m1⟩, okSo16_2 t3 t9 t11 t13 t14 q1 m0 m1⟩, okSo16_3 t3 t9 t11 t13 t14 q1 m0 m1⟩, okSo16_4 t3 t9 t11 t13 t14 q1 m0 m1⟩, okSo16_5 t3 t9 t11 t13 t14 q1 m0 m1⟩, okSo16_6 t3 t9 t11 t13 t14 q1 m0 m1⟩, okSo16_7 t3 t9 t11 t13 t14 q1 m0 m1⟩, okSo16_8 t3 t9 t11 t13 t14 q1 m0 m1⟩, okSo16_9 t3 t9 t11 t13 t14 q1 m0 m1⟩, okSo16_10 t3 t9 t11 t13 t14 q1 m0 m1⟩, okSo16_11 t3 t9 t11 t13 t14 q1 m0 m1⟩, okSo16_12 t3 t9 t11 t13 t14 q1 m0 m1⟩, okSo16_13 t3 t9 t11 t13 t14 q1 m0 m1⟩, okSo16_14 t3 t9 t11 t13 t14 q1 m0 m1⟩, okSo16_15 t3 t9 t11 t13 t14 q1 m0 m1⟩, okSo16_16 t3 t9 t11 t13 t14 q1 m0 m1⟩, okSo16_17 t3 t9 t11 t13 t14 q1 m0 m1⟩, okSo16_18 t3 t9 t11 t13 t14 q1 m0 m1⟩, okSo16_19 t3 t9 t11 t13 t14 q1 m0 m1⟩, okSo16_20 t3 t9 t11 t13 t14 q1 m0 m1⟩, okSo16_21 t3 t9 t11 t13 t14 q1 m0 m1⟩
end Go.Proofs.Ytfcnombmphophaa
namespace Go.Proofs.Ytfcnombmphophaa
open Go.RowKit Go.Shelf
/-- Sales, each on a day, one behind another: from stocks, the last day being x. -/
def GoP (l : List Sale) : (Nat → Int) → Int → List (Nat × Int) → Prop
  | _, _, [] => True
  | st, x, p :: ps => (saleOf l p.1).many ≤ st (saleOf l p.1).src.toNat ∧ (saleOf l p.1).lo ≤ p.2 ∧ p.2 ≤ (saleOf l p.1).hi ∧ x ≤ p.2 ∧ GoP l (sold st (saleOf l p.1)) p.2 ps
/-- All are other sales, none of them in d. -/
def Fresh (l : List Sale) : Nat → List (Nat × Int) → Prop
  | _, [] => True
  | d, p :: ps => p.1 < l.length ∧ d.testBit p.1 = false ∧ Fresh l (d ||| 2 ^ p.1) ps
def dset (d : Nat) (ps : List (Nat × Int)) : Nat := ps.foldl (fun d p => d ||| 2 ^ p.1) d
def lastD (x : Int) (ps : List (Nat × Int)) : Int := ps.foldl (fun _ p => p.2) x
@[simp] theorem dset_nil (d : Nat) : dset d [] = d := rfl
@[simp] theorem dset_cons (d : Nat) (p : Nat × Int) (ps : List (Nat × Int)) : dset d (p :: ps) = dset (d ||| 2 ^ p.1) ps := rfl
@[simp] theorem lastD_nil (x : Int) : lastD x [] = x := rfl
@[simp] theorem lastD_cons (x : Int) (p : Nat × Int) (ps : List (Nat × Int)) : lastD x (p :: ps) = lastD p.2 ps := rfl
theorem dset_app (d : Nat) (ps qs : List (Nat × Int)) : dset d (ps ++ qs) = dset (dset d ps) qs := List.foldl_append
theorem Fresh.app {l : List Sale} : ∀ {ps qs : List (Nat × Int)} {d : Nat}, Fresh l d (ps ++ qs) ↔ Fresh l d ps ∧ Fresh l (dset d ps) qs
  | [], _, _ => by simp [Fresh]
  | p :: ps, qs, d => by
    simp only [List.cons_append, Fresh, dset_cons]
    rw [Fresh.app (ps := ps)]
    exact ⟨fun ⟨a, b, c, e⟩ => ⟨⟨a, b, c⟩, e⟩, fun ⟨⟨a, b, c⟩, e⟩ => ⟨a, b, c, e⟩⟩
theorem Fresh.lt {l : List Sale} : ∀ {ps : List (Nat × Int)} {d : Nat}, d < 2 ^ l.length → Fresh l d ps → dset d ps < 2 ^ l.length
  | [], _, h, _ => h
  | p :: ps, d, h, ⟨a, _, c⟩ => by
    rw [dset_cons]
    exact Fresh.lt (Nat.or_lt_two_pow h (Nat.pow_lt_pow_right (by omega) a)) c
theorem GoP.app {t : Int} {l : List Sale} : ∀ {ps qs : List (Nat × Int)} {d : Nat} {x : Int}, Fresh l d ps → (GoP l (stocksOf t l d) x (ps ++ qs) ↔ GoP l (stocksOf t l d) x ps ∧ GoP l (stocksOf t l (dset d ps)) (lastD x ps) qs)
  | [], _, _, _, _ => by simp [GoP]
  | p :: ps, qs, d, x, ⟨a, b, c⟩ => by
    simp only [List.cons_append, GoP, dset_cons, lastD_cons]
    rw [← stocksOf_or b a, GoP.app (ps := ps) c]
    exact ⟨fun ⟨a, b, c, e, f, g⟩ => ⟨⟨a, b, c, e, f⟩, g⟩, fun ⟨⟨a, b, c, e, f⟩, g⟩ => ⟨a, b, c, e, f, g⟩⟩
theorem GoP.mono {l : List Sale} : ∀ {ps : List (Nat × Int)} {st : Nat → Int} {x : Int}, GoP l st x ps → x ≤ lastD x ps ∧ ∀ p, p ∈ ps → x ≤ p.2 ∧ p.2 ≤ lastD x ps ∧ (saleOf l p.1).lo ≤ p.2 ∧ p.2 ≤ (saleOf l p.1).hi
  | [], _, x, _ => ⟨Int.le_refl _, fun p h => (by cases h)⟩
  | p :: ps, st, x, ⟨_, a, b, c, d⟩ => by
    obtain ⟨h1, h2⟩ := GoP.mono d
    rw [lastD_cons]
    refine ⟨by omega, fun q hq => ?_⟩
    rcases List.mem_cons.1 hq with rfl | hq
    · exact ⟨c, h1, a, b⟩
    · have := h2 q hq
      omega
theorem GoP.low {l : List Sale} {ps : List (Nat × Int)} {st : Nat → Int} {x y : Int} (h : GoP l st x ps) (hy : ∀ p, p ∈ ps → y ≤ p.2) : GoP l st y ps := by
  cases ps with
  | nil => trivial
  | cons p ps => exact ⟨h.1, h.2.1, h.2.2.1, hy p List.mem_cons_self, h.2.2.2.2⟩
theorem saleOf_valid {o t : Int} {l : List Sale} (hv : Valid o t l) {n : Nat} (hn : n < l.length) : 0 ≤ (saleOf l n).src ∧ (saleOf l n).src < o ∧ 0 ≤ (saleOf l n).dst ∧ (saleOf l n).dst < o ∧ (saleOf l n).src ≠ (saleOf l n).dst ∧ 1 ≤ (saleOf l n).many ∧ (saleOf l n).many ≤ 1000 ∧ 0 ≤ (saleOf l n).lo ∧ (saleOf l n).lo ≤ (saleOf l n).hi ∧ (saleOf l n).hi ≤ 100 := by
  have := hv.at_ (List.getElem?_eq_getElem hn)
  rwa [← saleOf_eq (List.getElem?_eq_getElem hn)] at this
/-- A run begins no sooner than the table says. -/
theorem go_early {o t : Int} {l : List Sale} (hv : Valid o t l) : ∀ {ps : List (Nat × Int)} {d : Nat} {x : Int}, d < 2 ^ l.length → Fresh l d ps → GoP l (stocksOf t l d) x ps → early t l d ≤ x → x ≤ 100 → early t l (dset d ps) ≤ lastD x ps ∧ lastD x ps ≤ 100
  | [], _, _, _, _, _, h, h2 => ⟨h, h2⟩
  | p :: ps, d, x, hd, ⟨f1, f2, f3⟩, ⟨g1, g2, g3, g4, g5⟩, h, h2 => by
    have hf := saleOf_valid hv f1
    rw [← stocksOf_or f2 f1] at g5
    have hs := early_step (t := t) (k := p.1) hd (by omega) (by unfold nextB; simp [f1, f2, g1]) (by omega)
    rw [dset_cons, lastD_cons]
    exact go_early hv (ps := ps) (d := d ||| 2 ^ p.1) (Nat.or_lt_two_pow hd (Nat.pow_lt_pow_right (by omega) f1)) f3 g5 (by omega) (by omega)
theorem run_go {t : Int} {l : List Sale} {d' : Nat} {x' : Int} : ∀ (ns : List Nat) (d : Nat) (x : Int), RunTo t l d x ns d' x' → ∃ ps, Fresh l d ps ∧ dset d ps = d' ∧ GoP l (stocksOf t l d) x ps ∧ lastD x ps = x'
  | [], d, x, ⟨h1, h2⟩ => ⟨[], trivial, h1, trivial, h2⟩
  | n :: ns, d, x, ⟨h1, h2, h3⟩ => by
    obtain ⟨hn, hb, hm⟩ := nextB_facts h1
    obtain ⟨ps, a, b, c, e⟩ := run_go ns _ _ h3
    rw [stocksOf_or hb hn] at c
    exact ⟨(n, max x (saleOf l n).lo) :: ps, ⟨hn, hb, a⟩, b, ⟨hm, Int.le_max_right _ _, h2, Int.le_max_left _ _, c⟩, e⟩
/-- The first day of a set is reached. -/
theorem early_go {o t : Int} {l : List Sale} (hv : Valid o t l) {d : Nat} (h : early t l d ≠ 101) : ∃ ps, Fresh l 0 ps ∧ dset 0 ps = d ∧ GoP l (stocksOf t l 0) 0 ps ∧ lastD 0 ps = early t l d := by
  obtain ⟨ns, hns⟩ := early_run hv _ d h
  exact run_go ns 0 0 hns
/-! The table of last days. -/
theorem stepL_other {l : List Sale} {d e k : Nat} (L : Nat → Int) (h : e ≠ d) : stepL l d L k e = L e := by
  unfold stepL
  split
  · unfold upd
    rw [if_neg h]
  · rfl
theorem foldL_other {l : List Sale} {d e : Nat} (h : e ≠ d) : ∀ (ks : List Nat) (L : Nat → Int), (ks.foldl (stepL l d) L) e = L e
  | [], _ => rfl
  | k :: ks, L => (foldL_other h ks _).trans (stepL_other L h)
/-- What one sale says of the last day of d. -/
def lastOf (l : List Sale) (L : Nat → Int) (d k : Nat) : Int := min (L (d ||| 2 ^ k)) (saleOf l k).hi
theorem foldL_spec {l : List Sale} {d : Nat} : ∀ (ks : List Nat), (∀ k, k ∈ ks → d.testBit k = false) → ∀ L : Nat → Int,
    (∀ k, k ∈ ks → (saleOf l k).lo ≤ lastOf l L d k → lastOf l L d k ≤ (ks.foldl (stepL l d) L) d) ∧ L d ≤ (ks.foldl (stepL l d) L) d ∧
    ((ks.foldl (stepL l d) L) d = L d ∨ ∃ k, k ∈ ks ∧ (saleOf l k).lo ≤ lastOf l L d k ∧ (ks.foldl (stepL l d) L) d = lastOf l L d k)
  | [], _, L => ⟨fun k h => (by cases h), Int.le_refl _, .inl rfl⟩
  | j :: ks, hb, L => by
    have hsame : ∀ k, k ∈ ks → lastOf l (stepL l d L j) d k = lastOf l L d k := fun k hk => by
      unfold lastOf
      rw [stepL_other L (by have := or_gt (hb k (List.mem_cons_of_mem _ hk)); omega)]
    obtain ⟨h1, h2, h3⟩ := foldL_spec ks (fun k hk => hb k (List.mem_cons_of_mem _ hk)) (stepL l d L j)
    have hj : stepL l d L j d = if (saleOf l j).lo ≤ lastOf l L d j then max (L d) (lastOf l L d j) else L d := by
      unfold stepL lastOf
      split
      · simp [upd]
      · rfl
    rw [hj] at h2 h3
    rw [List.foldl_cons]
    refine ⟨fun k hk hle => ?_, ?_, ?_⟩
    · rcases List.mem_cons.1 hk with rfl | hk
      · rw [if_pos hle] at h2
        exact Int.le_trans (Int.le_max_right _ _) h2
      · have := h1 k hk
        rw [hsame k hk] at this
        exact this hle
    · split at h2 <;> omega
    · rcases h3 with h3 | ⟨k, hk, h3, h4⟩
      · split at h3
        · rename_i hle
          by_cases hm : L d ≤ lastOf l L d j
          · exact .inr ⟨j, List.mem_cons_self, hle, by omega⟩
          · exact .inl (by omega)
        · exact .inl h3
      · rw [hsame k hk] at h3 h4
        exact .inr ⟨k, List.mem_cons_of_mem _ hk, h3, h4⟩
theorem lateTo_keep (t : Int) (l : List Sale) {e j : Nat} (he : 2 ^ l.length ≤ e + j + 1) : ∀ i, j + i ≤ 2 ^ l.length - 1 → lateTo t l (j + i) e = lateTo t l j e
  | 0, _ => rfl
  | i + 1, h => by
    rw [← lateTo_keep t l he i (by omega)]
    show lateTo t l (j + i + 1) e = _
    conv => lhs; unfold lateTo
    exact foldL_other (by omega) _ _
theorem late_whole (t : Int) (l : List Sale) : late t l (2 ^ l.length - 1) = 101 := by
  have := lateTo_keep t l (e := 2 ^ l.length - 1) (j := 0) (by omega) (2 ^ l.length - 1) (by omega)
  rw [Nat.zero_add] at this
  unfold late
  rw [this]
  simp [lateTo, upd]
theorem lateTo_start (t : Int) (l : List Sale) {e : Nat} : ∀ j, e + j + 1 < 2 ^ l.length → lateTo t l j e = -1
  | 0, h => by
    simp [lateTo, upd]
    omega
  | j + 1, h => by
    conv => lhs; unfold lateTo
    rw [foldL_other (by omega)]
    exact lateTo_start t l j (by omega)
theorem late_spec (t : Int) (l : List Sale) {d : Nat} (hd : d < 2 ^ l.length - 1) :
    (∀ k, nextB t l d k = true → (saleOf l k).lo ≤ lastOf l (late t l) d k → lastOf l (late t l) d k ≤ late t l d) ∧
    (late t l d = -1 ∨ ∃ k, nextB t l d k = true ∧ (saleOf l k).lo ≤ lastOf l (late t l) d k ∧ late t l d = lastOf l (late t l) d k) := by
  have e0 : 2 ^ l.length - 2 - (2 ^ l.length - 2 - d) = d := by omega
  have hl : late t l d = ((nextL t l d).foldl (stepL l d) (lateTo t l (2 ^ l.length - 2 - d))) d := by
    have := lateTo_keep t l (e := d) (j := 2 ^ l.length - 2 - d + 1) (by omega) d (by omega)
    unfold late
    rw [show 2 ^ l.length - 2 - d + 1 + d = 2 ^ l.length - 1 by omega] at this
    rw [this]
    conv => lhs; unfold lateTo
    rw [e0]
  have hsame : ∀ k, d.testBit k = false → lastOf l (lateTo t l (2 ^ l.length - 2 - d)) d k = lastOf l (late t l) d k := fun k hk => by
    unfold lastOf
    have hgt := or_gt hk
    have := lateTo_keep t l (e := d ||| 2 ^ k) (j := 2 ^ l.length - 2 - d) (by omega) (d + 1) (by omega)
    rw [← this]
    unfold late
    rw [show 2 ^ l.length - 2 - d + (d + 1) = 2 ^ l.length - 1 by omega]
  have h0 : lateTo t l (2 ^ l.length - 2 - d) d = -1 := lateTo_start t l _ (by omega)
  obtain ⟨h1, h2, h3⟩ := foldL_spec (l := l) (d := d) (nextL t l d) (next_bits t l d) (lateTo t l (2 ^ l.length - 2 - d))
  rw [← hl] at h1 h2 h3
  refine ⟨fun k hk hle => ?_, ?_⟩
  · obtain ⟨hn, hb, _⟩ := nextB_facts hk
    have := h1 k (List.mem_filter.2 ⟨List.mem_range.2 hn, hk⟩)
    rw [hsame k hb] at this
    exact this hle
  · rcases h3 with h3 | ⟨k, hk, h3, h4⟩
    · exact .inl (h3.trans h0)
    · have hk' := (List.mem_filter.1 hk).2
      rw [hsame k (nextB_facts hk').2.1] at h3 h4
      exact .inr ⟨k, hk', h3, h4⟩
/-- A run to the end begins no later than the table says. -/
theorem go_late {o t : Int} {l : List Sale} (hv : Valid o t l) : ∀ {ps : List (Nat × Int)} {d : Nat} {x : Int}, d < 2 ^ l.length → Fresh l d ps → dset d ps = 2 ^ l.length - 1 → GoP l (stocksOf t l d) x ps → x ≤ 101 → x ≤ late t l d
  | [], d, x, _, _, h, _, h2 => by
    have : d = 2 ^ l.length - 1 := h
    rw [this, late_whole]
    exact h2
  | p :: ps, d, x, hd, ⟨f1, f2, f3⟩, h, ⟨g1, g2, g3, g4, g5⟩, h2 => by
    have hf := saleOf_valid hv f1
    rw [← stocksOf_or f2 f1] at g5
    have hlt := Nat.or_lt_two_pow hd (Nat.pow_lt_pow_right (by omega : 1 < 2) f1)
    have ih := go_late hv hlt f3 h g5 (by omega)
    have hgt := or_gt f2
    have := (late_spec t l (d := d) (by omega)).1 p.1 (by unfold nextB; simp [f1, f2, g1]) (by unfold lastOf; omega)
    unfold lastOf at this
    omega
/-- The last day from a set is reached. -/
theorem late_go {o t : Int} {l : List Sale} (hv : Valid o t l) : ∀ (f d : Nat) (x : Int), d + f = 2 ^ l.length - 1 → 0 ≤ x → x ≤ late t l d → ∃ ps, Fresh l d ps ∧ dset d ps = 2 ^ l.length - 1 ∧ GoP l (stocksOf t l d) x ps
  | 0, d, x, h, _, _ => ⟨[], trivial, h, trivial⟩
  | f + 1, d, x, h, h0, hx => by
    have := Nat.two_pow_pos l.length
    rcases (late_spec t l (d := d) (by omega)).2 with h1 | ⟨k, hk, h1, h2⟩
    · omega
    · obtain ⟨hn, hb, hm⟩ := nextB_facts hk
      have hgt := or_gt hb
      have hlt := Nat.or_lt_two_pow (show d < 2 ^ l.length by omega) (Nat.pow_lt_pow_right (by omega : 1 < 2) hn)
      unfold lastOf at h1 h2
      obtain ⟨ps, a, b, c⟩ := late_go hv (2 ^ l.length - 1 - (d ||| 2 ^ k)) (d ||| 2 ^ k) (late t l d) (by omega) (by omega) (by omega)
      rw [stocksOf_or hb hn] at c
      exact ⟨(k, late t l d) :: ps, ⟨hn, hb, a⟩, b, ⟨hm, by show (saleOf l k).lo ≤ late t l d; omega, by show late t l d ≤ (saleOf l k).hi; omega, hx, c⟩⟩
  termination_by f => f
  decreasing_by omega
end Go.Proofs.Ytfcnombmphophaa
namespace Go.Proofs.Ytfcnombmphophaa
open Go.RowKit Go.Shelf
/-- A truth: all sales, each on a day. -/
structure TruP (t : Int) (l : List Sale) (ps : List (Nat × Int)) : Prop where
  fresh : Fresh l 0 ps
  all : dset 0 ps = 2 ^ l.length - 1
  go : GoP l (stocksOf t l 0) 0 ps
theorem early_zero (t : Int) (l : List Sale) : early t l 0 = 0 := by
  rw [early_at t l (Nat.two_pow_pos _)]
  simp [earlyTo, upd]
theorem fits_tru {o t : Int} {l : List Sale} (hv : Valid o t l) : fitsB t l = true ↔ ∃ ps, TruP t l ps := by
  constructor
  · intro h
    unfold fitsB at h
    obtain ⟨ps, a, b, c, _⟩ := early_go hv (d := 2 ^ l.length - 1) (by simpa using h)
    exact ⟨ps, a, b, c⟩
  · rintro ⟨ps, a, b, c⟩
    have := go_early hv (Nat.two_pow_pos _) a c (by rw [early_zero]; omega) (by omega)
    rw [b] at this
    unfold fitsB
    simp
    omega
/-- A range of all that is right among the first. -/
theorem range_spec {f : Nat → Int × Int} {is : Nat → Bool} {r : Nat → Int × Int} (hstep : ∀ d, f (d + 1) = if is d = true then (min (f d).1 (r d).1, max (f d).2 (r d).2) else f d) {M : Nat} (h0 : ∀ d, d < M → is d = true → (r d).1 ≤ (f 0).1 ∧ (f 0).2 ≤ (r d).2) :
    ∀ N, N ≤ M → (∀ d, d < N → is d = true → (f N).1 ≤ (r d).1 ∧ (r d).2 ≤ (f N).2) ∧
      ((f N = f 0 ∧ ∀ d, d < N → is d = false) ∨ ((∃ d, d < N ∧ is d = true ∧ (f N).1 = (r d).1) ∧ ∃ d, d < N ∧ is d = true ∧ (f N).2 = (r d).2))
  | 0, _ => ⟨fun d h => by omega, .inl ⟨rfl, fun d h => by omega⟩⟩
  | N + 1, hN => by
    obtain ⟨h1, h2⟩ := range_spec hstep h0 N (by omega)
    rw [hstep N]
    by_cases hi : is N = true
    · rw [if_pos hi]
      have hb := h0 N (by omega) hi
      refine ⟨fun d hd hd2 => ?_, .inr ?_⟩
      · by_cases e : d = N
        · subst e
          exact ⟨by show min _ _ ≤ _; omega, by show _ ≤ max _ _; omega⟩
        · have := h1 d (by omega) hd2
          exact ⟨by show min _ _ ≤ _; omega, by show _ ≤ max _ _; omega⟩
      · have hself : N < N + 1 := by omega
        rcases h2 with ⟨h2, _⟩ | ⟨⟨d, a, b, c⟩, d', a', b', c'⟩
        · rw [h2]
          exact ⟨⟨N, hself, hi, by show min _ _ = _; omega⟩, N, hself, hi, by show max _ _ = _; omega⟩
        · constructor
          · by_cases hm : (f N).1 ≤ (r N).1
            · exact ⟨d, by omega, b, by show min _ _ = _; omega⟩
            · exact ⟨N, hself, hi, by show min _ _ = _; omega⟩
          · by_cases hm : (r N).2 ≤ (f N).2
            · exact ⟨d', by omega, b', by show max _ _ = _; omega⟩
            · exact ⟨N, hself, hi, by show max _ _ = _; omega⟩
    · rw [if_neg hi]
      refine ⟨fun d hd hd2 => ?_, ?_⟩
      · by_cases e : d = N
        · rw [e] at hd2
          exact absurd hd2 hi
        · exact h1 d (by omega) hd2
      rcases h2 with ⟨a, b⟩ | ⟨⟨d, a, b, c⟩, d', a', b', c'⟩
      · refine .inl ⟨a, fun d hd => ?_⟩
        by_cases e : d = N
        · rw [e]; simpa using hi
        · exact b d (by omega)
      · exact .inr ⟨⟨d, by omega, b, c⟩, d', by omega, b', c'⟩
/-- The sales that are done on the evening of a day. -/
def eveSet (ps : List (Nat × Int)) (day : Int) : Nat := dset 0 (ps.filter fun p => decide (p.2 ≤ day))
theorem lastD_le {y : Int} : ∀ {ps : List (Nat × Int)} {x : Int}, x ≤ y → (∀ p, p ∈ ps → p.2 ≤ y) → lastD x ps ≤ y
  | [], _, h, _ => h
  | p :: ps, x, _, h2 => by
    rw [lastD_cons]
    exact lastD_le (h2 p List.mem_cons_self) fun q hq => h2 q (List.mem_cons_of_mem _ hq)
theorem go_split {l : List Sale} (day : Int) : ∀ {ps : List (Nat × Int)} {st : Nat → Int} {x : Int}, GoP l st x ps → ∃ pre post, ps = pre ++ post ∧ (∀ p, p ∈ pre → p.2 ≤ day) ∧ ∀ p, p ∈ post → day < p.2
  | [], _, _, _ => ⟨[], [], rfl, fun p h => (by cases h), fun p h => (by cases h)⟩
  | p :: ps, st, x, ⟨_, _, _, _, h⟩ => by
    by_cases e : p.2 ≤ day
    · obtain ⟨a, b, c, d, f⟩ := go_split day h
      refine ⟨p :: a, b, by rw [c]; rfl, fun q hq => ?_, f⟩
      rcases List.mem_cons.1 hq with rfl | hq
      · exact e
      · exact d q hq
    · refine ⟨[], p :: ps, rfl, fun q hq => (by cases hq), fun q hq => ?_⟩
      rcases List.mem_cons.1 hq with rfl | hq
      · omega
      · have := (GoP.mono h).2 q hq
        omega
theorem eve_pre {pre post : List (Nat × Int)} {day : Int} (h1 : ∀ p, p ∈ pre → p.2 ≤ day) (h2 : ∀ p, p ∈ post → day < p.2) : eveSet (pre ++ post) day = dset 0 pre := by
  unfold eveSet
  rw [List.filter_append, List.filter_eq_self.2 (fun p hp => by simpa using h1 p hp), List.filter_eq_nil_iff.2 (fun p hp => by have := h2 p hp; simp; omega), List.append_nil]
theorem eve_tru {o t : Int} {l : List Sale} (hv : Valid o t l) {d : Nat} {day : Int} (hd : d < 2 ^ l.length) (h0 : 0 ≤ day) (h1 : day ≤ 100) (h : eveB t l d day = true) : ∃ ps, TruP t l ps ∧ eveSet ps day = d := by
  unfold eveB at h
  rw [Bool.and_eq_true, decide_eq_true_eq, decide_eq_true_eq] at h
  obtain ⟨ps, a, b, c, e⟩ := early_go hv (d := d) (by omega)
  obtain ⟨qs, a2, b2, c2⟩ := late_go hv (2 ^ l.length - 1 - d) d (day + 1) (by omega) (by omega) (by omega)
  refine ⟨ps ++ qs, ⟨Fresh.app.2 ⟨a, by rw [b]; exact a2⟩, by rw [dset_app, b]; exact b2, (GoP.app a).2 ⟨c, ?_⟩⟩, ?_⟩
  · rw [b, e]
    exact c2.low fun p hp => by have := (GoP.mono c2).2 p hp; omega
  · rw [eve_pre (fun p hp => by have := (GoP.mono c).2 p hp; omega) (fun p hp => by have := (GoP.mono c2).2 p hp; omega), b]
theorem tru_eve {o t : Int} {l : List Sale} (hv : Valid o t l) {ps : List (Nat × Int)} (h : TruP t l ps) {day : Int} (h0 : 0 ≤ day) (h1 : day ≤ 100) : eveSet ps day < 2 ^ l.length ∧ eveB t l (eveSet ps day) day = true := by
  obtain ⟨pre, post, rfl, p1, p2⟩ := go_split day h.go
  rw [eve_pre p1 p2]
  obtain ⟨f1, f2⟩ := Fresh.app.1 h.fresh
  obtain ⟨g1, g2⟩ := (GoP.app f1).1 h.go
  have hall := h.all
  rw [dset_app] at hall
  have hd := Fresh.lt (Nat.two_pow_pos _) f1
  obtain ⟨e1, e2⟩ := go_early hv (Nat.two_pow_pos _) f1 g1 (by rw [early_zero]; omega) (by omega)
  have e3 := lastD_le (ps := pre) h0 p1
  have hl := go_late hv hd f2 hall (g2.low (y := day + 1) fun p hp => by have := p2 p hp; omega) (by omega)
  refine ⟨hd, ?_⟩
  unfold eveB
  simp
  omega
/-! What there is stays the same, and nobody has less than nothing. -/
def sumTo (st : Nat → Int) : Nat → Int
  | 0 => 0
  | n + 1 => sumTo st n + st n
theorem sumTo_upd (st : Nat → Int) (i : Nat) (v : Int) : ∀ n, sumTo (upd st i v) n = sumTo st n + if i < n then v - st i else 0
  | 0 => by simp [sumTo]
  | n + 1 => by
    unfold sumTo
    rw [sumTo_upd st i v n]
    unfold upd
    by_cases h : n = i
    · subst h
      simp
      omega
    · rw [if_neg h]
      by_cases h2 : i < n
      · rw [if_pos h2, if_pos (by omega)]
        omega
      · rw [if_neg h2, if_neg (by omega)]
        omega
theorem sumTo_sold {st : Nat → Int} {s : Sale} {n : Nat} (h1 : s.src.toNat < n) (h2 : s.dst.toNat < n) : sumTo (sold st s) n = sumTo st n := by
  unfold sold
  rw [sumTo_upd, sumTo_upd, if_pos h1, if_pos h2]
  omega
theorem sumTo_le {st : Nat → Int} : ∀ {n : Nat}, (∀ i, i < n → 0 ≤ st i) → 0 ≤ sumTo st n ∧ ∀ i, i < n → st i ≤ sumTo st n
  | 0, _ => ⟨Int.le_refl _, fun i h => by omega⟩
  | n + 1, h => by
    obtain ⟨a, b⟩ := sumTo_le (fun i hi => h i (by omega) : ∀ i, i < n → 0 ≤ st i)
    have hn := h n (by omega)
    unfold sumTo
    refine ⟨by omega, fun i hi => ?_⟩
    by_cases e : i = n
    · subst e; omega
    · have := b i (by omega)
      omega
/-- Stocks that there can be. -/
structure Fair (o t : Int) (st : Nat → Int) : Prop where
  pos : ∀ i, 0 ≤ st i
  sum : sumTo st o.toNat = t
theorem Fair.sold {o t : Int} {st : Nat → Int} {s : Sale} (h : Fair o t st) (h1 : 0 ≤ s.src ∧ s.src < o) (h2 : 0 ≤ s.dst ∧ s.dst < o) (h3 : s.src ≠ s.dst) (hm : 0 ≤ s.many) (hle : s.many ≤ st s.src.toNat) : Fair o t (sold st s) := by
  refine ⟨fun i => ?_, by rw [sumTo_sold (by omega) (by omega), h.sum]⟩
  have a := h.pos i
  have b := h.pos s.dst.toNat
  have hne : s.dst.toNat ≠ s.src.toNat := by omega
  unfold Ytfcnombmphophaa.sold upd
  rw [if_neg hne]
  split
  · omega
  · split <;> omega
theorem Fair.le {o t : Int} {st : Nat → Int} (h : Fair o t st) {i : Nat} (hi : i < o.toNat) : st i ≤ t := by
  have := (sumTo_le fun i _ => h.pos i : 0 ≤ sumTo st o.toNat ∧ _).2 i hi
  rwa [h.sum] at this
theorem fair_begun {o t : Int} {l : List Sale} (hv : Valid o t l) : Fair o t (stocksOf t l 0) := by
  have e : stocksOf t l 0 = upd (fun _ => 0) 0 t := stocksTo_zero _
  have h1 := hv.o1
  have h2 := hv.t0
  have z : ∀ n, sumTo (fun _ => 0) n = 0 := fun n => by
    induction n with
    | zero => rfl
    | succ n ih => simp [sumTo, ih]
  rw [e]
  refine ⟨fun i => ?_, ?_⟩
  · unfold upd
    split
    · exact h2
    · exact Int.le_refl _
  rw [sumTo_upd, z, if_pos (by omega)]
  omega
theorem fair_go {o t : Int} {l : List Sale} (hv : Valid o t l) : ∀ {ps : List (Nat × Int)} {d : Nat} {x : Int}, Fresh l d ps → GoP l (stocksOf t l d) x ps → Fair o t (stocksOf t l d) → Fair o t (stocksOf t l (dset d ps))
  | [], _, _, _, _, h => h
  | p :: ps, d, x, ⟨f1, f2, f3⟩, ⟨g1, g2, g3, g4, g5⟩, h => by
    have hf := saleOf_valid hv f1
    rw [dset_cons]
    rw [← stocksOf_or f2 f1] at g5
    refine fair_go hv f3 g5 ?_
    rw [stocksOf_or f2 f1]
    exact h.sold ⟨hf.1, hf.2.1⟩ ⟨hf.2.2.1, hf.2.2.2.1⟩ hf.2.2.2.2.1 (by omega) g1
theorem fair_early {o t : Int} {l : List Sale} (hv : Valid o t l) {d : Nat} (h : early t l d ≠ 101) : Fair o t (stocksOf t l d) := by
  obtain ⟨ps, a, b, c, _⟩ := early_go hv h
  rw [← b]
  exact fair_go hv a c (fair_begun hv)
/-- What Holds says. -/
theorem holds_sem {o t : Int} {l : List Sale} (hv : Valid o t l) (hf : fitsB t l = true) {ow : Nat} (ho : (ow : Int) < o) {day : Int} (h0 : 0 ≤ day) (h1 : day ≤ 100) :
    (∀ ps, TruP t l ps → (holdsR t l ow day).1 ≤ stocksOf t l (eveSet ps day) ow ∧ stocksOf t l (eveSet ps day) ow ≤ (holdsR t l ow day).2) ∧
    (∃ ps, TruP t l ps ∧ (holdsR t l ow day).1 = stocksOf t l (eveSet ps day) ow) ∧ ∃ ps, TruP t l ps ∧ (holdsR t l ow day).2 = stocksOf t l (eveSet ps day) ow := by
  have ht := hv.t1
  obtain ⟨k1, k2⟩ := range_spec (f := holdsTo t l ow day) (is := fun d => eveB t l d day) (r := fun d => (stocksOf t l d ow, stocksOf t l d ow)) (fun d => rfl) (M := 2 ^ l.length) (fun d _ h => by
    unfold eveB at h
    rw [Bool.and_eq_true, decide_eq_true_eq, decide_eq_true_eq] at h
    have hfa := fair_early hv (d := d) (by omega)
    have a := hfa.pos ow
    have b := hfa.le (i := ow) (by omega)
    exact ⟨by show _ ≤ (1001 : Int); simp only; omega, by show (-1 : Int) ≤ _; simp only; omega⟩) (2 ^ l.length) (Nat.le_refl _)
  refine ⟨fun ps hp => ?_, ?_⟩
  · obtain ⟨a, b⟩ := tru_eve hv hp h0 h1
    exact k1 _ a b
  · rcases k2 with ⟨_, k2⟩ | ⟨⟨d, a, b, c⟩, d', a', b', c'⟩
    · exfalso
      obtain ⟨ps, hp⟩ := (fits_tru hv).1 hf
      obtain ⟨a, b⟩ := tru_eve hv hp h0 h1
      rw [k2 _ a] at b
      cases b
    · obtain ⟨ps, hp, he⟩ := eve_tru hv a h0 h1 b
      obtain ⟨qs, hq, he'⟩ := eve_tru hv a' h0 h1 b'
      exact ⟨⟨ps, hp, by rw [he]; exact c⟩, qs, hq, by rw [he']; exact c'⟩
end Go.Proofs.Ytfcnombmphophaa
namespace Go.Proofs.Ytfcnombmphophaa
open Go.RowKit Go.Shelf
/-- What all have behind some sales. -/
def afterS (l : List Sale) (st : Nat → Int) (ps : List (Nat × Int)) : Nat → Int := ps.foldl (fun st p => sold st (saleOf l p.1)) st
theorem after_set {t : Int} {l : List Sale} : ∀ {ps : List (Nat × Int)} {d : Nat}, Fresh l d ps → stocksOf t l (dset d ps) = afterS l (stocksOf t l d) ps
  | [], _, _ => rfl
  | p :: ps, d, ⟨f1, f2, f3⟩ => by
    rw [dset_cons, after_set f3, stocksOf_or f2 f1]
    rfl
theorem Fresh.sub {l : List Sale} (P : Nat × Int → Bool) : ∀ {ps : List (Nat × Int)} {d d' : Nat}, (∀ k, d.testBit k = false → d'.testBit k = false) → Fresh l d ps → Fresh l d' (ps.filter P)
  | [], _, _, _, _ => trivial
  | p :: ps, d, d', h, ⟨f1, f2, f3⟩ => by
    rw [List.filter_cons]
    split
    · refine ⟨f1, h _ f2, Fresh.sub P (fun k hk => ?_) f3⟩
      rw [Nat.testBit_or] at hk ⊢
      simp only [Bool.or_eq_false_iff] at hk ⊢
      exact ⟨h k hk.1, hk.2⟩
    · refine Fresh.sub P (fun k hk => ?_) f3
      rw [Nat.testBit_or] at hk
      simp only [Bool.or_eq_false_iff] at hk
      exact h k hk.1
/-- What all have on the evening of a day. -/
def eveOf (t : Int) (l : List Sale) (ps : List (Nat × Int)) (day : Int) : Nat → Int := afterS l (upd (fun _ => 0) 0 t) (ps.filter fun p => decide (p.2 ≤ day))
theorem stocks_zero (t : Int) (l : List Sale) : stocksOf t l 0 = upd (fun _ => 0) 0 t := stocksTo_zero _
theorem eve_of {t : Int} {l : List Sale} {ps : List (Nat × Int)} (h : TruP t l ps) (day : Int) : stocksOf t l (eveSet ps day) = eveOf t l ps day := by
  unfold eveSet eveOf
  rw [after_set (h.fresh.sub _ fun _ h => h), stocks_zero]
theorem dset_bit (k : Nat) : ∀ (ps : List (Nat × Int)) (d : Nat), (dset d ps).testBit k = (d.testBit k || decide (k ∈ ps.map (·.1)))
  | [], d => by simp
  | p :: ps, d => by
    rw [dset_cons, dset_bit k ps, Nat.testBit_or, List.map_cons]
    by_cases e : p.1 = k
    · subst e
      simp
    · rw [Nat.testBit_two_pow_of_ne e, Bool.or_false]
      have : (k == p.1) = false := by simpa using fun h : k = p.1 => e h.symm
      simp [this]
theorem fresh_iff {l : List Sale} : ∀ {ps : List (Nat × Int)} {d : Nat}, Fresh l d ps ↔ (ps.map (·.1)).Nodup ∧ ∀ k, k ∈ ps.map (·.1) → k < l.length ∧ d.testBit k = false
  | [], d => by simp [Fresh]
  | p :: ps, d => by
    unfold Fresh
    rw [fresh_iff, List.map_cons, List.nodup_cons]
    constructor
    · rintro ⟨h1, h2, h3, h4⟩
      refine ⟨⟨fun hm => ?_, h3⟩, fun k hk => ?_⟩
      · have := (h4 _ hm).2
        rw [Nat.testBit_or, Nat.testBit_two_pow_self] at this
        simp at this
      · rcases List.mem_cons.1 hk with rfl | hk
        · exact ⟨h1, h2⟩
        · have := h4 k hk
          rw [Nat.testBit_or] at this
          simp only [Bool.or_eq_false_iff] at this
          exact ⟨this.1, this.2.1⟩
    · rintro ⟨⟨h1, h2⟩, h3⟩
      refine ⟨(h3 _ List.mem_cons_self).1, (h3 _ List.mem_cons_self).2, h2, fun k hk => ?_⟩
      have := h3 k (List.mem_cons_of_mem _ hk)
      refine ⟨this.1, ?_⟩
      rw [Nat.testBit_or, this.2, Nat.testBit_two_pow_of_ne (fun e => h1 (by rw [e]; exact hk))]
      rfl
theorem tru_iff {t : Int} {l : List Sale} {ps : List (Nat × Int)} : TruP t l ps ↔ (ps.map (·.1)).Perm (List.range l.length) ∧ GoP l (upd (fun _ => 0) 0 t) 0 ps := by
  constructor
  · rintro ⟨a, b, c⟩
    rw [stocks_zero] at c
    obtain ⟨h1, h2⟩ := fresh_iff.1 a
    refine ⟨(List.perm_ext_iff_of_nodup h1 List.nodup_range).2 fun k => ?_, c⟩
    rw [List.mem_range]
    refine ⟨fun h => (h2 k h).1, fun h => ?_⟩
    have hb : (dset 0 ps).testBit k = true := by
      rw [b, Nat.testBit_two_pow_sub_one]
      simpa using h
    rw [dset_bit] at hb
    simpa using hb
  · rintro ⟨a, c⟩
    have hf : Fresh l 0 ps := fresh_iff.2 ⟨a.nodup_iff.2 List.nodup_range, fun k hk => ⟨List.mem_range.1 (a.mem_iff.1 hk), by simp⟩⟩
    refine ⟨hf, ?_, by rw [stocks_zero]; exact c⟩
    apply Nat.eq_of_testBit_eq
    intro k
    rw [dset_bit, Nat.testBit_two_pow_sub_one, Nat.zero_testBit, Bool.false_or, decide_eq_decide, a.mem_iff, List.mem_range]
def EveIn (t : Int) (l : List Sale) (ow : Nat) (day y : Int) : Prop := ∃ ps, TruP t l ps ∧ eveOf t l ps day ow = y
theorem holds_in {o t : Int} {l : List Sale} (hv : Valid o t l) (hf : fitsB t l = true) {ow : Nat} (ho : (ow : Int) < o) {day : Int} (h0 : 0 ≤ day) (h1 : day ≤ 100) : (∀ y, EveIn t l ow day y → (holdsR t l ow day).1 ≤ y ∧ y ≤ (holdsR t l ow day).2) ∧ EveIn t l ow day (holdsR t l ow day).1 ∧ EveIn t l ow day (holdsR t l ow day).2 := by
  obtain ⟨a, ⟨ps, b1, b2⟩, qs, c1, c2⟩ := holds_sem hv hf ho h0 h1
  refine ⟨fun y ⟨ps, h1, h2⟩ => ?_, ⟨ps, b1, ?_⟩, qs, c1, ?_⟩
  · have := a ps h1
    rw [eve_of h1, h2] at this
    exact this
  · rw [← eve_of b1, b2]
  · rw [← eve_of c1, c2]
end Go.Proofs.Ytfcnombmphophaa
namespace Go.Proofs.Ytfcnombmphophaa
open Go.RowKit Go.Shelf
theorem tru_mem {t : Int} {l : List Sale} {ps : List (Nat × Int)} (h : TruP t l ps) {p : Nat × Int} (hp : p ∈ ps) : p.1 < l.length ∧ (saleOf l p.1).lo ≤ p.2 ∧ p.2 ≤ (saleOf l p.1).hi ∧ 0 ≤ p.2 := by
  obtain ⟨h1, _⟩ := tru_iff.1 h
  have h2 := (GoP.mono h.go).2 p hp
  exact ⟨List.mem_range.1 (h1.mem_iff.1 (List.mem_map.2 ⟨p, hp, rfl⟩)), h2.2.2.1, h2.2.2.2, h2.1⟩
theorem saleOf_mem {l : List Sale} {k : Nat} (hk : k < l.length) : saleOf l k ∈ l := by
  rw [saleOf_eq (List.getElem?_eq_getElem hk)]
  exact List.getElem_mem hk
/-! Sooner. -/
theorem sooner_house {o t : Int} {l : List Sale} (hv : Valid o t l) (hf : fitsB t l = true) {day : Int} (h0 : 0 ≤ day) (h1 : day ≤ 100) (h : ∀ s, s ∈ l → day < s.lo) : holdsR t l 0 day = (t, t) := by
  have ho := hv.o1
  obtain ⟨_, ⟨ps, a1, a2⟩, qs, b1, b2⟩ := holds_in hv hf (ow := 0) (by omega) h0 h1
  have key : ∀ ps, TruP t l ps → eveOf t l ps day 0 = t := fun ps hp => by
    unfold eveOf
    rw [List.filter_eq_nil_iff.2 fun p hm => ?_]
    · simp [afterS, upd]
    · have := tru_mem hp hm
      have := h _ (saleOf_mem this.1)
      simp
      omega
  rw [key ps a1] at a2
  rw [key qs b1] at b2
  exact Prod.ext a2.symm b2.symm
theorem after_down {l : List Sale} {i : Nat} : ∀ (ps : List (Nat × Int)) (st : Nat → Int), (∀ p, p ∈ ps → (saleOf l p.1).dst.toNat ≠ i ∧ 0 ≤ (saleOf l p.1).many) → afterS l st ps i ≤ st i
  | [], _, _ => Int.le_refl _
  | p :: ps, st, h => by
    refine Int.le_trans (after_down ps _ fun q hq => h q (List.mem_cons_of_mem _ hq)) ?_
    obtain ⟨h1, h2⟩ := h p List.mem_cons_self
    show sold _ _ i ≤ _
    rw [sold_delta]
    unfold delta
    rw [if_neg (Ne.symm h1)]
    split <;> omega
theorem sooner_other {o t : Int} {l : List Sale} (hv : Valid o t l) (hf : fitsB t l = true) {day : Int} (h0 : 0 ≤ day) (h1 : day ≤ 100) {ow : Nat} (hw : (ow : Int) < o) (hne : ow ≠ 0) (h : ∀ s, s ∈ l → s.dst ≠ ow) : holdsR t l ow day = (0, 0) := by
  obtain ⟨_, ⟨ps, a1, a2⟩, qs, b1, b2⟩ := holds_in hv hf hw h0 h1
  have key : ∀ ps, TruP t l ps → eveOf t l ps day ow = 0 := fun ps hp => by
    have hle : eveOf t l ps day ow ≤ 0 := by
      unfold eveOf
      refine Int.le_trans (after_down _ _ fun p hm => ?_) ?_
      · have hlt := (tru_mem hp (List.mem_filter.1 hm).1).1
        have hf := saleOf_valid hv hlt
        have hd := h _ (saleOf_mem hlt)
        exact ⟨by omega, by omega⟩
      · simp [upd, hne]
    have hge : 0 ≤ eveOf t l ps day ow := by
      rw [← eve_of hp]
      obtain ⟨_, e2⟩ := tru_eve hv hp h0 h1
      unfold eveB at e2
      rw [Bool.and_eq_true, decide_eq_true_eq] at e2
      exact (fair_early hv (d := eveSet ps day) (by omega)).pos ow
    omega
  rw [key ps a1] at a2
  rw [key qs b1] at b2
  exact Prod.ext a2.symm b2.symm
/-! Wider. -/
/-- A batch that gives way to each truth of another one. -/
structure WiderB (t : Int) (l : List Sale) (t' : Int) (l' : List Sale) : Prop where
  len : l'.length = l.length
  tot : t ≤ t'
  at_ : ∀ k, (saleOf l' k).src = (saleOf l k).src ∧ (saleOf l' k).dst = (saleOf l k).dst ∧ (saleOf l' k).many = (saleOf l k).many ∧ (saleOf l' k).lo ≤ (saleOf l k).lo ∧ (saleOf l k).hi ≤ (saleOf l' k).hi
/-! Later. -/
def later (n : Int) (s : Sale) : Sale := ⟨s.src, s.dst, s.many, s.lo + n, s.hi + n⟩
end Go.Proofs.Ytfcnombmphophaa
namespace Go.Proofs.Ytfcnombmphophaa
open Go.RowKit Go.Shelf
noncomputable def opsSo0 : Array Oper := (Try.f11.body.bind (regionOf 0)).getD #[]
noncomputable def opsSo1 : Array Oper := (Try.f11.body.bind (regionOf 1)).getD #[]
noncomputable def opsSo2 : Array Oper := (Try.f11.body.bind (regionOf 2)).getD #[]
noncomputable def opsSo4 : Array Oper := (Try.f11.body.bind (regionOf 4)).getD #[]
noncomputable def opsSo5 : Array Oper := (Try.f11.body.bind (regionOf 5)).getD #[]
noncomputable def opsSo6 : Array Oper := (Try.f11.body.bind (regionOf 6)).getD #[]
noncomputable def opsSo7 : Array Oper := (Try.f11.body.bind (regionOf 7)).getD #[]
noncomputable def opsSo8 : Array Oper := (Try.f11.body.bind (regionOf 8)).getD #[]
noncomputable def opsSo9 : Array Oper := (Try.f11.body.bind (regionOf 9)).getD #[]
noncomputable def opsSo10 : Array Oper := (Try.f11.body.bind (regionOf 10)).getD #[]
noncomputable def opsSo11 : Array Oper := (Try.f11.body.bind (regionOf 11)).getD #[]
noncomputable def opsSo12 : Array Oper := (Try.f11.body.bind (regionOf 12)).getD #[]
noncomputable def opsSo13 : Array Oper := (Try.f11.body.bind (regionOf 13)).getD #[]
noncomputable def opsSo14 : Array Oper := (Try.f11.body.bind (regionOf 14)).getD #[]
noncomputable def opsSo15 : Array Oper := (Try.f11.body.bind (regionOf 15)).getD #[]
noncomputable def code11 : Code := (.seq (.region 0 opsSo0 false) (.seq (.seq (.region 1 opsSo1 false) (.cond (.tmp 18) (.seq (.region 2 opsSo2 false) .ret) .skip)) (.seq (.region 3 opsSo3 true) (.seq (.region 4 opsSo4 false) (.seq (.region 5 opsSo5 false) (.seq (.seq (.region 6 opsSo6 false) (.cond (.tmp 53) (.seq (.region 7 opsSo7 false) .ret) .skip)) (.seq (.seq (.region 8 opsSo8 false) (.cond (.tmp 55) (.seq (.region 9 opsSo9 false) .ret) .skip)) (.seq (.region 10 opsSo10 false) (.seq (.seq (.region 11 opsSo11 false) (.block 0 (.loop (.seq (.seq (.region 12 opsSo12 false) (.cond (.tmp 63) .skip (.exit 0))) (.seq (.block 1 (.seq (.region 14 opsSo14 false) (.region 15 opsSo15 false))) (.region 13 opsSo13 false)))))) (.seq (.region 16 opsSo16 true) .ret))))))))))
theorem body11 : Try.f11.body = some code11 := by kernel_rfl
/-- Is there a sale, among the first, that can be by a day; one to an owner? -/
def soonE (l : List Sale) (on : Int) (i : Nat) : Bool := (l.take i).any fun s => decide (s.lo ≤ on)
def soonG (l : List Sale) (ow : Int) (i : Nat) : Bool := decide (ow = 0) || (l.take i).any fun s => decide (s.dst = ow)
theorem soonE_step {l : List Sale} {on : Int} {i : Nat} (h : i < l.length) : soonE l on (i + 1) = (soonE l on i || decide ((saleOf l i).lo ≤ on)) := by
  unfold soonE
  rw [List.take_succ_eq_append_getElem h, List.any_append, saleOf_eq (List.getElem?_eq_getElem h)]
  simp
theorem soonG_step {l : List Sale} {ow : Int} {i : Nat} (h : i < l.length) : soonG l ow (i + 1) = (soonG l ow i || decide ((saleOf l i).dst = ow)) := by
  unfold soonG
  rw [List.take_succ_eq_append_getElem h, List.any_append, saleOf_eq (List.getElem?_eq_getElem h), ← Bool.or_assoc]
  simp
theorem soonE_no {l : List Sale} {on : Int} (h : soonE l on l.length = false) : ∀ s, s ∈ l → on < s.lo := by
  intro s hs
  unfold soonE at h
  rw [List.take_length] at h
  have := List.any_eq_false.1 h s hs
  simp at this
  omega
theorem soonG_no {l : List Sale} {ow : Int} (h : soonG l ow l.length = false) : ow ≠ 0 ∧ ∀ s, s ∈ l → s.dst ≠ ow := by
  unfold soonG at h
  rw [List.take_length, Bool.or_eq_false_iff, decide_eq_false_iff_not] at h
  refine ⟨h.1, fun s hs => ?_⟩
  have := List.any_eq_false.1 h.2 s hs
  simpa using this
/-- The frame in the loop. -/
def SoF (l : List Sale) (on ow : Int) (b3 p1 p2 i j k : Nat) (a : Act) : Prop := a.tmps.size = 110 ∧ a.defers = [] ∧ a.eval (.tmp 3) = .pointer (some ⟨b3, 0, none⟩) ∧ a.eval (.tmp 7) = .int .i64 on ∧ a.eval (.tmp 8) = .int .i64 ow ∧ a.eval (.tmp 9) = .pointer (some ⟨p1, 0, none⟩) ∧ a.eval (.tmp 11) = .pointer (some ⟨p2, 0, none⟩) ∧ a.eval (.tmp 13) = .bool (soonE l on i) ∧ a.eval (.tmp 14) = .bool (soonG l ow j) ∧ a.eval (.tmp 15) = .int .i64 k
section
variable {o t : Int} {A : Option Addr} {l : List Sale} {c : Nat} {on ow : Int} {b3 p1 p2 i : Nat} {a1 : Act} {W : World} {Q : Exit → Act → World → Prop}
set_option maxRecDepth 10000 in
theorem so13 (hi : i < l.length) (hl : l.length ≤ 12) (hf : SoF l on ow b3 p1 p2 (i + 1) (i + 1) i a1) (hQ : ∀ a', SoF l on ow b3 p1 p2 (i + 1) (i + 1) (i + 1) a' → Q .normal a' W) : (Code.region 13 opsSo13 false).wpIn Fence.wide 5 Try.prog Q a1 W := by
  obtain ⟨hz_a1, hd_a1, u3, u7, u8, u9, u11, u13, u14, u15⟩ := hf
  refine region_p 3 ?_
  intro K hK
  refine ListK.move (i := 0) (v := .int .i64 i) rfl (by simp [u15]) ?_
  refine ListK.bin (i := 1) (u := .int .i64 i) (u' := .int .i64 1) (v := .int .i64 (i + 1)) rfl (by simp [hz_a1]) (by simp) (add3 (by omega) (by omega) _) ?_
  refine ListK.assign (i := 2) (v := .int .i64 ((i + 1 : Nat) : Int)) rfl (by simp [hz_a1]) ?_
  skip
  exact ListK.done (hK _ _ (hQ _ ⟨(by simp only [size_put, hz_a1]), (by simp only [defers_put, hd_a1]), (by simp [u3]), (by simp [u7]), (by simp [u8]), (by simp [u9]), (by simp [u11]), (by simp [u13]), (by simp [u14]), (by simp [hz_a1])⟩))
set_option maxRecDepth 10000 in
theorem so14 (hi : i < l.length) (hs : SalesAt W W.heap.size A l) (wb : Whole W b3 24 #[.int .i64 o, .int .i64 t, .slice A l.length c]) (hf : SoF l on ow b3 p1 p2 i i i a1) (hQ : ∀ a', SoF l on ow b3 p1 p2 (i + 1) i i a' → Q .normal a' W) : (Code.region 14 opsSo14 false).wpIn Fence.wide 5 Try.prog Q a1 W := by
  obtain ⟨hz_a1, hd_a1, u3, u7, u8, u9, u11, u13, u14, u15⟩ := hf
  obtain ⟨b, off, rfl, hb, s0, s1, s2, s3, s4⟩ := sale_cells hs hi
  have hst := soonE_step (on := on) hi
  cases he : soonE l on i with
  | true =>
    rw [he] at u13 hst
    refine region_p 13 ?_
    intro K hK
    refine ListK.move (i := 0) (v := .bool true) rfl (by simp [u13]) ?_
    refine ListK.move (i := 1) (v := .bool true) rfl (by simp [hz_a1]) ?_
    refine ListK.passG (i := 2) (e := 67) (b' := true) rfl rfl (by simp [hz_a1]) rfl ?_
    refine ListK.passG (i := 3) (e := 67) (b' := true) rfl rfl (by simp [hz_a1]) rfl ?_
    refine ListK.passG (i := 4) (e := 67) (b' := true) rfl rfl (by simp [hz_a1]) rfl ?_
    refine ListK.passG (i := 5) (e := 67) (b' := true) rfl rfl (by simp [hz_a1]) rfl ?_
    refine ListK.passG (i := 6) (e := 67) (b' := true) rfl rfl (by simp [hz_a1]) rfl ?_
    refine ListK.passG (i := 7) (e := 67) (b' := true) rfl rfl (by simp [hz_a1]) rfl ?_
    refine ListK.passG (i := 8) (e := 67) (b' := true) rfl rfl (by simp [hz_a1]) rfl ?_
    refine ListK.passG (i := 9) (e := 67) (b' := true) rfl rfl (by simp [hz_a1]) rfl ?_
    refine ListK.passG (i := 10) (e := 67) (b' := true) rfl rfl (by simp [hz_a1]) rfl ?_
    refine ListK.pick (i := 11) (b := true) (v := .bool true) rfl (by simp [hz_a1]) (by simp) ?_
    refine ListK.assign (i := 12) (v := .bool true) rfl (by simp [hz_a1]) ?_
    skip
    exact ListK.done (hK _ _ (hQ _ ⟨(by simp only [size_put, hz_a1]), (by simp only [defers_put, hd_a1]), (by simp [u3]), (by simp [u7]), (by simp [u8]), (by simp [u9]), (by simp [u11]), (by rw [hst]; simp [hz_a1]), (by simp [u14]), (by simp [u15])⟩))
  | false =>
    rw [he] at u13 hst
    refine region_p 13 ?_
    intro K hK
    refine ListK.move (i := 0) (v := .bool false) rfl (by simp [u13]) ?_
    refine ListK.move (i := 1) (v := .bool false) rfl (by simp [hz_a1]) ?_
    refine ListK.field (i := 2) (u := .pointer (some ⟨b3, 0, none⟩)) (v := .pointer (some ⟨b3, 2, none⟩)) rfl (by simp [u3]) (fa24_2 _) ?_ (hw := wanted_g (e := 67) (b' := false) rfl (by simp [hz_a1]) rfl)
    refine ListK.load (i := 3) (p := ⟨b3, 2, none⟩) (v := .slice (some ⟨b, off, none⟩) l.length c) rfl (by simp [hz_a1]) (ld22 (wb.cell 2)) ?_ (hw := wanted_g (e := 67) (b' := false) rfl (by simp [hz_a1]) rfl)
    refine ListK.move (i := 4) (v := .int .i64 i) rfl (by simp [u15]) ?_ (hw := wanted_g (e := 67) (b' := false) rfl (by simp [hz_a1]) rfl)
    refine ListK.index (i := 5) (u := .slice (some ⟨b, off, none⟩) l.length c) (u' := .int .i64 i) (v := .pointer (some ⟨b, off + i * 5, none⟩)) rfl (by simp [hz_a1]) (by simp [hz_a1]) (ix22 hi _) ?_ (hw := wanted_g (e := 67) (b' := false) rfl (by simp [hz_a1]) rfl)
    refine ListK.field (i := 6) (u := .pointer (some ⟨b, off + i * 5, none⟩)) (v := .pointer (some ⟨b, off + i * 5 + 3, none⟩)) rfl (by simp [hz_a1]) (fa73_3 _) ?_ (hw := wanted_g (e := 67) (b' := false) rfl (by simp [hz_a1]) rfl)
    refine ListK.field (i := 7) (u := .pointer (some ⟨b, off + i * 5 + 3, none⟩)) (v := .pointer (some ⟨b, off + i * 5 + 3, none⟩)) rfl (by simp [hz_a1]) (fa71_0 _) ?_ (hw := wanted_g (e := 67) (b' := false) rfl (by simp [hz_a1]) rfl)
    refine ListK.load (i := 8) (p := ⟨b, off + i * 5 + 3, none⟩) (v := .int .i64 (saleOf l i).lo) rfl (by simp [hz_a1]) (ld3 (s3)) ?_ (hw := wanted_g (e := 67) (b' := false) rfl (by simp [hz_a1]) rfl)
    refine ListK.move (i := 9) (v := .int .i64 on) rfl (by simp [u7]) ?_ (hw := wanted_g (e := 67) (b' := false) rfl (by simp [hz_a1]) rfl)
    refine ListK.bin (i := 10) (u := .int .i64 (saleOf l i).lo) (u' := .int .i64 on) (v := .bool (decide ((saleOf l i).lo ≤ on))) rfl (by simp [hz_a1]) (by simp [hz_a1]) (leq3 _) ?_ (hw := wanted_g (e := 67) (b' := false) rfl (by simp [hz_a1]) rfl)
    refine ListK.pick (i := 11) (b := false) (v := .bool (decide ((saleOf l i).lo ≤ on))) rfl (by simp [hz_a1]) (by simp [hz_a1]) ?_
    refine ListK.assign (i := 12) (v := .bool (decide ((saleOf l i).lo ≤ on))) rfl (by simp [hz_a1]) ?_
    skip
    exact ListK.done (hK _ _ (hQ _ ⟨(by simp only [size_put, hz_a1]), (by simp only [defers_put, hd_a1]), (by simp [u3]), (by simp [u7]), (by simp [u8]), (by simp [u9]), (by simp [u11]), (by rw [hst]; simp [hz_a1]), (by simp [u14]), (by simp [u15])⟩))
set_option maxRecDepth 10000 in
theorem so15 (hi : i < l.length) (hs : SalesAt W W.heap.size A l) (wb : Whole W b3 24 #[.int .i64 o, .int .i64 t, .slice A l.length c]) (hf : SoF l on ow b3 p1 p2 (i + 1) i i a1) (hQ : ∀ a', SoF l on ow b3 p1 p2 (i + 1) (i + 1) i a' → Q .normal a' W) : (Code.region 15 opsSo15 false).wpIn Fence.wide 5 Try.prog Q a1 W := by
  obtain ⟨hz_a1, hd_a1, u3, u7, u8, u9, u11, u13, u14, u15⟩ := hf
  obtain ⟨b, off, rfl, hb, s0, s1, s2, s3, s4⟩ := sale_cells hs hi
  have hst := soonG_step (ow := ow) hi
  cases he : soonG l ow i with
  | true =>
    rw [he] at u14 hst
    refine region_p 12 ?_
    intro K hK
    refine ListK.move (i := 0) (v := .bool true) rfl (by simp [u14]) ?_
    refine ListK.move (i := 1) (v := .bool true) rfl (by simp [hz_a1]) ?_
    refine ListK.passG (i := 2) (e := 79) (b' := true) rfl rfl (by simp [hz_a1]) rfl ?_
    refine ListK.passG (i := 3) (e := 79) (b' := true) rfl rfl (by simp [hz_a1]) rfl ?_
    refine ListK.passG (i := 4) (e := 79) (b' := true) rfl rfl (by simp [hz_a1]) rfl ?_
    refine ListK.passG (i := 5) (e := 79) (b' := true) rfl rfl (by simp [hz_a1]) rfl ?_
    refine ListK.passG (i := 6) (e := 79) (b' := true) rfl rfl (by simp [hz_a1]) rfl ?_
    refine ListK.passG (i := 7) (e := 79) (b' := true) rfl rfl (by simp [hz_a1]) rfl ?_
    refine ListK.passG (i := 8) (e := 79) (b' := true) rfl rfl (by simp [hz_a1]) rfl ?_
    refine ListK.passG (i := 9) (e := 79) (b' := true) rfl rfl (by simp [hz_a1]) rfl ?_
    refine ListK.pick (i := 10) (b := true) (v := .bool true) rfl (by simp [hz_a1]) (by simp) ?_
    refine ListK.assign (i := 11) (v := .bool true) rfl (by simp [hz_a1]) ?_
    skip
    exact ListK.done (hK _ _ (hQ _ ⟨(by simp only [size_put, hz_a1]), (by simp only [defers_put, hd_a1]), (by simp [u3]), (by simp [u7]), (by simp [u8]), (by simp [u9]), (by simp [u11]), (by simp [u13]), (by rw [hst]; simp [hz_a1]), (by simp [u15])⟩))
  | false =>
    rw [he] at u14 hst
    refine region_p 12 ?_
    intro K hK
    refine ListK.move (i := 0) (v := .bool false) rfl (by simp [u14]) ?_
    refine ListK.move (i := 1) (v := .bool false) rfl (by simp [hz_a1]) ?_
    refine ListK.field (i := 2) (u := .pointer (some ⟨b3, 0, none⟩)) (v := .pointer (some ⟨b3, 2, none⟩)) rfl (by simp [u3]) (fa24_2 _) ?_ (hw := wanted_g (e := 79) (b' := false) rfl (by simp [hz_a1]) rfl)
    refine ListK.load (i := 3) (p := ⟨b3, 2, none⟩) (v := .slice (some ⟨b, off, none⟩) l.length c) rfl (by simp [hz_a1]) (ld22 (wb.cell 2)) ?_ (hw := wanted_g (e := 79) (b' := false) rfl (by simp [hz_a1]) rfl)
    refine ListK.move (i := 4) (v := .int .i64 i) rfl (by simp [u15]) ?_ (hw := wanted_g (e := 79) (b' := false) rfl (by simp [hz_a1]) rfl)
    refine ListK.index (i := 5) (u := .slice (some ⟨b, off, none⟩) l.length c) (u' := .int .i64 i) (v := .pointer (some ⟨b, off + i * 5, none⟩)) rfl (by simp [hz_a1]) (by simp [hz_a1]) (ix22 hi _) ?_ (hw := wanted_g (e := 79) (b' := false) rfl (by simp [hz_a1]) rfl)
    refine ListK.field (i := 6) (u := .pointer (some ⟨b, off + i * 5, none⟩)) (v := .pointer (some ⟨b, off + i * 5 + 1, none⟩)) rfl (by simp [hz_a1]) (fa73_1 _) ?_ (hw := wanted_g (e := 79) (b' := false) rfl (by simp [hz_a1]) rfl)
    refine ListK.load (i := 7) (p := ⟨b, off + i * 5 + 1, none⟩) (v := .int .i64 (saleOf l i).dst) rfl (by simp [hz_a1]) (ld3 (s1)) ?_ (hw := wanted_g (e := 79) (b' := false) rfl (by simp [hz_a1]) rfl)
    refine ListK.move (i := 8) (v := .int .i64 ow) rfl (by simp [u8]) ?_ (hw := wanted_g (e := 79) (b' := false) rfl (by simp [hz_a1]) rfl)
    refine ListK.bin (i := 9) (u := .int .i64 (saleOf l i).dst) (u' := .int .i64 ow) (v := .bool (decide ((saleOf l i).dst = ow))) rfl (by simp [hz_a1]) (by simp [hz_a1]) (eq3d _ _ _) ?_ (hw := wanted_g (e := 79) (b' := false) rfl (by simp [hz_a1]) rfl)
    refine ListK.pick (i := 10) (b := false) (v := .bool (decide ((saleOf l i).dst = ow))) rfl (by simp [hz_a1]) (by simp [hz_a1]) ?_
    refine ListK.assign (i := 11) (v := .bool (decide ((saleOf l i).dst = ow))) rfl (by simp [hz_a1]) ?_
    skip
    exact ListK.done (hK _ _ (hQ _ ⟨(by simp only [size_put, hz_a1]), (by simp only [defers_put, hd_a1]), (by simp [u3]), (by simp [u7]), (by simp [u8]), (by simp [u9]), (by simp [u11]), (by simp [u13]), (by rw [hst]; simp [hz_a1]), (by simp [u15])⟩))
end
set_option maxRecDepth 10000 in
set_option maxHeartbeats 4000000 in
theorem sooner_any (o t : Int) (A : Option Addr) (l : List Sale) (c nd nw : Nat) (W : World) (hnd : nd < 256) (hnw : nw < 256) (hs : SalesAt W W.heap.size A l) :
    Calls Try.prog 11 #[.agg #[.int .i64 o, .int .i64 t, .slice A l.length c], .int .u8 nd, .int .u8 nw] W (TP W true) := by
  refine (callsIn_wide (n := 5)).1 (callsIn_of_wp Try.func11 body11 trivial ?_ rfl)
  obtain ⟨a, ha⟩ : ∃ a : Act, a = { tmps := #[.agg #[.int .i64 o, .int .i64 t, .slice A l.length c], .int .u8 nd, .int .u8 nw] ++ Array.replicate (Try.f11.ntmps - (#[.agg #[.int .i64 o, .int .i64 t, .slice A l.length c], .int .u8 nd, .int .u8 nw] : Array Value).size) undef, defers := [] } := ⟨_, rfl⟩
  have hsz : a.tmps.size = 110 := by rw [ha]; simp [Try.ntmps11]
  have t0 : a.eval (.tmp 0) = .agg #[.int .i64 o, .int .i64 t, .slice A l.length c] := by rw [ha]; simp [Act.eval]
  have t1 : a.eval (.tmp 1) = .int .u8 nd := by rw [ha]; simp [Act.eval]
  have t2 : a.eval (.tmp 2) = .int .u8 nw := by rw [ha]; simp [Act.eval]
  have hdf : a.defers = [] := by rw [ha]
  rw [← ha]
  clear ha
  have hret : ∀ (a' : Act) (W' : World), a'.defers = [] → a'.eval (.tmp 6) = .bool true → Below W.heap.size W W' → bodyPost Try.prog Try.f11 (TP W true) .ret a' W' := fun a' W' hd h4 hb =>
    bodyPost_ret (v := .bool true) (res1 Try.results11 h4) hd ⟨rfl, hb⟩
  unfold code11
  refine wpIn_seq (region_p 2 ?_)
  intro K hK
  refine ListK.box (i := 0) (u := .agg #[.int .i64 o, .int .i64 t, .slice A l.length c]) rfl (by simp [t0]) (bx24 W _ _ _ _ _) ?_
  refine ListK.assign (i := 1) (v := .bool false) rfl (by simp) ?_
  refine ListK.done (hK _ _ ?_)
  clear hK K
  have wb := Whole.new W 24 #[.int .i64 o, .int .i64 t, .slice A l.length c]
  have hB1 : Below W.heap.size W (W.alloc (.cells #[.int .i64 o, .int .i64 t, .slice A l.length c] 24)) := (Below.refl _ W).alloc (Nat.le_refl _) _
  have hS1 := hB1.size
  have hlt : W.heap.size < (W.alloc (.cells #[.int .i64 o, .int .i64 t, .slice A l.length c] 24)).heap.size := by simp
  generalize hb3 : W.heap.size = b3 at *
  generalize W.alloc (.cells #[.int .i64 o, .int .i64 t, .slice A l.length c] 24) = W1 at *
  replace hs : SalesAt W1 W1.heap.size A l := (hs.below hB1 (Nat.le_refl _)).more hS1
  generalize hA : Act.put _ _ _ = a1
  have hz_a1 : a1.tmps.size = 110 := by rw [← hA]; simp only [size_put, hsz]
  have u1 : a1.eval (.tmp 1) = .int .u8 nd := by rw [← hA]; exact (by simp [t1])
  have u2 : a1.eval (.tmp 2) = .int .u8 nw := by rw [← hA]; exact (by simp [t2])
  have u3 : a1.eval (.tmp 3) = .pointer (some ⟨b3, 0, none⟩) := by rw [← hA]; exact (by simp [hsz])
  have hd_a1 : a1.defers = [] := by rw [← hA]; simp only [defers_put, hdf]
  clear hA
  have hrd := ready_any o t A l c W1 hs
  by_cases hready : l.length ≤ 12 ∧ fault o t l = 0
  · obtain ⟨hl12, h0⟩ := hready
    rw [decide_eq_true hl12, decide_eq_true h0] at hrd
    have hv := valid_of_fault h0
    have hl8 := hv.len
    have ho0 : 0 < o := by
      have := hv.o1
      omega
    refine wpIn_seq (wpIn_seq (region_p 3 ?_))
    intro K hK
    refine ListK.load (i := 0) (p := ⟨b3, 0, none⟩) (v := .agg #[.int .i64 o, .int .i64 t, .slice A l.length c]) rfl (by simp [u3]) (ld24 ⟨wb.cell 0, wb.cell 1, wb.cell 2⟩) ?_
    refine ListK.call (i := 1) (vs := #[.agg #[.int .i64 o, .int .i64 t, .slice A l.length c]]) rfl (enters_of Try.func41 (by kernel_rfl) rfl) (by simp [hz_a1]) (((hrd)).mono ?_)
    rintro _ W2 ⟨rfl, hb_t1⟩
    clear hrd
    have hL_t1 := hB1.trans (hb_t1.mono (by have := hB1.size; omega))
    replace hs := (hs.below hb_t1 (Nat.le_refl _)).more hb_t1.size
    replace wb := wb.below hb_t1 wb.lt
    replace hB1 := hL_t1
    replace hlt : b3 < W2.heap.size := wb.lt
    refine ⟨_, rfl, ?_⟩
    refine ListK.un (i := 2) (u := .bool true) (v := .bool false) rfl (by simp [hz_a1]) (not4 _ _) ?_
    refine ListK.done (hK _ _ ?_)
    clear hK K
    refine wpIn_cond (t := false) (by simp [hz_a1]) (wpIn_skip ?_)
    show (Code.seq _ _).wpIn _ _ _ _ _ _
    generalize hA : Act.put _ _ _ = a2
    have hz_a2 : a2.tmps.size = 110 := by rw [← hA]; simp only [size_put, hz_a1]
    have v1 : a2.eval (.tmp 1) = .int .u8 nd := by rw [← hA]; exact (by simp [u1])
    have v2 : a2.eval (.tmp 2) = .int .u8 nw := by rw [← hA]; exact (by simp [u2])
    have v3 : a2.eval (.tmp 3) = .pointer (some ⟨b3, 0, none⟩) := by rw [← hA]; exact (by simp [u3])
    have hd_a2 : a2.defers = [] := by rw [← hA]; simp only [defers_put, hd_a1]
    clear hA
    obtain ⟨on, hon⟩ : ∃ on : Int, (nd : Int) % 101 = on := ⟨_, rfl⟩
    obtain ⟨ow, how⟩ : ∃ ow : Int, (nw : Int) % o = ow := ⟨_, rfl⟩
    have hon0 : 0 ≤ on ∧ on ≤ 100 := by omega
    have how0 : 0 ≤ ow ∧ ow < o := by
      rw [← how]
      exact ⟨Int.emod_nonneg _ (by omega), Int.emod_lt_of_pos _ ho0⟩
    refine wpIn_seq (regionSo3 (wideF_plain _) hz_a2 v1 v2 v3 (wb.cell 0) hnd hnw ho0 hon how ?_)
    intro a3 W3 hz_a3 hd_t2 hb_t2 hr_t2 hw_t2
    have x3 : a3.eval (.tmp 3) = .pointer (some ⟨b3, 0, none⟩) := (hr_t2 3 (by kernel_rfl)).trans v3
    have x7 : a3.eval (.tmp 7) = .int .i64 on := hw_t2 8 7 (by kernel_rfl)
    have x8 : a3.eval (.tmp 8) = .int .i64 ow := hw_t2 9 8 (by kernel_rfl)
    have hd_a3 : a3.defers = [] := hd_t2.trans hd_a2
    have hL_t2 := hB1.trans (hb_t2.mono (by have := hB1.size; omega))
    replace hs := (hs.below hb_t2 (Nat.le_refl _)).more hb_t2.size
    replace wb := wb.below hb_t2 wb.lt
    replace hB1 := hL_t2
    replace hlt : b3 < W3.heap.size := wb.lt
    clear hr_t2 hw_t2 hd_t2
    refine wpIn_seq (region_p 10 ?_)
    intro K hK
    refine ListK.load (i := 0) (p := ⟨b3, 0, none⟩) (v := .agg #[.int .i64 o, .int .i64 t, .slice A l.length c]) rfl (by simp [x3]) (ld24 ⟨wb.cell 0, wb.cell 1, wb.cell 2⟩) ?_
    refine ListK.call (i := 1) (vs := #[.agg #[.int .i64 o, .int .i64 t, .slice A l.length c]]) rfl (enters_of Try.func18 (by kernel_rfl) rfl) (by simp [hz_a3]) (((batch_any o t A l c W3 (by omega) hs)).mono ?_)
    rintro _ W4 ⟨A_t3, c_t3, rfl, hs_t3, hb_t3⟩
    have hL_t3 := hB1.trans (hb_t3.mono (by have := hB1.size; omega))
    replace hs := (hs.below hb_t3 (Nat.le_refl _)).more hb_t3.size
    replace wb := wb.below hb_t3 wb.lt
    replace hB1 := hL_t3
    replace hlt : b3 < W4.heap.size := wb.lt
    refine ⟨_, rfl, ?_⟩
    refine ListK.move (i := 2) (v := .int .i64 on) rfl (by simp [x7]) ?_
    refine ListK.call (i := 3) (vs := #[.agg #[.int .i64 o, .int .i64 t, .slice A_t3 l.length c_t3], .int .i64 0, .int .i64 on]) rfl (enters_of Try.func32 (by kernel_rfl) rfl) (by simp [hz_a3]) (((holds_api o t A_t3 l c_t3 0 on W4 (by omega) hs_t3)).mono ?_)
    rintro _ W5 ⟨rfl, hb_t4⟩
    have hL_t4 := hB1.trans (hb_t4.mono (by have := hB1.size; omega))
    replace hs := (hs.below hb_t4 (Nat.le_refl _)).more hb_t4.size
    replace wb := wb.below hb_t4 wb.lt
    replace hB1 := hL_t4
    replace hlt : b3 < W5.heap.size := wb.lt
    refine ⟨_, rfl, ?_⟩
    refine ListK.move (i := 4) (v := .tuple #[.agg #[.int .i64 (holdsV o t l 0 on).1, .int .i64 (holdsV o t l 0 on).2], .int .i64 (holdsE o t l 0 on)]) rfl (by simp [hz_a3]) ?_
    refine ListK.extract (i := 5) (u := .tuple #[.agg #[.int .i64 (holdsV o t l 0 on).1, .int .i64 (holdsV o t l 0 on).2], .int .i64 (holdsE o t l 0 on)]) (v := .agg #[.int .i64 (holdsV o t l 0 on).1, .int .i64 (holdsV o t l 0 on).2]) rfl (by simp [hz_a3]) (ex0 _ _ _) ?_
    refine ListK.extract (i := 6) (u := .tuple #[.agg #[.int .i64 (holdsV o t l 0 on).1, .int .i64 (holdsV o t l 0 on).2], .int .i64 (holdsE o t l 0 on)]) (v := .int .i64 (holdsE o t l 0 on)) rfl (by simp [hz_a3]) (ex1 _ _ _) ?_
    refine ListK.alloc (i := 7) rfl (al46 W5) ?_
    refine ListK.store (i := 8) (u := .pointer (some ⟨W5.heap.size, 0, none⟩)) (u' := .agg #[.int .i64 (holdsV o t l 0 on).1, .int .i64 (holdsV o t l 0 on).2]) rfl (by simp [hz_a3]) (by simp [hz_a3]) sa46 ?_
    refine ListK.assign (i := 9) (v := .int .i64 (holdsE o t l 0 on)) rfl (by simp [hz_a3]) ?_
    refine ListK.done (hK _ _ ?_)
    clear hK K
    obtain ⟨w_t5, hb_t5⟩ := put46 W5 ((holdsV o t l 0 on).1) ((holdsV o t l 0 on).2)
    have hL_t5 := hB1.trans (hb_t5.mono (by have := hB1.size; omega))
    replace hs := (hs.below hb_t5 (Nat.le_refl _)).more hb_t5.size
    replace wb := wb.below hb_t5 wb.lt
    replace hB1 := hL_t5
    generalize W5.heap.size = p_t5 at *
    generalize ((W5.alloc (.cells #[.int .i64 0, .int .i64 0] 46)).setCell ⟨p_t5, 0, none⟩ (.int .i64 ((holdsV o t l 0 on).1))).setCell ⟨p_t5, 1, none⟩ (.int .i64 ((holdsV o t l 0 on).2)) = W6 at *
    replace hlt : b3 < W6.heap.size := wb.lt
    generalize hA : Act.put _ _ _ = a4
    have hz_a4 : a4.tmps.size = 110 := by rw [← hA]; simp only [size_put, hz_a3]
    have y3 : a4.eval (.tmp 3) = .pointer (some ⟨b3, 0, none⟩) := by rw [← hA]; exact (by simp [x3])
    have y7 : a4.eval (.tmp 7) = .int .i64 on := by rw [← hA]; exact (by simp [x7])
    have y8 : a4.eval (.tmp 8) = .int .i64 ow := by rw [← hA]; exact (by simp [x8])
    have y9 : a4.eval (.tmp 9) = .pointer (some ⟨p_t5, 0, none⟩) := by rw [← hA]; exact (by simp [hz_a3])
    have y10 : a4.eval (.tmp 10) = .int .i64 (holdsE o t l 0 on) := by rw [← hA]; exact (by simp [hz_a3])
    have hd_a4 : a4.defers = [] := by rw [← hA]; simp only [defers_put, hd_a3]
    clear hA
    refine wpIn_seq (region_p 11 ?_)
    intro K hK
    refine ListK.load (i := 0) (p := ⟨b3, 0, none⟩) (v := .agg #[.int .i64 o, .int .i64 t, .slice A l.length c]) rfl (by simp [y3]) (ld24 ⟨wb.cell 0, wb.cell 1, wb.cell 2⟩) ?_
    refine ListK.call (i := 1) (vs := #[.agg #[.int .i64 o, .int .i64 t, .slice A l.length c]]) rfl (enters_of Try.func18 (by kernel_rfl) rfl) (by simp [hz_a4]) (((batch_any o t A l c W6 (by omega) hs)).mono ?_)
    rintro _ W7 ⟨A_t6, c_t6, rfl, hs_t6, hb_t6⟩
    have hL_t6 := hB1.trans (hb_t6.mono (by have := hB1.size; omega))
    replace hs := (hs.below hb_t6 (Nat.le_refl _)).more hb_t6.size
    replace wb := wb.below hb_t6 wb.lt
    replace w_t5 := w_t5.below hb_t6 w_t5.lt
    replace hB1 := hL_t6
    replace hlt : b3 < W7.heap.size := wb.lt
    refine ⟨_, rfl, ?_⟩
    refine ListK.move (i := 2) (v := .int .i64 ow) rfl (by simp [y8]) ?_
    refine ListK.move (i := 3) (v := .int .i64 on) rfl (by simp [y7]) ?_
    refine ListK.call (i := 4) (vs := #[.agg #[.int .i64 o, .int .i64 t, .slice A_t6 l.length c_t6], .int .i64 ow, .int .i64 on]) rfl (enters_of Try.func32 (by kernel_rfl) rfl) (by simp [hz_a4]) (((holds_api o t A_t6 l c_t6 ow on W7 (by omega) hs_t6)).mono ?_)
    rintro _ W8 ⟨rfl, hb_t7⟩
    have hL_t7 := hB1.trans (hb_t7.mono (by have := hB1.size; omega))
    replace hs := (hs.below hb_t7 (Nat.le_refl _)).more hb_t7.size
    replace wb := wb.below hb_t7 wb.lt
    replace w_t5 := w_t5.below hb_t7 w_t5.lt
    replace hB1 := hL_t7
    replace hlt : b3 < W8.heap.size := wb.lt
    refine ⟨_, rfl, ?_⟩
    refine ListK.move (i := 5) (v := .tuple #[.agg #[.int .i64 (holdsV o t l ow on).1, .int .i64 (holdsV o t l ow on).2], .int .i64 (holdsE o t l ow on)]) rfl (by simp [hz_a4]) ?_
    refine ListK.extract (i := 6) (u := .tuple #[.agg #[.int .i64 (holdsV o t l ow on).1, .int .i64 (holdsV o t l ow on).2], .int .i64 (holdsE o t l ow on)]) (v := .agg #[.int .i64 (holdsV o t l ow on).1, .int .i64 (holdsV o t l ow on).2]) rfl (by simp [hz_a4]) (ex0 _ _ _) ?_
    refine ListK.extract (i := 7) (u := .tuple #[.agg #[.int .i64 (holdsV o t l ow on).1, .int .i64 (holdsV o t l ow on).2], .int .i64 (holdsE o t l ow on)]) (v := .int .i64 (holdsE o t l ow on)) rfl (by simp [hz_a4]) (ex1 _ _ _) ?_
    refine ListK.alloc (i := 8) rfl (al46 W8) ?_
    refine ListK.store (i := 9) (u := .pointer (some ⟨W8.heap.size, 0, none⟩)) (u' := .agg #[.int .i64 (holdsV o t l ow on).1, .int .i64 (holdsV o t l ow on).2]) rfl (by simp [hz_a4]) (by simp [hz_a4]) sa46 ?_
    refine ListK.assign (i := 10) (v := .int .i64 (holdsE o t l ow on)) rfl (by simp [hz_a4]) ?_
    refine ListK.done (hK _ _ ?_)
    clear hK K
    obtain ⟨w_t8, hb_t8⟩ := put46 W8 ((holdsV o t l ow on).1) ((holdsV o t l ow on).2)
    have hL_t8 := hB1.trans (hb_t8.mono (by have := hB1.size; omega))
    replace hs := (hs.below hb_t8 (Nat.le_refl _)).more hb_t8.size
    replace wb := wb.below hb_t8 wb.lt
    replace w_t5 := w_t5.below hb_t8 w_t5.lt
    replace hB1 := hL_t8
    generalize W8.heap.size = p_t8 at *
    generalize ((W8.alloc (.cells #[.int .i64 0, .int .i64 0] 46)).setCell ⟨p_t8, 0, none⟩ (.int .i64 ((holdsV o t l ow on).1))).setCell ⟨p_t8, 1, none⟩ (.int .i64 ((holdsV o t l ow on).2)) = W9 at *
    replace hlt : b3 < W9.heap.size := wb.lt
    generalize hA : Act.put _ _ _ = a5
    have hz_a5 : a5.tmps.size = 110 := by rw [← hA]; simp only [size_put, hz_a4]
    have z3 : a5.eval (.tmp 3) = .pointer (some ⟨b3, 0, none⟩) := by rw [← hA]; exact (by simp [y3])
    have z7 : a5.eval (.tmp 7) = .int .i64 on := by rw [← hA]; exact (by simp [y7])
    have z8 : a5.eval (.tmp 8) = .int .i64 ow := by rw [← hA]; exact (by simp [y8])
    have z9 : a5.eval (.tmp 9) = .pointer (some ⟨p_t5, 0, none⟩) := by rw [← hA]; exact (by simp [y9])
    have z10 : a5.eval (.tmp 10) = .int .i64 (holdsE o t l 0 on) := by rw [← hA]; exact (by simp [y10])
    have z11 : a5.eval (.tmp 11) = .pointer (some ⟨p_t8, 0, none⟩) := by rw [← hA]; exact (by simp [hz_a4])
    have z12 : a5.eval (.tmp 12) = .int .i64 (holdsE o t l ow on) := by rw [← hA]; exact (by simp [hz_a4])
    have hd_a5 : a5.defers = [] := by rw [← hA]; simp only [defers_put, hd_a4]
    clear hA
    have hE0 := holdsE_valid hv (ow := 0) (day := on) (Int.le_refl _) ho0 hon0.1 hon0.2
    have hEk := holdsE_valid hv how0.1 how0.2 hon0.1 hon0.2
    have hV0 := holdsV_valid hv (ow := 0) (day := on) (Int.le_refl _) ho0 hon0.1 hon0.2
    have hVk := holdsV_valid hv how0.1 how0.2 hon0.1 hon0.2
    cases hF : fitsB t l with
    | false =>
      rw [hF, if_neg (by decide)] at hE0 hEk
      refine wpIn_seq (wpIn_seq (region_p 11 ?_))
      intro K hK
      refine ListK.move (i := 0) (v := .int .i64 (holdsE o t l 0 on)) rfl (by simp [z10]) ?_
      refine ListK.move (i := 1) (v := .int .i64 (holdsE o t l ow on)) rfl (by simp [z12]) ?_
      refine ListK.bin (i := 2) (u := .int .i64 (holdsE o t l 0 on)) (u' := .int .i64 (holdsE o t l ow on)) (v := .bool false) rfl (by simp [hz_a5]) (by simp [hz_a5]) (nqF (hE0.trans hEk.symm) _) ?_
      refine ListK.move (i := 3) (v := .bool false) rfl (by simp [hz_a5]) ?_
      refine ListK.move (i := 4) (v := .int .i64 (holdsE o t l 0 on)) rfl (by simp [z10]) ?_ (hw := wanted_g (e := 46) (b' := false) rfl (by simp [hz_a5]) rfl)
      refine ListK.bin (i := 5) (u := .int .i64 (holdsE o t l 0 on)) (u' := .int .i64 0) (v := .bool true) rfl (by simp [hz_a5]) (by simp) (nqT (by rw [hE0]; decide) _) ?_ (hw := wanted_g (e := 46) (b' := false) rfl (by simp [hz_a5]) rfl)
      refine ListK.move (i := 6) (v := .bool true) rfl (by simp [hz_a5]) ?_ (hw := wanted_g (e := 46) (b' := false) rfl (by simp [hz_a5]) rfl)
      refine ListK.move (i := 7) (v := .int .i64 (holdsE o t l 0 on)) rfl (by simp [z10]) ?_ (hw := wanted_g (e := 49) (b' := true) rfl (by simp [hz_a5]) rfl)
      refine ListK.bin (i := 8) (u := .int .i64 (holdsE o t l 0 on)) (u' := .int .i64 9) (v := .bool false) rfl (by simp [hz_a5]) (by simp) (nqF hE0 _) ?_ (hw := wanted_g (e := 49) (b' := true) rfl (by simp [hz_a5]) rfl)
      refine ListK.pickW (i := 9) (b := true) (v := .bool false) rfl (by simp [hz_a5]) (by simp [hz_a5]) ?_ (hw := wanted_g (e := 46) (b' := false) rfl (by simp [hz_a5]) rfl)
      refine ListK.pick (i := 10) (b := false) (v := .bool false) rfl (by simp [hz_a5]) (by simp [hz_a5]) ?_
      refine ListK.done (hK _ _ ?_)
      clear hK K
      refine wpIn_cond (t := false) (by simp [hz_a5]) (wpIn_skip ?_)
      show (Code.seq _ _).wpIn _ _ _ _ _ _
      generalize hA : Act.put _ _ _ = a6
      have hz_a6 : a6.tmps.size = 110 := by rw [← hA]; simp only [size_put, hz_a5]
      have p10 : a6.eval (.tmp 10) = .int .i64 (holdsE o t l 0 on) := by rw [← hA]; exact (by simp [z10])
      have hd_a6 : a6.defers = [] := by rw [← hA]; simp only [defers_put, hd_a5]
      clear hA
      refine wpIn_seq (wpIn_seq (region_p 2 ?_))
      intro K hK
      refine ListK.move (i := 0) (v := .int .i64 (holdsE o t l 0 on)) rfl (by simp [p10]) ?_
      refine ListK.bin (i := 1) (u := .int .i64 (holdsE o t l 0 on)) (u' := .int .i64 0) (v := .bool true) rfl (by simp [hz_a6]) (by simp) (nqT (by rw [hE0]; decide) _) ?_
      refine ListK.done (hK _ _ ?_)
      clear hK K
      refine wpIn_cond (t := true) (by simp [hz_a6]) ?_
      generalize hA : Act.put _ _ _ = a7
      have hz_a7 : a7.tmps.size = 110 := by rw [← hA]; simp only [size_put, hz_a6]
      have r10 : a7.eval (.tmp 10) = .int .i64 (holdsE o t l 0 on) := by rw [← hA]; exact (by simp [p10])
      have hd_a7 : a7.defers = [] := by rw [← hA]; simp only [defers_put, hd_a6]
      clear hA
      refine wpIn_seq (region_p 2 ?_)
      intro K hK
      refine ListK.call (i := 0) (vs := #[]) rfl (enters_of Try.func16 (by kernel_rfl) rfl) (by simp) (((wakes_any W9)).mono ?_)
      rintro _ W10 ⟨rfl, hb_t9⟩
      have hL_t9 := hB1.trans (hb_t9.mono (by have := hB1.size; omega))
      replace hs := (hs.below hb_t9 (Nat.le_refl _)).more hb_t9.size
      replace wb := wb.below hb_t9 wb.lt
      replace w_t5 := w_t5.below hb_t9 w_t5.lt
      replace w_t8 := w_t8.below hb_t9 w_t8.lt
      replace hB1 := hL_t9
      replace hlt : b3 < W10.heap.size := wb.lt
      refine ⟨_, rfl, ?_⟩
      refine ListK.assign (i := 1) (v := .bool true) rfl (by simp [hz_a7]) ?_
      refine ListK.done (hK _ _ (wpIn_ret ?_))
      exact hret _ _ (by simp only [defers_put, hd_a7]) (by simp [hz_a7]) hB1
    | true =>
      rw [hF, if_pos rfl] at hE0 hEk hV0 hVk
      refine wpIn_seq (wpIn_seq (region_p 11 ?_))
      intro K hK
      refine ListK.move (i := 0) (v := .int .i64 (holdsE o t l 0 on)) rfl (by simp [z10]) ?_
      refine ListK.move (i := 1) (v := .int .i64 (holdsE o t l ow on)) rfl (by simp [z12]) ?_
      refine ListK.bin (i := 2) (u := .int .i64 (holdsE o t l 0 on)) (u' := .int .i64 (holdsE o t l ow on)) (v := .bool false) rfl (by simp [hz_a5]) (by simp [hz_a5]) (nqF (hE0.trans hEk.symm) _) ?_
      refine ListK.move (i := 3) (v := .bool false) rfl (by simp [hz_a5]) ?_
      refine ListK.move (i := 4) (v := .int .i64 (holdsE o t l 0 on)) rfl (by simp [z10]) ?_ (hw := wanted_g (e := 46) (b' := false) rfl (by simp [hz_a5]) rfl)
      refine ListK.bin (i := 5) (u := .int .i64 (holdsE o t l 0 on)) (u' := .int .i64 0) (v := .bool false) rfl (by simp [hz_a5]) (by simp) (nqF hE0 _) ?_ (hw := wanted_g (e := 46) (b' := false) rfl (by simp [hz_a5]) rfl)
      refine ListK.move (i := 6) (v := .bool false) rfl (by simp [hz_a5]) ?_ (hw := wanted_g (e := 46) (b' := false) rfl (by simp [hz_a5]) rfl)
      refine ListK.passG (i := 7) (e := 49) (b' := false) rfl rfl (by simp [hz_a5]) rfl ?_
      refine ListK.passG (i := 8) (e := 49) (b' := false) rfl rfl (by simp [hz_a5]) rfl ?_
      refine ListK.pickW (i := 9) (b := false) (v := .bool false) rfl (by simp [hz_a5]) (by simp) ?_ (hw := wanted_g (e := 46) (b' := false) rfl (by simp [hz_a5]) rfl)
      refine ListK.pick (i := 10) (b := false) (v := .bool false) rfl (by simp [hz_a5]) (by simp [hz_a5]) ?_
      refine ListK.done (hK _ _ ?_)
      clear hK K
      refine wpIn_cond (t := false) (by simp [hz_a5]) (wpIn_skip ?_)
      show (Code.seq _ _).wpIn _ _ _ _ _ _
      generalize hA : Act.put _ _ _ = a6
      have hz_a6 : a6.tmps.size = 110 := by rw [← hA]; simp only [size_put, hz_a5]
      have p3 : a6.eval (.tmp 3) = .pointer (some ⟨b3, 0, none⟩) := by rw [← hA]; exact (by simp [z3])
      have p7 : a6.eval (.tmp 7) = .int .i64 on := by rw [← hA]; exact (by simp [z7])
      have p8 : a6.eval (.tmp 8) = .int .i64 ow := by rw [← hA]; exact (by simp [z8])
      have p9 : a6.eval (.tmp 9) = .pointer (some ⟨p_t5, 0, none⟩) := by rw [← hA]; exact (by simp [z9])
      have p10 : a6.eval (.tmp 10) = .int .i64 (holdsE o t l 0 on) := by rw [← hA]; exact (by simp [z10])
      have p11 : a6.eval (.tmp 11) = .pointer (some ⟨p_t8, 0, none⟩) := by rw [← hA]; exact (by simp [z11])
      have hd_a6 : a6.defers = [] := by rw [← hA]; simp only [defers_put, hd_a5]
      clear hA
      refine wpIn_seq (wpIn_seq (region_p 2 ?_))
      intro K hK
      refine ListK.move (i := 0) (v := .int .i64 (holdsE o t l 0 on)) rfl (by simp [p10]) ?_
      refine ListK.bin (i := 1) (u := .int .i64 (holdsE o t l 0 on)) (u' := .int .i64 0) (v := .bool false) rfl (by simp [hz_a6]) (by simp) (nqF hE0 _) ?_
      refine ListK.done (hK _ _ ?_)
      clear hK K
      refine wpIn_cond (t := false) (by simp [hz_a6]) (wpIn_skip ?_)
      show (Code.seq _ _).wpIn _ _ _ _ _ _
      generalize hA : Act.put _ _ _ = a7
      have hz_a7 : a7.tmps.size = 110 := by rw [← hA]; simp only [size_put, hz_a6]
      have r3 : a7.eval (.tmp 3) = .pointer (some ⟨b3, 0, none⟩) := by rw [← hA]; exact (by simp [p3])
      have r7 : a7.eval (.tmp 7) = .int .i64 on := by rw [← hA]; exact (by simp [p7])
      have r8 : a7.eval (.tmp 8) = .int .i64 ow := by rw [← hA]; exact (by simp [p8])
      have r9 : a7.eval (.tmp 9) = .pointer (some ⟨p_t5, 0, none⟩) := by rw [← hA]; exact (by simp [p9])
      have r11 : a7.eval (.tmp 11) = .pointer (some ⟨p_t8, 0, none⟩) := by rw [← hA]; exact (by simp [p11])
      have hd_a7 : a7.defers = [] := by rw [← hA]; simp only [defers_put, hd_a6]
      clear hA
      refine wpIn_seq (region_p 4 ?_)
      intro K hK
      refine ListK.move (i := 0) (v := .int .i64 ow) rfl (by simp [r8]) ?_
      refine ListK.bin (i := 1) (u := .int .i64 ow) (u' := .int .i64 0) (v := .bool (decide (ow = 0))) rfl (by simp [hz_a7]) (by simp) (eq3d _ _ _) ?_
      refine ListK.assign (i := 2) (v := .bool false) rfl (by simp) ?_
      refine ListK.assign (i := 3) (v := .bool (decide (ow = 0))) rfl (by simp [hz_a7]) ?_
      refine ListK.done (hK _ _ ?_)
      clear hK K
      generalize hA : Act.put _ _ _ = a8
      have hz_a8 : a8.tmps.size = 110 := by rw [← hA]; simp only [size_put, hz_a7]
      have s3 : a8.eval (.tmp 3) = .pointer (some ⟨b3, 0, none⟩) := by rw [← hA]; exact (by simp [r3])
      have s7 : a8.eval (.tmp 7) = .int .i64 on := by rw [← hA]; exact (by simp [r7])
      have s8 : a8.eval (.tmp 8) = .int .i64 ow := by rw [← hA]; exact (by simp [r8])
      have s9 : a8.eval (.tmp 9) = .pointer (some ⟨p_t5, 0, none⟩) := by rw [← hA]; exact (by simp [r9])
      have s11 : a8.eval (.tmp 11) = .pointer (some ⟨p_t8, 0, none⟩) := by rw [← hA]; exact (by simp [r11])
      have s13 : a8.eval (.tmp 13) = .bool false := by rw [← hA]; exact (by simp [hz_a7])
      have s14 : a8.eval (.tmp 14) = .bool (decide (ow = 0)) := by rw [← hA]; exact (by simp [hz_a7])
      have hd_a8 : a8.defers = [] := by rw [← hA]; simp only [defers_put, hd_a7]
      clear hA
      refine wpIn_seq (wpIn_seq (region_p 1 ?_))
      intro K hK
      refine ListK.assign (i := 0) (v := .int .i64 0) rfl (by simp) ?_
      refine ListK.done (hK _ _ ?_)
      clear hK K
      have hsoE : soonE l on 0 = false := by simp [soonE]
      have hsoG : soonG l ow 0 = decide (ow = 0) := by simp [soonG]
      refine wpIn_block (wpIn_loop (fun a W' => W' = W9 ∧ ∃ i, i ≤ l.length ∧ SoF l on ow b3 p_t5 p_t8 i i i a) (fun a _ => l.length - (intOf (a.eval (.tmp 15))).toNat)
        ⟨rfl, 0, Nat.zero_le _, (by simp only [size_put, hz_a8]), (by simp only [defers_put, hd_a8]), (by simp [s3]), (by simp [s7]), (by simp [s8]), (by simp [s9]), (by simp [s11]), (by rw [hsoE]; exact (by simp [s13])), (by rw [hsoG]; exact (by simp [s14])), (by simp [hz_a8])⟩ ?_)
      rintro a9 W' ⟨hW', i, hi, hf⟩
      rw [hW']
      clear hW' W'
      have hf' := hf
      obtain ⟨hz_a9, hd_a9, u3, u7, u8, u9, u11, u13, u14, u15⟩ := hf
      refine wpIn_seq (wpIn_seq (region_p 5 ?_))
      intro K hK
      refine ListK.move (i := 0) (v := .int .i64 i) rfl (by simp [u15]) ?_
      refine ListK.field (i := 1) (u := .pointer (some ⟨b3, 0, none⟩)) (v := .pointer (some ⟨b3, 2, none⟩)) rfl (by simp [u3]) (fa24_2 _) ?_
      refine ListK.load (i := 2) (p := ⟨b3, 2, none⟩) (v := .slice A l.length c) rfl (by simp [hz_a9]) (ld22 (wb.cell 2)) ?_
      refine ListK.len (i := 3) (u := .slice A l.length c) (v := .int .i64 l.length) rfl (by simp [hz_a9]) (ln22 _ _ _ _ _) rfl ?_
      refine ListK.bin (i := 4) (u := .int .i64 i) (u' := .int .i64 (l.length : Int)) (v := .bool (decide (i < (l.length : Int)))) rfl (by simp [hz_a9]) (by simp [hz_a9]) (lss3 _) ?_
      refine ListK.done (hK _ _ ?_)
      clear hK K
      by_cases hil : i < l.length
      · refine wpIn_cond (t := true) (by simp [hz_a9]; omega) (wpIn_skip ?_)
        show (Code.seq _ _).wpIn _ _ _ _ _ _
        refine wpIn_seq (wpIn_block (wpIn_seq ?_))
        refine so14 (on := on) (ow := ow) (p1 := p_t5) (p2 := p_t8) hil hs wb ⟨(by simp only [size_put, hz_a9]), (by simp only [defers_put, hd_a9]), (by simp [u3]), (by simp [u7]), (by simp [u8]), (by simp [u9]), (by simp [u11]), (by simp [u13]), (by simp [u14]), (by simp [u15])⟩ fun b1 f1 => ?_
        refine so15 hil hs wb f1 fun b2 f2 => ?_
        refine so13 hil (by omega) f2 fun b3' f3 => ⟨⟨rfl, i + 1, by omega, f3⟩, ?_⟩
        have e := f3.2.2.2.2.2.2.2.2.2
        rw [e, u15]
        simp only [intOf]
        omega
      · obtain rfl : i = l.length := by omega
        refine wpIn_cond (t := false) (by simp [hz_a9]) (wpIn_exit ?_)
        generalize hA : Act.put _ _ _ = b0
        have hz_b0 : b0.tmps.size = 110 := by rw [← hA]; simp only [size_put, hz_a9]
        have q3 : b0.eval (.tmp 3) = .pointer (some ⟨b3, 0, none⟩) := by rw [← hA]; exact (by simp [u3])
        have q9 : b0.eval (.tmp 9) = .pointer (some ⟨p_t5, 0, none⟩) := by rw [← hA]; exact (by simp [u9])
        have q11 : b0.eval (.tmp 11) = .pointer (some ⟨p_t8, 0, none⟩) := by rw [← hA]; exact (by simp [u11])
        have q13 : b0.eval (.tmp 13) = .bool (soonE l on l.length) := by rw [← hA]; exact (by simp [u13])
        have q14 : b0.eval (.tmp 14) = .bool (soonG l ow l.length) := by rw [← hA]; exact (by simp [u14])
        have hd_b0 : b0.defers = [] := by rw [← hA]; simp only [defers_put, hd_a9]
        clear hA
        show (Code.seq _ _).wpIn _ _ _ _ _ _
        refine wpIn_seq (regionSo16 (wideF_plain _) hz_b0 q3 q9 q11 q13 q14 (wb.cell 1) ?_ ?_ ?_)
        · intro hE
          have h := sooner_house hv hF hon0.1 hon0.2 (soonE_no hE)
          exact ⟨(w_t5.cell 0).trans (by rw [hV0]; simp [h]), (w_t5.cell 1).trans (by rw [hV0]; simp [h])⟩
        · intro hG
          obtain ⟨g1, g2⟩ := soonG_no hG
          have h := sooner_other hv hF hon0.1 hon0.2 (ow := ow.toNat) (by omega) (by omega) (fun s hs => by rw [Int.toNat_of_nonneg how0.1]; exact g2 s hs)
          exact ⟨(w_t8.cell 0).trans (by rw [hVk]; simp [h]), (w_t8.cell 1).trans (by rw [hVk]; simp [h])⟩
        · intro a' W' hz' hd' hb' hr' hw'
          exact wpIn_ret (hret a' W' (hd'.trans hd_b0) (hw' 21 6 (by kernel_rfl)) (hB1.trans (hb'.mono (by have := hB1.size; omega))))
  · have hrdy : (decide (l.length ≤ 12) && decide (fault o t l = 0)) = false := by
      rw [Bool.and_eq_false_iff, decide_eq_false_iff_not, decide_eq_false_iff_not]
      exact Decidable.not_and_iff_or_not.1 hready
    rw [hrdy] at hrd
    refine wpIn_seq (wpIn_seq (region_p 3 ?_))
    intro K hK
    refine ListK.load (i := 0) (p := ⟨b3, 0, none⟩) (v := .agg #[.int .i64 o, .int .i64 t, .slice A l.length c]) rfl (by simp [u3]) (ld24 ⟨wb.cell 0, wb.cell 1, wb.cell 2⟩) ?_
    refine ListK.call (i := 1) (vs := #[.agg #[.int .i64 o, .int .i64 t, .slice A l.length c]]) rfl (enters_of Try.func41 (by kernel_rfl) rfl) (by simp [hz_a1]) (((hrd)).mono ?_)
    rintro _ W2 ⟨rfl, hb_t1⟩
    clear hrd
    have hL_t1 := hB1.trans (hb_t1.mono (by have := hB1.size; omega))
    replace hs := (hs.below hb_t1 (Nat.le_refl _)).more hb_t1.size
    replace wb := wb.below hb_t1 wb.lt
    replace hB1 := hL_t1
    replace hlt : b3 < W2.heap.size := wb.lt
    refine ⟨_, rfl, ?_⟩
    refine ListK.un (i := 2) (u := .bool false) (v := .bool true) rfl (by simp [hz_a1]) (not4 _ _) ?_
    refine ListK.done (hK _ _ ?_)
    clear hK K
    refine wpIn_cond (t := true) (by simp [hz_a1]) ?_
    generalize hA : Act.put _ _ _ = a2
    have hz_a2 : a2.tmps.size = 110 := by rw [← hA]; simp only [size_put, hz_a1]
    have v3 : a2.eval (.tmp 3) = .pointer (some ⟨b3, 0, none⟩) := by rw [← hA]; exact (by simp [u3])
    have hd_a2 : a2.defers = [] := by rw [← hA]; simp only [defers_put, hd_a1]
    clear hA
    refine wpIn_seq (region_p 2 ?_)
    intro K hK
    refine ListK.call (i := 0) (vs := #[]) rfl (enters_of Try.func16 (by kernel_rfl) rfl) (by simp) (((wakes_any W2)).mono ?_)
    rintro _ W3 ⟨rfl, hb_t2⟩
    have hL_t2 := hB1.trans (hb_t2.mono (by have := hB1.size; omega))
    replace hs := (hs.below hb_t2 (Nat.le_refl _)).more hb_t2.size
    replace wb := wb.below hb_t2 wb.lt
    replace hB1 := hL_t2
    replace hlt : b3 < W3.heap.size := wb.lt
    refine ⟨_, rfl, ?_⟩
    refine ListK.assign (i := 1) (v := .bool true) rfl (by simp [hz_a2]) ?_
    refine ListK.done (hK _ _ (wpIn_ret ?_))
    exact hret _ _ (by simp only [defers_put, hd_a2]) (by simp [hz_a2]) hB1
end Go.Proofs.Ytfcnombmphophaa
namespace Go.Proofs.Ytfcnombmphophaa
open Go.RowKit Go.Shelf Go.ChangeShapes Go.WideShapes
section
variable {H : Type} {enc : TypeId × Value → H} {W : World} {r : Reach} {b0 : Nat}
theorem c3 : Try.prog.cellsOf 3 = 1 := by kernel_rfl
theorem c22 : Try.prog.cellsOf 22 = 1 := by kernel_rfl
theorem c71 : Try.prog.cellsOf 71 = 2 := by kernel_rfl
theorem c73 : Try.prog.cellsOf 73 = 5 := by kernel_rfl
theorem c24 : Try.prog.cellsOf 24 = 3 := by kernel_rfl
theorem get_int {n : Nat} {cs : List Value} {t i : Nat} {y : Option (DataW H × List MemPlace)} (ht : Try.prog.underlying t = some (.int .i64)) (h : DataW.trod enc Try.prog W 0 (fun _ => true) true n t ((cs.drop i).take 1) = y) (hy : ∃ z, y = some z) : ∃ x : Int, cs[i]? = some (.int .i64 x) := by
  obtain ⟨z, rfl⟩ := hy
  obtain ⟨x, hx, _, _⟩ := DataW.trod_int ht h
  refine ⟨x, ?_⟩
  have h2 : ((cs.drop i).take 1)[0]? = some (.int .i64 x) := by rw [hx]; rfl
  rw [List.getElem?_take, if_pos (by omega), List.getElem?_drop] at h2
  simpa using h2
theorem five {cs : List Value} {a b c d e : Value} (hl : cs.length = 5) (h0 : cs[0]? = some a) (h1 : cs[1]? = some b) (h2 : cs[2]? = some c) (h3 : cs[3]? = some d) (h4 : cs[4]? = some e) : cs = [a, b, c, d, e] := by
  match cs, hl with
  | [_, _, _, _, _], _ =>
    simp at h0 h1 h2 h3 h4
    subst h0 h1 h2 h3 h4
    rfl
theorem at_some {α : Type} {xs : List α} {n i : Nat} (h : xs.length = n) (hi : i < n) : ∃ z, xs[i]? = some z := ⟨_, List.getElem?_eq_getElem (by omega)⟩
set_option maxRecDepth 100000 in
/-- Five cells that read as a sale. -/
theorem open_sale {n : Nat} {cs : List Value} {x : DataW H × List MemPlace} (h : DataW.trod enc Try.prog W 0 (fun _ => true) true n 73 cs = some x) : ∃ s : Sale, cs = saleL s := by
  obtain ⟨xs, m, rfl, rfl, hl, hx, hi⟩ := DataW.trod_struct Try.underlying73 h
  rw [c73] at hl
  have h0 := (show DataW.trod enc Try.prog W 0 (fun _ => true) true m 3 ((cs.drop 0).take (Try.prog.cellsOf 3)) = xs[0]? from hi 0 _ rfl)
  have h1 := (show DataW.trod enc Try.prog W 0 (fun _ => true) true m 3 ((cs.drop 1).take (Try.prog.cellsOf 3)) = xs[1]? from hi 1 _ rfl)
  have h2 := (show DataW.trod enc Try.prog W 0 (fun _ => true) true m 3 ((cs.drop 2).take (Try.prog.cellsOf 3)) = xs[2]? from hi 2 _ rfl)
  have h3 := (show DataW.trod enc Try.prog W 0 (fun _ => true) true m 71 ((cs.drop 3).take (Try.prog.cellsOf 71)) = xs[3]? from hi 3 _ rfl)
  rw [c3] at h0 h1 h2
  rw [c71] at h3
  obtain ⟨a, p0⟩ := get_int Try.underlying3 h0 (at_some hx (by decide))
  obtain ⟨b, p1⟩ := get_int Try.underlying3 h1 (at_some hx (by decide))
  obtain ⟨c, p2⟩ := get_int Try.underlying3 h2 (at_some hx (by decide))
  obtain ⟨z, hz⟩ := at_some (i := 3) hx (by decide)
  rw [hz] at h3
  obtain ⟨ys, m', rfl, rfl, hl', hy, hj⟩ := DataW.trod_struct Try.underlying71 h3
  have k0 := (show DataW.trod enc Try.prog W 0 (fun _ => true) true m' 3 ((((cs.drop 3).take 2).drop 0).take (Try.prog.cellsOf 3)) = ys[0]? from hj 0 _ rfl)
  have k1 := (show DataW.trod enc Try.prog W 0 (fun _ => true) true m' 3 ((((cs.drop 3).take 2).drop 1).take (Try.prog.cellsOf 3)) = ys[1]? from hj 1 _ rfl)
  rw [c3] at k0 k1
  obtain ⟨d, k0⟩ := get_int Try.underlying3 k0 (at_some hy (by decide))
  obtain ⟨e, k1⟩ := get_int Try.underlying3 k1 (at_some hy (by decide))
  rw [List.getElem?_take, if_pos (by omega), List.getElem?_drop] at k0 k1
  exact ⟨⟨a, b, c, d, e⟩, five hl p0 p1 p2 k0 k1⟩
set_option maxRecDepth 100000 in
theorem open_batch {v : Value} {d : DataW H} {ps : List MemPlace} (hval : Value.okWide Try.prog W r b0 24 v) (hd : DataW.Trod enc Try.prog W 0 (fun _ => true) true 24 v d ps) :
    ∃ (o t : Int) (A : Option Addr) (l : List Sale) (c : Nat), v = .agg #[.int .i64 o, .int .i64 t, .slice A l.length c] ∧ SalesAt W W.heap.size A l := by
  unfold Value.okWide at hval
  rw [Try.underlying24] at hval
  obtain ⟨cs, rfl, hsz, _⟩ := hval
  rw [c24] at hsz
  obtain ⟨fuel, hf⟩ := hd
  obtain ⟨xs, m, rfl, _, hl, hx, hi⟩ := DataW.trod_struct Try.underlying24 hf
  have h0 := (show DataW.trod enc Try.prog W 0 (fun _ => true) true m 3 (((Value.agg cs).cells.toList.drop 0).take (Try.prog.cellsOf 3)) = xs[0]? from hi 0 _ rfl)
  have h1 := (show DataW.trod enc Try.prog W 0 (fun _ => true) true m 3 (((Value.agg cs).cells.toList.drop 1).take (Try.prog.cellsOf 3)) = xs[1]? from hi 1 _ rfl)
  have h2 := (show DataW.trod enc Try.prog W 0 (fun _ => true) true m 22 (((Value.agg cs).cells.toList.drop 2).take (Try.prog.cellsOf 22)) = xs[2]? from hi 2 _ rfl)
  rw [c3] at h0 h1
  rw [c22] at h2
  obtain ⟨o, h0⟩ := get_int Try.underlying3 h0 (at_some hx (by decide))
  obtain ⟨t, h1⟩ := get_int Try.underlying3 h1 (at_some hx (by decide))
  obtain ⟨z, hz⟩ := at_some (i := 2) hx (by decide)
  rw [hz] at h2
  have hcs : (Value.agg cs).cells.toList = cs.toList := by rfl
  rw [hcs] at h0 h1 h2
  have key : ∃ (A : Option Addr) (l : List Sale) (c : Nat), (cs.toList.drop 2).take 1 = [.slice A l.length c] ∧ SalesAt W W.heap.size A l := by
    rcases DataW.trod_slice Try.underlying22 h2 with ⟨h3, _⟩ | ⟨a, n, c, elems, rest, k, _, h3, _, _, hle, _, hlen, hel, _, _⟩
    · exact ⟨none, [], 0, h3, fun k x hx => by simp at hx⟩
    · rw [c73] at hel
      have hsale : ∀ i, i < n → ∃ s : Sale, W.cells? 0 (a.add (i * 5)) 5 = some (saleL s) := by
        intro i hi
        have h4 := hel i hi
        obtain ⟨y, hy⟩ := at_some (i := i) hlen hi
        rw [hy, Option.bind_eq_some_iff] at h4
        obtain ⟨cs', h5, h6⟩ := h4
        obtain ⟨s, rfl⟩ := open_sale h6
        exact ⟨s, h5⟩
      obtain ⟨f, hf⟩ : ∃ f : Nat → Sale, ∀ i, i < n → W.cells? 0 (a.add (i * 5)) 5 = some (saleL (f i)) :=
        ⟨fun i => if h : i < n then Classical.choose (hsale i h) else ⟨0, 0, 0, 0, 0⟩, fun i hi => by
          dsimp only
          rw [dif_pos hi]
          exact Classical.choose_spec (hsale i hi)⟩
      refine ⟨some a, (List.range n).map f, c, by rw [h3]; simp, ?_⟩
      intro k s hs
      rw [List.getElem?_map, Option.map_eq_some_iff] at hs
      obtain ⟨k', hk', rfl⟩ := hs
      obtain ⟨hkn, rfl⟩ : k < n ∧ k' = k := by
        have := List.getElem?_eq_some_iff.1 hk'
        obtain ⟨h7, h8⟩ := this
        simp at h7 h8
        exact ⟨h7, h8.symm⟩
      have hcl := (World.cells?_some (hf k' hkn)).2.2
      obtain ⟨b, off, spot⟩ := a
      have hspot : spot = none := by
        have hcl0 := (World.cells?_some (hf 0 (by omega))).2.2 0 (by omega)
        have := World.cell?_spot (w := W) (a := (Addr.add ⟨b, off, spot⟩ (0 * 5)).add 0) (v := .int .i64 (f 0).src) (by rw [hcl0]; rfl)
        simpa [Addr.add] using this
      subst hspot
      have hc : ∀ j, j < 5 → W.cell? ⟨b, off + k' * 5 + j, none⟩ = (saleL (f k'))[j]? := by
        intro j hj
        have := hcl j hj
        rwa [add_plain, add_plain] at this
      have g0 := hc 0 (by omega)
      have g1 := hc 1 (by omega)
      have g2 := hc 2 (by omega)
      have g3 := hc 3 (by omega)
      have g4 := hc 4 (by omega)
      exact ⟨b, off, rfl, block_lt_of_cell (v := .int .i64 (f k').src) g0, g0, g1, g2, g3, g4⟩
  obtain ⟨A, l, c, h3, hs⟩ := key
  refine ⟨o, t, A, l, c, ?_, hs⟩
  have h4 : cs.toList[2]? = some (.slice A l.length c) := by
    have : ((cs.toList.drop 2).take 1)[0]? = some (.slice A l.length c) := by rw [h3]; rfl
    rw [List.getElem?_take, if_pos (by omega), List.getElem?_drop] at this
    simpa using this
  have h5 : cs.toList = [.int .i64 o, .int .i64 t, .slice A l.length c] := by
    have hl3 : cs.toList.length = 3 := by simpa using hsz
    generalize cs.toList = ls at *
    match ls, hl3 with
    | [_, _, _], _ =>
      simp at h0 h1 h4
      subst h0 h1 h4
      rfl
  have : cs = #[.int .i64 o, .int .i64 t, .slice A l.length c] := by
    apply Array.ext'
    rw [h5]
  rw [this]
end
/-- A READING IS CARRIED OVER WHATEVER LIES BEHIND. -/
theorem laidOut : laidOutB Try.prog = true := by kernel_rfl
theorem r24 : Try.prog.readableRec 24 = true := by kernel_rfl
end Go.Proofs.Ytfcnombmphophaa
namespace Go.Proofs.Ytfcnombmphophaa
open Go.RowKit Go.Shelf Go.ChangeShapes Go.WideShapes
theorem carry_trod {H : Type} {enc : TypeId × Value → H} {W W' : World} {t : TypeId} {v : Value} {d : DataW H} {ps : List MemPlace} (hr : Try.prog.readableRec t = true) (hrow : t < Try.prog.types.size) (hb : Below W.heap.size W W')
    (hd : DataW.Trod enc Try.prog W 0 (fun _ => true) true t v d ps) (hlt : ∀ p ∈ ps, p.block < W.heap.size) : DataW.Trod enc Try.prog W' 0 (fun b => decide (b < W.heap.size)) true t v d ps := by
  obtain ⟨n, h⟩ := hd
  exact ⟨n, DataW.trod_stays (kids_book laidOut hr) (book_sized hr) (fun h => by cases h) ⟨hrow, book_self t⟩ h
    (fun p hp => (hb.frame (fun _ => False)).sameAt (hlt p hp) id (fun b e => by
      have := DataW.trod_good (kids_book laidOut hr) (fun h => by cases h) n t _ _ ⟨hrow, book_self t⟩ h p hp
      subst e
      exact this))
    (fun p hp => by simpa using hlt p hp)⟩
theorem s24 : 24 < Try.prog.types.size := of_decide_eq_true (by kernel_rfl)
end Go.Proofs.Ytfcnombmphophaa
