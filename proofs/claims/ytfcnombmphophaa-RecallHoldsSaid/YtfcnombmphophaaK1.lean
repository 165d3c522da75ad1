/- Texts for the laws of package recall, part 1: contracts of the program's functions, each for every input that its words name. -/
import Derived.Below
import Derived.Laws.Rows
import Derived.WalkKit
import Derived.Test.YtfcnombmphophaaProg
import Derived.WalkSpells
import Derived.WalkLawsBesides
import Derived.Lib.Hide
import Derived.Deep.QuietTactic
import Derived.BigQuiet
import Derived.BigRegion
import Derived.RangeFuncNested
import Derived.RangeFuncBound
import Derived.RangeFuncCalls
import Derived.RangeFuncLeaves
import Derived.Shelf.Abstract
import Derived.Shelf.RegionOpen
import Derived.OwnWalkIn
import Derived.TacticsInMore
import Derived.LoopNIn
import Derived.LoopIn
import Derived.OrdersHeld
import Derived.OrdersIn
import Derived.Deep.RegionHeld3
import Derived.Deep.AppendLies

set_option linter.unusedVariables false
set_option maxRecDepth 10000

namespace Go.Proofs.Ytfcnombmphophaa
open Go.RowKit

structure Sale where
  src : Int
  dst : Int
  many : Int
  lo : Int
  hi : Int

/-- The cells of sale k of a slice that begins at offset off of block b. -/
def SaleAt (w : World) (b off : Nat) (k : Nat) (s : Sale) : Prop :=
  w.cell? ⟨b, off + k * 5, none⟩ = some (.int .i64 s.src) ∧ w.cell? ⟨b, off + k * 5 + 1, none⟩ = some (.int .i64 s.dst) ∧
  w.cell? ⟨b, off + k * 5 + 2, none⟩ = some (.int .i64 s.many) ∧ w.cell? ⟨b, off + k * 5 + 3, none⟩ = some (.int .i64 s.lo) ∧
  w.cell? ⟨b, off + k * 5 + 4, none⟩ = some (.int .i64 s.hi)

/-- A slice of sales at address A reads as l, below block B. -/
def SalesAt (w : World) (B : Nat) (A : Option Addr) (l : List Sale) : Prop :=
  ∀ k s, l[k]? = some s → ∃ b off, A = some ⟨b, off, none⟩ ∧ b < B ∧ SaleAt w b off k s

theorem SaleAt.keep {w w' : World} {b off k : Nat} {s : Sale} (h : SaleAt w b off k s) (hk : ∀ o, w'.cell? ⟨b, o, none⟩ = w.cell? ⟨b, o, none⟩) : SaleAt w' b off k s := by
  unfold SaleAt at *
  simp only [hk]
  exact h
theorem SalesAt.keep {w w' : World} {B : Nat} {A : Option Addr} {l : List Sale} (h : SalesAt w B A l) (hk : ∀ b o, b < B → w'.cell? ⟨b, o, none⟩ = w.cell? ⟨b, o, none⟩) : SalesAt w' B A l := by
  intro k s hs
  obtain ⟨b, off, hA, hb, hc⟩ := h k s hs
  exact ⟨b, off, hA, hb, hc.keep fun o => hk b o hb⟩
theorem SalesAt.below {w w' : World} {B B' : Nat} {A : Option Addr} {l : List Sale} (h : SalesAt w B A l) (hb : Below B' w w') (hB : B ≤ B') : SalesAt w' B A l :=
  h.keep fun b o hlt => hb.cell (p := ⟨b, o, none⟩) (Nat.lt_of_lt_of_le hlt hB)
theorem SalesAt.more {w : World} {B B' : Nat} {A : Option Addr} {l : List Sale} (h : SalesAt w B A l) (hB : B ≤ B') : SalesAt w B' A l := by
  intro k s hs
  obtain ⟨b, off, hA, hb, hc⟩ := h k s hs
  exact ⟨b, off, hA, by omega, hc⟩

/-- A slice of ints at address A reads as l, below block B. -/
def IntsAt (w : World) (B : Nat) (A : Option Addr) (l : List Int) : Prop :=
  ∀ k x, l[k]? = some x → ∃ b off, A = some ⟨b, off, none⟩ ∧ b < B ∧ w.cell? ⟨b, off + k, none⟩ = some (.int .i64 x)
theorem IntsAt.keep {w w' : World} {B : Nat} {A : Option Addr} {l : List Int} (h : IntsAt w B A l) (hk : ∀ b o, b < B → w'.cell? ⟨b, o, none⟩ = w.cell? ⟨b, o, none⟩) : IntsAt w' B A l := by
  intro k x hx
  obtain ⟨b, off, hA, hb, hc⟩ := h k x hx
  exact ⟨b, off, hA, hb, (hk b _ hb).trans hc⟩
theorem IntsAt.below {w w' : World} {B B' : Nat} {A : Option Addr} {l : List Int} (h : IntsAt w B A l) (hb : Below B' w w') (hB : B ≤ B') : IntsAt w' B A l :=
  h.keep fun b o hlt => hb.cell (p := ⟨b, o, none⟩) (Nat.lt_of_lt_of_le hlt hB)
theorem IntsAt.more {w : World} {B B' : Nat} {A : Option Addr} {l : List Int} (h : IntsAt w B A l) (hB : B ≤ B') : IntsAt w B' A l := by
  intro k x hx
  obtain ⟨b, off, hA, hb, hc⟩ := h k x hx
  exact ⟨b, off, hA, by omega, hc⟩

theorem cell_new1 (w : World) (v : Value) (t : TypeId) : (w.alloc (.cells #[v] t)).cell? ⟨w.heap.size, 0, none⟩ = some v := by
  rw [cell_of_row _ _ _ _ _ _ (heap_alloc_new w (.cells #[v] t))]
  rfl
/-- Is a number from lo to hi? -/
def inR (n lo hi : Int) : Bool := decide (lo ≤ n ∧ n ≤ hi)
theorem inR_iff {n lo hi : Int} : inR n lo hi = true ↔ lo ≤ n ∧ n ≤ hi := by simp [inR]
/-- A sale is one of a batch of so many owners. -/
def saleOk (o : Int) (s : Sale) : Bool :=
  inR s.src 0 (o - 1) && (inR s.dst 0 (o - 1) && (decide (s.src ≠ s.dst) && (inR s.many 1 1000 && (inR s.lo 0 100 && (inR s.hi 0 100 && decide (s.lo ≤ s.hi))))))

/-- The error of a batch, as CheckBatch has it. -/
def fault (o t : Int) (l : List Sale) : Int :=
  if 8 < l.length then 3 else if inR o 1 6 = true ∧ inR t 0 1000 = true ∧ l.all (saleOk o) = true then 0 else 1
end Go.Proofs.Ytfcnombmphophaa
namespace Go.Proofs.Ytfcnombmphophaa
open Go.RowKit

theorem toNat_small (a : Nat) (ha : a < 65536) : (BitVec.ofInt 64 (a : Int)).toNat = a := by
  rw [BitVec.ofInt_natCast, BitVec.toNat_ofNat]
  exact Nat.mod_eq_of_lt (by omega)
theorem and_small (a b : Nat) (ha : a < 65536) (hb : b < 65536) : bits .and .i64 (a : Int) (b : Int) = ((a &&& b : Nat) : Int) := by
  have hx : a &&& b < 2 ^ 16 := Nat.and_lt_two_pow _ (by omega)
  show IntKind.i64.wrap ((BitVec.ofInt 64 (a : Int) &&& BitVec.ofInt 64 (b : Int)).toNat : Int) = _
  rw [BitVec.toNat_and, toNat_small a ha, toNat_small b hb, IntKind.wrap_i64]
  omega
theorem or_small (a b : Nat) (ha : a < 65536) (hb : b < 65536) : bits .or .i64 (a : Int) (b : Int) = ((a ||| b : Nat) : Int) := by
  have hx : a ||| b < 2 ^ 16 := Nat.or_lt_two_pow (by omega) (by omega)
  show IntKind.i64.wrap ((BitVec.ofInt 64 (a : Int) ||| BitVec.ofInt 64 (b : Int)).toNat : Int) = _
  rw [BitVec.toNat_or, toNat_small a ha, toNat_small b hb, IntKind.wrap_i64]
  omega
theorem div_pow_cast (d n : Nat) : ((d : Int) / 2 ^ n) = ((d >>> n : Nat) : Int) := by
  rw [Nat.shiftRight_eq_div_pow]
  push_cast
  rfl
theorem bit_of (d n : Nat) (hd : d < 65536) : (bits .and .i64 ((d : Int) / 2 ^ n) 1 == 1) = d.testBit n := by
  have h1 : d >>> n < 65536 := by
    have := Nat.shiftRight_le d n
    omega
  rw [div_pow_cast, show (1 : Int) = ((1 : Nat) : Int) from rfl, and_small _ _ h1 (by omega), Nat.and_comm]
  unfold Nat.testBit
  rcases Nat.mod_two_eq_zero_or_one (d >>> n) with h | h
  · rw [Nat.and_comm, Nat.and_one_is_mod, h]
    rfl
  · rw [Nat.and_comm, Nat.and_one_is_mod, h]
    rfl
end Go.Proofs.Ytfcnombmphophaa
namespace Go.Proofs.Ytfcnombmphophaa
open Go.RowKit

set_option maxHeartbeats 400000 in
theorem within_any (n lo hi : Int) (w : World) :
    Calls Try.prog 47 #[.int .i64 n, .int .i64 lo, .int .i64 hi] w fun e w' => e = .returned (.bool (inR n lo hi)) ∧ w = w' := by
  by_cases h1 : lo ≤ n
  · go_enter Try.func47, Try.ntmps47
    go_wp2
    go_ret
    exact ⟨by simp [inR, h1], rfl⟩
  · have hd : decide (lo ≤ n) = false := by simpa using h1
    go_enter Try.func47, Try.ntmps47
    go_wp2
    go_ret
    exact ⟨by simp [inR]; omega, rfl⟩

set_option maxHeartbeats 400000 in
theorem day_any (n : Int) (w : World) :
    Calls Try.prog 67 #[.int .i64 n] w fun e w' => e = .returned (.bool (inR n 0 100)) ∧ w = w' := by
  go_enter Try.func67, Try.ntmps67
  go_wp2_with (go_at_call 47; refine (within_any _ _ _ _).mono ?_; rintro e w' ⟨rfl, rfl⟩)
  go_ret
  exact ⟨rfl, rfl⟩

set_option maxHeartbeats 400000 in
theorem sale_any (o t : Int) (sv : Value) (s : Sale) (w : World) (ho : 0 ≤ o) (ho' : o ≤ 1000) :
    Calls Try.prog 46 #[.agg #[.int .i64 o, .int .i64 t, sv], .agg #[.int .i64 s.src, .int .i64 s.dst, .int .i64 s.many, .int .i64 s.lo, .int .i64 s.hi]] w
      fun e w' => e = .returned (.bool (saleOk o s)) ∧ Below w.heap.size w w' := by
  obtain ⟨a, b, m, lo, hi⟩ := s
  simp only []
  go_enter Try.func46, Try.ntmps46
  go_wp2_with (first | (go_at_call 47; refine (within_any _ _ _ _).mono ?_; rintro e w' ⟨rfl, rfl⟩) | (go_at_call 67; refine (day_any _ _).mono ?_; rintro e w' ⟨rfl, rfl⟩))
  all_goals
    go_ret
    refine ⟨?_, ?_⟩
    · simp_all [saleOk]
    · exact ((Below.refl _ _).alloc (Nat.le_refl _) _).alloc (by simp) _

set_option maxHeartbeats 400000 in
theorem has_any (d n : Nat) (w : World) (hd : d < 65536) (hn : n < 64) :
    Calls Try.prog 74 #[.int .i64 d, .int .i64 n] w fun e w' => e = .returned (.bool (d.testBit n)) ∧ w = w' := by
  go_enter Try.func74, Try.ntmps74
  go_wp2
  go_ret
  exact ⟨by rw [← bit_of d n hd]; rfl, rfl⟩
end Go.Proofs.Ytfcnombmphophaa
namespace Go.Proofs.Ytfcnombmphophaa
open Go.RowKit

/-- The cells of an array of stocks. -/
def stk (st : Nat → Int) : Array Value := #[.int .i64 (st 0), .int .i64 (st 1), .int .i64 (st 2), .int .i64 (st 3), .int .i64 (st 4), .int .i64 (st 5)]
def upd (st : Nat → Int) (i : Nat) (v : Int) : Nat → Int := fun j => if j = i then v else st j
theorem stk_size (st : Nat → Int) : (stk st).size = 6 := rfl
theorem stk_get (st : Nat → Int) (i : Nat) (h : i < 6) : (stk st)[i]? = some (.int .i64 (st i)) := by
  match i, h with
  | 0, _ => rfl
  | 1, _ => rfl
  | 2, _ => rfl
  | 3, _ => rfl
  | 4, _ => rfl
  | 5, _ => rfl
theorem stk_set (st : Nat → Int) (i : Nat) (v : Int) : (stk st).setIfInBounds i (.int .i64 v) = stk (upd st i v) := by
  match i with
  | 0 => rfl
  | 1 => rfl
  | 2 => rfl
  | 3 => rfl
  | 4 => rfl
  | 5 => rfl
  | i + 6 =>
    rw [Array.setIfInBounds_eq_of_size_le (by simp [stk_size])]
    simp [stk, upd]

/-- What all have behind a sale. -/
def sold (st : Nat → Int) (s : Sale) : Nat → Int :=
  upd (upd st s.src.toNat (st s.src.toNat - s.many)) s.dst.toNat (upd st s.src.toNat (st s.src.toNat - s.many) s.dst.toNat + s.many)

set_option maxHeartbeats 400000 in
theorem sold_any (st : Nat → Int) (s : Sale) (w : World) (ha0 : 0 ≤ s.src) (ha : s.src < 6) (hb0 : 0 ≤ s.dst) (hb : s.dst < 6) (hm0 : 0 ≤ s.many) (hm : s.many ≤ 1000)
    (hs : ∀ i, -100000 ≤ st i ∧ st i ≤ 100000) :
    Calls Try.prog 50 #[.agg (stk st), .agg #[.int .i64 s.src, .int .i64 s.dst, .int .i64 s.many, .int .i64 s.lo, .int .i64 s.hi]] w fun e w' => e = .returned (.agg (stk (sold st s))) ∧ Below w.heap.size w w' := by
  obtain ⟨a, b, m, lo, hi⟩ := s
  unfold sold
  simp only [] at *
  have g1 := stk_get st a.toNat (by omega)
  have b1 := hs a.toNat
  have b2 := hs b.toNat
  clear hs
  go_enter Try.func50, Try.ntmps50
  go_wp2
  go_region
  go_wp2
  rw [stk_set]
  have b3 : -200000 ≤ upd st a.toNat (st a.toNat - m) b.toNat ∧ upd st a.toNat (st a.toNat - m) b.toNat ≤ 200000 := by
    unfold upd; split <;> omega
  generalize hst1 : upd st a.toNat (st a.toNat - m) = st1 at *
  have H1 := Lib.hid hst1
  clear hst1
  have g3 := stk_get st1 b.toNat (by omega)
  go_region
  rw [stk_set]
  generalize hst2 : upd st1 b.toNat (st1 b.toNat + m) = st2 at *
  have H2 := Lib.hid hst2
  clear hst2
  unfold stk
  go_wp2
  refine bodyPost_ret (v := .agg (stk st2)) (by simp [results, Try.results50, go_sem, stk]) rfl ⟨by rw [H1.out, H2.out], ?_⟩
  exact (((((Below.refl _ _).alloc (Nat.le_refl _) _).alloc (by simp) _).alloc (by simp; omega) _).drew).drew

set_option maxHeartbeats 400000 in
theorem begun_any (o t : Int) (sv : Value) (w : World) :
    Calls Try.prog 49 #[.agg #[.int .i64 o, .int .i64 t, sv]] w fun e w' => e = .returned (.agg (stk (upd (fun _ => 0) 0 t))) ∧ Below w.heap.size w w' := by
  go_enter Try.func49, Try.ntmps49
  go_wp2
  refine bodyPost_ret (v := .agg (stk (upd (fun _ => 0) 0 t))) (by simp [results, Try.results49, go_sem, stk, upd]) rfl ⟨rfl, ?_⟩
  exact ((Below.refl _ _).alloc (Nat.le_refl _) _).alloc (by simp) _

set_option maxHeartbeats 400000 in
theorem max_two (b off c : Nat) (x y : Int) (w : World) (h0 : w.cell? ⟨b, off, none⟩ = some (.int .i64 x)) (h1 : w.cell? ⟨b, off + 1, none⟩ = some (.int .i64 y)) :
    Calls Try.prog 75 #[.slice (some ⟨b, off, none⟩) 2 c] w fun e w' => e = .returned (.int .i64 (max x y)) ∧ w = w' := by
  go_enter Try.func75, Try.ntmps75
  go_wp2
  go_loop [3, 4] (fun m i => (m = .int .i64 x ∧ i = .int .i64 1) ∨ (m = .int .i64 (max x y) ∧ i = .int .i64 2)) (fun _ i => (2 - intOf i).toNat)
  case atStart => exact .inl ⟨rfl, rfl⟩
  case round =>
    rcases hrel with ⟨rfl, rfl⟩ | ⟨rfl, rfl⟩
    · go_wp2
      go_round
      case rel => exact .inr ⟨by rw [show (if x < y then y else x) = max x y from by split <;> omega], rfl⟩
      case measure => simp [intOf]
    · go_wp2
      go_ret
      exact ⟨rfl, rfl⟩
set_option maxHeartbeats 400000 in
theorem min_two (b off c : Nat) (x y : Int) (w : World) (h0 : w.cell? ⟨b, off, none⟩ = some (.int .i64 x)) (h1 : w.cell? ⟨b, off + 1, none⟩ = some (.int .i64 y)) :
    Calls Try.prog 79 #[.slice (some ⟨b, off, none⟩) 2 c] w fun e w' => e = .returned (.int .i64 (min x y)) ∧ w = w' := by
  go_enter Try.func79, Try.ntmps79
  go_wp2
  go_loop [3, 4] (fun m i => (m = .int .i64 x ∧ i = .int .i64 1) ∨ (m = .int .i64 (min x y) ∧ i = .int .i64 2)) (fun _ i => (2 - intOf i).toNat)
  case atStart => exact .inl ⟨rfl, rfl⟩
  case round =>
    rcases hrel with ⟨rfl, rfl⟩ | ⟨rfl, rfl⟩
    · go_wp2
      go_round
      case rel => exact .inr ⟨by rw [show (if y < x then y else x) = min x y from by split <;> omega], rfl⟩
      case measure => simp [intOf]
    · go_wp2
      go_ret
      exact ⟨rfl, rfl⟩

set_option maxHeartbeats 400000 in
theorem greatest_two (b off c : Nat) (x y : Int) (w : World) (h0 : w.cell? ⟨b, off, none⟩ = some (.int .i64 x)) (h1 : w.cell? ⟨b, off + 1, none⟩ = some (.int .i64 y)) :
    Calls Try.prog 57 #[.slice (some ⟨b, off, none⟩) 2 c] w fun e w' => e = .returned (.int .i64 (max x y)) ∧ w = w' := by
  have H0 := Lib.hid h0
  have H1 := Lib.hid h1
  clear h0 h1
  go_enter Try.func57, Try.ntmps57
  go_wp2_with (go_at_call 75; refine (max_two b off c x y _ H0.out H1.out).mono ?_; rintro e w' ⟨rfl, rfl⟩)
  go_ret
  exact ⟨rfl, rfl⟩
set_option maxHeartbeats 400000 in
theorem least_two (b off c : Nat) (x y : Int) (w : World) (h0 : w.cell? ⟨b, off, none⟩ = some (.int .i64 x)) (h1 : w.cell? ⟨b, off + 1, none⟩ = some (.int .i64 y)) :
    Calls Try.prog 65 #[.slice (some ⟨b, off, none⟩) 2 c] w fun e w' => e = .returned (.int .i64 (min x y)) ∧ w = w' := by
  have H0 := Lib.hid h0
  have H1 := Lib.hid h1
  clear h0 h1
  go_enter Try.func65, Try.ntmps65
  go_wp2_with (go_at_call 79; refine (min_two b off c x y _ H0.out H1.out).mono ?_; rintro e w' ⟨rfl, rfl⟩)
  go_ret
  exact ⟨rfl, rfl⟩
end Go.Proofs.Ytfcnombmphophaa
namespace Go.Proofs.Ytfcnombmphophaa
open Go.RowKit

/-- A block that is known whole. -/
def Whole (w : World) (g : Nat) (t : TypeId) (cs : Array Value) : Prop := w.heap[g]? = some (.cells cs t (0, 0))
section
variable {w w' : World} {g : Nat} {t : TypeId} {cs : Array Value}
theorem Whole.lt (h : Whole w g t cs) : g < w.heap.size := (Array.getElem?_eq_some_iff.1 h).1
theorem Whole.cell (h : Whole w g t cs) (i : Nat) : w.cell? ⟨g, i, none⟩ = cs[i]? := cell_of_row w g i cs t (0, 0) h
theorem Whole.frozen (h : Whole w g t cs) (i : Nat) : w.frozen? ⟨g, i, none⟩ = false := by
  unfold Whole at h
  simp [World.frozen?, h]
theorem Whole.new (w : World) (t : TypeId) (cs : Array Value) : Whole (w.alloc (.cells cs t)) w.heap.size t cs := heap_alloc_new w _
theorem Whole.alloc (h : Whole w g t cs) (o : Obj) : Whole (w.alloc o) g t cs := (Below.heap_alloc w o g h.lt).trans h
theorem Whole.set (h : Whole w g t cs) (i : Nat) (u : Value) : Whole (w.setCell ⟨g, i, none⟩ u) g t (cs.setIfInBounds i u) := by
  unfold Whole at h ⊢
  simp [World.setCell, Array.getElem?_modify, h]
theorem Whole.far (h : Whole w g t cs) {p : Addr} (hp : g ≠ p.block) (u : Value) : Whole (w.setCell p u) g t cs := (Below.heap_setCell w p u g hp).trans h
theorem Whole.below {B : Nat} (h : Whole w g t cs) (hb : Below B w w') (hg : g < B) : Whole w' g t cs := (hb.block g hg).trans h
end

/-- A valid batch. -/
structure Valid (o t : Int) (l : List Sale) : Prop where
  o1 : 1 ≤ o
  o6 : o ≤ 6
  t0 : 0 ≤ t
  t1 : t ≤ 1000
  len : l.length ≤ 8
  ok : ∀ s, s ∈ l → saleOk o s = true
theorem saleOk_facts {o : Int} {s : Sale} (h : saleOk o s = true) : 0 ≤ s.src ∧ s.src < o ∧ 0 ≤ s.dst ∧ s.dst < o ∧ s.src ≠ s.dst ∧ 1 ≤ s.many ∧ s.many ≤ 1000 ∧ 0 ≤ s.lo ∧ s.lo ≤ s.hi ∧ s.hi ≤ 100 := by
  simp [saleOk, inR] at h
  omega
theorem Valid.at_ {o t : Int} {l : List Sale} (h : Valid o t l) {k : Nat} {s : Sale} (hs : l[k]? = some s) : 0 ≤ s.src ∧ s.src < o ∧ 0 ≤ s.dst ∧ s.dst < o ∧ s.src ≠ s.dst ∧ 1 ≤ s.many ∧ s.many ≤ 1000 ∧ 0 ≤ s.lo ∧ s.lo ≤ s.hi ∧ s.hi ≤ 100 :=
  saleOk_facts (h.ok s (List.mem_of_getElem? hs))
theorem valid_of_fault {o t : Int} {l : List Sale} (h : fault o t l = 0) : Valid o t l := by
  unfold fault at h
  split at h
  · omega
  · split at h
    · rename_i h1 h2
      obtain ⟨a, b, c⟩ := h2
      rw [inR_iff] at a b
      exact ⟨a.1, a.2, b.1, b.2, by omega, fun s hs => List.all_eq_true.1 c s hs⟩
    · omega
theorem Valid.fault {o t : Int} {l : List Sale} (h : Valid o t l) : fault o t l = 0 := by
  unfold Ytfcnombmphophaa.fault
  rw [if_neg (by have := h.len; omega), if_pos ⟨inR_iff.2 ⟨h.o1, h.o6⟩, inR_iff.2 ⟨h.t0, h.t1⟩, List.all_eq_true.2 h.ok⟩]

/-- What all have when those of the first k sales are done that are in d. -/
def stocksTo (t : Int) (l : List Sale) (d : Nat) : Nat → Nat → Int
  | 0 => upd (fun _ => 0) 0 t
  | k + 1 => match l[k]? with
    | some s => if d.testBit k = true then sold (stocksTo t l d k) s else stocksTo t l d k
    | none => stocksTo t l d k
def stocksOf (t : Int) (l : List Sale) (d : Nat) : Nat → Int := stocksTo t l d l.length
theorem stocksTo_yes {t : Int} {l : List Sale} {d k : Nat} {s : Sale} (hs : l[k]? = some s) (hd : d.testBit k = true) : stocksTo t l d (k + 1) = sold (stocksTo t l d k) s := by
  simp [stocksTo, hs, hd]
theorem stocksTo_no {t : Int} {l : List Sale} {d k : Nat} (hd : d.testBit k = false) : stocksTo t l d (k + 1) = stocksTo t l d k := by
  cases h : l[k]? <;> simp [stocksTo, h, hd]
theorem sold_bound {st : Nat → Int} {s : Sale} {M : Int} (hm0 : 0 ≤ s.many) (hm : s.many ≤ 1000) (h : ∀ i, -M ≤ st i ∧ st i ≤ M) : ∀ i, -(M + 2000) ≤ sold st s i ∧ sold st s i ≤ M + 2000 := by
  intro i
  have h1 := h i
  have h2 := h s.src.toNat
  have h3 := h s.dst.toNat
  unfold sold upd
  repeat' split
  all_goals omega
theorem stocksTo_bound {o t : Int} {l : List Sale} (h : Valid o t l) (d k : Nat) : ∀ i, -(1000 + 2000 * (k : Int)) ≤ stocksTo t l d k i ∧ stocksTo t l d k i ≤ 1000 + 2000 * (k : Int) := by
  induction k with
  | zero =>
    intro i
    have h1 := h.t0
    have h2 := h.t1
    simp only [stocksTo, upd]
    split <;> omega
  | succ k ih =>
    intro i
    have hi := ih i
    cases hs : l[k]? with
    | none => simp only [stocksTo, hs]; omega
    | some s =>
      simp only [stocksTo, hs]
      split
      · have hf := h.at_ hs
        have := sold_bound (s := s) (by omega) (by omega) ih i
        omega
      · omega
end Go.Proofs.Ytfcnombmphophaa
namespace Go.Proofs.Ytfcnombmphophaa
open Go.RowKit

/-- A book in memory: the batch's three cells at block k; its sales lie below B. -/
structure BatchAt (w : World) (B k : Nat) (o t : Int) (A : Option Addr) (l : List Sale) (c : Nat) : Prop where
  c0 : w.cell? ⟨k, 0, none⟩ = some (.int .i64 o)
  c1 : w.cell? ⟨k, 1, none⟩ = some (.int .i64 t)
  c2 : w.cell? ⟨k, 2, none⟩ = some (.slice A l.length c)
  sales : SalesAt w B A l
theorem BatchAt.keep {w w' : World} {B k : Nat} {o t : Int} {A : Option Addr} {l : List Sale} {c : Nat} (h : BatchAt w B k o t A l c) (hk : ∀ b i, b < B ∨ b = k → w'.cell? ⟨b, i, none⟩ = w.cell? ⟨b, i, none⟩) : BatchAt w' B k o t A l c :=
  ⟨(hk _ _ (.inr rfl)).trans h.c0, (hk _ _ (.inr rfl)).trans h.c1, (hk _ _ (.inr rfl)).trans h.c2, h.sales.keep fun b i hb => hk b i (.inl hb)⟩
theorem BatchAt.below {w w' : World} {B B' k : Nat} {o t : Int} {A : Option Addr} {l : List Sale} {c : Nat} (h : BatchAt w B k o t A l c) (hb : Below B' w w') (hB : B ≤ B') (hk : k < B') : BatchAt w' B k o t A l c :=
  h.keep fun b i hlt => hb.cell (p := ⟨b, i, none⟩) (by rcases hlt with hlt | rfl <;> simp only [] <;> omega)

set_option maxHeartbeats 400000 in
theorem whole_any (k B : Nat) (o t : Int) (A : Option Addr) (l : List Sale) (c : Nat) (w : World) (hl : l.length ≤ 8) (h : BatchAt w B k o t A l c) :
    Calls Try.prog 55 #[.pointer (some ⟨k, 0, none⟩)] w fun e w' => e = .returned (.int .i64 (2 ^ l.length - 1)) ∧ w = w' := by
  have h2 := h.c2
  clear h
  go_enter Try.func55, Try.ntmps55
  go_wp2
  go_ret
  refine ⟨?_, rfl⟩
  have hp : (2 : Int) ^ l.length ≤ 256 := by
    have h1 : (2 : Nat) ^ l.length ≤ 2 ^ 8 := Nat.pow_le_pow_right (by omega) hl
    have h2 : ((2 ^ l.length : Nat) : Int) = (2 : Int) ^ l.length := by push_cast; rfl
    omega
  have hp0 : (0 : Int) ≤ 2 ^ l.length := Int.pow_nonneg (by omega)
  show Ending.returned (Value.int IntKind.i64 (wrap64 (wrap64 (2 ^ l.length) - 1))) = _
  rw [IntWalk.wrap64_in (2 ^ l.length) (by omega), IntWalk.wrap64_in _ (by omega)]

theorem Whole.six {w : World} {g : Nat} {T : TypeId} {st : Nat → Int} (h : Whole w g T (stk st)) :
    w.cell? ⟨g, 0, none⟩ = some (.int .i64 (st 0)) ∧ w.cell? ⟨g, 1, none⟩ = some (.int .i64 (st 1)) ∧ w.cell? ⟨g, 2, none⟩ = some (.int .i64 (st 2)) ∧
    w.cell? ⟨g, 3, none⟩ = some (.int .i64 (st 3)) ∧ w.cell? ⟨g, 4, none⟩ = some (.int .i64 (st 4)) ∧ w.cell? ⟨g, 5, none⟩ = some (.int .i64 (st 5)) :=
  ⟨h.cell 0, h.cell 1, h.cell 2, h.cell 3, h.cell 4, h.cell 5⟩
theorem Whole.ice {w : World} {g : Nat} {T : TypeId} {st : Nat → Int} (h : Whole w g T (stk st)) :
    w.frozen? ⟨g, 0, none⟩ = false ∧ w.frozen? ⟨g, 1, none⟩ = false ∧ w.frozen? ⟨g, 2, none⟩ = false ∧ w.frozen? ⟨g, 3, none⟩ = false ∧ w.frozen? ⟨g, 4, none⟩ = false ∧ w.frozen? ⟨g, 5, none⟩ = false :=
  ⟨h.frozen 0, h.frozen 1, h.frozen 2, h.frozen 3, h.frozen 4, h.frozen 5⟩

/-- Six cells of a block written. -/
abbrev put6 (w : World) (g : Nat) (st : Nat → Int) : World :=
  (((((w.setCell ⟨g, 0, none⟩ (.int .i64 (st 0))).setCell ⟨g, 1, none⟩ (.int .i64 (st 1))).setCell ⟨g, 2, none⟩ (.int .i64 (st 2))).setCell ⟨g, 3, none⟩ (.int .i64 (st 3))).setCell ⟨g, 4, none⟩ (.int .i64 (st 4))).setCell ⟨g, 5, none⟩ (.int .i64 (st 5))
theorem Whole.put6 {w : World} {g : Nat} {T : TypeId} {st : Nat → Int} (h : Whole w g T (stk st)) (st2 : Nat → Int) : Whole (put6 w g st2) g T (stk st2) :=
  (((((h.set 0 (.int .i64 (st2 0))).set 1 (.int .i64 (st2 1))).set 2 (.int .i64 (st2 2))).set 3 (.int .i64 (st2 3))).set 4 (.int .i64 (st2 4))).set 5 (.int .i64 (st2 5))
theorem Whole.far6 {w : World} {g g' : Nat} {T : TypeId} {cs : Array Value} (h : Whole w g T cs) (hne : g ≠ g') (st2 : Nat → Int) : Whole (Ytfcnombmphophaa.put6 w g' st2) g T cs :=
  (((((h.far (p := ⟨g', 0, none⟩) hne _).far (p := ⟨g', 1, none⟩) hne _).far (p := ⟨g', 2, none⟩) hne _).far (p := ⟨g', 3, none⟩) hne _).far (p := ⟨g', 4, none⟩) hne _).far (p := ⟨g', 5, none⟩) hne _
theorem below_put6 {B : Nat} {a w : World} {g : Nat} (h : Below B a w) (hg : B ≤ g) (st : Nat → Int) : Below B a (put6 w g st) :=
  (((((h.setCell (p := ⟨g, 0, none⟩) hg _).setCell (p := ⟨g, 1, none⟩) hg _).setCell (p := ⟨g, 2, none⟩) hg _).setCell (p := ⟨g, 3, none⟩) hg _).setCell (p := ⟨g, 4, none⟩) hg _).setCell (p := ⟨g, 5, none⟩) hg _

set_option maxHeartbeats 400000 in
theorem stocks_any (k B : Nat) (o t : Int) (A : Option Addr) (l : List Sale) (c d : Nat) (w : World) (hv : Valid o t l) (h : BatchAt w B k o t A l c) (hB : B ≤ w.heap.size) (hk : k < w.heap.size) (hd : d < 65536) :
    Calls Try.prog 73 #[.pointer (some ⟨k, 0, none⟩), .int .i64 d] w fun e w' => e = .returned (.agg (stk (stocksOf t l d))) ∧ Below w.heap.size w w' := by
  have c0 := h.c0
  have c1 := h.c1
  have c2 := h.c2
  have Hh := Lib.hid h
  have hlen := hv.len
  clear h
  go_enter Try.func73, Try.ntmps73
  go_wp2_with fail
  refine (begun_any _ _ _ _).mono ?_
  rintro e w1 ⟨rfl, hb1⟩
  unfold stk
  have hb2 : Below w.heap.size w w1 := ((Below.refl _ _).alloc (Nat.le_refl _) _).trans (hb1.mono (by simp))
  have c2' := (hb2.cell (p := ⟨k, 2, none⟩) hk).trans c2
  have hz : w.heap.size + 1 ≤ w1.heap.size := by have := hb1.size; simp at this; omega
  have hk1 : k < w1.heap.size := by omega
  have cr := (hb1.block w.heap.size (by simp)).trans (heap_alloc_new w _)
  have Hb1 := Lib.hid hb1
  have Hcr := Lib.hid cr
  clear hb1 cr c0 c1 c2
  go_wp2_with fail
  have hw0 : Whole w1 w.heap.size 84 (stk fun _ => 0) := Hcr.out
  have Hw0 := Lib.hid (hw0.alloc (.cells (stk (upd (fun _ => 0) 0 t)) 84))
  have Hw1 := Lib.hid (Whole.new w1 84 (stk (upd (fun _ => 0) 0 t)))
  have Hb2 := Lib.hid hb2
  clear hw0 Hcr Hb1 hb2
  go_loopw [19] (fun i wr => ∃ j : Nat, j ≤ l.length ∧ i = .int .i64 j ∧ Whole wr w1.heap.size 84 (stk (stocksTo t l d j)) ∧ Whole wr w.heap.size 84 (stk fun _ => 0) ∧ Below w.heap.size w wr) (fun i _ => l.length - (intOf i).toNat)
  case atStart => exact ⟨0, Nat.zero_le _, rfl, Hw1.out, Hw0.out, Hb2.out.alloc Hb2.out.size _⟩
  case round =>
    obtain ⟨j, hj, rfl, hw1, hw0, hb⟩ := hrel
    obtain ⟨f0, f1, f2, f3, f4, f5⟩ := hw1.six
    obtain ⟨z0, z1, z2, z3, z4, z5⟩ := hw1.ice
    obtain ⟨y0, y1, y2, y3, y4, y5⟩ := hw0.ice
    obtain ⟨x0, x1, x2, x3, x4, x5⟩ := hw0.six
    have HW1 := Lib.hid hw1
    have HW0 := Lib.hid hw0
    have HB := Lib.hid hb
    have hlt1 := hw1.lt
    have hlt0 := hw0.lt
    clear hw1 hw0 hb
    by_cases hlt' : j < l.length
    · have hs := List.getElem?_eq_getElem hlt'
      obtain ⟨b, off, rfl, hbB, s0, s1, s2, s3, s4⟩ := (Hh.out.sales.below HB.out hB) j l[j] hs
      have HS := Lib.hid hs
      clear hs
      have hbl : b < wr.heap.size := by have := HB.out.size; omega
      by_cases hbit : d.testBit j = true
      · have HD := Lib.hid (stocksTo_yes (t := t) HS.out hbit)
        go_wp2_with fail
        refine (has_any d j _ hd (by omega)).mono ?_
        rintro e w2 ⟨rfl, rfl⟩
        go_wp2_with fail
        have hf := hv.at_ HS.out
        have hbd := stocksTo_bound hv d j
        refine (sold_any (stocksTo t l d j) l[j] _ (by omega) (by have := hv.o6; omega) (by omega) (by have := hv.o6; omega) (by omega) (by omega) (fun i => by have := hbd i; omega)).mono ?_
        rintro e w3 ⟨rfl, hb3⟩
        have HB3 := Lib.hid hb3
        have hz3 := hb3.size
        simp only [World.size_alloc] at hz3
        have hlt1' : w1.heap.size < w3.heap.size := by omega
        have hw1' : Whole w3 w1.heap.size 84 (stk (stocksTo t l d j)) := (HW1.out.alloc _).below hb3 (by simp; omega)
        have hw0' : Whole w3 w.heap.size 84 (stk fun _ => 0) := (HW0.out.alloc _).below hb3 (by simp; omega)
        obtain ⟨f0', f1', f2', f3', f4', f5'⟩ := hw1'.six
        obtain ⟨z0', z1', z2', z3', z4', z5'⟩ := hw1'.ice
        have HW1' := Lib.hid hw1'
        have HW0' := Lib.hid hw0'
        generalize hst : sold (stocksTo t l d j) l[j] = st2 at *
        have HST := Lib.hid hst
        clear hw1' hw0' hb3 hf hbd hst f0 f1 f2 f3 f4 f5 z0 z1 z2 z3 z4 z5 s0 s1 s2 s3 s4
        unfold stk
        go_wp2_with fail
        go_roundw
        case rel =>
          exact ⟨j + 1, by omega, by go_num, by rw [HD.out]; exact HW1'.out.put6 st2, HW0'.out.far6 (by omega) st2, below_put6 (((HB.out.alloc HB.out.size _).trans (HB3.out.mono (by simp; omega)))) (by omega) st2⟩
        case measure => simp [intOf]; omega
      · have hbit' : d.testBit j = false := by simpa using hbit
        clear hbit
        have HD := Lib.hid (stocksTo_no (t := t) (l := l) hbit')
        go_wp2_with fail
        refine (has_any d j _ hd (by omega)).mono ?_
        rintro e w2 ⟨rfl, rfl⟩
        go_wp2_with fail
        go_roundw
        case rel => exact ⟨j + 1, by omega, by go_num, by rw [HD.out]; exact HW1.out.alloc _, HW0.out.alloc _, HB.out.alloc HB.out.size _⟩
        case measure => simp [intOf]; omega
    · obtain rfl : j = l.length := by omega
      go_wp2_with fail
      obtain ⟨r0, r1, r2, r3, r4, r5⟩ := (HW0.out.put6 (stocksTo t l d l.length)).six
      refine bodyPost_ret (v := .agg (stk (stocksOf t l d))) ?_ rfl ⟨rfl, below_put6 HB.out (Nat.le_refl _) (stocksTo t l d l.length)⟩
      simp [results, Try.results73, go_sem, stk, stocksOf, r0, r1, r2, r3, r4, r5]
end Go.Proofs.Ytfcnombmphophaa
namespace Go.Proofs.Ytfcnombmphophaa
open Go.RowKit

def saleOf (l : List Sale) (k : Nat) : Sale := (l[k]?).getD ⟨0, 0, 0, 0, 0⟩
theorem saleOf_eq {l : List Sale} {k : Nat} {s : Sale} (h : l[k]? = some s) : saleOf l k = s := by simp [saleOf, h]

/-- Can sale k be next when those of d are done? -/
def nextB (t : Int) (l : List Sale) (d k : Nat) : Bool :=
  decide (k < l.length) && (!d.testBit k && decide ((saleOf l k).many ≤ stocksOf t l d (saleOf l k).src.toNat))
abbrev Nx (t : Int) (l : List Sale) (d : Nat) := { k : Nat // nextB t l d k = true }
theorem Nx.lt {t : Int} {l : List Sale} {d : Nat} (x : Nx t l d) : x.1 < l.length := by
  have := x.2
  simp [nextB] at this
  exact this.1
theorem Nx.not {t : Int} {l : List Sale} {d : Nat} (x : Nx t l d) : d.testBit x.1 = false := by
  have := x.2
  simp [nextB] at this
  exact this.2.1
/-- All of the first k sales that can be next. -/
def nxt (t : Int) (l : List Sale) (d : Nat) : Nat → List (Nx t l d)
  | 0 => []
  | k + 1 => if h : nextB t l d k = true then nxt t l d k ++ [⟨k, h⟩] else nxt t l d k
theorem nxt_yes {t : Int} {l : List Sale} {d k : Nat} (h : nextB t l d k = true) : nxt t l d (k + 1) = nxt t l d k ++ [⟨k, h⟩] := by simp [nxt, h]
theorem nxt_no {t : Int} {l : List Sale} {d k : Nat} (h : nextB t l d k = false) : nxt t l d (k + 1) = nxt t l d k := by simp [nxt, h]
theorem nxt_length (t : Int) (l : List Sale) (d k : Nat) : (nxt t l d k).length ≤ k := by
  induction k with
  | zero => simp [nxt]
  | succ k ih =>
    unfold nxt
    split
    · simp; omega
    · omega
theorem nxt_map (t : Int) (l : List Sale) (d k : Nat) : (nxt t l d k).map (·.1) = (List.range k).filter (nextB t l d) := by
  induction k with
  | zero => rfl
  | succ k ih =>
    rw [List.range_succ, List.filter_append]
    by_cases h : nextB t l d k = true
    · rw [nxt_yes h]; simp [ih, h]
    · have h' : nextB t l d k = false := by simpa using h
      rw [nxt_no h']; simp [ih, h']

/-- What a round keeps: all cells but those of the blocks of X. -/
structure KeepsC (X : Nat → Prop) (W W' : World) : Prop where
  size : W.heap.size ≤ W'.heap.size
  cells : ∀ b cs t z, ¬ X b → W.heap[b]? = some (.cells cs t z) → W'.heap[b]? = some (.cells cs t z)
section
variable {X : Nat → Prop} {W W' W'' : World}
theorem KeepsC.refl (X : Nat → Prop) (W : World) : KeepsC X W W := ⟨Nat.le_refl _, fun _ _ _ _ _ h => h⟩
theorem KeepsC.trans (h : KeepsC X W W') (k : KeepsC X W' W'') : KeepsC X W W'' := ⟨Nat.le_trans h.size k.size, fun b cs t z hb hc => k.cells b cs t z hb (h.cells b cs t z hb hc)⟩
theorem KeepsC.of_below (h : Below W.heap.size W W') : KeepsC X W W' := ⟨h.size, fun b _ _ _ _ hc => (h.block b (Array.getElem?_eq_some_iff.1 hc).1).trans hc⟩
theorem KeepsC.putObj (W : World) (l : Nat) (o o' : Obj) (h : W.heap[l]? = some o) (hc : o.isCells = false) : KeepsC X W (W.putObj l o') :=
  ⟨by simp [World.putObj], fun b cs t z _ hb => by
    have : b ≠ l := by
      rintro rfl
      rw [h] at hb
      cases hb
      cases hc
    rw [World.putObj_heap_other (by omega)]
    exact hb⟩
theorem KeepsC.cell (h : KeepsC X W W') {p : Addr} {v : Value} (hp : ¬ X p.block) (hc : W.cell? p = some v) : W'.cell? p = some v := by
  obtain ⟨o, ho, hcells⟩ := cells_of_cell hc
  cases o <;> simp [Obj.isCells] at hcells
  rename_i cs t z
  have h2 := h.cells _ cs t z hp ho
  rw [← hc]
  exact World.cell?_of_block (h2.trans ho.symm)
theorem KeepsC.whole (h : KeepsC X W W') {g : Nat} {t : TypeId} {cs : Array Value} (hg : ¬ X g) (hw : Whole W g t cs) : Whole W' g t cs := h.cells g cs t (0, 0) hg hw
theorem KeepsC.batch (h : KeepsC X W W') {B k : Nat} {o t : Int} {A : Option Addr} {l : List Sale} {c : Nat} (hk : ¬ X k) (hX : ∀ b, b < B → ¬ X b) (hb : BatchAt W B k o t A l c) : BatchAt W' B k o t A l c :=
  ⟨h.cell (p := ⟨k, 0, none⟩) hk hb.c0, h.cell (p := ⟨k, 1, none⟩) hk hb.c1, h.cell (p := ⟨k, 2, none⟩) hk hb.c2, fun j s hs => by
    obtain ⟨b, off, hA, hlt, s0, s1, s2, s3, s4⟩ := hb.sales j s hs
    exact ⟨b, off, hA, hlt, h.cell (hX b hlt) s0, h.cell (hX b hlt) s1, h.cell (hX b hlt) s2, h.cell (hX b hlt) s3, h.cell (hX b hlt) s4⟩⟩
end
end Go.Proofs.Ytfcnombmphophaa
namespace Go.Proofs.Ytfcnombmphophaa
open Go.RowKit Go.Shelf
attribute [local go_sem] Oper.semAt_some

set_option maxHeartbeats 400000 in
theorem next_any (p : Option Addr) (d : Int) (w : World) :
    Calls Try.prog 56 #[.pointer p, .int .i64 d] w fun e w' => e = .returned (.func (.func 72) #[] #[.pointer (some ⟨w.heap.size, 0, none⟩), .pointer (some ⟨w.heap.size + 1, 0, none⟩)]) ∧ w' = (w.alloc (.cells #[.pointer p] 89)).alloc (.cells #[.int .i64 d] 94) := by
  go_enter Try.func56, Try.ntmps56
  go_wp2
  go_ret
  exact ⟨rfl, rfl⟩

/-- A sale as a value. -/
abbrev saleV (s : Sale) : Value := .agg #[.int .i64 s.src, .int .i64 s.dst, .int .i64 s.many, .int .i64 s.lo, .int .i64 s.hi]

theorem grown_of_below {W W' : World} (h : Below W.heap.size W W') : W.grownBy W' none := ⟨h.os, h.tape, h.output, h.size, fun k hk _ => h.block k hk⟩
theorem abides_below {β : Type} {B : Nat} {J : β → World → Prop} (hJ : AbidesFrom B J) {s : β} {W W' : World} (h : J s W) (hb : Below W.heap.size W W') : J s W' :=
  hJ s W W' none h (grown_of_below hb) (fun _ e => by cases e)

theorem below_drewN {B : Nat} {a w : World} (h : Below B a w) (m : Nat) : Below B a (w.drewN m) := ⟨h.os, h.tape, h.output, h.size, h.block⟩

/-- What a round of the iterator leaves, by what it said. -/
def Said {α : Type} (Kp : World → World → Prop) (J Jx : List α → World → Prop) (xs : List α) (W : World) (b : Bool) (W' : World) : Prop :=
  (b = true ∧ J xs W' ∧ Kp W W') ∨ (b = false ∧ Jx xs W')
theorem said_of {F : Fence} {m : Nat} {P : Program} {α : Type} {Kp : World → World → Prop} {J Jx : List α → World → Prop} {xs : List α} {ly : Nat} {args : Array Value} {W : World}
    (h : YieldAt F m P ly args W fun e W' => (e = .returned (.bool true) ∧ J xs W' ∧ Kp W W') ∨ (e = .returned (.bool false) ∧ Jx xs W')) :
    YieldAt F m P ly args W fun e W' => ∃ b, e = .returned (.bool b) ∧ Said Kp J Jx xs W b W' :=
  h.mono fun e W' hh => by
    rcases hh with ⟨rfl, hj, hk⟩ | ⟨rfl, hj⟩
    · exact ⟨true, rfl, .inl ⟨rfl, hj, hk⟩⟩
    · exact ⟨false, rfl, .inr ⟨rfl, hj⟩⟩

set_option maxRecDepth 100000 in
set_option maxHeartbeats 2000000 in
theorem next1_in (n ly Bk Bd k B : Nat) (o t : Int) (A : Option Addr) (l : List Sale) (c d : Nat) (hv : Valid o t l) (hd : d < 65536) (X : Nat → Prop) (J Jx : List (Nx t l d) → World → Prop)
    (W : World) (hX : ∀ b, W.heap.size ≤ b → ¬ X b) (hXk : ¬ X k) (hXB : ∀ b, b < B → ¬ X b) (hXd : ¬ X Bd)
    (hJ : AbidesFrom W.heap.size J) (hY : ∀ pre x W1, J pre W1 → pre.length < l.length → YieldAt Fence.wide (n - 1) Try.prog ly #[.int .i64 (x.1 : Nat), saleV (saleOf l x.1)] W1 fun e W' =>
      (e = .returned (.bool true) ∧ J (pre ++ [x]) W' ∧ KeepsC X W1 W') ∨ (e = .returned (.bool false) ∧ Jx (pre ++ [x]) W'))
    (hBk : W.cell? ⟨Bk, 0, none⟩ = some (.pointer (some ⟨k, 0, none⟩))) (hBd : W.cell? ⟨Bd, 0, none⟩ = some (.int .i64 d))
    (hb : BatchAt W B k o t A l c) (hB : B ≤ W.heap.size) (h0 : J [] W) :
    CallsIn Fence.wide n Try.prog 72 #[.func (.yield ly) #[] #[], .pointer (some ⟨Bk, 0, none⟩), .pointer (some ⟨Bd, 0, none⟩)] W fun e W' => (∃ v, e = .returned v) ∧
      ((∃ ys, ys = nxt t l d l.length ∧ J ys W') ∨ (∃ pre, (∃ j, j ≤ l.length ∧ pre = nxt t l d j) ∧ Jx pre W')) := by
  have HY := Lib.hid hY
  have HJ := Lib.hid hJ
  have HX := Lib.hid hX
  have HXB := Lib.hid hXB
  have Hb := Lib.hid hb
  have hk := block_lt_of_cell hb.c0
  have hlen := hv.len
  clear hY hJ hX hXB hb
  refine callsIn_of_wp Try.func72 rfl trivial ?_ rfl
  simp only [Try.ntmps72, List.size_toArray, List.length_cons, List.length_nil, Nat.reduceAdd, Nat.reduceSub, Array.replicate_succ, Array.replicate_zero, List.push_toArray, List.append_toArray, List.nil_append, List.cons_append]
  have hwd : Fence.wide.depth = none := rfl
  have hwf : ∀ f, Fence.wide.fn f = True := fun _ => rfl
  gi_wp2_with fail
  refine (callsIn_wide.2 (stocks_any k B o t A l c d W hv Hb.out hB hk hd)).mono ?_
  rintro e w1 ⟨rfl, hb1⟩
  have hk1 : k < w1.heap.size := by have := hb1.size; omega
  have hBk1 := (hb1.cell (p := ⟨Bk, 0, none⟩) (block_lt_of_cell hBk)).trans hBk
  have hBd1 := (hb1.cell (p := ⟨Bd, 0, none⟩) (block_lt_of_cell hBd)).trans hBd
  have lBk := block_lt_of_cell hBk1
  have lBd := block_lt_of_cell hBd1
  simp only [] at lBk lBd
  have hb2 := Hb.out.below hb1 hB hk
  have h2 := hb2.c2
  have Hb1 := Lib.hid hb1
  have Hb2 := Lib.hid hb2
  clear hb1 hb2
  unfold stk
  gi_wp2_with fail
  have HS0 := Lib.hid (Whole.new w1 84 (stk (stocksOf t l d)))
  gi_loopw [16] (fun i wr => ∃ j : Nat, j ≤ l.length ∧ i = .int .i64 j ∧ J (nxt t l d j) wr ∧ KeepsC X (w1.alloc (.cells (stk (stocksOf t l d)) 84)) wr) (fun i _ => l.length - (intOf i).toNat)
  case atStart => exact ⟨0, Nat.zero_le _, rfl, abides_below HJ.out h0 (Hb1.out.alloc Hb1.out.size _), KeepsC.refl _ _⟩
  case round =>
    obtain ⟨j, hj, rfl, hJs, hkc⟩ := hrel
    have HJs := Lib.hid hJs
    have hw := hkc.whole (HX.out _ (by have := Hb1.out.size; omega)) HS0.out
    obtain ⟨f0, f1, f2, f3, f4, f5⟩ := hw.six
    have hbt := hkc.batch hXk HXB.out (Hb2.out.below ((Below.refl _ _).alloc (Nat.le_refl _) (.cells (stk (stocksOf t l d)) 84)) (Nat.le_trans hB Hb1.out.size) hk1)
    have e2 := hbt.c2
    have eBd := hkc.cell (p := ⟨Bd, 0, none⟩) hXd ((((Below.refl w1.heap.size w1).alloc (Nat.le_refl _) (.cells (stk (stocksOf t l d)) 84)).cell (p := ⟨Bd, 0, none⟩) lBd).trans hBd1)
    have lw := hw.lt
    have lBd' : Bd < wr.heap.size := block_lt_of_cell eBd
    have Hw := Lib.hid hw
    have Hkc := Lib.hid hkc
    have Hbt := Lib.hid hbt
    clear hJs hkc hw hbt
    by_cases hlt : j < l.length
    · have hs := List.getElem?_eq_getElem hlt
      obtain ⟨b, off, rfl, hbB, s0, s1, s2, s3, s4⟩ := Hbt.out.sales j l[j] hs
      have hsv := hv.at_ hs
      have HS := Lib.hid hs
      clear hs
      have hbl : b < wr.heap.size := by have := block_lt_of_cell s0; exact this
      by_cases hbit : d.testBit j = true
      · have hno : nextB t l d j = false := by simp [nextB, hbit]
        have Hno := Lib.hid (nxt_no hno)
        clear hno
        gi_wp2_with fail
        refine wpIn_wide.2 ?_
        go_quiet ((go_at_call 74; exact Calls.quiet_of_same ((has_any d j _ hd (by omega)).mono (fun _ _ h => ⟨h.1, h.2.symm⟩))))
        gi_wp2
        go_roundw
        case rel =>
          have hbb := below_drewN ((Below.refl wr.heap.size wr).alloc (Nat.le_refl _) (.cells #[.int .i64 l[j].src, .int .i64 l[j].dst, .int .i64 l[j].many, .int .i64 l[j].lo, .int .i64 l[j].hi] 61)) nq
          exact ⟨j + 1, by omega, by go_num, by rw [Hno.out]; exact abides_below HJ.out HJs.out hbb, Hkc.out.trans (KeepsC.of_below hbb)⟩
        case measure => simp [intOf]; omega
      · have hbit' : d.testBit j = false := by simpa using hbit
        clear hbit
        have hsrc : l[j].src.toNat < 6 := by have := hv.o6; omega
        have hcell := (Hw.out.cell l[j].src.toNat).trans (stk_get _ _ hsrc)
        have hsx : l[j].src < 6 := by have := hv.o6; omega
        obtain ⟨hs0, -, hs2⟩ := hsv
        clear hs2
        by_cases hst : l[j].many ≤ stocksOf t l d l[j].src.toNat
        · have hyes : nextB t l d j = true := by simp [nextB, hbit', hlt, saleOf_eq HS.out, hst]
          have Hyes := Lib.hid (nxt_yes hyes)
          have hyld := said_of <| HY.out _ ⟨j, hyes⟩ ((wr.alloc (.cells #[.int .i64 l[j].src, .int .i64 l[j].dst, .int .i64 l[j].many, .int .i64 l[j].lo, .int .i64 l[j].hi] 61)).drew) (abides_below HJ.out HJs.out (((Below.refl wr.heap.size wr).alloc (Nat.le_refl _) _).drew)) (by have := nxt_length t l d j; omega)
          rw [saleOf_eq HS.out] at hyld
          obtain ⟨fn, tmps, assign, body, hy, hR⟩ := hyld
          gi_wp2_with fail
          have hmix : Try.prog.follows .mixedOrders = true := by kernel_rfl
          gi_region_with_o (first | (gi_at_call 74; refine (callsIn_wide.2 (has_any d j _ hd (by omega))).mono ?_; rintro e w5 ⟨rfl, rfl⟩) | (refine hR.mono ?_; rintro e W3 ⟨bb, rfl, hsaid⟩))
          all_goals
            have hkw : KeepsC X wr ((wr.alloc (.cells #[.int .i64 l[j].src, .int .i64 l[j].dst, .int .i64 l[j].many, .int .i64 l[j].lo, .int .i64 l[j].hi] 61)).drew) := KeepsC.of_below (((Below.refl wr.heap.size wr).alloc (Nat.le_refl _) _).drew)
            rcases hsaid with ⟨rfl, hJ3, hk3⟩ | ⟨rfl, hJx3⟩
            · have HJ3 := Lib.hid hJ3
              have Hk3 := Lib.hid hk3
              clear hJ3 hk3 hy hR
              gi_wp2
              go_roundw
              case rel => exact ⟨j + 1, by omega, by go_num, by rw [Hyes.out]; exact HJ3.out, (Hkc.out.trans hkw).trans Hk3.out⟩
              case measure => simp [intOf]; omega
            · clear hy hR
              gi_wp2
              refine bodyPost_ret (results_none rfl _ _ _) rfl ?_
              exact ⟨⟨_, rfl⟩, .inr ⟨_, ⟨j + 1, by omega, Hyes.out.symm⟩, hJx3⟩⟩
        · have hno : nextB t l d j = false := by simp [nextB, hbit', hlt, saleOf_eq HS.out, hst]
          have Hno := Lib.hid (nxt_no hno)
          have hge : decide (l[j].many ≤ stocksOf t l d l[j].src.toNat) = false := by simpa using hst
          clear hno
          gi_wp2_with fail
          refine wpIn_wide.2 ?_
          go_quiet ((go_at_call 74; exact Calls.quiet_of_same ((has_any d j _ hd (by omega)).mono (fun _ _ h => ⟨h.1, h.2.symm⟩))))
          gi_wp2
          go_roundw
          case rel =>
            have hbb := below_drewN ((Below.refl wr.heap.size wr).alloc (Nat.le_refl _) (.cells #[.int .i64 l[j].src, .int .i64 l[j].dst, .int .i64 l[j].many, .int .i64 l[j].lo, .int .i64 l[j].hi] 61)) nq
            exact ⟨j + 1, by omega, by go_num, by rw [Hno.out]; exact abides_below HJ.out HJs.out hbb, Hkc.out.trans (KeepsC.of_below hbb)⟩
          case measure => simp [intOf]; omega
    · obtain rfl : j = l.length := by omega
      gi_wp2
      go_end0
      exact ⟨⟨_, rfl⟩, .inl ⟨_, rfl, HJs.out⟩⟩
end Go.Proofs.Ytfcnombmphophaa
namespace Go.Proofs.Ytfcnombmphophaa
open Go

section
variable {P : Program} {ops : Array Oper} {Q : Exit → Act → World → Prop} {md : Region.Mode} {Kp : Nat → World → World → Prop}

/-- One operation, by its number. -/
def opG (P : Program) (ops : Array Oper) (Q : Exit → Act → World → Prop) (i : Nat) (K : Act → World → Prop) (a : Act) (w : World) : Prop :=
  match ops[i]? with
  | none => K a w
  | some o => if Region.wanted o (yielded ops a.tmps) = true then o.wp P a w K Q else K (a.put o.dst undef) w

theorem opG_mono {i : Nat} {a : Act} {w : World} {K K' : Act → World → Prop} (h : ∀ a w, K a w → K' a w) (hh : opG P ops Q i K a w) : opG P ops Q i K' a w := by
  unfold opG at *
  split
  · exact h _ _ (by simpa [*] using hh)
  · rename_i o ho
    simp only [ho] at hh
    split
    · rename_i hw
      simp only [hw, if_true] at hh
      unfold Oper.wp at *
      generalize (execOp a.eval o).run P w = r at *
      cases r with
      | ok x w' =>
        cases x <;> simp only [Oper.upon] at hh ⊢ <;>
          first
            | exact h _ _ hh
            | exact Calls.mono hh (fun e w'' he => by cases e <;> first | exact h _ _ he | exact he)
            | exact Rows.mono hh (fun _ _ he => h _ _ he)
            | exact hh
      | halt x w' => cases x <;> simp only [Oper.upon] at hh ⊢ <;> exact hh
    · rename_i hw
      simp only [hw] at hh
      exact h _ _ hh

theorem opG_yields {R : World → Prop} {i : Nat} {o : Oper} {v : Value} {a : Act} (hi : ops[i]? = some o) (hy : YieldsIf P ops R o v a)
    {K : Act → World → Prop} {w : World} (hS : R w) (h : K (a.put o.dst v) w) : opG P ops Q i K a w := by
  unfold opG
  simp only [hi]
  rcases hy with ⟨hw, hv⟩ | ⟨hw, rfl⟩
  · simp only [hw, if_true, Oper.wp, hv w hS, Oper.upon]; exact h
  · simp only [hw, Bool.false_eq_true, if_false]; exact h

theorem opG_put {R : World → Prop} {j : Nat} {oi oj : Oper} {v : Value} (hj : ops[j]? = some oj) (hap : oi.apart ops oj = true)
    (hsi : ∀ cs b, oi.op ≠ .select cs b) (hsj : ∀ cs b, oj.op ≠ .select cs b)
    (hQ : ∀ c a w, Q (.panic c) (a.put oi.dst v) w → Q (.panic c) a w) {K : Act → World → Prop} {a : Act} {w : World}
    (hy : YieldsIf P ops R oi v a) (h : opG P ops Q j K (a.put oi.dst v) w) :
    opG P ops Q j (fun a' w' => YieldsIf P ops R oi v a' ∧ K (a'.put oi.dst v) w') a w := by
  obtain ⟨h1, h2, h3⟩ := Oper.apart_spec hap
  have keep : ∀ (a : Act), YieldsIf P ops R oi v a → ∀ u, YieldsIf P ops R oi v (a.put oj.dst u) := fun a hy u =>
    hy.of_same (execOp_put oi hsi a oj.dst u h3) (wanted_put oi a oj.dst u h3)
  have keepD : ∀ d, YieldsIf P ops R oi v { a with defers := d :: a.defers } := fun d => hy.of_same rfl rfl
  unfold opG at *
  simp only [hj] at *
  rw [wanted_put oj a oi.dst v h1] at h
  split
  · rename_i hw
    simp only [hw, if_true] at h
    unfold Oper.wp at *
    rw [execOp_put oj hsj a oi.dst v h1] at h
    generalize (execOp a.eval oj).run P w = r at *
    cases r with
    | ok n w' =>
      cases n <;> simp only [Oper.upon] at h ⊢
      case value u => exact ⟨keep a hy u, by rw [← Act.put_comm a v u h2]; exact h⟩
      case skip => exact ⟨keep a hy _, by rw [← Act.put_comm a v undef h2]; exact h⟩
      case defer d =>
        refine ⟨keep _ (keepD d) _, ?_⟩
        rw [← Act.put_comm _ v undef h2, ← Act.put_defers]
        exact h
      case enter f args =>
        refine Calls.mono h fun e w'' he => ?_
        cases e with
        | returned u => exact ⟨keep a hy u, by rw [← Act.put_comm a v u h2]; exact he⟩
        | panicked c => exact hQ _ _ _ he
        | outgrown => exact he
      case row row args => exact Rows.mono h fun u w'' he => ⟨keep a hy u, by rw [← Act.put_comm a v u h2]; exact he⟩
    | halt x w' =>
      cases x <;> simp only [Oper.upon] at h ⊢
      case panic u => exact hQ _ _ _ h
  · rename_i hw
    simp only [hw] at h
    exact ⟨keep a hy _, by rw [← Act.put_comm a v undef h2]; exact h⟩

/-- Whatever order is picked; each operation j keeps what Kp j says. -/
def AnyG (P : Program) (md : Region.Mode) (ops : Array Oper) (Q : Exit → Act → World → Prop) (Kp : Nat → World → World → Prop) : Nat → Array Bool → Act → World → Prop
  | 0, listed, a, w => Region.ready md ops listed = [] ∧ Q .normal a w
  | fuel + 1, listed, a, w =>
    (Region.ready md ops listed = [] → Q .normal a w) ∧
    ∀ i ∈ Region.ready md ops listed, opG P ops Q i (fun a' w' => Kp i w w' ∧ AnyG P md ops Q Kp fuel (listed.setIfInBounds i true) a' w') a w

/-- Does an operation wait for number i? -/
def waitsB (md : Region.Mode) (o : Oper) (i : Nat) : Bool := o.after.any fun e => Region.binds md e && e.on == i
theorem waits_iff {o : Oper} {i : Nat} : waitsB md o i = true ↔ ∃ e ∈ o.after, Region.binds md e = true ∧ e.on = i := by
  unfold waitsB
  rw [Array.any_eq_true']
  simp
/-- Of any two operations i and j: one waits for the other, or j is none of T, and they have nothing to do with one another. -/
def looseB (md : Region.Mode) (ops : Array Oper) (T : Nat → Bool) (i : Nat) (oi : Oper) : Bool :=
  (List.range ops.size).all fun j => j == i || match ops[j]? with | some oj => waitsB md oj i || (waitsB md oi j || (!T j && oi.apart ops oj)) | none => true
theorem loose_spec {T : Nat → Bool} {i j : Nat} {oi oj : Oper} (h : looseB md ops T i oi = true) (hj : ops[j]? = some oj) (hne : j ≠ i) : waitsB md oj i = true ∨ waitsB md oi j = true ∨ (T j = false ∧ oi.apart ops oj = true) := by
  have h1 := List.all_eq_true.1 h j (List.mem_range.2 (Array.getElem?_eq_some_iff.1 hj).1)
  simp only [hj, Bool.or_eq_true, beq_iff_eq, Bool.and_eq_true, Bool.not_eq_true'] at h1
  rcases h1 with h1 | h1
  · exact absurd h1 hne
  · exact h1
/-- Of two that may come up together neither waits for the other. -/
theorem ready_apart {i j : Nat} {listed : Array Bool} {oj : Oper} (hi : i ∈ Region.ready md ops listed) (hj : j ∈ Region.ready md ops listed) (ho : ops[j]? = some oj) : waitsB md oj i = false := by
  cases hw : waitsB md oj i with
  | false => rfl
  | true =>
    obtain ⟨e, he, hb, hon⟩ := waits_iff.1 hw
    obtain ⟨_, oj', ho', hall⟩ := mem_ready.1 hj
    obtain rfl : oj' = oj := by rw [ho] at ho'; cases ho'; rfl
    have h1 := hall e he hb
    have h2 := (mem_ready.1 hi).1
    rw [hon] at h1
    by_cases hlt : i < listed.size <;> simp [hlt] at h1 h2
    simp [h1] at h2

theorem AnyG.first {R : World → Prop} {T : Nat → Bool} {i : Nat} {oi : Oper} {v : Value} (hi : ops[i]? = some oi) (hsel : ∀ (j : Nat) (o : Oper) cs b, ops[j]? = some o → o.op ≠ .select cs b)
    (hQ : ∀ c a w, Q (.panic c) (a.put oi.dst v) w → Q (.panic c) a w) (hB : looseB md ops T i oi = true) (hK : ∀ j w w', T j = false → Kp j w w' → R w → R w') (hk : ∀ w, Kp i w w) (fuel : Nat) :
    ∀ (listed : Array Bool) (a : Act) (w : World), i ∈ Region.ready md ops listed → YieldsIf P ops R oi v a → R w →
      AnyG P md ops Q Kp fuel (listed.setIfInBounds i true) (a.put oi.dst v) w → AnyG P md ops Q Kp (fuel + 1) listed a w := by
  induction fuel with
  | zero =>
    intro listed a w hr hy hS H
    refine ⟨fun h => absurd hr (by rw [h]; simp), fun j hj => ?_⟩
    by_cases e : j = i
    · subst e
      exact opG_yields hi hy hS ⟨hk w, H⟩
    · exact absurd (ready_mono hj e) (by rw [H.1]; simp)
  | succ fuel ih =>
    intro listed a w hr hy hS H
    refine ⟨fun h => absurd hr (by rw [h]; simp), fun j hj => ?_⟩
    by_cases e : j = i
    · subst e
      exact opG_yields hi hy hS ⟨hk w, H⟩
    · obtain ⟨_, oj, hoj, _⟩ := mem_ready.1 hj
      obtain ⟨hTj, hap⟩ : T j = false ∧ oi.apart ops oj = true := by
        rcases loose_spec hB hoj e with h | h | h
        · rw [ready_apart hr hj hoj] at h; cases h
        · rw [ready_apart hj hr hi] at h; cases h
        · exact h
      refine opG_mono ?_ (opG_put hoj hap (fun cs b => hsel i oi cs b hi) (fun cs b => hsel j oj cs b hoj) hQ hy (H.2 j (ready_mono hj e)))
      rintro a' w' ⟨hy', hS', H'⟩
      exact ⟨hS', ih _ a' w' (ready_mono hr (Ne.symm e)) hy' (hK j w w' hTj hS' hS) (by rw [Array.setIfInBounds_comm _ _ e]; exact H')⟩

/-- Take number i first. -/
theorem AnyG.take {i : Nat} {oi : Oper} {v : Value} {fuel : Nat} {listed : Array Bool} {a : Act} {w : World} (R : World → Prop) (T : Nat → Bool) (hi : ops[i]? = some oi)
    (hs : Region.noSelect ops = true) (hr : (Region.ready md ops listed).contains i = true) (hB : looseB md ops T i oi = true)
    (hQ : ∀ c a w, Q (.panic c) (a.put oi.dst v) w → Q (.panic c) a w) (hK : ∀ j w w', T j = false → Kp j w w' → R w → R w') (hk : ∀ w, Kp i w w) (hy : YieldsIf P ops R oi v a) (hS : R w)
    (h : AnyG P md ops Q Kp fuel (listed.setIfInBounds i true) (a.put oi.dst v) w) : AnyG P md ops Q Kp (fuel + 1) listed a w :=
  AnyG.first hi (Region.noSelect_spec hs) hQ hB hK hk fuel listed a w (by simpa using hr) hy hS h

/-- Only one may come up. -/
theorem AnyG.one {i : Nat} {oi : Oper} {fuel : Nat} {listed : Array Bool} {a : Act} {w : World} (hi : ops[i]? = some oi) (hr : Region.ready md ops listed = [i]) (hg : Region.wanted oi (yielded ops a.tmps) = true)
    (h : oi.wp P a w (fun a' w' => Kp i w w' ∧ AnyG P md ops Q Kp fuel (listed.setIfInBounds i true) a' w') Q) : AnyG P md ops Q Kp (fuel + 1) listed a w :=
  ⟨fun h0 => (by rw [hr] at h0; cases h0), by
    rw [hr]
    intro j hj
    obtain rfl : j = i := by simpa using hj
    unfold opG
    simp only [hi, hg, if_true]
    exact h⟩

/-- One of two may come up. -/
theorem AnyG.two {i j : Nat} {oi oj : Oper} {fuel : Nat} {listed : Array Bool} {a : Act} {w : World} (hi : ops[i]? = some oi) (hj : ops[j]? = some oj) (hr : Region.ready md ops listed = [i, j])
    (hgi : Region.wanted oi (yielded ops a.tmps) = true) (hgj : Region.wanted oj (yielded ops a.tmps) = true)
    (h1 : oi.wp P a w (fun a' w' => Kp i w w' ∧ AnyG P md ops Q Kp fuel (listed.setIfInBounds i true) a' w') Q)
    (h2 : oj.wp P a w (fun a' w' => Kp j w w' ∧ AnyG P md ops Q Kp fuel (listed.setIfInBounds j true) a' w') Q) : AnyG P md ops Q Kp (fuel + 1) listed a w :=
  ⟨fun h0 => (by rw [hr] at h0; cases h0), by
    rw [hr]
    intro k hk
    unfold opG
    rcases List.mem_cons.1 hk with rfl | hk
    · simp only [hi, hgi, if_true]
      exact h1
    · obtain rfl : k = j := by simpa using hk
      simp only [hj, hgj, if_true]
      exact h2⟩

theorem AnyG.done {listed : Array Bool} {a : Act} {w : World} (hr : Region.ready md ops listed = []) (h : Q .normal a w) : ∀ fuel, AnyG P md ops Q Kp fuel listed a w
  | 0 => ⟨hr, h⟩
  | _ + 1 => ⟨fun _ => h, by rw [hr]; simp⟩

/-- A wide fence, in a round or not. -/
structure WideF (F : Fence) (P : Program) : Prop where
  fn : ∀ f, F.fn f
  depth : F.depth = none
  calls : ∀ (m : Nat) (f : FuncId) (args : Array Value) (w : World) (R : Ending → World → Prop), Calls P f args w R → CallsIn F m P f args w R
  rows : ∀ (m : Nat) (row : String) (args : Array Value) (w : World) (R : Value → World → Prop), Rows P row args w R → RowsIn F m P row args w R
theorem rowsIn_wide' {m : Nat} {row : String} {args : Array Value} {w : World} {R : Value → World → Prop} (h : Rows P row args w R) : RowsIn Fence.wide m P row args w R :=
  fun c cs _ => let ⟨v, w', r, s⟩ := h c cs; ⟨v, w', r, stepsIn_wide.2 s⟩
theorem wideF_plain (P : Program) : WideF Fence.wide P := ⟨fun _ => trivial, rfl, fun _ _ _ _ _ h => callsIn_wide.2 h, fun _ _ _ _ _ h => rowsIn_wide' h⟩
theorem wideF_round (P : Program) (l : Nat) : WideF (Fence.wide.inRound l) P :=
  ⟨fun _ => trivial, rfl, fun _ _ _ _ _ h => CallsIn.inRound l (callsIn_wide.2 h), fun m _ _ _ _ h => (rowsIn_wide' (m := m) h)⟩

def Region.noDefer (ops : Array Oper) : Bool := ops.all fun o => match o.op with | .defer _ => false | _ => true
theorem noDefer_spec (h : Region.noDefer ops = true) {i : Nat} {o : Oper} (hi : ops[i]? = some o) : ∀ c, o.op ≠ .defer c := by
  intro c hc
  unfold Region.noDefer at h
  have := (Array.all_eq_true.1 h) i (Array.getElem?_eq_some_iff.1 hi).1
  obtain ⟨hlt, he⟩ := Array.getElem?_eq_some_iff.1 hi
  rw [he, hc] at this
  cases this

theorem opG_in {F : Fence} (hF : WideF F P) (hd : Region.noDefer ops = true) {n i : Nat} {K : Act → World → Prop} {a : Act} {w : World} (h : opG P ops Q i K a w) : wpOpIn F n P ops Q i K a w := by
  unfold opG at h
  unfold wpOpIn
  cases hi : ops[i]? with
  | none => simp only [hi] at h ⊢; exact h
  | some o =>
    simp only [hi] at h ⊢
    split
    · rename_i hw
      simp only [hw, if_true] at h
      unfold Oper.wpIn
      refine ⟨fun f _ => hF.fn f, ?_⟩
      rw [Oper.semAt_eq _ _ _ (noDefer_spec hd hi)]
      unfold Oper.wp at h
      generalize (execOp a.eval o).run P w = r at *
      cases r with
      | ok x w' =>
        cases x <;> simp only [Oper.upon] at h <;> simp only [Oper.uponIn] <;>
          first
            | exact h
            | exact ⟨fun h0 => (by rw [hF.depth] at h0; cases h0), hF.calls _ _ _ _ _ h⟩
            | exact ⟨fun h0 => (by rw [hF.depth] at h0; cases h0), hF.rows _ _ _ _ _ h⟩
            | exact h.elim
      | halt x w' => cases x <;> simp only [Oper.upon] at h <;> simp only [Oper.uponIn] <;> exact h
    · rename_i hw
      simp only [hw] at h
      exact ⟨fun f _ => hF.fn f, h⟩

theorem AnyG.anyIn {F : Fence} {n : Nat} (hF : WideF F P) (hd : Region.noDefer ops = true) : ∀ (fuel : Nat) (listed : Array Bool) (a : Act) (w : World), AnyG P md ops Q Kp fuel listed a w → wpAnyIn F n P md ops Q fuel listed a w
  | 0, _, _, _, h => h
  | fuel + 1, _, _, _, h => ⟨h.1, fun i hi => wpOpIn_mono (fun a' w' h' => AnyG.anyIn hF hd fuel _ a' w' h'.2) (opG_in hF hd (h.2 i hi))⟩

/-- Only the plain way out. -/
def onlyN (K : Act → World → Prop) : Exit → Act → World → Prop
  | .normal, a, w => K a w
  | _, _, _ => False
theorem onlyN_to {Q : Exit → Act → World → Prop} : ∀ e a w, onlyN (Q .normal) e a w → Q e a w := by
  intro e a w h
  cases e <;> first | exact h | exact h.elim

/-- A drawn region, by whatever order is picked. -/
def AnyK (P : Program) (ops : Array Oper) (K : Act → World → Prop) (Kp : Nat → World → World → Prop) (fuel : Nat) (listed : Array Bool) (a : Act) (w : World) : Prop :=
  AnyG P .any ops (onlyN K) Kp fuel listed a w

theorem region_K {F : Fence} {n id : Nat} {a : Act} {w : World} (Kp : Nat → World → World → Prop) (hF : WideF F P) (hd : Region.noDefer ops = true) (hm : P.follows .mixedOrders = true)
    (h : AnyK P ops (Q .normal) Kp ops.size (Array.replicate ops.size false) a w.drew) : (Code.region id ops true).wpIn F n P Q a w :=
  wpIn_mono (wpIn_region_any hm (AnyG.anyIn hF hd _ _ _ _ h)) onlyN_to

section
variable {K : Act → World → Prop} {fuel : Nat} {listed : Array Bool} {a : Act} {w : World} {i d : Nat} {ty : TypeId} {pos : String} {aft : Array Edge} {gd : Option (Nat × Bool)}

/-- What is asked to take number i first. -/
structure May (ops : Array Oper) (Kp : Nat → World → World → Prop) (listed : Array Bool) (R : World → Prop) (T : Nat → Bool) (i : Nat) (oi : Oper) : Prop where
  at_ : ops[i]? = some oi
  sel : Region.noSelect ops = true
  rdy : (Region.ready .any ops listed).contains i = true
  loose : looseB .any ops T i oi = true
  keep : ∀ j w w', T j = false → Kp j w w' → R w → R w'
  self : ∀ w, Kp i w w

theorem AnyK.take {R : World → Prop} {T : Nat → Bool} {oi : Oper} {v : Value} (m : May ops Kp listed R T i oi) (hy : YieldsIf P ops R oi v a) (hS : R w)
    (h : AnyK P ops K Kp fuel (listed.setIfInBounds i true) (a.put oi.dst v) w) : AnyK P ops K Kp (fuel + 1) listed a w :=
  AnyG.take R T m.at_ m.sel m.rdy m.loose (fun _ _ _ h => h) m.keep m.self hy hS h

theorem AnyK.load {R : World → Prop} {T : Nat → Bool} {t : TypeId} {x : Operand} {p : Addr} {v : Value} (m : May ops Kp listed R T i ⟨some d, .load t x, ty, pos, aft, gd⟩)
    (hx : a.eval x = .pointer (some p)) (hv : ∀ w, R w → (Instr.loadAt t (.pointer (some p))).run P w = .ok v w) (hS : R w)
    (h : AnyK P ops K Kp fuel (listed.setIfInBounds i true) (a.put (some d) v) w) (hw : Region.wanted ⟨some d, .load t x, ty, pos, aft, gd⟩ (yielded ops a.tmps) = true := by rfl) : AnyK P ops K Kp (fuel + 1) listed a w :=
  AnyK.take m (.inl ⟨hw, fun w' hw' => by simp [execOp, hx, hv w' hw']⟩) hS h

theorem AnyK.nilCheck {R : World → Prop} {T : Nat → Bool} {x : Operand} {p : Addr} (m : May ops Kp listed R T i ⟨some d, .nilCheck x, ty, pos, aft, gd⟩)
    (hx : a.eval x = .pointer (some p)) (hS : R w)
    (h : AnyK P ops K Kp fuel (listed.setIfInBounds i true) (a.put (some d) (.pointer (some p))) w) (hw : Region.wanted ⟨some d, .nilCheck x, ty, pos, aft, gd⟩ (yielded ops a.tmps) = true := by rfl) : AnyK P ops K Kp (fuel + 1) listed a w :=
  AnyK.take m (.inl ⟨hw, fun w' hw' => by simp [execOp, hx]⟩) hS h

theorem AnyK.field {R : World → Prop} {T : Nat → Bool} {t : TypeId} {x : Operand} {f : Nat} {u v : Value} (m : May ops Kp listed R T i ⟨some d, .fieldAddr t x f, ty, pos, aft, gd⟩)
    (hx : a.eval x = u) (hv : ∀ w, (Instr.fieldAt t u f).run P w = .ok v w) (hS : R w)
    (h : AnyK P ops K Kp fuel (listed.setIfInBounds i true) (a.put (some d) v) w) (hw : Region.wanted ⟨some d, .fieldAddr t x f, ty, pos, aft, gd⟩ (yielded ops a.tmps) = true := by rfl) : AnyK P ops K Kp (fuel + 1) listed a w :=
  AnyK.take m (.inl ⟨hw, fun w' hw' => by simp [execOp, hx, hv w']⟩) hS h

theorem AnyK.index {R : World → Prop} {T : Nat → Bool} {t : TypeId} {x y : Operand} {u u' v : Value} (m : May ops Kp listed R T i ⟨some d, .indexAddr t x y, ty, pos, aft, gd⟩)
    (hx : a.eval x = u) (hy : a.eval y = u') (hv : ∀ w, (Instr.indexAt t u u').run P w = .ok v w) (hS : R w)
    (h : AnyK P ops K Kp fuel (listed.setIfInBounds i true) (a.put (some d) v) w) (hw : Region.wanted ⟨some d, .indexAddr t x y, ty, pos, aft, gd⟩ (yielded ops a.tmps) = true := by rfl) : AnyK P ops K Kp (fuel + 1) listed a w :=
  AnyK.take m (.inl ⟨hw, fun w' hw' => by simp [execOp, hx, hy, hv w']⟩) hS h

theorem AnyK.move {R : World → Prop} {T : Nat → Bool} {x : Operand} {v : Value} (m : May ops Kp listed R T i ⟨some d, .move x, ty, pos, aft, gd⟩)
    (hx : a.eval x = v) (hS : R w)
    (h : AnyK P ops K Kp fuel (listed.setIfInBounds i true) (a.put (some d) v) w) (hw : Region.wanted ⟨some d, .move x, ty, pos, aft, gd⟩ (yielded ops a.tmps) = true := by rfl) : AnyK P ops K Kp (fuel + 1) listed a w :=
  AnyK.take m (.inl ⟨hw, fun w' hw' => by simp [execOp, hx]⟩) hS h
theorem AnyK.assign {R : World → Prop} {T : Nat → Bool} {x : Operand} {v : Value} (m : May ops Kp listed R T i ⟨some d, .assign x, ty, pos, aft, gd⟩)
    (hx : a.eval x = v) (hS : R w)
    (h : AnyK P ops K Kp fuel (listed.setIfInBounds i true) (a.put (some d) v) w) (hw : Region.wanted ⟨some d, .assign x, ty, pos, aft, gd⟩ (yielded ops a.tmps) = true := by rfl) : AnyK P ops K Kp (fuel + 1) listed a w :=
  AnyK.take m (.inl ⟨hw, fun w' hw' => by simp [execOp, hx]⟩) hS h
theorem AnyK.bin {R : World → Prop} {T : Nat → Bool} {b : BinOp} {t t' : TypeId} {x y : Operand} {u u' v : Value} (m : May ops Kp listed R T i ⟨some d, .binOp b t x y t', ty, pos, aft, gd⟩)
    (hx : a.eval x = u) (hy : a.eval y = u') (hv : ∀ w, (do eqGuard b t x y u u'; binOp b t u u' : Sem Value).run P w = .ok v w) (hS : R w)
    (h : AnyK P ops K Kp fuel (listed.setIfInBounds i true) (a.put (some d) v) w) (hw : Region.wanted ⟨some d, .binOp b t x y t', ty, pos, aft, gd⟩ (yielded ops a.tmps) = true := by rfl) : AnyK P ops K Kp (fuel + 1) listed a w :=
  AnyK.take m (.inl ⟨hw, fun w' hw' => by
    simp only [execOp, hx, hy]
    have := hv w'
    simp only [Sem.run_bind] at this ⊢
    rw [this]
    simp⟩) hS h

/-- Only number i may come up: an operation that makes a value. -/
theorem AnyK.build {t : TypeId} {n : Nat} {parts : Array (Nat × Operand)} {ps : Array (Nat × Value)} {v : Value} {w' : World} (hi : ops[i]? = some ⟨some d, .buildSlice t n parts, ty, pos, aft, gd⟩) (hr : Region.ready .any ops listed = [i])
    (hp : parts.map (fun (i, x) => (i, a.eval x)) = ps) (hv : (Instr.buildSlice t n ps).run P w = .ok v w') (hk : Kp i w w')
    (h : AnyK P ops K Kp fuel (listed.setIfInBounds i true) (a.put (some d) v) w') (hw : Region.wanted ⟨some d, .buildSlice t n parts, ty, pos, aft, gd⟩ (yielded ops a.tmps) = true := by rfl) : AnyK P ops K Kp (fuel + 1) listed a w :=
  AnyG.one hi hr hw (by simp only [Oper.wp, execOp, hp]; simp [hv, Oper.upon]; exact ⟨hk, h⟩)
theorem AnyK.call {f : FuncId} {args : Array Operand} {tys : Array TypeId} {vs : Array Value} (hi : ops[i]? = some ⟨some d, .call { callee := .value (.func f), args := args, argTypes := tys }, ty, pos, aft, gd⟩) (hr : Region.ready .any ops listed = [i])
    (he : ∀ args w, (callFunc f args).run P w = .ok (.enter f args) w) (hp : args.map a.eval = vs)
    (h : Calls P f vs w fun e w' => ∃ v, e = .returned v ∧ Kp i w w' ∧ AnyK P ops K Kp fuel (listed.setIfInBounds i true) (a.put (some d) v) w') (hw : Region.wanted ⟨some d, .call { callee := .value (.func f), args := args, argTypes := tys }, ty, pos, aft, gd⟩ (yielded ops a.tmps) = true := by rfl) : AnyK P ops K Kp (fuel + 1) listed a w :=
  AnyG.one hi hr hw (by
    simp only [Oper.wp, execOp, resolve, hp, Act.eval, Deferred.ofValue]
    simp [invoke, he, Oper.upon]
    refine h.mono ?_
    rintro e w' ⟨v, rfl, h1, h2⟩
    exact ⟨h1, h2⟩)
theorem AnyK.store {t : TypeId} {x y : Operand} {u u' : Value} {w' : World} (hi : ops[i]? = some ⟨none, .store t x y, ty, pos, aft, gd⟩) (hr : Region.ready .any ops listed = [i])
    (hx : a.eval x = u) (hy : a.eval y = u') (hv : (Instr.storeAt t u u').run P w = .ok () w') (hk : Kp i w w')
    (h : AnyK P ops K Kp fuel (listed.setIfInBounds i true) a w') (hw : Region.wanted ⟨none, .store t x y, ty, pos, aft, gd⟩ (yielded ops a.tmps) = true := by rfl) : AnyK P ops K Kp (fuel + 1) listed a w :=
  AnyG.one hi hr hw (by simp only [Oper.wp, execOp, hx, hy]; simp [hv, Oper.upon]; exact ⟨hk, h⟩)
theorem AnyK.pick {R : World → Prop} {T : Nat → Bool} {c x y : Operand} {b : Bool} {v : Value} (m : May ops Kp listed R T i ⟨some d, .pick c x y, ty, pos, aft, gd⟩) (hc : a.eval c = .bool b)
    (hx : (if b then a.eval x else a.eval y) = v) (hS : R w)
    (h : AnyK P ops K Kp fuel (listed.setIfInBounds i true) (a.put (some d) v) w) (hw : Region.wanted ⟨some d, .pick c x y, ty, pos, aft, gd⟩ (yielded ops a.tmps) = true := by rfl) : AnyK P ops K Kp (fuel + 1) listed a w :=
  AnyK.take m (.inl ⟨hw, fun w' _ => by simp [execOp, hc, asBool]; cases b <;> simpa using hx⟩) hS h
theorem AnyK.indexV {R : World → Prop} {T : Nat → Bool} {t : TypeId} {x y : Operand} {u u' v : Value} (m : May ops Kp listed R T i ⟨some d, .index t x y, ty, pos, aft, gd⟩)
    (hx : a.eval x = u) (hy : a.eval y = u') (hv : ∀ w, (Instr.index t u u').run P w = .ok v w) (hS : R w)
    (h : AnyK P ops K Kp fuel (listed.setIfInBounds i true) (a.put (some d) v) w) (hw : Region.wanted ⟨some d, .index t x y, ty, pos, aft, gd⟩ (yielded ops a.tmps) = true := by rfl) : AnyK P ops K Kp (fuel + 1) listed a w :=
  AnyK.take m (.inl ⟨hw, fun w' hw' => by simp [execOp, hx, hy, hv w']⟩) hS h
theorem wanted_at {o oj : Oper} {j e : Nat} {b b' : Bool} (hg : o.guard = some (j, b)) (hj : ops[j]? = some oj) (hd : oj.dst = some e) (he : a.eval (.tmp e) = .bool b') : Region.wanted o (yielded ops a.tmps) = (b' == b) := by
  have h : a.tmps[e]? = some (.bool b') := by
    simp only [Act.eval, Array.getD_eq_getD_getElem?] at he
    cases hq : a.tmps[e]? with
    | none => rw [hq] at he; cases he
    | some u => rw [hq] at he; simp at he; rw [he]
  unfold Region.wanted yielded
  simp [hg, hj, hd, h]
theorem AnyK.done (hr : Region.ready .any ops listed = []) (h : K a w) : AnyK P ops K Kp fuel listed a w := AnyG.done hr h fuel

@[simp] theorem ev_same {v : Value} (h : d < a.tmps.size) : (a.put (some d) v).eval (.tmp d) = v := by simp [Act.put, Act.eval, h]
@[simp] theorem ev_ne {v : Value} {e : Nat} (h : e ≠ d) : (a.put (some d) v).eval (.tmp e) = a.eval (.tmp e) := Act.eval_put (by rintro d' h' h2; cases h'; cases h2; exact h rfl)
@[simp] theorem ev_const {v : Value} : a.eval (.const v) = v := rfl
@[simp] theorem size_put {v : Value} : (a.put (some d) v).tmps.size = a.tmps.size := by simp [Act.put]
end
end
end Go.Proofs.Ytfcnombmphophaa
namespace Go.Proofs.Ytfcnombmphophaa
open Go.RowKit Go.Shelf
/-- The operations of a region, by its number. -/
def regionOf (k : Nat) : Code → Option (Array Oper)
  | .region id ops _ => if id == k then some ops else none
  | .seq a b => match regionOf k a with
    | some c => some c
    | none => regionOf k b
  | .loop c => regionOf k c
  | .block _ c => regionOf k c
  | .scope c => regionOf k c
  | .cond _ a b => match regionOf k a with
    | some c => some c
    | none => regionOf k b
  | .rangeFunc _ _ a b => match regionOf k a with
    | some c => some c
    | none => regionOf k b
  | _ => none
theorem ld89 {w : World} {p : Addr} {v : Value} (h : w.cell? p = some v) : (Instr.loadAt 89 (.pointer (some p))).run Try.prog w = .ok v w := by
  go_simp
theorem ld25 {w : World} {p : Addr} {v : Value} (h : w.cell? p = some v) : (Instr.loadAt 25 (.pointer (some p))).run Try.prog w = .ok v w := by
  go_simp
theorem ld3 {w : World} {p : Addr} {v : Value} (h : w.cell? p = some v) : (Instr.loadAt 3 (.pointer (some p))).run Try.prog w = .ok v w := by
  go_simp
theorem ld94 {w : World} {p : Addr} {v : Value} (h : w.cell? p = some v) : (Instr.loadAt 94 (.pointer (some p))).run Try.prog w = .ok v w := by
  go_simp
theorem fa114_1 {b o : Nat} (w : World) : (Instr.fieldAt 114 (.pointer (some ⟨b, o, none⟩)) 1).run Try.prog w = .ok (.pointer (some ⟨b, o + 3, none⟩)) w := by
  go_simp
theorem fa114_2 {b o : Nat} (w : World) : (Instr.fieldAt 114 (.pointer (some ⟨b, o, none⟩)) 2).run Try.prog w = .ok (.pointer (some ⟨b, o + 4, none⟩)) w := by
  go_simp
theorem fa61_3 {b o : Nat} (w : World) : (Instr.fieldAt 61 (.pointer (some ⟨b, o, none⟩)) 3).run Try.prog w = .ok (.pointer (some ⟨b, o + 3, none⟩)) w := by
  go_simp
theorem fa46_0 {b o : Nat} (w : World) : (Instr.fieldAt 46 (.pointer (some ⟨b, o, none⟩)) 0).run Try.prog w = .ok (.pointer (some ⟨b, o, none⟩)) w := by
  go_simp
theorem fa46_1 {b o : Nat} (w : World) : (Instr.fieldAt 46 (.pointer (some ⟨b, o, none⟩)) 1).run Try.prog w = .ok (.pointer (some ⟨b, o + 1, none⟩)) w := by
  go_simp
theorem ix25 {b n c : Nat} {i : Nat} (h : i < n) (w : World) : (Instr.indexAt 25 (.slice (some ⟨b, 0, none⟩) n c) (.int .i64 i)).run Try.prog w = .ok (.pointer (some ⟨b, i, none⟩)) w := by
  go_simp
theorem bs25_2 (x y : Int) (w : World) : (Instr.buildSlice 25 2 #[(0, .int .i64 x), (1, .int .i64 y)]).run Try.prog w = .ok (.slice (some ⟨w.heap.size, 0, none⟩) 2 2) (w.alloc (.cells #[.int .i64 x, .int .i64 y] 3)) := by
  go_simp
theorem bs25_1 (x : Int) (w : World) : (Instr.buildSlice 25 1 #[(0, .int .i64 x)]).run Try.prog w = .ok (.slice (some ⟨w.heap.size, 0, none⟩) 1 1) (w.alloc (.cells #[.int .i64 x] 3)) := by
  go_simp
theorem st3 {w : World} {p : Addr} {v : Value} {u : Int} (h : w.cell? p = some v) (hf : w.frozen? p = false) : (Instr.storeAt 3 (.pointer (some p)) (.int .i64 u)).run Try.prog w = .ok () (w.setCell p (.int .i64 u)) := by
  go_simp
theorem st25 {w : World} {p : Addr} {v : Value} {A : Option Addr} {n c : Nat} (h : w.cell? p = some v) (hf : w.frozen? p = false) : (Instr.storeAt 25 (.pointer (some p)) (.slice A n c)).run Try.prog w = .ok () (w.setCell p (.slice A n c)) := by
  go_simp
theorem sh94 {x y : Operand} {n : Nat} (h : n < 16) (w : World) : (do eqGuard .shl 94 x y (.int .i64 1) (.int .i64 n); binOp .shl 94 (.int .i64 1) (.int .i64 n) : Sem Value).run Try.prog w = .ok (.int .i64 ((2 ^ n : Nat) : Int)) w := by
  have hp : (2 : Nat) ^ n < 65536 := Nat.lt_of_lt_of_le (Nat.pow_lt_pow_right (by omega) h) (by decide)
  have hc : ((2 ^ n : Nat) : Int) = (2 : Int) ^ n := by push_cast; rfl
  go_simp
  have h0 : (0 : Int) ≤ ((2 ^ n : Nat) : Int) := Int.natCast_nonneg _
  have h1 : ((2 ^ n : Nat) : Int) < 65536 := Int.ofNat_lt.2 hp
  rw [← hc]
  generalize ((2 ^ n : Nat) : Int) = z at *
  exact IntWalk.i64_in _ (by omega)
theorem or94 {x y : Operand} {m n : Nat} (h : m < 65536) (h' : n < 65536) (w : World) : (do eqGuard .or 94 x y (.int .i64 m) (.int .i64 n); binOp .or 94 (.int .i64 m) (.int .i64 n) : Sem Value).run Try.prog w = .ok (.int .i64 ((m ||| n : Nat) : Int)) w := by
  have := or_small m n h h'
  go_simp
theorem cell_new2 (w : World) (u v : Value) (t : TypeId) : (w.alloc (.cells #[u, v] t)).cell? ⟨w.heap.size, 0, none⟩ = some u ∧ (w.alloc (.cells #[u, v] t)).cell? ⟨w.heap.size, 1, none⟩ = some v := by
  refine ⟨?_, ?_⟩
  · rw [cell_of_row _ _ _ _ _ _ (heap_alloc_new w (.cells #[u, v] t))]
    rfl
  · rw [cell_of_row _ _ _ _ _ _ (heap_alloc_new w (.cells #[u, v] t))]
    rfl

theorem cell_alloc_l {w : World} {p : Addr} {v : Value} (o : Obj) (h : w.cell? p = some v) : (w.alloc o).cell? p = some v :=
  (((Below.refl w.heap.size w).alloc (Nat.le_refl _) o).cell (block_lt_of_cell h)).trans h
theorem froz_alloc_l {w : World} {p : Addr} {v : Value} (o : Obj) (h : w.cell? p = some v) (hf : w.frozen? p = false) : (w.alloc o).frozen? p = false :=
  (((Below.refl w.heap.size w).alloc (Nat.le_refl _) o).frozen (block_lt_of_cell h)).trans hf

/-- A fact on the world that all operations but those of T keep. -/
abbrev KpR (R : World → Prop) (T : Nat → Bool) : Nat → World → World → Prop := fun j w w' => T j = false → R w → R w'
theorem may_of {ops : Array Oper} {listed : Array Bool} {R : World → Prop} {T : Nat → Bool} {i : Nat} {oi : Oper} (h1 : ops[i]? = some oi) (h2 : Region.noSelect ops = true) (h3 : (Region.ready .any ops listed).contains i = true) (h4 : looseB .any ops T i oi = true) :
    May ops (KpR R T) listed R T i oi := ⟨h1, h2, h3, h4, fun _ _ _ hT hk hR => hk hT hR, fun _ _ h => h⟩
theorem may_o {ops : Array Oper} {listed : Array Bool} {R : World → Prop} {T : Nat → Bool} {i : Nat} {oi : Oper} (h1 : ops[i]? = some oi := by rfl) (h2 : Region.noSelect ops = true := by kernel_rfl) (h3 : (Region.ready .any ops listed).contains i = true := by kernel_rfl) (h4 : looseB .any ops T i oi = true := by kernel_rfl) :
    May ops (KpR R T) listed R T i oi := may_of h1 h2 h3 h4
theorem Try.mixed : Try.prog.follows .mixedOrders = true := by kernel_rfl
noncomputable def ops14 : Array Oper := (Try.f61.body.bind (regionOf 14)).getD #[]
set_option maxHeartbeats 1000000 in
theorem region14 {F : Fence} {n : Nat} (hF : WideF F Try.prog) {Q : Exit → Act → World → Prop} {a : Act} {w : World} {bk kb bd bx g N c d : Nat} {e lo : Int} (hsz : a.tmps.size = 159)
    (t3 : a.eval (.tmp 3) = .pointer (some ⟨bk, 0, none⟩)) (t4 : a.eval (.tmp 4) = .pointer (some ⟨bd, 0, none⟩)) (t6 : a.eval (.tmp 6) = .pointer (some ⟨bx, 0, none⟩))
    (m0 : w.cell? ⟨bk, 0, none⟩ = some (.pointer (some ⟨kb, 0, none⟩))) (m1 : w.cell? ⟨kb, 3, none⟩ = some (.slice (some ⟨g, 0, none⟩) N c)) (m2 : w.cell? ⟨bd, 0, none⟩ = some (.int .i64 d)) (m3 : w.cell? ⟨g, d, none⟩ = some (.int .i64 e)) (m4 : w.cell? ⟨bx, 3, none⟩ = some (.int .i64 lo)) (hd : d < N)
    (hK : Q .normal (((((((((((((a.put (some 64) (.pointer (some ⟨kb, 0, none⟩))).put (some 65) (.pointer (some ⟨kb, 0, none⟩))).put (some 66) (.pointer (some ⟨kb, 3, none⟩))).put (some 67) (.slice (some ⟨g, 0, none⟩) N c)).put (some 68) (.int .i64 d)).put (some 69) (.pointer (some ⟨g, d, none⟩))).put (some 70) (.int .i64 e)).put (some 71) (.pointer (some ⟨bx, 3, none⟩))).put (some 72) (.pointer (some ⟨bx, 3, none⟩))).put (some 73) (.int .i64 lo)).put (some 74) (.slice (some ⟨w.heap.size, 0, none⟩) 2 2)).put (some 75) (.int .i64 (max e lo))).put (some 7) (.int .i64 (max e lo))) (w.drew.alloc (.cells #[.int .i64 e, .int .i64 lo] 3))) :
    (Code.region 14 ops14 true).wpIn F n Try.prog Q a w := by
  have hR : (fun w : World => w.cell? ⟨bk, 0, none⟩ = some (.pointer (some ⟨kb, 0, none⟩)) ∧ w.cell? ⟨kb, 3, none⟩ = some (.slice (some ⟨g, 0, none⟩) N c) ∧ w.cell? ⟨bd, 0, none⟩ = some (.int .i64 d) ∧ w.cell? ⟨g, d, none⟩ = some (.int .i64 e) ∧ w.cell? ⟨bx, 3, none⟩ = some (.int .i64 lo)) w.drew := ⟨m0, m1, m2, m3, m4⟩
  refine region_K (KpR (fun w => w.cell? ⟨bk, 0, none⟩ = some (.pointer (some ⟨kb, 0, none⟩)) ∧ w.cell? ⟨kb, 3, none⟩ = some (.slice (some ⟨g, 0, none⟩) N c) ∧ w.cell? ⟨bd, 0, none⟩ = some (.int .i64 d) ∧ w.cell? ⟨g, d, none⟩ = some (.int .i64 e) ∧ w.cell? ⟨bx, 3, none⟩ = some (.int .i64 lo)) (fun _ => false)) hF (by kernel_rfl) Try.mixed ?_
  change AnyK _ _ _ _ 13 (Array.replicate 13 false) _ _
  refine AnyK.load (i := 0) may_o (p := ⟨bk, 0, none⟩) (v := .pointer (some ⟨kb, 0, none⟩)) (by simp [t3]) (fun w hw => ld89 hw.1) hR ?_
  refine AnyK.nilCheck (i := 1) may_o (p := ⟨kb, 0, none⟩) (by simp [hsz]) hR ?_
  refine AnyK.field (i := 2) may_o (u := .pointer (some ⟨kb, 0, none⟩)) (v := .pointer (some ⟨kb, 3, none⟩)) (by simp [hsz]) (fun w => fa114_1 w) hR ?_
  refine AnyK.load (i := 3) may_o (p := ⟨kb, 3, none⟩) (v := .slice (some ⟨g, 0, none⟩) N c) (by simp [hsz]) (fun w hw => ld25 hw.2.1) hR ?_
  refine AnyK.load (i := 4) may_o (p := ⟨bd, 0, none⟩) (v := .int .i64 d) (by simp [t4]) (fun w hw => ld94 hw.2.2.1) hR ?_
  refine AnyK.index (i := 5) may_o (u := .slice (some ⟨g, 0, none⟩) N c) (u' := .int .i64 d) (v := .pointer (some ⟨g, d, none⟩)) (by simp [hsz]) (by simp [hsz]) (fun w => ix25 hd w) hR ?_
  refine AnyK.load (i := 6) may_o (p := ⟨g, d, none⟩) (v := .int .i64 e) (by simp [hsz]) (fun w hw => ld3 hw.2.2.2.1) hR ?_
  refine AnyK.field (i := 7) may_o (u := .pointer (some ⟨bx, 0, none⟩)) (v := .pointer (some ⟨bx, 3, none⟩)) (by simp [t6]) (fun w => fa61_3 w) hR ?_
  refine AnyK.field (i := 8) may_o (u := .pointer (some ⟨bx, 3, none⟩)) (v := .pointer (some ⟨bx, 3, none⟩)) (by simp [hsz]) (fun w => fa46_0 w) hR ?_
  refine AnyK.load (i := 9) may_o (p := ⟨bx, 3, none⟩) (v := .int .i64 lo) (by simp [hsz]) (fun w hw => ld3 hw.2.2.2.2) hR ?_
  refine AnyK.build (i := 10) (ps := #[(0, .int .i64 e), (1, .int .i64 lo)]) rfl (by kernel_rfl) (by simp [hsz]) (bs25_2 _ _ _) (fun _ hw => ⟨cell_alloc_l _ hw.1, cell_alloc_l _ hw.2.1, cell_alloc_l _ hw.2.2.1, cell_alloc_l _ hw.2.2.2.1, cell_alloc_l _ hw.2.2.2.2⟩) ?_
  refine AnyK.call (i := 11) (vs := #[.slice (some ⟨w.heap.size, 0, none⟩) 2 2]) rfl (by kernel_rfl) (enters_of Try.func57 (by kernel_rfl) rfl) (by simp [hsz]) ((greatest_two _ 0 2 e lo _ (cell_new2 _ _ _ _).1 (cell_new2 _ _ _ _).2).mono ?_)
  rintro _ _ ⟨rfl, rfl⟩
  refine ⟨_, rfl, (fun _ h => h), ?_⟩
  replace hR : (fun w : World => w.cell? ⟨bk, 0, none⟩ = some (.pointer (some ⟨kb, 0, none⟩)) ∧ w.cell? ⟨kb, 3, none⟩ = some (.slice (some ⟨g, 0, none⟩) N c) ∧ w.cell? ⟨bd, 0, none⟩ = some (.int .i64 d) ∧ w.cell? ⟨g, d, none⟩ = some (.int .i64 e) ∧ w.cell? ⟨bx, 3, none⟩ = some (.int .i64 lo)) (w.drew.alloc (.cells #[.int .i64 e, .int .i64 lo] 3)) := ⟨cell_alloc_l _ hR.1, cell_alloc_l _ hR.2.1, cell_alloc_l _ hR.2.2.1, cell_alloc_l _ hR.2.2.2.1, cell_alloc_l _ hR.2.2.2.2⟩
  refine AnyK.assign (i := 12) may_o (v := .int .i64 (max e lo)) (by simp [hsz]) hR ?_
  exact AnyK.done (by kernel_rfl) hK

noncomputable def ops16 : Array Oper := (Try.f61.body.bind (regionOf 16)).getD #[]
set_option maxHeartbeats 1000000 in
theorem region16 {F : Fence} {n : Nat} (hF : WideF F Try.prog) {Q : Exit → Act → World → Prop} {a : Act} {w : World} {bd d k : Nat} (hsz : a.tmps.size = 159)
    (t4 : a.eval (.tmp 4) = .pointer (some ⟨bd, 0, none⟩)) (t5 : a.eval (.tmp 5) = .int .i64 k)
    (m0 : w.cell? ⟨bd, 0, none⟩ = some (.int .i64 d)) (hd : d < 65536) (hk : k < 16)
    (hK : Q .normal (((((a.put (some 81) (.int .i64 d)).put (some 82) (.int .i64 k)).put (some 83) (.int .i64 ((2 ^ k : Nat) : Int))).put (some 84) (.int .i64 ((d ||| 2 ^ k : Nat) : Int))).put (some 8) (.int .i64 ((d ||| 2 ^ k : Nat) : Int))) w.drew) :
    (Code.region 16 ops16 true).wpIn F n Try.prog Q a w := by
  have hR : (fun w : World => w.cell? ⟨bd, 0, none⟩ = some (.int .i64 d)) w.drew := m0
  refine region_K (KpR (fun w => w.cell? ⟨bd, 0, none⟩ = some (.int .i64 d)) (fun _ => false)) hF (by kernel_rfl) Try.mixed ?_
  change AnyK _ _ _ _ 5 (Array.replicate 5 false) _ _
  refine AnyK.load (i := 0) may_o (p := ⟨bd, 0, none⟩) (v := .int .i64 d) (by simp [t4]) (fun w hw => ld94 hw) hR ?_
  refine AnyK.move (i := 1) may_o (v := .int .i64 k) (by simp [t5]) hR ?_
  refine AnyK.bin (i := 2) may_o (u := .int .i64 (1)) (u' := .int .i64 k) (v := .int .i64 ((2 ^ k : Nat) : Int)) (by simp) (by simp [hsz]) (fun w => sh94 hk w) hR ?_
  refine AnyK.bin (i := 3) may_o (u := .int .i64 d) (u' := .int .i64 ((2 ^ k : Nat) : Int)) (v := .int .i64 ((d ||| 2 ^ k : Nat) : Int)) (by simp [hsz]) (by simp [hsz]) (fun w => or94 hd (by have := Nat.pow_lt_pow_right (a := 2) (by omega) hk; omega) w) hR ?_
  refine AnyK.assign (i := 4) may_o (v := .int .i64 ((d ||| 2 ^ k : Nat) : Int)) (by simp [hsz]) hR ?_
  exact AnyK.done (by kernel_rfl) hK

noncomputable def ops17 : Array Oper := (Try.f61.body.bind (regionOf 17)).getD #[]
set_option maxHeartbeats 1000000 in
theorem region17 {F : Fence} {n : Nat} (hF : WideF F Try.prog) {Q : Exit → Act → World → Prop} {a : Act} {w : World} {bk kb g N c to : Nat} {e on : Int} (hsz : a.tmps.size = 159)
    (t3 : a.eval (.tmp 3) = .pointer (some ⟨bk, 0, none⟩)) (t7 : a.eval (.tmp 7) = .int .i64 on) (t8 : a.eval (.tmp 8) = .int .i64 to)
    (m0 : w.cell? ⟨bk, 0, none⟩ = some (.pointer (some ⟨kb, 0, none⟩))) (m1 : w.cell? ⟨kb, 3, none⟩ = some (.slice (some ⟨g, 0, none⟩) N c)) (m2 : w.cell? ⟨g, to, none⟩ = some (.int .i64 e)) (hto : to < N) (hfz : w.frozen? ⟨g, to, none⟩ = false)
    (hK : ∀ a', Q .normal a' ((w.drew.alloc (.cells #[.int .i64 e, .int .i64 on] 3)).setCell ⟨g, to, none⟩ (.int .i64 (min e on)))) :
    (Code.region 17 ops17 true).wpIn F n Try.prog Q a w := by
  have hR : (fun w : World => w.cell? ⟨bk, 0, none⟩ = some (.pointer (some ⟨kb, 0, none⟩)) ∧ w.cell? ⟨kb, 3, none⟩ = some (.slice (some ⟨g, 0, none⟩) N c) ∧ w.cell? ⟨g, to, none⟩ = some (.int .i64 e)) w.drew := ⟨m0, m1, m2⟩
  refine region_K (KpR (fun w => w.cell? ⟨bk, 0, none⟩ = some (.pointer (some ⟨kb, 0, none⟩)) ∧ w.cell? ⟨kb, 3, none⟩ = some (.slice (some ⟨g, 0, none⟩) N c) ∧ w.cell? ⟨g, to, none⟩ = some (.int .i64 e)) (fun j => j == 16)) hF (by kernel_rfl) Try.mixed ?_
  change AnyK _ _ _ _ 17 (Array.replicate 17 false) _ _
  refine AnyK.load (i := 0) may_o (p := ⟨bk, 0, none⟩) (v := .pointer (some ⟨kb, 0, none⟩)) (by simp [t3]) (fun w hw => ld89 hw.1) hR ?_
  refine AnyK.nilCheck (i := 1) may_o (p := ⟨kb, 0, none⟩) (by simp [hsz]) hR ?_
  refine AnyK.field (i := 2) may_o (u := .pointer (some ⟨kb, 0, none⟩)) (v := .pointer (some ⟨kb, 3, none⟩)) (by simp [hsz]) (fun w => fa114_1 w) hR ?_
  refine AnyK.load (i := 3) may_o (p := ⟨kb, 3, none⟩) (v := .slice (some ⟨g, 0, none⟩) N c) (by simp [hsz]) (fun w hw => ld25 hw.2.1) hR ?_
  refine AnyK.move (i := 4) may_o (v := .int .i64 to) (by simp [t8]) hR ?_
  refine AnyK.load (i := 5) may_o (p := ⟨bk, 0, none⟩) (v := .pointer (some ⟨kb, 0, none⟩)) (by simp [t3]) (fun w hw => ld89 hw.1) hR ?_
  refine AnyK.nilCheck (i := 6) may_o (p := ⟨kb, 0, none⟩) (by simp [hsz]) hR ?_
  refine AnyK.field (i := 7) may_o (u := .pointer (some ⟨kb, 0, none⟩)) (v := .pointer (some ⟨kb, 3, none⟩)) (by simp [hsz]) (fun w => fa114_1 w) hR ?_
  refine AnyK.load (i := 8) may_o (p := ⟨kb, 3, none⟩) (v := .slice (some ⟨g, 0, none⟩) N c) (by simp [hsz]) (fun w hw => ld25 hw.2.1) hR ?_
  refine AnyK.move (i := 9) may_o (v := .int .i64 to) (by simp [t8]) hR ?_
  refine AnyK.index (i := 10) may_o (u := .slice (some ⟨g, 0, none⟩) N c) (u' := .int .i64 to) (v := .pointer (some ⟨g, to, none⟩)) (by simp [hsz]) (by simp [hsz]) (fun w => ix25 hto w) hR ?_
  refine AnyK.load (i := 11) may_o (p := ⟨g, to, none⟩) (v := .int .i64 e) (by simp [hsz]) (fun w hw => ld3 hw.2.2) hR ?_
  refine AnyK.move (i := 12) may_o (v := .int .i64 on) (by simp [t7]) hR ?_
  refine AnyK.build (i := 13) (ps := #[(0, .int .i64 e), (1, .int .i64 on)]) rfl (by kernel_rfl) (by simp [hsz]) (bs25_2 _ _ _) (fun _ hw => ⟨cell_alloc_l _ hw.1, cell_alloc_l _ hw.2.1, cell_alloc_l _ hw.2.2⟩) ?_
  refine AnyK.call (i := 14) (vs := #[.slice (some ⟨w.heap.size, 0, none⟩) 2 2]) rfl (by kernel_rfl) (enters_of Try.func65 (by kernel_rfl) rfl) (by simp [hsz]) ((least_two _ 0 2 e on _ (cell_new2 _ _ _ _).1 (cell_new2 _ _ _ _).2).mono ?_)
  rintro _ _ ⟨rfl, rfl⟩
  refine ⟨_, rfl, (fun _ h => h), ?_⟩
  replace hR : (fun w : World => w.cell? ⟨bk, 0, none⟩ = some (.pointer (some ⟨kb, 0, none⟩)) ∧ w.cell? ⟨kb, 3, none⟩ = some (.slice (some ⟨g, 0, none⟩) N c) ∧ w.cell? ⟨g, to, none⟩ = some (.int .i64 e)) (w.drew.alloc (.cells #[.int .i64 e, .int .i64 on] 3)) := ⟨cell_alloc_l _ hR.1, cell_alloc_l _ hR.2.1, cell_alloc_l _ hR.2.2⟩
  refine AnyK.index (i := 15) may_o (u := .slice (some ⟨g, 0, none⟩) N c) (u' := .int .i64 to) (v := .pointer (some ⟨g, to, none⟩)) (by simp [hsz]) (by simp [hsz]) (fun w => ix25 hto w) hR ?_
  refine AnyK.store (i := 16) (u := .pointer (some ⟨g, to, none⟩)) (u' := .int .i64 (min e on)) rfl (by kernel_rfl) (by simp [hsz]) (by simp [hsz]) (st3 hR.2.2 (froz_alloc_l _ m2 hfz)) (fun h => by cases h) ?_
  exact AnyK.done (by kernel_rfl) (hK _)

noncomputable def ops19 : Array Oper := (Try.f61.body.bind (regionOf 19)).getD #[]
set_option maxHeartbeats 1000000 in
theorem region19 {F : Fence} {n : Nat} (hF : WideF F Try.prog) {Q : Exit → Act → World → Prop} {a : Act} {w : World} {bk kb g N c to : Nat} {e : Int} (hsz : a.tmps.size = 159)
    (t3 : a.eval (.tmp 3) = .pointer (some ⟨bk, 0, none⟩))
    (m0 : w.cell? ⟨bk, 0, none⟩ = some (.pointer (some ⟨kb, 0, none⟩))) (m1 : w.cell? ⟨kb, 4, none⟩ = some (.slice (some ⟨g, 0, none⟩) N c)) (m2 : w.cell? ⟨g, to, none⟩ = some (.int .i64 e)) (hto : to < N) (hfz : w.frozen? ⟨g, to, none⟩ = false) (hc : Calls Try.prog 55 #[.pointer (some ⟨kb, 0, none⟩)] w.drew fun e w' => e = .returned (.int .i64 to) ∧ w.drew = w')
    (hK : Q .normal (((((((a.put (some 102) (.pointer (some ⟨kb, 0, none⟩))).put (some 103) (.pointer (some ⟨kb, 0, none⟩))).put (some 104) (.pointer (some ⟨kb, 4, none⟩))).put (some 105) (.slice (some ⟨g, 0, none⟩) N c)).put (some 106) (.pointer (some ⟨kb, 0, none⟩))).put (some 107) (.int .i64 to)).put (some 108) (.pointer (some ⟨g, to, none⟩))) (w.drew.setCell ⟨g, to, none⟩ (.int .i64 101))) :
    (Code.region 19 ops19 true).wpIn F n Try.prog Q a w := by
  have hR : (fun w : World => w.cell? ⟨bk, 0, none⟩ = some (.pointer (some ⟨kb, 0, none⟩)) ∧ w.cell? ⟨kb, 4, none⟩ = some (.slice (some ⟨g, 0, none⟩) N c)) w.drew := ⟨m0, m1⟩
  refine region_K (KpR (fun w => w.cell? ⟨bk, 0, none⟩ = some (.pointer (some ⟨kb, 0, none⟩)) ∧ w.cell? ⟨kb, 4, none⟩ = some (.slice (some ⟨g, 0, none⟩) N c)) (fun j => j == 7)) hF (by kernel_rfl) Try.mixed ?_
  change AnyK _ _ _ _ 8 (Array.replicate 8 false) _ _
  refine AnyK.load (i := 0) may_o (p := ⟨bk, 0, none⟩) (v := .pointer (some ⟨kb, 0, none⟩)) (by simp [t3]) (fun w hw => ld89 hw.1) hR ?_
  refine AnyK.nilCheck (i := 1) may_o (p := ⟨kb, 0, none⟩) (by simp [hsz]) hR ?_
  refine AnyK.field (i := 2) may_o (u := .pointer (some ⟨kb, 0, none⟩)) (v := .pointer (some ⟨kb, 4, none⟩)) (by simp [hsz]) (fun w => fa114_2 w) hR ?_
  refine AnyK.load (i := 3) may_o (p := ⟨kb, 4, none⟩) (v := .slice (some ⟨g, 0, none⟩) N c) (by simp [hsz]) (fun w hw => ld25 hw.2) hR ?_
  refine AnyK.load (i := 4) may_o (p := ⟨bk, 0, none⟩) (v := .pointer (some ⟨kb, 0, none⟩)) (by simp [t3]) (fun w hw => ld89 hw.1) hR ?_
  refine AnyK.call (i := 5) (vs := #[.pointer (some ⟨kb, 0, none⟩)]) rfl (by kernel_rfl) (enters_of Try.func55 (by kernel_rfl) rfl) (by simp [hsz]) (hc.mono ?_)
  rintro _ _ ⟨rfl, rfl⟩
  refine ⟨_, rfl, (fun _ h => h), ?_⟩
  refine AnyK.index (i := 6) may_o (u := .slice (some ⟨g, 0, none⟩) N c) (u' := .int .i64 to) (v := .pointer (some ⟨g, to, none⟩)) (by simp [hsz]) (by simp [hsz]) (fun w => ix25 hto w) hR ?_
  refine AnyK.store (i := 7) (u := .pointer (some ⟨g, to, none⟩)) (u' := .int .i64 (101)) rfl (by kernel_rfl) (by simp [hsz]) (by simp) (st3 m2 hfz) (fun h => by cases h) ?_
  exact AnyK.done (by kernel_rfl) hK

noncomputable def ops26 : Array Oper := (Try.f61.body.bind (regionOf 26)).getD #[]
set_option maxHeartbeats 1000000 in
theorem region26 {F : Fence} {n : Nat} (hF : WideF F Try.prog) {Q : Exit → Act → World → Prop} {a : Act} {w : World} {bk kb bd bx g N c d k : Nat} {e hi : Int} (hsz : a.tmps.size = 159)
    (t3 : a.eval (.tmp 3) = .pointer (some ⟨bk, 0, none⟩)) (t9 : a.eval (.tmp 9) = .pointer (some ⟨bd, 0, none⟩)) (t10 : a.eval (.tmp 10) = .int .i64 k) (t11 : a.eval (.tmp 11) = .pointer (some ⟨bx, 0, none⟩))
    (m0 : w.cell? ⟨bk, 0, none⟩ = some (.pointer (some ⟨kb, 0, none⟩))) (m1 : w.cell? ⟨kb, 4, none⟩ = some (.slice (some ⟨g, 0, none⟩) N c)) (m2 : w.cell? ⟨bd, 0, none⟩ = some (.int .i64 d)) (m3 : w.cell? ⟨g, (d ||| 2 ^ k), none⟩ = some (.int .i64 e)) (m4 : w.cell? ⟨bx, 4, none⟩ = some (.int .i64 hi)) (hd : d < 65536) (hk : k < 16) (hto : d ||| 2 ^ k < N)
    (hK : Q .normal ((((((((((((((((a.put (some 121) (.pointer (some ⟨kb, 0, none⟩))).put (some 122) (.pointer (some ⟨kb, 0, none⟩))).put (some 123) (.pointer (some ⟨kb, 4, none⟩))).put (some 124) (.slice (some ⟨g, 0, none⟩) N c)).put (some 125) (.int .i64 d)).put (some 126) (.int .i64 k)).put (some 127) (.int .i64 ((2 ^ k : Nat) : Int))).put (some 128) (.int .i64 ((d ||| 2 ^ k : Nat) : Int))).put (some 129) (.pointer (some ⟨g, (d ||| 2 ^ k), none⟩))).put (some 130) (.int .i64 e)).put (some 131) (.pointer (some ⟨bx, 3, none⟩))).put (some 132) (.pointer (some ⟨bx, 4, none⟩))).put (some 133) (.int .i64 hi)).put (some 134) (.slice (some ⟨w.heap.size, 0, none⟩) 2 2)).put (some 135) (.int .i64 (min e hi))).put (some 12) (.int .i64 (min e hi))) (w.drew.alloc (.cells #[.int .i64 e, .int .i64 hi] 3))) :
    (Code.region 26 ops26 true).wpIn F n Try.prog Q a w := by
  have hR : (fun w : World => w.cell? ⟨bk, 0, none⟩ = some (.pointer (some ⟨kb, 0, none⟩)) ∧ w.cell? ⟨kb, 4, none⟩ = some (.slice (some ⟨g, 0, none⟩) N c) ∧ w.cell? ⟨bd, 0, none⟩ = some (.int .i64 d) ∧ w.cell? ⟨g, (d ||| 2 ^ k), none⟩ = some (.int .i64 e) ∧ w.cell? ⟨bx, 4, none⟩ = some (.int .i64 hi)) w.drew := ⟨m0, m1, m2, m3, m4⟩
  refine region_K (KpR (fun w => w.cell? ⟨bk, 0, none⟩ = some (.pointer (some ⟨kb, 0, none⟩)) ∧ w.cell? ⟨kb, 4, none⟩ = some (.slice (some ⟨g, 0, none⟩) N c) ∧ w.cell? ⟨bd, 0, none⟩ = some (.int .i64 d) ∧ w.cell? ⟨g, (d ||| 2 ^ k), none⟩ = some (.int .i64 e) ∧ w.cell? ⟨bx, 4, none⟩ = some (.int .i64 hi)) (fun _ => false)) hF (by kernel_rfl) Try.mixed ?_
  change AnyK _ _ _ _ 16 (Array.replicate 16 false) _ _
  refine AnyK.load (i := 0) may_o (p := ⟨bk, 0, none⟩) (v := .pointer (some ⟨kb, 0, none⟩)) (by simp [t3]) (fun w hw => ld89 hw.1) hR ?_
  refine AnyK.nilCheck (i := 1) may_o (p := ⟨kb, 0, none⟩) (by simp [hsz]) hR ?_
  refine AnyK.field (i := 2) may_o (u := .pointer (some ⟨kb, 0, none⟩)) (v := .pointer (some ⟨kb, 4, none⟩)) (by simp [hsz]) (fun w => fa114_2 w) hR ?_
  refine AnyK.load (i := 3) may_o (p := ⟨kb, 4, none⟩) (v := .slice (some ⟨g, 0, none⟩) N c) (by simp [hsz]) (fun w hw => ld25 hw.2.1) hR ?_
  refine AnyK.load (i := 4) may_o (p := ⟨bd, 0, none⟩) (v := .int .i64 d) (by simp [t9]) (fun w hw => ld94 hw.2.2.1) hR ?_
  refine AnyK.move (i := 5) may_o (v := .int .i64 k) (by simp [t10]) hR ?_
  refine AnyK.bin (i := 6) may_o (u := .int .i64 (1)) (u' := .int .i64 k) (v := .int .i64 ((2 ^ k : Nat) : Int)) (by simp) (by simp [hsz]) (fun w => sh94 hk w) hR ?_
  refine AnyK.bin (i := 7) may_o (u := .int .i64 d) (u' := .int .i64 ((2 ^ k : Nat) : Int)) (v := .int .i64 ((d ||| 2 ^ k : Nat) : Int)) (by simp [hsz]) (by simp [hsz]) (fun w => or94 hd (by have := Nat.pow_lt_pow_right (a := 2) (by omega) hk; omega) w) hR ?_
  refine AnyK.index (i := 8) may_o (u := .slice (some ⟨g, 0, none⟩) N c) (u' := .int .i64 ((d ||| 2 ^ k : Nat) : Int)) (v := .pointer (some ⟨g, (d ||| 2 ^ k), none⟩)) (by simp [hsz]) (by simp [hsz]) (fun w => ix25 hto w) hR ?_
  refine AnyK.load (i := 9) may_o (p := ⟨g, (d ||| 2 ^ k), none⟩) (v := .int .i64 e) (by simp [hsz]) (fun w hw => ld3 hw.2.2.2.1) hR ?_
  refine AnyK.field (i := 10) may_o (u := .pointer (some ⟨bx, 0, none⟩)) (v := .pointer (some ⟨bx, 3, none⟩)) (by simp [t11]) (fun w => fa61_3 w) hR ?_
  refine AnyK.field (i := 11) may_o (u := .pointer (some ⟨bx, 3, none⟩)) (v := .pointer (some ⟨bx, 4, none⟩)) (by simp [hsz]) (fun w => fa46_1 w) hR ?_
  refine AnyK.load (i := 12) may_o (p := ⟨bx, 4, none⟩) (v := .int .i64 hi) (by simp [hsz]) (fun w hw => ld3 hw.2.2.2.2) hR ?_
  refine AnyK.build (i := 13) (ps := #[(0, .int .i64 e), (1, .int .i64 hi)]) rfl (by kernel_rfl) (by simp [hsz]) (bs25_2 _ _ _) (fun _ hw => ⟨cell_alloc_l _ hw.1, cell_alloc_l _ hw.2.1, cell_alloc_l _ hw.2.2.1, cell_alloc_l _ hw.2.2.2.1, cell_alloc_l _ hw.2.2.2.2⟩) ?_
  refine AnyK.call (i := 14) (vs := #[.slice (some ⟨w.heap.size, 0, none⟩) 2 2]) rfl (by kernel_rfl) (enters_of Try.func65 (by kernel_rfl) rfl) (by simp [hsz]) ((least_two _ 0 2 e hi _ (cell_new2 _ _ _ _).1 (cell_new2 _ _ _ _).2).mono ?_)
  rintro _ _ ⟨rfl, rfl⟩
  refine ⟨_, rfl, (fun _ h => h), ?_⟩
  replace hR : (fun w : World => w.cell? ⟨bk, 0, none⟩ = some (.pointer (some ⟨kb, 0, none⟩)) ∧ w.cell? ⟨kb, 4, none⟩ = some (.slice (some ⟨g, 0, none⟩) N c) ∧ w.cell? ⟨bd, 0, none⟩ = some (.int .i64 d) ∧ w.cell? ⟨g, (d ||| 2 ^ k), none⟩ = some (.int .i64 e) ∧ w.cell? ⟨bx, 4, none⟩ = some (.int .i64 hi)) (w.drew.alloc (.cells #[.int .i64 e, .int .i64 hi] 3)) := ⟨cell_alloc_l _ hR.1, cell_alloc_l _ hR.2.1, cell_alloc_l _ hR.2.2.1, cell_alloc_l _ hR.2.2.2.1, cell_alloc_l _ hR.2.2.2.2⟩
  refine AnyK.assign (i := 15) may_o (v := .int .i64 (min e hi)) (by simp [hsz]) hR ?_
  exact AnyK.done (by kernel_rfl) hK

noncomputable def ops28 : Array Oper := (Try.f61.body.bind (regionOf 28)).getD #[]
set_option maxHeartbeats 1000000 in
theorem region28 {F : Fence} {n : Nat} (hF : WideF F Try.prog) {Q : Exit → Act → World → Prop} {a : Act} {w : World} {bk kb bd g N c d : Nat} {e on : Int} (hsz : a.tmps.size = 159)
    (t3 : a.eval (.tmp 3) = .pointer (some ⟨bk, 0, none⟩)) (t9 : a.eval (.tmp 9) = .pointer (some ⟨bd, 0, none⟩)) (t12 : a.eval (.tmp 12) = .int .i64 on)
    (m0 : w.cell? ⟨bk, 0, none⟩ = some (.pointer (some ⟨kb, 0, none⟩))) (m1 : w.cell? ⟨kb, 4, none⟩ = some (.slice (some ⟨g, 0, none⟩) N c)) (m2 : w.cell? ⟨bd, 0, none⟩ = some (.int .i64 d)) (m3 : w.cell? ⟨g, d, none⟩ = some (.int .i64 e)) (hd : d < N) (hfz : w.frozen? ⟨g, d, none⟩ = false)
    (hK : ∀ a', Q .normal a' ((w.drew.alloc (.cells #[.int .i64 e, .int .i64 on] 3)).setCell ⟨g, d, none⟩ (.int .i64 (max e on)))) :
    (Code.region 28 ops28 true).wpIn F n Try.prog Q a w := by
  have hR : (fun w : World => w.cell? ⟨bk, 0, none⟩ = some (.pointer (some ⟨kb, 0, none⟩)) ∧ w.cell? ⟨kb, 4, none⟩ = some (.slice (some ⟨g, 0, none⟩) N c) ∧ w.cell? ⟨bd, 0, none⟩ = some (.int .i64 d) ∧ w.cell? ⟨g, d, none⟩ = some (.int .i64 e)) w.drew := ⟨m0, m1, m2, m3⟩
  refine region_K (KpR (fun w => w.cell? ⟨bk, 0, none⟩ = some (.pointer (some ⟨kb, 0, none⟩)) ∧ w.cell? ⟨kb, 4, none⟩ = some (.slice (some ⟨g, 0, none⟩) N c) ∧ w.cell? ⟨bd, 0, none⟩ = some (.int .i64 d) ∧ w.cell? ⟨g, d, none⟩ = some (.int .i64 e)) (fun j => j == 16)) hF (by kernel_rfl) Try.mixed ?_
  change AnyK _ _ _ _ 17 (Array.replicate 17 false) _ _
  refine AnyK.load (i := 0) may_o (p := ⟨bk, 0, none⟩) (v := .pointer (some ⟨kb, 0, none⟩)) (by simp [t3]) (fun w hw => ld89 hw.1) hR ?_
  refine AnyK.nilCheck (i := 1) may_o (p := ⟨kb, 0, none⟩) (by simp [hsz]) hR ?_
  refine AnyK.field (i := 2) may_o (u := .pointer (some ⟨kb, 0, none⟩)) (v := .pointer (some ⟨kb, 4, none⟩)) (by simp [hsz]) (fun w => fa114_2 w) hR ?_
  refine AnyK.load (i := 3) may_o (p := ⟨kb, 4, none⟩) (v := .slice (some ⟨g, 0, none⟩) N c) (by simp [hsz]) (fun w hw => ld25 hw.2.1) hR ?_
  refine AnyK.load (i := 4) may_o (p := ⟨bd, 0, none⟩) (v := .int .i64 d) (by simp [t9]) (fun w hw => ld94 hw.2.2.1) hR ?_
  refine AnyK.load (i := 5) may_o (p := ⟨bk, 0, none⟩) (v := .pointer (some ⟨kb, 0, none⟩)) (by simp [t3]) (fun w hw => ld89 hw.1) hR ?_
  refine AnyK.nilCheck (i := 6) may_o (p := ⟨kb, 0, none⟩) (by simp [hsz]) hR ?_
  refine AnyK.field (i := 7) may_o (u := .pointer (some ⟨kb, 0, none⟩)) (v := .pointer (some ⟨kb, 4, none⟩)) (by simp [hsz]) (fun w => fa114_2 w) hR ?_
  refine AnyK.load (i := 8) may_o (p := ⟨kb, 4, none⟩) (v := .slice (some ⟨g, 0, none⟩) N c) (by simp [hsz]) (fun w hw => ld25 hw.2.1) hR ?_
  refine AnyK.load (i := 9) may_o (p := ⟨bd, 0, none⟩) (v := .int .i64 d) (by simp [t9]) (fun w hw => ld94 hw.2.2.1) hR ?_
  refine AnyK.index (i := 10) may_o (u := .slice (some ⟨g, 0, none⟩) N c) (u' := .int .i64 d) (v := .pointer (some ⟨g, d, none⟩)) (by simp [hsz]) (by simp [hsz]) (fun w => ix25 hd w) hR ?_
  refine AnyK.load (i := 11) may_o (p := ⟨g, d, none⟩) (v := .int .i64 e) (by simp [hsz]) (fun w hw => ld3 hw.2.2.2) hR ?_
  refine AnyK.move (i := 12) may_o (v := .int .i64 on) (by simp [t12]) hR ?_
  refine AnyK.build (i := 13) (ps := #[(0, .int .i64 e), (1, .int .i64 on)]) rfl (by kernel_rfl) (by simp [hsz]) (bs25_2 _ _ _) (fun _ hw => ⟨cell_alloc_l _ hw.1, cell_alloc_l _ hw.2.1, cell_alloc_l _ hw.2.2.1, cell_alloc_l _ hw.2.2.2⟩) ?_
  refine AnyK.call (i := 14) (vs := #[.slice (some ⟨w.heap.size, 0, none⟩) 2 2]) rfl (by kernel_rfl) (enters_of Try.func57 (by kernel_rfl) rfl) (by simp [hsz]) ((greatest_two _ 0 2 e on _ (cell_new2 _ _ _ _).1 (cell_new2 _ _ _ _).2).mono ?_)
  rintro _ _ ⟨rfl, rfl⟩
  refine ⟨_, rfl, (fun _ h => h), ?_⟩
  replace hR : (fun w : World => w.cell? ⟨bk, 0, none⟩ = some (.pointer (some ⟨kb, 0, none⟩)) ∧ w.cell? ⟨kb, 4, none⟩ = some (.slice (some ⟨g, 0, none⟩) N c) ∧ w.cell? ⟨bd, 0, none⟩ = some (.int .i64 d) ∧ w.cell? ⟨g, d, none⟩ = some (.int .i64 e)) (w.drew.alloc (.cells #[.int .i64 e, .int .i64 on] 3)) := ⟨cell_alloc_l _ hR.1, cell_alloc_l _ hR.2.1, cell_alloc_l _ hR.2.2.1, cell_alloc_l _ hR.2.2.2⟩
  refine AnyK.index (i := 15) may_o (u := .slice (some ⟨g, 0, none⟩) N c) (u' := .int .i64 d) (v := .pointer (some ⟨g, d, none⟩)) (by simp [hsz]) (by simp [hsz]) (fun w => ix25 hd w) hR ?_
  refine AnyK.store (i := 16) (u := .pointer (some ⟨g, d, none⟩)) (u' := .int .i64 (max e on)) rfl (by kernel_rfl) (by simp [hsz]) (by simp [hsz]) (st3 hR.2.2.2 (froz_alloc_l _ m3 hfz)) (fun h => by cases h) ?_
  exact AnyK.done (by kernel_rfl) (hK _)
end Go.Proofs.Ytfcnombmphophaa
namespace Go.Proofs.Ytfcnombmphophaa
open Go.RowKit Go.Shelf

theorem Try.info3 : (Try.prog.info? 3).map (fun i => (i.zero, i.size, i.bytes)) = some (some (.int .i64 0), 1, 8) := by kernel_rfl
theorem news1 {w : World} {b : Nat} {v : Value} (h : w.cell? ⟨b, 0, none⟩ = some v) : ∀ j u, [v][j]? = some u → w.cell? ((⟨b, 0, none⟩ : Addr).add j) = some u := by
  intro j u hu
  cases j with
  | zero => simp at hu; subst hu; exact h
  | succ j => simp at hu
theorem cell_set_far {w : World} {p q : Addr} (h : p.block ≠ q.block) (u : Value) : (w.setCell q u).cell? p = w.cell? p := World.cell?_of_block (Below.heap_setCell w q u p.block h)

theorem grown_set (W : World) (p : Addr) (u : Value) : W.grownBy (W.setCell p u) (some p.block) :=
  ⟨rfl, rfl, rfl, by simp [World.setCell], fun k _ hne => Below.heap_setCell W p u k (fun e => hne (by rw [e]))⟩

/-- The memory of a book that is being made: the variable at block h + 2, the book at block h + 1; two lists that are owned. -/
structure BM (w : World) (h : Nat) (o t : Int) (A : Option Addr) (n c : Nat) (ve vl : Value) (je jl : Nat) (xe xl : List Value) (ce cl : Value) (W : World) : Prop where
  kv : Whole W (h + 2) 89 #[.pointer (some ⟨h + 1, 0, none⟩)]
  kb : Whole W (h + 1) 114 #[.int .i64 o, .int .i64 t, .slice A n c, ce, cl]
  low : Below h w W
  oe : W.ownsRow (h + 3) 3 1 ve je xe
  ol : W.ownsRow (h + 3) 3 1 vl jl xl
  ne : ve.ownBlock = none ∨ ve.ownBlock ≠ vl.ownBlock
section
variable {w : World} {h : Nat} {o t : Int} {A : Option Addr} {n c : Nat} {ve vl : Value} {je jl : Nat} {xe xl : List Value} {ce cl : Value} {W W' : World}
theorem BM.base (b : BM w h o t A n c ve vl je jl xe xl ce cl W) : h + 3 ≤ W.heap.size := b.kv.lt
theorem BM.ne' (b : BM w h o t A n c ve vl je jl xe xl ce cl W) : vl.ownBlock = none ∨ vl.ownBlock ≠ ve.ownBlock := by
  rcases b.ne with h | h
  · cases hvl : vl.ownBlock with
    | none => exact .inl rfl
    | some g => exact .inr (by rw [h]; simp)
  · exact .inr (Ne.symm h)
theorem BM.far_e (b : BM w h o t A n c ve vl je jl xe xl ce cl W) {g : Nat} (hg : g < h + 3) : some g ≠ ve.ownBlock := fun e => by have := (b.oe.lt g e.symm).1; omega
theorem BM.far_l (b : BM w h o t A n c ve vl je jl xe xl ce cl W) {g : Nat} (hg : g < h + 3) : some g ≠ vl.ownBlock := fun e => by have := (b.ol.lt g e.symm).1; omega
theorem BM.alloc (b : BM w h o t A n c ve vl je jl xe xl ce cl W) (x : Obj) : BM w h o t A n c ve vl je jl xe xl ce cl (W.alloc x) :=
  ⟨b.kv.alloc x, b.kb.alloc x, b.low.alloc (by have := b.base; omega) x, b.oe.alloc x, b.ol.alloc x, b.ne⟩
theorem BM.drew (b : BM w h o t A n c ve vl je jl xe xl ce cl W) : BM w h o t A n c ve vl je jl xe xl ce cl W.drew := ⟨b.kv, b.kb, b.low.drew, b.oe, b.ol, b.ne⟩
theorem BM.appE (b : BM w h o t A n c ve vl je jl xe xl ce cl W) {g cap m : Nat} {ys : List Value} (hown : W'.ownsRow (h + 3) 3 1 (.slice (some ⟨g, 0, none⟩) m cap) m ys) (hgr : W.grownBy W' ve.ownBlock) (hat : ve.ownBlock = some g ∨ g = W.heap.size) :
    BM w h o t A n c (.slice (some ⟨g, 0, none⟩) m cap) vl m jl ys xl ce cl W' := by
  refine ⟨(hgr.block _ b.kv.lt (b.far_e (by omega))).trans b.kv, (hgr.block _ b.kb.lt (b.far_e (by omega))).trans b.kb, b.low.grown hgr (by have := b.base; omega) (fun k e => by have := (b.oe.lt k e).1; omega), hown, b.ol.kept hgr b.ne', .inr ?_⟩
  intro e
  have e' : vl.ownBlock = some g := by rw [← e]; rfl
  rcases hat with hat | hat
  · rcases b.ne with h1 | h1
    · rw [h1] at hat; cases hat
    · exact h1 (hat.trans e'.symm)
  · have := (b.ol.lt g e').2
    omega
theorem BM.appL (b : BM w h o t A n c ve vl je jl xe xl ce cl W) {g cap m : Nat} {ys : List Value} (hown : W'.ownsRow (h + 3) 3 1 (.slice (some ⟨g, 0, none⟩) m cap) m ys) (hgr : W.grownBy W' vl.ownBlock) (hat : vl.ownBlock = some g ∨ g = W.heap.size) :
    BM w h o t A n c ve (.slice (some ⟨g, 0, none⟩) m cap) je m xe ys ce cl W' := by
  refine ⟨(hgr.block _ b.kv.lt (b.far_l (by omega))).trans b.kv, (hgr.block _ b.kb.lt (b.far_l (by omega))).trans b.kb, b.low.grown hgr (by have := b.base; omega) (fun k e => by have := (b.ol.lt k e).1; omega), b.oe.kept hgr b.ne, hown, ?_⟩
  by_cases hv : ve.ownBlock = none
  · exact .inl hv
  · refine .inr fun e => ?_
    have e' : ve.ownBlock = some g := e
    rcases hat with hat | hat
    · rcases b.ne with h1 | h1
      · exact hv h1
      · exact h1 (e'.trans hat.symm)
    · have := (b.oe.lt g e').2
      omega
theorem BM.storeE (b : BM w h o t A n c ve vl je jl xe xl ce cl W) (u : Value) : BM w h o t A n c ve vl je jl xe xl u cl (W.setCell ⟨h + 1, 3, none⟩ u) :=
  ⟨b.kv.far (by simp) u, b.kb.set 3 u, b.low.setCell (p := ⟨h + 1, 3, none⟩) (by simp) u, b.oe.kept (grown_set W _ u) (.inr (fun e => b.far_e (g := h + 1) (by omega) e.symm)), b.ol.kept (grown_set W _ u) (.inr (fun e => b.far_l (g := h + 1) (by omega) e.symm)), b.ne⟩
theorem BM.storeL (b : BM w h o t A n c ve vl je jl xe xl ce cl W) (u : Value) : BM w h o t A n c ve vl je jl xe xl ce u (W.setCell ⟨h + 1, 4, none⟩ u) :=
  ⟨b.kv.far (by simp) u, b.kb.set 4 u, b.low.setCell (p := ⟨h + 1, 4, none⟩) (by simp) u, b.oe.kept (grown_set W _ u) (.inr (fun e => b.far_e (g := h + 1) (by omega) e.symm)), b.ol.kept (grown_set W _ u) (.inr (fun e => b.far_l (g := h + 1) (by omega) e.symm)), b.ne⟩
end

section
variable {P : Program} {ops : Array Oper} {K : Act → World → Prop} {Kp : Nat → World → World → Prop} {fuel : Nat} {listed : Array Bool} {a : Act} {w : World} {i j d : Nat} {ty : TypeId} {pos : String} {aft : Array Edge}
/-- One operation comes up. -/
def StepK (P : Program) (ops : Array Oper) (K : Act → World → Prop) (Kp : Nat → World → World → Prop) (fuel : Nat) (listed : Array Bool) (a : Act) (w : World) (i : Nat) : Prop :=
  opG P ops (onlyN K) i (fun a' w' => Kp i w w' ∧ AnyK P ops K Kp fuel (listed.setIfInBounds i true) a' w') a w
theorem AnyK.pick1 (hr : Region.ready .any ops listed = [i]) (h : StepK P ops K Kp fuel listed a w i) : AnyK P ops K Kp (fuel + 1) listed a w :=
  ⟨fun h0 => (by rw [hr] at h0; cases h0), by
    rw [hr]
    intro k hk
    obtain rfl : k = i := by simpa using hk
    exact h⟩
theorem AnyK.pick2 (hr : Region.ready .any ops listed = [i, j]) (h1 : StepK P ops K Kp fuel listed a w i) (h2 : StepK P ops K Kp fuel listed a w j) : AnyK P ops K Kp (fuel + 1) listed a w :=
  ⟨fun h0 => (by rw [hr] at h0; cases h0), by
    rw [hr]
    intro k hk
    rcases List.mem_cons.1 hk with rfl | hk
    · exact h1
    · obtain rfl : k = j := by simpa using hk
      exact h2⟩
theorem StepK.build {t : TypeId} {n : Nat} {parts : Array (Nat × Operand)} {ps : Array (Nat × Value)} {v : Value} {w' : World} (hi : ops[i]? = some ⟨some d, .buildSlice t n parts, ty, pos, aft, none⟩)
    (hp : parts.map (fun (i, x) => (i, a.eval x)) = ps) (hv : (Instr.buildSlice t n ps).run P w = .ok v w') (hk : Kp i w w')
    (h : AnyK P ops K Kp fuel (listed.setIfInBounds i true) (a.put (some d) v) w') : StepK P ops K Kp fuel listed a w i := by
  unfold StepK opG
  simp only [hi]
  rw [if_pos (show Region.wanted _ _ = true from rfl)]
  simp only [Oper.wp, execOp, hp]; simp [hv, Oper.upon]; exact ⟨hk, h⟩
theorem StepK.append {s x : Operand} (hi : ops[i]? = some ⟨some d, .call { callee := .builtin .append, args := #[s, x], argTypes := #[25, 25] }, ty, pos, aft, none⟩)
    {base n : Nat} {v : Value} {xs : List Value} (hown : w.ownsRow base 3 1 v n xs) (hs : a.eval s = v) (ad : Addr) (c : Nat) (news : List Value) (hx : a.eval x = .slice (some ad) 1 c) (hl : news.length = 1)
    (hnews : ∀ j u, news[j]? = some u → w.cell? (ad.add j) = some u) (h1 : ∀ u ∈ news, u.oneCell' = true) (h63 : n + 1 ≤ maxLen) (hbytes : (n + 1) * 8 ≤ 140737488355328) (hbase : base ≤ w.heap.size)
    (h : ∀ g cap w', w'.ownsRow base 3 1 (.slice (some ⟨g, 0, none⟩) (n + 1) cap) (n + 1) (xs ++ news) → w.grownBy w' v.ownBlock → (v.ownBlock = some g ∨ g = w.heap.size) → Kp i w w' ∧ AnyK Try.prog ops K Kp fuel (listed.setIfInBounds i true) (a.put (some d) (.slice (some ⟨g, 0, none⟩) (n + 1) cap)) w') :
    StepK Try.prog ops K Kp fuel listed a w i := by
  obtain ⟨i0, hi0, hi1, hi2, hi3⟩ := info_parts Try.info3
  unfold StepK opG
  simp only [hi]
  rw [if_pos (show Region.wanted _ _ = true from rfl)]
  exact wp_append_lies _ s x 25 rfl base 3 i0 (.int .i64 0) 1 8 Try.underlying25 hi0 hi1 hi2 hi3 rfl (by omega) v n xs hs hown ad 1 c news hx (by simpa using hl) hnews h1 (by omega) h63 hbytes hbase w.heap.size rfl (fun g cap w' a b c _ => h g cap w' a b c)
end

theorem defers_put {a : Act} {d : Option Tmp} {v : Value} : (a.put d v).defers = a.defers := by cases d <;> rfl
/-- What the operations of region 4 keep. -/
abbrev Kp4 (h : Nat) (ve vl : Value) : Nat → World → World → Prop := fun j w w' =>
  (w.cell? ⟨h + 2, 0, none⟩ = some (.pointer (some ⟨h + 1, 0, none⟩)) → w'.cell? ⟨h + 2, 0, none⟩ = some (.pointer (some ⟨h + 1, 0, none⟩))) ∧
  ((j == 16 || j == 19) = false → (w.cell? ⟨h + 1, 3, none⟩ = some ve ∧ w.cell? ⟨h + 1, 4, none⟩ = some vl) → (w'.cell? ⟨h + 1, 3, none⟩ = some ve ∧ w'.cell? ⟨h + 1, 4, none⟩ = some vl))
theorem may_0 {ops : Array Oper} {listed : Array Bool} {h : Nat} {ve vl : Value} {i : Nat} {oi : Oper} (h1 : ops[i]? = some oi) (h2 : Region.noSelect ops = true) (h3 : (Region.ready .any ops listed).contains i = true) (h4 : looseB .any ops (fun _ => false) i oi = true) :
    May ops (Kp4 h ve vl) listed (fun w => w.cell? ⟨h + 2, 0, none⟩ = some (.pointer (some ⟨h + 1, 0, none⟩))) (fun _ => false) i oi := ⟨h1, h2, h3, h4, fun _ _ _ _ hk hR => hk.1 hR, fun _ => ⟨fun h => h, fun _ h => h⟩⟩
theorem may_1 {ops : Array Oper} {listed : Array Bool} {h : Nat} {ve vl : Value} {i : Nat} {oi : Oper} (h1 : ops[i]? = some oi) (h2 : Region.noSelect ops = true) (h3 : (Region.ready .any ops listed).contains i = true) (h4 : looseB .any ops (fun j => j == 16 || j == 19) i oi = true) :
    May ops (Kp4 h ve vl) listed (fun w => w.cell? ⟨h + 1, 3, none⟩ = some ve ∧ w.cell? ⟨h + 1, 4, none⟩ = some vl) (fun j => j == 16 || j == 19) i oi := ⟨h1, h2, h3, h4, fun _ _ _ hT hk hR => hk.2 hT hR, fun _ => ⟨fun h => h, fun _ h => h⟩⟩
noncomputable def ops4 : Array Oper := (Try.f61.body.bind (regionOf 4)).getD #[]
set_option maxRecDepth 100000 in
set_option maxHeartbeats 4000000 in
theorem region4 {F : Fence} {n : Nat} (hF : WideF F Try.prog) {Q : Exit → Act → World → Prop} {a : Act} {w W : World} {h nn c j : Nat} {o t : Int} {A : Option Addr} {ve vl : Value} {xe xl : List Value} (hsz : a.tmps.size = 159)
    (t3 : a.eval (.tmp 3) = .pointer (some ⟨h + 2, 0, none⟩)) (hb : BM w h o t A nn c ve vl j j xe xl ve vl W) (hj : j < 1000)
    (hK : ∀ (a' : Act) (ve' vl' : Value) (W' : World), BM w h o t A nn c ve' vl' (j + 1) (j + 1) (xe ++ [.int .i64 101]) (xl ++ [.int .i64 (-1)]) ve' vl' W' → a'.tmps.size = 159 → a'.defers = a.defers → (∀ e : Nat, e < 21 ∨ 39 ≤ e → a'.eval (.tmp e) = a.eval (.tmp e)) → Q .normal a' W') :
    (Code.region 4 ops4 true).wpIn F n Try.prog Q a W := by
  replace hb := hb.drew
  have hR0 : (fun w : World => w.cell? ⟨h + 2, 0, none⟩ = some (.pointer (some ⟨h + 1, 0, none⟩))) W.drew := hb.kv.cell 0
  have hR1 : (fun w : World => w.cell? ⟨h + 1, 3, none⟩ = some ve ∧ w.cell? ⟨h + 1, 4, none⟩ = some vl) W.drew := ⟨hb.kb.cell 3, hb.kb.cell 4⟩
  refine region_K (Kp4 h ve vl) hF (by kernel_rfl) Try.mixed ?_
  change AnyK _ _ _ _ 20 (Array.replicate 20 false) _ _
  refine AnyK.load (i := 0) (may_0 rfl (by kernel_rfl) (by kernel_rfl) (by kernel_rfl)) (p := ⟨(h + 2), 0, none⟩) (v := .pointer (some ⟨(h + 1), 0, none⟩)) (by simp [t3]) (fun w hw => ld89 hw) hR0 ?_
  refine AnyK.load (i := 1) (may_0 rfl (by kernel_rfl) (by kernel_rfl) (by kernel_rfl)) (p := ⟨(h + 2), 0, none⟩) (v := .pointer (some ⟨(h + 1), 0, none⟩)) (by simp [t3]) (fun w hw => ld89 hw) hR0 ?_
  refine AnyK.load (i := 2) (may_0 rfl (by kernel_rfl) (by kernel_rfl) (by kernel_rfl)) (p := ⟨(h + 2), 0, none⟩) (v := .pointer (some ⟨(h + 1), 0, none⟩)) (by simp [t3]) (fun w hw => ld89 hw) hR0 ?_
  refine AnyK.nilCheck (i := 3) (may_0 rfl (by kernel_rfl) (by kernel_rfl) (by kernel_rfl)) (p := ⟨(h + 1), 0, none⟩) (by simp [hsz]) hR0 ?_
  refine AnyK.field (i := 4) (may_0 rfl (by kernel_rfl) (by kernel_rfl) (by kernel_rfl)) (u := .pointer (some ⟨(h + 1), 0, none⟩)) (v := .pointer (some ⟨(h + 1), 3, none⟩)) (by simp [hsz]) (fun w => fa114_1 w) hR0 ?_
  refine AnyK.load (i := 5) (may_1 rfl (by kernel_rfl) (by kernel_rfl) (by kernel_rfl)) (p := ⟨(h + 1), 3, none⟩) (v := ve) (by simp [hsz]) (fun w hw => ld25 hw.1) hR1 ?_
  refine AnyK.load (i := 8) (may_0 rfl (by kernel_rfl) (by kernel_rfl) (by kernel_rfl)) (p := ⟨(h + 2), 0, none⟩) (v := .pointer (some ⟨(h + 1), 0, none⟩)) (by simp [t3]) (fun w hw => ld89 hw) hR0 ?_
  refine AnyK.nilCheck (i := 9) (may_0 rfl (by kernel_rfl) (by kernel_rfl) (by kernel_rfl)) (p := ⟨(h + 1), 0, none⟩) (by simp [hsz]) hR0 ?_
  refine AnyK.field (i := 10) (may_0 rfl (by kernel_rfl) (by kernel_rfl) (by kernel_rfl)) (u := .pointer (some ⟨(h + 1), 0, none⟩)) (v := .pointer (some ⟨(h + 1), 4, none⟩)) (by simp [hsz]) (fun w => fa114_2 w) hR0 ?_
  refine AnyK.load (i := 11) (may_1 rfl (by kernel_rfl) (by kernel_rfl) (by kernel_rfl)) (p := ⟨(h + 1), 4, none⟩) (v := vl) (by simp [hsz]) (fun w hw => ld25 hw.2) hR1 ?_
  clear hR0 hR1
  generalize W.drew = W1 at *
  obtain ⟨W, rfl⟩ : ∃ W, W = W1 := ⟨_, rfl⟩
  refine AnyK.pick2 (i := 6) (j := 12) (by kernel_rfl) ?_ ?_
  · skip
    refine StepK.build (i := 6) (ps := #[(0, .int .i64 (101))]) rfl (by simp) (bs25_1 _ _) ⟨fun hw => cell_alloc_l _ hw, fun _ hw => ⟨cell_alloc_l _ hw.1, cell_alloc_l _ hw.2⟩⟩ ?_
    have n6 := cell_new1 W (.int .i64 (101)) 3
    replace hb := hb.alloc (.cells #[.int .i64 (101)] 3)
    generalize hp6 : W.heap.size = p6 at *
    generalize W.alloc (.cells #[.int .i64 (101)] 3) = W6 at *
    clear hp6 W
    obtain ⟨W, rfl⟩ : ∃ W, W = W6 := ⟨_, rfl⟩
    refine AnyK.pick2 (i := 7) (j := 12) (by kernel_rfl) ?_ ?_
    · skip
      refine StepK.append (i := 7) rfl hb.oe (by simp [hsz]) ⟨p6, 0, none⟩ 1 [.int .i64 (101)] (by simp [hsz]) rfl (news1 n6) (by simp [Value.oneCell']) (by unfold maxLen; omega) (by omega) hb.base ?_
      intro ge ce W2 hown hgr hat
      refine ⟨⟨fun hw => hgr.cell hw (hb.far_e (by simp)), fun _ hw => ⟨hgr.cell hw.1 (hb.far_e (by simp)), hgr.cell hw.2 (hb.far_e (by simp))⟩⟩, ?_⟩
      replace hb := hb.appE hown hgr hat
      clear n6 hown hgr hat W
      obtain ⟨W, rfl⟩ : ∃ W, W = W2 := ⟨_, rfl⟩
      refine AnyK.pick1 (i := 12) (by kernel_rfl) ?_
      refine StepK.build (i := 12) (ps := #[(0, .int .i64 (-1))]) rfl (by simp) (bs25_1 _ _) ⟨fun hw => cell_alloc_l _ hw, fun _ hw => ⟨cell_alloc_l _ hw.1, cell_alloc_l _ hw.2⟩⟩ ?_
      have n12 := cell_new1 W (.int .i64 (-1)) 3
      replace hb := hb.alloc (.cells #[.int .i64 (-1)] 3)
      generalize hp12 : W.heap.size = p12 at *
      generalize W.alloc (.cells #[.int .i64 (-1)] 3) = W12 at *
      clear hp12 W
      obtain ⟨W, rfl⟩ : ∃ W, W = W12 := ⟨_, rfl⟩
      refine AnyK.pick1 (i := 13) (by kernel_rfl) ?_
      refine StepK.append (i := 13) rfl hb.ol (by simp [hsz]) ⟨p12, 0, none⟩ 1 [.int .i64 (-1)] (by simp [hsz]) rfl (news1 n12) (by simp [Value.oneCell']) (by unfold maxLen; omega) (by omega) hb.base ?_
      intro gl cl W2 hown hgr hat
      refine ⟨⟨fun hw => hgr.cell hw (hb.far_l (by simp)), fun _ hw => ⟨hgr.cell hw.1 (hb.far_l (by simp)), hgr.cell hw.2 (hb.far_l (by simp))⟩⟩, ?_⟩
      replace hb := hb.appL hown hgr hat
      clear n12 hown hgr hat W
      obtain ⟨W, rfl⟩ : ∃ W, W = W2 := ⟨_, rfl⟩
      refine AnyK.nilCheck (i := 14) (may_0 rfl (by kernel_rfl) (by kernel_rfl) (by kernel_rfl)) (p := ⟨h + 1, 0, none⟩) (by simp [hsz]) (hb.kv.cell 0) ?_
      refine AnyK.field (i := 15) (may_0 rfl (by kernel_rfl) (by kernel_rfl) (by kernel_rfl)) (u := .pointer (some ⟨h + 1, 0, none⟩)) (v := .pointer (some ⟨h + 1, 3, none⟩)) (by simp [hsz]) (fun w => fa114_1 w) (hb.kv.cell 0) ?_
      refine AnyK.store (i := 16) (u := .pointer (some ⟨h + 1, 3, none⟩)) (u' := .slice (some ⟨ge, 0, none⟩) (j + 1) ce) rfl (by kernel_rfl) (by simp [hsz]) (by simp [hsz]) (st25 (hb.kb.cell 3) (hb.kb.frozen 3)) ⟨fun hw => (cell_set_far (by simp) _).trans hw, fun h => by cases h⟩ ?_
      replace hb := hb.storeE (.slice (some ⟨ge, 0, none⟩) (j + 1) ce)
      refine AnyK.nilCheck (i := 17) (may_0 rfl (by kernel_rfl) (by kernel_rfl) (by kernel_rfl)) (p := ⟨h + 1, 0, none⟩) (by simp [hsz]) (hb.kv.cell 0) ?_
      refine AnyK.field (i := 18) (may_0 rfl (by kernel_rfl) (by kernel_rfl) (by kernel_rfl)) (u := .pointer (some ⟨h + 1, 0, none⟩)) (v := .pointer (some ⟨h + 1, 4, none⟩)) (by simp [hsz]) (fun w => fa114_2 w) (hb.kv.cell 0) ?_
      refine AnyK.store (i := 19) (u := .pointer (some ⟨h + 1, 4, none⟩)) (u' := .slice (some ⟨gl, 0, none⟩) (j + 1) cl) rfl (by kernel_rfl) (by simp [hsz]) (by simp [hsz]) (st25 (hb.kb.cell 4) (hb.kb.frozen 4)) ⟨fun hw => (cell_set_far (by simp) _).trans hw, fun h => by cases h⟩ ?_
      replace hb := hb.storeL (.slice (some ⟨gl, 0, none⟩) (j + 1) cl)
      refine AnyK.done (by kernel_rfl) (hK _ _ _ _ hb (by simp only [size_put, hsz]) (by simp only [defers_put]) ?_)
      intro e he
      iterate 18 refine (ev_ne (by omega)).trans ?_
      rfl
    · skip
      refine StepK.build (i := 12) (ps := #[(0, .int .i64 (-1))]) rfl (by simp) (bs25_1 _ _) ⟨fun hw => cell_alloc_l _ hw, fun _ hw => ⟨cell_alloc_l _ hw.1, cell_alloc_l _ hw.2⟩⟩ ?_
      replace n6 := cell_alloc_l (.cells #[.int .i64 (-1)] 3) n6
      have n12 := cell_new1 W (.int .i64 (-1)) 3
      have q12 : some W.heap.size ≠ ve.ownBlock := fun e => by have := (hb.oe.lt _ e.symm).2; omega
      replace hb := hb.alloc (.cells #[.int .i64 (-1)] 3)
      generalize hp12 : W.heap.size = p12 at *
      generalize W.alloc (.cells #[.int .i64 (-1)] 3) = W12 at *
      clear hp12 W
      obtain ⟨W, rfl⟩ : ∃ W, W = W12 := ⟨_, rfl⟩
      refine AnyK.pick1 (i := 7) (by kernel_rfl) ?_
      refine StepK.append (i := 7) rfl hb.oe (by simp [hsz]) ⟨p6, 0, none⟩ 1 [.int .i64 (101)] (by simp [hsz]) rfl (news1 n6) (by simp [Value.oneCell']) (by unfold maxLen; omega) (by omega) hb.base ?_
      intro ge ce W2 hown hgr hat
      refine ⟨⟨fun hw => hgr.cell hw (hb.far_e (by simp)), fun _ hw => ⟨hgr.cell hw.1 (hb.far_e (by simp)), hgr.cell hw.2 (hb.far_e (by simp))⟩⟩, ?_⟩
      replace n12 := hgr.cell n12 q12
      replace hb := hb.appE hown hgr hat
      clear n6 hown hgr hat W
      obtain ⟨W, rfl⟩ : ∃ W, W = W2 := ⟨_, rfl⟩
      refine AnyK.pick1 (i := 13) (by kernel_rfl) ?_
      refine StepK.append (i := 13) rfl hb.ol (by simp [hsz]) ⟨p12, 0, none⟩ 1 [.int .i64 (-1)] (by simp [hsz]) rfl (news1 n12) (by simp [Value.oneCell']) (by unfold maxLen; omega) (by omega) hb.base ?_
      intro gl cl W2 hown hgr hat
      refine ⟨⟨fun hw => hgr.cell hw (hb.far_l (by simp)), fun _ hw => ⟨hgr.cell hw.1 (hb.far_l (by simp)), hgr.cell hw.2 (hb.far_l (by simp))⟩⟩, ?_⟩
      replace hb := hb.appL hown hgr hat
      clear n12 hown hgr hat W
      obtain ⟨W, rfl⟩ : ∃ W, W = W2 := ⟨_, rfl⟩
      refine AnyK.nilCheck (i := 14) (may_0 rfl (by kernel_rfl) (by kernel_rfl) (by kernel_rfl)) (p := ⟨h + 1, 0, none⟩) (by simp [hsz]) (hb.kv.cell 0) ?_
      refine AnyK.field (i := 15) (may_0 rfl (by kernel_rfl) (by kernel_rfl) (by kernel_rfl)) (u := .pointer (some ⟨h + 1, 0, none⟩)) (v := .pointer (some ⟨h + 1, 3, none⟩)) (by simp [hsz]) (fun w => fa114_1 w) (hb.kv.cell 0) ?_
      refine AnyK.store (i := 16) (u := .pointer (some ⟨h + 1, 3, none⟩)) (u' := .slice (some ⟨ge, 0, none⟩) (j + 1) ce) rfl (by kernel_rfl) (by simp [hsz]) (by simp [hsz]) (st25 (hb.kb.cell 3) (hb.kb.frozen 3)) ⟨fun hw => (cell_set_far (by simp) _).trans hw, fun h => by cases h⟩ ?_
      replace hb := hb.storeE (.slice (some ⟨ge, 0, none⟩) (j + 1) ce)
      refine AnyK.nilCheck (i := 17) (may_0 rfl (by kernel_rfl) (by kernel_rfl) (by kernel_rfl)) (p := ⟨h + 1, 0, none⟩) (by simp [hsz]) (hb.kv.cell 0) ?_
      refine AnyK.field (i := 18) (may_0 rfl (by kernel_rfl) (by kernel_rfl) (by kernel_rfl)) (u := .pointer (some ⟨h + 1, 0, none⟩)) (v := .pointer (some ⟨h + 1, 4, none⟩)) (by simp [hsz]) (fun w => fa114_2 w) (hb.kv.cell 0) ?_
      refine AnyK.store (i := 19) (u := .pointer (some ⟨h + 1, 4, none⟩)) (u' := .slice (some ⟨gl, 0, none⟩) (j + 1) cl) rfl (by kernel_rfl) (by simp [hsz]) (by simp [hsz]) (st25 (hb.kb.cell 4) (hb.kb.frozen 4)) ⟨fun hw => (cell_set_far (by simp) _).trans hw, fun h => by cases h⟩ ?_
      replace hb := hb.storeL (.slice (some ⟨gl, 0, none⟩) (j + 1) cl)
      refine AnyK.done (by kernel_rfl) (hK _ _ _ _ hb (by simp only [size_put, hsz]) (by simp only [defers_put]) ?_)
      intro e he
      iterate 18 refine (ev_ne (by omega)).trans ?_
      rfl
  · skip
    refine StepK.build (i := 12) (ps := #[(0, .int .i64 (-1))]) rfl (by simp) (bs25_1 _ _) ⟨fun hw => cell_alloc_l _ hw, fun _ hw => ⟨cell_alloc_l _ hw.1, cell_alloc_l _ hw.2⟩⟩ ?_
    have n12 := cell_new1 W (.int .i64 (-1)) 3
    have q12 : some W.heap.size ≠ ve.ownBlock := fun e => by have := (hb.oe.lt _ e.symm).2; omega
    replace hb := hb.alloc (.cells #[.int .i64 (-1)] 3)
    generalize hp12 : W.heap.size = p12 at *
    generalize W.alloc (.cells #[.int .i64 (-1)] 3) = W12 at *
    clear hp12 W
    obtain ⟨W, rfl⟩ : ∃ W, W = W12 := ⟨_, rfl⟩
    refine AnyK.pick1 (i := 6) (by kernel_rfl) ?_
    refine StepK.build (i := 6) (ps := #[(0, .int .i64 (101))]) rfl (by simp) (bs25_1 _ _) ⟨fun hw => cell_alloc_l _ hw, fun _ hw => ⟨cell_alloc_l _ hw.1, cell_alloc_l _ hw.2⟩⟩ ?_
    replace n12 := cell_alloc_l (.cells #[.int .i64 (101)] 3) n12
    have n6 := cell_new1 W (.int .i64 (101)) 3
    replace hb := hb.alloc (.cells #[.int .i64 (101)] 3)
    generalize hp6 : W.heap.size = p6 at *
    generalize W.alloc (.cells #[.int .i64 (101)] 3) = W6 at *
    clear hp6 W
    obtain ⟨W, rfl⟩ : ∃ W, W = W6 := ⟨_, rfl⟩
    refine AnyK.pick1 (i := 7) (by kernel_rfl) ?_
    refine StepK.append (i := 7) rfl hb.oe (by simp [hsz]) ⟨p6, 0, none⟩ 1 [.int .i64 (101)] (by simp [hsz]) rfl (news1 n6) (by simp [Value.oneCell']) (by unfold maxLen; omega) (by omega) hb.base ?_
    intro ge ce W2 hown hgr hat
    refine ⟨⟨fun hw => hgr.cell hw (hb.far_e (by simp)), fun _ hw => ⟨hgr.cell hw.1 (hb.far_e (by simp)), hgr.cell hw.2 (hb.far_e (by simp))⟩⟩, ?_⟩
    replace n12 := hgr.cell n12 q12
    replace hb := hb.appE hown hgr hat
    clear n6 hown hgr hat W
    obtain ⟨W, rfl⟩ : ∃ W, W = W2 := ⟨_, rfl⟩
    refine AnyK.pick1 (i := 13) (by kernel_rfl) ?_
    refine StepK.append (i := 13) rfl hb.ol (by simp [hsz]) ⟨p12, 0, none⟩ 1 [.int .i64 (-1)] (by simp [hsz]) rfl (news1 n12) (by simp [Value.oneCell']) (by unfold maxLen; omega) (by omega) hb.base ?_
    intro gl cl W2 hown hgr hat
    refine ⟨⟨fun hw => hgr.cell hw (hb.far_l (by simp)), fun _ hw => ⟨hgr.cell hw.1 (hb.far_l (by simp)), hgr.cell hw.2 (hb.far_l (by simp))⟩⟩, ?_⟩
    replace hb := hb.appL hown hgr hat
    clear n12 hown hgr hat W
    obtain ⟨W, rfl⟩ : ∃ W, W = W2 := ⟨_, rfl⟩
    refine AnyK.nilCheck (i := 14) (may_0 rfl (by kernel_rfl) (by kernel_rfl) (by kernel_rfl)) (p := ⟨h + 1, 0, none⟩) (by simp [hsz]) (hb.kv.cell 0) ?_
    refine AnyK.field (i := 15) (may_0 rfl (by kernel_rfl) (by kernel_rfl) (by kernel_rfl)) (u := .pointer (some ⟨h + 1, 0, none⟩)) (v := .pointer (some ⟨h + 1, 3, none⟩)) (by simp [hsz]) (fun w => fa114_1 w) (hb.kv.cell 0) ?_
    refine AnyK.store (i := 16) (u := .pointer (some ⟨h + 1, 3, none⟩)) (u' := .slice (some ⟨ge, 0, none⟩) (j + 1) ce) rfl (by kernel_rfl) (by simp [hsz]) (by simp [hsz]) (st25 (hb.kb.cell 3) (hb.kb.frozen 3)) ⟨fun hw => (cell_set_far (by simp) _).trans hw, fun h => by cases h⟩ ?_
    replace hb := hb.storeE (.slice (some ⟨ge, 0, none⟩) (j + 1) ce)
    refine AnyK.nilCheck (i := 17) (may_0 rfl (by kernel_rfl) (by kernel_rfl) (by kernel_rfl)) (p := ⟨h + 1, 0, none⟩) (by simp [hsz]) (hb.kv.cell 0) ?_
    refine AnyK.field (i := 18) (may_0 rfl (by kernel_rfl) (by kernel_rfl) (by kernel_rfl)) (u := .pointer (some ⟨h + 1, 0, none⟩)) (v := .pointer (some ⟨h + 1, 4, none⟩)) (by simp [hsz]) (fun w => fa114_2 w) (hb.kv.cell 0) ?_
    refine AnyK.store (i := 19) (u := .pointer (some ⟨h + 1, 4, none⟩)) (u' := .slice (some ⟨gl, 0, none⟩) (j + 1) cl) rfl (by kernel_rfl) (by simp [hsz]) (by simp [hsz]) (st25 (hb.kb.cell 4) (hb.kb.frozen 4)) ⟨fun hw => (cell_set_far (by simp) _).trans hw, fun h => by cases h⟩ ?_
    replace hb := hb.storeL (.slice (some ⟨gl, 0, none⟩) (j + 1) cl)
    refine AnyK.done (by kernel_rfl) (hK _ _ _ _ hb (by simp only [size_put, hsz]) (by simp only [defers_put]) ?_)
    intro e he
    iterate 18 refine (ev_ne (by omega)).trans ?_
    rfl
end Go.Proofs.Ytfcnombmphophaa
namespace Go.Proofs.Ytfcnombmphophaa
open Go.RowKit Go.Shelf

section
variable {P : Program} {ops : Array Oper} {Q : Exit → Act → World → Prop} {K : Act → World → Prop} {k i d : Nat} {a : Act} {w w' : World} {ty : TypeId} {pos : String} {aft : Array Edge} {v : Value} {gd : Option (Nat × Bool)}

/-- The operations from number i on, k of them. -/
def ListK (P : Program) (ops : Array Oper) (K : Act → World → Prop) : Nat → Nat → Act → World → Prop
  | 0, _, a, w => K a w
  | k + 1, i, a, w => opG P ops (fun _ _ _ => False) i (ListK P ops K k (i + 1)) a w

theorem opG_never {Q : Exit → Act → World → Prop} (hl : LetsOut (fun _ _ _ => False) → LetsOut Q) {K : Act → World → Prop} (h : opG P ops (fun _ _ _ => False) i K a w) : opG P ops Q i K a w := by
  unfold opG at *
  split
  · simpa [*] using h
  · rename_i o ho
    simp only [ho] at h
    split
    · rename_i hw
      simp only [hw, if_true] at h
      unfold Oper.wp at *
      generalize (execOp a.eval o).run P w = r at *
      cases r with
      | ok x w' =>
        cases x <;> simp only [Oper.upon] at h ⊢ <;>
          first
            | exact h
            | exact Calls.mono h (fun e w'' he => by cases e <;> first | exact he | exact he.elim | exact hl he)
      | halt x w' => cases x <;> simp only [Oper.upon] at h ⊢
    · rename_i hw
      simp only [hw] at h
      exact h

theorem listK_ops {F : Fence} {n : Nat} (hF : WideF F P) (hd : Region.noDefer ops = true) : ∀ (k i : Nat) (a : Act) (w : World), ListK P ops (Q .normal) k i a w → wpOpsIn F n P ops (onlyN (Q .normal)) (List.range' i k) a w
  | 0, _, _, _, h => h
  | k + 1, i, a, w, h => by
    rw [List.range'_succ, wpOpsIn_cons]
    exact wpOpIn_mono (fun a' w' h' => listK_ops hF hd k (i + 1) a' w' h') (opG_in hF hd (opG_never (fun ⟨_, _, h⟩ => h.elim) h))

theorem region_L {F : Fence} {n id : Nat} (k : Nat) (hF : WideF F P) (hd : Region.noDefer ops = true) (hk : ops.size = k) (h : ListK P ops (Q .normal) k 0 a w) : (Code.region id ops false).wpIn F n P Q a w :=
  wpIn_mono (wpIn_region (by rw [List.range_eq_range', hk]; exact listK_ops hF hd k 0 a w h)) onlyN_to

theorem region_l {F : Fence} {n id : Nat} (k : Nat) (hF : WideF F P) (hd : Region.noDefer ops = true) (hk : ops.size = k) (h : ∀ K : Act → World → Prop, (∀ a w, Q .normal a w → K a w) → ListK P ops K k 0 a w) : (Code.region id ops false).wpIn F n P Q a w :=
  region_L k hF hd hk (h _ fun _ _ h => h)
theorem region_p {n id : Nat} (k : Nat) (h : ∀ K : Act → World → Prop, (∀ a w, Q .normal a w → K a w) → ListK P ops K k 0 a w) (hd : Region.noDefer ops = true := by kernel_rfl) (hk : ops.size = k := by kernel_rfl) : (Code.region id ops false).wpIn Fence.wide n P Q a w := region_l k (wideF_plain _) hd hk h

theorem ListK.val {o : Oper} (hi : ops[i]? = some o) (hg : o.guard = none) (hr : (execOp a.eval o).run P w = .ok (.value v) w') (h : ListK P ops K k (i + 1) (a.put o.dst v) w') : ListK P ops K (k + 1) i a w := by
  unfold ListK opG
  simp only [hi]
  rw [if_pos (by unfold Region.wanted; rw [hg])]
  simp only [Oper.wp, hr, Oper.upon]
  exact h
theorem ListK.skip {o : Oper} (hi : ops[i]? = some o) (hg : o.guard = none) (hr : (execOp a.eval o).run P w = .ok .skip w') (h : ListK P ops K k (i + 1) (a.put o.dst undef) w') : ListK P ops K (k + 1) i a w := by
  unfold ListK opG
  simp only [hi]
  rw [if_pos (by unfold Region.wanted; rw [hg])]
  simp only [Oper.wp, hr, Oper.upon]
  exact h
theorem ListK.valW {o : Oper} (hi : ops[i]? = some o) (hw : Region.wanted o (yielded ops a.tmps) = true) (hr : (execOp a.eval o).run P w = .ok (.value v) w') (h : ListK P ops K k (i + 1) (a.put o.dst v) w') : ListK P ops K (k + 1) i a w := by
  unfold ListK opG
  simp only [hi]
  rw [if_pos hw]
  simp only [Oper.wp, hr, Oper.upon]
  exact h
theorem ListK.skipW {o : Oper} (hi : ops[i]? = some o) (hw : Region.wanted o (yielded ops a.tmps) = true) (hr : (execOp a.eval o).run P w = .ok .skip w') (h : ListK P ops K k (i + 1) (a.put o.dst undef) w') : ListK P ops K (k + 1) i a w := by
  unfold ListK opG
  simp only [hi]
  rw [if_pos hw]
  simp only [Oper.wp, hr, Oper.upon]
  exact h
theorem ListK.passW {o : Oper} (hi : ops[i]? = some o) (hw : Region.wanted o (yielded ops a.tmps) = false) (h : ListK P ops K k (i + 1) (a.put o.dst undef) w) : ListK P ops K (k + 1) i a w := by
  unfold ListK opG
  simp only [hi]
  rw [if_neg (by rw [hw]; simp)]
  exact h
theorem ListK.done (h : K a w) : ListK P ops K 0 i a w := h

theorem ListK.load {t : TypeId} {x : Operand} {p : Addr} (hi : ops[i]? = some ⟨some d, .load t x, ty, pos, aft, gd⟩) (hx : a.eval x = .pointer (some p)) (hv : (Instr.loadAt t (.pointer (some p))).run P w = .ok v w)
    (h : ListK P ops K k (i + 1) (a.put (some d) v) w) (hw : Region.wanted ⟨some d, .load t x, ty, pos, aft, gd⟩ (yielded ops a.tmps) = true := by rfl) : ListK P ops K (k + 1) i a w := ListK.valW hi hw (by simp [execOp, hx, hv]) h
theorem ListK.nilCheck {x : Operand} {p : Addr} (hi : ops[i]? = some ⟨some d, .nilCheck x, ty, pos, aft, gd⟩) (hx : a.eval x = .pointer (some p))
    (h : ListK P ops K k (i + 1) (a.put (some d) (.pointer (some p))) w) (hw : Region.wanted ⟨some d, .nilCheck x, ty, pos, aft, gd⟩ (yielded ops a.tmps) = true := by rfl) : ListK P ops K (k + 1) i a w := ListK.valW hi hw (by simp [execOp, hx]) h
theorem ListK.field {t : TypeId} {x : Operand} {f : Nat} {u : Value} (hi : ops[i]? = some ⟨some d, .fieldAddr t x f, ty, pos, aft, gd⟩) (hx : a.eval x = u) (hv : (Instr.fieldAt t u f).run P w = .ok v w)
    (h : ListK P ops K k (i + 1) (a.put (some d) v) w) (hw : Region.wanted ⟨some d, .fieldAddr t x f, ty, pos, aft, gd⟩ (yielded ops a.tmps) = true := by rfl) : ListK P ops K (k + 1) i a w := ListK.valW hi hw (by simp [execOp, hx, hv]) h
theorem ListK.index {t : TypeId} {x y : Operand} {u u' : Value} (hi : ops[i]? = some ⟨some d, .indexAddr t x y, ty, pos, aft, gd⟩) (hx : a.eval x = u) (hy : a.eval y = u') (hv : (Instr.indexAt t u u').run P w = .ok v w)
    (h : ListK P ops K k (i + 1) (a.put (some d) v) w) (hw : Region.wanted ⟨some d, .indexAddr t x y, ty, pos, aft, gd⟩ (yielded ops a.tmps) = true := by rfl) : ListK P ops K (k + 1) i a w := ListK.valW hi hw (by simp [execOp, hx, hy, hv]) h
theorem ListK.move {x : Operand} (hi : ops[i]? = some ⟨some d, .move x, ty, pos, aft, gd⟩) (hx : a.eval x = v)
    (h : ListK P ops K k (i + 1) (a.put (some d) v) w) (hw : Region.wanted ⟨some d, .move x, ty, pos, aft, gd⟩ (yielded ops a.tmps) = true := by rfl) : ListK P ops K (k + 1) i a w := ListK.valW hi hw (by simp [execOp, hx]) h
theorem ListK.assign {x : Operand} (hi : ops[i]? = some ⟨some d, .assign x, ty, pos, aft, gd⟩) (hx : a.eval x = v)
    (h : ListK P ops K k (i + 1) (a.put (some d) v) w) (hw : Region.wanted ⟨some d, .assign x, ty, pos, aft, gd⟩ (yielded ops a.tmps) = true := by rfl) : ListK P ops K (k + 1) i a w := ListK.valW hi hw (by simp [execOp, hx]) h
theorem ListK.bin {b : BinOp} {t t' : TypeId} {x y : Operand} {u u' : Value} (hi : ops[i]? = some ⟨some d, .binOp b t x y t', ty, pos, aft, gd⟩) (hx : a.eval x = u) (hy : a.eval y = u')
    (hv : (do eqGuard b t x y u u'; binOp b t u u' : Sem Value).run P w = .ok v w)
    (h : ListK P ops K k (i + 1) (a.put (some d) v) w) (hw : Region.wanted ⟨some d, .binOp b t x y t', ty, pos, aft, gd⟩ (yielded ops a.tmps) = true := by rfl) : ListK P ops K (k + 1) i a w := ListK.valW hi hw (by
      simp only [execOp, hx, hy]
      have := hv
      simp only [Sem.run_bind] at this ⊢
      rw [this]
      simp) h
theorem ListK.alloc {t : TypeId} (hi : ops[i]? = some ⟨some d, .alloc t, ty, pos, aft, gd⟩) (hv : (Instr.alloc t true (.tuple #[])).run P w = .ok v w')
    (h : ListK P ops K k (i + 1) (a.put (some d) v) w') (hw : Region.wanted ⟨some d, .alloc t, ty, pos, aft, gd⟩ (yielded ops a.tmps) = true := by rfl) : ListK P ops K (k + 1) i a w := ListK.valW hi hw (by simp [execOp, hv]) h
theorem ListK.box {t : TypeId} {x : Operand} {u : Value} (hi : ops[i]? = some ⟨some d, .box t x, ty, pos, aft, gd⟩) (hx : a.eval x = u) (hv : (Instr.box t u).run P w = .ok v w')
    (h : ListK P ops K k (i + 1) (a.put (some d) v) w') (hw : Region.wanted ⟨some d, .box t x, ty, pos, aft, gd⟩ (yielded ops a.tmps) = true := by rfl) : ListK P ops K (k + 1) i a w := ListK.valW hi hw (by simp [execOp, hx, hv]) h
theorem ListK.store {t : TypeId} {x y : Operand} {u u' : Value} (hi : ops[i]? = some ⟨none, .store t x y, ty, pos, aft, gd⟩) (hx : a.eval x = u) (hy : a.eval y = u') (hv : (Instr.storeAt t u u').run P w = .ok () w')
    (h : ListK P ops K k (i + 1) a w') (hw : Region.wanted ⟨none, .store t x y, ty, pos, aft, gd⟩ (yielded ops a.tmps) = true := by rfl) : ListK P ops K (k + 1) i a w := ListK.skipW hi hw (by simp [execOp, hx, hy, hv]) h
theorem ListK.call {f : FuncId} {args : Array Operand} {tys : Array TypeId} {vs : Array Value} (hi : ops[i]? = some ⟨some d, .call { callee := .value (.func f), args := args, argTypes := tys }, ty, pos, aft, gd⟩)
    (he : ∀ args w, (callFunc f args).run P w = .ok (.enter f args) w) (hp : args.map a.eval = vs)
    (h : Calls P f vs w fun e w' => ∃ v, e = .returned v ∧ ListK P ops K k (i + 1) (a.put (some d) v) w') (hw : Region.wanted ⟨some d, .call { callee := .value (.func f), args := args, argTypes := tys }, ty, pos, aft, gd⟩ (yielded ops a.tmps) = true := by rfl) : ListK P ops K (k + 1) i a w := by
  unfold ListK opG
  simp only [hi]
  rw [if_pos hw]
  simp only [Oper.wp, execOp, resolve, hp, Act.eval, Deferred.ofValue]
  simp [invoke, he, Oper.upon]
  refine h.mono ?_
  rintro e w' ⟨v, rfl, h1⟩
  exact h1
end
theorem al94 (w : World) : (Instr.alloc 94 true (.tuple #[])).run Try.prog w = .ok (.pointer (some ⟨w.heap.size, 0, none⟩)) (w.alloc (.cells #[.int .i64 0] 94)) := by
  go_simp
theorem sa94 (w : World) (u : Int) : (Instr.storeAt 94 (.pointer (some ⟨w.heap.size, 0, none⟩)) (.int .i64 u)).run Try.prog (w.alloc (.cells #[.int .i64 0] 94)) = .ok () (w.alloc (.cells #[.int .i64 u] 94)) := by
  go_simp
theorem al89 (w : World) : (Instr.alloc 89 true (.tuple #[])).run Try.prog w = .ok (.pointer (some ⟨w.heap.size, 0, none⟩)) (w.alloc (.cells #[.pointer none] 89)) := by
  go_simp
theorem sa89 (w : World) (u : Option Addr) : (Instr.storeAt 89 (.pointer (some ⟨w.heap.size, 0, none⟩)) (.pointer u)).run Try.prog (w.alloc (.cells #[.pointer none] 89)) = .ok () (w.alloc (.cells #[.pointer u] 89)) := by
  go_simp
theorem al61 (w : World) : (Instr.alloc 61 true (.tuple #[])).run Try.prog w = .ok (.pointer (some ⟨w.heap.size, 0, none⟩)) (w.alloc (.cells #[.int .i64 0, .int .i64 0, .int .i64 0, .int .i64 0, .int .i64 0] 61)) := by
  go_simp
theorem sa61 (w : World) (x0 x1 x2 x3 x4 : Int) : (Instr.storeAt 61 (.pointer (some ⟨w.heap.size, 0, none⟩)) (.agg #[.int .i64 x0, .int .i64 x1, .int .i64 x2, .int .i64 x3, .int .i64 x4])).run Try.prog (w.alloc (.cells #[.int .i64 0, .int .i64 0, .int .i64 0, .int .i64 0, .int .i64 0] 61)) = .ok () (w.alloc (.cells #[.int .i64 x0, .int .i64 x1, .int .i64 x2, .int .i64 x3, .int .i64 x4] 61)) := by
  go_simp
theorem st94 {w : World} {p : Addr} {v : Value} {u : Int} (h : w.cell? p = some v) (hf : w.frozen? p = false) : (Instr.storeAt 94 (.pointer (some p)) (.int .i64 u)).run Try.prog w = .ok () (w.setCell p (.int .i64 u)) := by
  go_simp
theorem lss94 {x y : Operand} {m n : Int} (w : World) : (do eqGuard .lss 94 x y (.int .i64 m) (.int .i64 n); binOp .lss 94 (.int .i64 m) (.int .i64 n) : Sem Value).run Try.prog w = .ok (.bool (decide (m < n))) w := by
  go_simp
theorem geq94 {x y : Operand} {m n : Int} (w : World) : (do eqGuard .geq 94 x y (.int .i64 m) (.int .i64 n); binOp .geq 94 (.int .i64 m) (.int .i64 n) : Sem Value).run Try.prog w = .ok (.bool (decide (n ≤ m))) w := by
  go_simp
theorem leq3 {x y : Operand} {m n : Int} (w : World) : (do eqGuard .leq 3 x y (.int .i64 m) (.int .i64 n); binOp .leq 3 (.int .i64 m) (.int .i64 n) : Sem Value).run Try.prog w = .ok (.bool (decide (m ≤ n))) w := by
  go_simp
theorem geq3 {x y : Operand} {m n : Int} (w : World) : (do eqGuard .geq 3 x y (.int .i64 m) (.int .i64 n); binOp .geq 3 (.int .i64 m) (.int .i64 n) : Sem Value).run Try.prog w = .ok (.bool (decide (n ≤ m))) w := by
  go_simp
theorem eql3 {x y : Operand} {m n : Int} (w : World) : (do eqGuard .eql 3 x y (.int .i64 m) (.int .i64 n); binOp .eql 3 (.int .i64 m) (.int .i64 n) : Sem Value).run Try.prog w = .ok (.bool (m == n)) w := by
  go_simp
theorem add94 {x y : Operand} {m n : Int} (h0 : -100000 ≤ m + n) (h1 : m + n ≤ 100000) (w : World) : (do eqGuard .add 94 x y (.int .i64 m) (.int .i64 n); binOp .add 94 (.int .i64 m) (.int .i64 n) : Sem Value).run Try.prog w = .ok (.int .i64 (m + n)) w := by
  have := IntWalk.i64_in (m + n) (by omega)
  go_simp
theorem sub94 {x y : Operand} {m n : Int} (h0 : -100000 ≤ m - n) (h1 : m - n ≤ 100000) (w : World) : (do eqGuard .sub 94 x y (.int .i64 m) (.int .i64 n); binOp .sub 94 (.int .i64 m) (.int .i64 n) : Sem Value).run Try.prog w = .ok (.int .i64 (m - n)) w := by
  have := IntWalk.i64_in (m - n) (by omega)
  go_simp
attribute [irreducible] ListK
end Go.Proofs.Ytfcnombmphophaa
namespace Go.Proofs.Ytfcnombmphophaa
open Go.RowKit Go.Shelf

/-- Cells 0 to N - 1 of block g hold f, and may be written. -/
def Row (W : World) (g N : Nat) (f : Nat → Int) : Prop := ∀ d, d < N → W.cell? ⟨g, d, none⟩ = some (.int .i64 (f d)) ∧ W.frozen? ⟨g, d, none⟩ = false
section
variable {W W' : World} {g N : Nat} {f : Nat → Int}
theorem Row.alloc (h : Row W g N f) (o : Obj) : Row (W.alloc o) g N f := fun d hd => ⟨cell_alloc_l o (h d hd).1, froz_alloc_l o (h d hd).1 (h d hd).2⟩
theorem Row.drew (h : Row W g N f) : Row W.drew g N f := h
theorem Row.below (h : Row W g N f) (hb : Below W.heap.size W W') : Row W' g N f := fun d hd =>
  ⟨(hb.cell (block_lt_of_cell (h d hd).1)).trans (h d hd).1, (hb.frozen (block_lt_of_cell (h d hd).1)).trans (h d hd).2⟩
theorem Row.far (h : Row W g N f) {p : Addr} (hp : g ≠ p.block) (u : Value) : Row (W.setCell p u) g N f := fun d hd =>
  ⟨(cell_set_far (by simpa using hp) u).trans (h d hd).1, by rw [World.frozen?_setCell]; exact (h d hd).2⟩
theorem Row.set (h : Row W g N f) {d : Nat} (hd : d < N) (v : Int) : Row (W.setCell ⟨g, d, none⟩ (.int .i64 v)) g N (upd f d v) := fun e he => by
  refine ⟨?_, by rw [World.frozen?_setCell]; exact (h e he).2⟩
  by_cases hde : e = d
  · subst hde
    rw [World.cell?_setCell_same _ _ _ (h e he).1]
    simp [upd]
  · rw [World.cell?_setCell_other _ _ _ _ (by intro h2; cases h2; exact hde rfl), (h e he).1]
    simp [upd, hde]
theorem Row.own {row : Option Nat} (h : Row W g N f) (hg : W.grownBy W' row) (hr : ∀ r, row = some r → ∃ o : Obj, W.heap[r]? = some o ∧ o.isCells = false) : Row W' g N f := fun d hd =>
  ⟨cell_kept (h d hd).1 hg hr, (frozen_kept (h d hd).1 hg hr).trans (h d hd).2⟩
end
theorem Whole.own {W W' : World} {g : Nat} {t : TypeId} {cs : Array Value} {row : Option Nat} (h : Whole W g t cs) (hg : W.grownBy W' row) (hr : ∀ r, row = some r → ∃ o : Obj, W.heap[r]? = some o ∧ o.isCells = false) : Whole W' g t cs := by
  refine (hg.block g h.lt (fun e => ?_)).trans h
  obtain ⟨o, ho, hc⟩ := hr g e.symm
  rw [show W.heap[g]? = _ from h] at ho
  cases ho
  cases hc

/-- The memory of a book: the variable at block h + 2, the book at block h + 1, its tables at ge and gl. -/
structure Bk (w : World) (h : Nat) (o t : Int) (A : Option Addr) (n c N ge gl ce cl : Nat) (E L : Nat → Int) (W : World) : Prop where
  kv : Whole W (h + 2) 89 #[.pointer (some ⟨h + 1, 0, none⟩)]
  kb : Whole W (h + 1) 114 #[.int .i64 o, .int .i64 t, .slice A n c, .slice (some ⟨ge, 0, none⟩) N ce, .slice (some ⟨gl, 0, none⟩) N cl]
  low : Below h w W
  re : Row W ge N E
  rl : Row W gl N L
  g1 : h + 3 ≤ ge
  g2 : h + 3 ≤ gl
  ne : ge ≠ gl
  lt1 : ge < W.heap.size
  lt2 : gl < W.heap.size
section
variable {w W W' : World} {h : Nat} {o t : Int} {A : Option Addr} {n c N ge gl ce cl : Nat} {E L : Nat → Int}
theorem Bk.base (b : Bk w h o t A n c N ge gl ce cl E L W) : h + 3 ≤ W.heap.size := b.kv.lt
theorem Bk.alloc (b : Bk w h o t A n c N ge gl ce cl E L W) (x : Obj) : Bk w h o t A n c N ge gl ce cl E L (W.alloc x) :=
  ⟨b.kv.alloc x, b.kb.alloc x, b.low.alloc (by have := b.base; omega) x, b.re.alloc x, b.rl.alloc x, b.g1, b.g2, b.ne, by have := b.lt1; simp; omega, by have := b.lt2; simp; omega⟩
theorem Bk.drew (b : Bk w h o t A n c N ge gl ce cl E L W) : Bk w h o t A n c N ge gl ce cl E L W.drew := ⟨b.kv, b.kb, b.low.drew, b.re, b.rl, b.g1, b.g2, b.ne, b.lt1, b.lt2⟩
theorem Bk.setE (b : Bk w h o t A n c N ge gl ce cl E L W) {d : Nat} (hd : d < N) (v : Int) : Bk w h o t A n c N ge gl ce cl (upd E d v) L (W.setCell ⟨ge, d, none⟩ (.int .i64 v)) :=
  ⟨b.kv.far (by have := b.g1; simp; omega) _, b.kb.far (by have := b.g1; simp; omega) _, b.low.setCell (p := ⟨ge, d, none⟩) (by have := b.g1; simp; omega) _, b.re.set hd v, b.rl.far (by have := b.ne; simp; omega) _, b.g1, b.g2, b.ne, by have := b.lt1; simpa [World.setCell] using this, by have := b.lt2; simpa [World.setCell] using this⟩
theorem Bk.setL (b : Bk w h o t A n c N ge gl ce cl E L W) {d : Nat} (hd : d < N) (v : Int) : Bk w h o t A n c N ge gl ce cl E (upd L d v) (W.setCell ⟨gl, d, none⟩ (.int .i64 v)) :=
  ⟨b.kv.far (by have := b.g2; simp; omega) _, b.kb.far (by have := b.g2; simp; omega) _, b.low.setCell (p := ⟨gl, d, none⟩) (by have := b.g2; simp; omega) _, b.re.far (by have := b.ne; simp; omega) _, b.rl.set hd v, b.g1, b.g2, b.ne, by have := b.lt1; simpa [World.setCell] using this, by have := b.lt2; simpa [World.setCell] using this⟩
theorem Bk.far (b : Bk w h o t A n c N ge gl ce cl E L W) {p : Addr} (h1 : h + 3 ≤ p.block) (h2 : ge ≠ p.block) (h3 : gl ≠ p.block) (u : Value) : Bk w h o t A n c N ge gl ce cl E L (W.setCell p u) :=
  ⟨b.kv.far (by omega) _, b.kb.far (by omega) _, b.low.setCell (by omega) _, b.re.far h2 _, b.rl.far h3 _, b.g1, b.g2, b.ne, by have := b.lt1; simpa [World.setCell] using this, by have := b.lt2; simpa [World.setCell] using this⟩
theorem Bk.below (b : Bk w h o t A n c N ge gl ce cl E L W) (hb : Below W.heap.size W W') : Bk w h o t A n c N ge gl ce cl E L W' :=
  ⟨b.kv.below hb b.kv.lt, b.kb.below hb b.kb.lt, b.low.trans (hb.mono (by have := b.base; omega)), b.re.below hb, b.rl.below hb, b.g1, b.g2, b.ne, Nat.lt_of_lt_of_le b.lt1 hb.size, Nat.lt_of_lt_of_le b.lt2 hb.size⟩
theorem Bk.own (b : Bk w h o t A n c N ge gl ce cl E L W) {row : Option Nat} (hg : W.grownBy W' row) (hr : ∀ r, row = some r → h ≤ r ∧ ∃ o : Obj, W.heap[r]? = some o ∧ o.isCells = false) : Bk w h o t A n c N ge gl ce cl E L W' :=
  ⟨b.kv.own hg (fun r e => (hr r e).2), b.kb.own hg (fun r e => (hr r e).2), b.low.grown hg (by have := b.base; omega) (fun k e => (hr k e).1), b.re.own hg (fun r e => (hr r e).2), b.rl.own hg (fun r e => (hr r e).2), b.g1, b.g2, b.ne, Nat.lt_of_lt_of_le b.lt1 hg.size, Nat.lt_of_lt_of_le b.lt2 hg.size⟩
theorem Bk.batch {l : List Sale} (b : Bk w h o t A l.length c N ge gl ce cl E L W) (hs : SalesAt w h A l) : BatchAt W h (h + 1) o t A l c :=
  ⟨b.kb.cell 0, b.kb.cell 1, b.kb.cell 2, hs.below b.low (Nat.le_refl _)⟩
end

/-- Marks among the deferred calls. -/
def mark (D : Nat) : Deferred := { target := .collected D, args := #[] }
structure Mk (h : Nat) (Ds : List Nat) (W : World) : Prop where
  nd : Ds.Nodup
  at_ : ∀ D, D ∈ Ds → h ≤ D ∧ W.heap[D]? = some (.deferred (some []))
section
variable {W W' : World} {h : Nat} {Ds : List Nat}
theorem Mk.nil (h : Nat) (W : World) : Mk h [] W := ⟨List.nodup_nil, fun _ hD => by cases hD⟩
theorem Mk.lt (m : Mk h Ds W) {D : Nat} (hD : D ∈ Ds) : D < W.heap.size := (Array.getElem?_eq_some_iff.1 (m.at_ D hD).2).1
theorem Mk.others (m : Mk h Ds W) (hk : KeepsOthers W W') : Mk h Ds W' := ⟨m.nd, fun D hD => ⟨(m.at_ D hD).1, hk.same D _ (m.at_ D hD).2 rfl⟩⟩
theorem Mk.below (m : Mk h Ds W) (hb : Below W.heap.size W W') : Mk h Ds W' := ⟨m.nd, fun D hD => ⟨(m.at_ D hD).1, (hb.block D (m.lt hD)).trans (m.at_ D hD).2⟩⟩
theorem Mk.grown (m : Mk h Ds W) {B : Nat} (hB : ∀ D, D ∈ Ds → D < B) {row : Option Nat} (hg : W.grownBy W' row) (hr : ∀ r, row = some r → B ≤ r) : Mk h Ds W' :=
  ⟨m.nd, fun D hD => ⟨(m.at_ D hD).1, (hg.block D (m.lt hD) (fun e => by have := hr D e.symm; have := hB D hD; omega)).trans (m.at_ D hD).2⟩⟩
theorem Mk.cons (m : Mk h Ds W) {D : Nat} (hD : h ≤ D) (hh : W.heap[D]? = some (.deferred (some []))) (hn : ∀ D', D' ∈ Ds → D' < D) : Mk h (D :: Ds) W :=
  ⟨List.nodup_cons.2 ⟨fun hm => by have := hn D hm; omega, m.nd⟩, fun D' hm => by
    rcases List.mem_cons.1 hm with rfl | hm
    · exact ⟨hD, hh⟩
    · exact m.at_ D' hm⟩
end

/-- A function that leaves with marks alone. -/
theorem leaves_marks {n : Nat} {fn : Func} {tmps : Array Value} {R : Ending → World → Prop} {h : Nat} {v : Value} (J : World → Prop) (hJ : ∀ W D, h ≤ D → W.heap[D]? = some (.deferred (some [])) → J W → J (W.putObj D (.deferred none)))
    (hv : ∀ W, (results fn tmps).run Try.prog W = .ok v W) (hR : ∀ W, J W → R (.returned v) W) :
    ∀ (Ds : List Nat) (W : World), Mk h Ds W → J W → LeavesInM Fence.wide n Try.prog fn tmps R (Ds.map mark) .returning W := by
  intro Ds
  induction Ds with
  | nil => exact fun W _ hW => ⟨v, hv W, hR W hW⟩
  | cons D Ds ih =>
    intro W m hW
    have h0 := m.at_ D List.mem_cons_self
    have hnd := List.nodup_cons.1 m.nd
    refine ⟨by simp, .inl ⟨D, _, rfl, run_takeDeferred h0.2, ih _ ⟨hnd.2, fun D' hD' => ⟨(m.at_ D' (List.mem_cons_of_mem _ hD')).1, ?_⟩⟩ (hJ W D h0.1 h0.2 hW)⟩⟩
    rw [World.putObj_heap_other (by rintro rfl; exact hnd.1 hD')]
    exact (m.at_ D' (List.mem_cons_of_mem _ hD')).2

/-- What the second loop of book does with one sale: from the set d. -/
def stepE (l : List Sale) (d : Nat) (E : Nat → Int) (k : Nat) : Nat → Int :=
  if max (E d) (saleOf l k).lo ≤ (saleOf l k).hi then upd E (d ||| 2 ^ k) (min (E (d ||| 2 ^ k)) (max (E d) (saleOf l k).lo)) else E
/-- What the third one does. -/
def stepL (l : List Sale) (d : Nat) (L : Nat → Int) (k : Nat) : Nat → Int :=
  if (saleOf l k).lo ≤ min (L (d ||| 2 ^ k)) (saleOf l k).hi then upd L d (max (L d) (min (L (d ||| 2 ^ k)) (saleOf l k).hi)) else L
/-- All sales that can be next, by their numbers. -/
def nextL (t : Int) (l : List Sale) (d : Nat) : List Nat := (List.range l.length).filter (nextB t l d)
theorem nextL_eq (t : Int) (l : List Sale) (d : Nat) : (nxt t l d l.length).map (·.1) = nextL t l d := nxt_map t l d l.length
def earlyTo (t : Int) (l : List Sale) : Nat → Nat → Int
  | 0 => upd (fun _ => 101) 0 0
  | d + 1 => if earlyTo t l d d = 101 then earlyTo t l d else (nextL t l d).foldl (stepE l d) (earlyTo t l d)
def early (t : Int) (l : List Sale) : Nat → Int := earlyTo t l (2 ^ l.length)
/-- Behind j rounds of the third loop. -/
def lateTo (t : Int) (l : List Sale) : Nat → Nat → Int
  | 0 => upd (fun _ => -1) (2 ^ l.length - 1) 101
  | j + 1 => (nextL t l (2 ^ l.length - 2 - j)).foldl (stepL l (2 ^ l.length - 2 - j)) (lateTo t l j)
def late (t : Int) (l : List Sale) : Nat → Int := lateTo t l (2 ^ l.length - 1)
end Go.Proofs.Ytfcnombmphophaa
namespace Go.Proofs.Ytfcnombmphophaa
open Go.RowKit Go.Shelf

noncomputable def ops12 : Array Oper := (Try.f61.body.bind (regionOf 12)).getD #[]
noncomputable def ops13 : Array Oper := (Try.f61.body.bind (regionOf 13)).getD #[]
noncomputable def ops15 : Array Oper := (Try.f61.body.bind (regionOf 15)).getD #[]
noncomputable def assign2 : Code := .seq (.region 12 ops12 false) (.region 13 ops13 false)
noncomputable def body2 : Code := .block 5 (.seq (.region 14 ops14 true) (.seq (.region 15 ops15 false) (.cond (.tmp 80) (.seq (.region 16 ops16 true) (.region 17 ops17 true)) .skip)))

theorem fold2 (tm : Array Value) (p q : Tmp) (u v : Value) : ((#[p, q] : Array Tmp).zip #[u, v]).foldl (fun t (p, v) => t.setIfInBounds p v) tm = (tm.setIfInBounds p u).setIfInBounds q v := by
  simp

/-- The values of a sale with its number. -/
abbrev encN {t : Int} {l : List Sale} {d : Nat} (x : Nx t l d) : Array Value := #[.int .i64 (x.1 : Nat), saleV (saleOf l x.1)]
abbrev saleC (s : Sale) : Array Value := #[.int .i64 s.src, .int .i64 s.dst, .int .i64 s.many, .int .i64 s.lo, .int .i64 s.hi]

/-- The iterator's contract, as the law of a range takes it: blocks that are not of X are kept. -/
theorem next_seq {n p q h d c : Nat} {o t : Int} {A : Option Addr} {l : List Sale} {W0 : World} {X : Nat → Prop} (hv : Valid o t l) (hd : d < 65536) (hX : ∀ b, X b → h + 3 ≤ b ∧ b < W0.heap.size) (hXp : ¬ X q)
    (hp : W0.cell? ⟨p, 0, none⟩ = some (.pointer (some ⟨h + 1, 0, none⟩))) (hq : W0.cell? ⟨q, 0, none⟩ = some (.int .i64 d)) (hb : BatchAt W0 h (h + 1) o t A l c) (hB : h ≤ W0.heap.size) :
    SeqStopsK Fence.wide n Try.prog 72 #[.pointer (some ⟨p, 0, none⟩), .pointer (some ⟨q, 0, none⟩)] (encN (t := t) (l := l) (d := d)) (KeepsC X) (fun xs => xs = nxt t l d l.length) (fun pre => ∃ j, j ≤ l.length ∧ pre = nxt t l d j) l.length W0 := by
  intro ly J Jx W hW hJ hJx hY h0
  have hsz := hW.size
  refine (next1_in n ly p q (h + 1) h o t A l c d hv hd X J Jx W (fun b hb hx => by have := (hX b hx).2; omega) (fun hx => by have := (hX _ hx).1; omega) (fun b hb hx => by have := (hX b hx).1; omega) hXp hJ hY
    ((hW.cell (p := ⟨p, 0, none⟩) (block_lt_of_cell hp)).trans hp) ((hW.cell (p := ⟨q, 0, none⟩) (block_lt_of_cell hq)).trans hq) (hb.below hW hB (block_lt_of_cell hb.c0)) (by omega) h0).mono ?_
  intro e W' h
  exact h

theorem or_lt {d k n : Nat} (hd : d < 2 ^ n) (hk : k < n) : d ||| 2 ^ k < 2 ^ n := Nat.or_lt_two_pow hd (Nat.pow_lt_pow_right (by omega) hk)
theorem lt_65536 {n d : Nat} (hn : n ≤ 8) (hd : d < 2 ^ n) : d < 65536 := Nat.lt_of_lt_of_le hd (Nat.le_trans (Nat.pow_le_pow_right (by omega) hn) (by decide))

section
variable {w : World} {h : Nat} {o t : Int} {A : Option Addr} {l : List Sale} {c ge gl ce cl d bd : Nat} {E L : Nat → Int}

/-- The invariant of the range of loop 2. -/
structure I2 (w : World) (h : Nat) (o t : Int) (A : Option Addr) (l : List Sale) (c ge gl ce cl d bd : Nat) (E L : Nat → Int) (Ds : List Nat) (pre : List (Nx t l d)) (W : World) : Prop where
  bk : Bk w h o t A l.length c (2 ^ l.length) ge gl ce cl ((pre.map (·.1)).foldl (stepE l d) E) L W
  db : W.cell? ⟨bd, 0, none⟩ = some (.int .i64 d)
  mks : Mk h Ds W

set_option maxHeartbeats 1000000 in
theorem range2 {Q : Exit → Act → World → Prop} {a : Act} {W : World} {Ds : List Nat} {p q : Nat} (hv : Valid o t l) (hs : SalesAt w h A l) (hd : d < 2 ^ l.length) (hi : I2 w h o t A l c ge gl ce cl d bd E L Ds [] W)
    (hsz : a.tmps.size = 159) (t3 : a.eval (.tmp 3) = .pointer (some ⟨h + 2, 0, none⟩)) (t4 : a.eval (.tmp 4) = .pointer (some ⟨bd, 0, none⟩)) (hbd : bd ≠ ge)
    (t61 : a.eval (.tmp 61) = .func (.func 72) #[] #[.pointer (some ⟨p, 0, none⟩), .pointer (some ⟨q, 0, none⟩)])
    (hp : W.cell? ⟨p, 0, none⟩ = some (.pointer (some ⟨h + 1, 0, none⟩))) (hq : W.cell? ⟨q, 0, none⟩ = some (.int .i64 d)) (hqe : q ≠ ge)
    (hdone : ∀ D W', W.heap.size ≤ D → I2 w h o t A l c ge gl ce cl d bd E L Ds (nxt t l d l.length) W' → W'.heap[D]? = some (.deferred (some [])) → Q .normal { a with defers := mark D :: a.defers } W') :
    (Code.rangeFunc (.tmp 61) #[62, 63] assign2 body2).wpIn Fence.wide 5 Try.prog Q a W := by
  have hd6 := lt_65536 hv.len hd
  have hDs : ∀ D, D ∈ Ds → D < W.heap.size := fun D hD => hi.mks.lt hD
  refine wpIn_rangeFunc_ownH (α := Nx t l d) rfl (by omega) (gf := 72) (lb := #[.pointer (some ⟨p, 0, none⟩), .pointer (some ⟨q, 0, none⟩)]) t61 trivial (enters_of Try.func72 (by kernel_rfl) rfl)
    (next_seq (h := h) (c := c) (A := A) (X := fun b => b = ge) hv hd6 (fun b e => by subst e; exact ⟨hi.bk.g1, hi.bk.lt1⟩) hqe hp hq (hi.bk.batch hs) (by have := hi.bk.base; omega))
    (fun h1 h2 => h1.trans h2) (fun W l o o' _ h1 h2 _ => KeepsC.putObj W l o o' h1 h2) (Below.refl _ _) (fun _ => rfl)
    (I2 w h o t A l c ge gl ce cl d bd E L Ds) (fun _ _ _ => False) ?own (fun _ _ _ _ _ hs _ _ => hs) hi
    (fun x a' W' => ∃ bx, a'.tmps.size = 159 ∧ a'.eval (.tmp 3) = .pointer (some ⟨h + 2, 0, none⟩) ∧ a'.eval (.tmp 4) = .pointer (some ⟨bd, 0, none⟩) ∧ a'.eval (.tmp 5) = .int .i64 (x.1 : Nat) ∧ a'.eval (.tmp 6) = .pointer (some ⟨bx, 0, none⟩) ∧ Whole W' bx 61 (saleC (saleOf l x.1))) ?ownA ?assign ?body ?done ?stop
  case own =>
    intro s X Y row hs hg hr
    have hr' : ∀ r, row = some r → ∃ o : Obj, X.heap[r]? = some o ∧ o.isCells = false := fun r e => (hr r e).2
    exact ⟨hs.bk.own hg (fun r e => ⟨by have := (hr r e).1; have := hi.bk.base; omega, (hr r e).2⟩), cell_kept hs.db hg hr', hs.mks.grown hDs hg (fun r e => (hr r e).1)⟩
  case ownA =>
    rintro x a' _ X Y row ⟨bx, h1, h2, h3, h4, h5, h6⟩ hg hr
    exact ⟨bx, h1, h2, h3, h4, h5, h6.own hg (fun r e => (hr r e).2)⟩
  case assign =>
    intro ly pre x W1 K hi1 hK
    rw [fold2]
    have e62 : ∀ e : Nat, e ≠ 62 → e ≠ 63 → (Act.mk ((a.tmps.setIfInBounds 62 (.int .i64 (x.1 : Nat))).setIfInBounds 63 (saleV (saleOf l x.1))) []).eval (.tmp e) = a.eval (.tmp e) := by
      intro e h1 h2
      have : Act.mk ((a.tmps.setIfInBounds 62 (.int .i64 (x.1 : Nat))).setIfInBounds 63 (saleV (saleOf l x.1))) [] = ((Act.mk a.tmps []).put (some 62) (.int .i64 (x.1 : Nat))).put (some 63) (saleV (saleOf l x.1)) := rfl
      rw [this, ev_ne h2, ev_ne h1]
      rfl
    have hz : (Act.mk ((a.tmps.setIfInBounds 62 (.int .i64 (x.1 : Nat))).setIfInBounds 63 (saleV (saleOf l x.1))) []).tmps.size = 159 := by simp [hsz]
    have u62 : (Act.mk ((a.tmps.setIfInBounds 62 (.int .i64 (x.1 : Nat))).setIfInBounds 63 (saleV (saleOf l x.1))) []).eval (.tmp 62) = .int .i64 (x.1 : Nat) := by simp [Act.eval, hsz]
    have u63 : (Act.mk ((a.tmps.setIfInBounds 62 (.int .i64 (x.1 : Nat))).setIfInBounds 63 (saleV (saleOf l x.1))) []).eval (.tmp 63) = saleV (saleOf l x.1) := by simp [Act.eval, hsz]
    have u3 := (e62 3 (by omega) (by omega)).trans t3
    have u4 := (e62 4 (by omega) (by omega)).trans t4
    generalize Act.mk ((a.tmps.setIfInBounds 62 (.int .i64 (x.1 : Nat))).setIfInBounds 63 (saleV (saleOf l x.1))) [] = b at *
    refine wpIn_seq (region_l 1 (wideF_round _ _) (by kernel_rfl) (by kernel_rfl) ?_)
    intro KK hKK
    refine ListK.assign (i := 0) rfl u62 ?_
    refine ListK.done (hKK _ _ ?_)
    clear hKK KK
    refine region_l 2 (wideF_round _ _) (by kernel_rfl) (by kernel_rfl) ?_
    intro KK hKK
    refine ListK.alloc (i := 0) rfl (al61 W1) ?_
    refine ListK.store (i := 1) (u := .pointer (some ⟨W1.heap.size, 0, none⟩)) (u' := saleV (saleOf l x.1)) rfl (by simp [hz]) (by simp [u63]) (sa61 W1 _ _ _ _ _) ?_
    refine ListK.done (hKK _ _ (hK _ _ ((KeepsOthers.alloc _ _).from _) (KeepsC.of_below ((Below.refl _ _).alloc (Nat.le_refl _) _)) ?_ ?_))
    · exact ⟨hi1.bk.alloc _, cell_alloc_l _ hi1.db, hi1.mks.others (KeepsOthers.alloc _ _)⟩
    · exact ⟨W1.heap.size, by simp [hz], (by simp [u3]), (by simp [u4]), (by simp [hz]), (by simp [hz]), Whole.new W1 61 _⟩
  case body =>
    rintro ly pre x a' W1 _ _ hi1 ⟨bx, hz, u3, u4, u5, u6, hx⟩ _
    have hxl := x.lt
    have hto := or_lt hd hxl
    have hk16 : x.1 < 16 := by have := hv.len; omega
    have hbx := block_lt_of_cell (hx.cell 0)
    generalize hE1 : (pre.map (·.1)).foldl (stepE l d) E = E1 at *
    have hbk : Bk w h o t A l.length c (2 ^ l.length) ge gl ce cl E1 L W1 := by rw [← hE1]; exact hi1.bk
    have hE2 : ((pre ++ [x]).map (·.1)).foldl (stepE l d) E = stepE l d E1 x.1 := by rw [List.map_append, List.foldl_append, hE1]; rfl
    refine wpIn_block (wpIn_seq (region14 (bk := h + 2) (kb := h + 1) (bd := bd) (bx := bx) (g := ge) (N := 2 ^ l.length) (c := ce) (d := d) (e := E1 d) (lo := (saleOf l x.1).lo) (wideF_round _ _) hz u3 u4 u6 (hbk.kv.cell 0) (hbk.kb.cell 3) hi1.db (hbk.re d hd).1 (hx.cell 3) hd ?_))
    have hb2 := (hbk.drew).alloc (.cells #[.int .i64 (E1 d), .int .i64 (saleOf l x.1).lo] 3)
    have hdb2 := cell_alloc_l (w := W1.drew) (.cells #[.int .i64 (E1 d), .int .i64 (saleOf l x.1).lo] 3) hi1.db
    have hmk2 : Mk h Ds (W1.drew.alloc (.cells #[.int .i64 (E1 d), .int .i64 (saleOf l x.1).lo] 3)) := hi1.mks.others ((KeepsOthers.drew _).trans (KeepsOthers.alloc _ _))
    have hx2 : Whole (W1.drew.alloc (.cells #[.int .i64 (E1 d), .int .i64 (saleOf l x.1).lo] 3)) bx 61 (saleC (saleOf l x.1)) := Whole.alloc (w := W1.drew) hx _
    have hko : KeepsOthers W1 (W1.drew.alloc (.cells #[.int .i64 (E1 d), .int .i64 (saleOf l x.1).lo] 3)) := (KeepsOthers.drew _).trans (KeepsOthers.alloc _ _)
    have hkc : KeepsC (fun b => b = ge) W1 (W1.drew.alloc (.cells #[.int .i64 (E1 d), .int .i64 (saleOf l x.1).lo] 3)) := KeepsC.of_below ((Below.refl _ W1).drew.alloc (Nat.le_refl _) _)
    generalize W1.drew.alloc (.cells #[.int .i64 (E1 d), .int .i64 (saleOf l x.1).lo] 3) = W2 at *
    refine wpIn_seq (region_l 5 (wideF_round _ _) (by kernel_rfl) (by kernel_rfl) ?_)
    intro KK hKK
    refine ListK.move (i := 0) (v := .int .i64 (max (E1 d) (saleOf l x.1).lo)) rfl (by simp [hz]) ?_
    refine ListK.field (i := 1) (u := .pointer (some ⟨bx, 0, none⟩)) (v := .pointer (some ⟨bx, 3, none⟩)) rfl (by simp [u6]) (fa61_3 _) ?_
    refine ListK.field (i := 2) (u := .pointer (some ⟨bx, 3, none⟩)) (v := .pointer (some ⟨bx, 4, none⟩)) rfl (by simp [hz]) (fa46_1 _) ?_
    refine ListK.load (i := 3) (p := ⟨bx, 4, none⟩) (v := .int .i64 (saleOf l x.1).hi) rfl (by simp [hz]) (ld3 (hx2.cell 4)) ?_
    refine ListK.bin (i := 4) (u := .int .i64 (max (E1 d) (saleOf l x.1).lo)) (u' := .int .i64 (saleOf l x.1).hi) rfl (by simp [hz]) (by simp [hz]) (leq3 _) ?_
    refine ListK.done (hKK _ _ ?_)
    clear hKK KK
    by_cases hon : max (E1 d) (saleOf l x.1).lo ≤ (saleOf l x.1).hi
    · have hE3 : ((pre ++ [x]).map (·.1)).foldl (stepE l d) E = upd E1 (d ||| 2 ^ x.1) (min (E1 (d ||| 2 ^ x.1)) (max (E1 d) (saleOf l x.1).lo)) := by rw [hE2, stepE, if_pos hon]
      refine wpIn_cond (t := true) (by simp [hz]; omega) ?_
      refine wpIn_seq (region16 (bd := bd) (d := d) (k := x.1) (wideF_round _ _) (by simp [hz]) (by simp [u4]) (by simp [u5]) hdb2 hd6 hk16 ?_)
      refine region17 (bk := h + 2) (kb := h + 1) (g := ge) (N := 2 ^ l.length) (c := ce) (to := d ||| 2 ^ x.1) (e := E1 (d ||| 2 ^ x.1)) (on := max (E1 d) (saleOf l x.1).lo) (wideF_round _ _) (by simp [hz]) (by simp [u3]) (by simp [hz]) (by simp [hz]) (hb2.kv.cell 0) (hb2.kb.cell 3) (hb2.re _ hto).1 hto (hb2.re _ hto).2 ?_
      intro a3
      refine ⟨KeepsOthers.from (hko.trans ((KeepsOthers.drew _).trans ((KeepsOthers.drew _).trans ((KeepsOthers.alloc _ _).trans (KeepsOthers.setCell _ _ _))))) _, ?_, ?_⟩
      · refine hkc.trans ((KeepsC.of_below ((Below.refl _ W2).drew.drew.alloc (Nat.le_refl _) _)).trans ⟨by simp [World.setCell], fun b cs t z hb hc => (Below.heap_setCell _ _ _ b (by simpa using hb)).trans hc⟩)
      · refine ⟨?_, ?_, ?_⟩
        · rw [hE3]
          exact (hb2.drew.drew.alloc _).setE hto _
        · rw [cell_set_far (by simpa using hbd)]
          exact cell_alloc_l (w := W2.drew.drew) _ hdb2
        · exact hmk2.others ((KeepsOthers.drew _).trans ((KeepsOthers.drew _).trans ((KeepsOthers.alloc _ _).trans (KeepsOthers.setCell _ _ _))))
    · have hE3 : ((pre ++ [x]).map (·.1)).foldl (stepE l d) E = E1 := by rw [hE2, stepE, if_neg hon]
      refine wpIn_cond (t := false) (by simp [hz]; omega) ?_
      exact wpIn_skip ⟨hko.from _, hkc, by rw [hE3]; exact hb2, hdb2, hmk2⟩
  case done =>
    rintro D xs W' hD rfl hi1 hK
    exact hdone D W' hD hi1 hK
  case stop =>
    rintro D c pre W' _ _ h1 _
    exact h1.elim
end
end Go.Proofs.Ytfcnombmphophaa
namespace Go.Proofs.Ytfcnombmphophaa
open Go.RowKit Go.Shelf

noncomputable def ops24 : Array Oper := (Try.f61.body.bind (regionOf 24)).getD #[]
noncomputable def ops25 : Array Oper := (Try.f61.body.bind (regionOf 25)).getD #[]
noncomputable def ops27 : Array Oper := (Try.f61.body.bind (regionOf 27)).getD #[]
noncomputable def assign3 : Code := .seq (.region 24 ops24 false) (.region 25 ops25 false)
noncomputable def body3 : Code := .block 9 (.seq (.region 26 ops26 true) (.seq (.region 27 ops27 false) (.cond (.tmp 140) (.region 28 ops28 true) .skip)))

section
variable {w : World} {h : Nat} {o t : Int} {A : Option Addr} {l : List Sale} {c ge gl ce cl d bd : Nat} {E L : Nat → Int}

/-- The invariant of the range of loop 3. -/
structure I3 (w : World) (h : Nat) (o t : Int) (A : Option Addr) (l : List Sale) (c ge gl ce cl d bd : Nat) (E L : Nat → Int) (Ds : List Nat) (pre : List (Nx t l d)) (W : World) : Prop where
  bk : Bk w h o t A l.length c (2 ^ l.length) ge gl ce cl E ((pre.map (·.1)).foldl (stepL l d) L) W
  db : W.cell? ⟨bd, 0, none⟩ = some (.int .i64 d)
  mks : Mk h Ds W

set_option maxHeartbeats 1000000 in
theorem range3 {Q : Exit → Act → World → Prop} {a : Act} {W : World} {Ds : List Nat} {p q : Nat} (hv : Valid o t l) (hs : SalesAt w h A l) (hd : d < 2 ^ l.length) (hi : I3 w h o t A l c ge gl ce cl d bd E L Ds [] W)
    (hsz : a.tmps.size = 159) (t3 : a.eval (.tmp 3) = .pointer (some ⟨h + 2, 0, none⟩)) (t9 : a.eval (.tmp 9) = .pointer (some ⟨bd, 0, none⟩)) (hbd : bd ≠ gl)
    (t118 : a.eval (.tmp 118) = .func (.func 72) #[] #[.pointer (some ⟨p, 0, none⟩), .pointer (some ⟨q, 0, none⟩)])
    (hp : W.cell? ⟨p, 0, none⟩ = some (.pointer (some ⟨h + 1, 0, none⟩))) (hq : W.cell? ⟨q, 0, none⟩ = some (.int .i64 d)) (hqe : q ≠ gl)
    (hdone : ∀ D W', W.heap.size ≤ D → I3 w h o t A l c ge gl ce cl d bd E L Ds (nxt t l d l.length) W' → W'.heap[D]? = some (.deferred (some [])) → Q .normal { a with defers := mark D :: a.defers } W') :
    (Code.rangeFunc (.tmp 118) #[119, 120] assign3 body3).wpIn Fence.wide 5 Try.prog Q a W := by
  have hd6 := lt_65536 hv.len hd
  have hDs : ∀ D, D ∈ Ds → D < W.heap.size := fun D hD => hi.mks.lt hD
  refine wpIn_rangeFunc_ownH (α := Nx t l d) rfl (by omega) (gf := 72) (lb := #[.pointer (some ⟨p, 0, none⟩), .pointer (some ⟨q, 0, none⟩)]) t118 trivial (enters_of Try.func72 (by kernel_rfl) rfl)
    (next_seq (h := h) (c := c) (A := A) (X := fun b => b = gl) hv hd6 (fun b e => by subst e; exact ⟨hi.bk.g2, hi.bk.lt2⟩) hqe hp hq (hi.bk.batch hs) (by have := hi.bk.base; omega))
    (fun h1 h2 => h1.trans h2) (fun W l o o' _ h1 h2 _ => KeepsC.putObj W l o o' h1 h2) (Below.refl _ _) (fun _ => rfl)
    (I3 w h o t A l c ge gl ce cl d bd E L Ds) (fun _ _ _ => False) ?own (fun _ _ _ _ _ hs _ _ => hs) hi
    (fun x a' W' => ∃ bx, a'.tmps.size = 159 ∧ a'.eval (.tmp 3) = .pointer (some ⟨h + 2, 0, none⟩) ∧ a'.eval (.tmp 9) = .pointer (some ⟨bd, 0, none⟩) ∧ a'.eval (.tmp 10) = .int .i64 (x.1 : Nat) ∧ a'.eval (.tmp 11) = .pointer (some ⟨bx, 0, none⟩) ∧ Whole W' bx 61 (saleC (saleOf l x.1))) ?ownA ?assign ?body ?done ?stop
  case own =>
    intro s X Y row hs hg hr
    have hr' : ∀ r, row = some r → ∃ o : Obj, X.heap[r]? = some o ∧ o.isCells = false := fun r e => (hr r e).2
    exact ⟨hs.bk.own hg (fun r e => ⟨by have := (hr r e).1; have := hi.bk.base; omega, (hr r e).2⟩), cell_kept hs.db hg hr', hs.mks.grown hDs hg (fun r e => (hr r e).1)⟩
  case ownA =>
    rintro x a' _ X Y row ⟨bx, h1, h2, h3, h4, h5, h6⟩ hg hr
    exact ⟨bx, h1, h2, h3, h4, h5, h6.own hg (fun r e => (hr r e).2)⟩
  case assign =>
    intro ly pre x W1 K hi1 hK
    rw [fold2]
    have e119 : ∀ e : Nat, e ≠ 119 → e ≠ 120 → (Act.mk ((a.tmps.setIfInBounds 119 (.int .i64 (x.1 : Nat))).setIfInBounds 120 (saleV (saleOf l x.1))) []).eval (.tmp e) = a.eval (.tmp e) := by
      intro e h1 h2
      have : Act.mk ((a.tmps.setIfInBounds 119 (.int .i64 (x.1 : Nat))).setIfInBounds 120 (saleV (saleOf l x.1))) [] = ((Act.mk a.tmps []).put (some 119) (.int .i64 (x.1 : Nat))).put (some 120) (saleV (saleOf l x.1)) := rfl
      rw [this, ev_ne h2, ev_ne h1]
      rfl
    have hz : (Act.mk ((a.tmps.setIfInBounds 119 (.int .i64 (x.1 : Nat))).setIfInBounds 120 (saleV (saleOf l x.1))) []).tmps.size = 159 := by simp [hsz]
    have u119 : (Act.mk ((a.tmps.setIfInBounds 119 (.int .i64 (x.1 : Nat))).setIfInBounds 120 (saleV (saleOf l x.1))) []).eval (.tmp 119) = .int .i64 (x.1 : Nat) := by simp [Act.eval, hsz]
    have u120 : (Act.mk ((a.tmps.setIfInBounds 119 (.int .i64 (x.1 : Nat))).setIfInBounds 120 (saleV (saleOf l x.1))) []).eval (.tmp 120) = saleV (saleOf l x.1) := by simp [Act.eval, hsz]
    have u3 := (e119 3 (by omega) (by omega)).trans t3
    have u9 := (e119 9 (by omega) (by omega)).trans t9
    generalize Act.mk ((a.tmps.setIfInBounds 119 (.int .i64 (x.1 : Nat))).setIfInBounds 120 (saleV (saleOf l x.1))) [] = b at *
    refine wpIn_seq (region_l 1 (wideF_round _ _) (by kernel_rfl) (by kernel_rfl) ?_)
    intro KK hKK
    refine ListK.assign (i := 0) rfl u119 ?_
    refine ListK.done (hKK _ _ ?_)
    clear hKK KK
    refine region_l 2 (wideF_round _ _) (by kernel_rfl) (by kernel_rfl) ?_
    intro KK hKK
    refine ListK.alloc (i := 0) rfl (al61 W1) ?_
    refine ListK.store (i := 1) (u := .pointer (some ⟨W1.heap.size, 0, none⟩)) (u' := saleV (saleOf l x.1)) rfl (by simp [hz]) (by simp [u120]) (sa61 W1 _ _ _ _ _) ?_
    refine ListK.done (hKK _ _ (hK _ _ ((KeepsOthers.alloc _ _).from _) (KeepsC.of_below ((Below.refl _ _).alloc (Nat.le_refl _) _)) ?_ ?_))
    · exact ⟨hi1.bk.alloc _, cell_alloc_l _ hi1.db, hi1.mks.others (KeepsOthers.alloc _ _)⟩
    · exact ⟨W1.heap.size, by simp [hz], (by simp [u3]), (by simp [u9]), (by simp [hz]), (by simp [hz]), Whole.new W1 61 _⟩
  case body =>
    rintro ly pre x a' W1 _ _ hi1 ⟨bx, hz, u3, u9, u10, u11, hx⟩ _
    have hxl := x.lt
    have hto := or_lt hd hxl
    have hk16 : x.1 < 16 := by have := hv.len; omega
    have hbx := block_lt_of_cell (hx.cell 0)
    generalize hL1 : (pre.map (·.1)).foldl (stepL l d) L = L1 at *
    have hbk : Bk w h o t A l.length c (2 ^ l.length) ge gl ce cl E L1 W1 := by rw [← hL1]; exact hi1.bk
    have hL2 : ((pre ++ [x]).map (·.1)).foldl (stepL l d) L = stepL l d L1 x.1 := by rw [List.map_append, List.foldl_append, hL1]; rfl
    refine wpIn_block (wpIn_seq (region26 (bk := h + 2) (kb := h + 1) (bd := bd) (bx := bx) (g := gl) (N := 2 ^ l.length) (c := cl) (d := d) (k := x.1) (e := L1 (d ||| 2 ^ x.1)) (hi := (saleOf l x.1).hi) (wideF_round _ _) hz u3 u9 u10 u11 (hbk.kv.cell 0) (hbk.kb.cell 4) hi1.db (hbk.rl _ hto).1 (hx.cell 4) hd6 hk16 hto ?_))
    have hb2 := (hbk.drew).alloc (.cells #[.int .i64 (L1 (d ||| 2 ^ x.1)), .int .i64 (saleOf l x.1).hi] 3)
    have hdb2 := cell_alloc_l (w := W1.drew) (.cells #[.int .i64 (L1 (d ||| 2 ^ x.1)), .int .i64 (saleOf l x.1).hi] 3) hi1.db
    have hmk2 : Mk h Ds (W1.drew.alloc (.cells #[.int .i64 (L1 (d ||| 2 ^ x.1)), .int .i64 (saleOf l x.1).hi] 3)) := hi1.mks.others ((KeepsOthers.drew _).trans (KeepsOthers.alloc _ _))
    have hx2 : Whole (W1.drew.alloc (.cells #[.int .i64 (L1 (d ||| 2 ^ x.1)), .int .i64 (saleOf l x.1).hi] 3)) bx 61 (saleC (saleOf l x.1)) := Whole.alloc (w := W1.drew) hx _
    have hko : KeepsOthers W1 (W1.drew.alloc (.cells #[.int .i64 (L1 (d ||| 2 ^ x.1)), .int .i64 (saleOf l x.1).hi] 3)) := (KeepsOthers.drew _).trans (KeepsOthers.alloc _ _)
    have hkc : KeepsC (fun b => b = gl) W1 (W1.drew.alloc (.cells #[.int .i64 (L1 (d ||| 2 ^ x.1)), .int .i64 (saleOf l x.1).hi] 3)) := KeepsC.of_below ((Below.refl _ W1).drew.alloc (Nat.le_refl _) _)
    generalize W1.drew.alloc (.cells #[.int .i64 (L1 (d ||| 2 ^ x.1)), .int .i64 (saleOf l x.1).hi] 3) = W2 at *
    refine wpIn_seq (region_l 5 (wideF_round _ _) (by kernel_rfl) (by kernel_rfl) ?_)
    intro KK hKK
    refine ListK.move (i := 0) (v := .int .i64 (min (L1 (d ||| 2 ^ x.1)) (saleOf l x.1).hi)) rfl (by simp [hz]) ?_
    refine ListK.field (i := 1) (u := .pointer (some ⟨bx, 0, none⟩)) (v := .pointer (some ⟨bx, 3, none⟩)) rfl (by simp [u11]) (fa61_3 _) ?_
    refine ListK.field (i := 2) (u := .pointer (some ⟨bx, 3, none⟩)) (v := .pointer (some ⟨bx, 3, none⟩)) rfl (by simp [hz]) (fa46_0 _) ?_
    refine ListK.load (i := 3) (p := ⟨bx, 3, none⟩) (v := .int .i64 (saleOf l x.1).lo) rfl (by simp [hz]) (ld3 (hx2.cell 3)) ?_
    refine ListK.bin (i := 4) (u := .int .i64 (min (L1 (d ||| 2 ^ x.1)) (saleOf l x.1).hi)) (u' := .int .i64 (saleOf l x.1).lo) rfl (by simp [hz]) (by simp [hz]) (geq3 _) ?_
    refine ListK.done (hKK _ _ ?_)
    clear hKK KK
    by_cases hon : (saleOf l x.1).lo ≤ min (L1 (d ||| 2 ^ x.1)) (saleOf l x.1).hi
    · have hL3 : ((pre ++ [x]).map (·.1)).foldl (stepL l d) L = upd L1 d (max (L1 d) (min (L1 (d ||| 2 ^ x.1)) (saleOf l x.1).hi)) := by rw [hL2, stepL, if_pos hon]
      refine wpIn_cond (t := true) (by simp [hz]; omega) ?_
      refine region28 (bk := h + 2) (kb := h + 1) (bd := bd) (g := gl) (N := 2 ^ l.length) (c := cl) (d := d) (e := L1 d) (on := min (L1 (d ||| 2 ^ x.1)) (saleOf l x.1).hi) (wideF_round _ _) (by simp [hz]) (by simp [u3]) (by simp [u9]) (by simp [hz]) (hb2.kv.cell 0) (hb2.kb.cell 4) hdb2 (hb2.rl _ hd).1 hd (hb2.rl _ hd).2 ?_
      intro a3
      refine ⟨KeepsOthers.from (hko.trans ((KeepsOthers.drew _).trans ((KeepsOthers.alloc _ _).trans (KeepsOthers.setCell _ _ _)))) _, ?_, ?_⟩
      · refine hkc.trans ((KeepsC.of_below ((Below.refl _ W2).drew.alloc (Nat.le_refl _) _)).trans ⟨by simp [World.setCell], fun b cs t z hb hc => (Below.heap_setCell _ _ _ b (by simpa using hb)).trans hc⟩)
      · refine ⟨?_, ?_, ?_⟩
        · rw [hL3]
          exact (hb2.drew.alloc _).setL hd _
        · rw [cell_set_far (by simpa using hbd)]
          exact cell_alloc_l (w := W2.drew) _ hdb2
        · exact hmk2.others ((KeepsOthers.drew _).trans ((KeepsOthers.alloc _ _).trans (KeepsOthers.setCell _ _ _)))
    · have hL3 : ((pre ++ [x]).map (·.1)).foldl (stepL l d) L = L1 := by rw [hL2, stepL, if_neg hon]
      refine wpIn_cond (t := false) (by simp [hz]; omega) ?_
      exact wpIn_skip ⟨hko.from _, hkc, by rw [hL3]; exact hb2, hdb2, hmk2⟩
  case done =>
    rintro D xs W' hD rfl hi1 hK
    exact hdone D W' hD hi1 hK
  case stop =>
    rintro D c pre W' _ _ h1 _
    exact h1.elim
end
end Go.Proofs.Ytfcnombmphophaa
namespace Go.Proofs.Ytfcnombmphophaa
open Go.RowKit Go.Shelf

noncomputable def ops0 : Array Oper := (Try.f61.body.bind (regionOf 0)).getD #[]
noncomputable def ops1 : Array Oper := (Try.f61.body.bind (regionOf 1)).getD #[]
noncomputable def ops2 : Array Oper := (Try.f61.body.bind (regionOf 2)).getD #[]
noncomputable def ops3 : Array Oper := (Try.f61.body.bind (regionOf 3)).getD #[]
noncomputable def ops10 : Array Oper := (Try.f61.body.bind (regionOf 10)).getD #[]
noncomputable def ops5 : Array Oper := (Try.f61.body.bind (regionOf 5)).getD #[]
noncomputable def ops6 : Array Oper := (Try.f61.body.bind (regionOf 6)).getD #[]
noncomputable def ops7 : Array Oper := (Try.f61.body.bind (regionOf 7)).getD #[]
noncomputable def ops8 : Array Oper := (Try.f61.body.bind (regionOf 8)).getD #[]
noncomputable def ops9 : Array Oper := (Try.f61.body.bind (regionOf 9)).getD #[]
noncomputable def ops11 : Array Oper := (Try.f61.body.bind (regionOf 11)).getD #[]
noncomputable def ops18 : Array Oper := (Try.f61.body.bind (regionOf 18)).getD #[]
noncomputable def ops20 : Array Oper := (Try.f61.body.bind (regionOf 20)).getD #[]
noncomputable def ops21 : Array Oper := (Try.f61.body.bind (regionOf 21)).getD #[]
noncomputable def ops22 : Array Oper := (Try.f61.body.bind (regionOf 22)).getD #[]
noncomputable def ops23 : Array Oper := (Try.f61.body.bind (regionOf 23)).getD #[]
noncomputable def ops29 : Array Oper := (Try.f61.body.bind (regionOf 29)).getD #[]
noncomputable def ops30 : Array Oper := (Try.f61.body.bind (regionOf 30)).getD #[]
noncomputable def ops31 : Array Oper := (Try.f61.body.bind (regionOf 31)).getD #[]
noncomputable def round1 : Code := .seq (.region 3 ops3 false) (.seq (.cond (.tmp 20) .skip (.exit 0)) (.seq (.block 1 (.region 4 ops4 true)) (.region 5 ops5 false)))
noncomputable def round2 : Code := .seq (.region 8 ops8 false) (.seq (.cond (.tmp 49) .skip (.exit 2)) (.seq (.block 3 (.seq (.region 9 ops9 false) (.seq (.seq (.region 10 ops10 true) (.cond (.tmp 58) (.exit 3) .skip)) (.seq (.region 11 ops11 false) (.block 4 (.rangeFunc (.tmp 61) #[62, 63] assign2 body2)))))) (.region 18 ops18 false)))
noncomputable def round3 : Code := .seq (.seq (.region 21 ops21 false) (.cond (.tmp 113) .skip (.exit 6))) (.seq (.block 7 (.seq (.region 23 ops23 false) (.block 8 (.rangeFunc (.tmp 118) #[119, 120] assign3 body3)))) (.seq (.seq (.region 29 ops29 false) (.region 30 ops30 false)) (.region 22 ops22 false)))
noncomputable def code61 : Code := .seq (.region 0 ops0 false) (.seq (.region 1 ops1 false) (.seq (.seq (.region 2 ops2 false) (.block 0 (.loop round1))) (.seq (.region 6 ops6 false) (.seq (.seq (.region 7 ops7 false) (.block 2 (.loop round2))) (.seq (.region 19 ops19 true) (.seq (.seq (.region 20 ops20 false) (.block 6 (.loop round3))) (.seq (.region 31 ops31 false) .ret)))))))
theorem body61 : Try.f61.body = some code61 := by kernel_rfl

set_option maxHeartbeats 1000000 in
theorem region10 {F : Fence} {n : Nat} (hF : WideF F Try.prog) {Q : Exit → Act → World → Prop} {a : Act} {w : World} {bk kb bd g N c d : Nat} {e : Int} (hsz : a.tmps.size = 159)
    (t3 : a.eval (.tmp 3) = .pointer (some ⟨bk, 0, none⟩)) (t4 : a.eval (.tmp 4) = .pointer (some ⟨bd, 0, none⟩))
    (m0 : w.cell? ⟨bk, 0, none⟩ = some (.pointer (some ⟨kb, 0, none⟩))) (m1 : w.cell? ⟨kb, 3, none⟩ = some (.slice (some ⟨g, 0, none⟩) N c)) (m2 : w.cell? ⟨bd, 0, none⟩ = some (.int .i64 d)) (m3 : w.cell? ⟨g, d, none⟩ = some (.int .i64 e)) (hd : d < N)
    (hK : Q .normal ((((((((a.put (some 51) (.pointer (some ⟨kb, 0, none⟩))).put (some 52) (.pointer (some ⟨kb, 0, none⟩))).put (some 53) (.pointer (some ⟨kb, 3, none⟩))).put (some 54) (.slice (some ⟨g, 0, none⟩) N c)).put (some 55) (.int .i64 d)).put (some 56) (.pointer (some ⟨g, d, none⟩))).put (some 57) (.int .i64 e)).put (some 58) (.bool (e == 101))) w.drew) :
    (Code.region 10 ops10 true).wpIn F n Try.prog Q a w := by
  have hR : (fun w : World => w.cell? ⟨bk, 0, none⟩ = some (.pointer (some ⟨kb, 0, none⟩)) ∧ w.cell? ⟨kb, 3, none⟩ = some (.slice (some ⟨g, 0, none⟩) N c) ∧ w.cell? ⟨bd, 0, none⟩ = some (.int .i64 d) ∧ w.cell? ⟨g, d, none⟩ = some (.int .i64 e)) w.drew := ⟨m0, m1, m2, m3⟩
  refine region_K (KpR (fun w => w.cell? ⟨bk, 0, none⟩ = some (.pointer (some ⟨kb, 0, none⟩)) ∧ w.cell? ⟨kb, 3, none⟩ = some (.slice (some ⟨g, 0, none⟩) N c) ∧ w.cell? ⟨bd, 0, none⟩ = some (.int .i64 d) ∧ w.cell? ⟨g, d, none⟩ = some (.int .i64 e)) (fun _ => false)) hF (by kernel_rfl) Try.mixed ?_
  change AnyK _ _ _ _ 8 (Array.replicate 8 false) _ _
  refine AnyK.load (i := 0) may_o (p := ⟨bk, 0, none⟩) (v := .pointer (some ⟨kb, 0, none⟩)) (by simp [t3]) (fun w hw => ld89 hw.1) hR ?_
  refine AnyK.nilCheck (i := 1) may_o (p := ⟨kb, 0, none⟩) (by simp [hsz]) hR ?_
  refine AnyK.field (i := 2) may_o (u := .pointer (some ⟨kb, 0, none⟩)) (v := .pointer (some ⟨kb, 3, none⟩)) (by simp [hsz]) (fun w => fa114_1 w) hR ?_
  refine AnyK.load (i := 3) may_o (p := ⟨kb, 3, none⟩) (v := .slice (some ⟨g, 0, none⟩) N c) (by simp [hsz]) (fun w hw => ld25 hw.2.1) hR ?_
  refine AnyK.load (i := 4) may_o (p := ⟨bd, 0, none⟩) (v := .int .i64 d) (by simp [t4]) (fun w hw => ld94 hw.2.2.1) hR ?_
  refine AnyK.index (i := 5) may_o (u := .slice (some ⟨g, 0, none⟩) N c) (u' := .int .i64 d) (v := .pointer (some ⟨g, d, none⟩)) (by simp [hsz]) (by simp [hsz]) (fun w => ix25 hd w) hR ?_
  refine AnyK.load (i := 6) may_o (p := ⟨g, d, none⟩) (v := .int .i64 e) (by simp [hsz]) (fun w hw => ld3 hw.2.2.2) hR ?_
  refine AnyK.bin (i := 7) may_o (u := .int .i64 e) (u' := .int .i64 (101)) (v := .bool (e == 101)) (by simp [hsz]) (by simp) (fun w => eql3 w) hR ?_
  exact AnyK.done (by kernel_rfl) hK


section
variable {w : World} {h : Nat} {o t : Int} {A : Option Addr} {l : List Sale} {c : Nat}

theorem ev_df (a : Act) (ds : List Deferred) (x : Operand) : Act.eval { a with defers := ds } x = a.eval x := by cases x <;> rfl
theorem pow_cast (n : Nat) : ((2 ^ n : Nat) : Int) = (2 : Int) ^ n := by push_cast; rfl
theorem pow_le {n : Nat} (h : n ≤ 8) : 2 ^ n ≤ 256 := Nat.le_trans (Nat.pow_le_pow_right (by omega) h) (by decide)
theorem pow_pos' (n : Nat) : 1 ≤ 2 ^ n := Nat.one_le_two_pow

/-- whole, in the words of numbers. -/
theorem whole_nat {k B N : Nat} {w : World} (hl : l.length ≤ 8) (hN : N = 2 ^ l.length) (h : BatchAt w B k o t A l c) :
    Calls Try.prog 55 #[.pointer (some ⟨k, 0, none⟩)] w fun e w' => e = .returned (.int .i64 ((N - 1 : Nat) : Int)) ∧ w = w' := by
  refine (whole_any k B o t A l c w hl h).mono ?_
  rintro e w' ⟨rfl, rfl⟩
  refine ⟨?_, rfl⟩
  have h1 := pow_cast l.length
  have h2 := pow_pos' l.length
  subst hN
  rw [show ((2 ^ l.length - 1 : Nat) : Int) = (2 : Int) ^ l.length - 1 by rw [← h1]; omega]

theorem row_of_owns {W : World} {b g n cap : Nat} {x : Int} (h : W.ownsRow b 3 1 (.slice (some ⟨g, 0, none⟩) n cap) n (List.replicate n (.int .i64 x))) : Row W g n (fun _ => x) := by
  intro d hd
  refine ⟨?_, ?_⟩
  · have := h.cells (g := g) rfl d (.int .i64 x) (by simp [hd])
    simp only [Addr.add] at this
    split at this
    · rename_i h0
      subst h0
      exact this
    · simpa using this
  · rcases h.2 with ⟨h0, _⟩ | ⟨g', cap', cur, h0, _, hg, _⟩
    · cases h0
    · cases h0
      simp [World.frozen?, hg]

/-- The first loop: both tables are made. -/
theorem loop1 {Q : Exit → Act → World → Prop} {a : Act} {W : World} {n N : Nat} (hN1 : 1 ≤ N) (hN : N ≤ 256) (hsz : a.tmps.size = 159) (hdf : a.defers = []) (t3 : a.eval (.tmp 3) = .pointer (some ⟨h + 2, 0, none⟩))
    (t18 : a.eval (.tmp 18) = .int .i64 N) (t19 : a.eval (.tmp 19) = .int .i64 0) (hb : BM w h o t A n c (.slice none 0 0) (.slice none 0 0) 0 0 [] [] (.slice none 0 0) (.slice none 0 0) W)
    (hQ : ∀ a' W' ge gl ce cl, a'.tmps.size = 159 → a'.defers = [] → a'.eval (.tmp 3) = .pointer (some ⟨h + 2, 0, none⟩) → Bk w h o t A n c N ge gl ce cl (fun _ => 101) (fun _ => -1) W' → Q .normal a' W') :
    (Code.block 0 (.loop round1)).wpIn Fence.wide 5 Try.prog Q a W := by
  refine wpIn_block (wpIn_loop (fun a W => ∃ (j : Nat) (ve vl : Value), j ≤ N ∧ a.tmps.size = 159 ∧ a.defers = [] ∧ a.eval (.tmp 3) = .pointer (some ⟨h + 2, 0, none⟩) ∧ a.eval (.tmp 18) = .int .i64 N ∧ a.eval (.tmp 19) = .int .i64 j ∧
    BM w h o t A n c ve vl j j (List.replicate j (.int .i64 101)) (List.replicate j (.int .i64 (-1))) ve vl W) (fun a _ => N - (intOf (a.eval (.tmp 19))).toNat) ⟨0, _, _, Nat.zero_le _, hsz, hdf, t3, t18, t19, hb⟩ ?_)
  rintro a W ⟨j, ve, vl, hj, hsz, hdf, t3, t18, t19, hb⟩
  refine wpIn_seq (region_p 1 ?_)
  intro K hK
  refine ListK.bin (i := 0) (u := .int .i64 j) (u' := .int .i64 N) rfl t19 t18 (lss94 _) ?_
  refine ListK.done (hK _ _ ?_)
  clear hK K
  by_cases hlt : j < N
  · refine wpIn_seq (wpIn_cond (t := true) (by simp [hsz]; omega) (wpIn_skip ?_))
    refine wpIn_seq (wpIn_block (region4 (wideF_plain _) (by simp only [size_put, hsz]) (by simp [t3]) hb (by omega) ?_))
    intro a2 ve' vl' W2 hb2 hz2 hd2 he2
    have u19 : a2.eval (.tmp 19) = .int .i64 j := (he2 19 (by omega)).trans (by simp [t19])
    have u18 : a2.eval (.tmp 18) = .int .i64 N := (he2 18 (by omega)).trans (by simp [t18])
    have u3 : a2.eval (.tmp 3) = .pointer (some ⟨h + 2, 0, none⟩) := (he2 3 (by omega)).trans (by simp [t3])
    refine region_p 2 ?_
    intro K hK
    refine ListK.bin (i := 0) (u := .int .i64 j) (u' := .int .i64 1) rfl u19 rfl (add94 (by omega) (by omega) _) ?_
    refine ListK.move (i := 1) (v := .int .i64 ((j + 1 : Nat) : Int)) rfl (by simp [hz2]) ?_
    have hmu : ∀ b : Act, b.eval (.tmp 19) = .int .i64 ((j + 1 : Nat) : Int) → N - (intOf (b.eval (.tmp 19))).toNat < N - (intOf (a.eval (.tmp 19))).toNat := by
      intro b e
      rw [e, t19]
      simp only [intOf]
      omega
    refine ListK.done (hK _ _ ⟨⟨j + 1, ve', vl', by omega, by simp only [size_put, hz2], by simp only [defers_put, hd2, hdf], (by simp [u3]), (by simp [u18]), (by simp [hz2]), ?_⟩, hmu _ (by simp [hz2])⟩)
    rw [List.replicate_succ', List.replicate_succ']
    exact hb2
  · obtain rfl : j = N := by omega
    refine wpIn_seq (wpIn_cond (t := false) (by simp [hsz]) (wpIn_exit ?_))
    obtain ⟨ge, ce, rfl, hg1, hl1⟩ := hb.oe.form (by omega)
    obtain ⟨gl, cl, rfl, hg2, hl2⟩ := hb.ol.form (by omega)
    refine hQ _ _ ge gl ce cl (by simp only [size_put, hsz]) (by simp only [defers_put, hdf]) (by simp [t3]) ⟨hb.kv, hb.kb, hb.low, row_of_owns hb.oe, row_of_owns hb.ol, hg1, hg2, ?_, hl1, hl2⟩
    rcases hb.ne with h1 | h1
    · simp [Value.ownBlock] at h1
    · simpa [Value.ownBlock] using h1

theorem lt_ne {a b : Nat} (h : a < b) : b ≠ a := by omega

set_option maxHeartbeats 1000000 in
/-- The second loop. -/
theorem loop2 {Q : Exit → Act → World → Prop} {a : Act} {W : World} {ge gl ce cl N : Nat} {L : Nat → Int} (hv : Valid o t l) (hs : SalesAt w h A l) (hN : N = 2 ^ l.length) (hsz : a.tmps.size = 159) (hdf : a.defers = []) (t3 : a.eval (.tmp 3) = .pointer (some ⟨h + 2, 0, none⟩))
    (t47 : a.eval (.tmp 47) = .int .i64 N) (t48 : a.eval (.tmp 48) = .int .i64 0) (hb : Bk w h o t A l.length c N ge gl ce cl (earlyTo t l 0) L W)
    (hQ : ∀ a' W' Ds, a'.tmps.size = 159 → a'.defers = Ds.map mark → a'.eval (.tmp 3) = .pointer (some ⟨h + 2, 0, none⟩) → Bk w h o t A l.length c N ge gl ce cl (early t l) L W' → Mk h Ds W' → Q .normal a' W') :
    (Code.block 2 (.loop round2)).wpIn Fence.wide 5 Try.prog Q a W := by
  have hp8 : N ≤ 256 := by rw [hN]; exact pow_le hv.len
  refine wpIn_block (wpIn_loop (fun a W => ∃ (d : Nat) (Ds : List Nat), d ≤ N ∧ a.tmps.size = 159 ∧ a.defers = Ds.map mark ∧ a.eval (.tmp 3) = .pointer (some ⟨h + 2, 0, none⟩) ∧ a.eval (.tmp 47) = .int .i64 N ∧ a.eval (.tmp 48) = .int .i64 d ∧
    Bk w h o t A l.length c N ge gl ce cl (earlyTo t l d) L W ∧ Mk h Ds W) (fun a _ => N - (intOf (a.eval (.tmp 48))).toNat) ⟨0, [], Nat.zero_le _, hsz, hdf, t3, t47, t48, hb, Mk.nil _ _⟩ ?_)
  clear hb t3 t47 t48 hsz hdf a W
  rintro a W ⟨d, Ds, hdN, hsz, hdf, t3, t47, t48, hb, hm⟩
  refine wpIn_seq (region_p 1 ?_)
  intro K hK
  refine ListK.bin (i := 0) (u := .int .i64 d) (u' := .int .i64 N) rfl t48 t47 (lss94 _) ?_
  refine ListK.done (hK _ _ ?_)
  clear hK K
  by_cases hlt : d < N
  · refine wpIn_seq (wpIn_cond (t := true) (by simp [hsz]; omega) (wpIn_skip ?_))
    -- the round's end, from whatever frame and world
    have hend : ∀ (a' : Act) (W' : World) (Ds' : List Nat), a'.tmps.size = 159 → a'.defers = Ds'.map mark → a'.eval (.tmp 3) = .pointer (some ⟨h + 2, 0, none⟩) → a'.eval (.tmp 47) = .int .i64 N → a'.eval (.tmp 48) = .int .i64 d → Bk w h o t A l.length c N ge gl ce cl (earlyTo t l (d + 1)) L W' → Mk h Ds' W' →
        (Code.region 18 ops18 false).wpIn Fence.wide 5 Try.prog (Exit.then (fun a' w' => (∃ (d : Nat) (Ds : List Nat), d ≤ N ∧ a'.tmps.size = 159 ∧ a'.defers = Ds.map mark ∧ a'.eval (.tmp 3) = .pointer (some ⟨h + 2, 0, none⟩) ∧ a'.eval (.tmp 47) = .int .i64 N ∧ a'.eval (.tmp 48) = .int .i64 d ∧
          Bk w h o t A l.length c N ge gl ce cl (earlyTo t l d) L w' ∧ Mk h Ds w') ∧ N - (intOf (a'.eval (.tmp 48))).toNat < N - (intOf (a.eval (.tmp 48))).toNat) (Exit.inBlock 2 Q)) a' W' := by
      intro a' W' Ds' hz hd1 u3 u47 u48 hb' hm'
      have hmu : ∀ b : Act, b.eval (.tmp 48) = .int .i64 ((d + 1 : Nat) : Int) → N - (intOf (b.eval (.tmp 48))).toNat < N - (intOf (a.eval (.tmp 48))).toNat := by
        intro b e
        rw [e, t48]
        simp only [intOf]
        omega
      refine region_p 2 ?_
      intro K hK
      refine ListK.bin (i := 0) (u := .int .i64 d) (u' := .int .i64 1) rfl u48 rfl (add94 (by omega) (by omega) _) ?_
      refine ListK.move (i := 1) (v := .int .i64 ((d + 1 : Nat) : Int)) rfl (by simp [hz]) ?_
      refine ListK.done (hK _ _ ⟨⟨d + 1, Ds', by omega, by simp only [size_put, hz], by simp only [defers_put, hd1], (by simp [u3]), (by simp [u47]), (by simp [hz]), hb', hm'⟩, hmu _ (by simp [hz])⟩)
    refine wpIn_seq (wpIn_block (wpIn_seq (region_p 3 ?_)))
    intro K hK
    refine ListK.move (i := 0) (v := .int .i64 d) rfl (by simp [t48]) ?_
    refine ListK.alloc (i := 1) rfl (al94 W) ?_
    refine ListK.store (i := 2) (u := .pointer (some ⟨W.heap.size, 0, none⟩)) (u' := .int .i64 d) rfl (by simp [hsz]) (by simp [hsz]) (sa94 W _) ?_
    refine ListK.done (hK _ _ ?_)
    clear hK K
    have hb1 := hb.alloc (.cells #[.int .i64 d] 94)
    have hm1 : Mk h Ds (W.alloc (.cells #[.int .i64 d] 94)) := hm.others (KeepsOthers.alloc _ _)
    have hd1 := cell_new1 W (.int .i64 d) 94
    have hne1 : W.heap.size ≠ ge := lt_ne hb.lt1
    have hbd := hb.base
    generalize W.alloc (.cells #[.int .i64 d] 94) = W1 at *
    generalize hbs : W.heap.size = bd at *
    clear hbs hb hm W
    obtain ⟨a1, ha1⟩ : ∃ a1 : Act, a1 = (((a.put (some 49) (.bool (decide ((d : Int) < N)))).put (some 50) (.int .i64 d)).put (some 4) (.pointer (some ⟨bd, 0, none⟩))) := ⟨_, rfl⟩
    have hz1 : a1.tmps.size = 159 := by rw [ha1]; simp only [size_put, hsz]
    have v3 : a1.eval (.tmp 3) = .pointer (some ⟨h + 2, 0, none⟩) := by rw [ha1]; exact (by simp [t3])
    have v4 : a1.eval (.tmp 4) = .pointer (some ⟨bd, 0, none⟩) := by rw [ha1]; exact (by simp [hsz])
    have v47 : a1.eval (.tmp 47) = .int .i64 N := by rw [ha1]; exact (by simp [t47])
    have v48 : a1.eval (.tmp 48) = .int .i64 d := by rw [ha1]; exact (by simp [t48])
    have hdf1 : a1.defers = Ds.map mark := by rw [ha1]; simp only [defers_put, hdf]
    rw [← ha1]
    clear ha1
    refine wpIn_seq (wpIn_seq (region10 (bk := h + 2) (kb := h + 1) (bd := bd) (g := ge) (N := N) (c := ce) (d := d) (e := earlyTo t l d d) (wideF_plain _) hz1 v3 v4 (hb1.kv.cell 0) (hb1.kb.cell 3) hd1 (hb1.re d hlt).1 hlt ?_))
    by_cases he : earlyTo t l d d = 101
    · refine wpIn_cond (t := true) (by simp [hz1, he]) (wpIn_exit ?_)
      refine hend _ _ Ds (by simp only [size_put, hz1]) (by simp only [defers_put, hdf1]) (by simp [v3]) (by simp [v47]) (by simp [v48]) ?_ (hm1.others (KeepsOthers.drew _))
      rw [show earlyTo t l (d + 1) = earlyTo t l d by simp [earlyTo, he]]
      exact hb1.drew
    · refine wpIn_cond (t := false) (by simp [hz1, he]) (wpIn_skip ?_)
      have hb2 := hb1.drew
      have hm2 : Mk h Ds W1.drew := hm1.others (KeepsOthers.drew _)
      have hd2 : W1.drew.cell? ⟨bd, 0, none⟩ = some (.int .i64 d) := hd1
      generalize W1.drew = W2 at *
      clear hb1 hm1 hd1 W1
      refine wpIn_seq (region_p 3 ?_)
      intro K hK
      refine ListK.load (i := 0) (p := ⟨h + 2, 0, none⟩) (v := .pointer (some ⟨h + 1, 0, none⟩)) rfl (by simp [v3]) (ld89 (hb2.kv.cell 0)) ?_
      refine ListK.load (i := 1) (p := ⟨bd, 0, none⟩) (v := .int .i64 d) rfl (by simp [v4]) (ld94 hd2) ?_
      refine ListK.call (i := 2) (vs := #[.pointer (some ⟨h + 1, 0, none⟩), .int .i64 d]) rfl (enters_of Try.func56 (by kernel_rfl) rfl) (by simp [hz1]) ((next_any _ _ _).mono ?_)
      rintro _ _ ⟨rfl, rfl⟩
      refine ⟨_, rfl, ListK.done (hK _ _ ?_)⟩
      clear hK K
      have hb3 := (hb2.alloc (.cells #[.pointer (some ⟨h + 1, 0, none⟩)] 89)).alloc (.cells #[.int .i64 d] 94)
      have hm3 : Mk h Ds ((W2.alloc (.cells #[.pointer (some ⟨h + 1, 0, none⟩)] 89)).alloc (.cells #[.int .i64 d] 94)) := hm2.others ((KeepsOthers.alloc _ _).trans (KeepsOthers.alloc _ _))
      have hd3 := cell_alloc_l (.cells #[.int .i64 d] 94) (cell_alloc_l (.cells #[.pointer (some ⟨h + 1, 0, none⟩)] 89) hd2)
      have hp3 := cell_alloc_l (.cells #[.int .i64 d] 94) (cell_new1 W2 (.pointer (some ⟨h + 1, 0, none⟩)) 89)
      have hq3 := cell_new1 (W2.alloc (.cells #[.pointer (some ⟨h + 1, 0, none⟩)] 89)) (.int .i64 d) 94
      have hq4 : W2.heap.size + 1 ≠ ge := by have := hb2.lt1; omega
      have hz2 := hb2.base
      rw [World.size_alloc] at hq3
      generalize (W2.alloc (.cells #[.pointer (some ⟨h + 1, 0, none⟩)] 89)).alloc (.cells #[.int .i64 d] 94) = W3 at *
      subst hN
      refine wpIn_block (range2 (d := d) (bd := bd) (E := earlyTo t l d) (Ds := Ds) (p := W2.heap.size) (q := W2.heap.size + 1) hv hs hlt ⟨hb3, hd3, hm3⟩ (by simp only [size_put, hz1]) (by simp [v3]) (by simp [v4]) hne1 (by simp [hz1]) hp3 hq3 hq4 ?_)
      intro D W4 hD hi4 hD4
      refine hend _ _ (D :: Ds) (by simp only [size_put, hz1]) ?_ ?_ ?_ ?_ ?_ (hi4.mks.cons (by have := hb3.base; omega) hD4 (fun D' hD' => by have := hm3.lt hD'; omega))
      · simp only [defers_put, hdf1, List.map_cons]
      · exact (ev_df _ _ _).trans (by simp [v3])
      · exact (ev_df _ _ _).trans (by simp [v47])
      · exact (ev_df _ _ _).trans (by simp [v48])
      · rw [show earlyTo t l (d + 1) = (nextL t l d).foldl (stepE l d) (earlyTo t l d) by simp [earlyTo, he], ← nextL_eq]
        exact hi4.bk
  · obtain rfl : d = N := by omega
    refine wpIn_seq (wpIn_cond (t := false) (by simp [hsz]) (wpIn_exit ?_))
    refine hQ _ _ Ds (by simp only [size_put, hsz]) (by simp only [defers_put, hdf]) (by simp [t3]) ?_ hm
    rw [early, ← hN]
    exact hb

set_option maxHeartbeats 1000000 in
/-- The third loop. -/
theorem loop3 {Q : Exit → Act → World → Prop} {a : Act} {W : World} {ge gl ce cl N bd0 : Nat} {E : Nat → Int} {Ds0 : List Nat} (hv : Valid o t l) (hs : SalesAt w h A l) (hN : N = 2 ^ l.length) (hsz : a.tmps.size = 159) (hdf : a.defers = Ds0.map mark) (t3 : a.eval (.tmp 3) = .pointer (some ⟨h + 2, 0, none⟩))
    (t9 : a.eval (.tmp 9) = .pointer (some ⟨bd0, 0, none⟩)) (hbd0 : Whole W bd0 94 #[.int .i64 ((N : Int) - 2)]) (hne0 : bd0 ≠ ge ∧ bd0 ≠ gl ∧ h + 3 ≤ bd0) (hb : Bk w h o t A l.length c N ge gl ce cl E (lateTo t l 0) W) (hm0 : Mk h Ds0 W)
    (hQ : ∀ a' W' Ds, a'.tmps.size = 159 → a'.defers = Ds.map mark → a'.eval (.tmp 3) = .pointer (some ⟨h + 2, 0, none⟩) → Bk w h o t A l.length c N ge gl ce cl E (late t l) W' → Mk h Ds W' → Q .normal a' W') :
    (Code.block 6 (.loop round3)).wpIn Fence.wide 5 Try.prog Q a W := by
  have hp8 : N ≤ 256 := by rw [hN]; exact pow_le hv.len
  have hp1 : 1 ≤ N := by rw [hN]; exact pow_pos' _
  refine wpIn_block (wpIn_loop (fun a W => ∃ (j bd : Nat) (Ds : List Nat), j ≤ N - 1 ∧ a.tmps.size = 159 ∧ a.defers = Ds.map mark ∧ a.eval (.tmp 3) = .pointer (some ⟨h + 2, 0, none⟩) ∧ a.eval (.tmp 9) = .pointer (some ⟨bd, 0, none⟩) ∧ Whole W bd 94 #[.int .i64 ((N : Int) - 2 - j)] ∧ (bd ≠ ge ∧ bd ≠ gl ∧ h + 3 ≤ bd) ∧
    Bk w h o t A l.length c N ge gl ce cl E (lateTo t l j) W ∧ Mk h Ds W) (fun a W => match a.eval (.tmp 9) with | .pointer (some p) => (match W.cell? p with | some v => (intOf v + 1).toNat | none => 0) | _ => 0) ⟨0, bd0, Ds0, Nat.zero_le _, hsz, hdf, t3, t9, by simpa using hbd0, hne0, hb, hm0⟩ ?_)
  clear hb t3 t9 hsz hdf hbd0 hne0 hm0 a W
  rintro a W ⟨j, bd, Ds, hj, hsz, hdf, t3, t9, hw, hne, hb, hm⟩
  have hc : W.cell? ⟨bd, 0, none⟩ = some (.int .i64 ((N : Int) - 2 - j)) := hw.cell 0
  refine wpIn_seq (wpIn_seq (region_p 2 ?_))
  intro K hK
  refine ListK.load (i := 0) (p := ⟨bd, 0, none⟩) (v := .int .i64 ((N : Int) - 2 - j)) rfl t9 (ld94 hc) ?_
  refine ListK.bin (i := 1) (u := .int .i64 ((N : Int) - 2 - j)) (u' := .int .i64 0) rfl (by simp [hsz]) rfl (geq94 _) ?_
  refine ListK.done (hK _ _ ?_)
  clear hK K
  by_cases hlt : j < N - 1
  · refine wpIn_cond (t := true) (by simp [hsz]; omega) (wpIn_skip ?_)
    obtain ⟨d, hd, hdN⟩ : ∃ d : Nat, (N : Int) - 2 - j = d ∧ d = N - 2 - j := ⟨N - 2 - j, by omega, rfl⟩
    rw [hd] at hc hw ⊢
    have hdlt : d < N := by omega
    obtain ⟨a1, ha1⟩ : ∃ a1 : Act, a1 = (a.put (some 112) (.int .i64 d)).put (some 113) (.bool (decide ((0 : Int) ≤ d))) := ⟨_, rfl⟩
    have hz1 : a1.tmps.size = 159 := by rw [ha1]; simp only [size_put, hsz]
    have v3 : a1.eval (.tmp 3) = .pointer (some ⟨h + 2, 0, none⟩) := by rw [ha1]; exact (by simp [t3])
    have v9 : a1.eval (.tmp 9) = .pointer (some ⟨bd, 0, none⟩) := by rw [ha1]; exact (by simp [t9])
    have hdf1 : a1.defers = Ds.map mark := by rw [ha1]; simp only [defers_put, hdf]
    rw [← ha1]
    clear ha1
    refine wpIn_seq (wpIn_block (wpIn_seq (region_p 3 ?_)))
    intro K hK
    refine ListK.load (i := 0) (p := ⟨h + 2, 0, none⟩) (v := .pointer (some ⟨h + 1, 0, none⟩)) rfl (by simp [v3]) (ld89 (hb.kv.cell 0)) ?_
    refine ListK.load (i := 1) (p := ⟨bd, 0, none⟩) (v := .int .i64 d) rfl (by simp [v9]) (ld94 hc) ?_
    refine ListK.call (i := 2) (vs := #[.pointer (some ⟨h + 1, 0, none⟩), .int .i64 d]) rfl (enters_of Try.func56 (by kernel_rfl) rfl) (by simp [hz1]) ((next_any _ _ _).mono ?_)
    rintro _ _ ⟨rfl, rfl⟩
    refine ⟨_, rfl, ListK.done (hK _ _ ?_)⟩
    clear hK K
    have hb3 := (hb.alloc (.cells #[.pointer (some ⟨h + 1, 0, none⟩)] 89)).alloc (.cells #[.int .i64 d] 94)
    have hm3 : Mk h Ds ((W.alloc (.cells #[.pointer (some ⟨h + 1, 0, none⟩)] 89)).alloc (.cells #[.int .i64 d] 94)) := hm.others ((KeepsOthers.alloc _ _).trans (KeepsOthers.alloc _ _))
    have hd3 := cell_alloc_l (.cells #[.int .i64 d] 94) (cell_alloc_l (.cells #[.pointer (some ⟨h + 1, 0, none⟩)] 89) hc)
    have hp3 := cell_alloc_l (.cells #[.int .i64 d] 94) (cell_new1 W (.pointer (some ⟨h + 1, 0, none⟩)) 89)
    have hq3 := cell_new1 (W.alloc (.cells #[.pointer (some ⟨h + 1, 0, none⟩)] 89)) (.int .i64 d) 94
    have hq4 : W.heap.size + 1 ≠ gl := by have := hb.lt2; omega
    rw [World.size_alloc] at hq3
    generalize (W.alloc (.cells #[.pointer (some ⟨h + 1, 0, none⟩)] 89)).alloc (.cells #[.int .i64 d] 94) = W3 at *
    have hmu : ∀ (b : Act) (W' : World) (p : Addr), b.eval (.tmp 9) = .pointer (some p) → W'.cell? p = some (.int .i64 ((d : Int) - 1)) →
        (match b.eval (.tmp 9) with | .pointer (some p) => (match W'.cell? p with | some v => (intOf v + 1).toNat | none => 0) | _ => 0) < (match a.eval (.tmp 9) with | .pointer (some p) => (match W.cell? p with | some v => (intOf v + 1).toNat | none => 0) | _ => 0) := by
      intro b W' p e1 e2
      rw [e1, t9]
      simp only [e2, hc, intOf]
      omega
    subst hN
    refine wpIn_block (range3 (d := d) (bd := bd) (L := lateTo t l j) (Ds := Ds) (p := W.heap.size) (q := W.heap.size + 1) hv hs hdlt ⟨hb3, hd3, hm3⟩ (by simp only [size_put, hz1]) (by simp [v3]) (by simp [v9]) hne.2.1 (by simp [hz1]) hp3 hq3 hq4 ?_)
    intro D W4 hD hi4 hD4
    have hm4 := hi4.mks.cons (D := D) (by have := hb3.base; omega) hD4 (fun D' hD' => by have := hm3.lt hD'; omega)
    have hb4 : Bk w h o t A l.length c (2 ^ l.length) ge gl ce cl E (lateTo t l (j + 1)) W4 := by
      rw [show lateTo t l (j + 1) = (nextL t l d).foldl (stepL l d) (lateTo t l j) by rw [hdN]; rfl, ← nextL_eq]
      exact hi4.bk
    obtain ⟨a2, ha2⟩ : ∃ a2 : Act, a2 = { (((a1.put (some 116) (.pointer (some ⟨h + 1, 0, none⟩))).put (some 117) (.int .i64 d)).put (some 118) (.func (.func 72) #[] #[.pointer (some ⟨W.heap.size, 0, none⟩), .pointer (some ⟨W.heap.size + 1, 0, none⟩)])) with defers := mark D :: (((a1.put (some 116) (.pointer (some ⟨h + 1, 0, none⟩))).put (some 117) (.int .i64 d)).put (some 118) (.func (.func 72) #[] #[.pointer (some ⟨W.heap.size, 0, none⟩), .pointer (some ⟨W.heap.size + 1, 0, none⟩)])).defers } := ⟨_, rfl⟩
    have hz2 : a2.tmps.size = 159 := by rw [ha2]; simp only [size_put, hz1]
    have x3 : a2.eval (.tmp 3) = .pointer (some ⟨h + 2, 0, none⟩) := by rw [ha2]; exact (ev_df _ _ _).trans (by simp [v3])
    have x9 : a2.eval (.tmp 9) = .pointer (some ⟨bd, 0, none⟩) := by rw [ha2]; exact (ev_df _ _ _).trans (by simp [v9])
    have hdf2 : a2.defers = (D :: Ds).map mark := by rw [ha2]; simp only [defers_put, hdf1, List.map_cons]
    have hc4 := hi4.db
    have hbase4 := hb4.base
    have hl1 := hb4.lt1
    have hl2 := hb4.lt2
    show (Code.seq _ _).wpIn _ _ _ _ _ _
    rw [← ha2]
    clear ha2
    refine wpIn_seq (wpIn_seq (region_p 1 ?_))
    intro K hK
    refine ListK.load (i := 0) (p := ⟨bd, 0, none⟩) (v := .int .i64 d) rfl x9 (ld94 hc4) ?_
    refine ListK.done (hK _ _ ?_)
    clear hK K
    refine region_p 2 ?_
    intro K hK
    refine ListK.alloc (i := 0) rfl (al94 W4) ?_
    refine ListK.store (i := 1) (u := .pointer (some ⟨W4.heap.size, 0, none⟩)) (u' := .int .i64 d) rfl (by simp [hz2]) (by simp [hz2]) (sa94 W4 _) ?_
    refine ListK.done (hK _ _ ?_)
    clear hK K
    have hw5 := Whole.new W4 94 #[.int .i64 d]
    have hb5 := hb4.alloc (.cells #[.int .i64 d] 94)
    have hm5 : Mk h (D :: Ds) (W4.alloc (.cells #[.int .i64 d] 94)) := hm4.others (KeepsOthers.alloc _ _)
    generalize W4.alloc (.cells #[.int .i64 d] 94) = W5 at *
    have hgn : W4.heap.size ≠ ge ∧ W4.heap.size ≠ gl ∧ h + 3 ≤ W4.heap.size := ⟨by omega, by omega, hbase4⟩
    generalize W4.heap.size = b5 at *
    refine region_p 3 ?_
    intro K hK
    refine ListK.load (i := 0) (p := ⟨b5, 0, none⟩) (v := .int .i64 d) rfl (by simp [hz2]) (ld94 (hw5.cell 0)) ?_
    refine ListK.bin (i := 1) (u := .int .i64 d) (u' := .int .i64 1) rfl (by simp [hz2]) rfl (sub94 (by omega) (by omega) _) ?_
    refine ListK.store (i := 2) (u := .pointer (some ⟨b5, 0, none⟩)) (u' := .int .i64 ((d : Int) - 1)) rfl (by simp [hz2]) (by simp [hz2]) (st94 (hw5.cell 0) (hw5.frozen 0)) ?_
    have hw6 : Whole (W5.setCell ⟨b5, 0, none⟩ (.int .i64 ((d : Int) - 1))) b5 94 #[.int .i64 ((d : Int) - 1)] := hw5.set 0 _
    refine ListK.done (hK _ _ ⟨⟨j + 1, b5, D :: Ds, by omega, by simp only [size_put, hz2], by simp only [defers_put, hdf2], (by simp [x3]), (by simp [hz2]), ?_, hgn, ?_, ?_⟩, ?_⟩)
    · rw [show (((2 ^ l.length : Nat) : Int) - 2 - ((j + 1 : Nat) : Int)) = (d : Int) - 1 by omega]
      exact hw6
    · exact hb5.far (p := ⟨b5, 0, none⟩) hgn.2.2 (Ne.symm hgn.1) (Ne.symm hgn.2.1) _
    · exact hm5.others (KeepsOthers.setCell _ _ _)
    · exact hmu _ _ ⟨b5, 0, none⟩ (by simp [hz2]) (hw6.cell 0)
  · obtain rfl : j = N - 1 := by omega
    refine wpIn_cond (t := false) (by simp [hsz]; omega) (wpIn_exit ?_)
    refine hQ _ _ Ds (by simp only [size_put, hsz]) (by simp only [defers_put, hdf]) (by simp [t3]) ?_ hm
    rw [late, ← hN]
    exact hb
end
end Go.Proofs.Ytfcnombmphophaa
namespace Go.Proofs.Ytfcnombmphophaa
open Go.RowKit Go.Shelf

theorem bx31 (w : World) (o t : Int) (A : Option Addr) (n c : Nat) : (Instr.box 31 (.agg #[.int .i64 o, .int .i64 t, .slice A n c])).run Try.prog w = .ok (.pointer (some ⟨w.heap.size, 0, none⟩)) (w.alloc (.cells #[.int .i64 o, .int .i64 t, .slice A n c] 31)) := by
  go_simp
theorem ld31 (w : World) (o t : Int) (A : Option Addr) (n c : Nat) : (Instr.loadAt 31 (.pointer (some ⟨w.heap.size, 0, none⟩))).run Try.prog (w.alloc (.cells #[.int .i64 o, .int .i64 t, .slice A n c] 31)) = .ok (.agg #[.int .i64 o, .int .i64 t, .slice A n c]) (w.alloc (.cells #[.int .i64 o, .int .i64 t, .slice A n c] 31)) := by
  go_simp
theorem bd114 (w : World) (o t : Int) (A : Option Addr) (n c : Nat) : (Instr.build 114 #[(0, .agg #[.int .i64 o, .int .i64 t, .slice A n c])]).run Try.prog w = .ok (.agg #[.int .i64 o, .int .i64 t, .slice A n c, .slice none 0 0, .slice none 0 0]) w := by
  go_simp
theorem bx114 (w : World) (o t : Int) (A : Option Addr) (n c : Nat) : (Instr.box 114 (.agg #[.int .i64 o, .int .i64 t, .slice A n c, .slice none 0 0, .slice none 0 0])).run Try.prog w = .ok (.pointer (some ⟨w.heap.size, 0, none⟩)) (w.alloc (.cells #[.int .i64 o, .int .i64 t, .slice A n c, .slice none 0 0, .slice none 0 0] 114)) := by
  go_simp
theorem ListK.bld {P : Program} {ops : Array Oper} {K : Act → World → Prop} {k i d : Nat} {a : Act} {w : World} {ty : TypeId} {pos : String} {aft : Array Edge} {v : Value} {t : TypeId} {parts : Array (Nat × Operand)} {ps : Array (Nat × Value)} (hi : ops[i]? = some ⟨some d, .build t parts, ty, pos, aft, none⟩) (hp : parts.map (fun (i, x) => (i, a.eval x)) = ps)
    (hv : (Instr.build t ps).run P w = .ok v w) (h : ListK P ops K k (i + 1) (a.put (some d) v) w) : ListK P ops K (k + 1) i a w := ListK.val hi rfl (by simp only [execOp, hp]; simp [hv]) h

set_option maxHeartbeats 1000000 in
/-- book: a new book, its tables the early and the late days. -/
theorem book_bk (o t : Int) (A : Option Addr) (l : List Sale) (c : Nat) (w : World) (hv : Valid o t l) (hs : SalesAt w w.heap.size A l) :
    Calls Try.prog 61 #[.agg #[.int .i64 o, .int .i64 t, .slice A l.length c]] w fun e w' => e = .returned (.pointer (some ⟨w.heap.size + 1, 0, none⟩)) ∧
      ∃ ge gl ce cl, Bk w w.heap.size o t A l.length c (2 ^ l.length) ge gl ce cl (early t l) (late t l) w' := by
  obtain ⟨N, hN⟩ : ∃ N, N = 2 ^ l.length := ⟨_, rfl⟩
  rw [← hN]
  have hp8 : N ≤ 256 := by rw [hN]; exact pow_le hv.len
  have hp1 : 1 ≤ N := by rw [hN]; exact pow_pos' _
  obtain ⟨h, hh⟩ : ∃ h, h = w.heap.size := ⟨_, rfl⟩
  rw [← hh] at hs ⊢
  refine (callsIn_wide (n := 5)).1 (callsIn_of_wp_marks Try.func61 body61 trivial ?_ rfl)
  obtain ⟨a, ha⟩ : ∃ a : Act, a = { tmps := #[.agg #[.int .i64 o, .int .i64 t, .slice A l.length c]] ++ Array.replicate (Try.f61.ntmps - (#[.agg #[.int .i64 o, .int .i64 t, .slice A l.length c]] : Array Value).size) undef, defers := [] } := ⟨_, rfl⟩
  have hsz : a.tmps.size = 159 := by rw [ha]; simp [Try.ntmps61]
  have t0 : a.eval (.tmp 0) = .agg #[.int .i64 o, .int .i64 t, .slice A l.length c] := by rw [ha]; simp [Act.eval]
  have hdf : a.defers = [] := by rw [ha]
  rw [← ha]
  clear ha
  unfold code61
  refine wpIn_seq (region_p 2 ?_)
  intro K hK
  refine ListK.box (i := 0) (u := .agg #[.int .i64 o, .int .i64 t, .slice A l.length c]) rfl t0 (bx31 w _ _ _ _ _) ?_
  refine ListK.assign (i := 1) (v := .pointer none) rfl rfl ?_
  refine ListK.done (hK _ _ ?_)
  clear hK K
  refine wpIn_seq (region_p 5 ?_)
  intro K hK
  refine ListK.load (i := 0) (p := ⟨w.heap.size, 0, none⟩) (v := .agg #[.int .i64 o, .int .i64 t, .slice A l.length c]) rfl (by simp [hsz]) (ld31 w _ _ _ _ _) ?_
  refine ListK.bld (i := 1) (ps := #[(0, .agg #[.int .i64 o, .int .i64 t, .slice A l.length c])]) (v := .agg #[.int .i64 o, .int .i64 t, .slice A l.length c, .slice none 0 0, .slice none 0 0]) rfl (by simp [hsz]) (bd114 _ _ _ _ _ _) ?_
  refine ListK.box (i := 2) (u := .agg #[.int .i64 o, .int .i64 t, .slice A l.length c, .slice none 0 0, .slice none 0 0]) rfl (by simp [hsz]) (bx114 _ _ _ _ _ _) ?_
  refine ListK.alloc (i := 3) rfl (al89 _) ?_
  refine ListK.store (i := 4) (u := .pointer (some ⟨w.heap.size + 2, 0, none⟩)) (u' := .pointer (some ⟨w.heap.size + 1, 0, none⟩)) rfl (by simp [hsz]) (by simp [hsz]) (by have := sa89 ((w.alloc (.cells #[.int .i64 o, .int .i64 t, .slice A l.length c] 31)).alloc (.cells #[.int .i64 o, .int .i64 t, .slice A l.length c, .slice none 0 0, .slice none 0 0] 114)) (some ⟨w.heap.size + 1, 0, none⟩); simpa using this) ?_
  refine ListK.done (hK _ _ ?_)
  clear hK K
  have hbm : BM w h o t A l.length c (.slice none 0 0) (.slice none 0 0) 0 0 [] [] (.slice none 0 0) (.slice none 0 0) (((w.alloc (.cells #[.int .i64 o, .int .i64 t, .slice A l.length c] 31)).alloc (.cells #[.int .i64 o, .int .i64 t, .slice A l.length c, .slice none 0 0, .slice none 0 0] 114)).alloc (.cells #[.pointer (some ⟨w.heap.size + 1, 0, none⟩)] 89)) := by
    refine ⟨?_, ?_, ?_, World.ownsRow_nil _ _ _ _, World.ownsRow_nil _ _ _ _, .inl rfl⟩
    · have := Whole.new ((w.alloc (.cells #[.int .i64 o, .int .i64 t, .slice A l.length c] 31)).alloc (.cells #[.int .i64 o, .int .i64 t, .slice A l.length c, .slice none 0 0, .slice none 0 0] 114)) 89 #[.pointer (some ⟨w.heap.size + 1, 0, none⟩)]
      simpa [hh] using this
    · have := (Whole.new (w.alloc (.cells #[.int .i64 o, .int .i64 t, .slice A l.length c] 31)) 114 #[.int .i64 o, .int .i64 t, .slice A l.length c, .slice none 0 0, .slice none 0 0]).alloc (.cells #[.pointer (some ⟨w.heap.size + 1, 0, none⟩)] 89)
      simpa [hh] using this
    · rw [hh]
      exact (((Below.refl _ _).alloc (Nat.le_refl _) _).alloc (by simp) _).alloc (by simp; omega) _
  obtain ⟨W1, hW1⟩ : ∃ W1 : World, W1 = ((w.alloc (.cells #[.int .i64 o, .int .i64 t, .slice A l.length c] 31)).alloc (.cells #[.int .i64 o, .int .i64 t, .slice A l.length c, .slice none 0 0, .slice none 0 0] 114)).alloc (.cells #[.pointer (some ⟨w.heap.size + 1, 0, none⟩)] 89) := ⟨_, rfl⟩
  rw [← hW1] at hbm ⊢
  clear hW1
  have hba1 : BatchAt W1 h (h + 1) o t A l c := ⟨hbm.kb.cell 0, hbm.kb.cell 1, hbm.kb.cell 2, hs.below hbm.low (Nat.le_refl _)⟩
  generalize hA : Act.put _ _ _ = a1
  have hz1 : a1.tmps.size = 159 := by rw [← hA]; simp only [size_put, hsz]
  have u3 : a1.eval (.tmp 3) = .pointer (some ⟨h + 2, 0, none⟩) := by rw [← hA]; simp [hsz, hh]
  have hdf1 : a1.defers = [] := by rw [← hA]; simp only [defers_put, hdf]
  clear hA
  refine wpIn_seq (wpIn_seq (region_p 4 ?_))
  intro K hK
  refine ListK.load (i := 0) (p := ⟨h + 2, 0, none⟩) (v := .pointer (some ⟨h + 1, 0, none⟩)) rfl u3 (ld89 (hbm.kv.cell 0)) ?_
  refine ListK.call (i := 1) (vs := #[.pointer (some ⟨h + 1, 0, none⟩)]) rfl (enters_of Try.func55 (by kernel_rfl) rfl) (by simp [hz1]) ((whole_nat (N := N) hv.len hN hba1).mono ?_)
  rintro _ _ ⟨rfl, rfl⟩
  refine ⟨_, rfl, ?_⟩
  refine ListK.bin (i := 2) (u := .int .i64 ((N - 1 : Nat) : Int)) (u' := .int .i64 1) rfl (by simp [hz1]) rfl (add94 (by omega) (by omega) _) ?_
  refine ListK.move (i := 3) (v := .int .i64 0) rfl rfl ?_
  refine ListK.done (hK _ _ ?_)
  clear hK K
  rw [show ((N - 1 : Nat) : Int) + 1 = (N : Int) by omega]
  generalize hA : Act.put _ _ _ = a2
  have hz2 : a2.tmps.size = 159 := by rw [← hA]; simp only [size_put, hz1]
  have v3 : a2.eval (.tmp 3) = .pointer (some ⟨h + 2, 0, none⟩) := by rw [← hA]; exact (by simp [u3])
  have v18 : a2.eval (.tmp 18) = .int .i64 N := by rw [← hA]; exact (by simp [hz1])
  have v19 : a2.eval (.tmp 19) = .int .i64 0 := by rw [← hA]; exact (by simp [hz1])
  have hdf2 : a2.defers = [] := by rw [← hA]; simp only [defers_put, hdf1]
  clear hA
  refine loop1 hp1 hp8 hz2 hdf2 v3 v18 v19 hbm ?_
  clear hz1 hz2 hdf1 hdf2 u3 v3 v18 v19 hba1 hbm hsz t0 hdf a a1 a2 W1
  intro a W ge gl ce cl hsz hdf t3 hb
  refine wpIn_seq (region_p 6 ?_)
  intro K hK
  refine ListK.load (i := 0) (p := ⟨h + 2, 0, none⟩) (v := .pointer (some ⟨h + 1, 0, none⟩)) rfl t3 (ld89 (hb.kv.cell 0)) ?_
  refine ListK.nilCheck (i := 1) (p := ⟨h + 1, 0, none⟩) rfl (by simp [hsz]) ?_
  refine ListK.field (i := 2) (u := .pointer (some ⟨h + 1, 0, none⟩)) (v := .pointer (some ⟨h + 1, 3, none⟩)) rfl (by simp [hsz]) (fa114_1 _) ?_
  refine ListK.load (i := 3) (p := ⟨h + 1, 3, none⟩) (v := .slice (some ⟨ge, 0, none⟩) N ce) rfl (by simp [hsz]) (ld25 (hb.kb.cell 3)) ?_
  refine ListK.index (i := 4) (u := .slice (some ⟨ge, 0, none⟩) N ce) (u' := .int .i64 0) (v := .pointer (some ⟨ge, 0, none⟩)) rfl (by simp [hsz]) rfl (ix25 (i := 0) hp1 _) ?_
  refine ListK.store (i := 5) (u := .pointer (some ⟨ge, 0, none⟩)) (u' := .int .i64 0) rfl (by simp [hsz]) rfl (st3 (hb.re 0 hp1).1 (hb.re 0 hp1).2) ?_
  refine ListK.done (hK _ _ ?_)
  clear hK K
  have hb1 : Bk w h o t A l.length c N ge gl ce cl (earlyTo t l 0) (fun _ => -1) _ := hb.setE hp1 0
  generalize W.setCell ⟨ge, 0, none⟩ (.int .i64 0) = W1 at *
  generalize hA : Act.put _ _ _ = a1
  have hz1 : a1.tmps.size = 159 := by rw [← hA]; simp only [size_put, hsz]
  have u3 : a1.eval (.tmp 3) = .pointer (some ⟨h + 2, 0, none⟩) := by rw [← hA]; exact (by simp [t3])
  have hdf1 : a1.defers = [] := by rw [← hA]; simp only [defers_put, hdf]
  clear hA
  refine wpIn_seq (wpIn_seq (region_p 4 ?_))
  intro K hK
  refine ListK.load (i := 0) (p := ⟨h + 2, 0, none⟩) (v := .pointer (some ⟨h + 1, 0, none⟩)) rfl u3 (ld89 (hb1.kv.cell 0)) ?_
  refine ListK.call (i := 1) (vs := #[.pointer (some ⟨h + 1, 0, none⟩)]) rfl (enters_of Try.func55 (by kernel_rfl) rfl) (by simp [hz1]) ((whole_nat (N := N) hv.len hN (hb1.batch hs)).mono ?_)
  rintro _ _ ⟨rfl, rfl⟩
  refine ⟨_, rfl, ?_⟩
  refine ListK.bin (i := 2) (u := .int .i64 ((N - 1 : Nat) : Int)) (u' := .int .i64 1) rfl (by simp [hz1]) rfl (add94 (by omega) (by omega) _) ?_
  refine ListK.move (i := 3) (v := .int .i64 0) rfl rfl ?_
  refine ListK.done (hK _ _ ?_)
  clear hK K
  rw [show ((N - 1 : Nat) : Int) + 1 = (N : Int) by omega]
  generalize hA : Act.put _ _ _ = a2
  have hz2 : a2.tmps.size = 159 := by rw [← hA]; simp only [size_put, hz1]
  have v3 : a2.eval (.tmp 3) = .pointer (some ⟨h + 2, 0, none⟩) := by rw [← hA]; exact (by simp [u3])
  have v47 : a2.eval (.tmp 47) = .int .i64 N := by rw [← hA]; exact (by simp [hz1])
  have v48 : a2.eval (.tmp 48) = .int .i64 0 := by rw [← hA]; exact (by simp [hz1])
  have hdf2 : a2.defers = [] := by rw [← hA]; simp only [defers_put, hdf1]
  clear hA
  refine loop2 hv hs hN hz2 hdf2 v3 v47 v48 hb1 ?_
  clear hz1 hz2 hdf1 hdf2 u3 v3 v47 v48 hb1 hb t3 hsz hdf a a1 a2 W W1
  intro a W Ds hsz hdf t3 hb hm
  have hlast : N - 1 < N := by omega
  refine wpIn_seq (region19 (bk := h + 2) (kb := h + 1) (g := gl) (N := N) (c := cl) (to := N - 1) (e := -1) (wideF_plain _) hsz t3 (hb.kv.cell 0) (hb.kb.cell 4) (hb.rl _ hlast).1 hlast (hb.rl _ hlast).2 (whole_nat (N := N) hv.len hN (hb.drew.batch hs)) ?_)
  have hb1 : Bk w h o t A l.length c N ge gl ce cl (early t l) (lateTo t l 0) _ := (show lateTo t l 0 = upd (fun _ => -1) (N - 1) 101 by rw [hN]; rfl) ▸ hb.drew.setL hlast 101
  have hm1 : Mk h Ds (W.drew.setCell ⟨gl, N - 1, none⟩ (.int .i64 101)) := hm.others ((KeepsOthers.drew _).trans (KeepsOthers.setCell _ _ _))
  generalize W.drew.setCell ⟨gl, N - 1, none⟩ (.int .i64 101) = W1 at *
  generalize hA : Act.put _ _ _ = a1
  have hz1 : a1.tmps.size = 159 := by rw [← hA]; simp only [size_put, hsz]
  have u3 : a1.eval (.tmp 3) = .pointer (some ⟨h + 2, 0, none⟩) := by rw [← hA]; exact (by simp [t3])
  have hdf1 : a1.defers = Ds.map mark := by rw [← hA]; simp only [defers_put, hdf]
  clear hA
  refine wpIn_seq (wpIn_seq (region_p 5 ?_))
  intro K hK
  refine ListK.load (i := 0) (p := ⟨h + 2, 0, none⟩) (v := .pointer (some ⟨h + 1, 0, none⟩)) rfl u3 (ld89 (hb1.kv.cell 0)) ?_
  refine ListK.call (i := 1) (vs := #[.pointer (some ⟨h + 1, 0, none⟩)]) rfl (enters_of Try.func55 (by kernel_rfl) rfl) (by simp [hz1]) ((whole_nat (N := N) hv.len hN (hb1.batch hs)).mono ?_)
  rintro _ _ ⟨rfl, rfl⟩
  refine ⟨_, rfl, ?_⟩
  refine ListK.bin (i := 2) (u := .int .i64 ((N - 1 : Nat) : Int)) (u' := .int .i64 1) rfl (by simp [hz1]) rfl (sub94 (by omega) (by omega) _) ?_
  refine ListK.alloc (i := 3) rfl (al94 W1) ?_
  refine ListK.store (i := 4) (u := .pointer (some ⟨W1.heap.size, 0, none⟩)) (u' := .int .i64 (((N - 1 : Nat) : Int) - 1)) rfl (by simp [hz1]) (by simp [hz1]) (sa94 W1 _) ?_
  refine ListK.done (hK _ _ ?_)
  clear hK K
  rw [show ((N - 1 : Nat) : Int) - 1 = (N : Int) - 2 by omega]
  have hb2 := hb1.alloc (.cells #[.int .i64 ((N : Int) - 2)] 94)
  have hm2 : Mk h Ds (W1.alloc (.cells #[.int .i64 ((N : Int) - 2)] 94)) := hm1.others (KeepsOthers.alloc _ _)
  have hw2 := Whole.new W1 94 #[.int .i64 ((N : Int) - 2)]
  have hne : W1.heap.size ≠ ge ∧ W1.heap.size ≠ gl ∧ h + 3 ≤ W1.heap.size := ⟨by have := hb1.lt1; omega, by have := hb1.lt2; omega, hb1.base⟩
  generalize W1.alloc (.cells #[.int .i64 ((N : Int) - 2)] 94) = W2 at *
  generalize W1.heap.size = bd at *
  generalize hA : Act.put _ _ _ = a2
  have hz2 : a2.tmps.size = 159 := by rw [← hA]; simp only [size_put, hz1]
  have v3 : a2.eval (.tmp 3) = .pointer (some ⟨h + 2, 0, none⟩) := by rw [← hA]; exact (by simp [u3])
  have v9 : a2.eval (.tmp 9) = .pointer (some ⟨bd, 0, none⟩) := by rw [← hA]; exact (by simp [hz1])
  have hdf2 : a2.defers = Ds.map mark := by rw [← hA]; simp only [defers_put, hdf1]
  clear hA
  refine loop3 hv hs hN hz2 hdf2 v3 v9 hw2 hne hb2 hm2 ?_
  clear hz1 hz2 hdf1 hdf2 u3 v3 v9 hb1 hb2 hm1 hm2 hw2 hne hb hm t3 hsz hdf a a1 a2 W W1 W2 Ds
  intro a W Ds hsz hdf t3 hb hm
  refine wpIn_seq (region_p 2 ?_)
  intro K hK
  refine ListK.load (i := 0) (p := ⟨h + 2, 0, none⟩) (v := .pointer (some ⟨h + 1, 0, none⟩)) rfl t3 (ld89 (hb.kv.cell 0)) ?_
  refine ListK.assign (i := 1) (v := .pointer (some ⟨h + 1, 0, none⟩)) rfl (by simp [hsz]) ?_
  refine ListK.done (hK _ _ (wpIn_ret ?_))
  clear hK K
  generalize hA : Act.put _ _ _ = a1
  have hz1 : a1.tmps.size = 159 := by rw [← hA]; simp only [size_put, hsz]
  have u2 : a1.eval (.tmp 2) = .pointer (some ⟨h + 1, 0, none⟩) := by rw [← hA]; exact (by simp [hsz])
  have hdf1 : a1.defers = Ds.map mark := by rw [← hA]; simp only [defers_put, hdf]
  clear hA
  show LeavesInM _ _ _ _ _ _ _ _ _
  rw [hdf1]
  refine leaves_marks (h := h) (v := .pointer (some ⟨h + 1, 0, none⟩)) (Bk w h o t A l.length c N ge gl ce cl (early t l) (late t l)) ?_ ?_ ?_ Ds W hm hb
  · intro W' D hD hh hJ
    exact hJ.own (grownBy_putObj' _ _ _) (fun r e => by cases e; exact ⟨hD, _, hh, rfl⟩)
  · intro W'
    rw [results_tmp Try.results61]
    exact congrArg (fun v => Result.ok v W') u2
  · intro W' hJ
    exact ⟨rfl, ge, gl, ce, cl, hJ⟩
end Go.Proofs.Ytfcnombmphophaa
namespace Go.Proofs.Ytfcnombmphophaa
open Go.RowKit

set_option maxHeartbeats 400000 in
theorem notSale_any (pr : Nat) (o t : Int) (sv : Value) (s : Sale) (w : World) (ho : 0 ≤ o) (ho' : o ≤ 1000) (hp : w.cell? ⟨pr, 0, none⟩ = some (.func (.func 46) #[.agg #[.int .i64 o, .int .i64 t, sv]] #[])) :
    Calls Try.prog 71 #[.agg #[.int .i64 s.src, .int .i64 s.dst, .int .i64 s.many, .int .i64 s.lo, .int .i64 s.hi], .pointer (some ⟨pr, 0, none⟩)] w
      fun e w' => e = .returned (.bool (!saleOk o s)) ∧ Below w.heap.size w w' := by
  have hlt : pr < w.heap.size := by have := block_lt_of_cell hp; exact this
  go_enter Try.func71, Try.ntmps71
  go_wp2_with (go_at_call 46; refine (sale_any o t sv s _ ho ho').mono ?_; rintro e w' ⟨rfl, hb⟩)
  go_ret
  exact ⟨rfl, ((Below.refl _ _).alloc (Nat.le_refl _) _).trans (hb.mono (by simp))⟩

/-- The first sale that is none. -/
def badAt (o : Int) (l : List Sale) : Int := match l.findIdx? (fun s => !saleOk o s) with | some i => i | none => -1

theorem hgood_succ (o : Int) (l : List Sale) (k : Nat) (hk : k < l.length) (hg : ∀ j s, j < k → l[j]? = some s → saleOk o s = true) (h : saleOk o l[k] = true) :
    ∀ j s, j < k + 1 → l[j]? = some s → saleOk o s = true := by
  intro j s hj hs
  by_cases e : j = k
  · subst e
    rw [List.getElem?_eq_getElem hk] at hs
    cases hs
    exact h
  · exact hg j s (by omega) hs
theorem badAt_bad (o : Int) (l : List Sale) (k : Nat) (hk : k < l.length) (hg : ∀ j s, j < k → l[j]? = some s → saleOk o s = true) (h : saleOk o l[k] = false) : badAt o l = k := by
  unfold badAt
  have : l.findIdx? (fun s => !saleOk o s) = some k := by
    rw [List.findIdx?_eq_some_iff_getElem]
    refine ⟨hk, by simp [h], fun j hj => ?_⟩
    have := hg j l[j] hj (List.getElem?_eq_getElem (by omega))
    simp [this]
  rw [this]
theorem badAt_none (o : Int) (l : List Sale) (k : Nat) (hk : l.length ≤ k) (hg : ∀ j s, j < k → l[j]? = some s → saleOk o s = true) : badAt o l = -1 := by
  unfold badAt
  have : l.findIdx? (fun s => !saleOk o s) = none := by
    rw [List.findIdx?_eq_none_iff]
    intro s hs
    obtain ⟨j, hj, rfl⟩ := List.mem_iff_getElem.1 hs
    have := hg j l[j] (by omega) (List.getElem?_eq_getElem hj)
    simp [this]
  rw [this]
theorem badAt_all (o : Int) (l : List Sale) : decide (0 ≤ badAt o l) = !l.all (saleOk o) := by
  unfold badAt
  cases h : l.findIdx? (fun s => !saleOk o s) with
  | none =>
    rw [List.findIdx?_eq_none_iff] at h
    have : l.all (saleOk o) = true := List.all_eq_true.2 fun s hs => by simpa using h s hs
    simp [this]
  | some i =>
    rw [List.findIdx?_eq_some_iff_getElem] at h
    obtain ⟨hi, hb, _⟩ := h
    have : l.all (saleOk o) = false := by
      rw [List.all_eq_false]
      exact ⟨l[i], List.getElem_mem hi, by simpa using hb⟩
    simp [this]

set_option maxHeartbeats 400000 in
theorem indexBad_any (pr : Nat) (o t : Int) (sv : Value) (A : Option Addr) (l : List Sale) (c : Nat) (w : World) (ho : 0 ≤ o) (ho' : o ≤ 1000) (hl : l.length ≤ 1000000)
    (hp : w.cell? ⟨pr, 0, none⟩ = some (.func (.func 46) #[.agg #[.int .i64 o, .int .i64 t, sv]] #[])) (hs : SalesAt w w.heap.size A l) :
    Calls Try.prog 82 #[.slice A l.length c, .func (.func 71) #[] #[.pointer (some ⟨pr, 0, none⟩)]] w
      fun e w' => e = .returned (.int .i64 (badAt o l)) ∧ Below w.heap.size w w' := by
  have hlt : pr < w.heap.size := by have := block_lt_of_cell hp; exact this
  have Hp := Lib.hid hp
  have Hs := Lib.hid hs
  clear hp hs
  go_enter Try.func82, Try.ntmps82
  go_wp2
  go_loopw [8] (fun i wr => ∃ k : Nat, k ≤ l.length ∧ i = .int .i64 k ∧ (∀ j s, j < k → l[j]? = some s → saleOk o s = true) ∧ Below w.heap.size w wr) (fun i _ => l.length - (intOf i).toNat)
  case atStart => exact ⟨0, Nat.zero_le _, rfl, by omega, Below.refl _ _⟩
  case round =>
    obtain ⟨k, hk, rfl, hgood, hb⟩ := hrel
    by_cases hlt' : k < l.length
    · obtain ⟨b, off, rfl, hbB, c0, c1, c2, c3, c4⟩ := (Hs.out.below hb (Nat.le_refl _)) k l[k] (List.getElem?_eq_getElem hlt')
      have hp' : wr.cell? ⟨pr, 0, none⟩ = _ := (hb.cell (p := ⟨pr, 0, none⟩) hlt).trans Hp.out
      have HG := Lib.hid hgood
      clear hgood
      go_wp2_with fail
      refine (notSale_any pr o t sv l[k] _ ho ho' hp').mono ?_
      rintro e w1 ⟨rfl, hb1⟩
      by_cases hok : saleOk o l[k] = true
      · go_wp2_with fail
        go_roundw
        case rel => exact ⟨k + 1, by omega, by go_num, hgood_succ o l k hlt' HG.out hok, hb.trans (hb1.mono hb.size)⟩
        case measure => simp [intOf]; omega
      · have hno : saleOk o l[k] = false := by simpa using hok
        clear hok
        go_wp2_with fail
        go_ret
        exact ⟨by rw [badAt_bad o l k hlt' HG.out hno]; rfl, hb.trans (hb1.mono hb.size)⟩
    · go_wp2_with fail
      go_ret
      exact ⟨by rw [badAt_none o l k (by omega) hgood]; rfl, hb⟩

set_option maxHeartbeats 400000 in
theorem containsBad_any (pr : Nat) (o t : Int) (sv : Value) (A : Option Addr) (l : List Sale) (c : Nat) (w : World) (ho : 0 ≤ o) (ho' : o ≤ 1000) (hl : l.length ≤ 1000000)
    (hp : w.cell? ⟨pr, 0, none⟩ = some (.func (.func 46) #[.agg #[.int .i64 o, .int .i64 t, sv]] #[])) (hs : SalesAt w w.heap.size A l) :
    Calls Try.prog 70 #[.slice A l.length c, .func (.func 71) #[] #[.pointer (some ⟨pr, 0, none⟩)]] w
      fun e w' => e = .returned (.bool (!l.all (saleOk o))) ∧ Below w.heap.size w w' := by
  have Hp := Lib.hid hp
  have Hs := Lib.hid hs
  clear hp hs
  go_enter Try.func70, Try.ntmps70
  go_wp2_with (go_at_call 82; refine (indexBad_any pr o t sv A l c _ ho ho' hl Hp.out Hs.out).mono ?_; rintro e w1 ⟨rfl, hb⟩)
  go_ret
  exact ⟨by rw [← badAt_all]; rfl, hb⟩

set_option maxHeartbeats 400000 in
theorem allSales_any (o t : Int) (sv : Value) (A : Option Addr) (l : List Sale) (c : Nat) (w : World) (ho : 0 ≤ o) (ho' : o ≤ 1000) (hl : l.length ≤ 1000000) (hs : SalesAt w w.heap.size A l) :
    Calls Try.prog 48 #[.slice A l.length c, .func (.func 46) #[.agg #[.int .i64 o, .int .i64 t, sv]] #[]] w
      fun e w' => e = .returned (.bool (l.all (saleOk o))) ∧ Below w.heap.size w w' := by
  have Hs := Lib.hid hs
  clear hs
  go_enter Try.func48, Try.ntmps48
  go_wp2_with fail
  refine (containsBad_any w.heap.size o t sv A l c _ ho ho' hl (cell_new1 _ _ _) ((Hs.out.below ((Below.refl _ _).alloc (Nat.le_refl _) _) (Nat.le_refl _)).more (by simp))).mono ?_
  rintro e w1 ⟨rfl, hb⟩
  go_wp2_with fail
  go_ret
  exact ⟨by simp, ((Below.refl _ _).alloc (Nat.le_refl _) _).trans (hb.mono (by simp))⟩

end Go.Proofs.Ytfcnombmphophaa
namespace Go.Proofs.Ytfcnombmphophaa
open Go.RowKit
theorem fault_limit {o t : Int} {l : List Sale} (h : 8 < l.length) : fault o t l = 3 := by unfold fault; rw [if_pos h]
theorem fault_own {o t : Int} {l : List Sale} (h : l.length ≤ 8) (h1 : inR o 1 6 = false) : fault o t l = 1 := by unfold fault; rw [if_neg (by omega), if_neg (by simp [h1])]
theorem fault_tot {o t : Int} {l : List Sale} (h : l.length ≤ 8) (h1 : inR t 0 1000 = false) : fault o t l = 1 := by unfold fault; rw [if_neg (by omega), if_neg (by simp [h1])]
theorem fault_all {o t : Int} {l : List Sale} (h : l.length ≤ 8) (h1 : l.all (saleOk o) = false) : fault o t l = 1 := by unfold fault; rw [if_neg (by omega), if_neg (by simp [h1])]
theorem fault_ok {o t : Int} {l : List Sale} (h : l.length ≤ 8) (h1 : inR o 1 6 = true) (h2 : inR t 0 1000 = true) (h3 : l.all (saleOk o) = true) : fault o t l = 0 := by unfold fault; rw [if_neg (by omega), if_pos ⟨h1, h2, h3⟩]

set_option maxHeartbeats 400000 in
theorem checkBatch_any (o t : Int) (A : Option Addr) (l : List Sale) (c : Nat) (w : World) (hl : l.length ≤ 1000000) (hs : SalesAt w w.heap.size A l) :
    Calls Try.prog 17 #[.agg #[.int .i64 o, .int .i64 t, .slice A l.length c]] w
      fun e w' => e = .returned (.int .i64 (fault o t l)) ∧ Below w.heap.size w w' := by
  have Hs := Lib.hid (((hs.below ((Below.refl _ _).alloc (Nat.le_refl _) (.cells #[.int .i64 o, .int .i64 t, .slice A l.length c] 31)) (Nat.le_refl _)).more (by simp : w.heap.size ≤ (w.alloc (.cells #[.int .i64 o, .int .i64 t, .slice A l.length c] 31)).heap.size)))
  clear hs
  by_cases h8 : 8 < l.length
  · have HF := Lib.hid (fault_limit (o := o) (t := t) h8)
    go_enter Try.func17, Try.ntmps17
    go_wp2_with fail
    go_ret
    exact ⟨by rw [HF.out]; rfl, (Below.refl _ _).alloc (Nat.le_refl _) _⟩
  · by_cases h1 : inR o 1 6 = true
    · have ho := inR_iff.1 h1
      by_cases h2 : inR t 0 1000 = true
      · go_enter Try.func17, Try.ntmps17
        go_wp2_with (first | (go_at_call 47; refine (within_any _ _ _ _).mono ?_; rintro e w' ⟨rfl, rfl⟩))
        refine (allSales_any o t _ A l c _ (by omega) (by omega) hl Hs.out).mono ?_
        rintro e w1 ⟨rfl, hb⟩
        have hb' := ((Below.refl _ _).alloc (Nat.le_refl _) _).trans (hb.mono (by simp))
        by_cases h3 : l.all (saleOk o) = true
        · have HF := Lib.hid (fault_ok (by omega) h1 h2 h3)
          go_wp2_with fail
          go_ret
          exact ⟨by rw [HF.out]; rfl, hb'⟩
        · have h3' : l.all (saleOk o) = false := by simpa using h3
          have HF := Lib.hid (fault_all (o := o) (t := t) (by omega) h3')
          clear h3
          go_wp2_with fail
          go_ret
          exact ⟨by rw [HF.out]; rfl, hb'⟩
      · have h2' : inR t 0 1000 = false := by simpa using h2
        have HF := Lib.hid (fault_tot (o := o) (t := t) (l := l) (by omega) h2')
        clear h2
        go_enter Try.func17, Try.ntmps17
        go_wp2_with (first | (go_at_call 47; refine (within_any _ _ _ _).mono ?_; rintro e w' ⟨rfl, rfl⟩))
        go_ret
        exact ⟨by rw [HF.out]; rfl, (Below.refl _ _).alloc (Nat.le_refl _) _⟩
    · have h1' : inR o 1 6 = false := by simpa using h1
      have HF := Lib.hid (fault_own (o := o) (t := t) (l := l) (by omega) h1')
      clear h1
      go_enter Try.func17, Try.ntmps17
      go_wp2_with (first | (go_at_call 47; refine (within_any _ _ _ _).mono ?_; rintro e w' ⟨rfl, rfl⟩))
      go_ret
      exact ⟨by rw [HF.out]; rfl, (Below.refl _ _).alloc (Nat.le_refl _) _⟩
end Go.Proofs.Ytfcnombmphophaa
namespace Go.Proofs.Ytfcnombmphophaa
open Go.RowKit Go.Shelf

/-- A book in memory, to be read. -/
structure BookAt (W : World) (B kb ge gl ce cl : Nat) (o t : Int) (A : Option Addr) (l : List Sale) (c : Nat) : Prop where
  ba : BatchAt W B kb o t A l c
  c3 : W.cell? ⟨kb, 3, none⟩ = some (.slice (some ⟨ge, 0, none⟩) (2 ^ l.length) ce)
  c4 : W.cell? ⟨kb, 4, none⟩ = some (.slice (some ⟨gl, 0, none⟩) (2 ^ l.length) cl)
  e : ∀ d, d < 2 ^ l.length → W.cell? ⟨ge, d, none⟩ = some (.int .i64 (early t l d))
  f : ∀ d, d < 2 ^ l.length → W.cell? ⟨gl, d, none⟩ = some (.int .i64 (late t l d))
  le : B ≤ W.heap.size
section
variable {w W W' : World} {h B kb ge gl ce cl : Nat} {o t : Int} {A : Option Addr} {l : List Sale} {c : Nat}
theorem BookAt.lt (b : BookAt W B kb ge gl ce cl o t A l c) : kb < W.heap.size := block_lt_of_cell b.c3
theorem BookAt.keep (b : BookAt W B kb ge gl ce cl o t A l c) (hb : Below W.heap.size W W') : BookAt W' B kb ge gl ce cl o t A l c :=
  ⟨b.ba.below hb b.le b.lt, (hb.cell (block_lt_of_cell b.c3)).trans b.c3, (hb.cell (block_lt_of_cell b.c4)).trans b.c4, fun d hd => (hb.cell (block_lt_of_cell (b.e d hd))).trans (b.e d hd), fun d hd => (hb.cell (block_lt_of_cell (b.f d hd))).trans (b.f d hd), Nat.le_trans b.le hb.size⟩
theorem Bk.at_ (b : Bk w h o t A l.length c (2 ^ l.length) ge gl ce cl (early t l) (late t l) W) (hs : SalesAt w h A l) : BookAt W h (h + 1) ge gl ce cl o t A l c :=
  ⟨b.batch hs, b.kb.cell 3, b.kb.cell 4, fun d hd => (b.re d hd).1, fun d hd => (b.rl d hd).1, by have := b.base; omega⟩
end
/-- Does a batch not contradict itself? -/
def fitsB (t : Int) (l : List Sale) : Bool := early t l (2 ^ l.length - 1) != 101

set_option maxHeartbeats 1000000 in
theorem fits_any (W : World) (B kb ge gl ce cl : Nat) (o t : Int) (A : Option Addr) (l : List Sale) (c : Nat) (hl : l.length ≤ 8) (hb : BookAt W B kb ge gl ce cl o t A l c) :
    Calls Try.prog 62 #[.pointer (some ⟨kb, 0, none⟩)] W fun e w' => e = .returned (.bool (fitsB t l)) ∧ Below W.heap.size W w' := by
  obtain ⟨N, hN⟩ : ∃ N, N = 2 ^ l.length := ⟨_, rfl⟩
  have hp1 : 1 ≤ N := by rw [hN]; exact pow_pos' _
  have hc3 : W.cell? ⟨kb, 3, none⟩ = some (.slice (some ⟨ge, 0, none⟩) N ce) := by rw [hN]; exact hb.c3
  have hce : W.cell? ⟨ge, N - 1, none⟩ = some (.int .i64 (early t l (N - 1))) := hb.e (N - 1) (by omega)
  have hw := fun w' (h : BatchAt w' B kb o t A l c) => whole_nat (N := N) hl hN h
  have Hba := Lib.hid hb.ba
  have HN := Lib.hid hN
  have hlt : N - 1 < N := by omega
  have hlt' : ((N - 1 : Nat) : Int) < N := by omega
  have hlt0 : (0 : Int) ≤ ((N - 1 : Nat) : Int) := by omega
  have hfb : fitsB t l = (early t l (N - 1) != 101) := by rw [fitsB, hN]
  have Hfb := Lib.hid hfb
  clear hb hN hfb
  generalize early t l (N - 1) = e1 at *
  generalize N - 1 = m at *
  have Hw := Lib.hid hw
  clear hw
  go_enter Try.func62, Try.ntmps62
  go_wp2
  go_quiet ((go_at_call 55; exact Calls.quiet_of_same ((Hw.out _ (by exact Hba.out.keep (fun _ _ _ => rfl))).mono (fun _ _ h => ⟨h.1, h.2.symm⟩))))
  go_wp2
  go_ret
  exact ⟨by rw [Hfb.out]; rfl, below_drewN (Below.refl _ _) _⟩
end Go.Proofs.Ytfcnombmphophaa
namespace Go.Proofs.Ytfcnombmphophaa
open Go.RowKit Go.Shelf

/-- Can just the sales of d be done on the evening of a day? -/
def eveB (t : Int) (l : List Sale) (d : Nat) (day : Int) : Bool := decide (early t l d ≤ day) && decide (day < late t l d)

set_option maxHeartbeats 1000000 in
theorem evening_any (W : World) (B kb ge gl ce cl : Nat) (o t : Int) (A : Option Addr) (l : List Sale) (c d : Nat) (day : Int) (hd : d < 2 ^ l.length) (hb : BookAt W B kb ge gl ce cl o t A l c) :
    Calls Try.prog 81 #[.pointer (some ⟨kb, 0, none⟩), .int .i64 d, .int .i64 day] W fun e w' => e = .returned (.bool (eveB t l d day)) ∧ W = w' := by
  have hc3 := hb.c3
  have hc4 := hb.c4
  have hce := hb.e d hd
  have hcf := hb.f d hd
  have hE : eveB t l d day = (decide (early t l d ≤ day) && decide (day < late t l d)) := rfl
  have HE := Lib.hid hE
  clear hE hb
  generalize early t l d = e1 at *
  generalize late t l d = f1 at *
  generalize 2 ^ l.length = N at *
  by_cases h1 : e1 ≤ day
  · go_enter Try.func81, Try.ntmps81
    go_wp2
    go_ret
    exact ⟨by rw [HE.out]; simp [h1], rfl⟩
  · have hd1 : decide (e1 ≤ day) = false := by simpa using h1
    go_enter Try.func81, Try.ntmps81
    go_wp2
    go_ret
    exact ⟨by rw [HE.out]; simp [hd1], rfl⟩

/-- The error of tried. -/
def triedE (o t : Int) (l : List Sale) (right : Bool) : Int := if fault o t l ≠ 0 then fault o t l else if right = false then 2 else if fitsB t l = false then 9 else 0

theorem fault_vals (o t : Int) (l : List Sale) : fault o t l = 0 ∨ fault o t l = 1 ∨ fault o t l = 3 := by
  unfold fault
  split
  · exact .inr (.inr rfl)
  · split
    · exact .inl rfl
    · exact .inr (.inl rfl)

set_option maxHeartbeats 1000000 in
theorem tried_err (o t : Int) (A : Option Addr) (l : List Sale) (c : Nat) (right : Bool) (w : World) (hl : l.length ≤ 1000000) (hs : SalesAt w w.heap.size A l) (h : triedE o t l right ≠ 0) :
    Calls Try.prog 53 #[.agg #[.int .i64 o, .int .i64 t, .slice A l.length c], .bool right] w
      fun e w' => e = .returned (.tuple #[.pointer none, .int .i64 (triedE o t l right)]) ∧ Below w.heap.size w w' := by
  have hs1 := ((hs.below ((Below.refl _ _).alloc (Nat.le_refl _) (.cells #[.int .i64 o, .int .i64 t, .slice A l.length c] 31)) (Nat.le_refl _)).more (by simp : w.heap.size ≤ (w.alloc (.cells #[.int .i64 o, .int .i64 t, .slice A l.length c] 31)).heap.size))
  have Hs := Lib.hid hs
  have Hs1 := Lib.hid hs1
  clear hs hs1
  by_cases h0 : fault o t l = 0
  · have hv := valid_of_fault h0
    have Hv := Lib.hid hv
    cases right with
    | false =>
      have hE : triedE o t l false = 2 := by simp [triedE, h0]
      have HE := Lib.hid hE
      have H0 := Lib.hid h0
      clear h hE h0 hv
      go_enter Try.func53, Try.ntmps53
      go_wp2_with fail
      refine (checkBatch_any o t A l c _ hl Hs1.out).mono ?_
      rintro e w1 ⟨rfl, hb⟩
      rw [H0.out]
      have Hb := Lib.hid hb
      clear hb
      go_wp2_with fail
      go_ret2
      exact ⟨by rw [HE.out]; rfl, ((Below.refl _ _).alloc (Nat.le_refl _) _).trans (Hb.out.mono (by simp))⟩
    | true =>
      have hf : fitsB t l = false := by
        cases hf : fitsB t l with
        | false => rfl
        | true => simp [triedE, h0, hf] at h
      have hE : triedE o t l true = 9 := by simp [triedE, h0, hf]
      have HE := Lib.hid hE
      have H0 := Lib.hid h0
      have Hf := Lib.hid hf
      clear h hE h0 hv hf
      go_enter Try.func53, Try.ntmps53
      go_wp2_with fail
      refine (checkBatch_any o t A l c _ hl Hs1.out).mono ?_
      rintro e w1 ⟨rfl, hb⟩
      rw [H0.out]
      have hb' : Below w.heap.size w w1 := ((Below.refl _ _).alloc (Nat.le_refl _) _).trans (hb.mono (by simp))
      have hc := (hb.block w.heap.size (by simp)).trans (heap_alloc_new w _)
      have hw1 : Whole w1 w.heap.size 31 #[.int .i64 o, .int .i64 t, .slice A l.length c] := hc
      have c0 : w1.cell? ⟨w.heap.size, 0, none⟩ = some (.int .i64 o) := hw1.cell 0
      have c1 : w1.cell? ⟨w.heap.size, 1, none⟩ = some (.int .i64 t) := hw1.cell 1
      have c2 : w1.cell? ⟨w.heap.size, 2, none⟩ = some (.slice A l.length c) := hw1.cell 2
      have Hb := Lib.hid hb'
      clear hb hb' hc hw1
      go_wp2_with fail
      refine (book_bk o t A l c w1 Hv.out ((Hs.out.below Hb.out (Nat.le_refl _)).more Hb.out.size)).mono ?_
      rintro e w2 ⟨rfl, ge, gl, ce, cl, hbk⟩
      have Hbk := Lib.hid hbk
      have hba := hbk.at_ ((Hs.out.below Hb.out (Nat.le_refl _)).more Hb.out.size)
      have Hba := Lib.hid hba
      clear hbk hba
      go_wp2_with fail
      refine (fits_any w2 _ _ ge gl ce cl o t A l c Hv.out.len Hba.out).mono ?_
      rintro e w3 ⟨rfl, hb3⟩
      rw [Hf.out]
      have Hb3 := Lib.hid hb3
      clear hb3
      go_wp2_with fail
      go_ret2
      exact ⟨by rw [HE.out]; rfl, Hb.out.trans ((Hbk.out.low.mono Hb.out.size).trans (Hb3.out.mono (Nat.le_trans Hb.out.size Hbk.out.low.size)))⟩
  · have hE : triedE o t l right = fault o t l := by simp [triedE, h0]
    have HE := Lib.hid hE
    have hf := fault_vals o t l
    have hne : (fault o t l != 0) = true := by simpa using h0
    clear h hE h0
    go_enter Try.func53, Try.ntmps53
    go_wp2_with fail
    refine (checkBatch_any o t A l c _ hl Hs1.out).mono ?_
    rintro e w1 ⟨rfl, hb⟩
    have Hb := Lib.hid hb
    clear hb
    generalize fault o t l = ff at *
    go_wp2_with fail
    go_ret2
    exact ⟨by rw [HE.out]; rfl, ((Below.refl _ _).alloc (Nat.le_refl _) _).trans (Hb.out.mono (by simp))⟩

set_option maxHeartbeats 1000000 in
theorem tried_ok (o t : Int) (A : Option Addr) (l : List Sale) (c : Nat) (w : World) (hs : SalesAt w w.heap.size A l) (h0 : fault o t l = 0) (hf : fitsB t l = true) :
    Calls Try.prog 53 #[.agg #[.int .i64 o, .int .i64 t, .slice A l.length c], .bool true] w
      fun e w' => ∃ B kb ge gl ce cl, e = .returned (.tuple #[.pointer (some ⟨kb, 0, none⟩), .int .i64 0]) ∧ BookAt w' B kb ge gl ce cl o t A l c ∧ Below w.heap.size w w' := by
  have hv := valid_of_fault h0
  have hs1 := ((hs.below ((Below.refl _ _).alloc (Nat.le_refl _) (.cells #[.int .i64 o, .int .i64 t, .slice A l.length c] 31)) (Nat.le_refl _)).more (by simp : w.heap.size ≤ (w.alloc (.cells #[.int .i64 o, .int .i64 t, .slice A l.length c] 31)).heap.size))
  have Hs := Lib.hid hs
  have Hs1 := Lib.hid hs1
  have Hv := Lib.hid hv
  have H0 := Lib.hid h0
  have Hf := Lib.hid hf
  clear hs hs1 hv h0 hf
  go_enter Try.func53, Try.ntmps53
  go_wp2_with fail
  refine (checkBatch_any o t A l c _ (by have := Hv.out.len; omega) Hs1.out).mono ?_
  rintro e w1 ⟨rfl, hb⟩
  rw [H0.out]
  have hb' : Below w.heap.size w w1 := ((Below.refl _ _).alloc (Nat.le_refl _) _).trans (hb.mono (by simp))
  have hc := (hb.block w.heap.size (by simp)).trans (heap_alloc_new w _)
  have hw1 : Whole w1 w.heap.size 31 #[.int .i64 o, .int .i64 t, .slice A l.length c] := hc
  have c0 : w1.cell? ⟨w.heap.size, 0, none⟩ = some (.int .i64 o) := hw1.cell 0
  have c1 : w1.cell? ⟨w.heap.size, 1, none⟩ = some (.int .i64 t) := hw1.cell 1
  have c2 : w1.cell? ⟨w.heap.size, 2, none⟩ = some (.slice A l.length c) := hw1.cell 2
  have Hb := Lib.hid hb'
  clear hb hb' hc hw1
  go_wp2_with fail
  refine (book_bk o t A l c w1 Hv.out ((Hs.out.below Hb.out (Nat.le_refl _)).more Hb.out.size)).mono ?_
  rintro e w2 ⟨rfl, ge, gl, ce, cl, hbk⟩
  have Hbk := Lib.hid hbk
  have hba := hbk.at_ ((Hs.out.below Hb.out (Nat.le_refl _)).more Hb.out.size)
  have Hba := Lib.hid hba
  clear hbk hba
  go_wp2_with fail
  refine (fits_any w2 _ _ ge gl ce cl o t A l c Hv.out.len Hba.out).mono ?_
  rintro e w3 ⟨rfl, hb3⟩
  rw [Hf.out]
  have Hb3 := Lib.hid hb3
  clear hb3
  go_wp2_with fail
  go_ret2
  exact ⟨_, _, ge, gl, ce, cl, rfl, Hba.out.keep Hb3.out, Hb.out.trans ((Hbk.out.low.mono Hb.out.size).trans (Hb3.out.mono (Nat.le_trans Hb.out.size Hbk.out.low.size)))⟩
end Go.Proofs.Ytfcnombmphophaa
namespace Go.Proofs.Ytfcnombmphophaa
open Go.RowKit Go.Shelf
section
variable {P : Program} {ops : Array Oper} {K : Act → World → Prop} {Kp : Nat → World → World → Prop} {fuel : Nat} {listed : Array Bool} {a : Act} {w : World} {i j d : Nat} {ty : TypeId} {pos : String} {aft : Array Edge} {gd : Option (Nat × Bool)}
theorem AnyK.bld {R : World → Prop} {T : Nat → Bool} {t : TypeId} {parts : Array (Nat × Operand)} {ps : Array (Nat × Value)} {v : Value} (m : May ops Kp listed R T i ⟨some d, .build t parts, ty, pos, aft, gd⟩)
    (hp : parts.map (fun (i, x) => (i, a.eval x)) = ps) (hv : ∀ w, (Instr.build t ps).run P w = .ok v w) (hS : R w)
    (h : AnyK P ops K Kp fuel (listed.setIfInBounds i true) (a.put (some d) v) w) (hw : Region.wanted ⟨some d, .build t parts, ty, pos, aft, gd⟩ (yielded ops a.tmps) = true := by rfl) : AnyK P ops K Kp (fuel + 1) listed a w :=
  AnyK.take m (.inl ⟨hw, fun w' _ => by simp only [execOp, hp]; simp [hv w']⟩) hS h
theorem AnyK.extract {R : World → Prop} {T : Nat → Bool} {x : Operand} {n : Nat} {u v : Value} (m : May ops Kp listed R T i ⟨some d, .extract x n, ty, pos, aft, gd⟩)
    (hx : a.eval x = u) (hv : ∀ w, (Instr.extract u n).run P w = .ok v w) (hS : R w)
    (h : AnyK P ops K Kp fuel (listed.setIfInBounds i true) (a.put (some d) v) w) (hw : Region.wanted ⟨some d, .extract x n, ty, pos, aft, gd⟩ (yielded ops a.tmps) = true := by rfl) : AnyK P ops K Kp (fuel + 1) listed a w :=
  AnyK.take m (.inl ⟨hw, fun w' _ => by simp [execOp, hx, hv w']⟩) hS h
theorem AnyK.len {R : World → Prop} {T : Nat → Bool} {x : Operand} {tys : Array TypeId} {u v : Value} (m : May ops Kp listed R T i ⟨some d, .call { callee := .builtin .len, args := #[x], argTypes := tys }, ty, pos, aft, gd⟩)
    (hx : a.eval x = u) (hv : ∀ w, (builtin .len tys ty #[false] #[u]).run P w = .ok (.value v) w) (hc : (match x with | .const _ => true | _ => false) = false) (hS : R w)
    (h : AnyK P ops K Kp fuel (listed.setIfInBounds i true) (a.put (some d) v) w) (hw : Region.wanted ⟨some d, .call { callee := .builtin .len, args := #[x], argTypes := tys }, ty, pos, aft, gd⟩ (yielded ops a.tmps) = true := by rfl) : AnyK P ops K Kp (fuel + 1) listed a w :=
  AnyK.take m (.inl ⟨hw, fun w' _ => by
    have := hv w'
    cases x <;> simp_all [execOp, resolve, invoke]⟩) hS h
theorem StepK.call {f : FuncId} {fo : Operand} {args : Array Operand} {tys : Array TypeId} {vs : Array Value} (hi : ops[i]? = some ⟨some d, .call { callee := .value fo, args := args, argTypes := tys }, ty, pos, aft, gd⟩)
    (he : ∀ args w, (callFunc f args).run P w = .ok (.enter f args) w) (hf : a.eval fo = .func (.func f) #[] #[]) (hp : args.map a.eval = vs)
    (h : Calls P f vs w fun e w' => ∃ v, e = .returned v ∧ Kp i w w' ∧ AnyK P ops K Kp fuel (listed.setIfInBounds i true) (a.put (some d) v) w')
    (hw : Region.wanted ⟨some d, .call { callee := .value fo, args := args, argTypes := tys }, ty, pos, aft, gd⟩ (yielded ops a.tmps) = true := by rfl) : StepK P ops K Kp fuel listed a w i := by
  unfold StepK opG
  simp only [hi]
  rw [if_pos hw]
  simp only [Oper.wp, execOp, resolve, hp, hf, Deferred.ofValue]
  simp [invoke, he, Oper.upon]
  refine h.mono ?_
  rintro e w' ⟨v, rfl, h1, h2⟩
  exact ⟨h1, h2⟩
theorem StepK.alloc {t : TypeId} {v : Value} {w' : World} (hi : ops[i]? = some ⟨some d, .alloc t, ty, pos, aft, gd⟩) (hv : (Instr.alloc t true (.tuple #[])).run P w = .ok v w') (hk : Kp i w w')
    (h : AnyK P ops K Kp fuel (listed.setIfInBounds i true) (a.put (some d) v) w') (hw : Region.wanted ⟨some d, .alloc t, ty, pos, aft, gd⟩ (yielded ops a.tmps) = true := by rfl) : StepK P ops K Kp fuel listed a w i := by
  unfold StepK opG
  simp only [hi]
  rw [if_pos hw]
  simp only [Oper.wp, execOp]; simp [hv, Oper.upon]; exact ⟨hk, h⟩
theorem StepK.store {t : TypeId} {x y : Operand} {u u' : Value} {w' : World} (hi : ops[i]? = some ⟨none, .store t x y, ty, pos, aft, gd⟩)
    (hx : a.eval x = u) (hy : a.eval y = u') (hv : (Instr.storeAt t u u').run P w = .ok () w') (hk : Kp i w w')
    (h : AnyK P ops K Kp fuel (listed.setIfInBounds i true) a w') (hw : Region.wanted ⟨none, .store t x y, ty, pos, aft, gd⟩ (yielded ops a.tmps) = true := by rfl) : StepK P ops K Kp fuel listed a w i := by
  unfold StepK opG
  simp only [hi]
  rw [if_pos hw]
  simp only [Oper.wp, execOp, hx, hy]; simp [hv, Oper.upon]; exact ⟨hk, h⟩
theorem wanted_g {op : Op} {b b' r : Bool} {j e : Nat} {dd : Option Tmp} (hj : (ops[j]?).bind (·.dst) = some e) (he : a.eval (.tmp e) = .bool b') (hb : (b' == b) = r) : Region.wanted ⟨dd, op, ty, pos, aft, some (j, b)⟩ (yielded ops a.tmps) = r := by
  rw [Option.bind_eq_some_iff] at hj
  obtain ⟨oj, h1, h2⟩ := hj
  rw [← hb]
  exact wanted_at (oj := oj) rfl h1 h2 he
theorem AnyK.passG {R : World → Prop} {T : Nat → Bool} {op : Op} {b b' : Bool} {e : Nat} (m : May ops Kp listed R T i ⟨some d, op, ty, pos, aft, some (j, b)⟩) (hj : (ops[j]?).bind (·.dst) = some e) (he : a.eval (.tmp e) = .bool b') (hb : (b' == b) = false) (hS : R w)
    (h : AnyK P ops K Kp fuel (listed.setIfInBounds i true) (a.put (some d) undef) w) : AnyK P ops K Kp (fuel + 1) listed a w :=
  AnyK.take m (.inr ⟨wanted_g hj he hb, rfl⟩) hS h
@[simp] theorem ev_func {f : FuncId} : a.eval (.func f) = .func (.func f) #[] #[] := rfl
end
theorem al46 (w : World) : (Instr.alloc 46 true (.tuple #[])).run Try.prog w = .ok (.pointer (some ⟨w.heap.size, 0, none⟩)) (w.alloc (.cells #[.int .i64 0, .int .i64 0] 46)) := by
  go_simp
theorem bd46 (x y : Int) (w : World) : (Instr.build 46 #[(0, .int .i64 x), (1, .int .i64 y)]).run Try.prog w = .ok (.agg #[.int .i64 x, .int .i64 y]) w := by
  go_simp
theorem bd46_0 (w : World) : (Instr.build 46 #[]).run Try.prog w = .ok (.agg #[.int .i64 0, .int .i64 0]) w := by
  go_simp
theorem st46 {w : World} {b : Nat} {u v : Value} {x y : Int} (h0 : w.cell? ⟨b, 0, none⟩ = some u) (h1 : w.cell? ⟨b, 1, none⟩ = some v) (f0 : w.frozen? ⟨b, 0, none⟩ = false) (f1 : w.frozen? ⟨b, 1, none⟩ = false) :
    (Instr.storeAt 46 (.pointer (some ⟨b, 0, none⟩)) (.agg #[.int .i64 x, .int .i64 y])).run Try.prog w = .ok () ((w.setCell ⟨b, 0, none⟩ (.int .i64 x)).setCell ⟨b, 1, none⟩ (.int .i64 y)) := by
  go_simp
theorem ld46 {w : World} {b : Nat} {u v : Value} (h : w.cell? ⟨b, 0, none⟩ = some u ∧ w.cell? ⟨b, 1, none⟩ = some v) : (Instr.loadAt 46 (.pointer (some ⟨b, 0, none⟩))).run Try.prog w = .ok (.agg #[u, v]) w := by
  obtain ⟨h0, h1⟩ := h
  go_simp
theorem ld31' {w : World} {b : Nat} {u v x : Value} (h : w.cell? ⟨b, 0, none⟩ = some u ∧ w.cell? ⟨b, 1, none⟩ = some v ∧ w.cell? ⟨b, 2, none⟩ = some x) : (Instr.loadAt 31 (.pointer (some ⟨b, 0, none⟩))).run Try.prog w = .ok (.agg #[u, v, x]) w := by
  obtain ⟨h0, h1, h2⟩ := h
  go_simp
theorem ld29 {w : World} {p : Addr} {v : Value} (h : w.cell? p = some v) : (Instr.loadAt 29 (.pointer (some p))).run Try.prog w = .ok v w := by
  go_simp
theorem fa31_2 {b o : Nat} (w : World) : (Instr.fieldAt 31 (.pointer (some ⟨b, o, none⟩)) 2).run Try.prog w = .ok (.pointer (some ⟨b, o + 2, none⟩)) w := by
  go_simp
theorem fa114_0 {b o : Nat} (w : World) : (Instr.fieldAt 114 (.pointer (some ⟨b, o, none⟩)) 0).run Try.prog w = .ok (.pointer (some ⟨b, o, none⟩)) w := by
  go_simp
theorem fa61_0 {b o : Nat} (w : World) : (Instr.fieldAt 61 (.pointer (some ⟨b, o, none⟩)) 0).run Try.prog w = .ok (.pointer (some ⟨b, o, none⟩)) w := by
  go_simp
theorem fa61_2 {b o : Nat} (w : World) : (Instr.fieldAt 61 (.pointer (some ⟨b, o, none⟩)) 2).run Try.prog w = .ok (.pointer (some ⟨b, o + 2, none⟩)) w := by
  go_simp
theorem fa122_0 {b o : Nat} (w : World) : (Instr.fieldAt 122 (.pointer (some ⟨b, o, none⟩)) 0).run Try.prog w = .ok (.pointer (some ⟨b, o, none⟩)) w := by
  go_simp
theorem ix29 {b o n c : Nat} {i : Nat} (h : i < n) (w : World) : (Instr.indexAt 29 (.slice (some ⟨b, o, none⟩) n c) (.int .i64 i)).run Try.prog w = .ok (.pointer (some ⟨b, o + i * 5, none⟩)) w := by
  go_simp
theorem ix84_0 (st : Nat → Int) (w : World) : (Instr.index 84 (.agg (stk st)) (.int .i64 0)).run Try.prog w = .ok (.int .i64 (st 0)) w := by kernel_rfl
theorem ix84_1 (st : Nat → Int) (w : World) : (Instr.index 84 (.agg (stk st)) (.int .i64 1)).run Try.prog w = .ok (.int .i64 (st 1)) w := by kernel_rfl
theorem ix84_2 (st : Nat → Int) (w : World) : (Instr.index 84 (.agg (stk st)) (.int .i64 2)).run Try.prog w = .ok (.int .i64 (st 2)) w := by kernel_rfl
theorem ix84_3 (st : Nat → Int) (w : World) : (Instr.index 84 (.agg (stk st)) (.int .i64 3)).run Try.prog w = .ok (.int .i64 (st 3)) w := by kernel_rfl
theorem ix84_4 (st : Nat → Int) (w : World) : (Instr.index 84 (.agg (stk st)) (.int .i64 4)).run Try.prog w = .ok (.int .i64 (st 4)) w := by kernel_rfl
theorem ix84_5 (st : Nat → Int) (w : World) : (Instr.index 84 (.agg (stk st)) (.int .i64 5)).run Try.prog w = .ok (.int .i64 (st 5)) w := by kernel_rfl
theorem ix84 {st : Nat → Int} {i : Int} (h0 : 0 ≤ i) (h : i < 6) (w : World) : (Instr.index 84 (.agg (stk st)) (.int .i64 i)).run Try.prog w = .ok (.int .i64 (st i.toNat)) w := by
  have : i = 0 ∨ i = 1 ∨ i = 2 ∨ i = 3 ∨ i = 4 ∨ i = 5 := by omega
  rcases this with rfl | rfl | rfl | rfl | rfl | rfl
  · exact ix84_0 st w
  · exact ix84_1 st w
  · exact ix84_2 st w
  · exact ix84_3 st w
  · exact ix84_4 st w
  · exact ix84_5 st w
theorem ln29 (A : Option Addr) (n c : Nat) (ty : TypeId) (w : World) : (builtin .len #[29] ty #[false] #[.slice A n c]).run Try.prog w = .ok (.value (.int .i64 n)) w := by
  go_simp
theorem sub3 {x y : Operand} {m n : Int} (h0 : -100000 ≤ m - n) (h1 : m - n ≤ 10000000) (w : World) : (do eqGuard .sub 3 x y (.int .i64 m) (.int .i64 n); binOp .sub 3 (.int .i64 m) (.int .i64 n) : Sem Value).run Try.prog w = .ok (.int .i64 (m - n)) w := by
  have := IntWalk.i64_in (m - n) (by omega)
  go_simp
theorem lss3 {x y : Operand} {m n : Int} (w : World) : (do eqGuard .lss 3 x y (.int .i64 m) (.int .i64 n); binOp .lss 3 (.int .i64 m) (.int .i64 n) : Sem Value).run Try.prog w = .ok (.bool (decide (m < n))) w := by
  go_simp
theorem ex0 (u v : Value) (w : World) : (Instr.extract (.tuple #[u, v]) 0).run Try.prog w = .ok u w := by
  go_simp
theorem ex1 (u v : Value) (w : World) : (Instr.extract (.tuple #[u, v]) 1).run Try.prog w = .ok v w := by
  go_simp
theorem ld119 {w : World} {p : Addr} {v : Value} (h : w.cell? p = some v) : (Instr.loadAt 119 (.pointer (some p))).run Try.prog w = .ok v w := by
  go_simp
end Go.Proofs.Ytfcnombmphophaa
namespace Go.Proofs.Ytfcnombmphophaa
open Go.RowKit Go.Shelf
attribute [local irreducible] AnyK StepK
noncomputable def opsH7 : Array Oper := (Try.f68.body.bind (regionOf 7)).getD #[]
set_option maxHeartbeats 400000 in
theorem regionH7 {F : Fence} {n : Nat} (hF : WideF F Try.prog) {Q : Exit → Act → World → Prop} {a : Act} {w : World} {bo : Nat} {lo hi x : Int} (hsz : a.tmps.size = 39)
    (t7 : a.eval (.tmp 7) = .pointer (some ⟨bo, 0, none⟩)) (t9 : a.eval (.tmp 9) = .int .i64 x)
    (m0 : w.cell? ⟨bo, 0, none⟩ = some (.int .i64 lo)) (m1 : w.cell? ⟨bo, 1, none⟩ = some (.int .i64 hi)) (f0 : w.frozen? ⟨bo, 0, none⟩ = false) (f1 : w.frozen? ⟨bo, 1, none⟩ = false)
    (hK : ∀ a' W', Below w.heap.size w W' → a'.tmps.size = 39 → a'.defers = a.defers → (∀ e : Nat, e < 26 ∨ 37 ≤ e → a'.eval (.tmp e) = a.eval (.tmp e)) → Q .normal a' ((W'.setCell ⟨bo, 0, none⟩ (.int .i64 (min lo x))).setCell ⟨bo, 1, none⟩ (.int .i64 (max hi x)))) :
    (Code.region 7 opsH7 true).wpIn F n Try.prog Q a w := by
  have hlo := block_lt_of_cell m0
  have hR : (fun w : World => w.cell? ⟨bo, 0, none⟩ = some (.int .i64 lo) ∧ w.cell? ⟨bo, 1, none⟩ = some (.int .i64 hi)) w.drew := ⟨m0, m1⟩
  have hB : Below w.heap.size w w.drew := (Below.refl _ _).drew
  refine region_K (KpR (fun w => w.cell? ⟨bo, 0, none⟩ = some (.int .i64 lo) ∧ w.cell? ⟨bo, 1, none⟩ = some (.int .i64 hi)) (fun j => j == 11)) hF (by kernel_rfl) Try.mixed ?_
  change AnyK _ _ _ _ 12 (Array.replicate 12 false) _ _
  generalize w.drew = W at *
  refine AnyK.field (i := 0) may_o (u := .pointer (some ⟨bo, 0, none⟩)) (v := .pointer (some ⟨bo, 0, none⟩)) (by simp [t7]) (fun w => fa46_0 w) hR ?_
  refine AnyK.load (i := 1) may_o (p := ⟨bo, 0, none⟩) (v := .int .i64 lo) (by simp [hsz]) (fun w hw => ld3 hw.1) hR ?_
  refine AnyK.move (i := 2) may_o (v := .int .i64 x) (by simp [t9]) hR ?_
  refine AnyK.field (i := 5) may_o (u := .pointer (some ⟨bo, 0, none⟩)) (v := .pointer (some ⟨bo, 1, none⟩)) (by simp [t7]) (fun w => fa46_1 w) hR ?_
  refine AnyK.load (i := 6) may_o (p := ⟨bo, 1, none⟩) (v := .int .i64 hi) (by simp [hsz]) (fun w hw => ld3 hw.2) hR ?_
  refine AnyK.move (i := 7) may_o (v := .int .i64 x) (by simp [t9]) hR ?_
  refine AnyK.pick2 (i := 3) (j := 8) (by kernel_rfl) ?_ ?_
  · refine StepK.build (i := 3) (ps := #[(0, .int .i64 lo), (1, .int .i64 x)]) rfl (by simp [hsz]) (bs25_2 _ _ _) (fun _ hw => ⟨cell_alloc_l _ hw.1, cell_alloc_l _ hw.2⟩) ?_
    have n3 := cell_new2 W (.int .i64 lo) (.int .i64 x) 3
    replace hR : (fun w : World => w.cell? ⟨bo, 0, none⟩ = some (.int .i64 lo) ∧ w.cell? ⟨bo, 1, none⟩ = some (.int .i64 hi)) (W.alloc (.cells #[.int .i64 lo, .int .i64 x] 3)) := ⟨cell_alloc_l _ hR.1, cell_alloc_l _ hR.2⟩
    replace hB := hB.alloc hB.size (.cells #[.int .i64 lo, .int .i64 x] 3)
    generalize hp3 : W.heap.size = p3 at *
    generalize W.alloc (.cells #[.int .i64 lo, .int .i64 x] 3) = W3 at *
    clear hp3 W
    obtain ⟨W, rfl⟩ : ∃ W, W = W3 := ⟨_, rfl⟩
    refine AnyK.pick2 (i := 4) (j := 8) (by kernel_rfl) ?_ ?_
    · refine StepK.call (i := 4) (f := 65) (vs := #[.slice (some ⟨p3, 0, none⟩) 2 2]) rfl (enters_of Try.func65 (by kernel_rfl) rfl) rfl (by simp [hsz]) ((least_two _ 0 2 _ _ _ n3.1 n3.2).mono ?_)
      rintro _ _ ⟨rfl, rfl⟩
      refine ⟨_, rfl, fun _ h => h, ?_⟩
      clear n3
      refine AnyK.pick1 (i := 8) (by kernel_rfl) ?_
      refine StepK.build (i := 8) (ps := #[(0, .int .i64 hi), (1, .int .i64 x)]) rfl (by simp [hsz]) (bs25_2 _ _ _) (fun _ hw => ⟨cell_alloc_l _ hw.1, cell_alloc_l _ hw.2⟩) ?_
      have n8 := cell_new2 W (.int .i64 hi) (.int .i64 x) 3
      replace hR : (fun w : World => w.cell? ⟨bo, 0, none⟩ = some (.int .i64 lo) ∧ w.cell? ⟨bo, 1, none⟩ = some (.int .i64 hi)) (W.alloc (.cells #[.int .i64 hi, .int .i64 x] 3)) := ⟨cell_alloc_l _ hR.1, cell_alloc_l _ hR.2⟩
      replace hB := hB.alloc hB.size (.cells #[.int .i64 hi, .int .i64 x] 3)
      generalize hp8 : W.heap.size = p8 at *
      generalize W.alloc (.cells #[.int .i64 hi, .int .i64 x] 3) = W8 at *
      clear hp8 W
      obtain ⟨W, rfl⟩ : ∃ W, W = W8 := ⟨_, rfl⟩
      refine AnyK.pick1 (i := 9) (by kernel_rfl) ?_
      refine StepK.call (i := 9) (f := 57) (vs := #[.slice (some ⟨p8, 0, none⟩) 2 2]) rfl (enters_of Try.func57 (by kernel_rfl) rfl) rfl (by simp [hsz]) ((greatest_two _ 0 2 _ _ _ n8.1 n8.2).mono ?_)
      rintro _ _ ⟨rfl, rfl⟩
      refine ⟨_, rfl, fun _ h => h, ?_⟩
      clear n8
      refine AnyK.bld (i := 10) may_o (ps := #[(0, .int .i64 (min lo x)), (1, .int .i64 (max hi x))]) (v := .agg #[.int .i64 (min lo x), .int .i64 (max hi x)]) (by simp [hsz]) (fun w => bd46 _ _ w) hR ?_
      refine AnyK.pick1 (i := 11) (by kernel_rfl) ?_
      refine StepK.store (i := 11) (u := .pointer (some ⟨bo, 0, none⟩)) (u' := .agg #[.int .i64 (min lo x), .int .i64 (max hi x)]) rfl (by simp [t7]) (by simp [hsz]) (st46 hR.1 hR.2 ((hB.frozen (p := ⟨bo, 0, none⟩) hlo).trans f0) ((hB.frozen (p := ⟨bo, 1, none⟩) hlo).trans f1)) (fun h => by cases h) ?_
      refine AnyK.done (by kernel_rfl) (hK _ _ hB ?_ ?_ ?_)
      · simp only [size_put, hsz]
      · simp only [defers_put]
      · intro e he
        iterate 11 refine (ev_ne (by omega)).trans ?_
        rfl
    · refine StepK.build (i := 8) (ps := #[(0, .int .i64 hi), (1, .int .i64 x)]) rfl (by simp [hsz]) (bs25_2 _ _ _) (fun _ hw => ⟨cell_alloc_l _ hw.1, cell_alloc_l _ hw.2⟩) ?_
      replace n3 := And.intro (cell_alloc_l (.cells #[.int .i64 hi, .int .i64 x] 3) n3.1) (cell_alloc_l (.cells #[.int .i64 hi, .int .i64 x] 3) n3.2)
      have n8 := cell_new2 W (.int .i64 hi) (.int .i64 x) 3
      replace hR : (fun w : World => w.cell? ⟨bo, 0, none⟩ = some (.int .i64 lo) ∧ w.cell? ⟨bo, 1, none⟩ = some (.int .i64 hi)) (W.alloc (.cells #[.int .i64 hi, .int .i64 x] 3)) := ⟨cell_alloc_l _ hR.1, cell_alloc_l _ hR.2⟩
      replace hB := hB.alloc hB.size (.cells #[.int .i64 hi, .int .i64 x] 3)
      generalize hp8 : W.heap.size = p8 at *
      generalize W.alloc (.cells #[.int .i64 hi, .int .i64 x] 3) = W8 at *
      clear hp8 W
      obtain ⟨W, rfl⟩ : ∃ W, W = W8 := ⟨_, rfl⟩
      refine AnyK.pick1 (i := 4) (by kernel_rfl) ?_
      refine StepK.call (i := 4) (f := 65) (vs := #[.slice (some ⟨p3, 0, none⟩) 2 2]) rfl (enters_of Try.func65 (by kernel_rfl) rfl) rfl (by simp [hsz]) ((least_two _ 0 2 _ _ _ n3.1 n3.2).mono ?_)
      rintro _ _ ⟨rfl, rfl⟩
      refine ⟨_, rfl, fun _ h => h, ?_⟩
      clear n3
      refine AnyK.pick1 (i := 9) (by kernel_rfl) ?_
      refine StepK.call (i := 9) (f := 57) (vs := #[.slice (some ⟨p8, 0, none⟩) 2 2]) rfl (enters_of Try.func57 (by kernel_rfl) rfl) rfl (by simp [hsz]) ((greatest_two _ 0 2 _ _ _ n8.1 n8.2).mono ?_)
      rintro _ _ ⟨rfl, rfl⟩
      refine ⟨_, rfl, fun _ h => h, ?_⟩
      clear n8
      refine AnyK.bld (i := 10) may_o (ps := #[(0, .int .i64 (min lo x)), (1, .int .i64 (max hi x))]) (v := .agg #[.int .i64 (min lo x), .int .i64 (max hi x)]) (by simp [hsz]) (fun w => bd46 _ _ w) hR ?_
      refine AnyK.pick1 (i := 11) (by kernel_rfl) ?_
      refine StepK.store (i := 11) (u := .pointer (some ⟨bo, 0, none⟩)) (u' := .agg #[.int .i64 (min lo x), .int .i64 (max hi x)]) rfl (by simp [t7]) (by simp [hsz]) (st46 hR.1 hR.2 ((hB.frozen (p := ⟨bo, 0, none⟩) hlo).trans f0) ((hB.frozen (p := ⟨bo, 1, none⟩) hlo).trans f1)) (fun h => by cases h) ?_
      refine AnyK.done (by kernel_rfl) (hK _ _ hB ?_ ?_ ?_)
      · simp only [size_put, hsz]
      · simp only [defers_put]
      · intro e he
        iterate 11 refine (ev_ne (by omega)).trans ?_
        rfl
  · refine StepK.build (i := 8) (ps := #[(0, .int .i64 hi), (1, .int .i64 x)]) rfl (by simp [hsz]) (bs25_2 _ _ _) (fun _ hw => ⟨cell_alloc_l _ hw.1, cell_alloc_l _ hw.2⟩) ?_
    have n8 := cell_new2 W (.int .i64 hi) (.int .i64 x) 3
    replace hR : (fun w : World => w.cell? ⟨bo, 0, none⟩ = some (.int .i64 lo) ∧ w.cell? ⟨bo, 1, none⟩ = some (.int .i64 hi)) (W.alloc (.cells #[.int .i64 hi, .int .i64 x] 3)) := ⟨cell_alloc_l _ hR.1, cell_alloc_l _ hR.2⟩
    replace hB := hB.alloc hB.size (.cells #[.int .i64 hi, .int .i64 x] 3)
    generalize hp8 : W.heap.size = p8 at *
    generalize W.alloc (.cells #[.int .i64 hi, .int .i64 x] 3) = W8 at *
    clear hp8 W
    obtain ⟨W, rfl⟩ : ∃ W, W = W8 := ⟨_, rfl⟩
    refine AnyK.pick1 (i := 3) (by kernel_rfl) ?_
    refine StepK.build (i := 3) (ps := #[(0, .int .i64 lo), (1, .int .i64 x)]) rfl (by simp [hsz]) (bs25_2 _ _ _) (fun _ hw => ⟨cell_alloc_l _ hw.1, cell_alloc_l _ hw.2⟩) ?_
    replace n8 := And.intro (cell_alloc_l (.cells #[.int .i64 lo, .int .i64 x] 3) n8.1) (cell_alloc_l (.cells #[.int .i64 lo, .int .i64 x] 3) n8.2)
    have n3 := cell_new2 W (.int .i64 lo) (.int .i64 x) 3
    replace hR : (fun w : World => w.cell? ⟨bo, 0, none⟩ = some (.int .i64 lo) ∧ w.cell? ⟨bo, 1, none⟩ = some (.int .i64 hi)) (W.alloc (.cells #[.int .i64 lo, .int .i64 x] 3)) := ⟨cell_alloc_l _ hR.1, cell_alloc_l _ hR.2⟩
    replace hB := hB.alloc hB.size (.cells #[.int .i64 lo, .int .i64 x] 3)
    generalize hp3 : W.heap.size = p3 at *
    generalize W.alloc (.cells #[.int .i64 lo, .int .i64 x] 3) = W3 at *
    clear hp3 W
    obtain ⟨W, rfl⟩ : ∃ W, W = W3 := ⟨_, rfl⟩
    refine AnyK.pick1 (i := 4) (by kernel_rfl) ?_
    refine StepK.call (i := 4) (f := 65) (vs := #[.slice (some ⟨p3, 0, none⟩) 2 2]) rfl (enters_of Try.func65 (by kernel_rfl) rfl) rfl (by simp [hsz]) ((least_two _ 0 2 _ _ _ n3.1 n3.2).mono ?_)
    rintro _ _ ⟨rfl, rfl⟩
    refine ⟨_, rfl, fun _ h => h, ?_⟩
    clear n3
    refine AnyK.pick1 (i := 9) (by kernel_rfl) ?_
    refine StepK.call (i := 9) (f := 57) (vs := #[.slice (some ⟨p8, 0, none⟩) 2 2]) rfl (enters_of Try.func57 (by kernel_rfl) rfl) rfl (by simp [hsz]) ((greatest_two _ 0 2 _ _ _ n8.1 n8.2).mono ?_)
    rintro _ _ ⟨rfl, rfl⟩
    refine ⟨_, rfl, fun _ h => h, ?_⟩
    clear n8
    refine AnyK.bld (i := 10) may_o (ps := #[(0, .int .i64 (min lo x)), (1, .int .i64 (max hi x))]) (v := .agg #[.int .i64 (min lo x), .int .i64 (max hi x)]) (by simp [hsz]) (fun w => bd46 _ _ w) hR ?_
    refine AnyK.pick1 (i := 11) (by kernel_rfl) ?_
    refine StepK.store (i := 11) (u := .pointer (some ⟨bo, 0, none⟩)) (u' := .agg #[.int .i64 (min lo x), .int .i64 (max hi x)]) rfl (by simp [t7]) (by simp [hsz]) (st46 hR.1 hR.2 ((hB.frozen (p := ⟨bo, 0, none⟩) hlo).trans f0) ((hB.frozen (p := ⟨bo, 1, none⟩) hlo).trans f1)) (fun h => by cases h) ?_
    refine AnyK.done (by kernel_rfl) (hK _ _ hB ?_ ?_ ?_)
    · simp only [size_put, hsz]
    · simp only [defers_put]
    · intro e he
      iterate 11 refine (ev_ne (by omega)).trans ?_
      rfl
end Go.Proofs.Ytfcnombmphophaa
namespace Go.Proofs.Ytfcnombmphophaa
open Go.RowKit Go.Shelf

/-- What an owner can have on the evening of a day, by the sets below k. -/
def holdsTo (t : Int) (l : List Sale) (owner : Nat) (day : Int) : Nat → Int × Int
  | 0 => (1001, -1)
  | d + 1 => if eveB t l d day = true then (min (holdsTo t l owner day d).1 (stocksOf t l d owner), max (holdsTo t l owner day d).2 (stocksOf t l d owner)) else holdsTo t l owner day d
def holdsR (t : Int) (l : List Sale) (owner : Nat) (day : Int) : Int × Int := holdsTo t l owner day (2 ^ l.length)

theorem res46 {fn : Func} {k b : Nat} {W : World} {a : Act} {x y : Value} (h : fn.results = #[.cell k 46]) (he : a.eval (.tmp k) = .pointer (some ⟨b, 0, none⟩)) (hc : W.cell? ⟨b, 0, none⟩ = some x ∧ W.cell? ⟨b, 1, none⟩ = some y) :
    (results fn a.tmps).run Try.prog W = .ok (.agg #[x, y]) W := by
  have he' : a.tmps[k]?.getD undef = .pointer (some ⟨b, 0, none⟩) := by simpa [Act.eval] using he
  obtain ⟨h0, h1⟩ := hc
  simp only [results, h]
  simp [he']
  go_simp

noncomputable def opsH0 : Array Oper := (Try.f68.body.bind (regionOf 0)).getD #[]
noncomputable def opsH1 : Array Oper := (Try.f68.body.bind (regionOf 1)).getD #[]
noncomputable def opsH2 : Array Oper := (Try.f68.body.bind (regionOf 2)).getD #[]
noncomputable def opsH3 : Array Oper := (Try.f68.body.bind (regionOf 3)).getD #[]
noncomputable def opsH4 : Array Oper := (Try.f68.body.bind (regionOf 4)).getD #[]
noncomputable def opsH5 : Array Oper := (Try.f68.body.bind (regionOf 5)).getD #[]
noncomputable def opsH6 : Array Oper := (Try.f68.body.bind (regionOf 6)).getD #[]
noncomputable def opsH8 : Array Oper := (Try.f68.body.bind (regionOf 8)).getD #[]
noncomputable def opsH9 : Array Oper := (Try.f68.body.bind (regionOf 9)).getD #[]
noncomputable def roundH : Code := .seq (.region 3 opsH3 false) (.seq (.cond (.tmp 15) .skip (.exit 0)) (.seq (.block 1 (.seq (.region 4 opsH4 false) (.seq (.region 5 opsH5 false) (.cond (.tmp 20) (.seq (.region 6 opsH6 false) (.region 7 opsH7 true)) .skip)))) (.region 8 opsH8 false)))
noncomputable def code68 : Code := .seq (.region 0 opsH0 false) (.seq (.region 1 opsH1 false) (.seq (.seq (.region 2 opsH2 false) (.block 0 (.loop roundH))) (.seq (.region 9 opsH9 false) .ret)))
theorem body68 : Try.f68.body = some code68 := by kernel_rfl

theorem ListK.indexV {P : Program} {ops : Array Oper} {K : Act → World → Prop} {k i d : Nat} {a : Act} {w : World} {ty : TypeId} {pos : String} {aft : Array Edge} {v : Value} {t : TypeId} {x y : Operand} {u u' : Value} (hi : ops[i]? = some ⟨some d, .index t x y, ty, pos, aft, none⟩) (hx : a.eval x = u) (hy : a.eval y = u') (hv : (Instr.index t u u').run P w = .ok v w)
    (h : ListK P ops K k (i + 1) (a.put (some d) v) w) : ListK P ops K (k + 1) i a w := ListK.val hi rfl (by simp [execOp, hx, hy, hv]) h

/-- A block of two numbers that may be written. -/
structure Two (W : World) (b : Nat) (x y : Int) : Prop where
  c0 : W.cell? ⟨b, 0, none⟩ = some (.int .i64 x)
  c1 : W.cell? ⟨b, 1, none⟩ = some (.int .i64 y)
  f0 : W.frozen? ⟨b, 0, none⟩ = false
  f1 : W.frozen? ⟨b, 1, none⟩ = false
section
variable {W W' : World} {b : Nat} {x y : Int}
theorem Two.lt (h : Two W b x y) : b < W.heap.size := block_lt_of_cell h.c0
theorem Two.below (h : Two W b x y) (hb : Below W.heap.size W W') : Two W' b x y :=
  ⟨(hb.cell (p := ⟨b, 0, none⟩) h.lt).trans h.c0, (hb.cell (p := ⟨b, 1, none⟩) h.lt).trans h.c1, (hb.frozen (p := ⟨b, 0, none⟩) h.lt).trans h.f0, (hb.frozen (p := ⟨b, 1, none⟩) h.lt).trans h.f1⟩
theorem Two.new (W : World) (x y : Int) : Two (W.alloc (.cells #[.int .i64 x, .int .i64 y] 46)) W.heap.size x y :=
  ⟨(Whole.new W 46 #[.int .i64 x, .int .i64 y]).cell 0, (Whole.new W 46 #[.int .i64 x, .int .i64 y]).cell 1, (Whole.new W 46 #[.int .i64 x, .int .i64 y]).frozen 0, (Whole.new W 46 #[.int .i64 x, .int .i64 y]).frozen 1⟩
/-- Both numbers written. -/
def put2 (W : World) (b : Nat) (x y : Int) : World := (W.setCell ⟨b, 0, none⟩ (.int .i64 x)).setCell ⟨b, 1, none⟩ (.int .i64 y)
theorem Two.put (h : Two W b x y) (u v : Int) : Two (put2 W b u v) b u v := by
  unfold put2
  have h1 : (W.setCell ⟨b, 0, none⟩ (.int .i64 u)).cell? ⟨b, 1, none⟩ = some (.int .i64 y) := by rw [World.cell?_setCell_other _ _ _ _ (by simp)]; exact h.c1
  refine ⟨?_, World.cell?_setCell_same _ _ _ h1, by rw [World.frozen?_setCell, World.frozen?_setCell]; exact h.f0, by rw [World.frozen?_setCell, World.frozen?_setCell]; exact h.f1⟩
  rw [World.cell?_setCell_other _ _ _ _ (by simp)]
  exact World.cell?_setCell_same _ _ _ h.c0
theorem Two.far (h : Two W b x y) {b' : Nat} (hne : b ≠ b') (u v : Int) : Two (put2 W b' u v) b x y := by
  unfold put2
  exact ⟨by rw [cell_set_far (by simpa using hne), cell_set_far (by simpa using hne)]; exact h.c0, by rw [cell_set_far (by simpa using hne), cell_set_far (by simpa using hne)]; exact h.c1, by rw [World.frozen?_setCell, World.frozen?_setCell]; exact h.f0, by rw [World.frozen?_setCell, World.frozen?_setCell]; exact h.f1⟩
theorem below_put2 {B : Nat} {a w : World} {g : Nat} (h : Below B a w) (hg : B ≤ g) (u v : Int) : Below B a (put2 w g u v) := (h.setCell (p := ⟨g, 0, none⟩) hg _).setCell (p := ⟨g, 1, none⟩) hg _
end

set_option maxHeartbeats 1000000 in
theorem holds_any (W : World) (B kb ge gl ce cl : Nat) (o t : Int) (A : Option Addr) (l : List Sale) (c owner : Nat) (day : Int) (hv : Valid o t l) (ho : owner < 6) (hb : BookAt W B kb ge gl ce cl o t A l c) :
    Calls Try.prog 68 #[.pointer (some ⟨kb, 0, none⟩), .int .i64 owner, .int .i64 day] W fun e w' => e = .returned (.agg #[.int .i64 (holdsR t l owner day).1, .int .i64 (holdsR t l owner day).2]) ∧ Below W.heap.size W w' := by
  obtain ⟨N, hN⟩ : ∃ N, N = 2 ^ l.length := ⟨_, rfl⟩
  have hp8 : N ≤ 256 := by rw [hN]; exact pow_le hv.len
  have hp1 : 1 ≤ N := by rw [hN]; exact pow_pos' _
  refine (callsIn_wide (n := 5)).1 (callsIn_of_wp Try.func68 body68 trivial ?_ rfl)
  obtain ⟨a, ha⟩ : ∃ a : Act, a = { tmps := #[.pointer (some ⟨kb, 0, none⟩), .int .i64 owner, .int .i64 day] ++ Array.replicate (Try.f68.ntmps - (#[.pointer (some ⟨kb, 0, none⟩), .int .i64 owner, .int .i64 day] : Array Value).size) undef, defers := [] } := ⟨_, rfl⟩
  have hsz : a.tmps.size = 39 := by rw [ha]; simp [Try.ntmps68]
  have t0 : a.eval (.tmp 0) = .pointer (some ⟨kb, 0, none⟩) := by rw [ha]; simp [Act.eval]
  have t1 : a.eval (.tmp 1) = .int .i64 owner := by rw [ha]; simp [Act.eval]
  have t2 : a.eval (.tmp 2) = .int .i64 day := by rw [ha]; simp [Act.eval]
  have hdf : a.defers = [] := by rw [ha]
  rw [← ha]
  clear ha
  unfold code68
  refine wpIn_seq (region_p 1 ?_)
  intro K hK
  refine ListK.alloc (i := 0) rfl (al46 W) ?_
  refine ListK.done (hK _ _ ?_)
  clear hK K
  have hr := Two.new W 0 0
  have hB1 : Below W.heap.size W _ := (Below.refl _ W).alloc (Nat.le_refl _) (.cells #[.int .i64 0, .int .i64 0] 46)
  have hz1 : W.heap.size < (W.alloc (.cells #[.int .i64 0, .int .i64 0] 46)).heap.size := by simp
  have hb1 := hb.keep hB1
  generalize W.alloc (.cells #[.int .i64 0, .int .i64 0] 46) = W1 at *
  refine wpIn_seq (region_p 3 ?_)
  intro K hK
  refine ListK.bld (i := 0) (ps := #[(0, .int .i64 1001), (1, .int .i64 (-1))]) (v := .agg #[.int .i64 1001, .int .i64 (-1)]) rfl (by simp) (bd46 _ _ _) ?_
  refine ListK.alloc (i := 1) rfl (al46 W1) ?_
  have hq0 := Two.new W1 0 0
  refine ListK.store (i := 2) (u := .pointer (some ⟨W1.heap.size, 0, none⟩)) (u' := .agg #[.int .i64 1001, .int .i64 (-1)]) rfl (by simp [hsz]) (by simp [hsz]) (st46 hq0.c0 hq0.c1 hq0.f0 hq0.f1) ?_
  refine ListK.done (hK _ _ ?_)
  clear hK K
  have hq := hq0.put 1001 (-1)
  have hbl : Below W1.heap.size W1 (put2 (W1.alloc (.cells #[.int .i64 0, .int .i64 0] 46)) W1.heap.size 1001 (-1)) := below_put2 ((Below.refl _ W1).alloc (Nat.le_refl _) _) (Nat.le_refl _) _ _
  have hr2 := hr.below hbl
  have hb2 := hb1.keep hbl
  have hB2 : Below W.heap.size W _ := hB1.trans (hbl.mono (by omega))
  have hne : W.heap.size < W1.heap.size := hz1
  rw [← show put2 (W1.alloc (.cells #[.int .i64 0, .int .i64 0] 46)) W1.heap.size 1001 (-1) = ((W1.alloc (.cells #[.int .i64 0, .int .i64 0] 46)).setCell ⟨W1.heap.size, 0, none⟩ (.int .i64 1001)).setCell ⟨W1.heap.size, 1, none⟩ (.int .i64 (-1)) from rfl]
  generalize put2 (W1.alloc (.cells #[.int .i64 0, .int .i64 0] 46)) W1.heap.size 1001 (-1) = W2 at *
  generalize hbo : W1.heap.size = bo at *
  generalize hA : Act.put _ _ _ = a1
  have hs1 : a1.tmps.size = 39 := by rw [← hA]; simp only [size_put, hsz]
  have u0 : a1.eval (.tmp 0) = .pointer (some ⟨kb, 0, none⟩) := by rw [← hA]; exact (by simp [t0])
  have u1 : a1.eval (.tmp 1) = .int .i64 owner := by rw [← hA]; exact (by simp [t1])
  have u2 : a1.eval (.tmp 2) = .int .i64 day := by rw [← hA]; exact (by simp [t2])
  have u6 : a1.eval (.tmp 6) = .pointer (some ⟨W.heap.size, 0, none⟩) := by rw [← hA]; exact (by simp [hsz])
  have u7 : a1.eval (.tmp 7) = .pointer (some ⟨bo, 0, none⟩) := by rw [← hA]; exact (by simp [hsz])
  have hd1 : a1.defers = [] := by rw [← hA]; simp only [defers_put, hdf]
  clear hA
  refine wpIn_seq (wpIn_seq (region_p 4 ?_))
  intro K hK
  refine ListK.move (i := 0) (v := .pointer (some ⟨kb, 0, none⟩)) rfl u0 ?_
  refine ListK.call (i := 1) (vs := #[.pointer (some ⟨kb, 0, none⟩)]) rfl (enters_of Try.func55 (by kernel_rfl) rfl) (by simp [hs1]) ((whole_nat (N := N) hv.len hN hb2.ba).mono ?_)
  rintro _ _ ⟨rfl, rfl⟩
  refine ⟨_, rfl, ?_⟩
  refine ListK.bin (i := 2) (u := .int .i64 ((N - 1 : Nat) : Int)) (u' := .int .i64 1) rfl (by simp [hs1]) rfl (add94 (by omega) (by omega) _) ?_
  refine ListK.move (i := 3) (v := .int .i64 0) rfl rfl ?_
  refine ListK.done (hK _ _ ?_)
  clear hK K
  rw [show ((N - 1 : Nat) : Int) + 1 = (N : Int) by omega]
  generalize hA : Act.put _ _ _ = a2
  have hs2 : a2.tmps.size = 39 := by rw [← hA]; simp only [size_put, hs1]
  have v0 : a2.eval (.tmp 0) = .pointer (some ⟨kb, 0, none⟩) := by rw [← hA]; exact (by simp [u0])
  have v1 : a2.eval (.tmp 1) = .int .i64 owner := by rw [← hA]; exact (by simp [u1])
  have v2 : a2.eval (.tmp 2) = .int .i64 day := by rw [← hA]; exact (by simp [u2])
  have v6 : a2.eval (.tmp 6) = .pointer (some ⟨W.heap.size, 0, none⟩) := by rw [← hA]; exact (by simp [u6])
  have v7 : a2.eval (.tmp 7) = .pointer (some ⟨bo, 0, none⟩) := by rw [← hA]; exact (by simp [u7])
  have v13 : a2.eval (.tmp 13) = .int .i64 N := by rw [← hA]; exact (by simp [hs1])
  have v14 : a2.eval (.tmp 14) = .int .i64 ((0 : Nat) : Int) := by rw [← hA]; exact (by simp [hs1])
  have hd2 : a2.defers = [] := by rw [← hA]; simp only [defers_put, hd1]
  clear hA u0 u1 u2 u6 u7 hs1 hd1 a1 t0 t1 t2 hsz hdf a
  refine wpIn_block (wpIn_loop (fun a W' => ∃ d : Nat, d ≤ N ∧ a.tmps.size = 39 ∧ a.defers = [] ∧ a.eval (.tmp 0) = .pointer (some ⟨kb, 0, none⟩) ∧ a.eval (.tmp 1) = .int .i64 owner ∧ a.eval (.tmp 2) = .int .i64 day ∧ a.eval (.tmp 6) = .pointer (some ⟨W.heap.size, 0, none⟩) ∧ a.eval (.tmp 7) = .pointer (some ⟨bo, 0, none⟩) ∧ a.eval (.tmp 13) = .int .i64 N ∧ a.eval (.tmp 14) = .int .i64 d ∧
    Two W' W.heap.size 0 0 ∧ Two W' bo (holdsTo t l owner day d).1 (holdsTo t l owner day d).2 ∧ BookAt W' B kb ge gl ce cl o t A l c ∧ Below W.heap.size W W') (fun a _ => N - (intOf (a.eval (.tmp 14))).toNat) ⟨0, Nat.zero_le _, hs2, hd2, v0, v1, v2, v6, v7, v13, v14, hr2, hq, hb2, hB2⟩ ?_)
  clear v0 v1 v2 v6 v7 v13 v14 hs2 hd2 a2 hr2 hq hb2 hB2 hr hB1 hb1 hbl hq0 hz1 W2
  rintro a2 W2 ⟨d, hdN, hs2, hd2, v0, v1, v2, v6, v7, v13, v14, hr2, hq, hb2, hB2⟩
  refine wpIn_seq (region_p 1 ?_)
  intro K hK
  refine ListK.bin (i := 0) (u := .int .i64 d) (u' := .int .i64 N) rfl v14 v13 (lss94 _) ?_
  refine ListK.done (hK _ _ ?_)
  clear hK K
  by_cases hlt : d < N
  · refine wpIn_seq (wpIn_cond (t := true) (by simp [hs2]; omega) (wpIn_skip ?_))
    have hend : ∀ (a' : Act) (W' : World), a'.tmps.size = 39 → a'.defers = [] → (∀ e : Nat, (e = 0 ∨ e = 1 ∨ e = 2 ∨ e = 6 ∨ e = 7 ∨ e = 13 ∨ e = 14) → a'.eval (.tmp e) = a2.eval (.tmp e)) → Two W' W.heap.size 0 0 → Two W' bo (holdsTo t l owner day (d + 1)).1 (holdsTo t l owner day (d + 1)).2 → BookAt W' B kb ge gl ce cl o t A l c → Below W.heap.size W W' →
        (Code.region 8 opsH8 false).wpIn Fence.wide 5 Try.prog (Exit.then (fun a' W' => (∃ d : Nat, d ≤ N ∧ a'.tmps.size = 39 ∧ a'.defers = [] ∧ a'.eval (.tmp 0) = .pointer (some ⟨kb, 0, none⟩) ∧ a'.eval (.tmp 1) = .int .i64 owner ∧ a'.eval (.tmp 2) = .int .i64 day ∧ a'.eval (.tmp 6) = .pointer (some ⟨W.heap.size, 0, none⟩) ∧ a'.eval (.tmp 7) = .pointer (some ⟨bo, 0, none⟩) ∧ a'.eval (.tmp 13) = .int .i64 N ∧ a'.eval (.tmp 14) = .int .i64 d ∧
          Two W' W.heap.size 0 0 ∧ Two W' bo (holdsTo t l owner day d).1 (holdsTo t l owner day d).2 ∧ BookAt W' B kb ge gl ce cl o t A l c ∧ Below W.heap.size W W') ∧ N - (intOf (a'.eval (.tmp 14))).toNat < N - (intOf (a2.eval (.tmp 14))).toNat) (Exit.inBlock 0 (Exit.then (Code.wpIn Fence.wide 5 Try.prog ((Code.region 9 opsH9 false).seq Code.ret) (bodyPost Try.prog Try.f68 fun e w' => e = .returned (.agg #[.int .i64 (holdsR t l owner day).1, .int .i64 (holdsR t l owner day).2]) ∧ Below W.heap.size W w')) (bodyPost Try.prog Try.f68 fun e w' => e = .returned (.agg #[.int .i64 (holdsR t l owner day).1, .int .i64 (holdsR t l owner day).2]) ∧ Below W.heap.size W w')))) a' W' := by
      intro a' W' hz hdf he h1 h2 h3 h4
      have hmu : ∀ b : Act, b.eval (.tmp 14) = .int .i64 ((d + 1 : Nat) : Int) → N - (intOf (b.eval (.tmp 14))).toNat < N - (intOf (a2.eval (.tmp 14))).toNat := by
        intro b e
        rw [e, v14]
        simp only [intOf]
        omega
      have x0 := (he 0 (by omega)).trans v0
      have x1 := (he 1 (by omega)).trans v1
      have x2 := (he 2 (by omega)).trans v2
      have x6 := (he 6 (by omega)).trans v6
      have x7 := (he 7 (by omega)).trans v7
      have x13 := (he 13 (by omega)).trans v13
      have x14 := (he 14 (by omega)).trans v14
      refine region_p 2 ?_
      intro K hK
      refine ListK.bin (i := 0) (u := .int .i64 d) (u' := .int .i64 1) rfl x14 rfl (add94 (by omega) (by omega) _) ?_
      refine ListK.move (i := 1) (v := .int .i64 ((d + 1 : Nat) : Int)) rfl (by simp [hz]) ?_
      exact ListK.done (hK _ _ ⟨⟨d + 1, by omega, by simp only [size_put, hz], by simp only [defers_put, hdf], (by simp [x0]), (by simp [x1]), (by simp [x2]), (by simp [x6]), (by simp [x7]), (by simp [x13]), (by simp [hz]), h1, h2, h3, h4⟩, hmu _ (by simp [hz])⟩)
    refine wpIn_seq (wpIn_block (wpIn_seq (region_p 2 ?_)))
    intro K hK
    refine ListK.move (i := 0) (v := .int .i64 d) rfl (by simp [v14]) ?_
    refine ListK.assign (i := 1) (v := .int .i64 d) rfl (by simp [hs2]) ?_
    refine ListK.done (hK _ _ ?_)
    clear hK K
    have hdl : d < 2 ^ l.length := by rw [← hN]; exact hlt
    refine wpIn_seq (region_p 4 ?_)
    intro K hK
    refine ListK.move (i := 0) (v := .pointer (some ⟨kb, 0, none⟩)) rfl (by simp [v0]) ?_
    refine ListK.move (i := 1) (v := .int .i64 d) rfl (by simp [hs2]) ?_
    refine ListK.move (i := 2) (v := .int .i64 day) rfl (by simp [v2]) ?_
    refine ListK.call (i := 3) (vs := #[.pointer (some ⟨kb, 0, none⟩), .int .i64 d, .int .i64 day]) rfl (enters_of Try.func81 (by kernel_rfl) rfl) (by simp [hs2]) ((evening_any W2 B kb ge gl ce cl o t A l c d day hdl hb2).mono ?_)
    rintro _ _ ⟨rfl, rfl⟩
    refine ⟨_, rfl, ListK.done (hK _ _ ?_)⟩
    clear hK K
    cases hev : eveB t l d day with
    | false =>
      refine wpIn_cond (t := false) (by simp [hs2]) (wpIn_skip ?_)
      have hst : holdsTo t l owner day (d + 1) = holdsTo t l owner day d := by simp [holdsTo, hev]
      refine hend _ _ (by simp only [size_put, hs2]) (by simp only [defers_put, hd2]) ?_ hr2 (by rw [hst]; exact hq) hb2 hB2
      rintro e (rfl | rfl | rfl | rfl | rfl | rfl | rfl) <;> simp
    | true =>
      refine wpIn_cond (t := true) (by simp [hs2]) ?_
      have hst : holdsTo t l owner day (d + 1) = (min (holdsTo t l owner day d).1 (stocksOf t l d owner), max (holdsTo t l owner day d).2 (stocksOf t l d owner)) := by simp [holdsTo, hev]
      refine wpIn_seq (region_p 6 ?_)
      intro K hK
      refine ListK.move (i := 0) (v := .pointer (some ⟨kb, 0, none⟩)) rfl (by simp [v0]) ?_
      refine ListK.move (i := 1) (v := .int .i64 d) rfl (by simp [hs2]) ?_
      refine ListK.call (i := 2) (vs := #[.pointer (some ⟨kb, 0, none⟩), .int .i64 d]) rfl (enters_of Try.func73 (by kernel_rfl) rfl) (by simp [hs2]) ((stocks_any kb B o t A l c d W2 hv hb2.ba hb2.le hb2.lt (lt_65536 hv.len hdl)).mono ?_)
      rintro _ W3 ⟨rfl, hb3⟩
      refine ⟨_, rfl, ?_⟩
      refine ListK.move (i := 3) (v := .int .i64 owner) rfl (by simp [v1]) ?_
      refine ListK.indexV (i := 4) (u := .agg (stk (stocksOf t l d))) (u' := .int .i64 owner) (v := .int .i64 (stocksOf t l d owner)) rfl (by simp [hs2]) (by simp [hs2]) (ix84 (i := owner) (by omega) (by omega) _) ?_
      refine ListK.assign (i := 5) (v := .int .i64 (stocksOf t l d owner)) rfl (by simp [hs2]) ?_
      refine ListK.done (hK _ _ ?_)
      clear hK K
      have hr3 := hr2.below hb3
      have hq3 := hq.below hb3
      have hbk3 := hb2.keep hb3
      have hB3 : Below W.heap.size W W3 := hB2.trans (hb3.mono hB2.size)
      refine regionH7 (bo := bo) (x := stocksOf t l d owner) (wideF_plain _) (by simp only [size_put, hs2]) (by simp [v7]) (by simp [hs2]) hq3.c0 hq3.c1 hq3.f0 hq3.f1 ?_
      intro a4 W4 hb4 hz4 hd4 he4
      have hr4 := hr3.below hb4
      have hq4 := hq3.below hb4
      have hbk4 := hbk3.keep hb4
      refine hend _ _ hz4 (by rw [hd4]; simp only [defers_put, hd2]) ?_ (hr4.far (by omega) _ _) (by rw [hst]; exact hq4.put _ _) ?_ (below_put2 (hB3.trans (hb4.mono hB3.size)) (by omega) _ _)
      · intro e he
        rw [he4 e (by omega)]
        rcases he with rfl | rfl | rfl | rfl | rfl | rfl | rfl <;> simp
      · exact hb.keep (below_put2 (hB3.trans (hb4.mono hB3.size)) (by omega) _ _)
  · obtain rfl : d = N := by omega
    refine wpIn_seq (wpIn_cond (t := false) (by simp [hs2]) (wpIn_exit ?_))
    refine wpIn_seq (region_p 2 ?_)
    intro K hK
    refine ListK.load (i := 0) (p := ⟨bo, 0, none⟩) (v := .agg #[.int .i64 (holdsTo t l owner day d).1, .int .i64 (holdsTo t l owner day d).2]) rfl (by simp [v7]) (ld46 ⟨hq.c0, hq.c1⟩) ?_
    refine ListK.store (i := 1) (u := .pointer (some ⟨W.heap.size, 0, none⟩)) (u' := .agg #[.int .i64 (holdsTo t l owner day d).1, .int .i64 (holdsTo t l owner day d).2]) rfl (by simp [v6]) (by simp [hs2]) (st46 hr2.c0 hr2.c1 hr2.f0 hr2.f1) ?_
    refine ListK.done (hK _ _ (wpIn_ret ?_))
    clear hK K
    have hr5 := hr2.put (holdsTo t l owner day d).1 (holdsTo t l owner day d).2
    refine bodyPost_ret (v := .agg #[.int .i64 (holdsR t l owner day).1, .int .i64 (holdsR t l owner day).2]) (res46 (b := W.heap.size) Try.results68 (by simp [v6]) (by rw [holdsR, ← hN]; exact ⟨hr5.c0, hr5.c1⟩)) (by simp only [defers_put, hd2]) ⟨rfl, below_put2 hB2 (Nat.le_refl _) _ _⟩
end Go.Proofs.Ytfcnombmphophaa
