/- Texts for the laws of package recall, part 7: contracts of the program's functions, each for every input that its words name. -/
import Derived.Test.YtfcnombmphophaaF6
import Derived.Test.YtfcnombmphophaaF3
import Derived.OpenShut
import Derived.ChangeBook
import Derived.ChangeStays
import Derived.Deep.Frames
import Derived.ChangeOld

set_option linter.unusedVariables false

namespace Go.Proofs.Ytfcnombmphophaa
open Go.RowKit Go.Shelf
theorem tried_no {o t : Int} {l : List Sale} (h : fault o t l = 0) (hf : fitsB t l = false) : triedE o t l true = 9 := by simp [triedE, h, hf]
theorem tried_yes {o t : Int} {l : List Sale} (h : fault o t l = 0) (hf : fitsB t l = true) : triedE o t l true = 0 := by simp [triedE, h, hf]
theorem neq27T' {x y : Operand} {m n : Int} (h : m ≠ n) (w : World) : (do eqGuard .neq 27 x y (.int .i64 m) (.int .i64 n); binOp .neq 27 (.int .i64 m) (.int .i64 n) : Sem Value).run Try.prog w = .ok (.bool true) w := by
  rw [neq27]
  simp [h]
theorem neq27F' {x y : Operand} {m n : Int} (h : m = n) (w : World) : (do eqGuard .neq 27 x y (.int .i64 m) (.int .i64 n); binOp .neq 27 (.int .i64 m) (.int .i64 n) : Sem Value).run Try.prog w = .ok (.bool false) w := by
  rw [neq27]
  simp [h]
theorem ord_truth {o t : Int} {l : List Sale} {xs ds : List Int} (h : OrdRes o t l xs ds) (h0 : fault o t l = 0) (hf : fitsB t l = true) : truthB t l xs ds = true ∧ xs.length = l.length ∧ ds.length = l.length := by
  have hp := order_prove (tried_yes h0 hf) h
  have ht := hp
  rw [truth_prove h0] at ht
  refine ⟨ht, ?_⟩
  unfold truthB at ht
  simp only [Bool.and_eq_true, decide_eq_true_eq] at ht
  exact ⟨ht.1, ht.2.1⟩
end Go.Proofs.Ytfcnombmphophaa

namespace Go.Proofs.Ytfcnombmphophaa
open Go.RowKit Go.Shelf
theorem stepE_le (l : List Sale) (d : Nat) (E : Nat → Int) (k e : Nat) : stepE l d E k e ≤ E e := by
  unfold stepE
  split
  · unfold upd
    split
    · rename_i h
      subst h
      omega
    · exact Int.le_refl _
  · exact Int.le_refl _
theorem foldE_le (l : List Sale) (d : Nat) : ∀ (ks : List Nat) (E : Nat → Int) (e : Nat), (ks.foldl (stepE l d) E) e ≤ E e
  | [], _, _ => Int.le_refl _
  | k :: ks, E, e => Int.le_trans (foldE_le l d ks (stepE l d E k) e) (stepE_le l d E k e)
theorem stepE_low {l : List Sale} {d k e : Nat} (hb : d.testBit k = false) (he : e ≤ d) (E : Nat → Int) : stepE l d E k e = E e := by
  unfold stepE
  split
  · unfold upd
    rw [if_neg (by have := or_gt hb; omega)]
  · rfl
theorem foldE_low {l : List Sale} {d e : Nat} (he : e ≤ d) : ∀ (ks : List Nat), (∀ k, k ∈ ks → d.testBit k = false) → ∀ E : Nat → Int, (ks.foldl (stepE l d) E) e = E e
  | [], _, _ => rfl
  | k :: ks, h, E => (foldE_low he ks (fun j hj => h j (List.mem_cons_of_mem _ hj)) _).trans (stepE_low (h k List.mem_cons_self) he E)
theorem foldE_hit {l : List Sale} {d k : Nat} : ∀ (ks : List Nat), (∀ j, j ∈ ks → d.testBit j = false) → k ∈ ks → ∀ E : Nat → Int, max (E d) (saleOf l k).lo ≤ (saleOf l k).hi → (ks.foldl (stepE l d) E) (d ||| 2 ^ k) ≤ max (E d) (saleOf l k).lo
  | [], _, h, _, _ => by cases h
  | j :: ks, hb, hk, E, hle => by
    by_cases e : j = k
    · subst e
      refine Int.le_trans (foldE_le l d ks _ _) ?_
      unfold stepE
      rw [if_pos hle]
      unfold upd
      rw [if_pos rfl]
      omega
    · have hk' : k ∈ ks := by
        rcases List.mem_cons.1 hk with h | h
        · exact absurd h.symm e
        · exact h
      have hd := stepE_low (l := l) (hb j List.mem_cons_self) (Nat.le_refl d) E
      have := foldE_hit ks (fun i hi => hb i (List.mem_cons_of_mem _ hi)) hk' (stepE l d E j) (by rw [hd]; exact hle)
      rwa [hd] at this
theorem next_bits (t : Int) (l : List Sale) (d : Nat) : ∀ k, k ∈ nextL t l d → d.testBit k = false := by
  intro k hk
  have := (List.mem_filter.1 hk).2
  simp [nextB] at this
  exact this.2.1
theorem earlyTo_low (t : Int) (l : List Sale) {e : Nat} : ∀ j, e ≤ j → earlyTo t l j e = earlyTo t l e e := by
  intro j
  induction j with
  | zero => intro h; rw [show e = 0 by omega]
  | succ j ih =>
    intro h
    by_cases e1 : e = j + 1
    · rw [e1]
    · rw [← ih (by omega)]
      conv => lhs; unfold earlyTo
      split
      · rfl
      · exact foldE_low (by omega) _ (next_bits t l j) _
theorem earlyTo_mono (t : Int) (l : List Sale) (e : Nat) : ∀ j i, earlyTo t l (j + i) e ≤ earlyTo t l j e
  | j, 0 => Int.le_refl _
  | j, i + 1 => by
    refine Int.le_trans ?_ (earlyTo_mono t l e j i)
    show earlyTo t l (j + i + 1) e ≤ _
    conv => lhs; unfold earlyTo
    split
    · exact Int.le_refl _
    · exact foldE_le l _ _ _ _
theorem early_at (t : Int) (l : List Sale) {d : Nat} (h : d < 2 ^ l.length) : early t l d = earlyTo t l d d := earlyTo_low t l _ (by omega)
/-- One sale on. -/
theorem early_step {t : Int} {l : List Sale} {d k : Nat} (hd : d < 2 ^ l.length) (h1 : early t l d ≠ 101) (hn : nextB t l d k = true) (hle : max (early t l d) (saleOf l k).lo ≤ (saleOf l k).hi) : early t l (d ||| 2 ^ k) ≤ max (early t l d) (saleOf l k).lo := by
  rw [early_at t l hd] at h1 hle ⊢
  have hk : k < l.length := by simp [nextB] at hn; exact hn.1
  have hm := earlyTo_mono t l (d ||| 2 ^ k) (d + 1) (2 ^ l.length - (d + 1))
  rw [show d + 1 + (2 ^ l.length - (d + 1)) = 2 ^ l.length by omega] at hm
  refine Int.le_trans hm ?_
  conv => lhs; unfold earlyTo
  rw [if_neg h1]
  exact foldE_hit _ (next_bits t l d) (List.mem_filter.2 ⟨List.mem_range.2 hk, hn⟩) _ hle
theorem path_early {o t : Int} {l : List Sale} (hv : Valid o t l) : ∀ (ns : List Nat) (d : Nat) (x : Int), d < 2 ^ l.length → PathOk t l d x ns → early t l d ≤ x → x ≤ 100 → early t l (2 ^ l.length - 1) ≤ 100
  | [], d, x, _, h, h1, h2 => by
    have : d = 2 ^ l.length - 1 := h
    rw [← this]
    omega
  | n :: ns, d, x, hd, ⟨h3, h4, h5⟩, h1, h2 => by
    have hn : n < l.length := by simp [nextB] at h3; exact h3.1
    have hf := hv.at_ (List.getElem?_eq_getElem hn)
    rw [← saleOf_eq (List.getElem?_eq_getElem hn)] at hf
    have hs := early_step hd (by omega) h3 (by omega)
    refine path_early hv ns _ _ ?_ h5 (by omega) (by omega)
    exact Nat.or_lt_two_pow hd (Nat.pow_lt_pow_right (by omega) hn)
theorem way_fits {o t : Int} {l : List Sale} (hv : Valid o t l) {ns : List Nat} (h : PathOk t l 0 0 ns) : fitsB t l = true := by
  have h0 : early t l 0 = 0 := by
    rw [early_at t l (Nat.two_pow_pos _)]
    simp [earlyTo, upd]
  have := path_early hv ns 0 0 (Nat.two_pow_pos _) h (by omega) (by omega)
  unfold fitsB
  simp
  omega
end Go.Proofs.Ytfcnombmphophaa

namespace Go.Proofs.Ytfcnombmphophaa
open Go.RowKit Go.Shelf
/-- A list of sales and a set of them, as one. -/
structure Same (t : Int) (l : List Sale) (pre : List Int) (d : Nat) : Prop where
  bits : ∀ m : Nat, d.testBit m = hasI pre m
  st : ∀ i : Nat, stocksOf t l d i = stockR t l pre i
  lt : d < 2 ^ l.length
  cnt : cnt d l.length = pre.length
theorem Same.zero (t : Int) (l : List Sale) : Same t l [] 0 := by
  refine ⟨fun m => by simp [hasI], fun i => ?_, Nat.two_pow_pos _, cnt_zero _⟩
  unfold stocksOf
  rw [stocksTo_zero]
  unfold stockR upd
  simp
theorem Same.snoc {o t : Int} {l : List Sale} (hv : Valid o t l) {pre : List Int} {d n : Nat} (h : Same t l pre d) (hn : n < l.length) (hb : d.testBit n = false) : Same t l (pre ++ [(n : Int)]) (d ||| 2 ^ n) := by
  have hf := hv.at_ (List.getElem?_eq_getElem hn)
  rw [← saleOf_eq (List.getElem?_eq_getElem hn)] at hf
  refine ⟨fun m => ?_, fun i => ?_, Nat.or_lt_two_pow h.lt (Nat.pow_lt_pow_right (by omega) hn), ?_⟩
  · rw [hasI_app, Nat.testBit_or, h.bits m]
    congr 1
    by_cases e : n = m
    · subst e
      simp
    · rw [Nat.testBit_two_pow_of_ne e]
      symm
      simp
      omega
  · rw [stocksOf_or hb hn, stockR_app]
    exact sold_step hn hf.1 hf.2.2.1 hf.2.2.2.2.1 (h.st i)
  · rw [cnt_or hb, if_pos hn, h.cnt]
    simp
end Go.Proofs.Ytfcnombmphophaa

namespace Go.Proofs.Ytfcnombmphophaa
open Go.RowKit Go.Shelf
theorem lexLt_irr : ∀ a : List Int, lexLt a a = false
  | [] => rfl
  | x :: xs => by rw [lexLt, if_pos rfl]; exact lexLt_irr xs
theorem lexLt_trans : ∀ a b c : List Int, lexLt a b = true → lexLt b c = true → lexLt a c = true
  | [], _, _, h, _ => by cases h
  | x :: xs, [], _, h, _ => by cases h
  | x :: xs, y :: ys, [], _, h => by cases h
  | x :: xs, y :: ys, z :: zs, h1, h2 => by
    rw [lexLt] at h1 h2 ⊢
    split at h1
    · rename_i e
      subst e
      split at h2
      · rename_i e
        subst e
        rw [if_pos rfl]
        exact lexLt_trans xs ys zs h1 h2
      · rename_i e
        rw [if_neg e]
        exact h2
    · rename_i e
      simp only [decide_eq_true_eq] at h1
      split at h2
      · rename_i e2
        subst e2
        rw [if_neg e]
        simpa using h1
      · simp only [decide_eq_true_eq] at h2
        rw [if_neg (by omega)]
        simp
        omega
theorem listTo_more {d n : Nat} (hd : d < 2 ^ n) : ∀ m, n ≤ m → listTo d m = listTo d n := by
  intro m
  induction m with
  | zero => intro h; rw [show n = 0 by omega]
  | succ m ih =>
    intro h
    by_cases e : n = m + 1
    · rw [e]
    · unfold listTo
      rw [Nat.testBit_lt_two_pow (Nat.lt_of_lt_of_le hd (Nat.pow_le_pow_right (by omega) (by omega)))]
      simp
      rw [ih (by omega)]
      cases n with
      | zero => rfl
      | succ n => rfl
theorem listTo_has (d : Nat) (k : Nat) : ∀ n, hasI (listTo d n) k = (d.testBit k && decide (k < n))
  | 0 => by simp [listTo, hasI]
  | n + 1 => by
    unfold listTo
    by_cases hb : d.testBit n = true
    · rw [if_pos hb, hasI_app, listTo_has d k n]
      by_cases e : n = k
      · subst e
        simp [hb]
      · have : ((n : Int) == (k : Int)) = false := by simp; omega
        rw [this, Bool.or_false]
        congr 1
        simp only [decide_eq_decide]
        omega
    · rw [if_neg hb, listTo_has d k n]
      by_cases e : n = k
      · subst e
        simp at hb
        simp [hb]
      · congr 1
        simp only [decide_eq_decide]
        omega
theorem out_without (l : List Sale) (d n : Nat) : ∀ k, k ≤ n → outTo l (listTo d n) k = withoutTo l d k
  | 0, _ => rfl
  | k + 1, h => by
    unfold outTo withoutTo
    rw [listTo_has, out_without l d n k (by omega)]
    simp [show k < n by omega]
end Go.Proofs.Ytfcnombmphophaa

namespace Go.Proofs.Ytfcnombmphophaa
open Go.RowKit Go.Shelf
theorem cmp_lex : ∀ x y : List Int, x.length = y.length → (cmpL x y < 0 ↔ lexLt x y = true)
  | [], [], _ => by simp [cmpL, lexLt]
  | [], _ :: _, h => by simp at h
  | _ :: _, [], h => by simp at h
  | x :: xs, y :: ys, h => by
    rw [cmpL, lexLt]
    by_cases e : x = y
    · subst e
      rw [if_pos rfl, if_neg (by simp [cmpI])]
      exact cmp_lex xs ys (by simpa using h)
    · rw [if_neg e]
      unfold cmpI
      by_cases h1 : x < y
      · simp [h1]
      · have h2 : y < x := by omega
        simp [h1, h2]
/-- The least list of sales without which a batch does not contradict itself. -/
def Least (t : Int) (l : List Sale) (x : List Int) : Prop :=
  ∃ d, d < 2 ^ l.length ∧ fitsB t (withoutL l d) = true ∧ x = listTo d l.length ∧ ∀ d', d' < 2 ^ l.length → fitsB t (withoutL l d') = true → lessR (listTo d' l.length) x = false
theorem without_all (l : List Sale) : ∀ n, n ≤ l.length → withoutTo l (2 ^ l.length - 1) n = []
  | 0, _ => rfl
  | n + 1, h => by
    unfold withoutTo
    rw [Nat.testBit_two_pow_sub_one]
    rw [if_pos (by simp; omega)]
    exact without_all l n (by omega)
theorem whole_fits {o t : Int} {l : List Sale} (hv : Valid o t l) : fitsB t (withoutL l (2 ^ l.length - 1)) = true := by
  have hw := valid_without hv (2 ^ l.length - 1)
  have e : withoutL l (2 ^ l.length - 1) = [] := without_all l _ (Nat.le_refl _)
  rw [e] at hw ⊢
  exact way_fits hw (ns := []) rfl
theorem blameOk_iff {t : Int} {l : List Sale} {m d : Nat} : blameOk t l m d = true ↔ (listTo d 8).length = m ∧ fitsB t (withoutL l d) = true := by
  unfold blameOk
  rw [Bool.and_eq_true, decide_eq_true_eq]
theorem blameIn_spec (t : Int) (l : List Sale) (m : Nat) : ∀ b, ((blameIn t l m b).2 = false → ∀ d, d < b → blameOk t l m d = false) ∧
    ((blameIn t l m b).2 = true → ∃ d, d < b ∧ blameOk t l m d = true ∧ (blameIn t l m b).1 = listTo d 8 ∧ ∀ d', d' < b → blameOk t l m d' = true → lexLt (listTo d' 8) (listTo d 8) = false)
  | 0 => ⟨fun _ d h => by omega, fun h => by cases h⟩
  | b + 1 => by
    obtain ⟨ih1, ih2⟩ := blameIn_spec t l m b
    unfold blameIn blameStep
    generalize blameIn t l m b = acc at *
    obtain ⟨best, found⟩ := acc
    simp only at ih1 ih2 ⊢
    by_cases hok : blameOk t l m b = true
    · rw [if_pos hok]
      cases hfd : found with
      | false =>
        rw [if_pos (Or.inl rfl)]
        refine ⟨fun h => (by cases h), fun _ => ⟨b, by omega, hok, rfl, fun d' hd' hk => ?_⟩⟩
        by_cases e : d' = b
        · rw [e]; exact lexLt_irr _
        · rw [ih1 hfd d' (by omega)] at hk; cases hk
      | true =>
        obtain ⟨d, h1, h2, rfl, h4⟩ := ih2 hfd
        have hlen : (listTo b 8).length = (listTo d 8).length := by rw [(blameOk_iff.1 hok).1, (blameOk_iff.1 h2).1]
        by_cases hc : cmpL (listTo b 8) (listTo d 8) < 0
        · rw [if_pos (Or.inr hc)]
          have hlx := (cmp_lex _ _ hlen).1 hc
          refine ⟨fun h => (by cases h), fun _ => ⟨b, by omega, hok, rfl, fun d' hd' hk => ?_⟩⟩
          by_cases e : d' = b
          · rw [e]; exact lexLt_irr _
          · have := h4 d' (by omega) hk
            cases hl : lexLt (listTo d' 8) (listTo b 8) with
            | false => rfl
            | true => rw [lexLt_trans _ _ _ hl hlx] at this; cases this
        · rw [if_neg (by simp [hc])]
          refine ⟨fun h => (by cases h), fun _ => ⟨d, by omega, h2, rfl, fun d' hd' hk => ?_⟩⟩
          by_cases e : d' = b
          · rw [e]
            cases hl : lexLt (listTo b 8) (listTo d 8) with
            | false => rfl
            | true => exact absurd ((cmp_lex _ _ hlen).2 hl) hc
          · exact h4 d' (by omega) hk
    · rw [if_neg hok]
      refine ⟨fun h d hd => ?_, fun h => ?_⟩
      · by_cases e : d = b
        · rw [e]; simpa using hok
        · exact ih1 h d (by omega)
      · obtain ⟨d, h1, h2, h3, h4⟩ := ih2 h
        refine ⟨d, by omega, h2, h3, fun d' hd' hk => ?_⟩
        by_cases e : d' = b
        · rw [e] at hk; exact absurd hk hok
        · exact h4 d' (by omega) hk
theorem blameGo_least {o t : Int} {l : List Sale} (hv : Valid o t l) : ∀ (f m : Nat), m + f = l.length + 1 → (∀ d, d < 2 ^ l.length → fitsB t (withoutL l d) = true → m ≤ (listTo d l.length).length) → Least t l (blameGo t l f m)
  | 0, m, h, hm => by
    exfalso
    have h1 := hm (2 ^ l.length - 1) (by have := Nat.two_pow_pos l.length; omega) (whole_fits hv)
    have := listTo_length (2 ^ l.length - 1) l.length
    omega
  | f + 1, m, h, hm => by
    have hn8 := hv.len
    have hmore : ∀ d, d < 2 ^ l.length → listTo d 8 = listTo d l.length := fun d hd => listTo_more hd 8 hn8
    obtain ⟨h1, h2⟩ := blameIn_spec t l m (2 ^ l.length)
    unfold blameGo
    split
    · rename_i hf
      obtain ⟨d, hd, hok, he, hall⟩ := h2 hf
      rw [he, hmore d hd]
      have hok' := blameOk_iff.1 hok
      rw [hmore d hd] at hok'
      refine ⟨d, hd, hok'.2, rfl, fun d' hd' hf' => ?_⟩
      have hge := hm d' hd' hf'
      unfold lessR
      split
      · rename_i hl
        have := hall d' hd' (blameOk_iff.2 ⟨by rw [hmore d' hd', hl, hok'.1], hf'⟩)
        rwa [hmore d' hd', hmore d hd] at this
      · simp only [decide_eq_false_iff_not]
        omega
    · rename_i hf
      refine blameGo_least hv f (m + 1) (by omega) (fun d hd hfd => ?_)
      have hge := hm d hd hfd
      have hno := h1 (by simpa using hf) d hd
      by_cases e : (listTo d l.length).length = m
      · exfalso
        have : blameOk t l m d = true := blameOk_iff.2 ⟨by rw [hmore d hd]; exact e, hfd⟩
        rw [this] at hno
        cases hno
      · omega
end Go.Proofs.Ytfcnombmphophaa

namespace Go.Proofs.Ytfcnombmphophaa
open Go.RowKit Go.Shelf
set_option maxHeartbeats 1000000 in
theorem ready_any (o t : Int) (A : Option Addr) (l : List Sale) (c : Nat) (w : World) (hs : SalesAt w w.heap.size A l) :
    Calls Try.prog 41 #[.agg #[.int .i64 o, .int .i64 t, .slice A l.length c]] w (TP w (decide (l.length ≤ 12) && decide (fault o t l = 0))) := by
  have hB := (Below.refl w.heap.size w).alloc (Nat.le_refl _) (.cells #[.int .i64 o, .int .i64 t, .slice A l.length c] 24)
  have Hs := Lib.hid ((hs.below hB (Nat.le_refl _)).more (by simp : w.heap.size ≤ (w.alloc (.cells #[.int .i64 o, .int .i64 t, .slice A l.length c] 24)).heap.size))
  clear hs
  generalize hq : (decide (l.length ≤ 12) && decide (fault o t l = 0)) = res
  have HQ := Lib.hid hq
  clear hq
  by_cases hl : l.length ≤ 12
  · by_cases h0 : fault o t l = 0
    · go_enter Try.func41, Try.ntmps41
      go_wp2_with (go_at_call 21; refine (lawFault_any o t A l c _ hl Hs.out).mono ?_; rintro e w' ⟨rfl, hb⟩; rw [h0])
      go_ret
      exact ⟨by rw [← HQ.out]; simp [hl, h0], hB.trans (hb.mono (by simp))⟩
    · have HF := Lib.hid h0
      clear h0
      go_enter Try.func41, Try.ntmps41
      go_wp2_with (go_at_call 21; refine (lawFault_any o t A l c _ hl Hs.out).mono ?_; rintro e w' ⟨rfl, hb⟩)
      go_ret
      refine ⟨?_, hB.trans (hb.mono (by simp))⟩
      have := HF.out
      rw [← HQ.out]
      simp [hl, this]
  · go_enter Try.func41, Try.ntmps41
    go_wp2_with fail
    go_ret
    exact ⟨by rw [← HQ.out]; simp [hl], hB⟩
end Go.Proofs.Ytfcnombmphophaa

namespace Go.Proofs.Ytfcnombmphophaa
open Go.RowKit Go.Shelf
theorem eql27v {x y : Operand} (m n : Int) (w : World) : (do eqGuard .eql 27 x y (.int .i64 m) (.int .i64 n); binOp .eql 27 (.int .i64 m) (.int .i64 n) : Sem Value).run Try.prog w = .ok (.bool (decide (m = n))) w := by
  by_cases h : m = n
  · rw [eql27T h]
    simp [h]
  · rw [eql27F h]
    simp [h]
noncomputable def opsFt0 : Array Oper := (Try.f43.body.bind (regionOf 0)).getD #[]
noncomputable def opsFt1 : Array Oper := (Try.f43.body.bind (regionOf 1)).getD #[]
noncomputable def opsFt2 : Array Oper := (Try.f43.body.bind (regionOf 2)).getD #[]
noncomputable def code43 : Code := .seq (.region 0 opsFt0 false) (.seq (.region 1 opsFt1 false) (.seq (.region 2 opsFt2 false) .ret))
theorem body43 : Try.f43.body = some code43 := by kernel_rfl
set_option maxRecDepth 10000 in
set_option maxHeartbeats 1000000 in
theorem fitsL_any (o t : Int) (A : Option Addr) (l : List Sale) (c : Nat) (W : World) (hl : l.length ≤ 60) (hs : SalesAt W W.heap.size A l) :
    Calls Try.prog 43 #[.agg #[.int .i64 o, .int .i64 t, .slice A l.length c]] W (TP W (decide (triedE o t l true = 0))) := by
  refine (callsIn_wide (n := 5)).1 (callsIn_of_wp Try.func43 body43 trivial ?_ rfl)
  obtain ⟨a, ha⟩ : ∃ a : Act, a = { tmps := #[.agg #[.int .i64 o, .int .i64 t, .slice A l.length c]] ++ Array.replicate (Try.f43.ntmps - (#[.agg #[.int .i64 o, .int .i64 t, .slice A l.length c]] : Array Value).size) undef, defers := [] } := ⟨_, rfl⟩
  have hsz : a.tmps.size = 15 := by rw [ha]; simp [Try.ntmps43]
  have t0 : a.eval (.tmp 0) = .agg #[.int .i64 o, .int .i64 t, .slice A l.length c] := by rw [ha]; simp [Act.eval]
  have hdf : a.defers = [] := by rw [ha]
  rw [← ha]
  clear ha
  unfold code43
  refine wpIn_seq (region_p 2 ?_)
  intro K hK
  refine ListK.box (i := 0) (u := .agg #[.int .i64 o, .int .i64 t, .slice A l.length c]) rfl (by simp [t0]) (bx24 W _ _ _ _ _) ?_
  refine ListK.assign (i := 1) (v := .bool false) rfl (by simp) ?_
  refine ListK.done (hK _ _ ?_)
  clear hK K
  have wb := Whole.new W 24 #[.int .i64 o, .int .i64 t, .slice A l.length c]
  have hB1 : Below W.heap.size W (W.alloc (.cells #[.int .i64 o, .int .i64 t, .slice A l.length c] 24)) := (Below.refl _ W).alloc (Nat.le_refl _) _
  have hS1 := hB1.size
  generalize hb3 : W.heap.size = b3 at *
  generalize W.alloc (.cells #[.int .i64 o, .int .i64 t, .slice A l.length c] 24) = W1 at *
  replace hs : SalesAt W1 W1.heap.size A l := (hs.below hB1 (Nat.le_refl _)).more hS1
  generalize hA : Act.put _ _ _ = a1
  have hz_a1 : a1.tmps.size = 15 := by rw [← hA]; simp only [size_put, hsz]
  have u1 : a1.eval (.tmp 1) = .pointer (some ⟨b3, 0, none⟩) := by rw [← hA]; exact (by simp [hsz])
  have hd_a1 : a1.defers = [] := by rw [← hA]; simp only [defers_put, hdf]
  clear hA
  refine wpIn_seq (region_p 10 ?_)
  intro K hK
  refine ListK.load (i := 0) (p := ⟨b3, 0, none⟩) (v := .agg #[.int .i64 o, .int .i64 t, .slice A l.length c]) rfl (by simp [u1]) (ld24 ⟨wb.cell 0, wb.cell 1, wb.cell 2⟩) ?_
  refine ListK.call (i := 1) (vs := #[.agg #[.int .i64 o, .int .i64 t, .slice A l.length c]]) rfl (enters_of Try.func18 (by kernel_rfl) rfl) (by simp [hz_a1]) (((batch_any o t A l c W1 hl hs)).mono ?_)
  rintro _ W2 ⟨A3, c3, rfl, hs_b, hb_b⟩
  refine ⟨_, rfl, ?_⟩
  refine ListK.call (i := 2) (vs := #[.agg #[.int .i64 o, .int .i64 t, .slice A3 l.length c3]]) rfl (enters_of Try.func23 (by kernel_rfl) rfl) (by simp [hz_a1]) (((order_any o t A3 l c3 W2 (by omega) hs_b)).mono ?_)
  rintro _ W3 ⟨v1, v2, xs, ds, rfl, r1, r2, hor, hb_c⟩
  refine ⟨_, rfl, ?_⟩
  refine ListK.move (i := 3) (v := .tuple #[v1, v2, .int .i64 (triedE o t l true)]) rfl (by simp [hz_a1]) ?_
  refine ListK.extract (i := 4) (u := .tuple #[v1, v2, .int .i64 (triedE o t l true)]) (v := v1) rfl (by simp [hz_a1]) (ex3_0 _ _ _ _) ?_
  refine ListK.extract (i := 5) (u := .tuple #[v1, v2, .int .i64 (triedE o t l true)]) (v := v2) rfl (by simp [hz_a1]) (ex3_1 _ _ _ _) ?_
  refine ListK.extract (i := 6) (u := .tuple #[v1, v2, .int .i64 (triedE o t l true)]) (v := .int .i64 (triedE o t l true)) rfl (by simp [hz_a1]) (ex3_2 _ _ _ _) ?_
  refine ListK.assign (i := 7) (v := v1) rfl (by simp [hz_a1]) ?_
  refine ListK.assign (i := 8) (v := v2) rfl (by simp [hz_a1]) ?_
  refine ListK.assign (i := 9) (v := .int .i64 (triedE o t l true)) rfl (by simp [hz_a1]) ?_
  refine ListK.done (hK _ _ ?_)
  clear hK K
  generalize hA : Act.put _ _ _ = a2
  have hz_a2 : a2.tmps.size = 15 := by rw [← hA]; simp only [size_put, hz_a1]
  have v5 : a2.eval (.tmp 5) = .int .i64 (triedE o t l true) := by rw [← hA]; exact (by simp [hz_a1])
  have hd_a2 : a2.defers = [] := by rw [← hA]; simp only [defers_put, hd_a1]
  clear hA
  refine wpIn_seq (region_p 3 ?_)
  intro K hK
  refine ListK.move (i := 0) (v := .int .i64 (triedE o t l true)) rfl (by simp [v5]) ?_
  refine ListK.bin (i := 1) (u := .int .i64 (triedE o t l true)) (u' := .int .i64 0) (v := .bool (decide (triedE o t l true = 0))) rfl (by simp [hz_a2]) (by simp) (eql27v _ _ _) ?_
  refine ListK.assign (i := 2) (v := .bool (decide (triedE o t l true = 0))) rfl (by simp [hz_a2]) ?_
  refine ListK.done (hK _ _ (wpIn_ret ?_))
  have hb13 : Below W1.heap.size W1 W3 := hb_b.trans (hb_c.mono hb_b.size)
  exact bodyPost_ret (v := .bool (decide (triedE o t l true = 0))) (res1 Try.results43 (by simp [hz_a2])) (by simp only [defers_put, hd_a2]) ⟨rfl, by rw [hb3]; exact hB1.trans (hb13.mono hS1)⟩
end Go.Proofs.Ytfcnombmphophaa

namespace Go.Proofs.Ytfcnombmphophaa
open Go.RowKit Go.Shelf
/-- Sales one behind another, each as early as it can be. -/
def RunS : (Nat → Int) → Int → List Sale → Prop
  | _, _, [] => True
  | st, x, s :: ss => s.many ≤ st s.src.toNat ∧ max x s.lo ≤ s.hi ∧ RunS (sold st s) (max x s.lo) ss
theorem path_runs {t : Int} {l : List Sale} : ∀ (ns : List Nat) (d : Nat) (x : Int), PathOk t l d x ns → RunS (stocksOf t l d) x (ns.map (saleOf l))
  | [], _, _, _ => trivial
  | n :: ns, d, x, ⟨h1, h2, h3⟩ => by
    obtain ⟨hn, hb, hm⟩ := nextB_facts h1
    refine ⟨by omega, h2, ?_⟩
    rw [← stocksOf_or hb hn]
    exact path_runs ns _ _ h3
theorem path_mem {t : Int} {l : List Sale} : ∀ (ns : List Nat) (d : Nat) (x : Int), PathOk t l d x ns → ns.Nodup ∧ (∀ m, m ∈ ns → m < l.length ∧ d.testBit m = false) ∧ (∀ m, m < l.length → d.testBit m = true ∨ m ∈ ns)
  | [], d, x, h => by
    have h0 : d = 2 ^ l.length - 1 := h
    refine ⟨List.nodup_nil, fun m hm => (by cases hm), fun m hm => .inl ?_⟩
    rw [h0, Nat.testBit_two_pow_sub_one]
    simpa using hm
  | n :: ns, d, x, ⟨h1, h2, h3⟩ => by
    obtain ⟨hn, hb, hm⟩ := nextB_facts h1
    obtain ⟨k1, k2, k3⟩ := path_mem ns _ _ h3
    have hout : n ∉ ns := fun hmem => by
      have := (k2 n hmem).2
      rw [Nat.testBit_or, Nat.testBit_two_pow_self] at this
      simp at this
    refine ⟨List.nodup_cons.2 ⟨hout, k1⟩, fun m hmem => ?_, fun m hlt => ?_⟩
    · rcases List.mem_cons.1 hmem with rfl | hmem
      · exact ⟨hn, hb⟩
      · have := k2 m hmem
        rw [Nat.testBit_or] at this
        simp at this
        exact ⟨this.1, this.2.1⟩
    · by_cases e : m = n
      · exact .inr (by rw [e]; exact List.mem_cons_self)
      · rcases k3 m hlt with h | h
        · rw [Nat.testBit_or, Nat.testBit_two_pow_of_ne (Ne.symm e)] at h
          exact .inl (by simpa using h)
        · exact .inr (List.mem_cons_of_mem _ h)
theorem runs_path {t : Int} {l : List Sale} : ∀ (ns : List Nat) (d : Nat) (x : Int), d < 2 ^ l.length → ns.Nodup → (∀ m, m ∈ ns → m < l.length ∧ d.testBit m = false) → (∀ m, m < l.length → d.testBit m = true ∨ m ∈ ns) → RunS (stocksOf t l d) x (ns.map (saleOf l)) → PathOk t l d x ns
  | [], d, x, hd, _, _, h3, _ => by
    apply Nat.eq_of_testBit_eq
    intro m
    rw [Nat.testBit_two_pow_sub_one]
    by_cases hm : m < l.length
    · rcases h3 m hm with h | h
      · rw [h]; simp [hm]
      · cases h
    · rw [Nat.testBit_lt_two_pow (Nat.lt_of_lt_of_le hd (Nat.pow_le_pow_right (by omega) (by omega)))]
      simp [hm]
  | n :: ns, d, x, hd, h1, h2, h3, ⟨r1, r2, r3⟩ => by
    obtain ⟨hn, hb⟩ := h2 n List.mem_cons_self
    obtain ⟨hout, hnd⟩ := List.nodup_cons.1 h1
    refine ⟨?_, r2, ?_⟩
    · unfold nextB
      simp [hn, hb]
      exact r1
    · rw [← stocksOf_or hb hn] at r3
      refine runs_path ns _ _ (Nat.or_lt_two_pow hd (Nat.pow_lt_pow_right (by omega) hn)) hnd (fun m hm => ?_) (fun m hm => ?_) r3
      · have := h2 m (List.mem_cons_of_mem _ hm)
        refine ⟨this.1, ?_⟩
        rw [Nat.testBit_or, this.2, Nat.testBit_two_pow_of_ne (fun e => hout (by rw [e]; exact hm))]
        rfl
      · rcases h3 m hm with h | h
        · left
          rw [Nat.testBit_or, h]
          rfl
        · rcases List.mem_cons.1 h with rfl | h
          · left
            rw [Nat.testBit_or, Nat.testBit_two_pow_self]
            simp
          · exact .inr h
theorem perm_lift {α β : Type} {f : α → β} {p q : List β} (h : p.Perm q) : ∀ ms : List α, p = ms.map f → ∃ ns : List α, ns.Perm ms ∧ q = ns.map f := by
  induction h with
  | nil => intro ms hm; exact ⟨ms, List.Perm.refl _, hm⟩
  | cons x h ih =>
    intro ms hm
    cases ms with
    | nil => simp at hm
    | cons m ms =>
      simp only [List.map_cons, List.cons.injEq] at hm
      obtain ⟨ns, h1, h2⟩ := ih ms hm.2
      exact ⟨m :: ns, h1.cons m, by rw [List.map_cons, ← h2, hm.1]⟩
  | swap x y l =>
    intro ms hm
    cases ms with
    | nil => simp at hm
    | cons m ms =>
      cases ms with
      | nil => simp at hm
      | cons k ms =>
        simp only [List.map_cons, List.cons.injEq] at hm
        exact ⟨k :: m :: ms, List.Perm.swap m k ms, by rw [List.map_cons, List.map_cons, ← hm.1, ← hm.2.1, ← hm.2.2]⟩
  | trans h1 h2 ih1 ih2 =>
    intro ms hm
    obtain ⟨ns, a1, a2⟩ := ih1 ms hm
    obtain ⟨os, b1, b2⟩ := ih2 ns a2
    exact ⟨os, b1.trans a1, b2⟩
theorem map_range (l : List Sale) : (List.range l.length).map (saleOf l) = l := by
  apply List.ext_getElem?
  intro k
  rw [List.getElem?_map]
  by_cases h : k < l.length
  · rw [List.getElem?_range h, List.getElem?_eq_getElem h]
    simp only [Option.map_some]
    rw [saleOf_eq (List.getElem?_eq_getElem h)]
  · rw [List.getElem?_eq_none (by simpa using h), List.getElem?_eq_none (by omega)]
    rfl
theorem fits_perm {o t : Int} {l : List Sale} (hv : Valid o t l) : fitsB t l = true ↔ ∃ p, p.Perm l ∧ RunS (upd (fun _ => 0) 0 t) 0 p := by
  have h0 : stocksOf t l 0 = upd (fun _ => 0) 0 t := stocksTo_zero _
  constructor
  · intro h
    obtain ⟨ns, hp⟩ := fits_way hv h
    obtain ⟨k1, k2, k3⟩ := path_mem ns _ _ hp
    refine ⟨ns.map (saleOf l), ?_, by rw [← h0]; exact path_runs ns _ _ hp⟩
    have : ns.Perm (List.range l.length) := by
      refine (List.perm_ext_iff_of_nodup k1 List.nodup_range).2 fun m => ?_
      rw [List.mem_range]
      exact ⟨fun h => (k2 m h).1, fun h => (k3 m h).resolve_left (by simp)⟩
    have h2 := this.map (saleOf l)
    rwa [map_range] at h2
  · rintro ⟨p, hp, hr⟩
    obtain ⟨ns, h1, h2⟩ := perm_lift hp.symm (List.range l.length) (map_range l).symm
    rw [h2, ← h0] at hr
    exact way_fits hv (runs_path ns 0 0 (Nat.two_pow_pos _) (h1.nodup_iff.2 List.nodup_range) (fun m hm => ⟨List.mem_range.1 (h1.mem_iff.1 hm), by simp⟩) (fun m hm => .inr (h1.mem_iff.2 (List.mem_range.2 hm))) hr)
end Go.Proofs.Ytfcnombmphophaa

namespace Go.Proofs.Ytfcnombmphophaa
open Go.RowKit Go.Shelf
theorem outTo_filter (l : List Sale) (xs : List Int) : ∀ n, outTo l xs n = ((List.range n).filter (fun k : Nat => !hasI xs (k : Int))).map (saleOf l)
  | 0 => rfl
  | n + 1 => by
    unfold outTo
    rw [List.range_succ, List.filter_append, List.map_append, outTo_filter l xs n]
    cases h : hasI xs (n : Int) <;> simp [h]
theorem valid_out {o t : Int} {l : List Sale} (hv : Valid o t l) (xs : List Int) : Valid o t (outL l xs) :=
  valid_sub hv (outTo_length l xs _) (fun _ h => outL_mem h)
theorem RunS.front : ∀ {p q : List Sale} {st : Nat → Int} {x : Int}, RunS st x (p ++ q) → RunS st x p
  | [], _, _, _, _ => trivial
  | _ :: _, _, _, _, ⟨h1, h2, h3⟩ => ⟨h1, h2, RunS.front h3⟩
theorem last_out {o t : Int} {l : List Sale} (hv : Valid o t l) {ns : List Nat} {n : Nat} (h : PathOk t l 0 0 (ns ++ [n])) : fitsB t (outL l [(n : Int)]) = true := by
  obtain ⟨k1, k2, k3⟩ := path_mem _ _ _ h
  rw [List.nodup_append] at k1
  obtain ⟨hnd, _, hdis⟩ := k1
  refine (fits_perm (valid_out hv _)).2 ⟨ns.map (saleOf l), ?_, ?_⟩
  · unfold outL
    rw [outTo_filter]
    refine List.Perm.map _ ((List.perm_ext_iff_of_nodup hnd (List.nodup_range.filter _)).2 fun m => ?_)
    rw [List.mem_filter, List.mem_range]
    have hh : hasI [(n : Int)] (m : Int) = decide (n = m) := by
      by_cases e : n = m
      · simp [hasI, e]
      · have : ¬ (n : Int) = m := by omega
        simp [hasI, e, this]
    rw [hh]
    constructor
    · intro hm
      refine ⟨(k2 m (List.mem_append_left _ hm)).1, ?_⟩
      have : m ≠ n := hdis m hm n List.mem_cons_self
      simp
      exact fun e => this e.symm
    · rintro ⟨hm, hne⟩
      simp at hne
      rcases k3 m hm with h | h
      · simp at h
      · rcases List.mem_append.1 h with h | h
        · exact h
        · simp at h
          exact absurd h.symm hne
  · have := path_runs _ _ _ h
    rw [show stocksOf t l 0 = upd (fun _ => 0) 0 t from stocksTo_zero _, List.map_append] at this
    exact this.front
end Go.Proofs.Ytfcnombmphophaa

namespace Go.Proofs.Ytfcnombmphophaa
open Go.RowKit Go.Shelf
theorem sl25L {b o n c k : Nat} (h : k ≤ n) (h2 : n ≤ c) (hc : k < c) (w : World) : (Instr.sliceAt 25 (.slice (some ⟨b, o, none⟩) n c) (some (.int .i64 k)) none none).run Try.prog w = .ok (.slice (some ⟨b, o + k, none⟩) (n - k) (c - k)) w := by
  go_simp
  omega
theorem OpW.sliceL {P : Program} {p : Value → World → Prop} {d : Nat} {a : Act} {w : World} {ty : TypeId} {pos : String} {aft : Array Edge} {gd : Option (Nat × Bool)} {t : TypeId} {x y : Operand} {u u' v : Value} (hx : a.eval x = u) (hy : a.eval y = u') (hv : (Instr.sliceAt t u (some u') none none).run P w = .ok v w) (hp : p v w) :
    OpW P p ⟨some d, .slice t x (some y) none none, ty, pos, aft, gd⟩ d a w := OpW.val rfl (by simp [execOp, hx, hy, hv]) hp (Below.refl _ _)
/-- A batch as a value. -/
def BatW (o t : Int) (L : List Sale) (v : Value) (w : World) : Prop := ∃ A c, v = .agg #[.int .i64 o, .int .i64 t, .slice A L.length c] ∧ SalesAt w w.heap.size A L
theorem BatW.st (o t : Int) (L : List Sale) : StableW (BatW o t L) := by
  rintro v w w' ⟨A, c, e, h⟩ hb
  exact ⟨A, c, e, (h.below hb (Nat.le_refl _)).more hb.size⟩
/-- A call that makes a batch. -/
abbrev CB (w : World) (args : Array Value) (o t : Int) (L : List Sale) : Prop := ∀ W1, Below w.heap.size w W1 → Calls Try.prog 44 args W1 fun e w' => ∃ u, e = .returned u ∧ BatW o t L u w' ∧ Below W1.heap.size W1 w'
theorem CB.drew {w : World} {args : Array Value} {o t : Int} {L : List Sale} (h : CB w args o t L) : CB w.drew args o t L := fun W1 hb => h W1 (((Below.refl w.heap.size w).drew).trans hb)
theorem fits_w {o t : Int} {L : List Sale} {v : Value} {w : World} {b : Bool} (hl : L.length ≤ 60) (h : BatW o t L v w) (hb : decide (triedE o t L true = 0) = b) : Calls Try.prog 43 #[v] w fun e w' => ∃ u, e = .returned u ∧ u = .bool b ∧ Below w.heap.size w w' := by
  obtain ⟨A, c, rfl, hs⟩ := h
  refine (fitsL_any o t A L c w hl hs).mono ?_
  rintro e w' ⟨rfl, hb'⟩
  exact ⟨_, rfl, by rw [hb], hb'⟩
theorem cv_wakes (w : World) : CV w 16 #[] (.bool true) := by
  intro W1 _
  refine (wakes_any W1).mono ?_
  rintro e w' ⟨rfl, hb⟩
  exact ⟨_, rfl, rfl, hb⟩
noncomputable def opsFw0 : Array Oper := (Try.f13.body.bind (regionOf 12)).getD #[]
def wordsFw0 (c8 : Nat) (A8 : Option Addr) : Words := [fun v _ => v = .slice A8 0 c8, fun v _ => v = .int .i64 0, fun v _ => v = .bool true, fun v _ => v = .bool true, fun _ _ => True, fun _ _ => True, fun _ _ => True, fun _ _ => True, fun _ _ => True, fun _ _ => True, fun _ _ => True, fun _ _ => True, fun v _ => v = .bool true, fun v _ => v = .bool true, fun v _ => v = .bool true, fun v _ => v = .bool true, fun v _ => v = .bool true]
set_option maxRecDepth 10000 in
theorem okFw0_0 {c8 : Nat} {A8 : Option Addr} {a : Act} {w : World} (t8 : a.eval (.tmp 8) = .slice A8 0 c8)  : OpOk Try.prog opsFw0 (wordsFw0 c8 A8) 88 a w 0 := by
  refine OpOk.gen rfl (fun a1 w1 H => ?_)
  have e8 : a1.eval (.tmp 8) = .slice A8 0 c8 := (H.out 8 (by kernel_rfl)).trans t8
  refine gd_none ?_
  exact OpW.move e8 rfl
set_option maxRecDepth 10000 in
theorem okFw0_1 {c8 : Nat} {A8 : Option Addr} {a : Act} {w : World} (t8 : a.eval (.tmp 8) = .slice A8 0 c8)  : OpOk Try.prog opsFw0 (wordsFw0 c8 A8) 88 a w 1 := by
  refine OpOk.gen rfl (fun a1 w1 H => ?_)
  have d0 : a1.eval (.tmp 72) = .slice A8 0 c8 := H.dep 0 72 rfl (by kernel_rfl)
  refine gd_none ?_
  exact OpW.len d0 (ln25 _ _ _ _ _) rfl rfl
set_option maxRecDepth 10000 in
theorem okFw0_2 {c8 : Nat} {A8 : Option Addr} {a : Act} {w : World} (t8 : a.eval (.tmp 8) = .slice A8 0 c8)  : OpOk Try.prog opsFw0 (wordsFw0 c8 A8) 88 a w 2 := by
  refine OpOk.gen rfl (fun a1 w1 H => ?_)
  have d1 : a1.eval (.tmp 73) = .int .i64 0 := H.dep 1 73 rfl (by kernel_rfl)
  refine gd_none ?_
  exact OpW.bin d1 rfl (eql3T rfl _) rfl
set_option maxRecDepth 10000 in
theorem okFw0_3 {c8 : Nat} {A8 : Option Addr} {a : Act} {w : World} (t8 : a.eval (.tmp 8) = .slice A8 0 c8)  : OpOk Try.prog opsFw0 (wordsFw0 c8 A8) 88 a w 3 := by
  refine OpOk.gen rfl (fun a1 w1 H => ?_)
  have d2 : a1.eval (.tmp 74) = .bool true := H.dep 2 74 rfl (by kernel_rfl)
  refine gd_none ?_
  exact OpW.move d2 rfl
set_option maxRecDepth 10000 in
theorem okFw0_4 {c8 : Nat} {A8 : Option Addr} {a : Act} {w : World} (t8 : a.eval (.tmp 8) = .slice A8 0 c8)  : OpOk Try.prog opsFw0 (wordsFw0 c8 A8) 88 a w 4 := by
  refine OpOk.gen rfl (fun a1 w1 H => ?_)
  have d3 : a1.eval (.tmp 75) = .bool true := H.dep 3 75 rfl (by kernel_rfl)
  refine gd_false rfl d3 (by decide) ?_
  trivial
set_option maxRecDepth 10000 in
theorem okFw0_5 {c8 : Nat} {A8 : Option Addr} {a : Act} {w : World} (t8 : a.eval (.tmp 8) = .slice A8 0 c8)  : OpOk Try.prog opsFw0 (wordsFw0 c8 A8) 88 a w 5 := by
  refine OpOk.gen rfl (fun a1 w1 H => ?_)
  have d3 : a1.eval (.tmp 75) = .bool true := H.dep 3 75 rfl (by kernel_rfl)
  refine gd_false rfl d3 (by decide) ?_
  trivial
set_option maxRecDepth 10000 in
theorem okFw0_6 {c8 : Nat} {A8 : Option Addr} {a : Act} {w : World} (t8 : a.eval (.tmp 8) = .slice A8 0 c8)  : OpOk Try.prog opsFw0 (wordsFw0 c8 A8) 88 a w 6 := by
  refine OpOk.gen rfl (fun a1 w1 H => ?_)
  have d3 : a1.eval (.tmp 75) = .bool true := H.dep 3 75 rfl (by kernel_rfl)
  refine gd_false rfl d3 (by decide) ?_
  trivial
set_option maxRecDepth 10000 in
theorem okFw0_7 {c8 : Nat} {A8 : Option Addr} {a : Act} {w : World} (t8 : a.eval (.tmp 8) = .slice A8 0 c8)  : OpOk Try.prog opsFw0 (wordsFw0 c8 A8) 88 a w 7 := by
  refine OpOk.gen rfl (fun a1 w1 H => ?_)
  have d3 : a1.eval (.tmp 75) = .bool true := H.dep 3 75 rfl (by kernel_rfl)
  refine gd_false rfl d3 (by decide) ?_
  trivial
set_option maxRecDepth 10000 in
theorem okFw0_8 {c8 : Nat} {A8 : Option Addr} {a : Act} {w : World} (t8 : a.eval (.tmp 8) = .slice A8 0 c8)  : OpOk Try.prog opsFw0 (wordsFw0 c8 A8) 88 a w 8 := by
  refine OpOk.gen rfl (fun a1 w1 H => ?_)
  have d3 : a1.eval (.tmp 75) = .bool true := H.dep 3 75 rfl (by kernel_rfl)
  refine gd_false rfl d3 (by decide) ?_
  trivial
set_option maxRecDepth 10000 in
theorem okFw0_9 {c8 : Nat} {A8 : Option Addr} {a : Act} {w : World} (t8 : a.eval (.tmp 8) = .slice A8 0 c8)  : OpOk Try.prog opsFw0 (wordsFw0 c8 A8) 88 a w 9 := by
  refine OpOk.gen rfl (fun a1 w1 H => ?_)
  have d3 : a1.eval (.tmp 75) = .bool true := H.dep 3 75 rfl (by kernel_rfl)
  refine gd_false rfl d3 (by decide) ?_
  trivial
set_option maxRecDepth 10000 in
theorem okFw0_10 {c8 : Nat} {A8 : Option Addr} {a : Act} {w : World} (t8 : a.eval (.tmp 8) = .slice A8 0 c8)  : OpOk Try.prog opsFw0 (wordsFw0 c8 A8) 88 a w 10 := by
  refine OpOk.gen rfl (fun a1 w1 H => ?_)
  have d3 : a1.eval (.tmp 75) = .bool true := H.dep 3 75 rfl (by kernel_rfl)
  refine gd_false rfl d3 (by decide) ?_
  trivial
set_option maxRecDepth 10000 in
theorem okFw0_11 {c8 : Nat} {A8 : Option Addr} {a : Act} {w : World} (t8 : a.eval (.tmp 8) = .slice A8 0 c8)  : OpOk Try.prog opsFw0 (wordsFw0 c8 A8) 88 a w 11 := by
  refine OpOk.gen rfl (fun a1 w1 H => ?_)
  have d3 : a1.eval (.tmp 75) = .bool true := H.dep 3 75 rfl (by kernel_rfl)
  refine gd_false rfl d3 (by decide) ?_
  trivial
set_option maxRecDepth 10000 in
theorem okFw0_12 {c8 : Nat} {A8 : Option Addr} {a : Act} {w : World} (t8 : a.eval (.tmp 8) = .slice A8 0 c8)  : OpOk Try.prog opsFw0 (wordsFw0 c8 A8) 88 a w 12 := by
  refine OpOk.gen rfl (fun a1 w1 H => ?_)
  have d3 : a1.eval (.tmp 75) = .bool true := H.dep 3 75 rfl (by kernel_rfl)
  refine gd_none ?_
  exact OpW.pick (b := true) d3 rfl
set_option maxRecDepth 10000 in
theorem okFw0_13 {c8 : Nat} {A8 : Option Addr} {a : Act} {w : World} (t8 : a.eval (.tmp 8) = .slice A8 0 c8)  : OpOk Try.prog opsFw0 (wordsFw0 c8 A8) 88 a w 13 := by
  refine OpOk.gen rfl (fun a1 w1 H => ?_)
  have d12 : a1.eval (.tmp 84) = .bool true := H.dep 12 84 rfl (by kernel_rfl)
  refine gd_none ?_
  exact OpW.move d12 rfl
set_option maxRecDepth 10000 in
theorem okFw0_14 {c8 : Nat} {A8 : Option Addr} {a : Act} {w : World} (t8 : a.eval (.tmp 8) = .slice A8 0 c8)  : OpOk Try.prog opsFw0 (wordsFw0 c8 A8) 88 a w 14 := by
  refine OpOk.gen rfl (fun a1 w1 H => ?_)
  have d13 : a1.eval (.tmp 85) = .bool true := H.dep 13 85 rfl (by kernel_rfl)
  refine gd_true rfl d13 ?_
  exact OpW.call (vs := #[]) (enters_of Try.func16 (by kernel_rfl) rfl) (by simp) (cv_wakes w1 w1 (Below.refl _ _))
set_option maxRecDepth 10000 in
theorem okFw0_15 {c8 : Nat} {A8 : Option Addr} {a : Act} {w : World} (t8 : a.eval (.tmp 8) = .slice A8 0 c8)  : OpOk Try.prog opsFw0 (wordsFw0 c8 A8) 88 a w 15 := by
  refine OpOk.gen rfl (fun a1 w1 H => ?_)
  have d13 : a1.eval (.tmp 85) = .bool true := H.dep 13 85 rfl (by kernel_rfl)
  have d14 : a1.eval (.tmp 86) = .bool true := H.dep 14 86 rfl (by kernel_rfl)
  refine gd_none ?_
  exact OpW.pick (b := true) d13 d14
set_option maxRecDepth 10000 in
theorem okFw0_16 {c8 : Nat} {A8 : Option Addr} {a : Act} {w : World} (t8 : a.eval (.tmp 8) = .slice A8 0 c8)  : OpOk Try.prog opsFw0 (wordsFw0 c8 A8) 88 a w 16 := by
  refine OpOk.gen rfl (fun a1 w1 H => ?_)
  have d15 : a1.eval (.tmp 87) = .bool true := H.dep 15 87 rfl (by kernel_rfl)
  refine gd_none ?_
  exact OpW.assign d15 rfl
set_option maxRecDepth 10000 in
theorem regionFw0 {F : Fence} {n : Nat} (hF : WideF F Try.prog) {Q : Exit → Act → World → Prop} {c8 : Nat} {A8 : Option Addr} {a : Act} {w : World} (hsz : a.tmps.size = 88)
    (t8 : a.eval (.tmp 8) = .slice A8 0 c8) 
    (hK : ∀ (a' : Act) (w' : World), a'.tmps.size = 88 → a'.defers = a.defers → Below w.heap.size w w' → (∀ e, ndstB opsFw0 e = true → a'.eval (.tmp e) = a.eval (.tmp e)) → (∀ (j d : Nat), (opsFw0[j]?).bind (·.dst) = some d → (wordsFw0 c8 A8).at_ j (a'.eval (.tmp d)) w') → Q .normal a' w') :
    (Code.region 12 opsFw0 true).wpIn F n Try.prog Q a w := by
  refine region_S (wordsFw0 c8 A8) 88 hF (by kernel_rfl) Try.mixed (by kernel_rfl) (by kernel_rfl) ?_ hsz 17 (by kernel_rfl) ?_ hK
  · exact ⟨(fun _ _ _ h _ => h), (fun _ _ _ h _ => h), (fun _ _ _ h _ => h), (fun _ _ _ h _ => h), (fun _ _ _ _ _ => trivial), (fun _ _ _ _ _ => trivial), (fun _ _ _ _ _ => trivial), (fun _ _ _ _ _ => trivial), (fun _ _ _ _ _ => trivial), (fun _ _ _ _ _ => trivial), (fun _ _ _ _ _ => trivial), (fun _ _ _ _ _ => trivial), (fun _ _ _ h _ => h), (fun _ _ _ h _ => h), (fun _ _ _ h _ => h), (fun _ _ _ h _ => h), (fun _ _ _ h _ => h), trivial⟩
  · exact ⟨⟨⟨⟨⟨⟨⟨⟨⟨⟨⟨⟨⟨⟨⟨⟨⟨trivial, okFw0_0 t8 ⟩, okFw0_1 t8 ⟩, okFw0_2 t8 ⟩, okFw0_3 t8 ⟩, okFw0_4 t8 ⟩, okFw0_5 t8 ⟩, okFw0_6 t8 ⟩, okFw0_7 t8 ⟩, okFw0_8 t8 ⟩, okFw0_9 t8 ⟩, okFw0_10 t8 ⟩, okFw0_11 t8 ⟩, okFw0_12 t8 ⟩, okFw0_13 t8 ⟩, okFw0_14 t8 ⟩, okFw0_15 t8 ⟩, okFw0_16 t8 ⟩
theorem sub1 {x y : Operand} {n : Nat} (h : n ≤ 100) (w : World) : (do eqGuard .sub 3 x y (.int .i64 ((n + 1 : Nat) : Int)) (.int .i64 1); binOp .sub 3 (.int .i64 ((n + 1 : Nat) : Int)) (.int .i64 1) : Sem Value).run Try.prog w = .ok (.int .i64 n) w := by
  have := sub3 (x := x) (y := y) (m := ((n + 1 : Nat) : Int)) (n := 1) (by omega) (by omega) w
  rw [show (((n + 1 : Nat) : Int) - 1) = (n : Int) by omega] at this
  exact this
noncomputable def opsFw1 : Array Oper := (Try.f13.body.bind (regionOf 12)).getD #[]
def wordsFw1 (b2 b8 o8 n_ c8 nl c : Nat) (A : Option Addr) (o t : Int) (L : List Sale) : Words := [fun v _ => v = .slice (some ⟨b8, o8, none⟩) (n_ + 1) c8, fun v _ => v = .int .i64 (n_ + 1), fun v _ => v = .bool false, fun v _ => v = .bool false, fun v _ => v = .agg #[.int .i64 o, .int .i64 t, .slice A nl c], fun v _ => v = .slice (some ⟨b8, o8, none⟩) (n_ + 1) c8, fun v _ => v = .slice (some ⟨b8, o8, none⟩) (n_ + 1) c8, fun v _ => v = .int .i64 (n_ + 1), fun v _ => v = .int .i64 n_, fun v _ => v = .slice (some ⟨b8, o8 + n_, none⟩) (n_ + 1 - n_) (c8 - n_), fun v w => BatW o t L v w, fun v _ => v = .bool true, fun v _ => v = .bool true, fun v _ => v = .bool true, fun v _ => v = .bool true, fun v _ => v = .bool true, fun v _ => v = .bool true]
set_option maxRecDepth 10000 in
theorem okFw1_0 {b2 b8 o8 n_ c8 nl c : Nat} {A : Option Addr} {o t : Int} {L : List Sale} {a : Act} {w : World} (t2 : a.eval (.tmp 2) = .pointer (some ⟨b2, 0, none⟩)) (t8 : a.eval (.tmp 8) = .slice (some ⟨b8, o8, none⟩) (n_ + 1) c8) (q0 : w.cell? ⟨b2, 0, none⟩ = some (.int .i64 o)) (q1 : w.cell? ⟨b2, 1, none⟩ = some (.int .i64 t)) (q2 : w.cell? ⟨b2, 2, none⟩ = some (.slice A nl c)) (hn8 : n_ ≤ 100) (hc8 : n_ + 1 ≤ c8) (hL : L.length ≤ 60) (hcb : CB w #[.agg #[.int .i64 o, .int .i64 t, .slice A nl c], .slice (some ⟨b8, o8 + n_, none⟩) (n_ + 1 - n_) (c8 - n_)] o t L) (hfit : decide (triedE o t L true = 0) = true) : OpOk Try.prog opsFw1 (wordsFw1 b2 b8 o8 n_ c8 nl c A o t L) 88 a w 0 := by
  refine OpOk.gen rfl (fun a1 w1 H => ?_)
  have e8 : a1.eval (.tmp 8) = .slice (some ⟨b8, o8, none⟩) (n_ + 1) c8 := (H.out 8 (by kernel_rfl)).trans t8
  refine gd_none ?_
  exact OpW.move e8 rfl
set_option maxRecDepth 10000 in
theorem okFw1_1 {b2 b8 o8 n_ c8 nl c : Nat} {A : Option Addr} {o t : Int} {L : List Sale} {a : Act} {w : World} (t2 : a.eval (.tmp 2) = .pointer (some ⟨b2, 0, none⟩)) (t8 : a.eval (.tmp 8) = .slice (some ⟨b8, o8, none⟩) (n_ + 1) c8) (q0 : w.cell? ⟨b2, 0, none⟩ = some (.int .i64 o)) (q1 : w.cell? ⟨b2, 1, none⟩ = some (.int .i64 t)) (q2 : w.cell? ⟨b2, 2, none⟩ = some (.slice A nl c)) (hn8 : n_ ≤ 100) (hc8 : n_ + 1 ≤ c8) (hL : L.length ≤ 60) (hcb : CB w #[.agg #[.int .i64 o, .int .i64 t, .slice A nl c], .slice (some ⟨b8, o8 + n_, none⟩) (n_ + 1 - n_) (c8 - n_)] o t L) (hfit : decide (triedE o t L true = 0) = true) : OpOk Try.prog opsFw1 (wordsFw1 b2 b8 o8 n_ c8 nl c A o t L) 88 a w 1 := by
  refine OpOk.gen rfl (fun a1 w1 H => ?_)
  have d0 : a1.eval (.tmp 72) = .slice (some ⟨b8, o8, none⟩) (n_ + 1) c8 := H.dep 0 72 rfl (by kernel_rfl)
  refine gd_none ?_
  exact OpW.len d0 (ln25 _ _ _ _ _) rfl rfl
set_option maxRecDepth 10000 in
theorem okFw1_2 {b2 b8 o8 n_ c8 nl c : Nat} {A : Option Addr} {o t : Int} {L : List Sale} {a : Act} {w : World} (t2 : a.eval (.tmp 2) = .pointer (some ⟨b2, 0, none⟩)) (t8 : a.eval (.tmp 8) = .slice (some ⟨b8, o8, none⟩) (n_ + 1) c8) (q0 : w.cell? ⟨b2, 0, none⟩ = some (.int .i64 o)) (q1 : w.cell? ⟨b2, 1, none⟩ = some (.int .i64 t)) (q2 : w.cell? ⟨b2, 2, none⟩ = some (.slice A nl c)) (hn8 : n_ ≤ 100) (hc8 : n_ + 1 ≤ c8) (hL : L.length ≤ 60) (hcb : CB w #[.agg #[.int .i64 o, .int .i64 t, .slice A nl c], .slice (some ⟨b8, o8 + n_, none⟩) (n_ + 1 - n_) (c8 - n_)] o t L) (hfit : decide (triedE o t L true = 0) = true) : OpOk Try.prog opsFw1 (wordsFw1 b2 b8 o8 n_ c8 nl c A o t L) 88 a w 2 := by
  refine OpOk.gen rfl (fun a1 w1 H => ?_)
  have d1 : a1.eval (.tmp 73) = .int .i64 (n_ + 1) := H.dep 1 73 rfl (by kernel_rfl)
  refine gd_none ?_
  exact OpW.bin d1 rfl (eql3F (by omega) _) rfl
set_option maxRecDepth 10000 in
theorem okFw1_3 {b2 b8 o8 n_ c8 nl c : Nat} {A : Option Addr} {o t : Int} {L : List Sale} {a : Act} {w : World} (t2 : a.eval (.tmp 2) = .pointer (some ⟨b2, 0, none⟩)) (t8 : a.eval (.tmp 8) = .slice (some ⟨b8, o8, none⟩) (n_ + 1) c8) (q0 : w.cell? ⟨b2, 0, none⟩ = some (.int .i64 o)) (q1 : w.cell? ⟨b2, 1, none⟩ = some (.int .i64 t)) (q2 : w.cell? ⟨b2, 2, none⟩ = some (.slice A nl c)) (hn8 : n_ ≤ 100) (hc8 : n_ + 1 ≤ c8) (hL : L.length ≤ 60) (hcb : CB w #[.agg #[.int .i64 o, .int .i64 t, .slice A nl c], .slice (some ⟨b8, o8 + n_, none⟩) (n_ + 1 - n_) (c8 - n_)] o t L) (hfit : decide (triedE o t L true = 0) = true) : OpOk Try.prog opsFw1 (wordsFw1 b2 b8 o8 n_ c8 nl c A o t L) 88 a w 3 := by
  refine OpOk.gen rfl (fun a1 w1 H => ?_)
  have d2 : a1.eval (.tmp 74) = .bool false := H.dep 2 74 rfl (by kernel_rfl)
  refine gd_none ?_
  exact OpW.move d2 rfl
set_option maxRecDepth 10000 in
theorem okFw1_4 {b2 b8 o8 n_ c8 nl c : Nat} {A : Option Addr} {o t : Int} {L : List Sale} {a : Act} {w : World} (t2 : a.eval (.tmp 2) = .pointer (some ⟨b2, 0, none⟩)) (t8 : a.eval (.tmp 8) = .slice (some ⟨b8, o8, none⟩) (n_ + 1) c8) (q0 : w.cell? ⟨b2, 0, none⟩ = some (.int .i64 o)) (q1 : w.cell? ⟨b2, 1, none⟩ = some (.int .i64 t)) (q2 : w.cell? ⟨b2, 2, none⟩ = some (.slice A nl c)) (hn8 : n_ ≤ 100) (hc8 : n_ + 1 ≤ c8) (hL : L.length ≤ 60) (hcb : CB w #[.agg #[.int .i64 o, .int .i64 t, .slice A nl c], .slice (some ⟨b8, o8 + n_, none⟩) (n_ + 1 - n_) (c8 - n_)] o t L) (hfit : decide (triedE o t L true = 0) = true) : OpOk Try.prog opsFw1 (wordsFw1 b2 b8 o8 n_ c8 nl c A o t L) 88 a w 4 := by
  refine OpOk.gen rfl (fun a1 w1 H => ?_)
  have d3 : a1.eval (.tmp 75) = .bool false := H.dep 3 75 rfl (by kernel_rfl)
  have e2 : a1.eval (.tmp 2) = .pointer (some ⟨b2, 0, none⟩) := (H.out 2 (by kernel_rfl)).trans t2
  refine gd_true rfl d3 ?_
  exact OpW.load e2 (ld24 ⟨H.cell q0, H.cell q1, H.cell q2⟩) rfl
set_option maxRecDepth 10000 in
theorem okFw1_5 {b2 b8 o8 n_ c8 nl c : Nat} {A : Option Addr} {o t : Int} {L : List Sale} {a : Act} {w : World} (t2 : a.eval (.tmp 2) = .pointer (some ⟨b2, 0, none⟩)) (t8 : a.eval (.tmp 8) = .slice (some ⟨b8, o8, none⟩) (n_ + 1) c8) (q0 : w.cell? ⟨b2, 0, none⟩ = some (.int .i64 o)) (q1 : w.cell? ⟨b2, 1, none⟩ = some (.int .i64 t)) (q2 : w.cell? ⟨b2, 2, none⟩ = some (.slice A nl c)) (hn8 : n_ ≤ 100) (hc8 : n_ + 1 ≤ c8) (hL : L.length ≤ 60) (hcb : CB w #[.agg #[.int .i64 o, .int .i64 t, .slice A nl c], .slice (some ⟨b8, o8 + n_, none⟩) (n_ + 1 - n_) (c8 - n_)] o t L) (hfit : decide (triedE o t L true = 0) = true) : OpOk Try.prog opsFw1 (wordsFw1 b2 b8 o8 n_ c8 nl c A o t L) 88 a w 5 := by
  refine OpOk.gen rfl (fun a1 w1 H => ?_)
  have d3 : a1.eval (.tmp 75) = .bool false := H.dep 3 75 rfl (by kernel_rfl)
  have e8 : a1.eval (.tmp 8) = .slice (some ⟨b8, o8, none⟩) (n_ + 1) c8 := (H.out 8 (by kernel_rfl)).trans t8
  refine gd_true rfl d3 ?_
  exact OpW.move e8 rfl
set_option maxRecDepth 10000 in
theorem okFw1_6 {b2 b8 o8 n_ c8 nl c : Nat} {A : Option Addr} {o t : Int} {L : List Sale} {a : Act} {w : World} (t2 : a.eval (.tmp 2) = .pointer (some ⟨b2, 0, none⟩)) (t8 : a.eval (.tmp 8) = .slice (some ⟨b8, o8, none⟩) (n_ + 1) c8) (q0 : w.cell? ⟨b2, 0, none⟩ = some (.int .i64 o)) (q1 : w.cell? ⟨b2, 1, none⟩ = some (.int .i64 t)) (q2 : w.cell? ⟨b2, 2, none⟩ = some (.slice A nl c)) (hn8 : n_ ≤ 100) (hc8 : n_ + 1 ≤ c8) (hL : L.length ≤ 60) (hcb : CB w #[.agg #[.int .i64 o, .int .i64 t, .slice A nl c], .slice (some ⟨b8, o8 + n_, none⟩) (n_ + 1 - n_) (c8 - n_)] o t L) (hfit : decide (triedE o t L true = 0) = true) : OpOk Try.prog opsFw1 (wordsFw1 b2 b8 o8 n_ c8 nl c A o t L) 88 a w 6 := by
  refine OpOk.gen rfl (fun a1 w1 H => ?_)
  have d3 : a1.eval (.tmp 75) = .bool false := H.dep 3 75 rfl (by kernel_rfl)
  have e8 : a1.eval (.tmp 8) = .slice (some ⟨b8, o8, none⟩) (n_ + 1) c8 := (H.out 8 (by kernel_rfl)).trans t8
  refine gd_true rfl d3 ?_
  exact OpW.move e8 rfl
set_option maxRecDepth 10000 in
theorem okFw1_7 {b2 b8 o8 n_ c8 nl c : Nat} {A : Option Addr} {o t : Int} {L : List Sale} {a : Act} {w : World} (t2 : a.eval (.tmp 2) = .pointer (some ⟨b2, 0, none⟩)) (t8 : a.eval (.tmp 8) = .slice (some ⟨b8, o8, none⟩) (n_ + 1) c8) (q0 : w.cell? ⟨b2, 0, none⟩ = some (.int .i64 o)) (q1 : w.cell? ⟨b2, 1, none⟩ = some (.int .i64 t)) (q2 : w.cell? ⟨b2, 2, none⟩ = some (.slice A nl c)) (hn8 : n_ ≤ 100) (hc8 : n_ + 1 ≤ c8) (hL : L.length ≤ 60) (hcb : CB w #[.agg #[.int .i64 o, .int .i64 t, .slice A nl c], .slice (some ⟨b8, o8 + n_, none⟩) (n_ + 1 - n_) (c8 - n_)] o t L) (hfit : decide (triedE o t L true = 0) = true) : OpOk Try.prog opsFw1 (wordsFw1 b2 b8 o8 n_ c8 nl c A o t L) 88 a w 7 := by
  refine OpOk.gen rfl (fun a1 w1 H => ?_)
  have d3 : a1.eval (.tmp 75) = .bool false := H.dep 3 75 rfl (by kernel_rfl)
  have d6 : a1.eval (.tmp 78) = .slice (some ⟨b8, o8, none⟩) (n_ + 1) c8 := H.dep 6 78 rfl (by kernel_rfl)
  refine gd_true rfl d3 ?_
  exact OpW.len d6 (ln25 _ _ _ _ _) rfl rfl
set_option maxRecDepth 10000 in
theorem okFw1_8 {b2 b8 o8 n_ c8 nl c : Nat} {A : Option Addr} {o t : Int} {L : List Sale} {a : Act} {w : World} (t2 : a.eval (.tmp 2) = .pointer (some ⟨b2, 0, none⟩)) (t8 : a.eval (.tmp 8) = .slice (some ⟨b8, o8, none⟩) (n_ + 1) c8) (q0 : w.cell? ⟨b2, 0, none⟩ = some (.int .i64 o)) (q1 : w.cell? ⟨b2, 1, none⟩ = some (.int .i64 t)) (q2 : w.cell? ⟨b2, 2, none⟩ = some (.slice A nl c)) (hn8 : n_ ≤ 100) (hc8 : n_ + 1 ≤ c8) (hL : L.length ≤ 60) (hcb : CB w #[.agg #[.int .i64 o, .int .i64 t, .slice A nl c], .slice (some ⟨b8, o8 + n_, none⟩) (n_ + 1 - n_) (c8 - n_)] o t L) (hfit : decide (triedE o t L true = 0) = true) : OpOk Try.prog opsFw1 (wordsFw1 b2 b8 o8 n_ c8 nl c A o t L) 88 a w 8 := by
  refine OpOk.gen rfl (fun a1 w1 H => ?_)
  have d3 : a1.eval (.tmp 75) = .bool false := H.dep 3 75 rfl (by kernel_rfl)
  have d7 : a1.eval (.tmp 79) = .int .i64 (n_ + 1) := H.dep 7 79 rfl (by kernel_rfl)
  refine gd_true rfl d3 ?_
  exact OpW.bin d7 rfl (sub1 hn8 _) rfl
set_option maxRecDepth 10000 in
theorem okFw1_9 {b2 b8 o8 n_ c8 nl c : Nat} {A : Option Addr} {o t : Int} {L : List Sale} {a : Act} {w : World} (t2 : a.eval (.tmp 2) = .pointer (some ⟨b2, 0, none⟩)) (t8 : a.eval (.tmp 8) = .slice (some ⟨b8, o8, none⟩) (n_ + 1) c8) (q0 : w.cell? ⟨b2, 0, none⟩ = some (.int .i64 o)) (q1 : w.cell? ⟨b2, 1, none⟩ = some (.int .i64 t)) (q2 : w.cell? ⟨b2, 2, none⟩ = some (.slice A nl c)) (hn8 : n_ ≤ 100) (hc8 : n_ + 1 ≤ c8) (hL : L.length ≤ 60) (hcb : CB w #[.agg #[.int .i64 o, .int .i64 t, .slice A nl c], .slice (some ⟨b8, o8 + n_, none⟩) (n_ + 1 - n_) (c8 - n_)] o t L) (hfit : decide (triedE o t L true = 0) = true) : OpOk Try.prog opsFw1 (wordsFw1 b2 b8 o8 n_ c8 nl c A o t L) 88 a w 9 := by
  refine OpOk.gen rfl (fun a1 w1 H => ?_)
  have d3 : a1.eval (.tmp 75) = .bool false := H.dep 3 75 rfl (by kernel_rfl)
  have d5 : a1.eval (.tmp 77) = .slice (some ⟨b8, o8, none⟩) (n_ + 1) c8 := H.dep 5 77 rfl (by kernel_rfl)
  have d8 : a1.eval (.tmp 80) = .int .i64 n_ := H.dep 8 80 rfl (by kernel_rfl)
  refine gd_true rfl d3 ?_
  exact OpW.sliceL d5 d8 (sl25L (by omega) hc8 (by omega) _) rfl
set_option maxRecDepth 10000 in
theorem okFw1_10 {b2 b8 o8 n_ c8 nl c : Nat} {A : Option Addr} {o t : Int} {L : List Sale} {a : Act} {w : World} (t2 : a.eval (.tmp 2) = .pointer (some ⟨b2, 0, none⟩)) (t8 : a.eval (.tmp 8) = .slice (some ⟨b8, o8, none⟩) (n_ + 1) c8) (q0 : w.cell? ⟨b2, 0, none⟩ = some (.int .i64 o)) (q1 : w.cell? ⟨b2, 1, none⟩ = some (.int .i64 t)) (q2 : w.cell? ⟨b2, 2, none⟩ = some (.slice A nl c)) (hn8 : n_ ≤ 100) (hc8 : n_ + 1 ≤ c8) (hL : L.length ≤ 60) (hcb : CB w #[.agg #[.int .i64 o, .int .i64 t, .slice A nl c], .slice (some ⟨b8, o8 + n_, none⟩) (n_ + 1 - n_) (c8 - n_)] o t L) (hfit : decide (triedE o t L true = 0) = true) : OpOk Try.prog opsFw1 (wordsFw1 b2 b8 o8 n_ c8 nl c A o t L) 88 a w 10 := by
  refine OpOk.gen rfl (fun a1 w1 H => ?_)
  have d3 : a1.eval (.tmp 75) = .bool false := H.dep 3 75 rfl (by kernel_rfl)
  have d4 : a1.eval (.tmp 76) = .agg #[.int .i64 o, .int .i64 t, .slice A nl c] := H.dep 4 76 rfl (by kernel_rfl)
  have d9 : a1.eval (.tmp 81) = .slice (some ⟨b8, o8 + n_, none⟩) (n_ + 1 - n_) (c8 - n_) := H.dep 9 81 rfl (by kernel_rfl)
  refine gd_true rfl d3 ?_
  exact OpW.call (vs := #[.agg #[.int .i64 o, .int .i64 t, .slice A nl c], .slice (some ⟨b8, o8 + n_, none⟩) (n_ + 1 - n_) (c8 - n_)]) (enters_of Try.func44 (by kernel_rfl) rfl) (by simp [d4, d9]) (hcb w1 H.low)
set_option maxRecDepth 10000 in
theorem okFw1_11 {b2 b8 o8 n_ c8 nl c : Nat} {A : Option Addr} {o t : Int} {L : List Sale} {a : Act} {w : World} (t2 : a.eval (.tmp 2) = .pointer (some ⟨b2, 0, none⟩)) (t8 : a.eval (.tmp 8) = .slice (some ⟨b8, o8, none⟩) (n_ + 1) c8) (q0 : w.cell? ⟨b2, 0, none⟩ = some (.int .i64 o)) (q1 : w.cell? ⟨b2, 1, none⟩ = some (.int .i64 t)) (q2 : w.cell? ⟨b2, 2, none⟩ = some (.slice A nl c)) (hn8 : n_ ≤ 100) (hc8 : n_ + 1 ≤ c8) (hL : L.length ≤ 60) (hcb : CB w #[.agg #[.int .i64 o, .int .i64 t, .slice A nl c], .slice (some ⟨b8, o8 + n_, none⟩) (n_ + 1 - n_) (c8 - n_)] o t L) (hfit : decide (triedE o t L true = 0) = true) : OpOk Try.prog opsFw1 (wordsFw1 b2 b8 o8 n_ c8 nl c A o t L) 88 a w 11 := by
  refine OpOk.gen rfl (fun a1 w1 H => ?_)
  have d3 : a1.eval (.tmp 75) = .bool false := H.dep 3 75 rfl (by kernel_rfl)
  have d10 : BatW o t L (a1.eval (.tmp 82)) w1 := H.dep 10 82 rfl (by kernel_rfl)
  refine gd_true rfl d3 ?_
  exact OpW.call (vs := #[a1.eval (.tmp 82)]) (enters_of Try.func43 (by kernel_rfl) rfl) (by simp) (fits_w hL d10 hfit)
set_option maxRecDepth 10000 in
theorem okFw1_12 {b2 b8 o8 n_ c8 nl c : Nat} {A : Option Addr} {o t : Int} {L : List Sale} {a : Act} {w : World} (t2 : a.eval (.tmp 2) = .pointer (some ⟨b2, 0, none⟩)) (t8 : a.eval (.tmp 8) = .slice (some ⟨b8, o8, none⟩) (n_ + 1) c8) (q0 : w.cell? ⟨b2, 0, none⟩ = some (.int .i64 o)) (q1 : w.cell? ⟨b2, 1, none⟩ = some (.int .i64 t)) (q2 : w.cell? ⟨b2, 2, none⟩ = some (.slice A nl c)) (hn8 : n_ ≤ 100) (hc8 : n_ + 1 ≤ c8) (hL : L.length ≤ 60) (hcb : CB w #[.agg #[.int .i64 o, .int .i64 t, .slice A nl c], .slice (some ⟨b8, o8 + n_, none⟩) (n_ + 1 - n_) (c8 - n_)] o t L) (hfit : decide (triedE o t L true = 0) = true) : OpOk Try.prog opsFw1 (wordsFw1 b2 b8 o8 n_ c8 nl c A o t L) 88 a w 12 := by
  refine OpOk.gen rfl (fun a1 w1 H => ?_)
  have d3 : a1.eval (.tmp 75) = .bool false := H.dep 3 75 rfl (by kernel_rfl)
  have d11 : a1.eval (.tmp 83) = .bool true := H.dep 11 83 rfl (by kernel_rfl)
  refine gd_none ?_
  exact OpW.pick (b := false) d3 d11
set_option maxRecDepth 10000 in
theorem okFw1_13 {b2 b8 o8 n_ c8 nl c : Nat} {A : Option Addr} {o t : Int} {L : List Sale} {a : Act} {w : World} (t2 : a.eval (.tmp 2) = .pointer (some ⟨b2, 0, none⟩)) (t8 : a.eval (.tmp 8) = .slice (some ⟨b8, o8, none⟩) (n_ + 1) c8) (q0 : w.cell? ⟨b2, 0, none⟩ = some (.int .i64 o)) (q1 : w.cell? ⟨b2, 1, none⟩ = some (.int .i64 t)) (q2 : w.cell? ⟨b2, 2, none⟩ = some (.slice A nl c)) (hn8 : n_ ≤ 100) (hc8 : n_ + 1 ≤ c8) (hL : L.length ≤ 60) (hcb : CB w #[.agg #[.int .i64 o, .int .i64 t, .slice A nl c], .slice (some ⟨b8, o8 + n_, none⟩) (n_ + 1 - n_) (c8 - n_)] o t L) (hfit : decide (triedE o t L true = 0) = true) : OpOk Try.prog opsFw1 (wordsFw1 b2 b8 o8 n_ c8 nl c A o t L) 88 a w 13 := by
  refine OpOk.gen rfl (fun a1 w1 H => ?_)
  have d12 : a1.eval (.tmp 84) = .bool true := H.dep 12 84 rfl (by kernel_rfl)
  refine gd_none ?_
  exact OpW.move d12 rfl
set_option maxRecDepth 10000 in
theorem okFw1_14 {b2 b8 o8 n_ c8 nl c : Nat} {A : Option Addr} {o t : Int} {L : List Sale} {a : Act} {w : World} (t2 : a.eval (.tmp 2) = .pointer (some ⟨b2, 0, none⟩)) (t8 : a.eval (.tmp 8) = .slice (some ⟨b8, o8, none⟩) (n_ + 1) c8) (q0 : w.cell? ⟨b2, 0, none⟩ = some (.int .i64 o)) (q1 : w.cell? ⟨b2, 1, none⟩ = some (.int .i64 t)) (q2 : w.cell? ⟨b2, 2, none⟩ = some (.slice A nl c)) (hn8 : n_ ≤ 100) (hc8 : n_ + 1 ≤ c8) (hL : L.length ≤ 60) (hcb : CB w #[.agg #[.int .i64 o, .int .i64 t, .slice A nl c], .slice (some ⟨b8, o8 + n_, none⟩) (n_ + 1 - n_) (c8 - n_)] o t L) (hfit : decide (triedE o t L true = 0) = true) : OpOk Try.prog opsFw1 (wordsFw1 b2 b8 o8 n_ c8 nl c A o t L) 88 a w 14 := by
  refine OpOk.gen rfl (fun a1 w1 H => ?_)
  have d13 : a1.eval (.tmp 85) = .bool true := H.dep 13 85 rfl (by kernel_rfl)
  refine gd_true rfl d13 ?_
  exact OpW.call (vs := #[]) (enters_of Try.func16 (by kernel_rfl) rfl) (by simp) (cv_wakes w1 w1 (Below.refl _ _))
set_option maxRecDepth 10000 in
theorem okFw1_15 {b2 b8 o8 n_ c8 nl c : Nat} {A : Option Addr} {o t : Int} {L : List Sale} {a : Act} {w : World} (t2 : a.eval (.tmp 2) = .pointer (some ⟨b2, 0, none⟩)) (t8 : a.eval (.tmp 8) = .slice (some ⟨b8, o8, none⟩) (n_ + 1) c8) (q0 : w.cell? ⟨b2, 0, none⟩ = some (.int .i64 o)) (q1 : w.cell? ⟨b2, 1, none⟩ = some (.int .i64 t)) (q2 : w.cell? ⟨b2, 2, none⟩ = some (.slice A nl c)) (hn8 : n_ ≤ 100) (hc8 : n_ + 1 ≤ c8) (hL : L.length ≤ 60) (hcb : CB w #[.agg #[.int .i64 o, .int .i64 t, .slice A nl c], .slice (some ⟨b8, o8 + n_, none⟩) (n_ + 1 - n_) (c8 - n_)] o t L) (hfit : decide (triedE o t L true = 0) = true) : OpOk Try.prog opsFw1 (wordsFw1 b2 b8 o8 n_ c8 nl c A o t L) 88 a w 15 := by
  refine OpOk.gen rfl (fun a1 w1 H => ?_)
  have d13 : a1.eval (.tmp 85) = .bool true := H.dep 13 85 rfl (by kernel_rfl)
  have d14 : a1.eval (.tmp 86) = .bool true := H.dep 14 86 rfl (by kernel_rfl)
  refine gd_none ?_
  exact OpW.pick (b := true) d13 d14
set_option maxRecDepth 10000 in
theorem okFw1_16 {b2 b8 o8 n_ c8 nl c : Nat} {A : Option Addr} {o t : Int} {L : List Sale} {a : Act} {w : World} (t2 : a.eval (.tmp 2) = .pointer (some ⟨b2, 0, none⟩)) (t8 : a.eval (.tmp 8) = .slice (some ⟨b8, o8, none⟩) (n_ + 1) c8) (q0 : w.cell? ⟨b2, 0, none⟩ = some (.int .i64 o)) (q1 : w.cell? ⟨b2, 1, none⟩ = some (.int .i64 t)) (q2 : w.cell? ⟨b2, 2, none⟩ = some (.slice A nl c)) (hn8 : n_ ≤ 100) (hc8 : n_ + 1 ≤ c8) (hL : L.length ≤ 60) (hcb : CB w #[.agg #[.int .i64 o, .int .i64 t, .slice A nl c], .slice (some ⟨b8, o8 + n_, none⟩) (n_ + 1 - n_) (c8 - n_)] o t L) (hfit : decide (triedE o t L true = 0) = true) : OpOk Try.prog opsFw1 (wordsFw1 b2 b8 o8 n_ c8 nl c A o t L) 88 a w 16 := by
  refine OpOk.gen rfl (fun a1 w1 H => ?_)
  have d15 : a1.eval (.tmp 87) = .bool true := H.dep 15 87 rfl (by kernel_rfl)
  refine gd_none ?_
  exact OpW.assign d15 rfl
set_option maxRecDepth 10000 in
theorem regionFw1 {F : Fence} {n : Nat} (hF : WideF F Try.prog) {Q : Exit → Act → World → Prop} {b2 b8 o8 n_ c8 nl c : Nat} {A : Option Addr} {o t : Int} {L : List Sale} {a : Act} {w : World} (hsz : a.tmps.size = 88)
    (t2 : a.eval (.tmp 2) = .pointer (some ⟨b2, 0, none⟩)) (t8 : a.eval (.tmp 8) = .slice (some ⟨b8, o8, none⟩) (n_ + 1) c8) (q0 : w.cell? ⟨b2, 0, none⟩ = some (.int .i64 o)) (q1 : w.cell? ⟨b2, 1, none⟩ = some (.int .i64 t)) (q2 : w.cell? ⟨b2, 2, none⟩ = some (.slice A nl c)) (hn8 : n_ ≤ 100) (hc8 : n_ + 1 ≤ c8) (hL : L.length ≤ 60) (hcb : CB w #[.agg #[.int .i64 o, .int .i64 t, .slice A nl c], .slice (some ⟨b8, o8 + n_, none⟩) (n_ + 1 - n_) (c8 - n_)] o t L) (hfit : decide (triedE o t L true = 0) = true)
    (hK : ∀ (a' : Act) (w' : World), a'.tmps.size = 88 → a'.defers = a.defers → Below w.heap.size w w' → (∀ e, ndstB opsFw1 e = true → a'.eval (.tmp e) = a.eval (.tmp e)) → (∀ (j d : Nat), (opsFw1[j]?).bind (·.dst) = some d → (wordsFw1 b2 b8 o8 n_ c8 nl c A o t L).at_ j (a'.eval (.tmp d)) w') → Q .normal a' w') :
    (Code.region 12 opsFw1 true).wpIn F n Try.prog Q a w := by
  refine region_S (wordsFw1 b2 b8 o8 n_ c8 nl c A o t L) 88 hF (by kernel_rfl) Try.mixed (by kernel_rfl) (by kernel_rfl) ?_ hsz 17 (by kernel_rfl) ?_ hK
  · exact ⟨(fun _ _ _ h _ => h), (fun _ _ _ h _ => h), (fun _ _ _ h _ => h), (fun _ _ _ h _ => h), (fun _ _ _ h _ => h), (fun _ _ _ h _ => h), (fun _ _ _ h _ => h), (fun _ _ _ h _ => h), (fun _ _ _ h _ => h), (fun _ _ _ h _ => h), (BatW.st _ _ _), (fun _ _ _ h _ => h), (fun _ _ _ h _ => h), (fun _ _ _ h _ => h), (fun _ _ _ h _ => h), (fun _ _ _ h _ => h), (fun _ _ _ h _ => h), trivial⟩
  · exact ⟨⟨⟨⟨⟨⟨⟨⟨⟨⟨⟨⟨⟨⟨⟨⟨⟨trivial, okFw1_0 t2 t8 q0 q1 q2 hn8 hc8 hL hcb.drew hfit⟩, okFw1_1 t2 t8 q0 q1 q2 hn8 hc8 hL hcb.drew hfit⟩, okFw1_2 t2 t8 q0 q1 q2 hn8 hc8 hL hcb.drew hfit⟩, okFw1_3 t2 t8 q0 q1 q2 hn8 hc8 hL hcb.drew hfit⟩, okFw1_4 t2 t8 q0 q1 q2 hn8 hc8 hL hcb.drew hfit⟩, okFw1_5 t2 t8 q0 q1 q2 hn8 hc8 hL hcb.drew hfit⟩, okFw1_6 t2 t8 q0 q1 q2 hn8 hc8 hL hcb.drew hfit⟩, okFw1_7 t2 t8 q0 q1 q2 hn8 hc8 hL hcb.drew hfit⟩, okFw1_8 t2 t8 q0 q1 q2 hn8 hc8 hL hcb.drew hfit⟩, okFw1_9 t2 t8 q0 q1 q2 hn8 hc8 hL hcb.drew hfit⟩, okFw1_10 t2 t8 q0 q1 q2 hn8 hc8 hL hcb.drew hfit⟩, okFw1_11 t2 t8 q0 q1 q2 hn8 hc8 hL hcb.drew hfit⟩, okFw1_12 t2 t8 q0 q1 q2 hn8 hc8 hL hcb.drew hfit⟩, okFw1_13 t2 t8 q0 q1 q2 hn8 hc8 hL hcb.drew hfit⟩, okFw1_14 t2 t8 q0 q1 q2 hn8 hc8 hL hcb.drew hfit⟩, okFw1_15 t2 t8 q0 q1 q2 hn8 hc8 hL hcb.drew hfit⟩, okFw1_16 t2 t8 q0 q1 q2 hn8 hc8 hL hcb.drew hfit⟩
end Go.Proofs.Ytfcnombmphophaa

namespace Go.Proofs.Ytfcnombmphophaa
open Go.RowKit Go.Shelf
theorem tried_iff {o t : Int} {l : List Sale} (hv : Valid o t l) : triedE o t l true = 0 ↔ fitsB t l = true := by
  unfold triedE
  rw [hv.fault]
  cases fitsB t l <;> simp
theorem blame_least {o t : Int} {l : List Sale} (hv : Valid o t l) : Least t l (blameL t l) := blameGo_least hv (l.length + 1) 0 (by omega) (fun _ _ _ => Nat.zero_le _)
theorem outL_nil (l : List Sale) : outL l [] = l := by
  unfold outL
  rw [outTo_filter]
  have : ((List.range l.length).filter fun k : Nat => !hasI [] (k : Int)) = List.range l.length := List.filter_eq_self.2 fun k _ => rfl
  rw [this, map_range]
theorem out_list (l : List Sale) (d : Nat) : outL l (listTo d l.length) = withoutL l d := out_without l d l.length l.length (Nat.le_refl _)
theorem listTo_mod (b n : Nat) : ∀ k, k ≤ n → listTo b k = listTo (b % 2 ^ n) k
  | 0, _ => rfl
  | k + 1, h => by
    unfold listTo
    rw [Nat.testBit_mod_two_pow, listTo_mod b n k (by omega)]
    simp [show k < n by omega]
theorem few_out {o t : Int} {l : List Sale} (hv : Valid o t l) : triedE o t (outL l (blameL t l)) true = 0 := by
  obtain ⟨d, h1, h2, h3, _⟩ := blame_least hv
  rw [tried_iff (valid_out hv _), h3, out_list]
  exact h2
theorem few_none {o t : Int} {l : List Sale} (hv : Valid o t l) : decide (triedE o t l true = 0) = decide ((blameL t l).length = 0) := by
  rw [decide_eq_decide, tried_iff hv]
  obtain ⟨d, h1, h2, h3, h4⟩ := blame_least hv
  constructor
  · intro hf
    have hz : listTo 0 l.length = [] := by
      have : ∀ n, listTo 0 n = [] := fun n => by
        induction n with
        | zero => rfl
        | succ n ih => unfold listTo; simp [ih]
      exact this _
    have := h4 0 (Nat.two_pow_pos _) (by rw [← out_list, hz, outL_nil]; exact hf)
    rw [hz] at this
    unfold lessR at this
    split at this
    · rename_i h
      exact h.symm
    · rename_i h
      simp only [decide_eq_false_iff_not] at this
      have e : ([] : List Int).length = 0 := rfl
      omega
  · intro h0
    have := List.length_eq_zero_iff.1 h0
    rw [← out_list, ← h3, this, outL_nil] at h2
    exact h2
theorem few_no {o t : Int} {l : List Sale} (hv : Valid o t l) (b : Nat) (h : lessR (listTo b l.length) (blameL t l) = true) : decide (triedE o t (outL l (listTo b l.length)) true = 0) = false := by
  obtain ⟨d, h1, h2, h3, h4⟩ := blame_least hv
  rw [decide_eq_false_iff_not, tried_iff (valid_out hv _)]
  intro hf
  rw [listTo_mod b l.length l.length (Nat.le_refl _)] at h hf
  rw [out_list] at hf
  rw [h4 _ (Nat.mod_lt _ (Nat.two_pow_pos _)) hf] at h
  cases h
theorem few_last {o t : Int} {l : List Sale} (hv : Valid o t l) (h0 : triedE o t l true = 0) {xs ds : List Int} (h : OrdRes o t l xs ds) : xs = [] ∨ ∃ ys x, xs = ys ++ [x] ∧ triedE o t (outL l [x]) true = 0 := by
  unfold OrdRes at h
  rw [if_pos h0] at h
  obtain ⟨ns, hp, rfl, _⟩ := h
  rcases List.eq_nil_or_concat ns with rfl | ⟨ms, n, rfl⟩
  · exact .inl rfl
  · rw [List.concat_eq_append] at hp ⊢
    refine .inr ⟨ms.map fun n => ((n : Nat) : Int), (n : Int), by simp, ?_⟩
    rw [tried_iff (valid_out hv _)]
    exact last_out hv hp
end Go.Proofs.Ytfcnombmphophaa

namespace Go.Proofs.Ytfcnombmphophaa
open Go.RowKit Go.Shelf
set_option maxRecDepth 100000 in
theorem cv5 {k : Nat} (hk : k < 256) (w : World) : (convert 5 3 (.int .u8 k)).run Try.prog w = .ok (.int .i64 k) w := by
  have h1 : IntKind.i64.wrap (k : Int) = k := by
    rw [IntKind.wrap_i64]
    omega
  go_simp
theorem eql3B {x y : Operand} {m n : Int} {b : Bool} (h : decide (m = n) = b) (w : World) : (do eqGuard .eql 3 x y (.int .i64 m) (.int .i64 n); binOp .eql 3 (.int .i64 m) (.int .i64 n) : Sem Value).run Try.prog w = .ok (.bool b) w := by
  by_cases e : m = n
  · rw [eql3T e, ← h]
    simp [e]
  · rw [eql3F e, ← h]
    simp [e]
theorem neq4s {x y : Operand} (b : Bool) (w : World) : (do eqGuard .neq 4 x y (.bool b) (.bool b); binOp .neq 4 (.bool b) (.bool b) : Sem Value).run Try.prog w = .ok (.bool false) w := by
  cases b <;> go_simp
theorem RI.nil_or {W : World} {v : Value} {xs ys : List Int} {x : Int} (h : RI W v xs) (e : xs = ys ++ [x]) : ∃ b o c, v = .slice (some ⟨b, o, none⟩) (ys.length + 1) c ∧ ys.length + 1 ≤ c ∧ IntsAt W W.heap.size (some ⟨b, o + ys.length, none⟩) [x] := by
  obtain ⟨A, c, rfl, hc, hi⟩ := h
  subst e
  obtain ⟨b, o, hA, hlt, hcell⟩ := hi ys.length x (by simp)
  subst hA
  refine ⟨b, o, c, by simp, by simpa using hc, fun k y hk => ?_⟩
  cases k with
  | zero =>
    simp at hk
    subst hk
    exact ⟨b, o + ys.length, rfl, hlt, hcell⟩
  | succ k => simp at hk
noncomputable def opsFw_0 : Array Oper := (Try.f13.body.bind (regionOf 0)).getD #[]
noncomputable def opsFw_1 : Array Oper := (Try.f13.body.bind (regionOf 1)).getD #[]
noncomputable def opsFw_2 : Array Oper := (Try.f13.body.bind (regionOf 2)).getD #[]
noncomputable def opsFw_3 : Array Oper := (Try.f13.body.bind (regionOf 3)).getD #[]
noncomputable def opsFw_4 : Array Oper := (Try.f13.body.bind (regionOf 4)).getD #[]
noncomputable def opsFw_5 : Array Oper := (Try.f13.body.bind (regionOf 5)).getD #[]
noncomputable def opsFw_6 : Array Oper := (Try.f13.body.bind (regionOf 6)).getD #[]
noncomputable def opsFw_7 : Array Oper := (Try.f13.body.bind (regionOf 7)).getD #[]
noncomputable def opsFw_8 : Array Oper := (Try.f13.body.bind (regionOf 8)).getD #[]
noncomputable def opsFw_9 : Array Oper := (Try.f13.body.bind (regionOf 9)).getD #[]
noncomputable def opsFw_10 : Array Oper := (Try.f13.body.bind (regionOf 10)).getD #[]
noncomputable def opsFw_11 : Array Oper := (Try.f13.body.bind (regionOf 11)).getD #[]
noncomputable def fw_e : Code := .seq (.seq (.region 10 opsFw_10 false) (.cond (.tmp 71) (.seq (.region 11 opsFw_11 false) .ret) .skip)) (.seq (.region 12 opsFw0 true) .ret)
noncomputable def fw_d : Code := .seq (.region 7 opsFw_7 false) (.seq (.seq (.region 8 opsFw_8 false) (.cond (.tmp 61) (.seq (.region 9 opsFw_9 false) .ret) .skip)) fw_e)
noncomputable def code13 : Code := .seq (.region 0 opsFw_0 false) (.seq (.seq (.region 1 opsFw_1 false) (.cond (.tmp 13) (.seq (.region 2 opsFw_2 false) .ret) .skip)) (.seq (.region 3 opsFw_3 false) (.seq (.region 4 opsFw_4 false) (.seq (.seq (.region 5 opsFw_5 false) (.cond (.tmp 52) (.seq (.region 6 opsFw_6 false) .ret) .skip)) fw_d))))
theorem body13 : Try.f13.body = some code13 := by kernel_rfl
set_option maxRecDepth 10000 in
set_option maxHeartbeats 4000000 in
theorem fewer_any (o t : Int) (A : Option Addr) (l : List Sale) (c nb : Nat) (W : World) (hnb : nb < 256) (hs : SalesAt W W.heap.size A l) :
    Calls Try.prog 13 #[.agg #[.int .i64 o, .int .i64 t, .slice A l.length c], .int .u8 nb] W (TP W true) := by
  refine (callsIn_wide (n := 5)).1 (callsIn_of_wp Try.func13 body13 trivial ?_ rfl)
  obtain ⟨a, ha⟩ : ∃ a : Act, a = { tmps := #[.agg #[.int .i64 o, .int .i64 t, .slice A l.length c], .int .u8 nb] ++ Array.replicate (Try.f13.ntmps - (#[.agg #[.int .i64 o, .int .i64 t, .slice A l.length c], .int .u8 nb] : Array Value).size) undef, defers := [] } := ⟨_, rfl⟩
  have hsz : a.tmps.size = 88 := by rw [ha]; simp [Try.ntmps13]
  have t0 : a.eval (.tmp 0) = .agg #[.int .i64 o, .int .i64 t, .slice A l.length c] := by rw [ha]; simp [Act.eval]
  have t1 : a.eval (.tmp 1) = .int .u8 nb := by rw [ha]; simp [Act.eval]
  have hdf : a.defers = [] := by rw [ha]
  rw [← ha]
  clear ha
  have hret : ∀ (a' : Act) (W' : World), a'.defers = [] → a'.eval (.tmp 4) = .bool true → Below W.heap.size W W' → bodyPost Try.prog Try.f13 (TP W true) .ret a' W' := fun a' W' hd h4 hb =>
    bodyPost_ret (v := .bool true) (res1 Try.results13 h4) hd ⟨rfl, hb⟩
  unfold code13
  refine wpIn_seq (region_p 2 ?_)
  intro K hK
  refine ListK.box (i := 0) (u := .agg #[.int .i64 o, .int .i64 t, .slice A l.length c]) rfl (by simp [t0]) (bx24 W _ _ _ _ _) ?_
  refine ListK.assign (i := 1) (v := .bool false) rfl (by simp) ?_
  refine ListK.done (hK _ _ ?_)
  clear hK K
  have wb := Whole.new W 24 #[.int .i64 o, .int .i64 t, .slice A l.length c]
  have hB1 : Below W.heap.size W (W.alloc (.cells #[.int .i64 o, .int .i64 t, .slice A l.length c] 24)) := (Below.refl _ W).alloc (Nat.le_refl _) _
  have hS1 := hB1.size
  have hlt : W.heap.size < (W.alloc (.cells #[.int .i64 o, .int .i64 t, .slice A l.length c] 24)).heap.size := by simp
  generalize hb3 : W.heap.size = b3 at *
  generalize W.alloc (.cells #[.int .i64 o, .int .i64 t, .slice A l.length c] 24) = W1 at *
  replace hs : SalesAt W1 W1.heap.size A l := (hs.below hB1 (Nat.le_refl _)).more hS1
  generalize hA : Act.put _ _ _ = a1
  have hz_a1 : a1.tmps.size = 88 := by rw [← hA]; simp only [size_put, hsz]
  have u1 : a1.eval (.tmp 1) = .int .u8 nb := by rw [← hA]; exact (by simp [t1])
  have u2 : a1.eval (.tmp 2) = .pointer (some ⟨b3, 0, none⟩) := by rw [← hA]; exact (by simp [hsz])
  have hd_a1 : a1.defers = [] := by rw [← hA]; simp only [defers_put, hdf]
  clear hA
  have hrd := ready_any o t A l c W1 hs
  by_cases hready : l.length ≤ 12 ∧ fault o t l = 0
  · obtain ⟨hl12, h0⟩ := hready
    rw [decide_eq_true hl12, decide_eq_true h0] at hrd
    have hv := valid_of_fault h0
    have hl8 := hv.len
    have hm : ∀ s, s ∈ l → 0 ≤ s.many ∧ s.many ≤ 1000 := fun s hs => by
      have := saleOk_facts (hv.ok s hs)
      omega
    have ht0 := hv.t0
    have ht1 := hv.t1
    refine wpIn_seq (wpIn_seq (region_p 3 ?_))
    intro K hK
    refine ListK.load (i := 0) (p := ⟨b3, 0, none⟩) (v := .agg #[.int .i64 o, .int .i64 t, .slice A l.length c]) rfl (by simp [u2]) (ld24 ⟨wb.cell 0, wb.cell 1, wb.cell 2⟩) ?_
    refine ListK.call (i := 1) (vs := #[.agg #[.int .i64 o, .int .i64 t, .slice A l.length c]]) rfl (enters_of Try.func41 (by kernel_rfl) rfl) (by simp [hz_a1]) (((hrd)).mono ?_)
    rintro _ W2 ⟨rfl, hb_a⟩
    clear hrd
    have hL_a := hB1.trans (hb_a.mono (by have := hB1.size; omega))
    replace hs := (hs.below hb_a (Nat.le_refl _)).more hb_a.size
    replace wb := wb.below hb_a wb.lt
    replace hB1 := hL_a
    replace hlt : b3 < W2.heap.size := wb.lt
    refine ⟨_, rfl, ?_⟩
    refine ListK.un (i := 2) (u := .bool true) (v := .bool false) rfl (by simp [hz_a1]) (not4 _ _) ?_
    refine ListK.done (hK _ _ ?_)
    clear hK K
    refine wpIn_cond (t := false) (by simp [hz_a1]) (wpIn_skip ?_)
    show (Code.seq _ _).wpIn _ _ _ _ _ _
    generalize hA : Act.put _ _ _ = a2
    have hz_a2 : a2.tmps.size = 88 := by rw [← hA]; simp only [size_put, hz_a1]
    have v1 : a2.eval (.tmp 1) = .int .u8 nb := by rw [← hA]; exact (by simp [u1])
    have v2 : a2.eval (.tmp 2) = .pointer (some ⟨b3, 0, none⟩) := by rw [← hA]; exact (by simp [u2])
    have hd_a2 : a2.defers = [] := by rw [← hA]; simp only [defers_put, hd_a1]
    clear hA
    refine wpIn_seq (region_p 8 ?_)
    intro K hK
    refine ListK.load (i := 0) (p := ⟨b3, 0, none⟩) (v := .agg #[.int .i64 o, .int .i64 t, .slice A l.length c]) rfl (by simp [v2]) (ld24 ⟨wb.cell 0, wb.cell 1, wb.cell 2⟩) ?_
    refine ListK.call (i := 1) (vs := #[.agg #[.int .i64 o, .int .i64 t, .slice A l.length c]]) rfl (enters_of Try.func18 (by kernel_rfl) rfl) (by simp [hz_a2]) (((batch_any o t A l c W2 (by omega) hs)).mono ?_)
    rintro _ W3 ⟨A3, c3, rfl, hs_b, hb_b⟩
    have hL_b := hB1.trans (hb_b.mono (by have := hB1.size; omega))
    replace hs := (hs.below hb_b (Nat.le_refl _)).more hb_b.size
    replace wb := wb.below hb_b wb.lt
    replace hB1 := hL_b
    replace hlt : b3 < W3.heap.size := wb.lt
    refine ⟨_, rfl, ?_⟩
    refine ListK.call (i := 2) (vs := #[.agg #[.int .i64 o, .int .i64 t, .slice A3 l.length c3]]) rfl (enters_of Try.func24 (by kernel_rfl) rfl) (by simp [hz_a2]) (((blame_any o t A3 l c3 W3 (by omega) hs_b)).mono ?_)
    rintro _ W4 ⟨v7, rfl, ⟨A7, c7, rfl, hc7, i7⟩, hb_c⟩
    have hL_c := hB1.trans (hb_c.mono (by have := hB1.size; omega))
    replace hs := (hs.below hb_c (Nat.le_refl _)).more hb_c.size
    replace wb := wb.below hb_c wb.lt
    replace hB1 := hL_c
    replace hlt : b3 < W4.heap.size := wb.lt
    refine ⟨_, rfl, ?_⟩
    refine ListK.move (i := 3) (v := .tuple #[.slice A7 (blameV o t l).length c7, .int .i64 (fault o t l)]) rfl (by simp [hz_a2]) ?_
    refine ListK.extract (i := 4) (u := .tuple #[.slice A7 (blameV o t l).length c7, .int .i64 (fault o t l)]) (v := .slice A7 (blameV o t l).length c7) rfl (by simp [hz_a2]) (ex0 _ _ _) ?_
    refine ListK.extract (i := 5) (u := .tuple #[.slice A7 (blameV o t l).length c7, .int .i64 (fault o t l)]) (v := .int .i64 (fault o t l)) rfl (by simp [hz_a2]) (ex1 _ _ _) ?_
    refine ListK.assign (i := 6) (v := .slice A7 (blameV o t l).length c7) rfl (by simp [hz_a2]) ?_
    refine ListK.assign (i := 7) (v := .int .i64 (fault o t l)) rfl (by simp [hz_a2]) ?_
    refine ListK.done (hK _ _ ?_)
    clear hK K
    have hbl : blameV o t l = blameL t l := by unfold blameV; rw [if_pos h0]
    rw [hbl] at i7 hc7
    simp only [hbl, h0]
    generalize hA : Act.put _ _ _ = a3
    have hz_a3 : a3.tmps.size = 88 := by rw [← hA]; simp only [size_put, hz_a2]
    have x1 : a3.eval (.tmp 1) = .int .u8 nb := by rw [← hA]; exact (by simp [v1])
    have x2 : a3.eval (.tmp 2) = .pointer (some ⟨b3, 0, none⟩) := by rw [← hA]; exact (by simp [v2])
    have x5 : a3.eval (.tmp 5) = .slice A7 (blameL t l).length c7 := by rw [← hA]; exact (by simp [hz_a2])
    have x6 : a3.eval (.tmp 6) = .int .i64 0 := by rw [← hA]; exact (by simp [hz_a2])
    have hd_a3 : a3.defers = [] := by rw [← hA]; simp only [defers_put, hd_a2]
    clear hA
    have hbll : (blameL t l).length ≤ 12 := by
      obtain ⟨d, _, _, h3, _⟩ := blame_least hv
      rw [h3]
      have := listTo_length d l.length
      omega
    refine wpIn_seq (region_p 5 ?_)
    intro K hK
    refine ListK.load (i := 0) (p := ⟨b3, 0, none⟩) (v := .agg #[.int .i64 o, .int .i64 t, .slice A l.length c]) rfl (by simp [x2]) (ld24 ⟨wb.cell 0, wb.cell 1, wb.cell 2⟩) ?_
    refine ListK.move (i := 1) (v := .int .u8 nb) rfl (by simp [x1]) ?_
    refine ListK.conv (i := 2) (u := .int .u8 nb) (v := .int .i64 nb) rfl (by simp [hz_a3]) (cv5 hnb _) ?_
    refine ListK.call (i := 3) (vs := #[.agg #[.int .i64 o, .int .i64 t, .slice A l.length c], .int .i64 nb]) rfl (enters_of Try.func42 (by kernel_rfl) rfl) (by simp [hz_a3]) (((of_any o t A l c nb W4 hl12)).mono ?_)
    rintro _ W5 ⟨v8, rfl, ⟨A8, c8, rfl, hc8, i8⟩, hb_d⟩
    have hL_d := hB1.trans (hb_d.mono (by have := hB1.size; omega))
    replace hs := (hs.below hb_d (Nat.le_refl _)).more hb_d.size
    replace i7 := (i7.below hb_d (Nat.le_refl _)).more hb_d.size
    replace wb := wb.below hb_d wb.lt
    replace hB1 := hL_d
    replace hlt : b3 < W5.heap.size := wb.lt
    refine ⟨_, rfl, ?_⟩
    refine ListK.assign (i := 4) (v := .slice A8 (listTo nb l.length).length c8) rfl (by simp [hz_a3]) ?_
    refine ListK.done (hK _ _ ?_)
    clear hK K
    generalize hA : Act.put _ _ _ = a4
    have hz_a4 : a4.tmps.size = 88 := by rw [← hA]; simp only [size_put, hz_a3]
    have y2 : a4.eval (.tmp 2) = .pointer (some ⟨b3, 0, none⟩) := by rw [← hA]; exact (by simp [x2])
    have y5 : a4.eval (.tmp 5) = .slice A7 (blameL t l).length c7 := by rw [← hA]; exact (by simp [x5])
    have y6 : a4.eval (.tmp 6) = .int .i64 0 := by rw [← hA]; exact (by simp [x6])
    have y7 : a4.eval (.tmp 7) = .slice A8 (listTo nb l.length).length c8 := by rw [← hA]; exact (by simp [hz_a3])
    have hd_a4 : a4.defers = [] := by rw [← hA]; simp only [defers_put, hd_a3]
    clear hA
    have htl := listTo_length nb l.length
    have hol := outTo_length l (blameL t l) l.length
    have hol2 := outTo_length l (listTo nb l.length) l.length
    change (outL l (blameL t l)).length ≤ l.length at hol
    change (outL l (listTo nb l.length)).length ≤ l.length at hol2
    obtain ⟨fb, hfb⟩ : ∃ fb, decide (triedE o t l true = 0) = fb := ⟨_, rfl⟩
    have hfb2 : decide (((blameL t l).length : Int) = 0) = fb := by
      rw [← hfb, few_none hv, decide_eq_decide]
      omega
    have hfw := few_out hv
    have hrest : ∀ (a5 : Act) (W9 : World), a5.tmps.size = 88 → a5.defers = [] → a5.eval (.tmp 2) = .pointer (some ⟨b3, 0, none⟩) → Below b3 W W9 → SalesAt W9 W9.heap.size A l → Whole W9 b3 24 #[.int .i64 o, .int .i64 t, .slice A l.length c] → fw_d.wpIn Fence.wide 5 Try.prog (bodyPost Try.prog Try.f13 (TP W true)) a5 W9 := by
      intro a5 W9 hz_a5 hd_a5 z2 hB1 hs wb
      have hlt := wb.lt
      unfold fw_d
      refine wpIn_seq (region_p 10 ?_)
      intro K hK
      refine ListK.load (i := 0) (p := ⟨b3, 0, none⟩) (v := .agg #[.int .i64 o, .int .i64 t, .slice A l.length c]) rfl (by simp [z2]) (ld24 ⟨wb.cell 0, wb.cell 1, wb.cell 2⟩) ?_
      refine ListK.call (i := 1) (vs := #[.agg #[.int .i64 o, .int .i64 t, .slice A l.length c]]) rfl (enters_of Try.func18 (by kernel_rfl) rfl) (by simp [hz_a5]) (((batch_any o t A l c W9 (by omega) hs)).mono ?_)
      rintro _ W10 ⟨A3, c3, rfl, hs_b, hb_b⟩
      have hL_b := hB1.trans (hb_b.mono (by have := hB1.size; omega))
      replace hs := (hs.below hb_b (Nat.le_refl _)).more hb_b.size
      replace wb := wb.below hb_b wb.lt
      replace hB1 := hL_b
      replace hlt : b3 < W10.heap.size := wb.lt
      refine ⟨_, rfl, ?_⟩
      refine ListK.call (i := 2) (vs := #[.agg #[.int .i64 o, .int .i64 t, .slice A3 l.length c3]]) rfl (enters_of Try.func23 (by kernel_rfl) rfl) (by simp [hz_a5]) (((order_any o t A3 l c3 W10 (by omega) hs_b)).mono ?_)
      rintro _ W11 ⟨v1, v2, xs, ds, rfl, ⟨A5, c5, rfl, hc5, i5⟩, ⟨A6, c6, rfl, hc6, i6⟩, hor, hb_c⟩
      have hL_c := hB1.trans (hb_c.mono (by have := hB1.size; omega))
      replace hs := (hs.below hb_c (Nat.le_refl _)).more hb_c.size
      replace wb := wb.below hb_c wb.lt
      replace hB1 := hL_c
      replace hlt : b3 < W11.heap.size := wb.lt
      refine ⟨_, rfl, ?_⟩
      refine ListK.move (i := 3) (v := .tuple #[.slice A5 xs.length c5, .slice A6 ds.length c6, .int .i64 (triedE o t l true)]) rfl (by simp [hz_a5]) ?_
      refine ListK.extract (i := 4) (u := .tuple #[.slice A5 xs.length c5, .slice A6 ds.length c6, .int .i64 (triedE o t l true)]) (v := .slice A5 xs.length c5) rfl (by simp [hz_a5]) (ex3_0 _ _ _ _) ?_
      refine ListK.extract (i := 5) (u := .tuple #[.slice A5 xs.length c5, .slice A6 ds.length c6, .int .i64 (triedE o t l true)]) (v := .slice A6 ds.length c6) rfl (by simp [hz_a5]) (ex3_1 _ _ _ _) ?_
      refine ListK.extract (i := 6) (u := .tuple #[.slice A5 xs.length c5, .slice A6 ds.length c6, .int .i64 (triedE o t l true)]) (v := .int .i64 (triedE o t l true)) rfl (by simp [hz_a5]) (ex3_2 _ _ _ _) ?_
      refine ListK.assign (i := 7) (v := .slice A5 xs.length c5) rfl (by simp [hz_a5]) ?_
      refine ListK.assign (i := 8) (v := .slice A6 ds.length c6) rfl (by simp [hz_a5]) ?_
      refine ListK.assign (i := 9) (v := .int .i64 (triedE o t l true)) rfl (by simp [hz_a5]) ?_
      refine ListK.done (hK _ _ ?_)
      clear hK K
      generalize hA : Act.put _ _ _ = a6
      have hz_a6 : a6.tmps.size = 88 := by rw [← hA]; simp only [size_put, hz_a5]
      have p2 : a6.eval (.tmp 2) = .pointer (some ⟨b3, 0, none⟩) := by rw [← hA]; exact (by simp [z2])
      have p8 : a6.eval (.tmp 8) = .slice A5 xs.length c5 := by rw [← hA]; exact (by simp [hz_a5])
      have p9 : a6.eval (.tmp 9) = .slice A6 ds.length c6 := by rw [← hA]; exact (by simp [hz_a5])
      have p10 : a6.eval (.tmp 10) = .int .i64 (triedE o t l true) := by rw [← hA]; exact (by simp [hz_a5])
      have hd_a6 : a6.defers = [] := by rw [← hA]; simp only [defers_put, hd_a5]
      clear hA
      cases hF : fitsB t l with
      | false =>
        have h9 := tried_no h0 hF
        refine wpIn_seq (wpIn_seq (region_p 2 ?_))
        intro K hK
        refine ListK.move (i := 0) (v := .int .i64 (triedE o t l true)) rfl (by simp [p10]) ?_
        refine ListK.bin (i := 1) (u := .int .i64 (triedE o t l true)) (u' := .int .i64 0) (v := .bool true) rfl (by simp [hz_a6]) (by simp) (neq27T' (by rw [h9]; decide) _) ?_
        refine ListK.done (hK _ _ ?_)
        clear hK K
        refine wpIn_cond (t := true) (by simp [hz_a6]) ?_
        generalize hA : Act.put _ _ _ = a7
        have hz_a7 : a7.tmps.size = 88 := by rw [← hA]; simp only [size_put, hz_a6]
        have r2 : a7.eval (.tmp 2) = .pointer (some ⟨b3, 0, none⟩) := by rw [← hA]; exact (by simp [p2])
        have r10 : a7.eval (.tmp 10) = .int .i64 (triedE o t l true) := by rw [← hA]; exact (by simp [p10])
        have hd_a7 : a7.defers = [] := by rw [← hA]; simp only [defers_put, hd_a6]
        clear hA
        refine wpIn_seq (region_p 6 ?_)
        intro K hK
        refine ListK.move (i := 0) (v := .int .i64 (triedE o t l true)) rfl (by simp [r10]) ?_
        refine ListK.bin (i := 1) (u := .int .i64 (triedE o t l true)) (u' := .int .i64 9) (v := .bool true) rfl (by simp [hz_a7]) (by simp) (eql27T h9 _) ?_
        refine ListK.move (i := 2) (v := .bool true) rfl (by simp [hz_a7]) ?_
        refine ListK.call (i := 3) (vs := #[]) rfl (enters_of Try.func16 (by kernel_rfl) rfl) (by simp) (((wakes_any W11)).mono ?_) (hw := wanted_g (e := 64) (b' := true) rfl (by simp [hz_a7]) rfl)
        rintro _ W12 ⟨rfl, hb_d⟩
        have hL_d := hB1.trans (hb_d.mono (by have := hB1.size; omega))
        replace hs := (hs.below hb_d (Nat.le_refl _)).more hb_d.size
        replace wb := wb.below hb_d wb.lt
        replace hB1 := hL_d
        replace hlt : b3 < W12.heap.size := wb.lt
        refine ⟨_, rfl, ?_⟩
        refine ListK.pick (i := 4) (b := true) (v := .bool true) rfl (by simp [hz_a7]) (by simp [hz_a7]) ?_
        refine ListK.assign (i := 5) (v := .bool true) rfl (by simp [hz_a7]) ?_
        refine ListK.done (hK _ _ (wpIn_ret ?_))
        exact hret _ _ (by simp only [defers_put, hd_a7]) (by simp [hz_a7]) hB1
      | true =>
        obtain ⟨htr, hxl, hdl⟩ := ord_truth hor h0 hF
        have h9 := tried_yes h0 hF
        refine wpIn_seq (wpIn_seq (region_p 2 ?_))
        intro K hK
        refine ListK.move (i := 0) (v := .int .i64 (triedE o t l true)) rfl (by simp [p10]) ?_
        refine ListK.bin (i := 1) (u := .int .i64 (triedE o t l true)) (u' := .int .i64 0) (v := .bool false) rfl (by simp [hz_a6]) (by simp) (neq27F' h9 _) ?_
        refine ListK.done (hK _ _ ?_)
        clear hK K
        refine wpIn_cond (t := false) (by simp [hz_a6]) (wpIn_skip ?_)
        generalize hA : Act.put _ _ _ = a7
        have hz_a7 : a7.tmps.size = 88 := by rw [← hA]; simp only [size_put, hz_a6]
        have r2 : a7.eval (.tmp 2) = .pointer (some ⟨b3, 0, none⟩) := by rw [← hA]; exact (by simp [p2])
        have r8 : a7.eval (.tmp 8) = .slice A5 xs.length c5 := by rw [← hA]; exact (by simp [p8])
        have r9 : a7.eval (.tmp 9) = .slice A6 ds.length c6 := by rw [← hA]; exact (by simp [p9])
        have r10 : a7.eval (.tmp 10) = .int .i64 (triedE o t l true) := by rw [← hA]; exact (by simp [p10])
        have hd_a7 : a7.defers = [] := by rw [← hA]; simp only [defers_put, hd_a6]
        clear hA
        unfold fw_e
        refine wpIn_seq (wpIn_seq (region_p 5 ?_))
        intro K hK
        refine ListK.load (i := 0) (p := ⟨b3, 0, none⟩) (v := .agg #[.int .i64 o, .int .i64 t, .slice A l.length c]) rfl (by simp [r2]) (ld24 ⟨wb.cell 0, wb.cell 1, wb.cell 2⟩) ?_
        refine ListK.move (i := 1) (v := .slice A5 xs.length c5) rfl (by simp [r8]) ?_
        refine ListK.move (i := 2) (v := .slice A6 ds.length c6) rfl (by simp [r9]) ?_
        refine ListK.call (i := 3) (vs := #[.agg #[.int .i64 o, .int .i64 t, .slice A l.length c], .slice A5 xs.length c5, .slice A6 ds.length c6]) rfl (enters_of Try.func22 (by kernel_rfl) rfl) (by simp [hz_a7]) (((truth_any o t A A5 A6 l xs ds c c5 c6 W11 hl12 hc5 (by omega) (by omega) ht0 ht1 hm hs i5 i6)).mono ?_)
        rintro _ W12 ⟨rfl, hb_d⟩
        rw [htr]
        have hL_d := hB1.trans (hb_d.mono (by have := hB1.size; omega))
        replace hs := (hs.below hb_d (Nat.le_refl _)).more hb_d.size
        replace i5 := (i5.below hb_d (Nat.le_refl _)).more hb_d.size
        replace wb := wb.below hb_d wb.lt
        replace hB1 := hL_d
        replace hlt : b3 < W12.heap.size := wb.lt
        refine ⟨_, rfl, ?_⟩
        refine ListK.un (i := 4) (u := .bool true) (v := .bool false) rfl (by simp [hz_a7]) (not4 _ _) ?_
        refine ListK.done (hK _ _ ?_)
        clear hK K
        refine wpIn_cond (t := false) (by simp [hz_a7]) (wpIn_skip ?_)
        show (Code.seq _ _).wpIn _ _ _ _ _ _
        generalize hA : Act.put _ _ _ = a8
        have hz_a8 : a8.tmps.size = 88 := by rw [← hA]; simp only [size_put, hz_a7]
        have s2 : a8.eval (.tmp 2) = .pointer (some ⟨b3, 0, none⟩) := by rw [← hA]; exact (by simp [r2])
        have s8 : a8.eval (.tmp 8) = .slice A5 xs.length c5 := by rw [← hA]; exact (by simp [r8])
        have hd_a8 : a8.defers = [] := by rw [← hA]; simp only [defers_put, hd_a7]
        clear hA
        refine wpIn_seq ?_
        rcases few_last hv h9 hor with rfl | ⟨ys, x, hxs, hfit⟩
        · refine regionFw0 (wideF_plain _) hz_a8 (by simpa using s8) fun a9 W13 hz9 hd9 hb13 hrest hat => wpIn_ret ?_
          exact hret _ _ (by rw [hd9]; exact hd_a8) (hat 16 4 (by kernel_rfl)) (hB1.trans (hb13.mono (by omega)))
        · obtain ⟨b8, o8, c9, e8, hc9, i9⟩ := RI.nil_or ⟨A5, c5, rfl, hc5, i5⟩ hxs
          have hy : ys.length ≤ 12 := by
            have := congrArg List.length hxs
            simp at this
            omega
          have hol := outTo_length l [x] l.length
          change (outL l [x]).length ≤ l.length at hol
          have hcb : CB W12 #[.agg #[.int .i64 o, .int .i64 t, .slice A l.length c], .slice (some ⟨b8, o8 + ys.length, none⟩) (ys.length + 1 - ys.length) (c9 - ys.length)] o t (outL l [x]) := by
            intro W13 hb13
            have e1 : ys.length + 1 - ys.length = ([x] : List Int).length := by simp
            rw [e1]
            refine (out_any o t A (some ⟨b8, o8 + ys.length, none⟩) l [x] c (c9 - ys.length) W13 (by omega) (by simp) ((hs.below hb13 (Nat.le_refl _)).more hb13.size) ((i9.below hb13 (Nat.le_refl _)).more hb13.size)).mono ?_
            rintro e W14 ⟨A9, c10, rfl, hs9, hb14⟩
            exact ⟨_, rfl, ⟨A9, c10, rfl, hs9⟩, hb14⟩
          refine regionFw1 (wideF_plain _) hz_a8 s2 (by rw [s8, e8]) (wb.cell 0) (wb.cell 1) (wb.cell 2) (by omega) hc9 (by omega) hcb (decide_eq_true hfit) fun a9 W13 hz9 hd9 hb13 hrest hat => wpIn_ret ?_
          exact hret _ _ (by rw [hd9]; exact hd_a8) (hat 16 4 (by kernel_rfl)) (hB1.trans (hb13.mono (by omega)))
    cases hlt2 : lessR (listTo nb l.length) (blameL t l) with
    | false =>
      refine wpIn_seq (wpIn_seq (region_p 28 ?_))
      intro K hK
      refine ListK.move (i := 0) (v := .int .i64 0) rfl (by simp [y6]) ?_
      refine ListK.bin (i := 1) (u := .int .i64 0) (u' := .int .i64 0) (v := .bool false) rfl (by simp [hz_a4]) (by simp) (neq27F' rfl _) ?_
      refine ListK.move (i := 2) (v := .bool false) rfl (by simp [hz_a4]) ?_
      refine ListK.load (i := 3) (p := ⟨b3, 0, none⟩) (v := .agg #[.int .i64 o, .int .i64 t, .slice A l.length c]) rfl (by simp [y2]) (ld24 ⟨wb.cell 0, wb.cell 1, wb.cell 2⟩) ?_ (hw := wanted_g (e := 27) (b' := false) rfl (by simp [hz_a4]) rfl)
      refine ListK.move (i := 4) (v := .slice A7 (blameL t l).length c7) rfl (by simp [y5]) ?_ (hw := wanted_g (e := 27) (b' := false) rfl (by simp [hz_a4]) rfl)
      refine ListK.call (i := 5) (vs := #[.agg #[.int .i64 o, .int .i64 t, .slice A l.length c], .slice A7 (blameL t l).length c7]) rfl (enters_of Try.func44 (by kernel_rfl) rfl) (by simp [hz_a4]) (((out_any o t A A7 l (blameL t l) c c7 W5 (by omega) hbll hs i7)).mono ?_) (hw := wanted_g (e := 27) (b' := false) rfl (by simp [hz_a4]) rfl)
      rintro _ W6 ⟨A9, c9, rfl, hs9, hb_e⟩
      have hL_e := hB1.trans (hb_e.mono (by have := hB1.size; omega))
      replace hs := (hs.below hb_e (Nat.le_refl _)).more hb_e.size
      replace i7 := (i7.below hb_e (Nat.le_refl _)).more hb_e.size
      replace i8 := (i8.below hb_e (Nat.le_refl _)).more hb_e.size
      replace wb := wb.below hb_e wb.lt
      replace hB1 := hL_e
      replace hlt : b3 < W6.heap.size := wb.lt
      refine ⟨_, rfl, ?_⟩
      refine ListK.call (i := 6) (vs := #[.agg #[.int .i64 o, .int .i64 t, .slice A9 (outL l (blameL t l)).length c9]]) rfl (enters_of Try.func43 (by kernel_rfl) rfl) (by simp [hz_a4]) (((fitsL_any o t A9 (outL l (blameL t l)) c9 W6 (by omega) hs9)).mono ?_) (hw := wanted_g (e := 27) (b' := false) rfl (by simp [hz_a4]) rfl)
      rintro _ W7 ⟨rfl, hb_f⟩
      rw [decide_eq_true hfw]
      have hL_f := hB1.trans (hb_f.mono (by have := hB1.size; omega))
      replace hs := (hs.below hb_f (Nat.le_refl _)).more hb_f.size
      replace i7 := (i7.below hb_f (Nat.le_refl _)).more hb_f.size
      replace i8 := (i8.below hb_f (Nat.le_refl _)).more hb_f.size
      replace wb := wb.below hb_f wb.lt
      replace hB1 := hL_f
      replace hlt : b3 < W7.heap.size := wb.lt
      refine ⟨_, rfl, ?_⟩
      refine ListK.un (i := 7) (u := .bool true) (v := .bool false) rfl (by simp [hz_a4]) (not4 _ _) ?_ (hw := wanted_g (e := 27) (b' := false) rfl (by simp [hz_a4]) rfl)
      refine ListK.pick (i := 8) (b := false) (v := .bool false) rfl (by simp [hz_a4]) (by simp [hz_a4]) ?_
      refine ListK.move (i := 9) (v := .bool false) rfl (by simp [hz_a4]) ?_
      refine ListK.load (i := 10) (p := ⟨b3, 0, none⟩) (v := .agg #[.int .i64 o, .int .i64 t, .slice A l.length c]) rfl (by simp [y2]) (ld24 ⟨wb.cell 0, wb.cell 1, wb.cell 2⟩) ?_ (hw := wanted_g (e := 34) (b' := false) rfl (by simp [hz_a4]) rfl)
      refine ListK.call (i := 11) (vs := #[.agg #[.int .i64 o, .int .i64 t, .slice A l.length c]]) rfl (enters_of Try.func43 (by kernel_rfl) rfl) (by simp [hz_a4]) (((fitsL_any o t A l c W7 (by omega) hs)).mono ?_) (hw := wanted_g (e := 34) (b' := false) rfl (by simp [hz_a4]) rfl)
      rintro _ W8 ⟨rfl, hb_g⟩
      rw [hfb]
      have hL_g := hB1.trans (hb_g.mono (by have := hB1.size; omega))
      replace hs := (hs.below hb_g (Nat.le_refl _)).more hb_g.size
      replace i7 := (i7.below hb_g (Nat.le_refl _)).more hb_g.size
      replace i8 := (i8.below hb_g (Nat.le_refl _)).more hb_g.size
      replace wb := wb.below hb_g wb.lt
      replace hB1 := hL_g
      replace hlt : b3 < W8.heap.size := wb.lt
      refine ⟨_, rfl, ?_⟩
      refine ListK.move (i := 12) (v := .slice A7 (blameL t l).length c7) rfl (by simp [y5]) ?_ (hw := wanted_g (e := 34) (b' := false) rfl (by simp [hz_a4]) rfl)
      refine ListK.lenW (i := 13) (u := .slice A7 (blameL t l).length c7) (v := .int .i64 (blameL t l).length) rfl (by simp [hz_a4]) (ln25 _ _ _ _ _) rfl ?_ (hw := wanted_g (e := 34) (b' := false) rfl (by simp [hz_a4]) rfl)
      refine ListK.bin (i := 14) (u := .int .i64 (blameL t l).length) (u' := .int .i64 0) (v := .bool fb) rfl (by simp [hz_a4]) (by simp) (eql3B hfb2 _) ?_ (hw := wanted_g (e := 34) (b' := false) rfl (by simp [hz_a4]) rfl)
      refine ListK.bin (i := 15) (u := .bool fb) (u' := .bool fb) (v := .bool false) rfl (by simp [hz_a4]) (by simp [hz_a4]) (neq4s _ _) ?_ (hw := wanted_g (e := 34) (b' := false) rfl (by simp [hz_a4]) rfl)
      refine ListK.pick (i := 16) (b := false) (v := .bool false) rfl (by simp [hz_a4]) (by simp [hz_a4]) ?_
      refine ListK.move (i := 17) (v := .bool false) rfl (by simp [hz_a4]) ?_
      refine ListK.move (i := 18) (v := .slice A8 (listTo nb l.length).length c8) rfl (by simp [y7]) ?_ (hw := wanted_g (e := 42) (b' := false) rfl (by simp [hz_a4]) rfl)
      refine ListK.move (i := 19) (v := .slice A7 (blameL t l).length c7) rfl (by simp [y5]) ?_ (hw := wanted_g (e := 42) (b' := false) rfl (by simp [hz_a4]) rfl)
      refine ListK.call (i := 20) (vs := #[.slice A8 (listTo nb l.length).length c8, .slice A7 (blameL t l).length c7]) rfl (enters_of Try.func45 (by kernel_rfl) rfl) (by simp [hz_a4]) (((lessR_any A8 A7 c8 c7 (listTo nb l.length) (blameL t l) W8 (by omega) (by omega) i8 i7)).mono ?_) (hw := wanted_g (e := 42) (b' := false) rfl (by simp [hz_a4]) rfl)
      rintro _ W9 ⟨rfl, hb_h⟩
      rw [hlt2]
      have hL_h := hB1.trans (hb_h.mono (by have := hB1.size; omega))
      replace hs := (hs.below hb_h (Nat.le_refl _)).more hb_h.size
      replace i8 := (i8.below hb_h (Nat.le_refl _)).more hb_h.size
      replace wb := wb.below hb_h wb.lt
      replace hB1 := hL_h
      replace hlt : b3 < W9.heap.size := wb.lt
      refine ⟨_, rfl, ?_⟩
      refine ListK.move (i := 21) (v := .bool false) rfl (by simp [hz_a4]) ?_ (hw := wanted_g (e := 42) (b' := false) rfl (by simp [hz_a4]) rfl)
      refine ListK.passG (i := 22) (e := 46) (b' := false) rfl rfl (by simp [hz_a4]) rfl ?_
      refine ListK.passG (i := 23) (e := 46) (b' := false) rfl rfl (by simp [hz_a4]) rfl ?_
      refine ListK.passG (i := 24) (e := 46) (b' := false) rfl rfl (by simp [hz_a4]) rfl ?_
      refine ListK.passG (i := 25) (e := 46) (b' := false) rfl rfl (by simp [hz_a4]) rfl ?_
      refine ListK.pickW (i := 26) (b := false) (v := .bool false) rfl (by simp [hz_a4]) (by simp) ?_ (hw := wanted_g (e := 42) (b' := false) rfl (by simp [hz_a4]) rfl)
      refine ListK.pick (i := 27) (b := false) (v := .bool false) rfl (by simp [hz_a4]) (by simp [hz_a4]) ?_
      refine ListK.done (hK _ _ ?_)
      clear hK K
      refine wpIn_cond (t := false) (by simp [hz_a4]) (wpIn_skip ?_)
      exact hrest _ _ (by simp only [size_put, hz_a4]) (by simp only [defers_put, hd_a4]) (by simp [y2]) hB1 hs wb
    | true =>
      have hno := few_no hv nb hlt2
      refine wpIn_seq (wpIn_seq (region_p 28 ?_))
      intro K hK
      refine ListK.move (i := 0) (v := .int .i64 0) rfl (by simp [y6]) ?_
      refine ListK.bin (i := 1) (u := .int .i64 0) (u' := .int .i64 0) (v := .bool false) rfl (by simp [hz_a4]) (by simp) (neq27F' rfl _) ?_
      refine ListK.move (i := 2) (v := .bool false) rfl (by simp [hz_a4]) ?_
      refine ListK.load (i := 3) (p := ⟨b3, 0, none⟩) (v := .agg #[.int .i64 o, .int .i64 t, .slice A l.length c]) rfl (by simp [y2]) (ld24 ⟨wb.cell 0, wb.cell 1, wb.cell 2⟩) ?_ (hw := wanted_g (e := 27) (b' := false) rfl (by simp [hz_a4]) rfl)
      refine ListK.move (i := 4) (v := .slice A7 (blameL t l).length c7) rfl (by simp [y5]) ?_ (hw := wanted_g (e := 27) (b' := false) rfl (by simp [hz_a4]) rfl)
      refine ListK.call (i := 5) (vs := #[.agg #[.int .i64 o, .int .i64 t, .slice A l.length c], .slice A7 (blameL t l).length c7]) rfl (enters_of Try.func44 (by kernel_rfl) rfl) (by simp [hz_a4]) (((out_any o t A A7 l (blameL t l) c c7 W5 (by omega) hbll hs i7)).mono ?_) (hw := wanted_g (e := 27) (b' := false) rfl (by simp [hz_a4]) rfl)
      rintro _ W6 ⟨A9, c9, rfl, hs9, hb_e⟩
      have hL_e := hB1.trans (hb_e.mono (by have := hB1.size; omega))
      replace hs := (hs.below hb_e (Nat.le_refl _)).more hb_e.size
      replace i7 := (i7.below hb_e (Nat.le_refl _)).more hb_e.size
      replace i8 := (i8.below hb_e (Nat.le_refl _)).more hb_e.size
      replace wb := wb.below hb_e wb.lt
      replace hB1 := hL_e
      replace hlt : b3 < W6.heap.size := wb.lt
      refine ⟨_, rfl, ?_⟩
      refine ListK.call (i := 6) (vs := #[.agg #[.int .i64 o, .int .i64 t, .slice A9 (outL l (blameL t l)).length c9]]) rfl (enters_of Try.func43 (by kernel_rfl) rfl) (by simp [hz_a4]) (((fitsL_any o t A9 (outL l (blameL t l)) c9 W6 (by omega) hs9)).mono ?_) (hw := wanted_g (e := 27) (b' := false) rfl (by simp [hz_a4]) rfl)
      rintro _ W7 ⟨rfl, hb_f⟩
      rw [decide_eq_true hfw]
      have hL_f := hB1.trans (hb_f.mono (by have := hB1.size; omega))
      replace hs := (hs.below hb_f (Nat.le_refl _)).more hb_f.size
      replace i7 := (i7.below hb_f (Nat.le_refl _)).more hb_f.size
      replace i8 := (i8.below hb_f (Nat.le_refl _)).more hb_f.size
      replace wb := wb.below hb_f wb.lt
      replace hB1 := hL_f
      replace hlt : b3 < W7.heap.size := wb.lt
      refine ⟨_, rfl, ?_⟩
      refine ListK.un (i := 7) (u := .bool true) (v := .bool false) rfl (by simp [hz_a4]) (not4 _ _) ?_ (hw := wanted_g (e := 27) (b' := false) rfl (by simp [hz_a4]) rfl)
      refine ListK.pick (i := 8) (b := false) (v := .bool false) rfl (by simp [hz_a4]) (by simp [hz_a4]) ?_
      refine ListK.move (i := 9) (v := .bool false) rfl (by simp [hz_a4]) ?_
      refine ListK.load (i := 10) (p := ⟨b3, 0, none⟩) (v := .agg #[.int .i64 o, .int .i64 t, .slice A l.length c]) rfl (by simp [y2]) (ld24 ⟨wb.cell 0, wb.cell 1, wb.cell 2⟩) ?_ (hw := wanted_g (e := 34) (b' := false) rfl (by simp [hz_a4]) rfl)
      refine ListK.call (i := 11) (vs := #[.agg #[.int .i64 o, .int .i64 t, .slice A l.length c]]) rfl (enters_of Try.func43 (by kernel_rfl) rfl) (by simp [hz_a4]) (((fitsL_any o t A l c W7 (by omega) hs)).mono ?_) (hw := wanted_g (e := 34) (b' := false) rfl (by simp [hz_a4]) rfl)
      rintro _ W8 ⟨rfl, hb_g⟩
      rw [hfb]
      have hL_g := hB1.trans (hb_g.mono (by have := hB1.size; omega))
      replace hs := (hs.below hb_g (Nat.le_refl _)).more hb_g.size
      replace i7 := (i7.below hb_g (Nat.le_refl _)).more hb_g.size
      replace i8 := (i8.below hb_g (Nat.le_refl _)).more hb_g.size
      replace wb := wb.below hb_g wb.lt
      replace hB1 := hL_g
      replace hlt : b3 < W8.heap.size := wb.lt
      refine ⟨_, rfl, ?_⟩
      refine ListK.move (i := 12) (v := .slice A7 (blameL t l).length c7) rfl (by simp [y5]) ?_ (hw := wanted_g (e := 34) (b' := false) rfl (by simp [hz_a4]) rfl)
      refine ListK.lenW (i := 13) (u := .slice A7 (blameL t l).length c7) (v := .int .i64 (blameL t l).length) rfl (by simp [hz_a4]) (ln25 _ _ _ _ _) rfl ?_ (hw := wanted_g (e := 34) (b' := false) rfl (by simp [hz_a4]) rfl)
      refine ListK.bin (i := 14) (u := .int .i64 (blameL t l).length) (u' := .int .i64 0) (v := .bool fb) rfl (by simp [hz_a4]) (by simp) (eql3B hfb2 _) ?_ (hw := wanted_g (e := 34) (b' := false) rfl (by simp [hz_a4]) rfl)
      refine ListK.bin (i := 15) (u := .bool fb) (u' := .bool fb) (v := .bool false) rfl (by simp [hz_a4]) (by simp [hz_a4]) (neq4s _ _) ?_ (hw := wanted_g (e := 34) (b' := false) rfl (by simp [hz_a4]) rfl)
      refine ListK.pick (i := 16) (b := false) (v := .bool false) rfl (by simp [hz_a4]) (by simp [hz_a4]) ?_
      refine ListK.move (i := 17) (v := .bool false) rfl (by simp [hz_a4]) ?_
      refine ListK.move (i := 18) (v := .slice A8 (listTo nb l.length).length c8) rfl (by simp [y7]) ?_ (hw := wanted_g (e := 42) (b' := false) rfl (by simp [hz_a4]) rfl)
      refine ListK.move (i := 19) (v := .slice A7 (blameL t l).length c7) rfl (by simp [y5]) ?_ (hw := wanted_g (e := 42) (b' := false) rfl (by simp [hz_a4]) rfl)
      refine ListK.call (i := 20) (vs := #[.slice A8 (listTo nb l.length).length c8, .slice A7 (blameL t l).length c7]) rfl (enters_of Try.func45 (by kernel_rfl) rfl) (by simp [hz_a4]) (((lessR_any A8 A7 c8 c7 (listTo nb l.length) (blameL t l) W8 (by omega) (by omega) i8 i7)).mono ?_) (hw := wanted_g (e := 42) (b' := false) rfl (by simp [hz_a4]) rfl)
      rintro _ W9 ⟨rfl, hb_h⟩
      rw [hlt2]
      have hL_h := hB1.trans (hb_h.mono (by have := hB1.size; omega))
      replace hs := (hs.below hb_h (Nat.le_refl _)).more hb_h.size
      replace i8 := (i8.below hb_h (Nat.le_refl _)).more hb_h.size
      replace wb := wb.below hb_h wb.lt
      replace hB1 := hL_h
      replace hlt : b3 < W9.heap.size := wb.lt
      refine ⟨_, rfl, ?_⟩
      refine ListK.move (i := 21) (v := .bool true) rfl (by simp [hz_a4]) ?_ (hw := wanted_g (e := 42) (b' := false) rfl (by simp [hz_a4]) rfl)
      refine ListK.load (i := 22) (p := ⟨b3, 0, none⟩) (v := .agg #[.int .i64 o, .int .i64 t, .slice A l.length c]) rfl (by simp [y2]) (ld24 ⟨wb.cell 0, wb.cell 1, wb.cell 2⟩) ?_ (hw := wanted_g (e := 46) (b' := true) rfl (by simp [hz_a4]) rfl)
      refine ListK.move (i := 23) (v := .slice A8 (listTo nb l.length).length c8) rfl (by simp [y7]) ?_ (hw := wanted_g (e := 46) (b' := true) rfl (by simp [hz_a4]) rfl)
      refine ListK.call (i := 24) (vs := #[.agg #[.int .i64 o, .int .i64 t, .slice A l.length c], .slice A8 (listTo nb l.length).length c8]) rfl (enters_of Try.func44 (by kernel_rfl) rfl) (by simp [hz_a4]) (((out_any o t A A8 l (listTo nb l.length) c c8 W9 (by omega) (by omega) hs i8)).mono ?_) (hw := wanted_g (e := 46) (b' := true) rfl (by simp [hz_a4]) rfl)
      rintro _ W10 ⟨A10, c10, rfl, hs10, hb_i⟩
      have hL_i := hB1.trans (hb_i.mono (by have := hB1.size; omega))
      replace hs := (hs.below hb_i (Nat.le_refl _)).more hb_i.size
      replace wb := wb.below hb_i wb.lt
      replace hB1 := hL_i
      replace hlt : b3 < W10.heap.size := wb.lt
      refine ⟨_, rfl, ?_⟩
      refine ListK.call (i := 25) (vs := #[.agg #[.int .i64 o, .int .i64 t, .slice A10 (outL l (listTo nb l.length)).length c10]]) rfl (enters_of Try.func43 (by kernel_rfl) rfl) (by simp [hz_a4]) (((fitsL_any o t A10 (outL l (listTo nb l.length)) c10 W10 (by omega) hs10)).mono ?_) (hw := wanted_g (e := 46) (b' := true) rfl (by simp [hz_a4]) rfl)
      rintro _ W11 ⟨rfl, hb_j⟩
      rw [hno]
      have hL_j := hB1.trans (hb_j.mono (by have := hB1.size; omega))
      replace hs := (hs.below hb_j (Nat.le_refl _)).more hb_j.size
      replace wb := wb.below hb_j wb.lt
      replace hB1 := hL_j
      replace hlt : b3 < W11.heap.size := wb.lt
      refine ⟨_, rfl, ?_⟩
      refine ListK.pickW (i := 26) (b := true) (v := .bool false) rfl (by simp [hz_a4]) (by simp [hz_a4]) ?_ (hw := wanted_g (e := 42) (b' := false) rfl (by simp [hz_a4]) rfl)
      refine ListK.pick (i := 27) (b := false) (v := .bool false) rfl (by simp [hz_a4]) (by simp [hz_a4]) ?_
      refine ListK.done (hK _ _ ?_)
      clear hK K
      refine wpIn_cond (t := false) (by simp [hz_a4]) (wpIn_skip ?_)
      exact hrest _ _ (by simp only [size_put, hz_a4]) (by simp only [defers_put, hd_a4]) (by simp [y2]) hB1 hs wb
  · have hrdy : (decide (l.length ≤ 12) && decide (fault o t l = 0)) = false := by
      rw [Bool.and_eq_false_iff, decide_eq_false_iff_not, decide_eq_false_iff_not]
      exact Decidable.not_and_iff_or_not.1 hready
    rw [hrdy] at hrd
    refine wpIn_seq (wpIn_seq (region_p 3 ?_))
    intro K hK
    refine ListK.load (i := 0) (p := ⟨b3, 0, none⟩) (v := .agg #[.int .i64 o, .int .i64 t, .slice A l.length c]) rfl (by simp [u2]) (ld24 ⟨wb.cell 0, wb.cell 1, wb.cell 2⟩) ?_
    refine ListK.call (i := 1) (vs := #[.agg #[.int .i64 o, .int .i64 t, .slice A l.length c]]) rfl (enters_of Try.func41 (by kernel_rfl) rfl) (by simp [hz_a1]) (((hrd)).mono ?_)
    rintro _ W2 ⟨rfl, hb_a⟩
    clear hrd
    have hL_a := hB1.trans (hb_a.mono (by have := hB1.size; omega))
    replace hs := (hs.below hb_a (Nat.le_refl _)).more hb_a.size
    replace wb := wb.below hb_a wb.lt
    replace hB1 := hL_a
    replace hlt : b3 < W2.heap.size := wb.lt
    refine ⟨_, rfl, ?_⟩
    refine ListK.un (i := 2) (u := .bool false) (v := .bool true) rfl (by simp [hz_a1]) (not4 _ _) ?_
    refine ListK.done (hK _ _ ?_)
    clear hK K
    refine wpIn_cond (t := true) (by simp [hz_a1]) ?_
    refine wpIn_seq (region_p 2 ?_)
    intro K hK
    refine ListK.call (i := 0) (vs := #[]) rfl (enters_of Try.func16 (by kernel_rfl) rfl) (by simp) (((wakes_any W2)).mono ?_)
    rintro _ W3 ⟨rfl, hb_b⟩
    have hL_b := hB1.trans (hb_b.mono (by have := hB1.size; omega))
    replace hs := (hs.below hb_b (Nat.le_refl _)).more hb_b.size
    replace wb := wb.below hb_b wb.lt
    replace hB1 := hL_b
    replace hlt : b3 < W3.heap.size := wb.lt
    refine ⟨_, rfl, ?_⟩
    refine ListK.assign (i := 1) (v := .bool true) rfl (by simp [hz_a1]) ?_
    refine ListK.done (hK _ _ (wpIn_ret ?_))
    exact hret _ _ (by simp only [defers_put, hd_a1]) (by simp [hz_a1]) hB1
end Go.Proofs.Ytfcnombmphophaa

namespace Go.Proofs.Ytfcnombmphophaa
open Go.RowKit Go.Shelf Go.ChangeShapes Go.WideShapes
section
variable {H : Type} {enc : TypeId × Value → H} {W : World} {r : Reach} {b0 : Nat}
theorem c3 : Try.prog.cellsOf 3 = 1 := by kernel_rfl
theorem c22 : Try.prog.cellsOf 22 = 1 := by kernel_rfl
theorem c71 : Try.prog.cellsOf 71 = 2 := by kernel_rfl
theorem c73 : Try.prog.cellsOf 73 = 5 := by kernel_rfl
theorem c24 : Try.prog.cellsOf 24 = 3 := by kernel_rfl
theorem get_int {n : Nat} {cs : List Value} {t i : Nat} {y : Option (DataW H × List MemPlace)} (ht : Try.prog.underlying t = some (.int .i64)) (h : DataW.trod enc Try.prog W 0 (fun _ => true) true n t ((cs.drop i).take 1) = y) (hy : ∃ z, y = some z) : ∃ x : Int, cs[i]? = some (.int .i64 x) := by
  obtain ⟨z, rfl⟩ := hy
  obtain ⟨x, hx, _, _⟩ := DataW.trod_int ht h
  refine ⟨x, ?_⟩
  have h2 : ((cs.drop i).take 1)[0]? = some (.int .i64 x) := by rw [hx]; rfl
  rw [List.getElem?_take, if_pos (by omega), List.getElem?_drop] at h2
  simpa using h2
theorem five {cs : List Value} {a b c d e : Value} (hl : cs.length = 5) (h0 : cs[0]? = some a) (h1 : cs[1]? = some b) (h2 : cs[2]? = some c) (h3 : cs[3]? = some d) (h4 : cs[4]? = some e) : cs = [a, b, c, d, e] := by
  match cs, hl with
  | [_, _, _, _, _], _ =>
    simp at h0 h1 h2 h3 h4
    subst h0 h1 h2 h3 h4
    rfl
theorem at_some {α : Type} {xs : List α} {n i : Nat} (h : xs.length = n) (hi : i < n) : ∃ z, xs[i]? = some z := ⟨_, List.getElem?_eq_getElem (by omega)⟩
set_option maxRecDepth 100000 in
/-- Five cells that read as a sale. -/
theorem open_sale {n : Nat} {cs : List Value} {x : DataW H × List MemPlace} (h : DataW.trod enc Try.prog W 0 (fun _ => true) true n 73 cs = some x) : ∃ s : Sale, cs = saleL s := by
  obtain ⟨xs, m, rfl, rfl, hl, hx, hi⟩ := DataW.trod_struct Try.underlying73 h
  rw [c73] at hl
  have h0 := (show DataW.trod enc Try.prog W 0 (fun _ => true) true m 3 ((cs.drop 0).take (Try.prog.cellsOf 3)) = xs[0]? from hi 0 _ rfl)
  have h1 := (show DataW.trod enc Try.prog W 0 (fun _ => true) true m 3 ((cs.drop 1).take (Try.prog.cellsOf 3)) = xs[1]? from hi 1 _ rfl)
  have h2 := (show DataW.trod enc Try.prog W 0 (fun _ => true) true m 3 ((cs.drop 2).take (Try.prog.cellsOf 3)) = xs[2]? from hi 2 _ rfl)
  have h3 := (show DataW.trod enc Try.prog W 0 (fun _ => true) true m 71 ((cs.drop 3).take (Try.prog.cellsOf 71)) = xs[3]? from hi 3 _ rfl)
  rw [c3] at h0 h1 h2
  rw [c71] at h3
  obtain ⟨a, p0⟩ := get_int Try.underlying3 h0 (at_some hx (by decide))
  obtain ⟨b, p1⟩ := get_int Try.underlying3 h1 (at_some hx (by decide))
  obtain ⟨c, p2⟩ := get_int Try.underlying3 h2 (at_some hx (by decide))
  obtain ⟨z, hz⟩ := at_some (i := 3) hx (by decide)
  rw [hz] at h3
  obtain ⟨ys, m', rfl, rfl, hl', hy, hj⟩ := DataW.trod_struct Try.underlying71 h3
  have k0 := (show DataW.trod enc Try.prog W 0 (fun _ => true) true m' 3 ((((cs.drop 3).take 2).drop 0).take (Try.prog.cellsOf 3)) = ys[0]? from hj 0 _ rfl)
  have k1 := (show DataW.trod enc Try.prog W 0 (fun _ => true) true m' 3 ((((cs.drop 3).take 2).drop 1).take (Try.prog.cellsOf 3)) = ys[1]? from hj 1 _ rfl)
  rw [c3] at k0 k1
  obtain ⟨d, k0⟩ := get_int Try.underlying3 k0 (at_some hy (by decide))
  obtain ⟨e, k1⟩ := get_int Try.underlying3 k1 (at_some hy (by decide))
  rw [List.getElem?_take, if_pos (by omega), List.getElem?_drop] at k0 k1
  exact ⟨⟨a, b, c, d, e⟩, five hl p0 p1 p2 k0 k1⟩
set_option maxRecDepth 100000 in
theorem open_batch {v : Value} {d : DataW H} {ps : List MemPlace} (hval : Value.okWide Try.prog W r b0 24 v) (hd : DataW.Trod enc Try.prog W 0 (fun _ => true) true 24 v d ps) :
    ∃ (o t : Int) (A : Option Addr) (l : List Sale) (c : Nat), v = .agg #[.int .i64 o, .int .i64 t, .slice A l.length c] ∧ SalesAt W W.heap.size A l := by
  unfold Value.okWide at hval
  rw [Try.underlying24] at hval
  obtain ⟨cs, rfl, hsz, _⟩ := hval
  rw [c24] at hsz
  obtain ⟨fuel, hf⟩ := hd
  obtain ⟨xs, m, rfl, _, hl, hx, hi⟩ := DataW.trod_struct Try.underlying24 hf
  have h0 := (show DataW.trod enc Try.prog W 0 (fun _ => true) true m 3 (((Value.agg cs).cells.toList.drop 0).take (Try.prog.cellsOf 3)) = xs[0]? from hi 0 _ rfl)
  have h1 := (show DataW.trod enc Try.prog W 0 (fun _ => true) true m 3 (((Value.agg cs).cells.toList.drop 1).take (Try.prog.cellsOf 3)) = xs[1]? from hi 1 _ rfl)
  have h2 := (show DataW.trod enc Try.prog W 0 (fun _ => true) true m 22 (((Value.agg cs).cells.toList.drop 2).take (Try.prog.cellsOf 22)) = xs[2]? from hi 2 _ rfl)
  rw [c3] at h0 h1
  rw [c22] at h2
  obtain ⟨o, h0⟩ := get_int Try.underlying3 h0 (at_some hx (by decide))
  obtain ⟨t, h1⟩ := get_int Try.underlying3 h1 (at_some hx (by decide))
  obtain ⟨z, hz⟩ := at_some (i := 2) hx (by decide)
  rw [hz] at h2
  have hcs : (Value.agg cs).cells.toList = cs.toList := by rfl
  rw [hcs] at h0 h1 h2
  have key : ∃ (A : Option Addr) (l : List Sale) (c : Nat), (cs.toList.drop 2).take 1 = [.slice A l.length c] ∧ SalesAt W W.heap.size A l := by
    rcases DataW.trod_slice Try.underlying22 h2 with ⟨h3, _⟩ | ⟨a, n, c, elems, rest, k, _, h3, _, _, hle, _, hlen, hel, _, _⟩
    · exact ⟨none, [], 0, h3, fun k x hx => by simp at hx⟩
    · rw [c73] at hel
      have hsale : ∀ i, i < n → ∃ s : Sale, W.cells? 0 (a.add (i * 5)) 5 = some (saleL s) := by
        intro i hi
        have h4 := hel i hi
        obtain ⟨y, hy⟩ := at_some (i := i) hlen hi
        rw [hy, Option.bind_eq_some_iff] at h4
        obtain ⟨cs', h5, h6⟩ := h4
        obtain ⟨s, rfl⟩ := open_sale h6
        exact ⟨s, h5⟩
      obtain ⟨f, hf⟩ : ∃ f : Nat → Sale, ∀ i, i < n → W.cells? 0 (a.add (i * 5)) 5 = some (saleL (f i)) :=
        ⟨fun i => if h : i < n then Classical.choose (hsale i h) else ⟨0, 0, 0, 0, 0⟩, fun i hi => by
          dsimp only
          rw [dif_pos hi]
          exact Classical.choose_spec (hsale i hi)⟩
      refine ⟨some a, (List.range n).map f, c, by rw [h3]; simp, ?_⟩
      intro k s hs
      rw [List.getElem?_map, Option.map_eq_some_iff] at hs
      obtain ⟨k', hk', rfl⟩ := hs
      obtain ⟨hkn, rfl⟩ : k < n ∧ k' = k := by
        have := List.getElem?_eq_some_iff.1 hk'
        obtain ⟨h7, h8⟩ := this
        simp at h7 h8
        exact ⟨h7, h8.symm⟩
      have hcl := (World.cells?_some (hf k' hkn)).2.2
      obtain ⟨b, off, spot⟩ := a
      have hspot : spot = none := by
        have hcl0 := (World.cells?_some (hf 0 (by omega))).2.2 0 (by omega)
        have := World.cell?_spot (w := W) (a := (Addr.add ⟨b, off, spot⟩ (0 * 5)).add 0) (v := .int .i64 (f 0).src) (by rw [hcl0]; rfl)
        simpa [Addr.add] using this
      subst hspot
      have hc : ∀ j, j < 5 → W.cell? ⟨b, off + k' * 5 + j, none⟩ = (saleL (f k'))[j]? := by
        intro j hj
        have := hcl j hj
        rwa [add_plain, add_plain] at this
      have g0 := hc 0 (by omega)
      have g1 := hc 1 (by omega)
      have g2 := hc 2 (by omega)
      have g3 := hc 3 (by omega)
      have g4 := hc 4 (by omega)
      exact ⟨b, off, rfl, block_lt_of_cell (v := .int .i64 (f k').src) g0, g0, g1, g2, g3, g4⟩
  obtain ⟨A, l, c, h3, hs⟩ := key
  refine ⟨o, t, A, l, c, ?_, hs⟩
  have h4 : cs.toList[2]? = some (.slice A l.length c) := by
    have : ((cs.toList.drop 2).take 1)[0]? = some (.slice A l.length c) := by rw [h3]; rfl
    rw [List.getElem?_take, if_pos (by omega), List.getElem?_drop] at this
    simpa using this
  have h5 : cs.toList = [.int .i64 o, .int .i64 t, .slice A l.length c] := by
    have hl3 : cs.toList.length = 3 := by simpa using hsz
    generalize cs.toList = ls at *
    match ls, hl3 with
    | [_, _, _], _ =>
      simp at h0 h1 h4
      subst h0 h1 h4
      rfl
  have : cs = #[.int .i64 o, .int .i64 t, .slice A l.length c] := by
    apply Array.ext'
    rw [h5]
  rw [this]
end
/-- A READING IS CARRIED OVER WHATEVER LIES BEHIND. -/
theorem laidOut : laidOutB Try.prog = true := by kernel_rfl
theorem r24 : Try.prog.readableRec 24 = true := by kernel_rfl
end Go.Proofs.Ytfcnombmphophaa

namespace Go.Proofs.Ytfcnombmphophaa
open Go.RowKit Go.Shelf Go.ChangeShapes Go.WideShapes
theorem carry_trod {H : Type} {enc : TypeId × Value → H} {W W' : World} {t : TypeId} {v : Value} {d : DataW H} {ps : List MemPlace} (hr : Try.prog.readableRec t = true) (hrow : t < Try.prog.types.size) (hb : Below W.heap.size W W')
    (hd : DataW.Trod enc Try.prog W 0 (fun _ => true) true t v d ps) (hlt : ∀ p ∈ ps, p.block < W.heap.size) : DataW.Trod enc Try.prog W' 0 (fun b => decide (b < W.heap.size)) true t v d ps := by
  obtain ⟨n, h⟩ := hd
  exact ⟨n, DataW.trod_stays (kids_book laidOut hr) (book_sized hr) (fun h => by cases h) ⟨hrow, book_self t⟩ h
    (fun p hp => (hb.frame (fun _ => False)).sameAt (hlt p hp) id (fun b e => by
      have := DataW.trod_good (kids_book laidOut hr) (fun h => by cases h) n t _ _ ⟨hrow, book_self t⟩ h p hp
      subst e
      exact this))
    (fun p hp => by simpa using hlt p hp)⟩
theorem s24 : 24 < Try.prog.types.size := of_decide_eq_true (by kernel_rfl)
end Go.Proofs.Ytfcnombmphophaa
