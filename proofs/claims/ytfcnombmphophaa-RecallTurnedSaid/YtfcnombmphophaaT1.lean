/- Texts for a law of package recall, behind the shared ones, part 1: the law's own contracts and plain words. -/
import Derived.Test.YtfcnombmphophaaG4

set_option linter.unusedVariables false

namespace Go.Proofs.Ytfcnombmphophaa
open Go.RowKit Go.Shelf
def lexLt : List Int → List Int → Bool
  | x :: xs, y :: ys => if x = y then lexLt xs ys else decide (x < y)
  | _, _ => false
def lessR (a b : List Int) : Bool := if a.length = b.length then lexLt a b else decide (a.length < b.length)
/-- The sales but for those in a list. -/
def outTo (l : List Sale) (xs : List Int) : Nat → List Sale
  | 0 => []
  | k + 1 => if hasI xs k = true then outTo l xs k else outTo l xs k ++ [saleOf l k]
def outL (l : List Sale) (xs : List Int) : List Sale := outTo l xs l.length
theorem path_early {o t : Int} {l : List Sale} (hv : Valid o t l) : ∀ (ns : List Nat) (d : Nat) (x : Int), d < 2 ^ l.length → PathOk t l d x ns → early t l d ≤ x → x ≤ 100 → early t l (2 ^ l.length - 1) ≤ 100
  | [], d, x, _, h, h1, h2 => by
    have : d = 2 ^ l.length - 1 := h
    rw [← this]
    omega
  | n :: ns, d, x, hd, ⟨h3, h4, h5⟩, h1, h2 => by
    have hn : n < l.length := by simp [nextB] at h3; exact h3.1
    have hf := hv.at_ (List.getElem?_eq_getElem hn)
    rw [← saleOf_eq (List.getElem?_eq_getElem hn)] at hf
    have hs := early_step hd (by omega) h3 (by omega)
    refine path_early hv ns _ _ ?_ h5 (by omega) (by omega)
    exact Nat.or_lt_two_pow hd (Nat.pow_lt_pow_right (by omega) hn)
theorem way_fits {o t : Int} {l : List Sale} (hv : Valid o t l) {ns : List Nat} (h : PathOk t l 0 0 ns) : fitsB t l = true := by
  have h0 : early t l 0 = 0 := by
    rw [early_at t l (Nat.two_pow_pos _)]
    simp [earlyTo, upd]
  have := path_early hv ns 0 0 (Nat.two_pow_pos _) h (by omega) (by omega)
  unfold fitsB
  simp
  omega
theorem lexLt_irr : ∀ a : List Int, lexLt a a = false
  | [] => rfl
  | x :: xs => by rw [lexLt, if_pos rfl]; exact lexLt_irr xs
theorem lexLt_trans : ∀ a b c : List Int, lexLt a b = true → lexLt b c = true → lexLt a c = true
  | [], _, _, h, _ => by cases h
  | x :: xs, [], _, h, _ => by cases h
  | x :: xs, y :: ys, [], _, h => by cases h
  | x :: xs, y :: ys, z :: zs, h1, h2 => by
    rw [lexLt] at h1 h2 ⊢
    split at h1
    · rename_i e
      subst e
      split at h2
      · rename_i e
        subst e
        rw [if_pos rfl]
        exact lexLt_trans xs ys zs h1 h2
      · rename_i e
        rw [if_neg e]
        exact h2
    · rename_i e
      simp only [decide_eq_true_eq] at h1
      split at h2
      · rename_i e2
        subst e2
        rw [if_neg e]
        simpa using h1
      · simp only [decide_eq_true_eq] at h2
        rw [if_neg (by omega)]
        simp
        omega
theorem listTo_more {d n : Nat} (hd : d < 2 ^ n) : ∀ m, n ≤ m → listTo d m = listTo d n := by
  intro m
  induction m with
  | zero => intro h; rw [show n = 0 by omega]
  | succ m ih =>
    intro h
    by_cases e : n = m + 1
    · rw [e]
    · unfold listTo
      rw [Nat.testBit_lt_two_pow (Nat.lt_of_lt_of_le hd (Nat.pow_le_pow_right (by omega) (by omega)))]
      simp
      rw [ih (by omega)]
      cases n with
      | zero => rfl
      | succ n => rfl
theorem listTo_has (d : Nat) (k : Nat) : ∀ n, hasI (listTo d n) k = (d.testBit k && decide (k < n))
  | 0 => by simp [listTo, hasI]
  | n + 1 => by
    unfold listTo
    by_cases hb : d.testBit n = true
    · rw [if_pos hb, hasI_app, listTo_has d k n]
      by_cases e : n = k
      · subst e
        simp [hb]
      · have : ((n : Int) == (k : Int)) = false := by simp; omega
        rw [this, Bool.or_false]
        congr 1
        simp only [decide_eq_decide]
        omega
    · rw [if_neg hb, listTo_has d k n]
      by_cases e : n = k
      · subst e
        simp at hb
        simp [hb]
      · congr 1
        simp only [decide_eq_decide]
        omega
theorem out_without (l : List Sale) (d n : Nat) : ∀ k, k ≤ n → outTo l (listTo d n) k = withoutTo l d k
  | 0, _ => rfl
  | k + 1, h => by
    unfold outTo withoutTo
    rw [listTo_has, out_without l d n k (by omega)]
    simp [show k < n by omega]
theorem cmp_lex : ∀ x y : List Int, x.length = y.length → (cmpL x y < 0 ↔ lexLt x y = true)
  | [], [], _ => by simp [cmpL, lexLt]
  | [], _ :: _, h => by simp at h
  | _ :: _, [], h => by simp at h
  | x :: xs, y :: ys, h => by
    rw [cmpL, lexLt]
    by_cases e : x = y
    · subst e
      rw [if_pos rfl, if_neg (by simp [cmpI])]
      exact cmp_lex xs ys (by simpa using h)
    · rw [if_neg e]
      unfold cmpI
      by_cases h1 : x < y
      · simp [h1]
      · have h2 : y < x := by omega
        simp [h1, h2]
/-- The least list of sales without which a batch does not contradict itself. -/
def Least (t : Int) (l : List Sale) (x : List Int) : Prop :=
  ∃ d, d < 2 ^ l.length ∧ fitsB t (withoutL l d) = true ∧ x = listTo d l.length ∧ ∀ d', d' < 2 ^ l.length → fitsB t (withoutL l d') = true → lessR (listTo d' l.length) x = false
theorem without_all (l : List Sale) : ∀ n, n ≤ l.length → withoutTo l (2 ^ l.length - 1) n = []
  | 0, _ => rfl
  | n + 1, h => by
    unfold withoutTo
    rw [Nat.testBit_two_pow_sub_one]
    rw [if_pos (by simp; omega)]
    exact without_all l n (by omega)
theorem whole_fits {o t : Int} {l : List Sale} (hv : Valid o t l) : fitsB t (withoutL l (2 ^ l.length - 1)) = true := by
  have hw := valid_without hv (2 ^ l.length - 1)
  have e : withoutL l (2 ^ l.length - 1) = [] := without_all l _ (Nat.le_refl _)
  rw [e] at hw ⊢
  exact way_fits hw (ns := []) rfl
theorem blameOk_iff {t : Int} {l : List Sale} {m d : Nat} : blameOk t l m d = true ↔ (listTo d 8).length = m ∧ fitsB t (withoutL l d) = true := by
  unfold blameOk
  rw [Bool.and_eq_true, decide_eq_true_eq]
theorem blameIn_spec (t : Int) (l : List Sale) (m : Nat) : ∀ b, ((blameIn t l m b).2 = false → ∀ d, d < b → blameOk t l m d = false) ∧
    ((blameIn t l m b).2 = true → ∃ d, d < b ∧ blameOk t l m d = true ∧ (blameIn t l m b).1 = listTo d 8 ∧ ∀ d', d' < b → blameOk t l m d' = true → lexLt (listTo d' 8) (listTo d 8) = false)
  | 0 => ⟨fun _ d h => by omega, fun h => by cases h⟩
  | b + 1 => by
    obtain ⟨ih1, ih2⟩ := blameIn_spec t l m b
    unfold blameIn blameStep
    generalize blameIn t l m b = acc at *
    obtain ⟨best, found⟩ := acc
    simp only at ih1 ih2 ⊢
    by_cases hok : blameOk t l m b = true
    · rw [if_pos hok]
      cases hfd : found with
      | false =>
        rw [if_pos (Or.inl rfl)]
        refine ⟨fun h => (by cases h), fun _ => ⟨b, by omega, hok, rfl, fun d' hd' hk => ?_⟩⟩
        by_cases e : d' = b
        · rw [e]; exact lexLt_irr _
        · rw [ih1 hfd d' (by omega)] at hk; cases hk
      | true =>
        obtain ⟨d, h1, h2, rfl, h4⟩ := ih2 hfd
        have hlen : (listTo b 8).length = (listTo d 8).length := by rw [(blameOk_iff.1 hok).1, (blameOk_iff.1 h2).1]
        by_cases hc : cmpL (listTo b 8) (listTo d 8) < 0
        · rw [if_pos (Or.inr hc)]
          have hlx := (cmp_lex _ _ hlen).1 hc
          refine ⟨fun h => (by cases h), fun _ => ⟨b, by omega, hok, rfl, fun d' hd' hk => ?_⟩⟩
          by_cases e : d' = b
          · rw [e]; exact lexLt_irr _
          · have := h4 d' (by omega) hk
            cases hl : lexLt (listTo d' 8) (listTo b 8) with
            | false => rfl
            | true => rw [lexLt_trans _ _ _ hl hlx] at this; cases this
        · rw [if_neg (by simp [hc])]
          refine ⟨fun h => (by cases h), fun _ => ⟨d, by omega, h2, rfl, fun d' hd' hk => ?_⟩⟩
          by_cases e : d' = b
          · rw [e]
            cases hl : lexLt (listTo b 8) (listTo d 8) with
            | false => rfl
            | true => exact absurd ((cmp_lex _ _ hlen).2 hl) hc
          · exact h4 d' (by omega) hk
    · rw [if_neg hok]
      refine ⟨fun h d hd => ?_, fun h => ?_⟩
      · by_cases e : d = b
        · rw [e]; simpa using hok
        · exact ih1 h d (by omega)
      · obtain ⟨d, h1, h2, h3, h4⟩ := ih2 h
        refine ⟨d, by omega, h2, h3, fun d' hd' hk => ?_⟩
        by_cases e : d' = b
        · rw [e] at hk; exact absurd hk hok
        · exact h4 d' (by omega) hk
theorem blameGo_least {o t : Int} {l : List Sale} (hv : Valid o t l) : ∀ (f m : Nat), m + f = l.length + 1 → (∀ d, d < 2 ^ l.length → fitsB t (withoutL l d) = true → m ≤ (listTo d l.length).length) → Least t l (blameGo t l f m)
  | 0, m, h, hm => by
    exfalso
    have h1 := hm (2 ^ l.length - 1) (by have := Nat.two_pow_pos l.length; omega) (whole_fits hv)
    have := listTo_length (2 ^ l.length - 1) l.length
    omega
  | f + 1, m, h, hm => by
    have hn8 := hv.len
    have hmore : ∀ d, d < 2 ^ l.length → listTo d 8 = listTo d l.length := fun d hd => listTo_more hd 8 hn8
    obtain ⟨h1, h2⟩ := blameIn_spec t l m (2 ^ l.length)
    unfold blameGo
    split
    · rename_i hf
      obtain ⟨d, hd, hok, he, hall⟩ := h2 hf
      rw [he, hmore d hd]
      have hok' := blameOk_iff.1 hok
      rw [hmore d hd] at hok'
      refine ⟨d, hd, hok'.2, rfl, fun d' hd' hf' => ?_⟩
      have hge := hm d' hd' hf'
      unfold lessR
      split
      · rename_i hl
        have := hall d' hd' (blameOk_iff.2 ⟨by rw [hmore d' hd', hl, hok'.1], hf'⟩)
        rwa [hmore d' hd', hmore d hd] at this
      · simp only [decide_eq_false_iff_not]
        omega
    · rename_i hf
      refine blameGo_least hv f (m + 1) (by omega) (fun d hd hfd => ?_)
      have hge := hm d hd hfd
      have hno := h1 (by simpa using hf) d hd
      by_cases e : (listTo d l.length).length = m
      · exfalso
        have : blameOk t l m d = true := blameOk_iff.2 ⟨by rw [hmore d hd]; exact e, hfd⟩
        rw [this] at hno
        cases hno
      · omega
end Go.Proofs.Ytfcnombmphophaa
namespace Go.Proofs.Ytfcnombmphophaa
open Go.RowKit Go.Shelf
section
attribute [local irreducible] AnyK StepK
end
end Go.Proofs.Ytfcnombmphophaa
namespace Go.Proofs.Ytfcnombmphophaa
open Go.RowKit Go.Shelf
section
variable {o t : Int} {A A2 : Option Addr} {l l2 : List Sale} {c c2 : Nat} {n_ on ow : Int} {b3 px B i : Nat} {a1 : Act} {W W1 : World} {Q : Exit → Act → World → Prop}
end
end Go.Proofs.Ytfcnombmphophaa
namespace Go.Proofs.Ytfcnombmphophaa
open Go.RowKit Go.Shelf
section
variable {P : Program} {ops : Array Oper} {K : Act → World → Prop} {Kp : Nat → World → World → Prop} {fuel k : Nat} {listed : Array Bool} {a : Act} {w : World} {i d : Nat} {ty : TypeId} {pos : String} {aft : Array Edge} {gd : Option (Nat × Bool)} {u v x : Value} {y : Nat} {tys : Array TypeId} {bi : Builtin}
theorem AnyK.conv {R : World → Prop} {T : Nat → Bool} {s t : TypeId} {z : Operand} (m : May ops Kp listed R T i ⟨some d, .convert s t z, ty, pos, aft, gd⟩)
    (hz : a.eval z = u) (hv : ∀ w, (convert s t u).run P w = .ok v w) (hS : R w)
    (h : AnyK P ops K Kp fuel (listed.setIfInBounds i true) (a.put (some d) v) w) (hw : Region.wanted ⟨some d, .convert s t z, ty, pos, aft, gd⟩ (yielded ops a.tmps) = true := by rfl) : AnyK P ops K Kp (fuel + 1) listed a w :=
  AnyK.take m (.inl ⟨hw, fun w' _ => by simp [execOp, hz, hv w']⟩) hS h
end
section
attribute [local irreducible] AnyK StepK
end
end Go.Proofs.Ytfcnombmphophaa
namespace Go.Proofs.Ytfcnombmphophaa
open Go.RowKit Go.Shelf
/-- Sales one behind another, each as early as it can be. -/
def RunS : (Nat → Int) → Int → List Sale → Prop
  | _, _, [] => True
  | st, x, s :: ss => s.many ≤ st s.src.toNat ∧ max x s.lo ≤ s.hi ∧ RunS (sold st s) (max x s.lo) ss
theorem path_runs {t : Int} {l : List Sale} : ∀ (ns : List Nat) (d : Nat) (x : Int), PathOk t l d x ns → RunS (stocksOf t l d) x (ns.map (saleOf l))
  | [], _, _, _ => trivial
  | n :: ns, d, x, ⟨h1, h2, h3⟩ => by
    obtain ⟨hn, hb, hm⟩ := nextB_facts h1
    refine ⟨by omega, h2, ?_⟩
    rw [← stocksOf_or hb hn]
    exact path_runs ns _ _ h3
theorem path_mem {t : Int} {l : List Sale} : ∀ (ns : List Nat) (d : Nat) (x : Int), PathOk t l d x ns → ns.Nodup ∧ (∀ m, m ∈ ns → m < l.length ∧ d.testBit m = false) ∧ (∀ m, m < l.length → d.testBit m = true ∨ m ∈ ns)
  | [], d, x, h => by
    have h0 : d = 2 ^ l.length - 1 := h
    refine ⟨List.nodup_nil, fun m hm => (by cases hm), fun m hm => .inl ?_⟩
    rw [h0, Nat.testBit_two_pow_sub_one]
    simpa using hm
  | n :: ns, d, x, ⟨h1, h2, h3⟩ => by
    obtain ⟨hn, hb, hm⟩ := nextB_facts h1
    obtain ⟨k1, k2, k3⟩ := path_mem ns _ _ h3
    have hout : n ∉ ns := fun hmem => by
      have := (k2 n hmem).2
      rw [Nat.testBit_or, Nat.testBit_two_pow_self] at this
      simp at this
    refine ⟨List.nodup_cons.2 ⟨hout, k1⟩, fun m hmem => ?_, fun m hlt => ?_⟩
    · rcases List.mem_cons.1 hmem with rfl | hmem
      · exact ⟨hn, hb⟩
      · have := k2 m hmem
        rw [Nat.testBit_or] at this
        simp at this
        exact ⟨this.1, this.2.1⟩
    · by_cases e : m = n
      · exact .inr (by rw [e]; exact List.mem_cons_self)
      · rcases k3 m hlt with h | h
        · rw [Nat.testBit_or, Nat.testBit_two_pow_of_ne (Ne.symm e)] at h
          exact .inl (by simpa using h)
        · exact .inr (List.mem_cons_of_mem _ h)
theorem runs_path {t : Int} {l : List Sale} : ∀ (ns : List Nat) (d : Nat) (x : Int), d < 2 ^ l.length → ns.Nodup → (∀ m, m ∈ ns → m < l.length ∧ d.testBit m = false) → (∀ m, m < l.length → d.testBit m = true ∨ m ∈ ns) → RunS (stocksOf t l d) x (ns.map (saleOf l)) → PathOk t l d x ns
  | [], d, x, hd, _, _, h3, _ => by
    apply Nat.eq_of_testBit_eq
    intro m
    rw [Nat.testBit_two_pow_sub_one]
    by_cases hm : m < l.length
    · rcases h3 m hm with h | h
      · rw [h]; simp [hm]
      · cases h
    · rw [Nat.testBit_lt_two_pow (Nat.lt_of_lt_of_le hd (Nat.pow_le_pow_right (by omega) (by omega)))]
      simp [hm]
  | n :: ns, d, x, hd, h1, h2, h3, ⟨r1, r2, r3⟩ => by
    obtain ⟨hn, hb⟩ := h2 n List.mem_cons_self
    obtain ⟨hout, hnd⟩ := List.nodup_cons.1 h1
    refine ⟨?_, r2, ?_⟩
    · unfold nextB
      simp [hn, hb]
      exact r1
    · rw [← stocksOf_or hb hn] at r3
      refine runs_path ns _ _ (Nat.or_lt_two_pow hd (Nat.pow_lt_pow_right (by omega) hn)) hnd (fun m hm => ?_) (fun m hm => ?_) r3
      · have := h2 m (List.mem_cons_of_mem _ hm)
        refine ⟨this.1, ?_⟩
        rw [Nat.testBit_or, this.2, Nat.testBit_two_pow_of_ne (fun e => hout (by rw [e]; exact hm))]
        rfl
      · rcases h3 m hm with h | h
        · left
          rw [Nat.testBit_or, h]
          rfl
        · rcases List.mem_cons.1 h with rfl | h
          · left
            rw [Nat.testBit_or, Nat.testBit_two_pow_self]
            simp
          · exact .inr h
theorem perm_lift {α β : Type} {f : α → β} {p q : List β} (h : p.Perm q) : ∀ ms : List α, p = ms.map f → ∃ ns : List α, ns.Perm ms ∧ q = ns.map f := by
  induction h with
  | nil => intro ms hm; exact ⟨ms, List.Perm.refl _, hm⟩
  | cons x h ih =>
    intro ms hm
    cases ms with
    | nil => simp at hm
    | cons m ms =>
      simp only [List.map_cons, List.cons.injEq] at hm
      obtain ⟨ns, h1, h2⟩ := ih ms hm.2
      exact ⟨m :: ns, h1.cons m, by rw [List.map_cons, ← h2, hm.1]⟩
  | swap x y l =>
    intro ms hm
    cases ms with
    | nil => simp at hm
    | cons m ms =>
      cases ms with
      | nil => simp at hm
      | cons k ms =>
        simp only [List.map_cons, List.cons.injEq] at hm
        exact ⟨k :: m :: ms, List.Perm.swap m k ms, by rw [List.map_cons, List.map_cons, ← hm.1, ← hm.2.1, ← hm.2.2]⟩
  | trans h1 h2 ih1 ih2 =>
    intro ms hm
    obtain ⟨ns, a1, a2⟩ := ih1 ms hm
    obtain ⟨os, b1, b2⟩ := ih2 ns a2
    exact ⟨os, b1.trans a1, b2⟩
theorem map_range (l : List Sale) : (List.range l.length).map (saleOf l) = l := by
  apply List.ext_getElem?
  intro k
  rw [List.getElem?_map]
  by_cases h : k < l.length
  · rw [List.getElem?_range h, List.getElem?_eq_getElem h]
    simp only [Option.map_some]
    rw [saleOf_eq (List.getElem?_eq_getElem h)]
  · rw [List.getElem?_eq_none (by simpa using h), List.getElem?_eq_none (by omega)]
    rfl
theorem fits_perm {o t : Int} {l : List Sale} (hv : Valid o t l) : fitsB t l = true ↔ ∃ p, p.Perm l ∧ RunS (upd (fun _ => 0) 0 t) 0 p := by
  have h0 : stocksOf t l 0 = upd (fun _ => 0) 0 t := stocksTo_zero _
  constructor
  · intro h
    obtain ⟨ns, hp⟩ := fits_way hv h
    obtain ⟨k1, k2, k3⟩ := path_mem ns _ _ hp
    refine ⟨ns.map (saleOf l), ?_, by rw [← h0]; exact path_runs ns _ _ hp⟩
    have : ns.Perm (List.range l.length) := by
      refine (List.perm_ext_iff_of_nodup k1 List.nodup_range).2 fun m => ?_
      rw [List.mem_range]
      exact ⟨fun h => (k2 m h).1, fun h => (k3 m h).resolve_left (by simp)⟩
    have h2 := this.map (saleOf l)
    rwa [map_range] at h2
  · rintro ⟨p, hp, hr⟩
    obtain ⟨ns, h1, h2⟩ := perm_lift hp.symm (List.range l.length) (map_range l).symm
    rw [h2, ← h0] at hr
    exact way_fits hv (runs_path ns 0 0 (Nat.two_pow_pos _) (h1.nodup_iff.2 List.nodup_range) (fun m hm => ⟨List.mem_range.1 (h1.mem_iff.1 hm), by simp⟩) (fun m hm => .inr (h1.mem_iff.2 (List.mem_range.2 hm))) hr)
end Go.Proofs.Ytfcnombmphophaa
namespace Go.Proofs.Ytfcnombmphophaa
open Go.RowKit Go.Shelf
theorem outTo_filter (l : List Sale) (xs : List Int) : ∀ n, outTo l xs n = ((List.range n).filter (fun k : Nat => !hasI xs (k : Int))).map (saleOf l)
  | 0 => rfl
  | n + 1 => by
    unfold outTo
    rw [List.range_succ, List.filter_append, List.map_append, outTo_filter l xs n]
    cases h : hasI xs (n : Int) <;> simp [h]
end Go.Proofs.Ytfcnombmphophaa
namespace Go.Proofs.Ytfcnombmphophaa
open Go.RowKit Go.Shelf
theorem blame_least {o t : Int} {l : List Sale} (hv : Valid o t l) : Least t l (blameL t l) := blameGo_least hv (l.length + 1) 0 (by omega) (fun _ _ _ => Nat.zero_le _)
theorem out_list (l : List Sale) (d : Nat) : outL l (listTo d l.length) = withoutL l d := out_without l d l.length l.length (Nat.le_refl _)
end Go.Proofs.Ytfcnombmphophaa
namespace Go.Proofs.Ytfcnombmphophaa
open Go.RowKit Go.Shelf
/-- The sales from the k-th one on, the others behind them. -/
def turned (k : Nat) (l : List Sale) : List Sale := l.drop k ++ l.take k
theorem turned_length (k : Nat) (l : List Sale) : (turned k l).length = l.length := by
  unfold turned
  rw [List.length_append, List.length_drop, List.length_take]
  omega
theorem saleOf_turned {k : Nat} {l : List Sale} (hk : k ≤ l.length) {m : Nat} (hm : m < l.length) : saleOf (turned k l) m = saleOf l ((m + k) % l.length) := by
  unfold saleOf turned
  congr 1
  by_cases h : m < l.length - k
  · rw [List.getElem?_append_left (by rw [List.length_drop]; exact h), List.getElem?_drop, Nat.mod_eq_of_lt (by omega), Nat.add_comm]
  · rw [List.getElem?_append_right (by rw [List.length_drop]; omega), List.length_drop, List.getElem?_take, if_pos (by omega)]
    congr 1
    rw [Nat.mod_eq_sub_mod (by omega), Nat.mod_eq_of_lt (by omega)]
    omega
theorem turned_back {k : Nat} {l : List Sale} (hk : k ≤ l.length) : turned (l.length - k) (turned k l) = l := by
  unfold turned
  rw [List.drop_left' (by rw [List.length_drop]), List.take_left' (by rw [List.length_drop]), List.take_append_drop]
/-- The number that a sale had. -/
def turn (n k m : Nat) : Nat := if m < n then (m + k) % n else m
theorem turn_lt {n k m : Nat} (hm : m < n) : turn n k m < n := by
  unfold turn
  rw [if_pos hm]
  exact Nat.mod_lt _ (by omega)
theorem turn_back {n k m : Nat} (hk : k ≤ n) (hm : m < n) : turn n (n - k) (turn n k m) = m := by
  have h1 := turn_lt (k := k) hm
  unfold turn at *
  rw [if_pos hm] at h1 ⊢
  rw [if_pos h1]
  by_cases h : m + k < n
  · rw [Nat.mod_eq_of_lt h, Nat.mod_eq_sub_mod (by omega), Nat.mod_eq_of_lt (by omega)]
    omega
  · have e1 : (m + k) % n = m + k - n := by rw [Nat.mod_eq_sub_mod (by omega), Nat.mod_eq_of_lt (by omega)]
    rw [e1, Nat.mod_eq_of_lt (by omega)]
    omega
theorem turn_inj {n k a b : Nat} (hk : k ≤ n) (ha : a < n) (hb : b < n) (h : turn n k a = turn n k b) : a = b := by
  rw [← turn_back hk ha, ← turn_back hk hb, h]
theorem saleOf_turn {k : Nat} {l : List Sale} (hk : k ≤ l.length) (m : Nat) : saleOf l (turn l.length k m) = saleOf (turned k l) m := by
  unfold turn
  split
  · rename_i h
    exact (saleOf_turned hk h).symm
  · rename_i h
    unfold saleOf
    rw [List.getElem?_eq_none (by omega), List.getElem?_eq_none (by rw [turned_length]; omega)]
theorem nodup_map {f : Nat → Nat} : ∀ {ns : List Nat}, ns.Nodup → (∀ a, a ∈ ns → ∀ b, b ∈ ns → f a = f b → a = b) → (ns.map f).Nodup
  | [], _, _ => List.nodup_nil
  | n :: ns, h, hf => by
    obtain ⟨h1, h2⟩ := List.nodup_cons.1 h
    refine List.nodup_cons.2 ⟨fun hm => ?_, nodup_map h2 fun a ha b hb => hf a (List.mem_cons_of_mem _ ha) b (List.mem_cons_of_mem _ hb)⟩
    obtain ⟨m, hm1, hm2⟩ := List.mem_map.1 hm
    have := hf m (List.mem_cons_of_mem _ hm1) n List.mem_cons_self hm2
    rw [this] at hm1
    exact h1 hm1
theorem range_turn {n k : Nat} (hk : k ≤ n) : ((List.range n).map (turn n k)).Perm (List.range n) := by
  refine (List.perm_ext_iff_of_nodup (nodup_map List.nodup_range fun a ha b hb h => turn_inj hk (List.mem_range.1 ha) (List.mem_range.1 hb) h) List.nodup_range).2 fun m => ?_
  rw [List.mem_map, List.mem_range]
  constructor
  · rintro ⟨a, ha, rfl⟩
    exact turn_lt (List.mem_range.1 ha)
  · intro hm
    refine ⟨turn n (n - k) m, List.mem_range.2 (turn_lt hm), ?_⟩
    have := turn_back (k := n - k) (by omega) hm
    rwa [show n - (n - k) = k by omega] at this
theorem turned_tru {t : Int} {k : Nat} {l : List Sale} (hk : k ≤ l.length) {ps : List (Nat × Int)} (hp : TruP t (turned k l) ps) : TruP t l (ps.map fun p => (turn l.length k p.1, p.2)) := by
  obtain ⟨a, b⟩ := tru_iff.1 hp
  rw [turned_length] at a
  refine tru_iff.2 ⟨?_, ?_⟩
  · have := a.map (turn l.length k)
    rw [List.map_map] at this ⊢
    exact this.trans (range_turn hk)
  · refine go_map (n := 0) (fun p => ?_) (fun p => by simp) (fun p _ h1 h2 => ?_) (fun i => Int.le_refl _) (fun p _ hx => by omega) b
    · rw [saleOf_turn hk]
      exact ⟨rfl, rfl, rfl⟩
    · rw [saleOf_turn hk]
      omega
theorem turned_eve {t : Int} {k : Nat} {l : List Sale} (hk : k ≤ l.length) (ps : List (Nat × Int)) (day : Int) (i : Nat) : eveOf t (turned k l) ps day i = eveOf t l (ps.map fun p => (turn l.length k p.1, p.2)) day i := by
  have := eve_map (t := t) (l := turned k l) (l' := l) (f := fun p => (turn l.length k p.1, p.2)) (n := 0) (fun p => by rw [saleOf_turn hk]; exact ⟨rfl, rfl, rfl⟩) (fun p => by simp) ps day i
  rwa [Int.add_zero] at this
theorem turned_in {t : Int} {k : Nat} {l : List Sale} (hk : k ≤ l.length) {m : Nat} {y : Int} (h : DayIn t (turned k l) m y) : DayIn t l (turn l.length k m) y := by
  obtain ⟨ps, h1, h2⟩ := h
  exact ⟨_, turned_tru hk h1, List.mem_map.2 ⟨_, h2, rfl⟩⟩
theorem turned_out {t : Int} {k : Nat} {l : List Sale} (hk : k ≤ l.length) {m : Nat} (hm : m < l.length) {y : Int} (h : DayIn t l (turn l.length k m) y) : DayIn t (turned k l) m y := by
  have h2 := turned_in (t := t) (l := turned k l) (k := l.length - k) (m := turn l.length k m) (y := y) (by rw [turned_length]; omega) (by rw [turned_back hk]; exact h)
  rwa [turned_length, turn_back hk hm] at h2
theorem turned_eve_in {t : Int} {k : Nat} {l : List Sale} (hk : k ≤ l.length) {ow : Nat} {day y : Int} (h : EveIn t (turned k l) ow day y) : EveIn t l ow day y := by
  obtain ⟨ps, h1, h2⟩ := h
  exact ⟨_, turned_tru hk h1, by rw [← turned_eve hk]; exact h2⟩
theorem turned_eve_out {t : Int} {k : Nat} {l : List Sale} (hk : k ≤ l.length) {ow : Nat} {day y : Int} (h : EveIn t l ow day y) : EveIn t (turned k l) ow day y :=
  turned_eve_in (l := turned k l) (k := l.length - k) (by rw [turned_length]; omega) (by rw [turned_back hk]; exact h)
theorem turned_valid {o t : Int} {k : Nat} {l : List Sale} (hv : Valid o t l) : Valid o t (turned k l) :=
  valid_sub hv (by rw [turned_length]; exact Nat.le_refl _) fun s hs => by
    unfold turned at hs
    rcases List.mem_append.1 hs with h | h
    · exact List.mem_of_mem_drop h
    · exact List.mem_of_mem_take h
theorem turned_fits {o t : Int} {k : Nat} {l : List Sale} (hk : k ≤ l.length) (hv : Valid o t l) : fitsB t (turned k l) = fitsB t l := by
  rw [Bool.eq_iff_iff, fits_tru hv, fits_tru (turned_valid hv)]
  refine ⟨fun ⟨ps, h⟩ => ⟨_, turned_tru hk h⟩, fun ⟨ps, h⟩ => ?_⟩
  have : TruP t (turned (l.length - k) (turned k l)) ps := by rw [turned_back hk]; exact h
  exact ⟨_, turned_tru (by rw [turned_length]; omega) this⟩
theorem turned_when {o t : Int} {k : Nat} {l : List Sale} (hk : k ≤ l.length) (hv : Valid o t l) (hf : fitsB t l = true) {m : Nat} (hm : m < l.length) : whenR t (turned k l) m = whenR t l ((m + k) % l.length) := by
  obtain ⟨a, b, c⟩ := when_in hv hf (k := turn l.length k m) (turn_lt hm)
  obtain ⟨a', b', c'⟩ := when_in (turned_valid (k := k) hv) (by rw [turned_fits hk hv]; exact hf) (k := m) (by rw [turned_length]; exact hm)
  have := range_eq a b c a' b' c' 0 (fun y h => by rw [Int.add_zero]; exact turned_out hk hm h) (fun y h => by rw [Int.sub_zero]; exact turned_in hk h)
  have e : turn l.length k m = (m + k) % l.length := by unfold turn; rw [if_pos hm]
  rw [e] at this
  exact Prod.ext (by omega) (by omega)
theorem turned_holds {o t : Int} {k : Nat} {l : List Sale} (hk : k ≤ l.length) (hv : Valid o t l) (hf : fitsB t l = true) {ow : Nat} (ho : (ow : Int) < o) {day : Int} (h1 : 0 ≤ day) (h2 : day ≤ 100) : holdsR t (turned k l) ow day = holdsR t l ow day := by
  obtain ⟨a, b, c⟩ := holds_in hv hf ho h1 h2
  obtain ⟨a', b', c'⟩ := holds_in (turned_valid (k := k) hv) (by rw [turned_fits hk hv]; exact hf) ho h1 h2
  have := range_eq a b c a' b' c' 0 (fun y h => by rw [Int.add_zero]; exact turned_eve_out hk h) (fun y h => by rw [Int.sub_zero]; exact turned_eve_in hk h)
  exact Prod.ext (by omega) (by omega)
theorem turned_can {o t : Int} {k : Nat} {l : List Sale} (hk : k ≤ l.length) (hv : Valid o t l) (hf : fitsB t l = true) {day : Int} (h1 : 0 ≤ day) (h2 : day ≤ 100) : ∀ n : Nat, (n : Int) ≤ o → canTo t (turned k l) day n = canTo t l day n ∧ sureTo t (turned k l) day n = sureTo t l day n
  | 0, _ => ⟨rfl, rfl⟩
  | n + 1, h => by
    obtain ⟨a, b⟩ := turned_can hk hv hf h1 h2 n (by omega)
    unfold canTo sureTo
    rw [a, b, turned_holds hk hv hf (by omega) h1 h2]
    exact ⟨rfl, rfl⟩
/-! The fewest sales. -/
theorem bits_of (P : Nat → Bool) : ∀ n, ∃ d, d < 2 ^ n ∧ ∀ m, m < n → d.testBit m = P m
  | 0 => ⟨0, by simp, fun m h => by omega⟩
  | n + 1 => by
    obtain ⟨d, h1, h2⟩ := bits_of P n
    have hp : 2 ^ n < 2 ^ (n + 1) := Nat.pow_lt_pow_right (by omega) (by omega)
    cases h : P n with
    | false =>
      refine ⟨d, by omega, fun m hm => ?_⟩
      by_cases e : m = n
      · rw [e, h]
        exact Nat.testBit_lt_two_pow h1
      · exact h2 m (by omega)
    | true =>
      refine ⟨d ||| 2 ^ n, Nat.or_lt_two_pow (by omega) hp, fun m hm => ?_⟩
      by_cases e : m = n
      · rw [e, h, Nat.testBit_or, Nat.testBit_two_pow_self]
        simp
      · rw [Nat.testBit_or, Nat.testBit_two_pow_of_ne (Ne.symm e), Bool.or_false]
        exact h2 m (by omega)
theorem list_without (l : List Sale) (d : Nat) : ∀ n, (listTo d n).length + (withoutTo l d n).length = n
  | 0 => rfl
  | n + 1 => by
    have := list_without l d n
    unfold listTo withoutTo
    by_cases h : d.testBit n = true
    · rw [if_pos h, if_pos h]
      simp
      omega
    · rw [if_neg h, if_neg h]
      simp
      omega
theorem without_filter (l : List Sale) (d : Nat) : withoutL l d = ((List.range l.length).filter fun k => !d.testBit k).map (saleOf l) := by
  rw [← out_list]
  unfold outL
  rw [outTo_filter]
  congr 1
  refine List.filter_congr fun k hk => ?_
  rw [listTo_has]
  simp [List.mem_range.1 hk]
theorem fits_same {o t : Int} {l l' : List Sale} (hv : Valid o t l) (hv' : Valid o t l') (hp : l'.Perm l) : fitsB t l' = fitsB t l := by
  rw [Bool.eq_iff_iff, fits_perm hv, fits_perm hv']
  exact ⟨fun ⟨p, h1, h2⟩ => ⟨p, h1.trans hp, h2⟩, fun ⟨p, h1, h2⟩ => ⟨p, h1.trans hp.symm, h2⟩⟩
theorem turned_without {k : Nat} {l : List Sale} (hk : k ≤ l.length) (d : Nat) : ∃ d', d' < 2 ^ l.length ∧ (withoutL (turned k l) d').Perm (withoutL l d) := by
  obtain ⟨d', h1, h2⟩ := bits_of (fun m => d.testBit (turn l.length k m)) l.length
  refine ⟨d', h1, ?_⟩
  rw [without_filter, without_filter, turned_length]
  have e1 : ((List.range l.length).filter fun m => !d'.testBit m) = (List.range l.length).filter ((fun m => !d.testBit m) ∘ turn l.length k) := List.filter_congr fun m hm => by
    rw [h2 m (List.mem_range.1 hm)]
    rfl
  rw [e1]
  have e2 : ((List.range l.length).filter ((fun m => !d.testBit m) ∘ turn l.length k)).map (saleOf (turned k l)) = (((List.range l.length).map (turn l.length k)).filter fun m => !d.testBit m).map (saleOf l) := by
    rw [List.filter_map, List.map_map]
    refine List.map_congr_left fun m _ => ?_
    exact (saleOf_turn hk m).symm
  rw [e2]
  exact ((range_turn hk).filter _).map _
theorem turned_blame_le {o t : Int} {k : Nat} {l : List Sale} (hk : k ≤ l.length) (hv : Valid o t l) : (blameL t (turned k l)).length ≤ (blameL t l).length := by
  obtain ⟨d, h1, h2, h3, _⟩ := blame_least hv
  obtain ⟨_, _, _, _, h4⟩ := blame_least (turned_valid (k := k) hv)
  obtain ⟨d', k1, k2⟩ := turned_without hk d
  have hw := turned_valid (k := k) hv
  have hf := (fits_same (valid_without hv d) (valid_without hw d') k2).trans h2
  rw [turned_length] at h4
  have hno := h4 d' k1 hf
  have e1 := list_without l d l.length
  have e2 := list_without (turned k l) d' (turned k l).length
  have e3 := k2.length_eq
  unfold withoutL at e3
  rw [turned_length] at e2 e3
  rw [h3]
  unfold lessR at hno
  split at hno
  · omega
  · simp at hno
    omega
theorem turned_blame {o t : Int} {k : Nat} {l : List Sale} (hk : k ≤ l.length) (hv : Valid o t l) : (blameL t (turned k l)).length = (blameL t l).length := by
  have h1 := turned_blame_le hk hv
  have h2 := turned_blame_le (l := turned k l) (k := l.length - k) (by rw [turned_length]; omega) (turned_valid hv)
  rw [turned_back hk] at h2
  omega
end Go.Proofs.Ytfcnombmphophaa
namespace Go.Proofs.Ytfcnombmphophaa
open Go.RowKit Go.Shelf Go.ChangeShapes Go.WideShapes
theorem batch_cap {H : Type} {enc : TypeId × Value → H} {W : World} {o t : Int} {A : Option Addr} {n c : Nat} {d : DataW H} {ps : List MemPlace} (hd : DataW.Trod enc Try.prog W 0 (fun _ => true) true 24 (.agg #[.int .i64 o, .int .i64 t, .slice A n c]) d ps) : n ≤ c := by
  obtain ⟨fuel, hf⟩ := hd
  obtain ⟨xs, m, rfl, _, hl, hx, hi⟩ := DataW.trod_struct Try.underlying24 hf
  have h2 := (show DataW.trod enc Try.prog W 0 (fun _ => true) true m 22 (((Value.agg #[.int .i64 o, .int .i64 t, .slice A n c]).cells.toList.drop 2).take (Try.prog.cellsOf 22)) = xs[2]? from hi 2 _ rfl)
  rw [c22] at h2
  obtain ⟨z, hz⟩ := at_some (i := 2) hx (by decide)
  rw [hz] at h2
  rcases DataW.trod_slice Try.underlying22 h2 with ⟨h3, _⟩ | ⟨a, n', c', elems, rest, k, _, h3, _, _, hle, _⟩
  · simp [Value.cells] at h3
    omega
  · simp [Value.cells] at h3
    omega
theorem sl22L {b o n c k : Nat} (h : k ≤ n) (h2 : n ≤ c) (hc : k < c) (w : World) : (Instr.sliceAt 22 (.slice (some ⟨b, o, none⟩) n c) (some (.int .i64 k)) none none).run Try.prog w = .ok (.slice (some ⟨b, o + k * 5, none⟩) (n - k) (c - k)) w := by
  go_simp
  omega
theorem sl22H {b o n c k : Nat} (h : k ≤ c) (w : World) : (Instr.sliceAt 22 (.slice (some ⟨b, o, none⟩) n c) none (some (.int .i64 k)) none).run Try.prog w = .ok (.slice (some ⟨b, o, none⟩) k c) w := by
  go_simp
section
variable {P : Program} {ops : Array Oper} {K : Act → World → Prop} {Kp : Nat → World → World → Prop} {fuel k : Nat} {listed : Array Bool} {a : Act} {w w' : World} {i d : Nat} {ty : TypeId} {pos : String} {aft : Array Edge} {gd : Option (Nat × Bool)} {u u' v v2 v' : Value} {t : TypeId} {x y : Operand}
theorem AnyK.sliceL {R : World → Prop} {T : Nat → Bool} (m : May ops Kp listed R T i ⟨some d, .slice t x (some y) none none, ty, pos, aft, gd⟩)
    (hx : a.eval x = u) (hy : a.eval y = u') (hv : ∀ w, (Instr.sliceAt t u (some u') none none).run P w = .ok v w) (hS : R w)
    (h : AnyK P ops K Kp fuel (listed.setIfInBounds i true) (a.put (some d) v) w) (hw : Region.wanted ⟨some d, .slice t x (some y) none none, ty, pos, aft, gd⟩ (yielded ops a.tmps) = true := by rfl) : AnyK P ops K Kp (fuel + 1) listed a w :=
  AnyK.take m (.inl ⟨hw, fun w' _ => by simp [execOp, hx, hy, hv w']⟩) hS h
theorem AnyK.sliceH {R : World → Prop} {T : Nat → Bool} (m : May ops Kp listed R T i ⟨some d, .slice t x none (some y) none, ty, pos, aft, gd⟩)
    (hx : a.eval x = u) (hy : a.eval y = u') (hv : ∀ w, (Instr.sliceAt t u none (some u') none).run P w = .ok v w) (hS : R w)
    (h : AnyK P ops K Kp fuel (listed.setIfInBounds i true) (a.put (some d) v) w) (hw : Region.wanted ⟨some d, .slice t x none (some y) none, ty, pos, aft, gd⟩ (yielded ops a.tmps) = true := by rfl) : AnyK P ops K Kp (fuel + 1) listed a w :=
  AnyK.take m (.inl ⟨hw, fun w' _ => by simp [execOp, hx, hy, hv w']⟩) hS h
theorem StepK.app22r {ops : Array Oper} {s z : Operand} (hi : ops[i]? = some ⟨some d, .call { callee := .builtin .append, args := #[s, z], argTypes := #[22, 22] }, ty, pos, aft, none⟩) (hs : a.eval s = v) (hx : a.eval z = v2)
    (hr : (Builtin.append_ #[22, 22] ty #[v, v2]).run Try.prog w = .ok v' w') (hk : Kp i w w') (h : AnyK Try.prog ops K Kp fuel (listed.setIfInBounds i true) (a.put (some d) v') w') : StepK Try.prog ops K Kp fuel listed a w i := by
  unfold StepK opG
  simp only [hi]
  rw [if_pos (show Region.wanted _ _ = true from rfl)]
  simp [Oper.wp, execOp, resolve, invoke, builtin, hs, hx, hr, Oper.upon]
  exact ⟨hk, h⟩
end
theorem sales_drop {w : World} {B b o : Nat} {l : List Sale} (h : SalesAt w B (some ⟨b, o, none⟩) l) (k : Nat) : SalesAt w B (some ⟨b, o + k * 5, none⟩) (l.drop k) := by
  intro j s hs
  rw [List.getElem?_drop] at hs
  obtain ⟨b', o', e, hb, s0, s1, s2, s3, s4⟩ := h _ _ hs
  cases e
  have e5 : o + k * 5 + j * 5 = o + (k + j) * 5 := by omega
  refine ⟨b, o + k * 5, rfl, hb, ?_, ?_, ?_, ?_, ?_⟩
  · rw [e5]; exact s0
  · rw [e5]; exact s1
  · rw [e5]; exact s2
  · rw [e5]; exact s3
  · rw [e5]; exact s4
theorem sales_take {w : World} {B : Nat} {A : Option Addr} {l : List Sale} (h : SalesAt w B A l) (k : Nat) : SalesAt w B A (l.take k) := by
  intro j s hs
  rw [List.getElem?_take] at hs
  split at hs
  · exact h j s hs
  · cases hs
theorem lit_own (w : World) : (w.alloc (.cells #[] 73)).ownsRow w.heap.size 73 5 (.slice (some ⟨w.heap.size, 0, none⟩) 0 0) ([] : List Sale).length (salesL []) := by
  have := World.ownsRow_lit (base := w.heap.size) (e := 73) (size := 5) w (#[] : Array Value) 0 (Nat.le_refl _) (by unfold maxLen; omega) (by simp)
  simpa [salesL] using this
theorem own_base {w : World} {B B' n : Nat} {v : Value} {xs : List Value} (h : w.ownsRow B 73 5 v n xs) (hB : B' ≤ B) : w.ownsRow B' 73 5 v n xs := by
  refine ⟨h.1, ?_⟩
  rcases h.2 with h | ⟨g, cap, cur, e, hb, rest⟩
  · exact .inl h
  · exact .inr ⟨g, cap, cur, e, by omega, rest⟩
section
attribute [local irreducible] AnyK StepK
noncomputable def opsTu5 : Array Oper := (Try.f14.body.bind (regionOf 5)).getD #[]
set_option maxRecDepth 10000 in
set_option maxHeartbeats 2000000 in
theorem regionTu5 {F : Fence} {n : Nat} (hF : WideF F Try.prog) {Q : Exit → Act → World → Prop} {a : Act} {w : World} {b3 px b off c k : Nat} {l : List Sale} (hsz : a.tmps.size = 159)
    (t3 : a.eval (.tmp 3) = .pointer (some ⟨b3, 0, none⟩)) (t7 : a.eval (.tmp 7) = .int .i64 k) (t9 : a.eval (.tmp 9) = .pointer (some ⟨px, 0, none⟩))
    (m0 : w.cell? ⟨b3, 2, none⟩ = some (.slice (some ⟨b, off, none⟩) l.length c)) {u : Value} (hs : SalesAt w w.heap.size (some ⟨b, off, none⟩) l) (hk : k < l.length) (hc : l.length ≤ c) (hl : l.length ≤ 12) (hb3 : b3 < w.heap.size) (hpx : px < w.heap.size) (hpc : w.cell? ⟨px, 2, none⟩ = some u) (hpf : w.frozen? ⟨px, 2, none⟩ = false)
    (hK : ∀ a' W' A2 c2, Below w.heap.size w W' → W'.ownsRow w.heap.size 73 5 (.slice A2 (turned k l).length c2) (turned k l).length (salesL (turned k l)) → a'.tmps.size = 159 → a'.defers = a.defers → (∀ e : Nat, e < 45 → a'.eval (.tmp e) = a.eval (.tmp e)) → Q .normal a' (W'.setCell ⟨px, 2, none⟩ (.slice A2 (turned k l).length c2))) :
    (Code.region 5 opsTu5 true).wpIn F n Try.prog Q a w := by
  have hR : (fun w : World => w.cell? ⟨b3, 2, none⟩ = some (.slice (some ⟨b, off, none⟩) l.length c)) w.drew := m0
  have hB : Below w.heap.size w w.drew := (Below.refl _ _).drew
  refine region_K (KpR (fun w => w.cell? ⟨b3, 2, none⟩ = some (.slice (some ⟨b, off, none⟩) l.length c)) (fun j => j == 12)) hF (by kernel_rfl) Try.mixed ?_
  change AnyK _ _ _ _ 13 (Array.replicate 13 false) _ _
  generalize w.drew = W at *
  refine AnyK.field (i := 1) (may_free rfl (by kernel_rfl) (by kernel_rfl) (by kernel_rfl)) (u := .pointer (some ⟨b3, 0, none⟩)) (v := .pointer (some ⟨b3, 2, none⟩)) (by simp [t3]) (fun w => fa24_2 w) trivial ?_
  refine AnyK.load (i := 2) may_o (p := ⟨b3, 2, none⟩) (v := .slice (some ⟨b, off, none⟩) l.length c) (by simp [hsz]) (fun w hw => ld22 hw) hR ?_
  refine AnyK.move (i := 3) (may_free rfl (by kernel_rfl) (by kernel_rfl) (by kernel_rfl)) (v := .int .i64 k) (by simp [t7]) trivial ?_
  refine AnyK.sliceL (i := 4) (may_free rfl (by kernel_rfl) (by kernel_rfl) (by kernel_rfl)) (u := .slice (some ⟨b, off, none⟩) l.length c) (u' := .int .i64 k) (v := .slice (some ⟨b, (off + k * 5), none⟩) (l.length - k) (c - k)) (by simp [hsz]) (by simp [hsz]) (fun w => sl22L (by omega) hc (by omega) w) trivial ?_
  refine AnyK.field (i := 6) (may_free rfl (by kernel_rfl) (by kernel_rfl) (by kernel_rfl)) (u := .pointer (some ⟨b3, 0, none⟩)) (v := .pointer (some ⟨b3, 2, none⟩)) (by simp [t3]) (fun w => fa24_2 w) trivial ?_
  refine AnyK.load (i := 7) may_o (p := ⟨b3, 2, none⟩) (v := .slice (some ⟨b, off, none⟩) l.length c) (by simp [hsz]) (fun w hw => ld22 hw) hR ?_
  refine AnyK.move (i := 8) (may_free rfl (by kernel_rfl) (by kernel_rfl) (by kernel_rfl)) (v := .int .i64 k) (by simp [t7]) trivial ?_
  refine AnyK.sliceH (i := 9) (may_free rfl (by kernel_rfl) (by kernel_rfl) (by kernel_rfl)) (u := .slice (some ⟨b, off, none⟩) l.length c) (u' := .int .i64 k) (v := .slice (some ⟨b, off, none⟩) k c) (by simp [hsz]) (by simp [hsz]) (fun w => sl22H (by omega) w) trivial ?_
  refine AnyK.pick1 (i := 0) (by kernel_rfl) ?_
  refine StepK.buildG (i := 0) (ps := #[]) (v := .slice (some ⟨W.heap.size, 0, none⟩) 0 0) rfl (by simp) (bs22_z W) (fun _ hw => cell_alloc_l _ hw) ?_
  have ho0 := lit_own W
  have hb0 : w.heap.size ≤ W.heap.size := hB.size
  replace hR : (fun w : World => w.cell? ⟨b3, 2, none⟩ = some (.slice (some ⟨b, off, none⟩) l.length c)) (W.alloc (.cells #[] 73)) := cell_alloc_l _ hR
  replace hB := hB.alloc hB.size (.cells #[] 73)
  have hbW : W.heap.size ≤ (W.alloc (.cells #[] 73)).heap.size := by simp
  generalize W.heap.size = B0 at *
  generalize W.alloc (.cells #[] 73) = W0 at *
  clear W
  obtain ⟨W, rfl⟩ : ∃ W, W = W0 := ⟨_, rfl⟩
  refine AnyK.pick1 (i := 5) (by kernel_rfl) ?_
  have hsW := (hs.below hB (Nat.le_refl _)).more hB.size
  obtain ⟨v5, W5, hr5, ho5, hg5, hv5⟩ := app22_run W 22 (xs := []) (ys := l.drop k)  (c := c - k) ho0 (sales_drop hsW k) (by simp; try omega) (by simp; try omega) hbW
  rw [List.length_drop] at hr5
  have hk5 : ∀ q : Addr, q.block < B0 → W5.cell? q = W.cell? q := fun q hq => World.cell?_of_block (hg5.block _ (by omega) (fun e => by have := (ho0.lt _ e.symm).1; omega))
  refine StepK.app22r (i := 5) (v := .slice (some ⟨B0, 0, none⟩) 0 0) (v2 := .slice (some ⟨b, off + k * 5, none⟩) (l.length - k) (c - k)) rfl (by simp [hsz]) (by simp [hsz]) hr5 (fun _ hw => (hk5 _ (by show b3 < B0; omega)).trans hw) ?_
  replace hR : (fun w : World => w.cell? ⟨b3, 2, none⟩ = some (.slice (some ⟨b, off, none⟩) l.length c)) (W5) := (hk5 _ (by show b3 < B0; omega)).trans hR
  replace hB := hB.grown hg5 hB.size (fun q e => by have := (ho0.lt _ e).1; omega)
  replace hbW : B0 ≤ W5.heap.size := by have := hg5.size; omega
  clear hsW hr5 hg5 hv5 hk5 ho0
  clear W
  obtain ⟨W, rfl⟩ : ∃ W, W = W5 := ⟨_, rfl⟩
  refine AnyK.pick1 (i := 10) (by kernel_rfl) ?_
  have hsW := (hs.below hB (Nat.le_refl _)).more hB.size
  obtain ⟨v10, W10, hr10, ho10, hg10, hv10⟩ := app22_run W 22 (xs := l.drop k) (ys := l.take k)  (c := c) ho5 (sales_take hsW k) (by simp; try omega) (by simp; try omega) hbW
  rw [show (l.take k).length = k by simp; omega] at hr10
  have hk10 : ∀ q : Addr, q.block < B0 → W10.cell? q = W.cell? q := fun q hq => World.cell?_of_block (hg10.block _ (by omega) (fun e => by have := (ho5.lt _ e.symm).1; omega))
  refine StepK.app22r (i := 10) (v := v5) (v2 := .slice (some ⟨b, off, none⟩) k c) rfl (by simp [hsz]) (by simp [hsz]) hr10 (fun _ hw => (hk10 _ (by show b3 < B0; omega)).trans hw) ?_
  replace hR : (fun w : World => w.cell? ⟨b3, 2, none⟩ = some (.slice (some ⟨b, off, none⟩) l.length c)) (W10) := (hk10 _ (by show b3 < B0; omega)).trans hR
  replace hB := hB.grown hg10 hB.size (fun q e => by have := (ho5.lt _ e).1; omega)
  replace hbW : B0 ≤ W10.heap.size := by have := hg10.size; omega
  clear hsW hr10 hg10 hv10 hk10 ho5
  clear W
  obtain ⟨W, rfl⟩ : ∃ W, W = W10 := ⟨_, rfl⟩
  refine AnyK.field (i := 11) (may_free rfl (by kernel_rfl) (by kernel_rfl) (by kernel_rfl)) (u := .pointer (some ⟨px, 0, none⟩)) (v := .pointer (some ⟨px, 2, none⟩)) (by simp [t9]) (fun w => fa24_2 w) trivial ?_
  refine AnyK.pick1 (i := 12) (by kernel_rfl) ?_
  obtain ⟨A2, c2, e2, _⟩ := sales_of_owns73 ho10
  subst e2
  refine StepK.store (i := 12) (u := .pointer (some ⟨px, 2, none⟩)) (u' := .slice A2 (l.drop k ++ l.take k).length c2) rfl (by simp [hsz]) (by simp [hsz]) (st22 ((hB.cell (p := ⟨px, 2, none⟩) hpx).trans hpc) ((hB.frozen (p := ⟨px, 2, none⟩) hpx).trans hpf)) (fun h => by cases h) ?_
  refine AnyK.done (by kernel_rfl) (hK _ _ _ _ hB (own_base ho10 hb0) ?_ ?_ ?_)
  · simp only [size_put, hsz]
  · simp only [defers_put]
  · intro e he
    iterate 12 refine (ev_ne (by omega)).trans ?_
    rfl

noncomputable def opsTu10 : Array Oper := (Try.f14.body.bind (regionOf 10)).getD #[]
set_option maxRecDepth 10000 in
set_option maxHeartbeats 2000000 in
theorem regionTu10 {F : Fence} {n : Nat} (hF : WideF F Try.prog) {Q : Exit → Act → World → Prop} {a : Act} {w : World} {b3 c k i m : Nat} {o t : Int} {A : Option Addr} {l : List Sale} (hsz : a.tmps.size = 159)
    (t3 : a.eval (.tmp 3) = .pointer (some ⟨b3, 0, none⟩)) (t7 : a.eval (.tmp 7) = .int .i64 k) (t10 : a.eval (.tmp 10) = .int .i64 i)
    (m0 : w.cell? ⟨b3, 0, none⟩ = some (.int .i64 o)) (m1 : w.cell? ⟨b3, 1, none⟩ = some (.int .i64 t)) (m2 : w.cell? ⟨b3, 2, none⟩ = some (.slice A l.length c)) (hs : SalesAt w w.heap.size A l) (hl : l.length ≤ 12) (hi : i < l.length) (hk : k < l.length) (hm : ((i : Int) + k) % (l.length : Int) = m)
    (hK : ∀ a' W' p, Below w.heap.size w W' → Whole W' p 46 #[.int .i64 (whenV o t l m).1, .int .i64 (whenV o t l m).2] → a'.tmps.size = 159 → a'.defers = a.defers → a'.eval (.tmp 13) = .pointer (some ⟨p, 0, none⟩) → a'.eval (.tmp 14) = .int .i64 (whenE o t l m) → (∀ e : Nat, e < 13 → a'.eval (.tmp e) = a.eval (.tmp e)) → Q .normal a' W') :
    (Code.region 10 opsTu10 true).wpIn F n Try.prog Q a w := by
  have hR : (fun w : World => w.cell? ⟨b3, 0, none⟩ = some (.int .i64 o) ∧ w.cell? ⟨b3, 1, none⟩ = some (.int .i64 t) ∧ w.cell? ⟨b3, 2, none⟩ = some (.slice A l.length c)) w.drew := ⟨m0, m1, m2⟩
  have hB : Below w.heap.size w w.drew := (Below.refl _ _).drew
  refine region_K (KpR (fun w => w.cell? ⟨b3, 0, none⟩ = some (.int .i64 o) ∧ w.cell? ⟨b3, 1, none⟩ = some (.int .i64 t) ∧ w.cell? ⟨b3, 2, none⟩ = some (.slice A l.length c)) (fun j => j == 14)) hF (by kernel_rfl) Try.mixed ?_
  change AnyK _ _ _ _ 16 (Array.replicate 16 false) _ _
  generalize w.drew = W at *
  refine AnyK.load (i := 0) may_o (p := ⟨b3, 0, none⟩) (v := .agg #[.int .i64 o, .int .i64 t, .slice A l.length c]) (by simp [t3]) (fun w hw => ld24 ⟨hw.1, hw.2.1, hw.2.2⟩) hR ?_
  refine AnyK.move (i := 2) (may_free rfl (by kernel_rfl) (by kernel_rfl) (by kernel_rfl)) (v := .int .i64 i) (by simp [t10]) trivial ?_
  refine AnyK.move (i := 3) (may_free rfl (by kernel_rfl) (by kernel_rfl) (by kernel_rfl)) (v := .int .i64 k) (by simp [t7]) trivial ?_
  refine AnyK.bin (i := 4) (may_free rfl (by kernel_rfl) (by kernel_rfl) (by kernel_rfl)) (u := .int .i64 i) (u' := .int .i64 k) (v := .int .i64 ((i : Int) + k)) (by simp [hsz]) (by simp [hsz]) (fun w => add3 (by omega) (by omega) w) trivial ?_
  refine AnyK.field (i := 5) (may_free rfl (by kernel_rfl) (by kernel_rfl) (by kernel_rfl)) (u := .pointer (some ⟨b3, 0, none⟩)) (v := .pointer (some ⟨b3, 2, none⟩)) (by simp [t3]) (fun w => fa24_2 w) trivial ?_
  refine AnyK.load (i := 6) may_o (p := ⟨b3, 2, none⟩) (v := .slice A l.length c) (by simp [hsz]) (fun w hw => ld22 hw.2.2) hR ?_
  refine AnyK.len (i := 7) (may_free rfl (by kernel_rfl) (by kernel_rfl) (by kernel_rfl)) (u := .slice A l.length c) (v := .int .i64 l.length) (by simp [hsz]) (fun w => ln22 _ _ _ _ w) rfl trivial ?_
  refine AnyK.bin (i := 8) (may_free rfl (by kernel_rfl) (by kernel_rfl) (by kernel_rfl)) (u := .int .i64 ((i : Int) + k)) (u' := .int .i64 l.length) (v := .int .i64 m) (by simp [hsz]) (by simp [hsz]) (fun w => rem3r (by omega) (by omega) hm w) trivial ?_
  refine AnyK.pick2 (i := 1) (j := 13) (by kernel_rfl) ?_ ?_
  · refine StepK.call (i := 1) (f := 18) (vs := #[.agg #[.int .i64 o, .int .i64 t, .slice A l.length c]]) rfl (enters_of Try.func18 (by kernel_rfl) rfl) (by simp) (by simp [hsz]) ((batch_any o t A l c W (by omega) ((hs.below hB (Nat.le_refl _)).more hB.size)).mono ?_)
    rintro _ W1 ⟨A1, c1, rfl, hs1, hb1⟩
    refine ⟨_, rfl, (fun _ hw => ⟨(hb1.cell (block_lt_of_cell hw.1)).trans hw.1, (hb1.cell (block_lt_of_cell hw.2.1)).trans hw.2.1, (hb1.cell (block_lt_of_cell hw.2.2)).trans hw.2.2⟩), ?_⟩
    replace hR : (fun w : World => w.cell? ⟨b3, 0, none⟩ = some (.int .i64 o) ∧ w.cell? ⟨b3, 1, none⟩ = some (.int .i64 t) ∧ w.cell? ⟨b3, 2, none⟩ = some (.slice A l.length c)) (W1) := ⟨(hb1.cell (block_lt_of_cell hR.1)).trans hR.1, (hb1.cell (block_lt_of_cell hR.2.1)).trans hR.2.1, (hb1.cell (block_lt_of_cell hR.2.2)).trans hR.2.2⟩
    replace hB := hB.trans (hb1.mono hB.size)
    clear hb1
    clear W
    obtain ⟨W, rfl⟩ : ∃ W, W = W1 := ⟨_, rfl⟩
    refine AnyK.pick2 (i := 9) (j := 13) (by kernel_rfl) ?_ ?_
    · refine StepK.call (i := 9) (f := 29) (vs := #[.agg #[.int .i64 o, .int .i64 t, .slice A1 l.length c1], .int .i64 m]) rfl (enters_of Try.func29 (by kernel_rfl) rfl) (by simp) (by simp [hsz]) ((when_any o t A1 l c1 m W (by omega) hs1).mono ?_)
      rintro _ W9 ⟨rfl, hb9⟩
      refine ⟨_, rfl, (fun _ hw => ⟨(hb9.cell (block_lt_of_cell hw.1)).trans hw.1, (hb9.cell (block_lt_of_cell hw.2.1)).trans hw.2.1, (hb9.cell (block_lt_of_cell hw.2.2)).trans hw.2.2⟩), ?_⟩
      replace hR : (fun w : World => w.cell? ⟨b3, 0, none⟩ = some (.int .i64 o) ∧ w.cell? ⟨b3, 1, none⟩ = some (.int .i64 t) ∧ w.cell? ⟨b3, 2, none⟩ = some (.slice A l.length c)) (W9) := ⟨(hb9.cell (block_lt_of_cell hR.1)).trans hR.1, (hb9.cell (block_lt_of_cell hR.2.1)).trans hR.2.1, (hb9.cell (block_lt_of_cell hR.2.2)).trans hR.2.2⟩
      replace hB := hB.trans (hb9.mono hB.size)
      replace hs1 := (hs1.below hb9 (Nat.le_refl _)).more hb9.size
      clear hb9
      clear W
      obtain ⟨W, rfl⟩ : ∃ W, W = W9 := ⟨_, rfl⟩
      refine AnyK.move (i := 10) (may_free rfl (by kernel_rfl) (by kernel_rfl) (by kernel_rfl)) (v := .tuple #[.agg #[.int .i64 (whenV o t l m).1, .int .i64 (whenV o t l m).2], .int .i64 (whenE o t l m)]) (by simp [hsz]) trivial ?_
      refine AnyK.extract (i := 11) (may_free rfl (by kernel_rfl) (by kernel_rfl) (by kernel_rfl)) (u := .tuple #[.agg #[.int .i64 (whenV o t l m).1, .int .i64 (whenV o t l m).2], .int .i64 (whenE o t l m)]) (v := .agg #[.int .i64 (whenV o t l m).1, .int .i64 (whenV o t l m).2]) (by simp [hsz]) (fun w => ex0 _ _ w) trivial ?_
      refine AnyK.extract (i := 12) (may_free rfl (by kernel_rfl) (by kernel_rfl) (by kernel_rfl)) (u := .tuple #[.agg #[.int .i64 (whenV o t l m).1, .int .i64 (whenV o t l m).2], .int .i64 (whenE o t l m)]) (v := .int .i64 (whenE o t l m)) (by simp [hsz]) (fun w => ex1 _ _ w) trivial ?_
      refine AnyK.pick1 (i := 13) (by kernel_rfl) ?_
      refine StepK.alloc (i := 13) rfl (al46 _) (fun _ hw => ⟨cell_alloc_l _ hw.1, cell_alloc_l _ hw.2.1, cell_alloc_l _ hw.2.2⟩) ?_
      have tw := Whole.new W 46 #[.int .i64 0, .int .i64 0]
      have hpw : w.heap.size ≤ W.heap.size := hB.size
      replace hs1 := (hs1.below ((Below.refl _ W).alloc (Nat.le_refl _) (.cells #[.int .i64 0, .int .i64 0] 46)) (Nat.le_refl _)).more (by simp : W.heap.size ≤ (W.alloc (.cells #[.int .i64 0, .int .i64 0] 46)).heap.size)
      replace hR : (fun w : World => w.cell? ⟨b3, 0, none⟩ = some (.int .i64 o) ∧ w.cell? ⟨b3, 1, none⟩ = some (.int .i64 t) ∧ w.cell? ⟨b3, 2, none⟩ = some (.slice A l.length c)) (W.alloc (.cells #[.int .i64 0, .int .i64 0] 46)) := ⟨cell_alloc_l _ hR.1, cell_alloc_l _ hR.2.1, cell_alloc_l _ hR.2.2⟩
      replace hB := hB.alloc hB.size (.cells #[.int .i64 0, .int .i64 0] 46)
      generalize W.heap.size = p13 at *
      generalize W.alloc (.cells #[.int .i64 0, .int .i64 0] 46) = W13 at *
      clear W
      obtain ⟨W, rfl⟩ : ∃ W, W = W13 := ⟨_, rfl⟩
      refine AnyK.pick1 (i := 14) (by kernel_rfl) ?_
      refine StepK.store (i := 14) (u := .pointer (some ⟨p13, 0, none⟩)) (u' := .agg #[.int .i64 (whenV o t l m).1, .int .i64 (whenV o t l m).2]) rfl (by simp [hsz]) (by simp [hsz]) (st46 (tw.cell 0) (tw.cell 1) (tw.frozen 0) (tw.frozen 1)) (fun h => by cases h) ?_
      refine AnyK.assign (i := 15) (may_free rfl (by kernel_rfl) (by kernel_rfl) (by kernel_rfl)) (v := .int .i64 (whenE o t l m)) (by simp [hsz]) trivial ?_
      refine AnyK.done (by kernel_rfl) (hK _ _ p13 ((hB.setCell (p := ⟨p13, 0, none⟩) hpw _).setCell (p := ⟨p13, 1, none⟩) hpw _) ((tw.set 0 _).set 1 _) ?_ ?_ ?_ ?_ ?_)
      · simp only [size_put, hsz]
      · simp only [defers_put]
      · exact (by simp [hsz])
      · exact (by simp [hsz])
      · intro e he
        iterate 15 refine (ev_ne (by omega)).trans ?_
        rfl
    · refine StepK.alloc (i := 13) rfl (al46 _) (fun _ hw => ⟨cell_alloc_l _ hw.1, cell_alloc_l _ hw.2.1, cell_alloc_l _ hw.2.2⟩) ?_
      have tw := Whole.new W 46 #[.int .i64 0, .int .i64 0]
      have hpw : w.heap.size ≤ W.heap.size := hB.size
      replace hs1 := (hs1.below ((Below.refl _ W).alloc (Nat.le_refl _) (.cells #[.int .i64 0, .int .i64 0] 46)) (Nat.le_refl _)).more (by simp : W.heap.size ≤ (W.alloc (.cells #[.int .i64 0, .int .i64 0] 46)).heap.size)
      replace hR : (fun w : World => w.cell? ⟨b3, 0, none⟩ = some (.int .i64 o) ∧ w.cell? ⟨b3, 1, none⟩ = some (.int .i64 t) ∧ w.cell? ⟨b3, 2, none⟩ = some (.slice A l.length c)) (W.alloc (.cells #[.int .i64 0, .int .i64 0] 46)) := ⟨cell_alloc_l _ hR.1, cell_alloc_l _ hR.2.1, cell_alloc_l _ hR.2.2⟩
      replace hB := hB.alloc hB.size (.cells #[.int .i64 0, .int .i64 0] 46)
      generalize W.heap.size = p13 at *
      generalize W.alloc (.cells #[.int .i64 0, .int .i64 0] 46) = W13 at *
      clear W
      obtain ⟨W, rfl⟩ : ∃ W, W = W13 := ⟨_, rfl⟩
      refine AnyK.pick1 (i := 9) (by kernel_rfl) ?_
      refine StepK.call (i := 9) (f := 29) (vs := #[.agg #[.int .i64 o, .int .i64 t, .slice A1 l.length c1], .int .i64 m]) rfl (enters_of Try.func29 (by kernel_rfl) rfl) (by simp) (by simp [hsz]) ((when_any o t A1 l c1 m W (by omega) hs1).mono ?_)
      rintro _ W9 ⟨rfl, hb9⟩
      refine ⟨_, rfl, (fun _ hw => ⟨(hb9.cell (block_lt_of_cell hw.1)).trans hw.1, (hb9.cell (block_lt_of_cell hw.2.1)).trans hw.2.1, (hb9.cell (block_lt_of_cell hw.2.2)).trans hw.2.2⟩), ?_⟩
      replace hR : (fun w : World => w.cell? ⟨b3, 0, none⟩ = some (.int .i64 o) ∧ w.cell? ⟨b3, 1, none⟩ = some (.int .i64 t) ∧ w.cell? ⟨b3, 2, none⟩ = some (.slice A l.length c)) (W9) := ⟨(hb9.cell (block_lt_of_cell hR.1)).trans hR.1, (hb9.cell (block_lt_of_cell hR.2.1)).trans hR.2.1, (hb9.cell (block_lt_of_cell hR.2.2)).trans hR.2.2⟩
      replace hB := hB.trans (hb9.mono hB.size)
      replace tw := tw.below hb9 tw.lt
      replace hs1 := (hs1.below hb9 (Nat.le_refl _)).more hb9.size
      clear hb9
      clear W
      obtain ⟨W, rfl⟩ : ∃ W, W = W9 := ⟨_, rfl⟩
      refine AnyK.move (i := 10) (may_free rfl (by kernel_rfl) (by kernel_rfl) (by kernel_rfl)) (v := .tuple #[.agg #[.int .i64 (whenV o t l m).1, .int .i64 (whenV o t l m).2], .int .i64 (whenE o t l m)]) (by simp [hsz]) trivial ?_
      refine AnyK.extract (i := 11) (may_free rfl (by kernel_rfl) (by kernel_rfl) (by kernel_rfl)) (u := .tuple #[.agg #[.int .i64 (whenV o t l m).1, .int .i64 (whenV o t l m).2], .int .i64 (whenE o t l m)]) (v := .agg #[.int .i64 (whenV o t l m).1, .int .i64 (whenV o t l m).2]) (by simp [hsz]) (fun w => ex0 _ _ w) trivial ?_
      refine AnyK.extract (i := 12) (may_free rfl (by kernel_rfl) (by kernel_rfl) (by kernel_rfl)) (u := .tuple #[.agg #[.int .i64 (whenV o t l m).1, .int .i64 (whenV o t l m).2], .int .i64 (whenE o t l m)]) (v := .int .i64 (whenE o t l m)) (by simp [hsz]) (fun w => ex1 _ _ w) trivial ?_
      refine AnyK.pick1 (i := 14) (by kernel_rfl) ?_
      refine StepK.store (i := 14) (u := .pointer (some ⟨p13, 0, none⟩)) (u' := .agg #[.int .i64 (whenV o t l m).1, .int .i64 (whenV o t l m).2]) rfl (by simp [hsz]) (by simp [hsz]) (st46 (tw.cell 0) (tw.cell 1) (tw.frozen 0) (tw.frozen 1)) (fun h => by cases h) ?_
      refine AnyK.assign (i := 15) (may_free rfl (by kernel_rfl) (by kernel_rfl) (by kernel_rfl)) (v := .int .i64 (whenE o t l m)) (by simp [hsz]) trivial ?_
      refine AnyK.done (by kernel_rfl) (hK _ _ p13 ((hB.setCell (p := ⟨p13, 0, none⟩) hpw _).setCell (p := ⟨p13, 1, none⟩) hpw _) ((tw.set 0 _).set 1 _) ?_ ?_ ?_ ?_ ?_)
      · simp only [size_put, hsz]
      · simp only [defers_put]
      · exact (by simp [hsz])
      · exact (by simp [hsz])
      · intro e he
        iterate 15 refine (ev_ne (by omega)).trans ?_
        rfl
  · refine StepK.alloc (i := 13) rfl (al46 _) (fun _ hw => ⟨cell_alloc_l _ hw.1, cell_alloc_l _ hw.2.1, cell_alloc_l _ hw.2.2⟩) ?_
    have tw := Whole.new W 46 #[.int .i64 0, .int .i64 0]
    have hpw : w.heap.size ≤ W.heap.size := hB.size
    replace hR : (fun w : World => w.cell? ⟨b3, 0, none⟩ = some (.int .i64 o) ∧ w.cell? ⟨b3, 1, none⟩ = some (.int .i64 t) ∧ w.cell? ⟨b3, 2, none⟩ = some (.slice A l.length c)) (W.alloc (.cells #[.int .i64 0, .int .i64 0] 46)) := ⟨cell_alloc_l _ hR.1, cell_alloc_l _ hR.2.1, cell_alloc_l _ hR.2.2⟩
    replace hB := hB.alloc hB.size (.cells #[.int .i64 0, .int .i64 0] 46)
    generalize W.heap.size = p13 at *
    generalize W.alloc (.cells #[.int .i64 0, .int .i64 0] 46) = W13 at *
    clear W
    obtain ⟨W, rfl⟩ : ∃ W, W = W13 := ⟨_, rfl⟩
    refine AnyK.pick1 (i := 1) (by kernel_rfl) ?_
    refine StepK.call (i := 1) (f := 18) (vs := #[.agg #[.int .i64 o, .int .i64 t, .slice A l.length c]]) rfl (enters_of Try.func18 (by kernel_rfl) rfl) (by simp) (by simp [hsz]) ((batch_any o t A l c W (by omega) ((hs.below hB (Nat.le_refl _)).more hB.size)).mono ?_)
    rintro _ W1 ⟨A1, c1, rfl, hs1, hb1⟩
    refine ⟨_, rfl, (fun _ hw => ⟨(hb1.cell (block_lt_of_cell hw.1)).trans hw.1, (hb1.cell (block_lt_of_cell hw.2.1)).trans hw.2.1, (hb1.cell (block_lt_of_cell hw.2.2)).trans hw.2.2⟩), ?_⟩
    replace hR : (fun w : World => w.cell? ⟨b3, 0, none⟩ = some (.int .i64 o) ∧ w.cell? ⟨b3, 1, none⟩ = some (.int .i64 t) ∧ w.cell? ⟨b3, 2, none⟩ = some (.slice A l.length c)) (W1) := ⟨(hb1.cell (block_lt_of_cell hR.1)).trans hR.1, (hb1.cell (block_lt_of_cell hR.2.1)).trans hR.2.1, (hb1.cell (block_lt_of_cell hR.2.2)).trans hR.2.2⟩
    replace hB := hB.trans (hb1.mono hB.size)
    replace tw := tw.below hb1 tw.lt
    clear hb1
    clear W
    obtain ⟨W, rfl⟩ : ∃ W, W = W1 := ⟨_, rfl⟩
    refine AnyK.pick1 (i := 9) (by kernel_rfl) ?_
    refine StepK.call (i := 9) (f := 29) (vs := #[.agg #[.int .i64 o, .int .i64 t, .slice A1 l.length c1], .int .i64 m]) rfl (enters_of Try.func29 (by kernel_rfl) rfl) (by simp) (by simp [hsz]) ((when_any o t A1 l c1 m W (by omega) hs1).mono ?_)
    rintro _ W9 ⟨rfl, hb9⟩
    refine ⟨_, rfl, (fun _ hw => ⟨(hb9.cell (block_lt_of_cell hw.1)).trans hw.1, (hb9.cell (block_lt_of_cell hw.2.1)).trans hw.2.1, (hb9.cell (block_lt_of_cell hw.2.2)).trans hw.2.2⟩), ?_⟩
    replace hR : (fun w : World => w.cell? ⟨b3, 0, none⟩ = some (.int .i64 o) ∧ w.cell? ⟨b3, 1, none⟩ = some (.int .i64 t) ∧ w.cell? ⟨b3, 2, none⟩ = some (.slice A l.length c)) (W9) := ⟨(hb9.cell (block_lt_of_cell hR.1)).trans hR.1, (hb9.cell (block_lt_of_cell hR.2.1)).trans hR.2.1, (hb9.cell (block_lt_of_cell hR.2.2)).trans hR.2.2⟩
    replace hB := hB.trans (hb9.mono hB.size)
    replace tw := tw.below hb9 tw.lt
    replace hs1 := (hs1.below hb9 (Nat.le_refl _)).more hb9.size
    clear hb9
    clear W
    obtain ⟨W, rfl⟩ : ∃ W, W = W9 := ⟨_, rfl⟩
    refine AnyK.move (i := 10) (may_free rfl (by kernel_rfl) (by kernel_rfl) (by kernel_rfl)) (v := .tuple #[.agg #[.int .i64 (whenV o t l m).1, .int .i64 (whenV o t l m).2], .int .i64 (whenE o t l m)]) (by simp [hsz]) trivial ?_
    refine AnyK.extract (i := 11) (may_free rfl (by kernel_rfl) (by kernel_rfl) (by kernel_rfl)) (u := .tuple #[.agg #[.int .i64 (whenV o t l m).1, .int .i64 (whenV o t l m).2], .int .i64 (whenE o t l m)]) (v := .agg #[.int .i64 (whenV o t l m).1, .int .i64 (whenV o t l m).2]) (by simp [hsz]) (fun w => ex0 _ _ w) trivial ?_
    refine AnyK.extract (i := 12) (may_free rfl (by kernel_rfl) (by kernel_rfl) (by kernel_rfl)) (u := .tuple #[.agg #[.int .i64 (whenV o t l m).1, .int .i64 (whenV o t l m).2], .int .i64 (whenE o t l m)]) (v := .int .i64 (whenE o t l m)) (by simp [hsz]) (fun w => ex1 _ _ w) trivial ?_
    refine AnyK.pick1 (i := 14) (by kernel_rfl) ?_
    refine StepK.store (i := 14) (u := .pointer (some ⟨p13, 0, none⟩)) (u' := .agg #[.int .i64 (whenV o t l m).1, .int .i64 (whenV o t l m).2]) rfl (by simp [hsz]) (by simp [hsz]) (st46 (tw.cell 0) (tw.cell 1) (tw.frozen 0) (tw.frozen 1)) (fun h => by cases h) ?_
    refine AnyK.assign (i := 15) (may_free rfl (by kernel_rfl) (by kernel_rfl) (by kernel_rfl)) (v := .int .i64 (whenE o t l m)) (by simp [hsz]) trivial ?_
    refine AnyK.done (by kernel_rfl) (hK _ _ p13 ((hB.setCell (p := ⟨p13, 0, none⟩) hpw _).setCell (p := ⟨p13, 1, none⟩) hpw _) ((tw.set 0 _).set 1 _) ?_ ?_ ?_ ?_ ?_)
    · simp only [size_put, hsz]
    · simp only [defers_put]
    · exact (by simp [hsz])
    · exact (by simp [hsz])
    · intro e he
      iterate 15 refine (ev_ne (by omega)).trans ?_
      rfl

end
end Go.Proofs.Ytfcnombmphophaa
namespace Go.Proofs.Ytfcnombmphophaa
open Go.RowKit Go.Shelf
noncomputable def opsTu0 : Array Oper := (Try.f14.body.bind (regionOf 0)).getD #[]
noncomputable def opsTu1 : Array Oper := (Try.f14.body.bind (regionOf 1)).getD #[]
noncomputable def opsTu2 : Array Oper := (Try.f14.body.bind (regionOf 2)).getD #[]
noncomputable def opsTu3 : Array Oper := (Try.f14.body.bind (regionOf 3)).getD #[]
noncomputable def opsTu4 : Array Oper := (Try.f14.body.bind (regionOf 4)).getD #[]
noncomputable def opsTu6 : Array Oper := (Try.f14.body.bind (regionOf 6)).getD #[]
noncomputable def opsTu7 : Array Oper := (Try.f14.body.bind (regionOf 7)).getD #[]
noncomputable def opsTu8 : Array Oper := (Try.f14.body.bind (regionOf 8)).getD #[]
noncomputable def opsTu9 : Array Oper := (Try.f14.body.bind (regionOf 9)).getD #[]
noncomputable def opsTu11 : Array Oper := (Try.f14.body.bind (regionOf 11)).getD #[]
noncomputable def opsTu12 : Array Oper := (Try.f14.body.bind (regionOf 12)).getD #[]
noncomputable def opsTu13 : Array Oper := (Try.f14.body.bind (regionOf 13)).getD #[]
noncomputable def opsTu14 : Array Oper := (Try.f14.body.bind (regionOf 14)).getD #[]
noncomputable def opsTu15 : Array Oper := (Try.f14.body.bind (regionOf 15)).getD #[]
noncomputable def opsTu16 : Array Oper := (Try.f14.body.bind (regionOf 16)).getD #[]
noncomputable def opsTu17 : Array Oper := (Try.f14.body.bind (regionOf 17)).getD #[]
noncomputable def tu_d : Code := (.seq (.region 13 opsTu13 false) (.seq (.region 14 opsTu14 false) (.seq (.region 15 opsTu15 false) (.seq (.region 16 opsTu16 false) (.seq (.region 17 opsTu17 false) .ret)))))
noncomputable def code14 : Code := (.seq (.region 0 opsTu0 false) (.seq (.seq (.region 1 opsTu1 false) (.cond (.tmp 33) (.seq (.region 2 opsTu2 false) .ret) .skip)) (.seq (.region 3 opsTu3 false) (.seq (.region 4 opsTu4 false) (.seq (.region 5 opsTu5 true) (.seq (.seq (.region 6 opsTu6 false) (.block 0 (.loop (.seq (.seq (.region 7 opsTu7 false) (.cond (.tmp 61) .skip (.exit 0))) (.seq (.block 1 (.seq (.region 9 opsTu9 false) (.seq (.region 10 opsTu10 true) (.seq (.region 11 opsTu11 false) (.cond (.tmp 99) (.seq (.region 12 opsTu12 false) .ret) .skip))))) (.region 8 opsTu8 false)))))) tu_d))))))
theorem body14 : Try.f14.body = some code14 := by kernel_rfl
/-- The frame in the loop; the memory. -/
def TuF (k on : Int) (b3 px i : Nat) (a : Act) : Prop := a.tmps.size = 159 ∧ a.defers = [] ∧ a.eval (.tmp 3) = .pointer (some ⟨b3, 0, none⟩) ∧ a.eval (.tmp 7) = .int .i64 k ∧ a.eval (.tmp 8) = .int .i64 on ∧ a.eval (.tmp 9) = .pointer (some ⟨px, 0, none⟩) ∧ a.eval (.tmp 10) = .int .i64 i
def TuN (W : World) (b3 px : Nat) (o t : Int) (A A2 : Option Addr) (l l2 : List Sale) (c c2 : Nat) (W' : World) : Prop := Below b3 W W' ∧ Whole W' b3 24 #[.int .i64 o, .int .i64 t, .slice A l.length c] ∧ Whole W' px 24 #[.int .i64 o, .int .i64 t, .slice A2 l2.length c2] ∧ SalesAt W' W'.heap.size A l ∧ SalesAt W' W'.heap.size A2 l2
section
variable {o t : Int} {A A2 : Option Addr} {l l2 : List Sale} {c c2 : Nat} {on : Int} {b3 px i k : Nat} {a1 : Act} {W W1 : World} {Q : Exit → Act → World → Prop}
set_option maxRecDepth 10000 in
theorem tu8 (hi : i < l.length) (hl : l.length ≤ 12) (hf : TuF k on b3 px i a1) (hQ : ∀ a', TuF k on b3 px (i + 1) a' → Q .normal a' W) : (Code.region 8 opsTu8 false).wpIn Fence.wide 5 Try.prog Q a1 W := by
  obtain ⟨hz_a1, hd_a1, u3, u7, u8, u9, u10⟩ := hf
  refine region_p 3 ?_
  intro K hK
  refine ListK.move (i := 0) (v := .int .i64 i) rfl (by simp [u10]) ?_
  refine ListK.bin (i := 1) (u := .int .i64 i) (u' := .int .i64 1) (v := .int .i64 (i + 1)) rfl (by simp [hz_a1]) (by simp) (add3 (by omega) (by omega) _) ?_
  refine ListK.assign (i := 2) (v := .int .i64 ((i + 1 : Nat) : Int)) rfl (by simp [hz_a1]) ?_
  skip
  exact ListK.done (hK _ _ (hQ _ ⟨(by simp only [size_put, hz_a1]), (by simp only [defers_put, hd_a1]), (by simp [u3]), (by simp [u7]), (by simp [u8]), (by simp [u9]), (by simp [hz_a1])⟩))
set_option maxRecDepth 10000 in
set_option maxHeartbeats 4000000 in
/-- A round of the loop. -/
theorem tu9 (hi : i < l.length) (hl12 : l.length ≤ 12) (hk : k < l.length) (hv : Valid o t l) (e2 : l2 = turned k l) (hb3 : W.heap.size = b3) (hf : TuF k on b3 px i a1) (hm : TuN W b3 px o t A A2 l l2 c c2 W1)
    (hQ : ∀ a' W', TuF k on b3 px i a' → TuN W b3 px o t A A2 l l2 c c2 W' → Q .normal a' W') :
    (Code.seq (.region 9 opsTu9 false) (.seq (.region 10 opsTu10 true) (.seq (.region 11 opsTu11 false) (.cond (.tmp 99) (.seq (.region 12 opsTu12 false) .ret) .skip)))).wpIn Fence.wide 5 Try.prog Q a1 W1 := by
  obtain ⟨hz_a1, hd_a1, u3, u7, u8, u9, u10⟩ := hf
  obtain ⟨hB1, wb, wx, hs, hx⟩ := hm
  have hlt := wb.lt
  have hll : l2.length = l.length := by rw [e2, turned_length]
  have hi2 : i < l2.length := by omega
  refine wpIn_seq (region_p 10 ?_)
  intro K hK
  refine ListK.load (i := 0) (p := ⟨px, 0, none⟩) (v := .agg #[.int .i64 o, .int .i64 t, .slice A2 l2.length c2]) rfl (by simp [u9]) (ld24 ⟨wx.cell 0, wx.cell 1, wx.cell 2⟩) ?_
  refine ListK.call (i := 1) (vs := #[.agg #[.int .i64 o, .int .i64 t, .slice A2 l2.length c2]]) rfl (enters_of Try.func18 (by kernel_rfl) rfl) (by simp [hz_a1]) (((batch_any o t A2 l2 c2 W1 (by omega) hx)).mono ?_)
  rintro _ W2 ⟨A_t1, c_t1, rfl, hs_t1, hb_t1⟩
  have hL_t1 := hB1.trans (hb_t1.mono (by have := hB1.size; omega))
  replace hs := (hs.below hb_t1 (Nat.le_refl _)).more hb_t1.size
  replace hx := (hx.below hb_t1 (Nat.le_refl _)).more hb_t1.size
  replace wb := wb.below hb_t1 wb.lt
  replace wx := wx.below hb_t1 wx.lt
  replace hB1 := hL_t1
  replace hlt : b3 < W2.heap.size := wb.lt
  refine ⟨_, rfl, ?_⟩
  refine ListK.move (i := 2) (v := .int .i64 i) rfl (by simp [u10]) ?_
  refine ListK.call (i := 3) (vs := #[.agg #[.int .i64 o, .int .i64 t, .slice A_t1 l2.length c_t1], .int .i64 i]) rfl (enters_of Try.func29 (by kernel_rfl) rfl) (by simp [hz_a1]) (((when_any o t A_t1 l2 c_t1 i W2 (by omega) hs_t1)).mono ?_)
  rintro _ W3 ⟨rfl, hb_t2⟩
  have hL_t2 := hB1.trans (hb_t2.mono (by have := hB1.size; omega))
  replace hs := (hs.below hb_t2 (Nat.le_refl _)).more hb_t2.size
  replace hx := (hx.below hb_t2 (Nat.le_refl _)).more hb_t2.size
  replace wb := wb.below hb_t2 wb.lt
  replace wx := wx.below hb_t2 wx.lt
  replace hB1 := hL_t2
  replace hlt : b3 < W3.heap.size := wb.lt
  refine ⟨_, rfl, ?_⟩
  refine ListK.move (i := 4) (v := .tuple #[.agg #[.int .i64 (whenV o t l2 i).1, .int .i64 (whenV o t l2 i).2], .int .i64 (whenE o t l2 i)]) rfl (by simp [hz_a1]) ?_
  refine ListK.extract (i := 5) (u := .tuple #[.agg #[.int .i64 (whenV o t l2 i).1, .int .i64 (whenV o t l2 i).2], .int .i64 (whenE o t l2 i)]) (v := .agg #[.int .i64 (whenV o t l2 i).1, .int .i64 (whenV o t l2 i).2]) rfl (by simp [hz_a1]) (ex0 _ _ _) ?_
  refine ListK.extract (i := 6) (u := .tuple #[.agg #[.int .i64 (whenV o t l2 i).1, .int .i64 (whenV o t l2 i).2], .int .i64 (whenE o t l2 i)]) (v := .int .i64 (whenE o t l2 i)) rfl (by simp [hz_a1]) (ex1 _ _ _) ?_
  refine ListK.alloc (i := 7) rfl (al46 W3) ?_
  refine ListK.store (i := 8) (u := .pointer (some ⟨W3.heap.size, 0, none⟩)) (u' := .agg #[.int .i64 (whenV o t l2 i).1, .int .i64 (whenV o t l2 i).2]) rfl (by simp [hz_a1]) (by simp [hz_a1]) sa46 ?_
  refine ListK.assign (i := 9) (v := .int .i64 (whenE o t l2 i)) rfl (by simp [hz_a1]) ?_
  refine ListK.done (hK _ _ ?_)
  clear hK K
  obtain ⟨w_t3, hb_t3⟩ := put46 W3 ((whenV o t l2 i).1) ((whenV o t l2 i).2)
  have hL_t3 := hB1.trans (hb_t3.mono (by have := hB1.size; omega))
  replace hs := (hs.below hb_t3 (Nat.le_refl _)).more hb_t3.size
  replace hx := (hx.below hb_t3 (Nat.le_refl _)).more hb_t3.size
  replace wb := wb.below hb_t3 wb.lt
  replace wx := wx.below hb_t3 wx.lt
  replace hB1 := hL_t3
  generalize W3.heap.size = p_t3 at *
  generalize ((W3.alloc (.cells #[.int .i64 0, .int .i64 0] 46)).setCell ⟨p_t3, 0, none⟩ (.int .i64 ((whenV o t l2 i).1))).setCell ⟨p_t3, 1, none⟩ (.int .i64 ((whenV o t l2 i).2)) = W4 at *
  replace hlt : b3 < W4.heap.size := wb.lt
  generalize hA : Act.put _ _ _ = a2
  have hz_a2 : a2.tmps.size = 159 := by rw [← hA]; simp only [size_put, hz_a1]
  have v3 : a2.eval (.tmp 3) = .pointer (some ⟨b3, 0, none⟩) := by rw [← hA]; exact (by simp [u3])
  have v7 : a2.eval (.tmp 7) = .int .i64 k := by rw [← hA]; exact (by simp [u7])
  have v8 : a2.eval (.tmp 8) = .int .i64 on := by rw [← hA]; exact (by simp [u8])
  have v9 : a2.eval (.tmp 9) = .pointer (some ⟨px, 0, none⟩) := by rw [← hA]; exact (by simp [u9])
  have v10 : a2.eval (.tmp 10) = .int .i64 i := by rw [← hA]; exact (by simp [u10])
  have v11 : a2.eval (.tmp 11) = .pointer (some ⟨p_t3, 0, none⟩) := by rw [← hA]; exact (by simp [hz_a1])
  have v12 : a2.eval (.tmp 12) = .int .i64 (whenE o t l2 i) := by rw [← hA]; exact (by simp [hz_a1])
  have hd_a2 : a2.defers = [] := by rw [← hA]; simp only [defers_put, hd_a1]
  clear hA
  obtain ⟨m, hm⟩ : ∃ m, (i + k) % l.length = m := ⟨_, rfl⟩
  have hml : m < l.length := by
    rw [← hm]
    exact Nat.mod_lt _ (by omega)
  have hm' : ((i : Int) + k) % (l.length : Int) = (m : Int) := by rw [← hm, Int.natCast_emod, Int.natCast_add]
  refine wpIn_seq (regionTu10 (m := m) (wideF_plain _) hz_a2 v3 v7 v10 (wb.cell 0) (wb.cell 1) (wb.cell 2) hs hl12 hi hk hm' ?_)
  intro a3 W5 p2 hb_t4 w_t4 hz_a3 hd3 x13 x14 hr3
  have hd_a3 : a3.defers = [] := hd3.trans hd_a2
  have hL_t4 := hB1.trans (hb_t4.mono (by have := hB1.size; omega))
  replace hs := (hs.below hb_t4 (Nat.le_refl _)).more hb_t4.size
  replace hx := (hx.below hb_t4 (Nat.le_refl _)).more hb_t4.size
  replace wb := wb.below hb_t4 wb.lt
  replace wx := wx.below hb_t4 wx.lt
  replace w_t3 := w_t3.below hb_t4 w_t3.lt
  replace hB1 := hL_t4
  replace hlt : b3 < W5.heap.size := wb.lt
  have x3 : a3.eval (.tmp 3) = .pointer (some ⟨b3, 0, none⟩) := (hr3 3 (by omega)).trans v3
  have x7 : a3.eval (.tmp 7) = .int .i64 k := (hr3 7 (by omega)).trans v7
  have x8 : a3.eval (.tmp 8) = .int .i64 on := (hr3 8 (by omega)).trans v8
  have x9 : a3.eval (.tmp 9) = .pointer (some ⟨px, 0, none⟩) := (hr3 9 (by omega)).trans v9
  have x10 : a3.eval (.tmp 10) = .int .i64 i := (hr3 10 (by omega)).trans v10
  have x11 : a3.eval (.tmp 11) = .pointer (some ⟨p_t3, 0, none⟩) := (hr3 11 (by omega)).trans v11
  have x12 : a3.eval (.tmp 12) = .int .i64 (whenE o t l2 i) := (hr3 12 (by omega)).trans v12
  have hv2 : Valid o t l2 := by rw [e2]; exact turned_valid hv
  have hE1 := whenE_valid hv hml
  have hE2 := whenE_valid hv2 hi2
  have hV1 := whenV_valid hv hml
  have hV2 := whenV_valid hv2 hi2
  have hf2 : fitsB t l2 = fitsB t l := by rw [e2]; exact turned_fits (by omega) hv
  rw [hf2] at hE2 hV2
  have hsame : whenV o t l2 i = whenV o t l m := by
    rw [hV1, hV2]
    cases hF : fitsB t l with
    | false => rfl
    | true =>
      rw [if_pos rfl, if_pos rfl, e2, turned_when (by omega) hv hF hi, hm]
  have hq1 := congrArg Prod.fst hsame
  have hq2 := congrArg Prod.snd hsame
  cases hF : fitsB t l with
  | true =>
    rw [hF, if_pos rfl] at hE1 hE2
    refine wpIn_seq (region_p 16 ?_)
    intro K hK
    refine ListK.move (i := 0) (v := .int .i64 (whenE o t l2 i)) rfl (by simp [x12]) ?_
    refine ListK.move (i := 1) (v := .int .i64 (whenE o t l m)) rfl (by simp [x14]) ?_
    refine ListK.bin (i := 2) (u := .int .i64 (whenE o t l2 i)) (u' := .int .i64 (whenE o t l m)) (v := .bool false) rfl (by simp [hz_a3]) (by simp [hz_a3]) (nqF (hE2.trans hE1.symm) _) ?_
    refine ListK.move (i := 3) (v := .bool false) rfl (by simp [hz_a3]) ?_
    refine ListK.load (i := 4) (p := ⟨p_t3, 0, none⟩) (v := .agg #[.int .i64 ((whenV o t l2 i).1), .int .i64 ((whenV o t l2 i).2)]) rfl (by simp [x11]) (ld46 ⟨w_t3.cell 0, w_t3.cell 1⟩) ?_ (hw := wanted_g (e := 87) (b' := false) rfl (by simp [hz_a3]) rfl)
    refine ListK.load (i := 5) (p := ⟨p2, 0, none⟩) (v := .agg #[.int .i64 (whenV o t l m).1, .int .i64 (whenV o t l m).2]) rfl (by simp [x13]) (ld46 ⟨w_t4.cell 0, w_t4.cell 1⟩) ?_ (hw := wanted_g (e := 87) (b' := false) rfl (by simp [hz_a3]) rfl)
    refine ListK.bin (i := 6) (u := .agg #[.int .i64 ((whenV o t l2 i).1), .int .i64 ((whenV o t l2 i).2)]) (u' := .agg #[.int .i64 (whenV o t l m).1, .int .i64 (whenV o t l m).2]) (v := .bool false) rfl (by simp [hz_a3]) (by simp [hz_a3]) (neq46S hq1 hq2 _) ?_ (hw := wanted_g (e := 87) (b' := false) rfl (by simp [hz_a3]) rfl)
    refine ListK.pick (i := 7) (b := false) (v := .bool false) rfl (by simp [hz_a3]) (by simp [hz_a3]) ?_
    refine ListK.move (i := 8) (v := .bool false) rfl (by simp [hz_a3]) ?_
    refine ListK.move (i := 9) (v := .int .i64 (whenE o t l2 i)) rfl (by simp [x12]) ?_ (hw := wanted_g (e := 92) (b' := false) rfl (by simp [hz_a3]) rfl)
    refine ListK.bin (i := 10) (u := .int .i64 (whenE o t l2 i)) (u' := .int .i64 0) (v := .bool false) rfl (by simp [hz_a3]) (by simp) (nqF hE2 _) ?_ (hw := wanted_g (e := 92) (b' := false) rfl (by simp [hz_a3]) rfl)
    refine ListK.move (i := 11) (v := .bool false) rfl (by simp [hz_a3]) ?_ (hw := wanted_g (e := 92) (b' := false) rfl (by simp [hz_a3]) rfl)
    refine ListK.passG (i := 12) (e := 95) (b' := false) rfl rfl (by simp [hz_a3]) rfl ?_
    refine ListK.passG (i := 13) (e := 95) (b' := false) rfl rfl (by simp [hz_a3]) rfl ?_
    refine ListK.pickW (i := 14) (b := false) (v := .bool false) rfl (by simp [hz_a3]) (by simp) ?_ (hw := wanted_g (e := 92) (b' := false) rfl (by simp [hz_a3]) rfl)
    refine ListK.pick (i := 15) (b := false) (v := .bool false) rfl (by simp [hz_a3]) (by simp [hz_a3]) ?_
    refine ListK.done (hK _ _ ?_)
    clear hK K
    refine wpIn_cond (t := false) (by simp [hz_a3]) (wpIn_skip ?_)
    exact hQ _ _ ⟨(by simp only [size_put, hz_a3]), (by simp only [defers_put, hd_a3]), (by simp [x3]), (by simp [x7]), (by simp [x8]), (by simp [x9]), (by simp [x10])⟩ ⟨hB1, wb, wx, hs, hx⟩
  | false =>
    rw [hF, if_neg (by decide)] at hE1 hE2
    refine wpIn_seq (region_p 16 ?_)
    intro K hK
    refine ListK.move (i := 0) (v := .int .i64 (whenE o t l2 i)) rfl (by simp [x12]) ?_
    refine ListK.move (i := 1) (v := .int .i64 (whenE o t l m)) rfl (by simp [x14]) ?_
    refine ListK.bin (i := 2) (u := .int .i64 (whenE o t l2 i)) (u' := .int .i64 (whenE o t l m)) (v := .bool false) rfl (by simp [hz_a3]) (by simp [hz_a3]) (nqF (hE2.trans hE1.symm) _) ?_
    refine ListK.move (i := 3) (v := .bool false) rfl (by simp [hz_a3]) ?_
    refine ListK.load (i := 4) (p := ⟨p_t3, 0, none⟩) (v := .agg #[.int .i64 ((whenV o t l2 i).1), .int .i64 ((whenV o t l2 i).2)]) rfl (by simp [x11]) (ld46 ⟨w_t3.cell 0, w_t3.cell 1⟩) ?_ (hw := wanted_g (e := 87) (b' := false) rfl (by simp [hz_a3]) rfl)
    refine ListK.load (i := 5) (p := ⟨p2, 0, none⟩) (v := .agg #[.int .i64 (whenV o t l m).1, .int .i64 (whenV o t l m).2]) rfl (by simp [x13]) (ld46 ⟨w_t4.cell 0, w_t4.cell 1⟩) ?_ (hw := wanted_g (e := 87) (b' := false) rfl (by simp [hz_a3]) rfl)
    refine ListK.bin (i := 6) (u := .agg #[.int .i64 ((whenV o t l2 i).1), .int .i64 ((whenV o t l2 i).2)]) (u' := .agg #[.int .i64 (whenV o t l m).1, .int .i64 (whenV o t l m).2]) (v := .bool false) rfl (by simp [hz_a3]) (by simp [hz_a3]) (neq46S hq1 hq2 _) ?_ (hw := wanted_g (e := 87) (b' := false) rfl (by simp [hz_a3]) rfl)
    refine ListK.pick (i := 7) (b := false) (v := .bool false) rfl (by simp [hz_a3]) (by simp [hz_a3]) ?_
    refine ListK.move (i := 8) (v := .bool false) rfl (by simp [hz_a3]) ?_
    refine ListK.move (i := 9) (v := .int .i64 (whenE o t l2 i)) rfl (by simp [x12]) ?_ (hw := wanted_g (e := 92) (b' := false) rfl (by simp [hz_a3]) rfl)
    refine ListK.bin (i := 10) (u := .int .i64 (whenE o t l2 i)) (u' := .int .i64 0) (v := .bool true) rfl (by simp [hz_a3]) (by simp) (nqT (by omega) _) ?_ (hw := wanted_g (e := 92) (b' := false) rfl (by simp [hz_a3]) rfl)
    refine ListK.move (i := 11) (v := .bool true) rfl (by simp [hz_a3]) ?_ (hw := wanted_g (e := 92) (b' := false) rfl (by simp [hz_a3]) rfl)
    refine ListK.move (i := 12) (v := .int .i64 (whenE o t l2 i)) rfl (by simp [x12]) ?_ (hw := wanted_g (e := 95) (b' := true) rfl (by simp [hz_a3]) rfl)
    refine ListK.bin (i := 13) (u := .int .i64 (whenE o t l2 i)) (u' := .int .i64 9) (v := .bool false) rfl (by simp [hz_a3]) (by simp) (nqF hE2 _) ?_ (hw := wanted_g (e := 95) (b' := true) rfl (by simp [hz_a3]) rfl)
    refine ListK.pickW (i := 14) (b := true) (v := .bool false) rfl (by simp [hz_a3]) (by simp [hz_a3]) ?_ (hw := wanted_g (e := 92) (b' := false) rfl (by simp [hz_a3]) rfl)
    refine ListK.pick (i := 15) (b := false) (v := .bool false) rfl (by simp [hz_a3]) (by simp [hz_a3]) ?_
    refine ListK.done (hK _ _ ?_)
    clear hK K
    refine wpIn_cond (t := false) (by simp [hz_a3]) (wpIn_skip ?_)
    exact hQ _ _ ⟨(by simp only [size_put, hz_a3]), (by simp only [defers_put, hd_a3]), (by simp [x3]), (by simp [x7]), (by simp [x8]), (by simp [x9]), (by simp [x10])⟩ ⟨hB1, wb, wx, hs, hx⟩
set_option maxRecDepth 10000 in
set_option maxHeartbeats 4000000 in
/-- Behind the loop. -/
theorem tu13 (hl12 : l.length ≤ 12) (hk : k < l.length) (hv : Valid o t l) (e2 : l2 = turned k l) (hon : 0 ≤ on ∧ on ≤ 100) (hb3 : W.heap.size = b3) (hf : TuF k on b3 px i a1) (hm : TuN W b3 px o t A A2 l l2 c c2 W1)
    (hret : ∀ (a' : Act) (W' : World), a'.defers = [] → a'.eval (.tmp 6) = .bool true → Below b3 W W' → Q .ret a' W') :
    tu_d.wpIn Fence.wide 5 Try.prog Q a1 W1 := by
  obtain ⟨hz_a1, hd_a1, u3, u7, u8, u9, _⟩ := hf
  obtain ⟨hB1, wb, wx, hs, hx⟩ := hm
  have hlt := wb.lt
  have hll : l2.length = l.length := by rw [e2, turned_length]
  unfold tu_d
  refine wpIn_seq (region_p 11 ?_)
  intro K hK
  refine ListK.load (i := 0) (p := ⟨b3, 0, none⟩) (v := .agg #[.int .i64 o, .int .i64 t, .slice A l.length c]) rfl (by simp [u3]) (ld24 ⟨wb.cell 0, wb.cell 1, wb.cell 2⟩) ?_
  refine ListK.call (i := 1) (vs := #[.agg #[.int .i64 o, .int .i64 t, .slice A l.length c]]) rfl (enters_of Try.func18 (by kernel_rfl) rfl) (by simp [hz_a1]) (((batch_any o t A l c W1 (by omega) hs)).mono ?_)
  rintro _ W2 ⟨A_t1, c_t1, rfl, hs_t1, hb_t1⟩
  have hL_t1 := hB1.trans (hb_t1.mono (by have := hB1.size; omega))
  replace hs := (hs.below hb_t1 (Nat.le_refl _)).more hb_t1.size
  replace hx := (hx.below hb_t1 (Nat.le_refl _)).more hb_t1.size
  replace wb := wb.below hb_t1 wb.lt
  replace wx := wx.below hb_t1 wx.lt
  replace hB1 := hL_t1
  replace hlt : b3 < W2.heap.size := wb.lt
  refine ⟨_, rfl, ?_⟩
  refine ListK.move (i := 2) (v := .int .i64 on) rfl (by simp [u8]) ?_
  refine ListK.call (i := 3) (vs := #[.agg #[.int .i64 o, .int .i64 t, .slice A_t1 l.length c_t1], .int .i64 on]) rfl (enters_of Try.func33 (by kernel_rfl) rfl) (by simp [hz_a1]) (((reach_any o t A_t1 l c_t1 on W2 (by omega) hs_t1)).mono ?_)
  rintro _ W3 ⟨ve, vs, rfl, hrm⟩
  obtain ⟨⟨Ae_t2, ce_t2, rfl, _, ie_t2⟩, ⟨As_t2, cs_t2, rfl, _, is_t2⟩⟩ := hrm.ri
  have hb_t2 := hrm.low
  clear hrm
  have hL_t2 := hB1.trans (hb_t2.mono (by have := hB1.size; omega))
  replace hs := (hs.below hb_t2 (Nat.le_refl _)).more hb_t2.size
  replace hx := (hx.below hb_t2 (Nat.le_refl _)).more hb_t2.size
  replace wb := wb.below hb_t2 wb.lt
  replace wx := wx.below hb_t2 wx.lt
  replace hB1 := hL_t2
  replace hlt : b3 < W3.heap.size := wb.lt
  refine ⟨_, rfl, ?_⟩
  refine ListK.move (i := 4) (v := .tuple #[.slice Ae_t2 (reachC o t l on).length ce_t2, .slice As_t2 (reachS o t l on).length cs_t2, .int .i64 (reachE o t l on)]) rfl (by simp [hz_a1]) ?_
  refine ListK.extract (i := 5) (u := .tuple #[.slice Ae_t2 (reachC o t l on).length ce_t2, .slice As_t2 (reachS o t l on).length cs_t2, .int .i64 (reachE o t l on)]) (v := .slice Ae_t2 (reachC o t l on).length ce_t2) rfl (by simp [hz_a1]) (ex3_0 _ _ _ _) ?_
  refine ListK.extract (i := 6) (u := .tuple #[.slice Ae_t2 (reachC o t l on).length ce_t2, .slice As_t2 (reachS o t l on).length cs_t2, .int .i64 (reachE o t l on)]) (v := .slice As_t2 (reachS o t l on).length cs_t2) rfl (by simp [hz_a1]) (ex3_1 _ _ _ _) ?_
  refine ListK.extract (i := 7) (u := .tuple #[.slice Ae_t2 (reachC o t l on).length ce_t2, .slice As_t2 (reachS o t l on).length cs_t2, .int .i64 (reachE o t l on)]) (v := .int .i64 (reachE o t l on)) rfl (by simp [hz_a1]) (ex3_2 _ _ _ _) ?_
  refine ListK.assign (i := 8) (v := .slice Ae_t2 (reachC o t l on).length ce_t2) rfl (by simp [hz_a1]) ?_
  refine ListK.assign (i := 9) (v := .slice As_t2 (reachS o t l on).length cs_t2) rfl (by simp [hz_a1]) ?_
  refine ListK.assign (i := 10) (v := .int .i64 (reachE o t l on)) rfl (by simp [hz_a1]) ?_
  refine ListK.done (hK _ _ ?_)
  clear hK K
  generalize hA : Act.put _ _ _ = a2
  have hz_a2 : a2.tmps.size = 159 := by rw [← hA]; simp only [size_put, hz_a1]
  have v3 : a2.eval (.tmp 3) = .pointer (some ⟨b3, 0, none⟩) := by rw [← hA]; exact (by simp [u3])
  have v8 : a2.eval (.tmp 8) = .int .i64 on := by rw [← hA]; exact (by simp [u8])
  have v9 : a2.eval (.tmp 9) = .pointer (some ⟨px, 0, none⟩) := by rw [← hA]; exact (by simp [u9])
  have v15 : a2.eval (.tmp 15) = .slice Ae_t2 (reachC o t l on).length ce_t2 := by rw [← hA]; exact (by simp [hz_a1])
  have v16 : a2.eval (.tmp 16) = .slice As_t2 (reachS o t l on).length cs_t2 := by rw [← hA]; exact (by simp [hz_a1])
  have v17 : a2.eval (.tmp 17) = .int .i64 (reachE o t l on) := by rw [← hA]; exact (by simp [hz_a1])
  have hd_a2 : a2.defers = [] := by rw [← hA]; simp only [defers_put, hd_a1]
  clear hA
  refine wpIn_seq (region_p 11 ?_)
  intro K hK
  refine ListK.load (i := 0) (p := ⟨px, 0, none⟩) (v := .agg #[.int .i64 o, .int .i64 t, .slice A2 l2.length c2]) rfl (by simp [v9]) (ld24 ⟨wx.cell 0, wx.cell 1, wx.cell 2⟩) ?_
  refine ListK.call (i := 1) (vs := #[.agg #[.int .i64 o, .int .i64 t, .slice A2 l2.length c2]]) rfl (enters_of Try.func18 (by kernel_rfl) rfl) (by simp [hz_a2]) (((batch_any o t A2 l2 c2 W3 (by omega) hx)).mono ?_)
  rintro _ W4 ⟨A_t3, c_t3, rfl, hs_t3, hb_t3⟩
  have hL_t3 := hB1.trans (hb_t3.mono (by have := hB1.size; omega))
  replace hs := (hs.below hb_t3 (Nat.le_refl _)).more hb_t3.size
  replace hx := (hx.below hb_t3 (Nat.le_refl _)).more hb_t3.size
  replace ie_t2 := (ie_t2.below hb_t3 (Nat.le_refl _)).more hb_t3.size
  replace is_t2 := (is_t2.below hb_t3 (Nat.le_refl _)).more hb_t3.size
  replace wb := wb.below hb_t3 wb.lt
  replace wx := wx.below hb_t3 wx.lt
  replace hB1 := hL_t3
  replace hlt : b3 < W4.heap.size := wb.lt
  refine ⟨_, rfl, ?_⟩
  refine ListK.move (i := 2) (v := .int .i64 on) rfl (by simp [v8]) ?_
  refine ListK.call (i := 3) (vs := #[.agg #[.int .i64 o, .int .i64 t, .slice A_t3 l2.length c_t3], .int .i64 on]) rfl (enters_of Try.func33 (by kernel_rfl) rfl) (by simp [hz_a2]) (((reach_any o t A_t3 l2 c_t3 on W4 (by omega) hs_t3)).mono ?_)
  rintro _ W5 ⟨ve, vs, rfl, hrm⟩
  obtain ⟨⟨Ae_t4, ce_t4, rfl, _, ie_t4⟩, ⟨As_t4, cs_t4, rfl, _, is_t4⟩⟩ := hrm.ri
  have hb_t4 := hrm.low
  clear hrm
  have hL_t4 := hB1.trans (hb_t4.mono (by have := hB1.size; omega))
  replace hs := (hs.below hb_t4 (Nat.le_refl _)).more hb_t4.size
  replace hx := (hx.below hb_t4 (Nat.le_refl _)).more hb_t4.size
  replace ie_t2 := (ie_t2.below hb_t4 (Nat.le_refl _)).more hb_t4.size
  replace is_t2 := (is_t2.below hb_t4 (Nat.le_refl _)).more hb_t4.size
  replace wb := wb.below hb_t4 wb.lt
  replace wx := wx.below hb_t4 wx.lt
  replace hB1 := hL_t4
  replace hlt : b3 < W5.heap.size := wb.lt
  refine ⟨_, rfl, ?_⟩
  refine ListK.move (i := 4) (v := .tuple #[.slice Ae_t4 (reachC o t l2 on).length ce_t4, .slice As_t4 (reachS o t l2 on).length cs_t4, .int .i64 (reachE o t l2 on)]) rfl (by simp [hz_a2]) ?_
  refine ListK.extract (i := 5) (u := .tuple #[.slice Ae_t4 (reachC o t l2 on).length ce_t4, .slice As_t4 (reachS o t l2 on).length cs_t4, .int .i64 (reachE o t l2 on)]) (v := .slice Ae_t4 (reachC o t l2 on).length ce_t4) rfl (by simp [hz_a2]) (ex3_0 _ _ _ _) ?_
  refine ListK.extract (i := 6) (u := .tuple #[.slice Ae_t4 (reachC o t l2 on).length ce_t4, .slice As_t4 (reachS o t l2 on).length cs_t4, .int .i64 (reachE o t l2 on)]) (v := .slice As_t4 (reachS o t l2 on).length cs_t4) rfl (by simp [hz_a2]) (ex3_1 _ _ _ _) ?_
  refine ListK.extract (i := 7) (u := .tuple #[.slice Ae_t4 (reachC o t l2 on).length ce_t4, .slice As_t4 (reachS o t l2 on).length cs_t4, .int .i64 (reachE o t l2 on)]) (v := .int .i64 (reachE o t l2 on)) rfl (by simp [hz_a2]) (ex3_2 _ _ _ _) ?_
  refine ListK.assign (i := 8) (v := .slice Ae_t4 (reachC o t l2 on).length ce_t4) rfl (by simp [hz_a2]) ?_
  refine ListK.assign (i := 9) (v := .slice As_t4 (reachS o t l2 on).length cs_t4) rfl (by simp [hz_a2]) ?_
  refine ListK.assign (i := 10) (v := .int .i64 (reachE o t l2 on)) rfl (by simp [hz_a2]) ?_
  refine ListK.done (hK _ _ ?_)
  clear hK K
  generalize hA : Act.put _ _ _ = a3
  have hz_a3 : a3.tmps.size = 159 := by rw [← hA]; simp only [size_put, hz_a2]
  have x3 : a3.eval (.tmp 3) = .pointer (some ⟨b3, 0, none⟩) := by rw [← hA]; exact (by simp [v3])
  have x8 : a3.eval (.tmp 8) = .int .i64 on := by rw [← hA]; exact (by simp [v8])
  have x9 : a3.eval (.tmp 9) = .pointer (some ⟨px, 0, none⟩) := by rw [← hA]; exact (by simp [v9])
  have x15 : a3.eval (.tmp 15) = .slice Ae_t2 (reachC o t l on).length ce_t2 := by rw [← hA]; exact (by simp [v15])
  have x16 : a3.eval (.tmp 16) = .slice As_t2 (reachS o t l on).length cs_t2 := by rw [← hA]; exact (by simp [v16])
  have x17 : a3.eval (.tmp 17) = .int .i64 (reachE o t l on) := by rw [← hA]; exact (by simp [v17])
  have x18 : a3.eval (.tmp 18) = .slice Ae_t4 (reachC o t l2 on).length ce_t4 := by rw [← hA]; exact (by simp [hz_a2])
  have x19 : a3.eval (.tmp 19) = .slice As_t4 (reachS o t l2 on).length cs_t4 := by rw [← hA]; exact (by simp [hz_a2])
  have x20 : a3.eval (.tmp 20) = .int .i64 (reachE o t l2 on) := by rw [← hA]; exact (by simp [hz_a2])
  have hd_a3 : a3.defers = [] := by rw [← hA]; simp only [defers_put, hd_a2]
  clear hA
  refine wpIn_seq (region_p 8 ?_)
  intro K hK
  refine ListK.load (i := 0) (p := ⟨b3, 0, none⟩) (v := .agg #[.int .i64 o, .int .i64 t, .slice A l.length c]) rfl (by simp [x3]) (ld24 ⟨wb.cell 0, wb.cell 1, wb.cell 2⟩) ?_
  refine ListK.call (i := 1) (vs := #[.agg #[.int .i64 o, .int .i64 t, .slice A l.length c]]) rfl (enters_of Try.func18 (by kernel_rfl) rfl) (by simp [hz_a3]) (((batch_any o t A l c W5 (by omega) hs)).mono ?_)
  rintro _ W6 ⟨A_t5, c_t5, rfl, hs_t5, hb_t5⟩
  have hL_t5 := hB1.trans (hb_t5.mono (by have := hB1.size; omega))
  replace hs := (hs.below hb_t5 (Nat.le_refl _)).more hb_t5.size
  replace hx := (hx.below hb_t5 (Nat.le_refl _)).more hb_t5.size
  replace ie_t2 := (ie_t2.below hb_t5 (Nat.le_refl _)).more hb_t5.size
  replace is_t2 := (is_t2.below hb_t5 (Nat.le_refl _)).more hb_t5.size
  replace ie_t4 := (ie_t4.below hb_t5 (Nat.le_refl _)).more hb_t5.size
  replace is_t4 := (is_t4.below hb_t5 (Nat.le_refl _)).more hb_t5.size
  replace wb := wb.below hb_t5 wb.lt
  replace wx := wx.below hb_t5 wx.lt
  replace hB1 := hL_t5
  replace hlt : b3 < W6.heap.size := wb.lt
  refine ⟨_, rfl, ?_⟩
  refine ListK.call (i := 2) (vs := #[.agg #[.int .i64 o, .int .i64 t, .slice A_t5 l.length c_t5]]) rfl (enters_of Try.func24 (by kernel_rfl) rfl) (by simp [hz_a3]) (((blame_any o t A_t5 l c_t5 W6 (by omega) hs_t5)).mono ?_)
  rintro _ W7 ⟨vl, rfl, ⟨Al_t6, cl_t6, rfl, _, il_t6⟩, hb_t6⟩
  have hL_t6 := hB1.trans (hb_t6.mono (by have := hB1.size; omega))
  replace hs := (hs.below hb_t6 (Nat.le_refl _)).more hb_t6.size
  replace hx := (hx.below hb_t6 (Nat.le_refl _)).more hb_t6.size
  replace ie_t2 := (ie_t2.below hb_t6 (Nat.le_refl _)).more hb_t6.size
  replace is_t2 := (is_t2.below hb_t6 (Nat.le_refl _)).more hb_t6.size
  replace ie_t4 := (ie_t4.below hb_t6 (Nat.le_refl _)).more hb_t6.size
  replace is_t4 := (is_t4.below hb_t6 (Nat.le_refl _)).more hb_t6.size
  replace wb := wb.below hb_t6 wb.lt
  replace wx := wx.below hb_t6 wx.lt
  replace hB1 := hL_t6
  replace hlt : b3 < W7.heap.size := wb.lt
  refine ⟨_, rfl, ?_⟩
  refine ListK.move (i := 3) (v := .tuple #[.slice Al_t6 (blameV o t l).length cl_t6, .int .i64 (fault o t l)]) rfl (by simp [hz_a3]) ?_
  refine ListK.extract (i := 4) (u := .tuple #[.slice Al_t6 (blameV o t l).length cl_t6, .int .i64 (fault o t l)]) (v := .slice Al_t6 (blameV o t l).length cl_t6) rfl (by simp [hz_a3]) (ex0 _ _ _) ?_
  refine ListK.extract (i := 5) (u := .tuple #[.slice Al_t6 (blameV o t l).length cl_t6, .int .i64 (fault o t l)]) (v := .int .i64 (fault o t l)) rfl (by simp [hz_a3]) (ex1 _ _ _) ?_
  refine ListK.assign (i := 6) (v := .slice Al_t6 (blameV o t l).length cl_t6) rfl (by simp [hz_a3]) ?_
  refine ListK.assign (i := 7) (v := .int .i64 (fault o t l)) rfl (by simp [hz_a3]) ?_
  refine ListK.done (hK _ _ ?_)
  clear hK K
  generalize hA : Act.put _ _ _ = a4
  have hz_a4 : a4.tmps.size = 159 := by rw [← hA]; simp only [size_put, hz_a3]
  have y3 : a4.eval (.tmp 3) = .pointer (some ⟨b3, 0, none⟩) := by rw [← hA]; exact (by simp [x3])
  have y8 : a4.eval (.tmp 8) = .int .i64 on := by rw [← hA]; exact (by simp [x8])
  have y9 : a4.eval (.tmp 9) = .pointer (some ⟨px, 0, none⟩) := by rw [← hA]; exact (by simp [x9])
  have y15 : a4.eval (.tmp 15) = .slice Ae_t2 (reachC o t l on).length ce_t2 := by rw [← hA]; exact (by simp [x15])
  have y16 : a4.eval (.tmp 16) = .slice As_t2 (reachS o t l on).length cs_t2 := by rw [← hA]; exact (by simp [x16])
  have y17 : a4.eval (.tmp 17) = .int .i64 (reachE o t l on) := by rw [← hA]; exact (by simp [x17])
  have y18 : a4.eval (.tmp 18) = .slice Ae_t4 (reachC o t l2 on).length ce_t4 := by rw [← hA]; exact (by simp [x18])
  have y19 : a4.eval (.tmp 19) = .slice As_t4 (reachS o t l2 on).length cs_t4 := by rw [← hA]; exact (by simp [x19])
  have y20 : a4.eval (.tmp 20) = .int .i64 (reachE o t l2 on) := by rw [← hA]; exact (by simp [x20])
  have y21 : a4.eval (.tmp 21) = .slice Al_t6 (blameV o t l).length cl_t6 := by rw [← hA]; exact (by simp [hz_a3])
  have y22 : a4.eval (.tmp 22) = .int .i64 (fault o t l) := by rw [← hA]; exact (by simp [hz_a3])
  have hd_a4 : a4.defers = [] := by rw [← hA]; simp only [defers_put, hd_a3]
  clear hA
  refine wpIn_seq (region_p 8 ?_)
  intro K hK
  refine ListK.load (i := 0) (p := ⟨px, 0, none⟩) (v := .agg #[.int .i64 o, .int .i64 t, .slice A2 l2.length c2]) rfl (by simp [y9]) (ld24 ⟨wx.cell 0, wx.cell 1, wx.cell 2⟩) ?_
  refine ListK.call (i := 1) (vs := #[.agg #[.int .i64 o, .int .i64 t, .slice A2 l2.length c2]]) rfl (enters_of Try.func18 (by kernel_rfl) rfl) (by simp [hz_a4]) (((batch_any o t A2 l2 c2 W7 (by omega) hx)).mono ?_)
  rintro _ W8 ⟨A_t7, c_t7, rfl, hs_t7, hb_t7⟩
  have hL_t7 := hB1.trans (hb_t7.mono (by have := hB1.size; omega))
  replace hs := (hs.below hb_t7 (Nat.le_refl _)).more hb_t7.size
  replace hx := (hx.below hb_t7 (Nat.le_refl _)).more hb_t7.size
  replace ie_t2 := (ie_t2.below hb_t7 (Nat.le_refl _)).more hb_t7.size
  replace is_t2 := (is_t2.below hb_t7 (Nat.le_refl _)).more hb_t7.size
  replace ie_t4 := (ie_t4.below hb_t7 (Nat.le_refl _)).more hb_t7.size
  replace is_t4 := (is_t4.below hb_t7 (Nat.le_refl _)).more hb_t7.size
  replace il_t6 := (il_t6.below hb_t7 (Nat.le_refl _)).more hb_t7.size
  replace wb := wb.below hb_t7 wb.lt
  replace wx := wx.below hb_t7 wx.lt
  replace hB1 := hL_t7
  replace hlt : b3 < W8.heap.size := wb.lt
  refine ⟨_, rfl, ?_⟩
  refine ListK.call (i := 2) (vs := #[.agg #[.int .i64 o, .int .i64 t, .slice A_t7 l2.length c_t7]]) rfl (enters_of Try.func24 (by kernel_rfl) rfl) (by simp [hz_a4]) (((blame_any o t A_t7 l2 c_t7 W8 (by omega) hs_t7)).mono ?_)
  rintro _ W9 ⟨vl, rfl, ⟨Al_t8, cl_t8, rfl, _, il_t8⟩, hb_t8⟩
  have hL_t8 := hB1.trans (hb_t8.mono (by have := hB1.size; omega))
  replace hs := (hs.below hb_t8 (Nat.le_refl _)).more hb_t8.size
  replace hx := (hx.below hb_t8 (Nat.le_refl _)).more hb_t8.size
  replace ie_t2 := (ie_t2.below hb_t8 (Nat.le_refl _)).more hb_t8.size
  replace is_t2 := (is_t2.below hb_t8 (Nat.le_refl _)).more hb_t8.size
  replace ie_t4 := (ie_t4.below hb_t8 (Nat.le_refl _)).more hb_t8.size
  replace is_t4 := (is_t4.below hb_t8 (Nat.le_refl _)).more hb_t8.size
  replace il_t6 := (il_t6.below hb_t8 (Nat.le_refl _)).more hb_t8.size
  replace wb := wb.below hb_t8 wb.lt
  replace wx := wx.below hb_t8 wx.lt
  replace hB1 := hL_t8
  replace hlt : b3 < W9.heap.size := wb.lt
  refine ⟨_, rfl, ?_⟩
  refine ListK.move (i := 3) (v := .tuple #[.slice Al_t8 (blameV o t l2).length cl_t8, .int .i64 (fault o t l2)]) rfl (by simp [hz_a4]) ?_
  refine ListK.extract (i := 4) (u := .tuple #[.slice Al_t8 (blameV o t l2).length cl_t8, .int .i64 (fault o t l2)]) (v := .slice Al_t8 (blameV o t l2).length cl_t8) rfl (by simp [hz_a4]) (ex0 _ _ _) ?_
  refine ListK.extract (i := 5) (u := .tuple #[.slice Al_t8 (blameV o t l2).length cl_t8, .int .i64 (fault o t l2)]) (v := .int .i64 (fault o t l2)) rfl (by simp [hz_a4]) (ex1 _ _ _) ?_
  refine ListK.assign (i := 6) (v := .slice Al_t8 (blameV o t l2).length cl_t8) rfl (by simp [hz_a4]) ?_
  refine ListK.assign (i := 7) (v := .int .i64 (fault o t l2)) rfl (by simp [hz_a4]) ?_
  refine ListK.done (hK _ _ ?_)
  clear hK K
  generalize hA : Act.put _ _ _ = a5
  have hz_a5 : a5.tmps.size = 159 := by rw [← hA]; simp only [size_put, hz_a4]
  have z15 : a5.eval (.tmp 15) = .slice Ae_t2 (reachC o t l on).length ce_t2 := by rw [← hA]; exact (by simp [y15])
  have z16 : a5.eval (.tmp 16) = .slice As_t2 (reachS o t l on).length cs_t2 := by rw [← hA]; exact (by simp [y16])
  have z17 : a5.eval (.tmp 17) = .int .i64 (reachE o t l on) := by rw [← hA]; exact (by simp [y17])
  have z18 : a5.eval (.tmp 18) = .slice Ae_t4 (reachC o t l2 on).length ce_t4 := by rw [← hA]; exact (by simp [y18])
  have z19 : a5.eval (.tmp 19) = .slice As_t4 (reachS o t l2 on).length cs_t4 := by rw [← hA]; exact (by simp [y19])
  have z20 : a5.eval (.tmp 20) = .int .i64 (reachE o t l2 on) := by rw [← hA]; exact (by simp [y20])
  have z21 : a5.eval (.tmp 21) = .slice Al_t6 (blameV o t l).length cl_t6 := by rw [← hA]; exact (by simp [y21])
  have z22 : a5.eval (.tmp 22) = .int .i64 (fault o t l) := by rw [← hA]; exact (by simp [y22])
  have z23 : a5.eval (.tmp 23) = .slice Al_t8 (blameV o t l2).length cl_t8 := by rw [← hA]; exact (by simp [hz_a4])
  have z24 : a5.eval (.tmp 24) = .int .i64 (fault o t l2) := by rw [← hA]; exact (by simp [hz_a4])
  have hd_a5 : a5.defers = [] := by rw [← hA]; simp only [defers_put, hd_a4]
  clear hA
  have hv2 : Valid o t l2 := by rw [e2]; exact turned_valid hv
  have hf2 : fitsB t l2 = fitsB t l := by rw [e2]; exact turned_fits (by omega) hv
  have hE : reachE o t l on = reachE o t l2 on := by
    unfold reachE
    rw [inR_iff.2 hon, triedE_valid hv, triedE_valid hv2, hf2]
  have hCS : reachC o t l on = reachC o t l2 on ∧ reachS o t l on = reachS o t l2 on := by
    unfold reachC reachS
    rw [← hE]
    by_cases h : reachE o t l on = 0
    · rw [if_pos h, if_pos h, if_pos h, if_pos h]
      have hF : fitsB t l = true := by
        unfold reachE at h
        rw [inR_iff.2 hon, triedE_valid hv] at h
        cases hF : fitsB t l with
        | true => rfl
        | false =>
          rw [hF] at h
          simp at h
      have ho := hv.o1
      have := turned_can (k := k) (by omega) hv hF hon.1 hon.2 o.toNat (by omega)
      rw [e2]
      exact ⟨this.1.symm, this.2.symm⟩
    · rw [if_neg h, if_neg h, if_neg h, if_neg h]
      exact ⟨rfl, rfl⟩
  have h6a : (reachC o t l on).length ≤ 10000 ∧ (reachS o t l on).length ≤ 10000 := by
    have ho := hv.o6
    unfold reachC reachS
    have a := canTo_length t l on o.toNat
    have b := sureTo_length t l on o.toNat
    split
    · omega
    · simp
  have hsC : sameL (reachC o t l on) (reachC o t l2 on) = true := by rw [sameL_iff, ← hCS.1]; simp
  have hsS : sameL (reachS o t l on) (reachS o t l2 on) = true := by rw [sameL_iff, ← hCS.2]; simp
  have hf0 := hv.fault
  have hf02 := hv2.fault
  have hbl : ((blameV o t l).length : Int) = (blameV o t l2).length := by
    unfold blameV
    rw [if_pos hf0, if_pos hf02, e2, turned_blame (by omega) hv]
  refine wpIn_seq (region_p 32 ?_)
  intro K hK
  refine ListK.move (i := 0) (v := .int .i64 (reachE o t l on)) rfl (by simp [z17]) ?_
  refine ListK.move (i := 1) (v := .int .i64 (reachE o t l2 on)) rfl (by simp [z20]) ?_
  refine ListK.bin (i := 2) (u := .int .i64 (reachE o t l on)) (u' := .int .i64 (reachE o t l2 on)) (v := .bool true) rfl (by simp [hz_a5]) (by simp [hz_a5]) (eql27T hE _) ?_
  refine ListK.move (i := 3) (v := .bool true) rfl (by simp [hz_a5]) ?_
  refine ListK.move (i := 4) (v := .slice Ae_t2 (reachC o t l on).length ce_t2) rfl (by simp [z15]) ?_ (hw := wanted_g (e := 131) (b' := true) rfl (by simp [hz_a5]) rfl)
  refine ListK.move (i := 5) (v := .slice Ae_t4 (reachC o t l2 on).length ce_t4) rfl (by simp [z18]) ?_ (hw := wanted_g (e := 131) (b' := true) rfl (by simp [hz_a5]) rfl)
  refine ListK.call (i := 6) (vs := #[.slice Ae_t2 (reachC o t l on).length ce_t2, .slice Ae_t4 (reachC o t l2 on).length ce_t4]) rfl (enters_of Try.func25 (by kernel_rfl) rfl) (by simp [hz_a5]) (((ints_any Ae_t2 Ae_t4 ce_t2 ce_t4 (reachC o t l on) (reachC o t l2 on) W9 h6a.1 ie_t2 ie_t4)).mono ?_) (hw := wanted_g (e := 131) (b' := true) rfl (by simp [hz_a5]) rfl)
  rintro _ W10 ⟨rfl, hb_t9⟩
  rw [hsC]
  have hL_t9 := hB1.trans (hb_t9.mono (by have := hB1.size; omega))
  replace hs := (hs.below hb_t9 (Nat.le_refl _)).more hb_t9.size
  replace hx := (hx.below hb_t9 (Nat.le_refl _)).more hb_t9.size
  replace ie_t2 := (ie_t2.below hb_t9 (Nat.le_refl _)).more hb_t9.size
  replace is_t2 := (is_t2.below hb_t9 (Nat.le_refl _)).more hb_t9.size
  replace ie_t4 := (ie_t4.below hb_t9 (Nat.le_refl _)).more hb_t9.size
  replace is_t4 := (is_t4.below hb_t9 (Nat.le_refl _)).more hb_t9.size
  replace il_t6 := (il_t6.below hb_t9 (Nat.le_refl _)).more hb_t9.size
  replace il_t8 := (il_t8.below hb_t9 (Nat.le_refl _)).more hb_t9.size
  replace wb := wb.below hb_t9 wb.lt
  replace wx := wx.below hb_t9 wx.lt
  replace hB1 := hL_t9
  replace hlt : b3 < W10.heap.size := wb.lt
  refine ⟨_, rfl, ?_⟩
  refine ListK.pick (i := 7) (b := true) (v := .bool true) rfl (by simp [hz_a5]) (by simp [hz_a5]) ?_
  refine ListK.move (i := 8) (v := .bool true) rfl (by simp [hz_a5]) ?_
  refine ListK.move (i := 9) (v := .slice As_t2 (reachS o t l on).length cs_t2) rfl (by simp [z16]) ?_ (hw := wanted_g (e := 136) (b' := true) rfl (by simp [hz_a5]) rfl)
  refine ListK.move (i := 10) (v := .slice As_t4 (reachS o t l2 on).length cs_t4) rfl (by simp [z19]) ?_ (hw := wanted_g (e := 136) (b' := true) rfl (by simp [hz_a5]) rfl)
  refine ListK.call (i := 11) (vs := #[.slice As_t2 (reachS o t l on).length cs_t2, .slice As_t4 (reachS o t l2 on).length cs_t4]) rfl (enters_of Try.func25 (by kernel_rfl) rfl) (by simp [hz_a5]) (((ints_any As_t2 As_t4 cs_t2 cs_t4 (reachS o t l on) (reachS o t l2 on) W10 h6a.2 is_t2 is_t4)).mono ?_) (hw := wanted_g (e := 136) (b' := true) rfl (by simp [hz_a5]) rfl)
  rintro _ W11 ⟨rfl, hb_t10⟩
  rw [hsS]
  have hL_t10 := hB1.trans (hb_t10.mono (by have := hB1.size; omega))
  replace hs := (hs.below hb_t10 (Nat.le_refl _)).more hb_t10.size
  replace hx := (hx.below hb_t10 (Nat.le_refl _)).more hb_t10.size
  replace ie_t2 := (ie_t2.below hb_t10 (Nat.le_refl _)).more hb_t10.size
  replace is_t2 := (is_t2.below hb_t10 (Nat.le_refl _)).more hb_t10.size
  replace ie_t4 := (ie_t4.below hb_t10 (Nat.le_refl _)).more hb_t10.size
  replace is_t4 := (is_t4.below hb_t10 (Nat.le_refl _)).more hb_t10.size
  replace il_t6 := (il_t6.below hb_t10 (Nat.le_refl _)).more hb_t10.size
  replace il_t8 := (il_t8.below hb_t10 (Nat.le_refl _)).more hb_t10.size
  replace wb := wb.below hb_t10 wb.lt
  replace wx := wx.below hb_t10 wx.lt
  replace hB1 := hL_t10
  replace hlt : b3 < W11.heap.size := wb.lt
  refine ⟨_, rfl, ?_⟩
  refine ListK.pick (i := 12) (b := true) (v := .bool true) rfl (by simp [hz_a5]) (by simp [hz_a5]) ?_
  refine ListK.move (i := 13) (v := .bool true) rfl (by simp [hz_a5]) ?_
  refine ListK.move (i := 14) (v := .int .i64 (fault o t l)) rfl (by simp [z22]) ?_ (hw := wanted_g (e := 141) (b' := true) rfl (by simp [hz_a5]) rfl)
  refine ListK.bin (i := 15) (u := .int .i64 (fault o t l)) (u' := .int .i64 0) (v := .bool true) rfl (by simp [hz_a5]) (by simp) (eql27T hf0 _) ?_ (hw := wanted_g (e := 141) (b' := true) rfl (by simp [hz_a5]) rfl)
  refine ListK.pick (i := 16) (b := true) (v := .bool true) rfl (by simp [hz_a5]) (by simp [hz_a5]) ?_
  refine ListK.move (i := 17) (v := .bool true) rfl (by simp [hz_a5]) ?_
  refine ListK.move (i := 18) (v := .int .i64 (fault o t l2)) rfl (by simp [z24]) ?_ (hw := wanted_g (e := 145) (b' := true) rfl (by simp [hz_a5]) rfl)
  refine ListK.bin (i := 19) (u := .int .i64 (fault o t l2)) (u' := .int .i64 0) (v := .bool true) rfl (by simp [hz_a5]) (by simp) (eql27T hf02 _) ?_ (hw := wanted_g (e := 145) (b' := true) rfl (by simp [hz_a5]) rfl)
  refine ListK.pick (i := 20) (b := true) (v := .bool true) rfl (by simp [hz_a5]) (by simp [hz_a5]) ?_
  refine ListK.move (i := 21) (v := .bool true) rfl (by simp [hz_a5]) ?_
  refine ListK.move (i := 22) (v := .slice Al_t6 (blameV o t l).length cl_t6) rfl (by simp [z21]) ?_ (hw := wanted_g (e := 149) (b' := true) rfl (by simp [hz_a5]) rfl)
  refine ListK.lenW (i := 23) (u := .slice Al_t6 (blameV o t l).length cl_t6) (v := .int .i64 (blameV o t l).length) rfl (by simp [hz_a5]) (ln25 _ _ _ _ _) rfl ?_ (hw := wanted_g (e := 149) (b' := true) rfl (by simp [hz_a5]) rfl)
  refine ListK.move (i := 24) (v := .slice Al_t8 (blameV o t l2).length cl_t8) rfl (by simp [z23]) ?_ (hw := wanted_g (e := 149) (b' := true) rfl (by simp [hz_a5]) rfl)
  refine ListK.lenW (i := 25) (u := .slice Al_t8 (blameV o t l2).length cl_t8) (v := .int .i64 (blameV o t l2).length) rfl (by simp [hz_a5]) (ln25 _ _ _ _ _) rfl ?_ (hw := wanted_g (e := 149) (b' := true) rfl (by simp [hz_a5]) rfl)
  refine ListK.bin (i := 26) (u := .int .i64 (blameV o t l).length) (u' := .int .i64 (blameV o t l2).length) (v := .bool true) rfl (by simp [hz_a5]) (by simp [hz_a5]) (eql3T hbl _) ?_ (hw := wanted_g (e := 149) (b' := true) rfl (by simp [hz_a5]) rfl)
  refine ListK.pick (i := 27) (b := true) (v := .bool true) rfl (by simp [hz_a5]) (by simp [hz_a5]) ?_
  refine ListK.move (i := 28) (v := .bool true) rfl (by simp [hz_a5]) ?_
  refine ListK.call (i := 29) (vs := #[]) rfl (enters_of Try.func16 (by kernel_rfl) rfl) (by simp) (((wakes_any W11)).mono ?_) (hw := wanted_g (e := 156) (b' := true) rfl (by simp [hz_a5]) rfl)
  rintro _ W12 ⟨rfl, hb_t11⟩
  have hL_t11 := hB1.trans (hb_t11.mono (by have := hB1.size; omega))
  replace hs := (hs.below hb_t11 (Nat.le_refl _)).more hb_t11.size
  replace hx := (hx.below hb_t11 (Nat.le_refl _)).more hb_t11.size
  replace ie_t2 := (ie_t2.below hb_t11 (Nat.le_refl _)).more hb_t11.size
  replace is_t2 := (is_t2.below hb_t11 (Nat.le_refl _)).more hb_t11.size
  replace ie_t4 := (ie_t4.below hb_t11 (Nat.le_refl _)).more hb_t11.size
  replace is_t4 := (is_t4.below hb_t11 (Nat.le_refl _)).more hb_t11.size
  replace il_t6 := (il_t6.below hb_t11 (Nat.le_refl _)).more hb_t11.size
  replace il_t8 := (il_t8.below hb_t11 (Nat.le_refl _)).more hb_t11.size
  replace wb := wb.below hb_t11 wb.lt
  replace wx := wx.below hb_t11 wx.lt
  replace hB1 := hL_t11
  replace hlt : b3 < W12.heap.size := wb.lt
  refine ⟨_, rfl, ?_⟩
  refine ListK.pick (i := 30) (b := true) (v := .bool true) rfl (by simp [hz_a5]) (by simp [hz_a5]) ?_
  refine ListK.assign (i := 31) (v := .bool true) rfl (by simp [hz_a5]) ?_
  refine ListK.done (hK _ _ (wpIn_ret ?_))
  exact hret _ _ (by simp only [defers_put, hd_a5]) (by simp [hz_a5]) hB1
end
set_option maxRecDepth 10000 in
set_option maxHeartbeats 4000000 in
theorem turned_any (o t : Int) (A : Option Addr) (l : List Sale) (c nk nd : Nat) (W : World) (hnk : nk < 256) (hnd : nd < 256) (hc : l.length ≤ c) (hs : SalesAt W W.heap.size A l) :
    Calls Try.prog 14 #[.agg #[.int .i64 o, .int .i64 t, .slice A l.length c], .int .u8 nk, .int .u8 nd] W (TP W true) := by
  have hs0 := hs
  refine (callsIn_wide (n := 5)).1 (callsIn_of_wp Try.func14 body14 trivial ?_ rfl)
  obtain ⟨a, ha⟩ : ∃ a : Act, a = { tmps := #[.agg #[.int .i64 o, .int .i64 t, .slice A l.length c], .int .u8 nk, .int .u8 nd] ++ Array.replicate (Try.f14.ntmps - (#[.agg #[.int .i64 o, .int .i64 t, .slice A l.length c], .int .u8 nk, .int .u8 nd] : Array Value).size) undef, defers := [] } := ⟨_, rfl⟩
  have hsz : a.tmps.size = 159 := by rw [ha]; simp [Try.ntmps14]
  have t0 : a.eval (.tmp 0) = .agg #[.int .i64 o, .int .i64 t, .slice A l.length c] := by rw [ha]; simp [Act.eval]
  have t1 : a.eval (.tmp 1) = .int .u8 nk := by rw [ha]; simp [Act.eval]
  have t2 : a.eval (.tmp 2) = .int .u8 nd := by rw [ha]; simp [Act.eval]
  have hdf : a.defers = [] := by rw [ha]
  rw [← ha]
  clear ha
  have hret : ∀ (a' : Act) (W' : World), a'.defers = [] → a'.eval (.tmp 6) = .bool true → Below W.heap.size W W' → bodyPost Try.prog Try.f14 (TP W true) .ret a' W' := fun a' W' hd h4 hb =>
    bodyPost_ret (v := .bool true) (res1 Try.results14 h4) hd ⟨rfl, hb⟩
  unfold code14
  refine wpIn_seq (region_p 2 ?_)
  intro K hK
  refine ListK.box (i := 0) (u := .agg #[.int .i64 o, .int .i64 t, .slice A l.length c]) rfl (by simp [t0]) (bx24 W _ _ _ _ _) ?_
  refine ListK.assign (i := 1) (v := .bool false) rfl (by simp) ?_
  refine ListK.done (hK _ _ ?_)
  clear hK K
  have wb := Whole.new W 24 #[.int .i64 o, .int .i64 t, .slice A l.length c]
  have hB1 : Below W.heap.size W (W.alloc (.cells #[.int .i64 o, .int .i64 t, .slice A l.length c] 24)) := (Below.refl _ W).alloc (Nat.le_refl _) _
  have hS1 := hB1.size
  have hlt : W.heap.size < (W.alloc (.cells #[.int .i64 o, .int .i64 t, .slice A l.length c] 24)).heap.size := by simp
  generalize hb3 : W.heap.size = b3 at *
  generalize W.alloc (.cells #[.int .i64 o, .int .i64 t, .slice A l.length c] 24) = W1 at *
  replace hs : SalesAt W1 W1.heap.size A l := (hs.below hB1 (Nat.le_refl _)).more hS1
  generalize hA : Act.put _ _ _ = a1
  have hz_a1 : a1.tmps.size = 159 := by rw [← hA]; simp only [size_put, hsz]
  have u1 : a1.eval (.tmp 1) = .int .u8 nk := by rw [← hA]; exact (by simp [t1])
  have u2 : a1.eval (.tmp 2) = .int .u8 nd := by rw [← hA]; exact (by simp [t2])
  have u3 : a1.eval (.tmp 3) = .pointer (some ⟨b3, 0, none⟩) := by rw [← hA]; exact (by simp [hsz])
  have hd_a1 : a1.defers = [] := by rw [← hA]; simp only [defers_put, hdf]
  clear hA
  have hrd := ready_any o t A l c W1 hs
  by_cases hready : l.length ≤ 12 ∧ fault o t l = 0
  · obtain ⟨hl12, h0⟩ := hready
    rw [decide_eq_true hl12, decide_eq_true h0] at hrd
    have hv := valid_of_fault h0
    by_cases hl0 : l.length = 0
    · skip
      refine wpIn_seq (wpIn_seq (region_p 9 ?_))
      intro K hK
      refine ListK.load (i := 0) (p := ⟨b3, 0, none⟩) (v := .agg #[.int .i64 o, .int .i64 t, .slice A l.length c]) rfl (by simp [u3]) (ld24 ⟨wb.cell 0, wb.cell 1, wb.cell 2⟩) ?_
      refine ListK.call (i := 1) (vs := #[.agg #[.int .i64 o, .int .i64 t, .slice A l.length c]]) rfl (enters_of Try.func41 (by kernel_rfl) rfl) (by simp [hz_a1]) (((hrd)).mono ?_)
      rintro _ W2 ⟨rfl, hb_t1⟩
      clear hrd
      have hL_t1 := hB1.trans (hb_t1.mono (by have := hB1.size; omega))
      replace hs := (hs.below hb_t1 (Nat.le_refl _)).more hb_t1.size
      replace wb := wb.below hb_t1 wb.lt
      replace hB1 := hL_t1
      replace hlt : b3 < W2.heap.size := wb.lt
      refine ⟨_, rfl, ?_⟩
      refine ListK.un (i := 2) (u := .bool true) (v := .bool false) rfl (by simp [hz_a1]) (not4 _ _) ?_
      refine ListK.move (i := 3) (v := .bool false) rfl (by simp [hz_a1]) ?_
      refine ListK.field (i := 4) (u := .pointer (some ⟨b3, 0, none⟩)) (v := .pointer (some ⟨b3, 2, none⟩)) rfl (by simp [u3]) (fa24_2 _) ?_ (hw := wanted_g (e := 28) (b' := false) rfl (by simp [hz_a1]) rfl)
      refine ListK.load (i := 5) (p := ⟨b3, 2, none⟩) (v := .slice A l.length c) rfl (by simp [hz_a1]) (ld22 (wb.cell 2)) ?_ (hw := wanted_g (e := 28) (b' := false) rfl (by simp [hz_a1]) rfl)
      refine ListK.lenW (i := 6) (u := .slice A l.length c) (v := .int .i64 l.length) rfl (by simp [hz_a1]) (ln22 _ _ _ _ _) rfl ?_ (hw := wanted_g (e := 28) (b' := false) rfl (by simp [hz_a1]) rfl)
      refine ListK.bin (i := 7) (u := .int .i64 l.length) (u' := .int .i64 0) (v := .bool true) rfl (by simp [hz_a1]) (by simp) (eql3T (by omega) _) ?_ (hw := wanted_g (e := 28) (b' := false) rfl (by simp [hz_a1]) rfl)
      refine ListK.pick (i := 8) (b := false) (v := .bool true) rfl (by simp [hz_a1]) (by simp [hz_a1]) ?_
      refine ListK.done (hK _ _ ?_)
      clear hK K
      refine wpIn_cond (t := true) (by simp [hz_a1]) ?_
      generalize hA : Act.put _ _ _ = a2
      have hz_a2 : a2.tmps.size = 159 := by rw [← hA]; simp only [size_put, hz_a1]
      have v3 : a2.eval (.tmp 3) = .pointer (some ⟨b3, 0, none⟩) := by rw [← hA]; exact (by simp [u3])
      have hd_a2 : a2.defers = [] := by rw [← hA]; simp only [defers_put, hd_a1]
      clear hA
      refine wpIn_seq (region_p 2 ?_)
      intro K hK
      refine ListK.call (i := 0) (vs := #[]) rfl (enters_of Try.func16 (by kernel_rfl) rfl) (by simp) (((wakes_any W2)).mono ?_)
      rintro _ W3 ⟨rfl, hb_t2⟩
      have hL_t2 := hB1.trans (hb_t2.mono (by have := hB1.size; omega))
      replace hs := (hs.below hb_t2 (Nat.le_refl _)).more hb_t2.size
      replace wb := wb.below hb_t2 wb.lt
      replace hB1 := hL_t2
      replace hlt : b3 < W3.heap.size := wb.lt
      refine ⟨_, rfl, ?_⟩
      refine ListK.assign (i := 1) (v := .bool true) rfl (by simp [hz_a2]) ?_
      refine ListK.done (hK _ _ (wpIn_ret ?_))
      exact hret _ _ (by simp only [defers_put, hd_a2]) (by simp [hz_a2]) hB1
    · skip
      refine wpIn_seq (wpIn_seq (region_p 9 ?_))
      intro K hK
      refine ListK.load (i := 0) (p := ⟨b3, 0, none⟩) (v := .agg #[.int .i64 o, .int .i64 t, .slice A l.length c]) rfl (by simp [u3]) (ld24 ⟨wb.cell 0, wb.cell 1, wb.cell 2⟩) ?_
      refine ListK.call (i := 1) (vs := #[.agg #[.int .i64 o, .int .i64 t, .slice A l.length c]]) rfl (enters_of Try.func41 (by kernel_rfl) rfl) (by simp [hz_a1]) (((hrd)).mono ?_)
      rintro _ W2 ⟨rfl, hb_t1⟩
      clear hrd
      have hL_t1 := hB1.trans (hb_t1.mono (by have := hB1.size; omega))
      replace hs := (hs.below hb_t1 (Nat.le_refl _)).more hb_t1.size
      replace wb := wb.below hb_t1 wb.lt
      replace hB1 := hL_t1
      replace hlt : b3 < W2.heap.size := wb.lt
      refine ⟨_, rfl, ?_⟩
      refine ListK.un (i := 2) (u := .bool true) (v := .bool false) rfl (by simp [hz_a1]) (not4 _ _) ?_
      refine ListK.move (i := 3) (v := .bool false) rfl (by simp [hz_a1]) ?_
      refine ListK.field (i := 4) (u := .pointer (some ⟨b3, 0, none⟩)) (v := .pointer (some ⟨b3, 2, none⟩)) rfl (by simp [u3]) (fa24_2 _) ?_ (hw := wanted_g (e := 28) (b' := false) rfl (by simp [hz_a1]) rfl)
      refine ListK.load (i := 5) (p := ⟨b3, 2, none⟩) (v := .slice A l.length c) rfl (by simp [hz_a1]) (ld22 (wb.cell 2)) ?_ (hw := wanted_g (e := 28) (b' := false) rfl (by simp [hz_a1]) rfl)
      refine ListK.lenW (i := 6) (u := .slice A l.length c) (v := .int .i64 l.length) rfl (by simp [hz_a1]) (ln22 _ _ _ _ _) rfl ?_ (hw := wanted_g (e := 28) (b' := false) rfl (by simp [hz_a1]) rfl)
      refine ListK.bin (i := 7) (u := .int .i64 l.length) (u' := .int .i64 0) (v := .bool false) rfl (by simp [hz_a1]) (by simp) (eql3F (by omega) _) ?_ (hw := wanted_g (e := 28) (b' := false) rfl (by simp [hz_a1]) rfl)
      refine ListK.pick (i := 8) (b := false) (v := .bool false) rfl (by simp [hz_a1]) (by simp [hz_a1]) ?_
      refine ListK.done (hK _ _ ?_)
      clear hK K
      refine wpIn_cond (t := false) (by simp [hz_a1]) (wpIn_skip ?_)
      show (Code.seq _ _).wpIn _ _ _ _ _ _
      generalize hA : Act.put _ _ _ = a2
      have hz_a2 : a2.tmps.size = 159 := by rw [← hA]; simp only [size_put, hz_a1]
      have v1 : a2.eval (.tmp 1) = .int .u8 nk := by rw [← hA]; exact (by simp [u1])
      have v2 : a2.eval (.tmp 2) = .int .u8 nd := by rw [← hA]; exact (by simp [u2])
      have v3 : a2.eval (.tmp 3) = .pointer (some ⟨b3, 0, none⟩) := by rw [← hA]; exact (by simp [u3])
      have hd_a2 : a2.defers = [] := by rw [← hA]; simp only [defers_put, hd_a1]
      clear hA
      obtain ⟨k, hk⟩ : ∃ k, nk % l.length = k := ⟨_, rfl⟩
      have hkl : k < l.length := by
        rw [← hk]
        exact Nat.mod_lt _ (by omega)
      have hk' : (nk : Int) % (l.length : Int) = (k : Int) := by omega
      obtain ⟨on, hon⟩ : ∃ on : Int, (nd : Int) % 101 = on := ⟨_, rfl⟩
      refine wpIn_seq (region_p 11 ?_)
      intro K hK
      refine ListK.move (i := 0) (v := .int .u8 nk) rfl (by simp [v1]) ?_
      refine ListK.conv (i := 1) (u := .int .u8 nk) (v := .int .i64 nk) rfl (by simp [hz_a2]) (cvu8 hnk _) ?_
      refine ListK.field (i := 2) (u := .pointer (some ⟨b3, 0, none⟩)) (v := .pointer (some ⟨b3, 2, none⟩)) rfl (by simp [v3]) (fa24_2 _) ?_
      refine ListK.load (i := 3) (p := ⟨b3, 2, none⟩) (v := .slice A l.length c) rfl (by simp [hz_a2]) (ld22 (wb.cell 2)) ?_
      refine ListK.len (i := 4) (u := .slice A l.length c) (v := .int .i64 l.length) rfl (by simp [hz_a2]) (ln22 _ _ _ _ _) rfl ?_
      refine ListK.bin (i := 5) (u := .int .i64 nk) (u' := .int .i64 l.length) (v := .int .i64 k) rfl (by simp [hz_a2]) (by simp [hz_a2]) (rem3r (by omega) (by omega) hk' _) ?_
      refine ListK.move (i := 6) (v := .int .u8 nd) rfl (by simp [v2]) ?_
      refine ListK.conv (i := 7) (u := .int .u8 nd) (v := .int .i64 nd) rfl (by simp [hz_a2]) (cvu8 hnd _) ?_
      refine ListK.bin (i := 8) (u := .int .i64 nd) (u' := .int .i64 101) (v := .int .i64 on) rfl (by simp [hz_a2]) (by simp) (rem3r (by omega) (by omega) hon _) ?_
      refine ListK.assign (i := 9) (v := .int .i64 k) rfl (by simp [hz_a2]) ?_
      refine ListK.assign (i := 10) (v := .int .i64 on) rfl (by simp [hz_a2]) ?_
      refine ListK.done (hK _ _ ?_)
      clear hK K
      generalize hA : Act.put _ _ _ = a3
      have hz_a3 : a3.tmps.size = 159 := by rw [← hA]; simp only [size_put, hz_a2]
      have x3 : a3.eval (.tmp 3) = .pointer (some ⟨b3, 0, none⟩) := by rw [← hA]; exact (by simp [v3])
      have x7 : a3.eval (.tmp 7) = .int .i64 k := by rw [← hA]; exact (by simp [hz_a2])
      have x8 : a3.eval (.tmp 8) = .int .i64 on := by rw [← hA]; exact (by simp [hz_a2])
      have hd_a3 : a3.defers = [] := by rw [← hA]; simp only [defers_put, hd_a2]
      clear hA
      refine wpIn_seq (region_p 3 ?_)
      intro K hK
      refine ListK.load (i := 0) (p := ⟨b3, 0, none⟩) (v := .agg #[.int .i64 o, .int .i64 t, .slice A l.length c]) rfl (by simp [x3]) (ld24 ⟨wb.cell 0, wb.cell 1, wb.cell 2⟩) ?_
      refine ListK.alloc (i := 1) rfl (al24 W2) ?_
      refine ListK.store (i := 2) (u := .pointer (some ⟨W2.heap.size, 0, none⟩)) (u' := .agg #[.int .i64 o, .int .i64 t, .slice A l.length c]) rfl (by simp [hz_a3]) (by simp [hz_a3]) (st24n W2 o t A l.length c) ?_
      refine ListK.done (hK _ _ ?_)
      clear hK K
      have wx := Whole.new W2 24 #[.int .i64 o, .int .i64 t, .slice A l.length c]
      have hbx : Below W2.heap.size W2 (W2.alloc (.cells #[.int .i64 o, .int .i64 t, .slice A l.length c] 24)) := (Below.refl _ _).alloc (Nat.le_refl _) _
      replace hB1 := hB1.trans (hbx.mono (by have := hB1.size; omega))
      replace wb := wb.below hbx wb.lt
      have hlt : b3 < W2.heap.size := hlt
      generalize W2.heap.size = px at *
      generalize W2.alloc (.cells #[.int .i64 o, .int .i64 t, .slice A l.length c] 24) = W3 at *
      generalize hA : Act.put _ _ _ = a4
      have hz_a4 : a4.tmps.size = 159 := by rw [← hA]; simp only [size_put, hz_a3]
      have y3 : a4.eval (.tmp 3) = .pointer (some ⟨b3, 0, none⟩) := by rw [← hA]; exact (by simp [x3])
      have y7 : a4.eval (.tmp 7) = .int .i64 k := by rw [← hA]; exact (by simp [x7])
      have y8 : a4.eval (.tmp 8) = .int .i64 on := by rw [← hA]; exact (by simp [x8])
      have y9 : a4.eval (.tmp 9) = .pointer (some ⟨px, 0, none⟩) := by rw [← hA]; exact (by simp [hz_a3])
      have hd_a4 : a4.defers = [] := by rw [← hA]; simp only [defers_put, hd_a3]
      clear hA
      replace hs : SalesAt W3 W3.heap.size A l := (hs0.below hB1 (Nat.le_refl _)).more (by have := wb.lt; omega)
      obtain ⟨b, off, rfl⟩ := (sales_addr hs).resolve_left (by rintro rfl; exact hl0 rfl)
      refine wpIn_seq (regionTu5 (wideF_plain _) hz_a4 y3 y7 y9 (wb.cell 2) hs hkl hc hl12 wb.lt wx.lt (wx.cell 2) (wx.frozen 2) ?_)
      intro a5 W5 A2 c2 hb5 ho5 hz_a5 hd5 hr5
      have hd_a5 : a5.defers = [] := hd5.trans hd_a4
      have z3 := (hr5 3 (by omega)).trans y3
      have z7 := (hr5 7 (by omega)).trans y7
      have z8 := (hr5 8 (by omega)).trans y8
      have z9 := (hr5 9 (by omega)).trans y9
      have hB6 : Below b3 W (W5.setCell ⟨px, 2, none⟩ (.slice A2 (turned k l).length c2)) := (hB1.trans (hb5.mono (by have := wb.lt; omega))).setCell (p := ⟨px, 2, none⟩) (by show b3 ≤ px; omega) _
      have wb6 := (wb.below hb5 wb.lt).far (p := ⟨px, 2, none⟩) (by show b3 ≠ px; omega) (.slice A2 (turned k l).length c2)
      have wx6 := (wx.below hb5 wx.lt).set 2 (.slice A2 (turned k l).length c2)
      have ho6 := ho5.kept (grown_set W5 ⟨px, 2, none⟩ (.slice A2 (turned k l).length c2)) (.inr (fun e => by have := (ho5.lt px e).1; have := wx.lt; omega))
      obtain ⟨l2, e2⟩ : ∃ l2, l2 = turned k l := ⟨_, rfl⟩
      rw [← e2] at hB6 wb6 wx6 ho6 ⊢
      obtain ⟨W6, hW6⟩ : ∃ W6, W5.setCell ⟨px, 2, none⟩ (.slice A2 l2.length c2) = W6 := ⟨_, rfl⟩
      rw [hW6] at hB6 wb6 wx6 ho6 ⊢
      have hn1 : TuN W b3 px o t (some ⟨b, off, none⟩) A2 l l2 c c2 W6 := by
        obtain ⟨A2', c2', e5, hx⟩ := sales_of_owns73 ho6
        cases e5
        exact ⟨hB6, wb6, by simpa using wx6, (hs0.below hB6 (Nat.le_refl _)).more (by have := wb6.lt; omega), hx⟩
      clear hB6 wb6 wx6 ho6 ho5 hW6 hb5 hr5 wx wb hs hB1
      refine wpIn_seq (wpIn_seq (region_p 1 ?_))
      intro K hK
      refine ListK.assign (i := 0) (v := .int .i64 0) rfl (by simp) ?_
      refine ListK.done (hK _ _ ?_)
      clear hK K
      refine wpIn_block (wpIn_loop (fun a W' => ∃ i, i ≤ l.length ∧ TuF k on b3 px i a ∧ TuN W b3 px o t (some ⟨b, off, none⟩) A2 l l2 c c2 W') (fun a _ => l.length - (intOf (a.eval (.tmp 10))).toNat)
        ⟨0, Nat.zero_le _, ⟨(by simp only [size_put, hz_a5]), (by simp only [defers_put, hd_a5]), (by simp [z3]), (by simp [z7]), (by simp [z8]), (by simp [z9]), (by simp [hz_a5])⟩, hn1⟩ ?_)
      rintro d1 W10 ⟨i, hi, hf, hm⟩
      obtain ⟨hz_d1, hd_d1, u3, u7, u8, u9, u10⟩ := hf
      have wb := hm.2.1
      refine wpIn_seq (wpIn_seq (region_p 5 ?_))
      intro K hK
      refine ListK.move (i := 0) (v := .int .i64 i) rfl (by simp [u10]) ?_
      refine ListK.field (i := 1) (u := .pointer (some ⟨b3, 0, none⟩)) (v := .pointer (some ⟨b3, 2, none⟩)) rfl (by simp [u3]) (fa24_2 _) ?_
      refine ListK.load (i := 2) (p := ⟨b3, 2, none⟩) (v := .slice (some ⟨b, off, none⟩) l.length c) rfl (by simp [hz_d1]) (ld22 (wb.cell 2)) ?_
      refine ListK.len (i := 3) (u := .slice (some ⟨b, off, none⟩) l.length c) (v := .int .i64 l.length) rfl (by simp [hz_d1]) (ln22 _ _ _ _ _) rfl ?_
      refine ListK.bin (i := 4) (u := .int .i64 i) (u' := .int .i64 (l.length : Int)) (v := .bool (decide (i < (l.length : Int)))) rfl (by simp [hz_d1]) (by simp [hz_d1]) (lss3 _) ?_
      refine ListK.done (hK _ _ ?_)
      clear hK K
      by_cases hil : i < l.length
      · refine wpIn_cond (t := true) (by simp [hz_d1]; omega) (wpIn_skip ?_)
        show (Code.seq _ _).wpIn _ _ _ _ _ _
        refine wpIn_seq (wpIn_block ?_)
        refine tu9 (on := on) (px := px) hil hl12 hkl hv e2 hb3 ⟨(by simp only [size_put, hz_d1]), (by simp only [defers_put, hd_d1]), (by simp [u3]), (by simp [u7]), (by simp [u8]), (by simp [u9]), (by simp [u10])⟩ hm (fun b1 W11 f1 m1 => ?_)
        refine tu8 hil hl12 f1 fun b2 f2 => ⟨⟨i + 1, by omega, f2, m1⟩, ?_⟩
        rw [f2.2.2.2.2.2.2, u10]
        simp only [intOf]
        omega
      · obtain rfl : i = l.length := by omega
        refine wpIn_cond (t := false) (by simp [hz_d1]) (wpIn_exit ?_)
        show tu_d.wpIn _ _ _ _ _ _
        exact tu13 (on := on) (px := px) (i := l.length) hl12 hkl hv e2 (by omega) hb3 ⟨(by simp only [size_put, hz_d1]), (by simp only [defers_put, hd_d1]), (by simp [u3]), (by simp [u7]), (by simp [u8]), (by simp [u9]), (by simp [u10])⟩ hm hret
  · have hrdy : (decide (l.length ≤ 12) && decide (fault o t l = 0)) = false := by
      rw [Bool.and_eq_false_iff, decide_eq_false_iff_not, decide_eq_false_iff_not]
      exact Decidable.not_and_iff_or_not.1 hready
    rw [hrdy] at hrd
    refine wpIn_seq (wpIn_seq (region_p 9 ?_))
    intro K hK
    refine ListK.load (i := 0) (p := ⟨b3, 0, none⟩) (v := .agg #[.int .i64 o, .int .i64 t, .slice A l.length c]) rfl (by simp [u3]) (ld24 ⟨wb.cell 0, wb.cell 1, wb.cell 2⟩) ?_
    refine ListK.call (i := 1) (vs := #[.agg #[.int .i64 o, .int .i64 t, .slice A l.length c]]) rfl (enters_of Try.func41 (by kernel_rfl) rfl) (by simp [hz_a1]) (((hrd)).mono ?_)
    rintro _ W2 ⟨rfl, hb_t1⟩
    clear hrd
    have hL_t1 := hB1.trans (hb_t1.mono (by have := hB1.size; omega))
    replace hs := (hs.below hb_t1 (Nat.le_refl _)).more hb_t1.size
    replace wb := wb.below hb_t1 wb.lt
    replace hB1 := hL_t1
    replace hlt : b3 < W2.heap.size := wb.lt
    refine ⟨_, rfl, ?_⟩
    refine ListK.un (i := 2) (u := .bool false) (v := .bool true) rfl (by simp [hz_a1]) (not4 _ _) ?_
    refine ListK.move (i := 3) (v := .bool true) rfl (by simp [hz_a1]) ?_
    refine ListK.passG (i := 4) (e := 28) (b' := true) rfl rfl (by simp [hz_a1]) rfl ?_
    refine ListK.passG (i := 5) (e := 28) (b' := true) rfl rfl (by simp [hz_a1]) rfl ?_
    refine ListK.passG (i := 6) (e := 28) (b' := true) rfl rfl (by simp [hz_a1]) rfl ?_
    refine ListK.passG (i := 7) (e := 28) (b' := true) rfl rfl (by simp [hz_a1]) rfl ?_
    refine ListK.pick (i := 8) (b := true) (v := .bool true) rfl (by simp [hz_a1]) (by simp) ?_
    refine ListK.done (hK _ _ ?_)
    clear hK K
    refine wpIn_cond (t := true) (by simp [hz_a1]) ?_
    generalize hA : Act.put _ _ _ = a2
    have hz_a2 : a2.tmps.size = 159 := by rw [← hA]; simp only [size_put, hz_a1]
    have v3 : a2.eval (.tmp 3) = .pointer (some ⟨b3, 0, none⟩) := by rw [← hA]; exact (by simp [u3])
    have hd_a2 : a2.defers = [] := by rw [← hA]; simp only [defers_put, hd_a1]
    clear hA
    refine wpIn_seq (region_p 2 ?_)
    intro K hK
    refine ListK.call (i := 0) (vs := #[]) rfl (enters_of Try.func16 (by kernel_rfl) rfl) (by simp) (((wakes_any W2)).mono ?_)
    rintro _ W3 ⟨rfl, hb_t2⟩
    have hL_t2 := hB1.trans (hb_t2.mono (by have := hB1.size; omega))
    replace hs := (hs.below hb_t2 (Nat.le_refl _)).more hb_t2.size
    replace wb := wb.below hb_t2 wb.lt
    replace hB1 := hL_t2
    replace hlt : b3 < W3.heap.size := wb.lt
    refine ⟨_, rfl, ?_⟩
    refine ListK.assign (i := 1) (v := .bool true) rfl (by simp [hz_a2]) ?_
    refine ListK.done (hK _ _ (wpIn_ret ?_))
    exact hret _ _ (by simp only [defers_put, hd_a2]) (by simp [hz_a2]) hB1
end Go.Proofs.Ytfcnombmphophaa
